/- A range over a function whose iterator and whose body write: the law in terms of assertions on blocks that are apart. -/
import Derived.Test.YtpgiljjjpijepaaLBase
import Derived.RangeFuncNested
import Derived.RangeFuncBound
import Derived.RangeFuncCalls
import Derived.RangeFuncLeaves
namespace Go.Proofs.Ytpgiljjjpijepaa
open Go.RowKit
/-- a block that holds an object -/
def objA (l : Nat) (o : Obj) : Asn :=
  ⟨fun F w => w.heap[l]? = some o ∧ ∀ k, F k ↔ k = l, fun h hk => ⟨(hk _ ((h.2 _).2 rfl)).trans h.1, h.2⟩, fun {F w} h k hk => by
    have hl := (Array.getElem?_eq_some_iff.1 h.1).1
    exact (h.2 k).1 hk ▸ hl⟩
section
variable {w0 w w' : World} {L M : List Asn}
theorem Sep.obj {l : Nat} {o : Obj} (h : Sep w0 w L) (i : Nat) (hi : L[i]? = some (objA l o)) : w.heap[l]? = some o := by
  obtain ⟨F, hA, _⟩ := h.get i hi
  exact hA.1
theorem Sep.newObj (h : Sep w0 w L) (o : Obj) : Sep w0 (w.alloc o) (objA w.heap.size o :: L) :=
  (h.growMore ((Below.refl _ _).alloc (Nat.le_refl _) _) (Bs := [objA w.heap.size o]) ⟨fun k => k = w.heap.size, ⟨World.alloc_heap_new w o, fun _ => Iff.rfl⟩, fun k hk => by omega, trivial⟩).perm (List.perm_append_singleton _ _)
theorem Only.putObj {F : Nat → Prop} {l : Nat} (hl : F l) (o : Obj) : Only F w (w.putObj l o) :=
  ⟨rfl, rfl, rfl, by simp, fun k hk hn => World.putObj_heap_other (fun e => hn (e ▸ hl))⟩
theorem Sep.putObj {l : Nat} {o o' : Obj} (h : Sep w0 w L) (i : Nat) (hi : L[i]? = some (objA l o)) : Sep w0 (w.putObj l o') (L.set i (objA l o')) := by
  obtain ⟨F, hA, hF, hup⟩ := h.step i hi
  exact hup _ _ F (Only.putObj ((hA.2 l).2 rfl) o') ⟨World.putObj_heap_same (Array.getElem?_eq_some_iff.1 hA.1).1, hA.2⟩ fun k hk => .inl hk
end
variable {F : Fence} {n : Nat} {P : Program}
/-- the law: T: what lies in memory between two rounds; x comes; f: what a round makes of it -/
theorem wpIn_rangeFunc_sep {T α : Type} {g : Operand} {ps : Array Tmp} {assign body : Code} {Q : Exit → Act → World → Prop} {a : Act} {w0 w : World}
    (hro : F.round = none) (h1 : 1 ≤ n) {gf : Nat} {lb : Array Value} (hg : a.eval g = .func (.func gf) #[] lb) (hFg : F.fn gf) (eg : ∀ args w, (callFunc gf args).run P w = .ok (.enter gf args) w)
    (encs : α → Array Value) (hps : ∀ x, (encs x).size = ps.size) (LA : T → List Asn) (Pre : T → α → Prop) (f : T → α → T) (t0 t1 : T) (a₁ : α → Act) (hS : Sep w0 w (LA t0))
    (hassign : ∀ (l : Nat) (x : α) (W : World) (K : Act → World → Prop), K (a₁ x) W →
      assign.wpIn (F.inRound l) (n - 1 - 1) P (Exit.then K (fun _ _ _ => False)) { tmps := (ps.zip (encs x)).foldl (fun t (p, v) => t.setIfInBounds p v) a.tmps, defers := [] } W)
    (hbody : ∀ (l D : Nat) (o : Obj) (t : T) (x : α) (W : World), Sep w0 W (objA l o :: objA D (.deferred (some [])) :: LA t) → Pre t x →
      body.wpIn (F.inRound l) (n - 1 - 1) P (fun e _ W' => e = .normal ∧ Sep w0 W' (objA l o :: objA D (.deferred (some [])) :: LA (f t x))) (a₁ x) W)
    (hit : ∀ (l D : Nat) (o : Obj) (W1 : World), Sep w0 W1 (objA l o :: objA D (.deferred (some [])) :: LA t0) →
      (∀ t x W, Sep w0 W (objA l o :: objA D (.deferred (some [])) :: LA t) → Pre t x → YieldAt F (n - 1 - 1) P l (encs x) W fun e W' => e = .returned (.bool true) ∧ Sep w0 W' (objA l o :: objA D (.deferred (some [])) :: LA (f t x))) →
      CallsIn F (n - 1) P gf (#[.func (.yield l) #[] #[]] ++ lb) W1 fun e W' => (∃ v, e = .returned v) ∧ Sep w0 W' (objA l o :: objA D (.deferred (some [])) :: LA t1))
    (hdone : ∀ (l D : Nat) (o : Obj) (W : World), Sep w0 W (objA l o :: objA D (.deferred (some [])) :: LA t1) → Q .normal { a with defers := { target := .collected D, args := #[] } :: a.defers } W) :
    (Code.rangeFunc g ps assign body).wpIn F n P Q a w := by
  refine wpIn_rangeFunc ?_
  intro fn hfn
  rw [hro]
  obtain ⟨rec, hrec⟩ : ∃ rec : LoopState → Option Code → Loop, rec = fun st pe => { state := st, pending := pe, fn, tmps := a.tmps, params := ps, assign, body, defers := w.heap.size } := ⟨_, rfl⟩
  have S1 := (hS.newObj (.deferred (some []))).newObj (.loop (rec .ready none))
  rw [World.size_alloc] at S1
  obtain ⟨W1, hW1⟩ : ∃ W1, (w.alloc (.deferred (some []))).alloc (.loop (rec .ready none)) = W1 := ⟨_, rfl⟩
  rw [hW1] at S1
  refine ⟨w.heap.size + 1, [{ target := .collected w.heap.size, args := #[] }], W1, { target := .fn (.func gf) lb, args := #[.func (.yield (w.heap.size + 1)) #[] #[]] }, W1, gf,
    #[.func (.yield (w.heap.size + 1)) #[] #[]] ++ lb, W1, ?_, ?_, ?_, ?_, fun _ => h1, ?_⟩
  · rw [← hW1, hrec]; exact run_enterLoop_outer _ _ _ _ _
  · simp only [resolve, hg]
    simp [go_sem]
  · intro f' hf'; simp [Target.leads] at hf'; subst hf'; exact hFg
  · simp [invoke, go_sem, eg]
  · refine (hit (w.heap.size + 1) w.heap.size (.loop (rec .ready none)) W1 S1 ?_).mono ?_
    · intro t x W hW hpre
      have hl := hW.obj 0 rfl
      have hy := run_yield (P := P) (args := encs x) hl (by rw [hrec]; exact hps x)
      rw [hrec] at hy
      refine ⟨fn, _, assign, body, hy, roundIn_of_wpIn hfn (hassign _ x W _ ⟨_, run_beginRound hl (by rw [hrec]), ?_⟩)⟩
      have hW2 := hW.putObj (o' := .loop { rec .ready none with state := .busy }) 0 rfl
      refine wpIn_mono (hbody _ _ _ t x _ hW2 hpre) ?_
      rintro e a3 W3 ⟨rfl, hW3⟩
      have hr := run_endRound (P := P) none (hW3.obj 0 rfl)
      have hW4 := hW3.putObj (o' := .loop (rec .ready none)) 0 rfl
      refine ⟨_, _, hr, rfl, ?_⟩
      have he : ({ ({ rec .ready none with state := .busy } : Loop) with state := if (none : Option Code).isNone then .ready else .done, pending := none } : Loop) = rec .ready none := by rw [hrec]; rfl
      rw [he]
      exact hW4
    · rintro e W2 ⟨⟨v, rfl⟩, hW2⟩
      have hl := hW2.obj 0 rfl
      have := run_endLoop (P := P) hl (by rw [hrec]; simp)
      rw [hrec] at this
      exact ⟨none, _, this, hdone _ _ _ _ (hW2.putObj 0 rfl)⟩
end Go.Proofs.Ytpgiljjjpijepaa
