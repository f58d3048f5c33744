/- A map whose keys are three bytes and whose elements are whole numbers: what it holds, as a function. -/
import Derived.Test.YtgfjbbjdkmgdjaaWords
import Derived.Maps.Own
import Derived.Maps.OwnOps
import Derived.Maps.Views
import Derived.DeepKeys4
namespace Go.Proofs.Ytgfjbbjdkmgdjaa
open Go.RowKit
abbrev T3 := Nat × Nat × Nat
def K3 (t : T3) : Value := .agg #[.int .u8 (t.1 : Int), .int .u8 (t.2.1 : Int), .int .u8 (t.2.2 : Int)]
def okT (t : T3) : Prop := t.1 < 256 ∧ t.2.1 < 256 ∧ t.2.2 < 256
theorem keyed40 : Maps.Keyed Try.prog 40 :=
  Maps.Keyed.of_law (deep_law_laid (P := Try.prog) (by kernel_rfl) (m := 2) (by omega) (of_decide_eq_true (by kernel_rfl)) (by kernel_rfl) (by rw [Try.underlying40]))
theorem byte_wf (x : Nat) (h : x < 256) : (Lit.int .u8 (x : Int)).wf = true := by
  simp [Lit.wf, IntKind.min, IntKind.max, IntKind.signed, IntKind.bits]
  omega
theorem key_some (t : T3) (h : okT t) : ∃ l, keyOf Try.prog 40 (K3 t) = some l := by
  obtain ⟨hx, hy, hz⟩ := h
  have hk : Try.prog.keyType 40 = true := by kernel_rfl
  have hc : Try.prog.cellsOf 40 = 3 := by kernel_rfl
  have hc5 : Try.prog.cellsOf 5 = 1 := by kernel_rfl
  have hf : (K3 t).formed Try.prog 40 = true := by
    unfold K3 Value.formed
    simp [Try.underlying40, hc]
  obtain ⟨d, hd⟩ : ∃ d, Try.prog.types.size + 1 = d + 1 + 1 := ⟨Try.prog.types.size - 1, by have : 1 ≤ Try.prog.types.size := of_decide_eq_true (by kernel_rfl); omega⟩
  have h1 : ∀ x : Nat, x < 256 → Try.prog.keyLits (d + 1) 5 [.int .u8 (x : Int)] = some [.int .u8 (x : Int)] := fun x hx => by
    simp only [Program.keyLits, Try.underlying5]
    rw [if_pos ⟨trivial, byte_wf x hx⟩]
  have h3 : Try.prog.keyLits (Try.prog.types.size + 1) 40 (K3 t).cells.toList = some [.int .u8 (t.1 : Int), .int .u8 (t.2.1 : Int), .int .u8 (t.2.2 : Int)] := by
    rw [hd]
    conv => lhs; unfold Program.keyLits
    simp only [Try.underlying40, hc, hc5, K3, Value.cells]
    rw [if_pos (by rfl), show List.range 3 = [0, 1, 2] from rfl]
    simp [List.mapM_cons, h1 _ hx, h1 _ hy, h1 _ hz]
  unfold keyOf
  rw [Try.underlying40]
  simp only [hk, hf, Bool.and_self, if_true, h3, Option.map_some]
  exact ⟨_, rfl⟩
/-- the datum of a key -/
noncomputable def kl (t : T3) : Lit := (keyOf Try.prog 40 (K3 t)).getD (.bool false)
theorem key_is (t : T3) (h : okT t) : keyOf Try.prog 40 (K3 t) = some (kl t) := by
  obtain ⟨l, hl⟩ := key_some t h
  unfold kl
  rw [hl]
  rfl
theorem kl_ne {t u : T3} (ht : okT t) (hu : okT u) (h : t ≠ u) : kl t ≠ kl u := by
  intro he
  have h2 := keyed40.inj (key_is t ht) (he ▸ key_is u hu)
  apply h
  obtain ⟨a, b, c⟩ := t
  obtain ⟨a', b', c'⟩ := u
  simp only [K3, Value.agg.injEq, Array.mk.injEq, List.cons.injEq, Value.int.injEq, true_and, and_true] at h2
  obtain ⟨x1, x2, x3⟩ := h2
  simp only [Prod.mk.injEq]
  omega
theorem zero3 (w : World) : (zeroValue 3).run Try.prog w = .ok (.int .i64 0) w := by kernel_rfl
/-- block g is a map of at most n entries that holds M -/
def TMap (w : World) (g n : Nat) (M : T3 → Nat) : Prop :=
  ∃ D : DataW Unit, w.ownsMap Try.prog 40 (plainElem Try.prog 3) g n D ∧ Maps.IsMap D ∧ ∀ t, okT t → D.atKey (kl t) (.lit (.int .i64 0)) = .lit (.int .i64 ((M t : Nat) : Int))
section
variable {w w' : World} {g n : Nat} {M : T3 → Nat}
theorem TMap.made (w : World) : TMap (w.alloc (.map #[] 0)) w.heap.size 0 (fun _ => 0) :=
  ⟨.map [], World.ownsMap_made _ _ _ _, Maps.isMap_empty, fun _ _ => rfl⟩
theorem TMap.lt (h : TMap w g n M) : g < w.heap.size := by
  obtain ⟨D, h, _⟩ := h
  exact h.lt
theorem TMap.kept {row : Option Nat} (h : TMap w g n M) (hg : w.grownBy w' row) (hne : some g ≠ row) : TMap w' g n M := by
  obtain ⟨D, h, r⟩ := h
  exact ⟨D, h.kept hg hne, r⟩
theorem TMap.block (h : TMap w g n M) (hb : w'.heap[g]? = w.heap[g]?) : TMap w' g n M := by
  obtain ⟨D, ⟨es, c, h1, r1⟩, r⟩ := h
  exact ⟨D, ⟨es, c, hb.trans h1, r1⟩, r⟩
theorem TMap.drew (h : TMap w g n M) : TMap w.drew g n M := h
theorem TMap.drewN (h : TMap w g n M) (k : Nat) : TMap (w.drewN k) g n M := h
theorem TMap.alloc (h : TMap w g n M) (o : Obj) : TMap (w.alloc o) g n M := h.block (Below.heap_alloc w o g h.lt)
theorem TMap.far (h : TMap w g n M) {p : Addr} (hp : g ≠ p.block) (u : Value) : TMap (w.setCell p u) g n M := h.block (Below.heap_setCell w p u g hp)
theorem TMap.below {B : Nat} (h : TMap w g n M) (hb : Below B w w') (hg : g < B) : TMap w' g n M := h.block (hb.block g hg)
theorem TMap.look (h : TMap w g n M) (t : T3) (ht : okT t) : (Instr.lookup 38 (.map (some g)) (K3 t) false).run Try.prog w = .ok (.int .i64 ((M t : Nat) : Int)) w := by
  obtain ⟨D, hown, _, hat⟩ := h
  obtain ⟨c, hrun, hc, _⟩ := hown.lookup_int keyed40 Try.underlying38 Try.underlying3 (zero3 w) (key_is t ht)
  rw [hat t ht] at hc
  injection hc with hc
  injection hc with _ hc
  rw [hrun, hc]
theorem TMap.put (h : TMap w g n M) (hn : n < maxLen) (t : T3) (ht : okT t) (v : Nat) (hv : v ≤ 9223372036854775807) :
    ∃ w', (Instr.mapUpdate 38 (.map (some g)) (K3 t) (.int .i64 (v : Int))).run Try.prog w = .ok () w' ∧ TMap w' g (n + 1) (fun u => if t = u then v else M u) ∧ w.grownBy w' (some g) := by
  obtain ⟨D, hown, hm, hat⟩ := h
  have hwf : (Lit.int .i64 (v : Int)).wf = true := by
    simp [Lit.wf, IntKind.min, IntKind.max, IntKind.signed, IntKind.bits]
    omega
  obtain ⟨w', hrun, hown', hg⟩ := hown.update keyed40 Try.underlying38 hn (key_is t ht) (plainElem_int Try.underlying3 hwf)
  refine ⟨w', hrun, ⟨_, hown', hm.put _ _, fun u hu => ?_⟩, hg⟩
  by_cases e : t = u
  · subst e
    show _ = DataW.lit (Lit.int .i64 ((if t = t then v else M t : Nat) : Int))
    rw [if_pos rfl]
    exact Maps.atKey_put_same hm (keyed40.key (key_is t ht)) _ _
  · show _ = DataW.lit (Lit.int .i64 ((if t = u then v else M u : Nat) : Int))
    rw [if_neg e, Maps.atKey_put_other (kl_ne hu ht (fun h => e h.symm))]
    exact hat u hu
theorem TMap.cong {M' : T3 → Nat} (h : TMap w g n M) (he : ∀ t, M' t = M t) : TMap w g n M' := by
  obtain ⟨D, h1, h2, h3⟩ := h
  exact ⟨D, h1, h2, fun t ht => by rw [he]; exact h3 t ht⟩
theorem TMap.ne {t : TypeId} {cs : Array Value} {g' : Nat} (h : TMap w g n M) (hb : Blk w g' t cs) : g' ≠ g := by
  rintro rfl
  obtain ⟨D, ⟨es, cl, hm, _⟩, _⟩ := h
  unfold Blk at hb
  rw [hm] at hb
  cases hb
theorem TMap.more {n' : Nat} (h : TMap w g n M) (hn : n ≤ n') : TMap w g n' M := by
  obtain ⟨D, h1, h2, h3⟩ := h
  exact ⟨D, h1.mono hn, h2, h3⟩
end
end Go.Proofs.Ytgfjbbjdkmgdjaa
