/- The walk of Match's first closure: it notes a place. -/
import Derived.Test.YtgfjbbjdkmgdjaaTMap
import Derived.Test.YtgfjbbjdkmgdjaaMatchPure
import Derived.LoopTactic
import Derived.RegionTactic
import Derived.Deep.RegionHeld3
import Derived.Deep.DeepCutAuto
import Derived.Outline
import Derived.IntWalk
namespace Go.Proofs.Ytgfjbbjdkmgdjaa
open Go.RowKit Go.Proofs.Ytgfjbbjdkmgdjaa.Lz
theorem at_get (l : List Nat) (i : Nat) (h : i < l.length) : at_ l i = l[i] := by
  unfold at_
  rw [List.getD_eq_getElem?_getD, List.getElem?_eq_getElem h, Option.getD_some]
/-- the places ahead, as far as they are noted -/
def ahd (l : List Nat) (n a : Nat) : Array Value := ((List.range n).map fun j => Value.int .i64 ((if j < a ∧ j + 3 ≤ n then lastF l j (trip l j) else 0 : Nat) : Int)).toArray
theorem ahd_size (l : List Nat) (n a : Nat) : (ahd l n a).size = n := by simp [ahd]
theorem ahd_get (l : List Nat) (n a j : Nat) (h : j < n) : (ahd l n a)[j]? = some (.int .i64 ((if j < a ∧ j + 3 ≤ n then lastF l j (trip l j) else 0 : Nat) : Int)) := by simp [ahd, h]
theorem ahd_set (l : List Nat) (n i : Nat) (h : i + 3 ≤ n) : (ahd l n i).setIfInBounds i (.int .i64 ((lastF l i (trip l i) : Nat) : Int)) = ahd l n (i + 1) := by
  apply Array.ext
  · simp [ahd_size]
  · intro j h1 h2
    have h2' : j < n := by rw [ahd_size] at h2; exact h2
    apply Option.some.inj
    rw [← Array.getElem?_eq_getElem, ← Array.getElem?_eq_getElem, Array.getElem?_setIfInBounds]
    by_cases e : i = j
    · subst e; rw [if_pos rfl, if_pos (by rw [ahd_size]; exact h2'), ahd_get _ _ _ _ h2', if_pos ⟨by omega, h⟩]
    · rw [if_neg e, ahd_get _ _ _ _ h2', ahd_get _ _ _ _ h2']
      have : (j < i + 1 ∧ j + 3 ≤ n) ↔ (j < i ∧ j + 3 ≤ n) := by omega
      simp only [this]
theorem ahd_skip (l : List Nat) (n i : Nat) (h : ¬ i + 3 ≤ n) : ahd l n i = ahd l n (i + 1) := by
  unfold ahd
  congr 1
  apply List.map_congr_left
  intro j _
  have : (j < i + 1 ∧ j + 3 ≤ n) ↔ (j < i ∧ j + 3 ≤ n) := by omega
  simp only [this]
section
variable {ops : Array Oper} {o : Oper} {a : Act} {K : Act → World → Prop} {Q : Exit → Act → World → Prop} {E : Prop} {w : World}
theorem step_put (hgd : o.guard = none) (m x v : Operand) (ho : o.op = .mapUpdate 38 m x v) (g k : Nat) (M : T3 → Nat) (hm : a.eval m = .map (some g)) (t : T3) (ht : okT t) (hx : a.eval x = K3 t) (z : Nat) (hz : z ≤ 9223372036854775807)
    (hv : a.eval v = .int .i64 (z : Int)) (h : TMap w g k M) (hk : k < maxLen) (hK : ∀ w', TMap w' g (k + 1) (fun u => if t = u then z else M u) → w.grownBy w' (some g) → K (a.put o.dst undef) w') :
    if Region.wanted o (yielded ops a.tmps) = true then Oper.wp Try.prog o a w K Q else E := by
  have hw : Region.wanted o (yielded ops a.tmps) = true := by simp [Region.wanted, hgd]
  rw [if_pos hw]
  obtain ⟨w', hrun, h1, h2⟩ := h.put hk t ht z hz
  unfold Oper.wp
  simp [execOp, ho, hm, hx, hv, hrun, Result.andThen]
  exact hK w' h1 h2
end
theorem run_arrayAt (w : World) (a : Option Addr) (c : Nat) : (Instr.arrayAt 40 (.slice a 3 c)).run Try.prog w = .ok (.pointer a) w := by
  unfold Instr.arrayAt
  simp [run_underlying Try.underlying40]
section
variable {ops : Array Oper} {o : Oper} {a : Act} {K : Act → World → Prop} {Q : Exit → Act → World → Prop} {E : Prop} {w : World}
theorem step_look (hgd : o.guard = none) (m x : Operand) (ho : o.op = .lookup 38 m x false) (g k : Nat) (M : T3 → Nat) (hm : a.eval m = .map (some g)) (t : T3) (ht : okT t) (hx : a.eval x = K3 t)
    (h : TMap w g k M) (hK : K (a.put o.dst (.int .i64 ((M t : Nat) : Int))) w) :
    if Region.wanted o (yielded ops a.tmps) = true then Oper.wp Try.prog o a w K Q else E := by
  have hw : Region.wanted o (yielded ops a.tmps) = true := by simp [Region.wanted, hgd]
  rw [if_pos hw]
  unfold Oper.wp
  simp [execOp, ho, hm, hx, h.look t ht, Result.andThen]
  exact hK
end
theorem key3 (x y z : Nat) : Value.agg #[.int .u8 (x : Int), .int .u8 (y : Int), .int .u8 (z : Int)] = K3 (x, y, z) := rfl
set_option maxRecDepth 100000 in
set_option maxHeartbeats 1000000 in
theorem note_yes (b o n c : Nat) (l : List Nat) (i : Nat) (g1 g4 g5 gm gs km : Nat) (w : World) (hr : Reads w w.heap.size 1 (some ⟨b, o, none⟩) n (l.map encB)) (hl : ∀ c ∈ l, c < 256) (hi : i + 3 ≤ n) (hc : n ≤ c) (hn : n ≤ 140737488351232)
    (h1 : Blk w g1 22 #[.slice (some ⟨b, o, none⟩) n c]) (h4 : Blk w g4 38 #[.map (some gm)]) (h5 : Blk w g5 39 #[.slice (some ⟨gs, 0, none⟩) n n]) (hM : TMap w gm km (lastF l i)) (hs : Blk w gs 3 (ahd l n i)) (hkm : km < maxLen) :
    Calls Try.prog 15 #[.int .i64 (i : Int), .pointer (some ⟨g1, 0, none⟩), .pointer (some ⟨g4, 0, none⟩), .pointer (some ⟨g5, 0, none⟩)] w fun e w' =>
      e = .returned (.tuple #[]) ∧ Blk w' gs 3 (ahd l n (i + 1)) ∧ TMap w' gm (km + 1) (lastF l (i + 1)) ∧ (∀ B, B ≤ gs → B ≤ gm → Below B w w') ∧ ∀ k, k < w.heap.size → k ≠ gs → k ≠ gm → w'.heap[k]? = w.heap[k]? := by
  have hlen := hr.len
  have q0 := hr.byte (k := i) (by omega)
  obtain ⟨_, _, e0, _, hk0, c0⟩ := q0
  obtain ⟨_, _, e1, _, hk1, c1⟩ := hr.byte (k := i + 1) (by omega)
  obtain ⟨_, _, e2, _, hk2, c2⟩ := hr.byte (k := i + 2) (by omega)
  injection e0 with e0; injection e0 with ea0 eb0; subst ea0; subst eb0
  injection e1 with e1; injection e1 with ea1 eb1; subst ea1; subst eb1
  injection e2 with e2; injection e2 with ea2 eb2; subst ea2; subst eb2
  have t0 := at_get l i hk0
  have t1 := at_get l (i + 1) hk1
  have t2 := at_get l (i + 2) hk2
  have b0 := hl _ (List.getElem_mem hk0)
  have b1 := hl _ (List.getElem_mem hk1)
  have b2 := hl _ (List.getElem_mem hk2)
  rw [← t0] at c0 b0
  rw [← t1] at c1 b1
  rw [← t2] at c2 b2
  rw [← Nat.add_assoc] at c1 c2
  have ht : okT (trip l i) := ⟨b0, b1, b2⟩
  have Ht := Lib.hid ht
  have x1 := h1.one
  have x4 := h4.one
  have x5 := h5.one
  have hti : (i : Int).toNat = i := rfl
  have i0 : (0 : Int) ≤ (i : Int) := by omega
  have i1 : (i : Int) + 3 ≤ (n : Int) := by omega
  have i2 : (i : Int) + 3 ≤ (c : Int) := by omega
  have haa := fun (w : World) => run_arrayAt w (some ⟨b, o + i, none⟩) (c - i)
  clear t0 t1 t2 hlen ht
  go_enter Try.func15, Try.ntmps15
  go_wp2_with fail
  obtain ⟨W, hW, kb, hB, hz⟩ := boxes1 w (K3 (trip l i)).cells 40
  have hMW : TMap W gm km (lastF l i) := hM.below hB hM.lt
  have h4W := h4.below hB h4.lt
  have h5W := h5.below hB h5.lt
  have hsW := hs.below hB hs.lt
  have ne1 := hs.ne_ h4 (by decide)
  have ne2 := hs.ne_ h5 (by decide)
  have ne3 : gs ≠ gm := hM.ne hs
  have ne4 : gs ≠ w.heap.size := Nat.ne_of_lt hs.lt
  show Code.wp _ _ _ _ (w.alloc (.cells (K3 (trip l i)).cells 40))
  rw [hW]
  have y4 := h4W.one
  have y5 := h5W.one
  have k0 : W.cell? ⟨w.heap.size, 0, none⟩ = some (.int .u8 ((at_ l i : Nat) : Int)) := kb.at_ 0 rfl
  have k1 : W.cell? ⟨w.heap.size, 1, none⟩ = some (.int .u8 ((at_ l (i + 1) : Nat) : Int)) := kb.at_ 1 rfl
  have k2 : W.cell? ⟨w.heap.size, 2, none⟩ = some (.int .u8 ((at_ l (i + 2) : Nat) : Int)) := kb.at_ 2 rfl
  have ys := hsW.at_ i (ahd_get l n i i (by omega))
  have fs := hsW.frozen i
  have i3 : (i : Int) < (n : Int) := by omega
  have s1 : IntKind.i64.wrap ((i : Int) + 1) = (i : Int) + 1 := IntWalk.i64_in _ (by omega)
  clear hW
  obtain ⟨z, hz0⟩ : ∃ z, lastF l i (trip l i) = z := ⟨_, rfl⟩
  have hlk : (Instr.lookup 38 (.map (some gm)) (.agg #[.int .u8 ((at_ l i : Nat) : Int), .int .u8 ((at_ l (i + 1) : Nat) : Int), .int .u8 ((at_ l (i + 2) : Nat) : Int)]) false).run Try.prog W.drew = .ok (.int .i64 (z : Int)) W.drew := by
    have := hMW.drew.look (trip l i) Ht.out
    rw [hz0] at this
    exact this
  obtain ⟨w2, hup0, hM2, hg2⟩ := (hMW.drew.far (p := ⟨gs, i, none⟩) ne3.symm (.int .i64 (z : Int))).put hkm (trip l i) Ht.out (i + 1) (by omega)
  have hup : (Instr.mapUpdate 38 (.map (some gm)) (.agg #[.int .u8 ((at_ l i : Nat) : Int), .int .u8 ((at_ l (i + 1) : Nat) : Int), .int .u8 ((at_ l (i + 2) : Nat) : Int)]) (.int .i64 ((i : Int) + 1))).run Try.prog (W.setCell ⟨gs, i, none⟩ (.int .i64 (z : Int))).drew = .ok () w2 := hup0
  clear hup0
  have v5 := (((h5W.far (p := ⟨gs, i, none⟩) ne2.symm (.int .i64 (z : Int))).drew).grown hg2 (fun e => hM.ne h5 (by injection e))).one
  have v4 := (((h4W.far (p := ⟨gs, i, none⟩) ne1.symm (.int .i64 (z : Int))).drew).grown hg2 (fun e => hM.ne h4 (by injection e))).one
  have vk := ((kb.far (p := ⟨gs, i, none⟩) ne4.symm (.int .i64 (z : Int))).drew).grown hg2 (fun e => by injection e with e; have := hM.lt; omega)
  have m0 : w2.cell? ⟨w.heap.size, 0, none⟩ = some (.int .u8 ((at_ l i : Nat) : Int)) := vk.at_ 0 rfl
  have m1 : w2.cell? ⟨w.heap.size, 1, none⟩ = some (.int .u8 ((at_ l (i + 1) : Nat) : Int)) := vk.at_ 1 rfl
  have m2 : w2.cell? ⟨w.heap.size, 2, none⟩ = some (.int .u8 ((at_ l (i + 2) : Nat) : Int)) := vk.at_ 2 rfl
  have Hz := Lib.hid hz0
  have HM2 := Lib.hid hM2
  have Hg2 := Lib.hid hg2
  clear hz0 hM2 hg2
  go_region_held3 (fun w' => w'.cell? ⟨g5, 0, none⟩ = some (.slice (some ⟨gs, 0, none⟩) n n) ∧ w'.cell? ⟨g4, 0, none⟩ = some (.map (some gm)) ∧ w'.cell? ⟨w.heap.size, 0, none⟩ = some (.int .u8 ((at_ l i : Nat) : Int)) ∧
      w'.cell? ⟨w.heap.size, 1, none⟩ = some (.int .u8 ((at_ l (i + 1) : Nat) : Int)) ∧ w'.cell? ⟨w.heap.size, 2, none⟩ = some (.int .u8 ((at_ l (i + 2) : Nat) : Int))) (go_keep) (fail)
  go_end0
  have hlen := hr.len
  refine ⟨rfl, ?_, ?_, fun B h1 h2 => ?_, fun k hk k1 k2 => ?_⟩
  · have := ((hsW.set_ i (.int .i64 (z : Int))).drew).grown Hg2.out (fun e => ne3 (by injection e))
    rwa [← Hz.out, ahd_set l n i hi] at this
  · refine HM2.out.cong (fun u => ?_)
    rw [lastF_succ_hit l i (by omega)]
  · have hBw : B ≤ w.heap.size := Nat.le_trans h1 (Nat.le_of_lt hs.lt)
    exact (((hB.mono hBw).setCell h1 _).drew).grown Hg2.out (by simp; omega) (fun k hk => by injection hk with hk; omega)
  · exact (Hg2.out.block k (by simp; omega) (fun e => k2 (by injection e))).trans ((Below.heap_setCell W ⟨gs, i, none⟩ _ k k1).trans (hB.block k hk))
theorem note_no (b : Option Addr) (n c : Nat) (i : Nat) (g1 g4 g5 : Nat) (w : World) (hi : ¬ i + 3 ≤ n) (hn : n ≤ 140737488351232) (hin : i < n)
    (h1 : Blk w g1 22 #[.slice b n c]) :
    Calls Try.prog 15 #[.int .i64 (i : Int), .pointer (some ⟨g1, 0, none⟩), .pointer (some ⟨g4, 0, none⟩), .pointer (some ⟨g5, 0, none⟩)] w fun e w' => e = .returned (.tuple #[]) ∧ w = w' := by
  have x1 := h1.one
  have i1 : decide ((i : Int) + 3 ≤ (n : Int)) = false := decide_eq_false (by omega)
  go_enter Try.func15, Try.ntmps15
  go_wp2_with fail
  go_end0
  exact ⟨rfl, rfl⟩
/-- a place is noted -/
theorem note_any (A : Option Addr) (n c : Nat) (l : List Nat) (i : Nat) (g1 g4 g5 gm gs km : Nat) (w : World) (hr : Reads w w.heap.size 1 A n (l.map encB)) (hl : ∀ c ∈ l, c < 256) (hi : i < n) (hn : n ≤ 140737488351232) (hc : n ≤ c)
    (h1 : Blk w g1 22 #[.slice A n c]) (h4 : Blk w g4 38 #[.map (some gm)]) (h5 : Blk w g5 39 #[.slice (some ⟨gs, 0, none⟩) n n]) (hM : TMap w gm km (lastF l i)) (hs : Blk w gs 3 (ahd l n i)) (hkm : km < maxLen) :
    Calls Try.prog 15 #[.int .i64 (i : Int), .pointer (some ⟨g1, 0, none⟩), .pointer (some ⟨g4, 0, none⟩), .pointer (some ⟨g5, 0, none⟩)] w fun e w' =>
      e = .returned (.tuple #[]) ∧ Blk w' gs 3 (ahd l n (i + 1)) ∧ TMap w' gm (km + 1) (lastF l (i + 1)) ∧ (∀ B, B ≤ gs → B ≤ gm → Below B w w') ∧ ∀ k, k < w.heap.size → k ≠ gs → k ≠ gm → w'.heap[k]? = w.heap[k]? := by
  by_cases h : i + 3 ≤ n
  · obtain ⟨b, o, rfl, _⟩ := hr.byte (k := i) hi
    exact note_yes b o n c l i g1 g4 g5 gm gs km w hr hl h hc hn h1 h4 h5 hM hs hkm
  · refine (note_no A n c i g1 g4 g5 w h hn hi h1).mono fun e w' ⟨he, hw⟩ => ?_
    subst hw
    have hlen := hr.len
    exact ⟨he, by rw [← ahd_skip l n i h]; exact hs, (hM.cong (fun u => lastF_succ_miss l i (by omega) u)).more (Nat.le_succ _), fun B _ _ => Below.refl _ _, fun _ _ _ _ => rfl⟩
end Go.Proofs.Ytgfjbbjdkmgdjaa
