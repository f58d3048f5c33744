/- rect.In: whether one has all of another one. -/
import Derived.Test.YtlmnfcocgocjiaaEq
import Derived.Deep.RegionWith
namespace Go.Proofs.Ytlmnfcocgocjiaa
open Go.RowKit
def inR (a b : Rc) : Bool := a.empty || eqR (andR a b) a
theorem in_yes (a b : Rc) (w : World) (ea : a.empty = true) : Calls Try.prog 11 #[a.v, b.v] w fun e w' => e = .returned (.bool true) ∧ Below w.heap.size w w' := by
  have E : Hid (emptyB a.x a.y a.w a.h = true) := ea
  clear ea
  go_enter Try.func11, Try.ntmps11
  go_wp2_with fail
  obtain ⟨W, hW, A, B, bel, hz⟩ := boxes2 w #[.int .i64 a.x, .int .i64 a.y, .int .i64 a.w, .int .i64 a.h] #[.int .i64 b.x, .int .i64 b.y, .int .i64 b.w, .int .i64 b.h] 23 23
  rw [hW]
  have hz0 : w.heap.size + 1 < W.heap.size := by omega
  clear hW hz
  have ⟨a0, a1, a2, a3⟩ := A.four
  have ⟨b0, b1, b2, b3⟩ := B.four
  clear A B
  go_region_with (go_at_call 10; refine (empty_any a.x a.y a.w a.h _).mono ?_; rw [E.out]; rintro e w1 ⟨rfl, hb1⟩)
  all_goals go_wp2_with fail
  all_goals go_ret
  all_goals exact ⟨rfl, below_next bel.drew bel.drew.size hb1⟩
set_option maxHeartbeats 4000000 in
theorem in_no (a b : Rc) (w : World) (ea : a.empty = false) : Calls Try.prog 11 #[a.v, b.v] w fun e w' => e = .returned (.bool (eqR (andR a b) a)) ∧ Below w.heap.size w w' := by
  have E : Hid (emptyB a.x a.y a.w a.h = false) := ea
  clear ea
  have qe := fun w => run_eqR (andR a b) a w
  go_enter Try.func11, Try.ntmps11
  go_wp2_with fail
  obtain ⟨W, hW, A, B, bel, hz⟩ := boxes2 w #[.int .i64 a.x, .int .i64 a.y, .int .i64 a.w, .int .i64 a.h] #[.int .i64 b.x, .int .i64 b.y, .int .i64 b.w, .int .i64 b.h] 23 23
  rw [hW]
  have hz0 : w.heap.size + 1 < W.heap.size := by omega
  have hz00 : w.heap.size < W.heap.size := by omega
  clear hW hz
  have ⟨a0, a1, a2, a3⟩ := A.four
  have ⟨b0, b1, b2, b3⟩ := B.four
  clear A B
  go_region_with (first | (go_at_call 10; refine (empty_any a.x a.y a.w a.h _).mono ?_; rw [E.out]; rintro e w1 ⟨rfl, hb1⟩; have a0' := (hb1.cell (p := ⟨w.heap.size, 0, none⟩) hz00).trans a0; have a1' := (hb1.cell (p := ⟨w.heap.size, 1, none⟩) hz00).trans a1; have a2' := (hb1.cell (p := ⟨w.heap.size, 2, none⟩) hz00).trans a2; have a3' := (hb1.cell (p := ⟨w.heap.size, 3, none⟩) hz00).trans a3; have b0' := (hb1.cell (p := ⟨w.heap.size + 1, 0, none⟩) hz0).trans b0; have b1' := (hb1.cell (p := ⟨w.heap.size + 1, 1, none⟩) hz0).trans b1; have b2' := (hb1.cell (p := ⟨w.heap.size + 1, 2, none⟩) hz0).trans b2; have b3' := (hb1.cell (p := ⟨w.heap.size + 1, 3, none⟩) hz0).trans b3) | (go_at_call 9; refine (and_any a b _).mono ?_; rintro e w2 ⟨rfl, hb2⟩; have a0'' := (hb2.cell (p := ⟨w.heap.size, 0, none⟩) (Nat.lt_of_lt_of_le hz00 hb1.size)).trans a0'; have a1'' := (hb2.cell (p := ⟨w.heap.size, 1, none⟩) (Nat.lt_of_lt_of_le hz00 hb1.size)).trans a1'; have a2'' := (hb2.cell (p := ⟨w.heap.size, 2, none⟩) (Nat.lt_of_lt_of_le hz00 hb1.size)).trans a2'; have a3'' := (hb2.cell (p := ⟨w.heap.size, 3, none⟩) (Nat.lt_of_lt_of_le hz00 hb1.size)).trans a3'))
  all_goals go_wp2_with fail
  all_goals go_ret
  all_goals exact ⟨rfl, below_next (below_next bel.drew bel.drew.size hb1) (Nat.le_trans bel.drew.size hb1.size) hb2⟩
theorem in_any (a b : Rc) (w : World) : Calls Try.prog 11 #[a.v, b.v] w fun e w' => e = .returned (.bool (inR a b)) ∧ Below w.heap.size w w' := by
  cases ea : a.empty with
  | true => rw [show inR a b = true by simp [inR, ea]]; exact in_yes a b w ea
  | false => rw [show inR a b = eqR (andR a b) a by simp [inR, ea]]; exact in_no a b w ea
end Go.Proofs.Ytlmnfcocgocjiaa
