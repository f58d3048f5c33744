/- The walks of RectTells and RectTwo: the program and the references agree. -/
import Derived.Test.YtlmnfcocgocjiaaRefIn
import Derived.Test.YtlmnfcocgocjiaaRefShift
import Derived.Test.YtlmnfcocgocjiaaWakes
import Derived.Deep.RegionHeld3
namespace Go.Proofs.Ytlmnfcocgocjiaa
open Go.RowKit
theorem eqR_self (a : Rc) : eqR a a = true := by simp [eqR]
set_option maxHeartbeats 2000000 in
theorem tells_any (r : Rc) (x y : Int) (w : World) : Calls Try.prog 4 #[r.v, .int .i64 x, .int .i64 y] w fun e w' => e = .returned (.bool true) ∧ Below w.heap.size w w' := by
  have qe : ∀ w, (binOp .eql 23 (shiftR r x y).v (shiftR r x y).v).run Try.prog w = .ok (.bool true) w := fun w => by rw [run_eqR, eqR_self]
  go_enter Try.func4, Try.ntmps4
  go_wp2_with fail
  obtain ⟨W, hW, A, bel, hz0⟩ := boxes1 w #[.int .i64 r.x, .int .i64 r.y, .int .i64 r.w, .int .i64 r.h] 23
  rw [hW]
  clear hW
  have hz : w.heap.size + 1 ≤ W.heap.size := by omega
  clear hz0
  have ⟨r0, r1, r2, r3⟩ := A.four
  clear A
  go_region_held3 (fun w' => (w'.cell? ⟨w.heap.size, 0, none⟩ = some (.int .i64 r.x) ∧ w'.cell? ⟨w.heap.size, 1, none⟩ = some (.int .i64 r.y) ∧ w'.cell? ⟨w.heap.size, 2, none⟩ = some (.int .i64 r.w) ∧ w'.cell? ⟨w.heap.size, 3, none⟩ = some (.int .i64 r.h)) ∧ Below w.heap.size w w' ∧ w.heap.size + 1 ≤ w'.heap.size)
    (first | exact ⟨⟨r0, r1, r2, r3⟩, bel.drew, hz⟩ | (go_split_ands; refine ⟨⟨?_, ?_, ?_, ?_⟩, ?_, ?_⟩ <;> first | (exact below_next (by assumption) (by omega) hb1) | (have := hb1.size; omega) | (refine (hb1.cell (by simp; omega)).trans ?_; assumption)))
    (first | (go_at_call 15; refine (good_any r.x r.y r.w r.h _).mono ?_; rintro e w1 ⟨rfl, hb1⟩) | (go_at_call 16; refine (refgood_any r.x r.y r.w r.h _).mono ?_; rintro e w1 ⟨rfl, hb1⟩) | (go_at_call 10; refine (empty_any r.x r.y r.w r.h _).mono ?_; rintro e w1 ⟨rfl, hb1⟩) | (go_at_call 17; refine (refempty_any r.x r.y r.w r.h _).mono ?_; rintro e w1 ⟨rfl, hb1⟩) | (go_at_call 13; refine (has_any r.x r.y r.w r.h x y _).mono ?_; rintro e w1 ⟨rfl, hb1⟩) | (go_at_call 18; refine (refhas_any r.x r.y r.w r.h x y _).mono ?_; rintro e w1 ⟨rfl, hb1⟩) | (go_at_call 12; refine (area_any r.x r.y r.w r.h _).mono ?_; rintro e w1 ⟨rfl, hb1⟩) | (go_at_call 19; refine (refarea_any r.x r.y r.w r.h _).mono ?_; rintro e w1 ⟨rfl, hb1⟩) | (go_at_call 20; refine (shift_any r x y _).mono ?_; rintro e w1 ⟨rfl, hb1⟩) | (go_at_call 21; refine (refshift_any r x y _).mono ?_; rintro e w1 ⟨rfl, hb1⟩) | (go_at_call 14; refine (wakes_any _).mono ?_; rintro e w1 ⟨rfl, hb1⟩))
  go_split_ands
  go_wp2_with fail
  go_ret
  exact ⟨rfl, by assumption⟩
set_option maxHeartbeats 2000000 in
theorem two_any (a b : Rc) (w : World) : Calls Try.prog 6 #[a.v, b.v] w fun e w' => e = .returned (.bool true) ∧ Below w.heap.size w w' := by
  have qe : ∀ w, (binOp .eql 23 (andR a b).v (andR a b).v).run Try.prog w = .ok (.bool true) w := fun w => by rw [run_eqR, eqR_self]
  have qo : ∀ w, (binOp .eql 23 (orR a b).v (orR a b).v).run Try.prog w = .ok (.bool true) w := fun w => by rw [run_eqR, eqR_self]
  go_enter Try.func6, Try.ntmps6
  go_wp2_with fail
  obtain ⟨W, hW, A, B, bel, hz0⟩ := boxes2 w #[.int .i64 a.x, .int .i64 a.y, .int .i64 a.w, .int .i64 a.h] #[.int .i64 b.x, .int .i64 b.y, .int .i64 b.w, .int .i64 b.h] 23 23
  rw [hW]
  clear hW
  have hz : w.heap.size + 2 ≤ W.heap.size := by omega
  clear hz0
  have ⟨a0, a1, a2, a3⟩ := A.four
  have ⟨b0, b1, b2, b3⟩ := B.four
  clear A B
  go_region_held3 (fun w' => (w'.cell? ⟨w.heap.size, 0, none⟩ = some (.int .i64 a.x) ∧ w'.cell? ⟨w.heap.size, 1, none⟩ = some (.int .i64 a.y) ∧ w'.cell? ⟨w.heap.size, 2, none⟩ = some (.int .i64 a.w) ∧ w'.cell? ⟨w.heap.size, 3, none⟩ = some (.int .i64 a.h) ∧ w'.cell? ⟨w.heap.size + 1, 0, none⟩ = some (.int .i64 b.x) ∧ w'.cell? ⟨w.heap.size + 1, 1, none⟩ = some (.int .i64 b.y) ∧ w'.cell? ⟨w.heap.size + 1, 2, none⟩ = some (.int .i64 b.w) ∧ w'.cell? ⟨w.heap.size + 1, 3, none⟩ = some (.int .i64 b.h)) ∧ Below w.heap.size w w' ∧ w.heap.size + 2 ≤ w'.heap.size)
    (first | exact ⟨⟨a0, a1, a2, a3, b0, b1, b2, b3⟩, bel.drew, hz⟩ | (go_split_ands; refine ⟨⟨?_, ?_, ?_, ?_, ?_, ?_, ?_, ?_⟩, ?_, ?_⟩ <;> first | (exact below_next (by assumption) (by omega) hb1) | (have := hb1.size; omega) | (refine (hb1.cell (by simp; omega)).trans ?_; assumption)))
    (first | (go_at_call 9; refine (and_any a b _).mono ?_; rintro e w1 ⟨rfl, hb1⟩) | (go_at_call 22; refine (refand_any a b _).mono ?_; rintro e w1 ⟨rfl, hb1⟩) | (go_at_call 23; refine (or_any a b _).mono ?_; rintro e w1 ⟨rfl, hb1⟩) | (go_at_call 24; refine (refor_any a b _).mono ?_; rintro e w1 ⟨rfl, hb1⟩) | (go_at_call 11; refine (in_any a b _).mono ?_; rintro e w1 ⟨rfl, hb1⟩) | (go_at_call 25; refine (refin_any a b _).mono ?_; rintro e w1 ⟨rfl, hb1⟩) | (go_at_call 14; refine (wakes_any _).mono ?_; rintro e w1 ⟨rfl, hb1⟩))
  go_split_ands
  go_wp2_with fail
  go_ret
  exact ⟨rfl, by assumption⟩
end Go.Proofs.Ytlmnfcocgocjiaa
