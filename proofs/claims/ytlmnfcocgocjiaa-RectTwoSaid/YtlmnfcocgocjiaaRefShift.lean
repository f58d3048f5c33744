/- The reference of Shift computes the same. -/
import Derived.Test.YtlmnfcocgocjiaaRef
import Derived.Test.YtlmnfcocgocjiaaOr
namespace Go.Proofs.Ytlmnfcocgocjiaa
open Go.RowKit
theorem refshift_far (r : Rc) (dx dy : Int) (w : World) (h : r.good = false ∨ (r.good = true ∧ (dx < -4194304 ∨ (decide (dx < -4194304) = false ∧ (4194304 < dx ∨ (decide (4194304 < dx) = false ∧ (dy < -4194304 ∨ (decide (dy < -4194304) = false ∧ 4194304 < dy)))))))) :
    Calls Try.prog 21 #[r.v, .int .i64 dx, .int .i64 dy] w fun e w' => e = .returned zeroR.v ∧ Below w.heap.size w w' := by
  have hnot : ∀ (x : Bool) (w : World), (Op.unary .not (.bool x)).run Try.prog w = .ok (.bool (!x)) w := fun _ _ => rfl
  rcases h with h | ⟨h, h1 | ⟨h1, h2 | ⟨h2, h3 | ⟨h3, h4⟩⟩⟩⟩
  all_goals
    go_enter Try.func21, Try.ntmps21
    go_wp2_with fail
    obtain ⟨W, hW, A, C, bel, hz⟩ := boxes2 w #[.int .i64 r.x, .int .i64 r.y, .int .i64 r.w, .int .i64 r.h] #[.int .i64 0, .int .i64 0, .int .i64 0, .int .i64 0] 23 23
    rw [hW]
    clear hW
    refine (refgood_any r.x r.y r.w r.h _).mono ?_
    rintro e w1 ⟨rfl, hb1⟩
    replace C := C.keep hb1
    replace bel := below_next bel (by omega) hb1
    clear hb1 A
    have ⟨c0, c1, c2, c3⟩ := C.four
    have f0 := C.frozen 0
    have f1 := C.frozen 1
    have f2 := C.frozen 2
    have f3 := C.frozen 3
    go_wp2_with fail
    exact ret_rc rfl Try.underlying23 zeroR zeroR C rfl bel (by omega)
theorem refshift_near (r : Rc) (dx dy : Int) (w : World) (h : r.good = true) (h1 : inB dx (-4194304) 4194304 = true) (h2 : inB dy (-4194304) 4194304 = true) (g : (Rc.mk (r.x + dx) (r.y + dy) r.w r.h).good = true) :
    Calls Try.prog 21 #[r.v, .int .i64 dx, .int .i64 dy] w fun e w' => e = .returned (Rc.mk (r.x + dx) (r.y + dy) r.w r.h).v ∧ Below w.heap.size w w' := by
  have ⟨g1, g2, g3, g4, g5, g6, g7, g8⟩ := good_of h
  have i1 : -4194304 ≤ dx ∧ dx ≤ 4194304 := by simpa [inB] using h1
  have i2 : -4194304 ≤ dy ∧ dy ≤ 4194304 := by simpa [inB] using h2
  obtain ⟨i1, i3⟩ := i1
  obtain ⟨i2, i4⟩ := i2
  have n1 : decide (dx < -4194304) = false := decide_eq_false (by omega)
  have n2 : decide (4194304 < dx) = false := decide_eq_false (by omega)
  have n3 : decide (dy < -4194304) = false := decide_eq_false (by omega)
  have n4 : decide (4194304 < dy) = false := decide_eq_false (by omega)
  have hnot : ∀ (x : Bool) (w : World), (Op.unary .not (.bool x)).run Try.prog w = .ok (.bool (!x)) w := fun _ _ => rfl
  go_enter Try.func21, Try.ntmps21
  go_wp2_with fail
  obtain ⟨W, hW, A, C, bel, hz⟩ := boxes2 w #[.int .i64 r.x, .int .i64 r.y, .int .i64 r.w, .int .i64 r.h] #[.int .i64 0, .int .i64 0, .int .i64 0, .int .i64 0] 23 23
  rw [hW]
  clear hW
  refine (refgood_any r.x r.y r.w r.h _).mono ?_
  rintro e w1 ⟨rfl, hb1⟩
  replace C := C.keep hb1
  replace A := A.keep hb1
  replace bel := below_next bel (by omega) hb1
  replace hz : w.heap.size + 2 ≤ w1.heap.size := by have := hb1.size; omega
  clear hb1
  have ⟨a0, a1, a2, a3⟩ := A.four
  have k0 := A.frozen 0
  have k1 := A.frozen 1
  go_wp2_with fail
  have A2 := (A.set_ 0 (.int .i64 (r.x + dx))).set_ 1 (.int .i64 (r.y + dy))
  have C2 := (C.far (p := ⟨w.heap.size, 0, none⟩) (by simp) (.int .i64 (r.x + dx))).far (p := ⟨w.heap.size, 1, none⟩) (by simp) (.int .i64 (r.y + dy))
  have b2 := (bel.setCell (p := ⟨w.heap.size, 0, none⟩) (by simp) (.int .i64 (r.x + dx))).setCell (p := ⟨w.heap.size, 1, none⟩) (by simp) (.int .i64 (r.y + dy))
  clear a0 a1 a2 a3 k0 k1 A C bel
  generalize ((w1.setCell ⟨w.heap.size, 0, none⟩ (.int .i64 (r.x + dx))).setCell ⟨w.heap.size, 1, none⟩ (.int .i64 (r.y + dy))) = w2 at *
  have A3 : Blk w2 w.heap.size 23 #[.int .i64 (r.x + dx), .int .i64 (r.y + dy), .int .i64 r.w, .int .i64 r.h] := A2
  clear A2 hz
  have hz : w.heap.size + 2 ≤ w2.heap.size := by have := C2.lt; omega
  refine (refgood_any _ _ _ _ _).mono ?_
  rintro e w3 ⟨rfl, hb3⟩
  replace A := A3.keep hb3
  replace C := C2.keep hb3
  replace bel := below_next b2 (by omega) hb3
  clear hb3 A3 C2 b2
  have ⟨a0, a1, a2, a3⟩ := A.four
  have ⟨c0, c1, c2, c3⟩ := C.four
  have f0 := C.frozen 0
  have f1 := C.frozen 1
  have f2 := C.frozen 2
  have f3 := C.frozen 3
  go_wp2_with fail
  exact ret_rc rfl Try.underlying23 (Rc.mk (r.x + dx) (r.y + dy) r.w r.h) zeroR C rfl bel (by omega)
theorem refshift_off (r : Rc) (dx dy : Int) (w : World) (h : r.good = true) (h1 : inB dx (-4194304) 4194304 = true) (h2 : inB dy (-4194304) 4194304 = true) (g : (Rc.mk (r.x + dx) (r.y + dy) r.w r.h).good = false) :
    Calls Try.prog 21 #[r.v, .int .i64 dx, .int .i64 dy] w fun e w' => e = .returned zeroR.v ∧ Below w.heap.size w w' := by
  have ⟨g1, g2, g3, g4, g5, g6, g7, g8⟩ := good_of h
  have i1 : -4194304 ≤ dx ∧ dx ≤ 4194304 := by simpa [inB] using h1
  have i2 : -4194304 ≤ dy ∧ dy ≤ 4194304 := by simpa [inB] using h2
  obtain ⟨i1, i3⟩ := i1
  obtain ⟨i2, i4⟩ := i2
  have n1 : decide (dx < -4194304) = false := decide_eq_false (by omega)
  have n2 : decide (4194304 < dx) = false := decide_eq_false (by omega)
  have n3 : decide (dy < -4194304) = false := decide_eq_false (by omega)
  have n4 : decide (4194304 < dy) = false := decide_eq_false (by omega)
  have hnot : ∀ (x : Bool) (w : World), (Op.unary .not (.bool x)).run Try.prog w = .ok (.bool (!x)) w := fun _ _ => rfl
  go_enter Try.func21, Try.ntmps21
  go_wp2_with fail
  obtain ⟨W, hW, A, C, bel, hz⟩ := boxes2 w #[.int .i64 r.x, .int .i64 r.y, .int .i64 r.w, .int .i64 r.h] #[.int .i64 0, .int .i64 0, .int .i64 0, .int .i64 0] 23 23
  rw [hW]
  clear hW
  refine (refgood_any r.x r.y r.w r.h _).mono ?_
  rintro e w1 ⟨rfl, hb1⟩
  replace C := C.keep hb1
  replace A := A.keep hb1
  replace bel := below_next bel (by omega) hb1
  replace hz : w.heap.size + 2 ≤ w1.heap.size := by have := hb1.size; omega
  clear hb1
  have ⟨a0, a1, a2, a3⟩ := A.four
  have k0 := A.frozen 0
  have k1 := A.frozen 1
  go_wp2_with fail
  have A2 := (A.set_ 0 (.int .i64 (r.x + dx))).set_ 1 (.int .i64 (r.y + dy))
  have C2 := (C.far (p := ⟨w.heap.size, 0, none⟩) (by simp) (.int .i64 (r.x + dx))).far (p := ⟨w.heap.size, 1, none⟩) (by simp) (.int .i64 (r.y + dy))
  have b2 := (bel.setCell (p := ⟨w.heap.size, 0, none⟩) (by simp) (.int .i64 (r.x + dx))).setCell (p := ⟨w.heap.size, 1, none⟩) (by simp) (.int .i64 (r.y + dy))
  clear a0 a1 a2 a3 k0 k1 A C bel
  generalize ((w1.setCell ⟨w.heap.size, 0, none⟩ (.int .i64 (r.x + dx))).setCell ⟨w.heap.size, 1, none⟩ (.int .i64 (r.y + dy))) = w2 at *
  have A3 : Blk w2 w.heap.size 23 #[.int .i64 (r.x + dx), .int .i64 (r.y + dy), .int .i64 r.w, .int .i64 r.h] := A2
  clear A2 hz
  have hz : w.heap.size + 2 ≤ w2.heap.size := by have := C2.lt; omega
  refine (refgood_any _ _ _ _ _).mono ?_
  rintro e w3 ⟨rfl, hb3⟩
  replace A := A3.keep hb3
  replace C := C2.keep hb3
  replace bel := below_next b2 (by omega) hb3
  clear hb3 A3 C2 b2
  have ⟨a0, a1, a2, a3⟩ := A.four
  have ⟨c0, c1, c2, c3⟩ := C.four
  have f0 := C.frozen 0
  have f1 := C.frozen 1
  have f2 := C.frozen 2
  have f3 := C.frozen 3
  go_wp2_with fail
  exact ret_rc rfl Try.underlying23 zeroR zeroR C rfl bel (by omega)
theorem refshift_any (r : Rc) (dx dy : Int) (w : World) : Calls Try.prog 21 #[r.v, .int .i64 dx, .int .i64 dy] w fun e w' => e = .returned (shiftR r dx dy).v ∧ Below w.heap.size w w' := by
  cases h : r.good with
  | false => rw [show shiftR r dx dy = zeroR by simp [shiftR, h]]; exact refshift_far r dx dy w (.inl h)
  | true =>
    by_cases hin : -4194304 ≤ dx ∧ dx ≤ 4194304 ∧ -4194304 ≤ dy ∧ dy ≤ 4194304
    · have h1 : inB dx (-4194304) 4194304 = true := by simp [inB]; omega
      have h2 : inB dy (-4194304) 4194304 = true := by simp [inB]; omega
      cases g : (Rc.mk (r.x + dx) (r.y + dy) r.w r.h).good with
      | false => rw [show shiftR r dx dy = zeroR by simp only [shiftR, h, h1, h2, g, Bool.false_eq_true, and_self, if_true, if_false]]; exact refshift_off r dx dy w h h1 h2 g
      | true => rw [show shiftR r dx dy = ⟨r.x + dx, r.y + dy, r.w, r.h⟩ by simp only [shiftR, h, h1, h2, g, and_self, if_true]]; exact refshift_near r dx dy w h h1 h2 g
    · rw [show shiftR r dx dy = zeroR by
        simp only [shiftR, h, inB, true_and, decide_eq_true_eq]
        rw [if_neg (by omega)]]
      refine refshift_far r dx dy w (.inr ⟨h, ?_⟩)
      by_cases a : dx < -4194304
      · exact .inl a
      · by_cases b : 4194304 < dx
        · exact .inr ⟨decide_eq_false a, .inl b⟩
        · by_cases c : dy < -4194304
          · exact .inr ⟨decide_eq_false a, .inr ⟨decide_eq_false b, .inl c⟩⟩
          · exact .inr ⟨decide_eq_false a, .inr ⟨decide_eq_false b, .inr ⟨decide_eq_false c, by omega⟩⟩⟩
end Go.Proofs.Ytlmnfcocgocjiaa
