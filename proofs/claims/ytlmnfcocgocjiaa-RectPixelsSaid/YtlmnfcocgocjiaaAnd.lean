/- rect.And: what two rectangles have in common. -/
import Derived.Test.YtlmnfcocgocjiaaSpan
namespace Go.Proofs.Ytlmnfcocgocjiaa
open Go.RowKit
theorem and_a (a b : Rc) (px pw py ph : Int) (w : World) (hx : Hid (∀ w, Calls Try.prog 26 #[.int .i64 a.x, .int .i64 a.w, .int .i64 b.x, .int .i64 b.w, .func (.func 27) #[] #[], .func (.func 28) #[] #[]] w fun e w' => e = .returned (.tuple #[.int .i64 px, .int .i64 pw]) ∧ w = w'))
    (hy : Hid (∀ w, Calls Try.prog 26 #[.int .i64 a.y, .int .i64 a.h, .int .i64 b.y, .int .i64 b.h, .func (.func 27) #[] #[], .func (.func 28) #[] #[]] w fun e w' => e = .returned (.tuple #[.int .i64 py, .int .i64 ph]) ∧ w = w')) (ea : a.empty = true) :
    Calls Try.prog 9 #[a.v, b.v] w fun e w' => e = .returned zeroR.v ∧ Below w.heap.size w w' := by
  go_enter Try.func9, Try.ntmps9
  go_wp2_with fail
  refine (hx.out _).mono ?_
  rintro e w' ⟨rfl, rfl⟩
  go_wp2_with fail
  refine (hy.out _).mono ?_
  rintro e w' ⟨rfl, rfl⟩
  go_wp2_with fail
  obtain ⟨W, hW, A, B, C, D, bel, hz⟩ := boxes4 w #[.int .i64 a.x, .int .i64 a.y, .int .i64 a.w, .int .i64 a.h] #[.int .i64 b.x, .int .i64 b.y, .int .i64 b.w, .int .i64 b.h] #[.int .i64 0, .int .i64 0, .int .i64 0, .int .i64 0] #[.int .i64 px, .int .i64 py, .int .i64 pw, .int .i64 ph] 23 23 23 23
  rw [hW]
  clear hW
  refine (empty_any _ _ _ _ _).mono ?_
  rintro e w1 ⟨rfl, hb1⟩
  replace A := A.keep hb1
  replace B := B.keep hb1
  replace C := C.keep hb1
  replace D := D.keep hb1
  replace bel := below_next bel (by omega) hb1
  clear hb1 hz
  have ⟨b0, b1, b2, b3⟩ := B.four
  have ⟨c0, c1, c2, c3⟩ := C.four
  have ⟨d0, d1, d2, d3⟩ := D.four
  have f0 := C.frozen 0
  have f1 := C.frozen 1
  have f2 := C.frozen 2
  have f3 := C.frozen 3
  go_wp2_with fail
  have C4 := (((C.set_ 0 (.int .i64 zeroR.x)).set_ 1 (.int .i64 zeroR.y)).set_ 2 (.int .i64 zeroR.w)).set_ 3 (.int .i64 zeroR.h)
  have b4 := (((bel.setCell (p := ⟨w.heap.size + 1 + 1, 0, none⟩) (by simp; omega) (.int .i64 zeroR.x)).setCell (p := ⟨w.heap.size + 1 + 1, 1, none⟩) (by simp; omega) (.int .i64 zeroR.y)).setCell (p := ⟨w.heap.size + 1 + 1, 2, none⟩) (by simp; omega) (.int .i64 zeroR.w)).setCell (p := ⟨w.heap.size + 1 + 1, 3, none⟩) (by simp; omega) (.int .i64 zeroR.h)
  exact bodyPost_ret (v := zeroR.v) (results_cell_row (p := 4) rfl _ _ _ 23 _ (0, 0) _ rfl C4 Try.underlying23 rfl (by kernel_rfl)) rfl ⟨rfl, b4⟩
theorem and_b (a b : Rc) (px pw py ph : Int) (w : World) (hx : Hid (∀ w, Calls Try.prog 26 #[.int .i64 a.x, .int .i64 a.w, .int .i64 b.x, .int .i64 b.w, .func (.func 27) #[] #[], .func (.func 28) #[] #[]] w fun e w' => e = .returned (.tuple #[.int .i64 px, .int .i64 pw]) ∧ w = w'))
    (hy : Hid (∀ w, Calls Try.prog 26 #[.int .i64 a.y, .int .i64 a.h, .int .i64 b.y, .int .i64 b.h, .func (.func 27) #[] #[], .func (.func 28) #[] #[]] w fun e w' => e = .returned (.tuple #[.int .i64 py, .int .i64 ph]) ∧ w = w')) (ea : a.empty = false) (eb : b.empty = true) :
    Calls Try.prog 9 #[a.v, b.v] w fun e w' => e = .returned zeroR.v ∧ Below w.heap.size w w' := by
  go_enter Try.func9, Try.ntmps9
  go_wp2_with fail
  refine (hx.out _).mono ?_
  rintro e w' ⟨rfl, rfl⟩
  go_wp2_with fail
  refine (hy.out _).mono ?_
  rintro e w' ⟨rfl, rfl⟩
  go_wp2_with fail
  obtain ⟨W, hW, A, B, C, D, bel, hz⟩ := boxes4 w #[.int .i64 a.x, .int .i64 a.y, .int .i64 a.w, .int .i64 a.h] #[.int .i64 b.x, .int .i64 b.y, .int .i64 b.w, .int .i64 b.h] #[.int .i64 0, .int .i64 0, .int .i64 0, .int .i64 0] #[.int .i64 px, .int .i64 py, .int .i64 pw, .int .i64 ph] 23 23 23 23
  rw [hW]
  clear hW
  refine (empty_any _ _ _ _ _).mono ?_
  rintro e w1 ⟨rfl, hb1⟩
  replace A := A.keep hb1
  replace B := B.keep hb1
  replace C := C.keep hb1
  replace D := D.keep hb1
  replace bel := below_next bel (by omega) hb1
  clear hb1 hz
  have ⟨b0, b1, b2, b3⟩ := B.four
  have ⟨c0, c1, c2, c3⟩ := C.four
  have ⟨d0, d1, d2, d3⟩ := D.four
  have f0 := C.frozen 0
  have f1 := C.frozen 1
  have f2 := C.frozen 2
  have f3 := C.frozen 3
  go_wp2_with fail
  clear b0 b1 b2 b3 c0 c1 c2 c3 d0 d1 d2 d3 f0 f1 f2 f3
  refine (empty_any _ _ _ _ _).mono ?_
  rintro e w2 ⟨rfl, hb2⟩
  replace C := C.keep hb2
  replace D := D.keep hb2
  replace bel := below_next bel bel.size hb2
  clear hb2
  have ⟨c0, c1, c2, c3⟩ := C.four
  have ⟨d0, d1, d2, d3⟩ := D.four
  have f0 := C.frozen 0
  have f1 := C.frozen 1
  have f2 := C.frozen 2
  have f3 := C.frozen 3
  go_wp2_with fail
  have C4 := (((C.set_ 0 (.int .i64 zeroR.x)).set_ 1 (.int .i64 zeroR.y)).set_ 2 (.int .i64 zeroR.w)).set_ 3 (.int .i64 zeroR.h)
  have b4 := (((bel.setCell (p := ⟨w.heap.size + 1 + 1, 0, none⟩) (by simp; omega) (.int .i64 zeroR.x)).setCell (p := ⟨w.heap.size + 1 + 1, 1, none⟩) (by simp; omega) (.int .i64 zeroR.y)).setCell (p := ⟨w.heap.size + 1 + 1, 2, none⟩) (by simp; omega) (.int .i64 zeroR.w)).setCell (p := ⟨w.heap.size + 1 + 1, 3, none⟩) (by simp; omega) (.int .i64 zeroR.h)
  exact bodyPost_ret (v := zeroR.v) (results_cell_row (p := 4) rfl _ _ _ 23 _ (0, 0) _ rfl C4 Try.underlying23 rfl (by kernel_rfl)) rfl ⟨rfl, b4⟩
theorem and_w (a b : Rc) (px pw py ph : Int) (w : World) (hx : Hid (∀ w, Calls Try.prog 26 #[.int .i64 a.x, .int .i64 a.w, .int .i64 b.x, .int .i64 b.w, .func (.func 27) #[] #[], .func (.func 28) #[] #[]] w fun e w' => e = .returned (.tuple #[.int .i64 px, .int .i64 pw]) ∧ w = w'))
    (hy : Hid (∀ w, Calls Try.prog 26 #[.int .i64 a.y, .int .i64 a.h, .int .i64 b.y, .int .i64 b.h, .func (.func 27) #[] #[], .func (.func 28) #[] #[]] w fun e w' => e = .returned (.tuple #[.int .i64 py, .int .i64 ph]) ∧ w = w')) (ea : a.empty = false) (eb : b.empty = false) (h1 : pw ≤ 0) :
    Calls Try.prog 9 #[a.v, b.v] w fun e w' => e = .returned zeroR.v ∧ Below w.heap.size w w' := by
  go_enter Try.func9, Try.ntmps9
  go_wp2_with fail
  refine (hx.out _).mono ?_
  rintro e w' ⟨rfl, rfl⟩
  go_wp2_with fail
  refine (hy.out _).mono ?_
  rintro e w' ⟨rfl, rfl⟩
  go_wp2_with fail
  obtain ⟨W, hW, A, B, C, D, bel, hz⟩ := boxes4 w #[.int .i64 a.x, .int .i64 a.y, .int .i64 a.w, .int .i64 a.h] #[.int .i64 b.x, .int .i64 b.y, .int .i64 b.w, .int .i64 b.h] #[.int .i64 0, .int .i64 0, .int .i64 0, .int .i64 0] #[.int .i64 px, .int .i64 py, .int .i64 pw, .int .i64 ph] 23 23 23 23
  rw [hW]
  clear hW
  refine (empty_any _ _ _ _ _).mono ?_
  rintro e w1 ⟨rfl, hb1⟩
  replace A := A.keep hb1
  replace B := B.keep hb1
  replace C := C.keep hb1
  replace D := D.keep hb1
  replace bel := below_next bel (by omega) hb1
  clear hb1 hz
  have ⟨b0, b1, b2, b3⟩ := B.four
  have ⟨c0, c1, c2, c3⟩ := C.four
  have ⟨d0, d1, d2, d3⟩ := D.four
  have f0 := C.frozen 0
  have f1 := C.frozen 1
  have f2 := C.frozen 2
  have f3 := C.frozen 3
  go_wp2_with fail
  clear b0 b1 b2 b3 c0 c1 c2 c3 d0 d1 d2 d3 f0 f1 f2 f3
  refine (empty_any _ _ _ _ _).mono ?_
  rintro e w2 ⟨rfl, hb2⟩
  replace C := C.keep hb2
  replace D := D.keep hb2
  replace bel := below_next bel bel.size hb2
  clear hb2
  have ⟨c0, c1, c2, c3⟩ := C.four
  have ⟨d0, d1, d2, d3⟩ := D.four
  have f0 := C.frozen 0
  have f1 := C.frozen 1
  have f2 := C.frozen 2
  have f3 := C.frozen 3
  go_wp2_with fail
  have C4 := (((C.set_ 0 (.int .i64 zeroR.x)).set_ 1 (.int .i64 zeroR.y)).set_ 2 (.int .i64 zeroR.w)).set_ 3 (.int .i64 zeroR.h)
  have b4 := (((bel.setCell (p := ⟨w.heap.size + 1 + 1, 0, none⟩) (by simp; omega) (.int .i64 zeroR.x)).setCell (p := ⟨w.heap.size + 1 + 1, 1, none⟩) (by simp; omega) (.int .i64 zeroR.y)).setCell (p := ⟨w.heap.size + 1 + 1, 2, none⟩) (by simp; omega) (.int .i64 zeroR.w)).setCell (p := ⟨w.heap.size + 1 + 1, 3, none⟩) (by simp; omega) (.int .i64 zeroR.h)
  exact bodyPost_ret (v := zeroR.v) (results_cell_row (p := 4) rfl _ _ _ 23 _ (0, 0) _ rfl C4 Try.underlying23 rfl (by kernel_rfl)) rfl ⟨rfl, b4⟩
theorem and_h (a b : Rc) (px pw py ph : Int) (w : World) (hx : Hid (∀ w, Calls Try.prog 26 #[.int .i64 a.x, .int .i64 a.w, .int .i64 b.x, .int .i64 b.w, .func (.func 27) #[] #[], .func (.func 28) #[] #[]] w fun e w' => e = .returned (.tuple #[.int .i64 px, .int .i64 pw]) ∧ w = w'))
    (hy : Hid (∀ w, Calls Try.prog 26 #[.int .i64 a.y, .int .i64 a.h, .int .i64 b.y, .int .i64 b.h, .func (.func 27) #[] #[], .func (.func 28) #[] #[]] w fun e w' => e = .returned (.tuple #[.int .i64 py, .int .i64 ph]) ∧ w = w')) (ea : a.empty = false) (eb : b.empty = false) (h1 : 0 < pw) (h2 : ph ≤ 0) :
    Calls Try.prog 9 #[a.v, b.v] w fun e w' => e = .returned zeroR.v ∧ Below w.heap.size w w' := by
  go_enter Try.func9, Try.ntmps9
  go_wp2_with fail
  refine (hx.out _).mono ?_
  rintro e w' ⟨rfl, rfl⟩
  go_wp2_with fail
  refine (hy.out _).mono ?_
  rintro e w' ⟨rfl, rfl⟩
  go_wp2_with fail
  obtain ⟨W, hW, A, B, C, D, bel, hz⟩ := boxes4 w #[.int .i64 a.x, .int .i64 a.y, .int .i64 a.w, .int .i64 a.h] #[.int .i64 b.x, .int .i64 b.y, .int .i64 b.w, .int .i64 b.h] #[.int .i64 0, .int .i64 0, .int .i64 0, .int .i64 0] #[.int .i64 px, .int .i64 py, .int .i64 pw, .int .i64 ph] 23 23 23 23
  rw [hW]
  clear hW
  refine (empty_any _ _ _ _ _).mono ?_
  rintro e w1 ⟨rfl, hb1⟩
  replace A := A.keep hb1
  replace B := B.keep hb1
  replace C := C.keep hb1
  replace D := D.keep hb1
  replace bel := below_next bel (by omega) hb1
  clear hb1 hz
  have ⟨b0, b1, b2, b3⟩ := B.four
  have ⟨c0, c1, c2, c3⟩ := C.four
  have ⟨d0, d1, d2, d3⟩ := D.four
  have f0 := C.frozen 0
  have f1 := C.frozen 1
  have f2 := C.frozen 2
  have f3 := C.frozen 3
  go_wp2_with fail
  clear b0 b1 b2 b3 c0 c1 c2 c3 d0 d1 d2 d3 f0 f1 f2 f3
  refine (empty_any _ _ _ _ _).mono ?_
  rintro e w2 ⟨rfl, hb2⟩
  replace C := C.keep hb2
  replace D := D.keep hb2
  replace bel := below_next bel bel.size hb2
  clear hb2
  have ⟨c0, c1, c2, c3⟩ := C.four
  have ⟨d0, d1, d2, d3⟩ := D.four
  have f0 := C.frozen 0
  have f1 := C.frozen 1
  have f2 := C.frozen 2
  have f3 := C.frozen 3
  go_wp2_with fail
  have C4 := (((C.set_ 0 (.int .i64 zeroR.x)).set_ 1 (.int .i64 zeroR.y)).set_ 2 (.int .i64 zeroR.w)).set_ 3 (.int .i64 zeroR.h)
  have b4 := (((bel.setCell (p := ⟨w.heap.size + 1 + 1, 0, none⟩) (by simp; omega) (.int .i64 zeroR.x)).setCell (p := ⟨w.heap.size + 1 + 1, 1, none⟩) (by simp; omega) (.int .i64 zeroR.y)).setCell (p := ⟨w.heap.size + 1 + 1, 2, none⟩) (by simp; omega) (.int .i64 zeroR.w)).setCell (p := ⟨w.heap.size + 1 + 1, 3, none⟩) (by simp; omega) (.int .i64 zeroR.h)
  exact bodyPost_ret (v := zeroR.v) (results_cell_row (p := 4) rfl _ _ _ 23 _ (0, 0) _ rfl C4 Try.underlying23 rfl (by kernel_rfl)) rfl ⟨rfl, b4⟩
theorem and_in (a b : Rc) (px pw py ph : Int) (w : World) (hx : Hid (∀ w, Calls Try.prog 26 #[.int .i64 a.x, .int .i64 a.w, .int .i64 b.x, .int .i64 b.w, .func (.func 27) #[] #[], .func (.func 28) #[] #[]] w fun e w' => e = .returned (.tuple #[.int .i64 px, .int .i64 pw]) ∧ w = w'))
    (hy : Hid (∀ w, Calls Try.prog 26 #[.int .i64 a.y, .int .i64 a.h, .int .i64 b.y, .int .i64 b.h, .func (.func 27) #[] #[], .func (.func 28) #[] #[]] w fun e w' => e = .returned (.tuple #[.int .i64 py, .int .i64 ph]) ∧ w = w')) (ea : a.empty = false) (eb : b.empty = false) (h1 : 0 < pw) (h2 : 0 < ph) :
    Calls Try.prog 9 #[a.v, b.v] w fun e w' => e = .returned (Rc.mk px py pw ph).v ∧ Below w.heap.size w w' := by
  go_enter Try.func9, Try.ntmps9
  go_wp2_with fail
  refine (hx.out _).mono ?_
  rintro e w' ⟨rfl, rfl⟩
  go_wp2_with fail
  refine (hy.out _).mono ?_
  rintro e w' ⟨rfl, rfl⟩
  go_wp2_with fail
  obtain ⟨W, hW, A, B, C, D, bel, hz⟩ := boxes4 w #[.int .i64 a.x, .int .i64 a.y, .int .i64 a.w, .int .i64 a.h] #[.int .i64 b.x, .int .i64 b.y, .int .i64 b.w, .int .i64 b.h] #[.int .i64 0, .int .i64 0, .int .i64 0, .int .i64 0] #[.int .i64 px, .int .i64 py, .int .i64 pw, .int .i64 ph] 23 23 23 23
  rw [hW]
  clear hW
  refine (empty_any _ _ _ _ _).mono ?_
  rintro e w1 ⟨rfl, hb1⟩
  replace A := A.keep hb1
  replace B := B.keep hb1
  replace C := C.keep hb1
  replace D := D.keep hb1
  replace bel := below_next bel (by omega) hb1
  clear hb1 hz
  have ⟨b0, b1, b2, b3⟩ := B.four
  have ⟨c0, c1, c2, c3⟩ := C.four
  have ⟨d0, d1, d2, d3⟩ := D.four
  have f0 := C.frozen 0
  have f1 := C.frozen 1
  have f2 := C.frozen 2
  have f3 := C.frozen 3
  go_wp2_with fail
  clear b0 b1 b2 b3 c0 c1 c2 c3 d0 d1 d2 d3 f0 f1 f2 f3
  refine (empty_any _ _ _ _ _).mono ?_
  rintro e w2 ⟨rfl, hb2⟩
  replace C := C.keep hb2
  replace D := D.keep hb2
  replace bel := below_next bel bel.size hb2
  clear hb2
  have ⟨c0, c1, c2, c3⟩ := C.four
  have ⟨d0, d1, d2, d3⟩ := D.four
  have f0 := C.frozen 0
  have f1 := C.frozen 1
  have f2 := C.frozen 2
  have f3 := C.frozen 3
  go_wp2_with fail
  have C4 := (((C.set_ 0 (.int .i64 (Rc.mk px py pw ph).x)).set_ 1 (.int .i64 (Rc.mk px py pw ph).y)).set_ 2 (.int .i64 (Rc.mk px py pw ph).w)).set_ 3 (.int .i64 (Rc.mk px py pw ph).h)
  have b4 := (((bel.setCell (p := ⟨w.heap.size + 1 + 1, 0, none⟩) (by simp; omega) (.int .i64 (Rc.mk px py pw ph).x)).setCell (p := ⟨w.heap.size + 1 + 1, 1, none⟩) (by simp; omega) (.int .i64 (Rc.mk px py pw ph).y)).setCell (p := ⟨w.heap.size + 1 + 1, 2, none⟩) (by simp; omega) (.int .i64 (Rc.mk px py pw ph).w)).setCell (p := ⟨w.heap.size + 1 + 1, 3, none⟩) (by simp; omega) (.int .i64 (Rc.mk px py pw ph).h)
  exact bodyPost_ret (v := (Rc.mk px py pw ph).v) (results_cell_row (p := 4) rfl _ _ _ 23 _ (0, 0) _ rfl C4 Try.underlying23 rfl (by kernel_rfl)) rfl ⟨rfl, b4⟩
theorem max_bd (a b : Int) : a ≤ maxV a b ∧ b ≤ maxV a b ∧ (maxV a b = a ∨ maxV a b = b) := by unfold maxV; omega
theorem min_bd (a b : Int) : minV a b ≤ a ∧ minV a b ≤ b ∧ (minV a b = a ∨ minV a b = b) := by unfold minV; omega
theorem Rc.good_of_not_empty {r : Rc} (h : r.empty = false) : Good r.x r.y r.w r.h ∧ 0 < r.w ∧ 0 < r.h := by
  have hg : r.good = true := by
    cases hg : r.good with
    | true => rfl
    | false => simp [Rc.empty, emptyB, areaV, hg] at h
  have G := good_of hg
  have hne : r.w * r.h ≠ 0 := by simpa [Rc.empty, emptyB, areaV, hg] using h
  have h1 := G.w0
  have h2 := G.h0
  refine ⟨G, ?_, ?_⟩
  · rcases Int.lt_or_eq_of_le h1 with h | h
    · exact h
    · rw [← h] at hne; simp at hne
  · rcases Int.lt_or_eq_of_le h2 with h | h
    · exact h
    · rw [← h] at hne; simp at hne
theorem Rc.empty_of_good {r : Rc} (g : Good r.x r.y r.w r.h) (h1 : 0 < r.w) (h2 : 0 < r.h) : r.empty = false := by
  have := Int.mul_pos h1 h2
  simp [Rc.empty, emptyB, areaV, of_good g]
  omega
/-- of two that have pixels no sum goes round -/
theorem span_in (a n b m : Int) (ha : -1048576 ≤ a) (ha' : a ≤ 1048576) (hb : -1048576 ≤ b) (hb' : b ≤ 1048576) (hn : 0 ≤ n) (hn' : a + n ≤ 1048576) (hm : 0 ≤ m) (hm' : b + m ≤ 1048576) (w : World) :
    Calls Try.prog 26 #[.int .i64 a, .int .i64 n, .int .i64 b, .int .i64 m, .func (.func 27) #[] #[], .func (.func 28) #[] #[]] w fun e w' =>
    e = .returned (.tuple #[.int .i64 (maxV a b), .int .i64 (minV (a + n) (b + m) - maxV a b)]) ∧ w = w' := by
  have h := span_ml a n b m w
  have ⟨x1, x2, x3⟩ := max_bd a b
  have ⟨y1, y2, y3⟩ := min_bd (a + n) (b + m)
  rw [show wrap64 (a + n) = a + n by unfold wrap64; omega, show wrap64 (b + m) = b + m by unfold wrap64; omega, show wrap64 (minV (a + n) (b + m) - maxV a b) = minV (a + n) (b + m) - maxV a b by unfold wrap64; omega] at h
  exact h
theorem and_any (a b : Rc) (w : World) : Calls Try.prog 9 #[a.v, b.v] w fun e w' => e = .returned (andR a b).v ∧ Below w.heap.size w w' := by
  cases ea : a.empty with
  | true =>
    rw [show andR a b = zeroR by simp [andR, ea]]
    exact and_a a b _ _ _ _ w (fun w => span_ml _ _ _ _ w) (fun w => span_ml _ _ _ _ w) ea
  | false =>
    cases eb : b.empty with
    | true =>
      rw [show andR a b = zeroR by simp [andR, eb]]
      exact and_b a b _ _ _ _ w (fun w => span_ml _ _ _ _ w) (fun w => span_ml _ _ _ _ w) ea eb
    | false =>
      obtain ⟨⟨a1, a2, a3, a4, a5, a6, a7, a8⟩, _, _⟩ := Rc.good_of_not_empty ea
      obtain ⟨⟨b1, b2, b3, b4, b5, b6, b7, b8⟩, _, _⟩ := Rc.good_of_not_empty eb
      have hx : Hid (∀ w, _) := fun w => span_in a.x a.w b.x b.w a1 a2 b1 b2 a5 a6 b5 b6 w
      have hy : Hid (∀ w, _) := fun w => span_in a.y a.h b.y b.h a3 a4 b3 b4 a7 a8 b7 b8 w
      by_cases h1 : minV (a.x + a.w) (b.x + b.w) - maxV a.x b.x ≤ 0
      · rw [show andR a b = zeroR by simp only [andR, ea, eb, h1, true_or, if_true, Bool.false_eq_true, or_self, if_false]]
        exact and_w a b _ _ _ _ w hx hy ea eb h1
      · by_cases h2 : minV (a.y + a.h) (b.y + b.h) - maxV a.y b.y ≤ 0
        · rw [show andR a b = zeroR by simp only [andR, ea, eb, h2, or_true, if_true, Bool.false_eq_true, or_self, if_false]]
          exact and_h a b _ _ _ _ w hx hy ea eb (by omega) h2
        · have e : andR a b = ⟨maxV a.x b.x, maxV a.y b.y, minV (a.x + a.w) (b.x + b.w) - maxV a.x b.x, minV (a.y + a.h) (b.y + b.h) - maxV a.y b.y⟩ := by simp only [andR, ea, eb, h1, h2, Bool.false_eq_true, or_self, if_false]
          rw [e]
          exact and_in a b _ _ _ _ w hx hy ea eb (by omega) (by omega)
end Go.Proofs.Ytlmnfcocgocjiaa
