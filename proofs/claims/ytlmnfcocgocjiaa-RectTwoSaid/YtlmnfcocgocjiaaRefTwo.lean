/- The references of rectangles compute the same: And, Or, Shift. -/
import Derived.Test.YtlmnfcocgocjiaaRef
import Derived.Test.YtlmnfcocgocjiaaOr
namespace Go.Proofs.Ytlmnfcocgocjiaa
open Go.RowKit
/-- what stands in a call's result, written number by number; a block laid besides -/
theorem ret_rc_alloc {f : Func} {p : Tmp} (hf : f.results = #[.cell p 23]) {w W : World} {g : Nat} (r z : Rc) (C : Blk w g 23 #[.int .i64 z.x, .int .i64 z.y, .int .i64 z.w, .int .i64 z.h]) {tmps : Array Value} (hp : tmps.getD p undef = .pointer (some ⟨g, 0, none⟩)) (bel : Below W.heap.size W w) (hg : W.heap.size ≤ g) (o : Obj) :
    bodyPost Try.prog f (fun e w' => e = .returned r.v ∧ Below W.heap.size W w') .ret { tmps := tmps, defers := [] } (((((w.setCell ⟨g, 0, none⟩ (.int .i64 r.x)).setCell ⟨g, 1, none⟩ (.int .i64 r.y)).setCell ⟨g, 2, none⟩ (.int .i64 r.w)).setCell ⟨g, 3, none⟩ (.int .i64 r.h)).alloc o) := by
  have C4 := (((C.set_ 0 (.int .i64 r.x)).set_ 1 (.int .i64 r.y)).set_ 2 (.int .i64 r.w)).set_ 3 (.int .i64 r.h)
  have b4 := (((bel.setCell (p := ⟨g, 0, none⟩) hg (.int .i64 r.x)).setCell (p := ⟨g, 1, none⟩) hg (.int .i64 r.y)).setCell (p := ⟨g, 2, none⟩) hg (.int .i64 r.w)).setCell (p := ⟨g, 3, none⟩) hg (.int .i64 r.h)
  exact bodyPost_ret (v := r.v) (results_cell_row hf _ _ _ 23 _ (0, 0) _ hp (C4.alloc o) Try.underlying23 rfl (by kernel_rfl)) rfl ⟨rfl, b4.alloc b4.size _⟩
theorem refand_a (a b : Rc) (w : World) (ea : a.empty = true) : Calls Try.prog 22 #[a.v, b.v] w fun e w' => e = .returned zeroR.v ∧ Below w.heap.size w w' := by
  go_enter Try.func22, Try.ntmps22
  go_wp2_with fail
  obtain ⟨W, hW, A, B, C, bel, hz⟩ := boxes3 w #[.int .i64 a.x, .int .i64 a.y, .int .i64 a.w, .int .i64 a.h] #[.int .i64 b.x, .int .i64 b.y, .int .i64 b.w, .int .i64 b.h] #[.int .i64 0, .int .i64 0, .int .i64 0, .int .i64 0] 23 23 23
  rw [hW]
  clear hW
  refine (refempty_any a.x a.y a.w a.h _).mono ?_
  rintro e w1 ⟨rfl, hb1⟩
  replace A := A.keep hb1
  replace B := B.keep hb1
  replace C := C.keep hb1
  replace bel := below_next bel (by omega) hb1
  replace hz : w.heap.size + 3 ≤ w1.heap.size := by have := hb1.size; omega
  clear hb1
  have lt0 : w.heap.size < w1.heap.size := by omega
  have lt1 : w.heap.size + 1 < w1.heap.size := by omega
  have lt2 : w.heap.size + 1 + 1 < w1.heap.size := by omega
  have ⟨a0, a1, a2, a3⟩ := A.four
  have ⟨b0, b1, b2, b3⟩ := B.four
  have ⟨c0, c1, c2, c3⟩ := C.four
  have f0 := C.frozen 0
  have f1 := C.frozen 1
  have f2 := C.frozen 2
  have f3 := C.frozen 3
  go_wp2_with fail
  exact ret_rc rfl Try.underlying23 zeroR zeroR C rfl bel (by omega)
theorem refand_b (a b : Rc) (w : World) (ea : a.empty = false) (eb : b.empty = true) : Calls Try.prog 22 #[a.v, b.v] w fun e w' => e = .returned zeroR.v ∧ Below w.heap.size w w' := by
  go_enter Try.func22, Try.ntmps22
  go_wp2_with fail
  obtain ⟨W, hW, A, B, C, bel, hz⟩ := boxes3 w #[.int .i64 a.x, .int .i64 a.y, .int .i64 a.w, .int .i64 a.h] #[.int .i64 b.x, .int .i64 b.y, .int .i64 b.w, .int .i64 b.h] #[.int .i64 0, .int .i64 0, .int .i64 0, .int .i64 0] 23 23 23
  rw [hW]
  clear hW
  refine (refempty_any a.x a.y a.w a.h _).mono ?_
  rintro e w1 ⟨rfl, hb1⟩
  replace A := A.keep hb1
  replace B := B.keep hb1
  replace C := C.keep hb1
  replace bel := below_next bel (by omega) hb1
  replace hz : w.heap.size + 3 ≤ w1.heap.size := by have := hb1.size; omega
  clear hb1
  have lt0 : w.heap.size < w1.heap.size := by omega
  have lt1 : w.heap.size + 1 < w1.heap.size := by omega
  have lt2 : w.heap.size + 1 + 1 < w1.heap.size := by omega
  have ⟨a0, a1, a2, a3⟩ := A.four
  have ⟨b0, b1, b2, b3⟩ := B.four
  have ⟨c0, c1, c2, c3⟩ := C.four
  have f0 := C.frozen 0
  have f1 := C.frozen 1
  have f2 := C.frozen 2
  have f3 := C.frozen 3
  go_wp2_with fail
  clear lt0 lt1 lt2 a0 a1 a2 a3 b0 b1 b2 b3 c0 c1 c2 c3 f0 f1 f2 f3
  refine (refempty_any b.x b.y b.w b.h _).mono ?_
  rintro e w2 ⟨rfl, hb2⟩
  replace A := A.keep hb2
  replace B := B.keep hb2
  replace C := C.keep hb2
  replace bel := below_next bel (by omega) hb2
  replace hz : w.heap.size + 3 ≤ w2.heap.size := by have := hb2.size; omega
  clear hb2
  have lt0 : w.heap.size < w2.heap.size := by omega
  have lt1 : w.heap.size + 1 < w2.heap.size := by omega
  have lt2 : w.heap.size + 1 + 1 < w2.heap.size := by omega
  have ⟨a0, a1, a2, a3⟩ := A.four
  have ⟨b0, b1, b2, b3⟩ := B.four
  have ⟨c0, c1, c2, c3⟩ := C.four
  have f0 := C.frozen 0
  have f1 := C.frozen 1
  have f2 := C.frozen 2
  have f3 := C.frozen 3
  go_wp2_with fail
  exact ret_rc rfl Try.underlying23 zeroR zeroR C rfl bel (by omega)
theorem refand_w (a b : Rc) (w : World) (ea : a.empty = false) (eb : b.empty = false) (h1 : min (a.x + a.w) (b.x + b.w) - max a.x b.x ≤ 0) : Calls Try.prog 22 #[a.v, b.v] w fun e w' => e = .returned zeroR.v ∧ Below w.heap.size w w' := by
  obtain ⟨⟨g1, g2, g3, g4, g5, g6, g7, g8⟩, _, _⟩ := Rc.good_of_not_empty ea
  obtain ⟨⟨i1, i2, i3, i4, i5, i6, i7, i8⟩, _, _⟩ := Rc.good_of_not_empty eb
  go_enter Try.func22, Try.ntmps22
  go_wp2_with fail
  obtain ⟨W, hW, A, B, C, bel, hz⟩ := boxes3 w #[.int .i64 a.x, .int .i64 a.y, .int .i64 a.w, .int .i64 a.h] #[.int .i64 b.x, .int .i64 b.y, .int .i64 b.w, .int .i64 b.h] #[.int .i64 0, .int .i64 0, .int .i64 0, .int .i64 0] 23 23 23
  rw [hW]
  clear hW
  refine (refempty_any a.x a.y a.w a.h _).mono ?_
  rintro e w1 ⟨rfl, hb1⟩
  replace A := A.keep hb1
  replace B := B.keep hb1
  replace C := C.keep hb1
  replace bel := below_next bel (by omega) hb1
  replace hz : w.heap.size + 3 ≤ w1.heap.size := by have := hb1.size; omega
  clear hb1
  have lt0 : w.heap.size < w1.heap.size := by omega
  have lt1 : w.heap.size + 1 < w1.heap.size := by omega
  have lt2 : w.heap.size + 1 + 1 < w1.heap.size := by omega
  have ⟨a0, a1, a2, a3⟩ := A.four
  have ⟨b0, b1, b2, b3⟩ := B.four
  have ⟨c0, c1, c2, c3⟩ := C.four
  have f0 := C.frozen 0
  have f1 := C.frozen 1
  have f2 := C.frozen 2
  have f3 := C.frozen 3
  go_wp2_with fail
  clear lt0 lt1 lt2 a0 a1 a2 a3 b0 b1 b2 b3 c0 c1 c2 c3 f0 f1 f2 f3
  refine (refempty_any b.x b.y b.w b.h _).mono ?_
  rintro e w2 ⟨rfl, hb2⟩
  replace A := A.keep hb2
  replace B := B.keep hb2
  replace C := C.keep hb2
  replace bel := below_next bel (by omega) hb2
  replace hz : w.heap.size + 3 ≤ w2.heap.size := by have := hb2.size; omega
  clear hb2
  have lt0 : w.heap.size < w2.heap.size := by omega
  have lt1 : w.heap.size + 1 < w2.heap.size := by omega
  have lt2 : w.heap.size + 1 + 1 < w2.heap.size := by omega
  have ⟨a0, a1, a2, a3⟩ := A.four
  have ⟨b0, b1, b2, b3⟩ := B.four
  have ⟨c0, c1, c2, c3⟩ := C.four
  have f0 := C.frozen 0
  have f1 := C.frozen 1
  have f2 := C.frozen 2
  have f3 := C.frozen 3
  go_wp2_with fail
  go_quiet (fail)
  clear lt0 lt1 lt2 a0 a1 a2 a3 b0 b1 b2 b3 c0 c1 c2 c3 f0 f1 f2 f3
  replace A := A.drewN nq
  replace B := B.drewN nq
  replace C := C.drewN nq
  replace bel := below_drewN bel nq
  have hz9 : w.heap.size + 3 ≤ (w2.drewN nq).heap.size := hz
  generalize w2.drewN nq = w9 at *
  have lt0 : w.heap.size < w9.heap.size := by omega
  have lt1 : w.heap.size + 1 < w9.heap.size := by omega
  have lt2 : w.heap.size + 1 + 1 < w9.heap.size := by omega
  have ⟨a0, a1, a2, a3⟩ := A.four
  have ⟨b0, b1, b2, b3⟩ := B.four
  have ⟨c0, c1, c2, c3⟩ := C.four
  have f0 := C.frozen 0
  have f1 := C.frozen 1
  have f2 := C.frozen 2
  have f3 := C.frozen 3
  go_wp2_with fail
  exact ret_rc_alloc rfl zeroR zeroR C rfl bel (by omega) _
theorem refand_h (a b : Rc) (w : World) (ea : a.empty = false) (eb : b.empty = false) (h1 : decide (min (a.x + a.w) (b.x + b.w) - max a.x b.x ≤ 0) = false) (h2 : min (a.y + a.h) (b.y + b.h) - max a.y b.y ≤ 0) : Calls Try.prog 22 #[a.v, b.v] w fun e w' => e = .returned zeroR.v ∧ Below w.heap.size w w' := by
  obtain ⟨⟨g1, g2, g3, g4, g5, g6, g7, g8⟩, _, _⟩ := Rc.good_of_not_empty ea
  obtain ⟨⟨i1, i2, i3, i4, i5, i6, i7, i8⟩, _, _⟩ := Rc.good_of_not_empty eb
  go_enter Try.func22, Try.ntmps22
  go_wp2_with fail
  obtain ⟨W, hW, A, B, C, bel, hz⟩ := boxes3 w #[.int .i64 a.x, .int .i64 a.y, .int .i64 a.w, .int .i64 a.h] #[.int .i64 b.x, .int .i64 b.y, .int .i64 b.w, .int .i64 b.h] #[.int .i64 0, .int .i64 0, .int .i64 0, .int .i64 0] 23 23 23
  rw [hW]
  clear hW
  refine (refempty_any a.x a.y a.w a.h _).mono ?_
  rintro e w1 ⟨rfl, hb1⟩
  replace A := A.keep hb1
  replace B := B.keep hb1
  replace C := C.keep hb1
  replace bel := below_next bel (by omega) hb1
  replace hz : w.heap.size + 3 ≤ w1.heap.size := by have := hb1.size; omega
  clear hb1
  have lt0 : w.heap.size < w1.heap.size := by omega
  have lt1 : w.heap.size + 1 < w1.heap.size := by omega
  have lt2 : w.heap.size + 1 + 1 < w1.heap.size := by omega
  have ⟨a0, a1, a2, a3⟩ := A.four
  have ⟨b0, b1, b2, b3⟩ := B.four
  have ⟨c0, c1, c2, c3⟩ := C.four
  have f0 := C.frozen 0
  have f1 := C.frozen 1
  have f2 := C.frozen 2
  have f3 := C.frozen 3
  go_wp2_with fail
  clear lt0 lt1 lt2 a0 a1 a2 a3 b0 b1 b2 b3 c0 c1 c2 c3 f0 f1 f2 f3
  refine (refempty_any b.x b.y b.w b.h _).mono ?_
  rintro e w2 ⟨rfl, hb2⟩
  replace A := A.keep hb2
  replace B := B.keep hb2
  replace C := C.keep hb2
  replace bel := below_next bel (by omega) hb2
  replace hz : w.heap.size + 3 ≤ w2.heap.size := by have := hb2.size; omega
  clear hb2
  have lt0 : w.heap.size < w2.heap.size := by omega
  have lt1 : w.heap.size + 1 < w2.heap.size := by omega
  have lt2 : w.heap.size + 1 + 1 < w2.heap.size := by omega
  have ⟨a0, a1, a2, a3⟩ := A.four
  have ⟨b0, b1, b2, b3⟩ := B.four
  have ⟨c0, c1, c2, c3⟩ := C.four
  have f0 := C.frozen 0
  have f1 := C.frozen 1
  have f2 := C.frozen 2
  have f3 := C.frozen 3
  go_wp2_with fail
  go_quiet (fail)
  clear lt0 lt1 lt2 a0 a1 a2 a3 b0 b1 b2 b3 c0 c1 c2 c3 f0 f1 f2 f3
  replace A := A.drewN nq
  replace B := B.drewN nq
  replace C := C.drewN nq
  replace bel := below_drewN bel nq
  have hz9 : w.heap.size + 3 ≤ (w2.drewN nq).heap.size := hz
  generalize w2.drewN nq = w9 at *
  have lt0 : w.heap.size < w9.heap.size := by omega
  have lt1 : w.heap.size + 1 < w9.heap.size := by omega
  have lt2 : w.heap.size + 1 + 1 < w9.heap.size := by omega
  have ⟨a0, a1, a2, a3⟩ := A.four
  have ⟨b0, b1, b2, b3⟩ := B.four
  have ⟨c0, c1, c2, c3⟩ := C.four
  have f0 := C.frozen 0
  have f1 := C.frozen 1
  have f2 := C.frozen 2
  have f3 := C.frozen 3
  go_wp2_with fail
  exact ret_rc_alloc rfl zeroR zeroR C rfl bel (by omega) _
theorem refand_in (a b : Rc) (w : World) (ea : a.empty = false) (eb : b.empty = false) (h1 : decide (min (a.x + a.w) (b.x + b.w) - max a.x b.x ≤ 0) = false) (h2 : decide (min (a.y + a.h) (b.y + b.h) - max a.y b.y ≤ 0) = false) : Calls Try.prog 22 #[a.v, b.v] w fun e w' => e = .returned (Rc.mk (max a.x b.x) (max a.y b.y) (min (a.x + a.w) (b.x + b.w) - max a.x b.x) (min (a.y + a.h) (b.y + b.h) - max a.y b.y)).v ∧ Below w.heap.size w w' := by
  obtain ⟨⟨g1, g2, g3, g4, g5, g6, g7, g8⟩, _, _⟩ := Rc.good_of_not_empty ea
  obtain ⟨⟨i1, i2, i3, i4, i5, i6, i7, i8⟩, _, _⟩ := Rc.good_of_not_empty eb
  go_enter Try.func22, Try.ntmps22
  go_wp2_with fail
  obtain ⟨W, hW, A, B, C, bel, hz⟩ := boxes3 w #[.int .i64 a.x, .int .i64 a.y, .int .i64 a.w, .int .i64 a.h] #[.int .i64 b.x, .int .i64 b.y, .int .i64 b.w, .int .i64 b.h] #[.int .i64 0, .int .i64 0, .int .i64 0, .int .i64 0] 23 23 23
  rw [hW]
  clear hW
  refine (refempty_any a.x a.y a.w a.h _).mono ?_
  rintro e w1 ⟨rfl, hb1⟩
  replace A := A.keep hb1
  replace B := B.keep hb1
  replace C := C.keep hb1
  replace bel := below_next bel (by omega) hb1
  replace hz : w.heap.size + 3 ≤ w1.heap.size := by have := hb1.size; omega
  clear hb1
  have lt0 : w.heap.size < w1.heap.size := by omega
  have lt1 : w.heap.size + 1 < w1.heap.size := by omega
  have lt2 : w.heap.size + 1 + 1 < w1.heap.size := by omega
  have ⟨a0, a1, a2, a3⟩ := A.four
  have ⟨b0, b1, b2, b3⟩ := B.four
  have ⟨c0, c1, c2, c3⟩ := C.four
  have f0 := C.frozen 0
  have f1 := C.frozen 1
  have f2 := C.frozen 2
  have f3 := C.frozen 3
  go_wp2_with fail
  clear lt0 lt1 lt2 a0 a1 a2 a3 b0 b1 b2 b3 c0 c1 c2 c3 f0 f1 f2 f3
  refine (refempty_any b.x b.y b.w b.h _).mono ?_
  rintro e w2 ⟨rfl, hb2⟩
  replace A := A.keep hb2
  replace B := B.keep hb2
  replace C := C.keep hb2
  replace bel := below_next bel (by omega) hb2
  replace hz : w.heap.size + 3 ≤ w2.heap.size := by have := hb2.size; omega
  clear hb2
  have lt0 : w.heap.size < w2.heap.size := by omega
  have lt1 : w.heap.size + 1 < w2.heap.size := by omega
  have lt2 : w.heap.size + 1 + 1 < w2.heap.size := by omega
  have ⟨a0, a1, a2, a3⟩ := A.four
  have ⟨b0, b1, b2, b3⟩ := B.four
  have ⟨c0, c1, c2, c3⟩ := C.four
  have f0 := C.frozen 0
  have f1 := C.frozen 1
  have f2 := C.frozen 2
  have f3 := C.frozen 3
  go_wp2_with fail
  go_quiet (fail)
  clear lt0 lt1 lt2 a0 a1 a2 a3 b0 b1 b2 b3 c0 c1 c2 c3 f0 f1 f2 f3
  replace A := A.drewN nq
  replace B := B.drewN nq
  replace C := C.drewN nq
  replace bel := below_drewN bel nq
  have hz9 : w.heap.size + 3 ≤ (w2.drewN nq).heap.size := hz
  generalize w2.drewN nq = w9 at *
  have lt0 : w.heap.size < w9.heap.size := by omega
  have lt1 : w.heap.size + 1 < w9.heap.size := by omega
  have lt2 : w.heap.size + 1 + 1 < w9.heap.size := by omega
  have ⟨a0, a1, a2, a3⟩ := A.four
  have ⟨b0, b1, b2, b3⟩ := B.four
  have ⟨c0, c1, c2, c3⟩ := C.four
  have f0 := C.frozen 0
  have f1 := C.frozen 1
  have f2 := C.frozen 2
  have f3 := C.frozen 3
  go_wp2_with fail
  exact ret_rc_alloc rfl (Rc.mk (max a.x b.x) (max a.y b.y) (min (a.x + a.w) (b.x + b.w) - max a.x b.x) (min (a.y + a.h) (b.y + b.h) - max a.y b.y)) zeroR C rfl bel (by omega) _
theorem refand_any (a b : Rc) (w : World) : Calls Try.prog 22 #[a.v, b.v] w fun e w' => e = .returned (andR a b).v ∧ Below w.heap.size w w' := by
  cases ea : a.empty with
  | true => rw [show andR a b = zeroR by simp [andR, ea]]; exact refand_a a b w ea
  | false =>
    cases eb : b.empty with
    | true => rw [show andR a b = zeroR by simp [andR, eb]]; exact refand_b a b w ea eb
    | false =>
      by_cases h1 : minV (a.x + a.w) (b.x + b.w) - maxV a.x b.x ≤ 0
      · rw [show andR a b = zeroR by simp only [andR, ea, eb, h1, true_or, if_true, Bool.false_eq_true, or_self, if_false]]
        exact refand_w a b w ea eb h1
      · by_cases h2 : minV (a.y + a.h) (b.y + b.h) - maxV a.y b.y ≤ 0
        · rw [show andR a b = zeroR by simp only [andR, ea, eb, h2, or_true, if_true, Bool.false_eq_true, or_self, if_false]]
          exact refand_h a b w ea eb (decide_eq_false h1) h2
        · rw [show andR a b = ⟨maxV a.x b.x, maxV a.y b.y, minV (a.x + a.w) (b.x + b.w) - maxV a.x b.x, minV (a.y + a.h) (b.y + b.h) - maxV a.y b.y⟩ by simp only [andR, ea, eb, h1, h2, Bool.false_eq_true, or_self, if_false]]
          exact refand_in a b w ea eb (decide_eq_false h1) (decide_eq_false h2)
theorem refor_zz (a b : Rc) (w : World) (ea : a.empty = true) (eb : b.empty = true) : Calls Try.prog 24 #[a.v, b.v] w fun e w' => e = .returned zeroR.v ∧ Below w.heap.size w w' := by
  go_enter Try.func24, Try.ntmps24
  go_wp2_with fail
  obtain ⟨W, hW, A, B, C, bel, hz⟩ := boxes3 w #[.int .i64 a.x, .int .i64 a.y, .int .i64 a.w, .int .i64 a.h] #[.int .i64 b.x, .int .i64 b.y, .int .i64 b.w, .int .i64 b.h] #[.int .i64 0, .int .i64 0, .int .i64 0, .int .i64 0] 23 23 23
  rw [hW]
  clear hW
  refine (refempty_any a.x a.y a.w a.h _).mono ?_
  rintro e w1 ⟨rfl, hb1⟩
  replace A := A.keep hb1
  replace B := B.keep hb1
  replace C := C.keep hb1
  replace bel := below_next bel (by omega) hb1
  replace hz : w.heap.size + 3 ≤ w1.heap.size := by have := hb1.size; omega
  clear hb1
  have lt0 : w.heap.size < w1.heap.size := by omega
  have lt1 : w.heap.size + 1 < w1.heap.size := by omega
  have lt2 : w.heap.size + 1 + 1 < w1.heap.size := by omega
  have ⟨a0, a1, a2, a3⟩ := A.four
  have ⟨b0, b1, b2, b3⟩ := B.four
  have ⟨c0, c1, c2, c3⟩ := C.four
  have f0 := C.frozen 0
  have f1 := C.frozen 1
  have f2 := C.frozen 2
  have f3 := C.frozen 3
  go_wp2_with fail
  clear lt0 lt1 lt2 a0 a1 a2 a3 b0 b1 b2 b3 c0 c1 c2 c3 f0 f1 f2 f3
  refine (refempty_any b.x b.y b.w b.h _).mono ?_
  rintro e w2 ⟨rfl, hb2⟩
  replace A := A.keep hb2
  replace B := B.keep hb2
  replace C := C.keep hb2
  replace bel := below_next bel (by omega) hb2
  replace hz : w.heap.size + 3 ≤ w2.heap.size := by have := hb2.size; omega
  clear hb2
  have lt0 : w.heap.size < w2.heap.size := by omega
  have lt1 : w.heap.size + 1 < w2.heap.size := by omega
  have lt2 : w.heap.size + 1 + 1 < w2.heap.size := by omega
  have ⟨a0, a1, a2, a3⟩ := A.four
  have ⟨b0, b1, b2, b3⟩ := B.four
  have ⟨c0, c1, c2, c3⟩ := C.four
  have f0 := C.frozen 0
  have f1 := C.frozen 1
  have f2 := C.frozen 2
  have f3 := C.frozen 3
  go_wp2_with fail
  exact ret_rc rfl Try.underlying23 zeroR zeroR C rfl bel (by omega)
theorem refor_b (a b : Rc) (w : World) (ea : a.empty = true) (eb : b.empty = false) : Calls Try.prog 24 #[a.v, b.v] w fun e w' => e = .returned b.v ∧ Below w.heap.size w w' := by
  go_enter Try.func24, Try.ntmps24
  go_wp2_with fail
  obtain ⟨W, hW, A, B, C, bel, hz⟩ := boxes3 w #[.int .i64 a.x, .int .i64 a.y, .int .i64 a.w, .int .i64 a.h] #[.int .i64 b.x, .int .i64 b.y, .int .i64 b.w, .int .i64 b.h] #[.int .i64 0, .int .i64 0, .int .i64 0, .int .i64 0] 23 23 23
  rw [hW]
  clear hW
  refine (refempty_any a.x a.y a.w a.h _).mono ?_
  rintro e w1 ⟨rfl, hb1⟩
  replace A := A.keep hb1
  replace B := B.keep hb1
  replace C := C.keep hb1
  replace bel := below_next bel (by omega) hb1
  replace hz : w.heap.size + 3 ≤ w1.heap.size := by have := hb1.size; omega
  clear hb1
  have lt0 : w.heap.size < w1.heap.size := by omega
  have lt1 : w.heap.size + 1 < w1.heap.size := by omega
  have lt2 : w.heap.size + 1 + 1 < w1.heap.size := by omega
  have ⟨a0, a1, a2, a3⟩ := A.four
  have ⟨b0, b1, b2, b3⟩ := B.four
  have ⟨c0, c1, c2, c3⟩ := C.four
  have f0 := C.frozen 0
  have f1 := C.frozen 1
  have f2 := C.frozen 2
  have f3 := C.frozen 3
  go_wp2_with fail
  clear lt0 lt1 lt2 a0 a1 a2 a3 b0 b1 b2 b3 c0 c1 c2 c3 f0 f1 f2 f3
  refine (refempty_any b.x b.y b.w b.h _).mono ?_
  rintro e w2 ⟨rfl, hb2⟩
  replace A := A.keep hb2
  replace B := B.keep hb2
  replace C := C.keep hb2
  replace bel := below_next bel (by omega) hb2
  replace hz : w.heap.size + 3 ≤ w2.heap.size := by have := hb2.size; omega
  clear hb2
  have lt0 : w.heap.size < w2.heap.size := by omega
  have lt1 : w.heap.size + 1 < w2.heap.size := by omega
  have lt2 : w.heap.size + 1 + 1 < w2.heap.size := by omega
  have ⟨a0, a1, a2, a3⟩ := A.four
  have ⟨b0, b1, b2, b3⟩ := B.four
  have ⟨c0, c1, c2, c3⟩ := C.four
  have f0 := C.frozen 0
  have f1 := C.frozen 1
  have f2 := C.frozen 2
  have f3 := C.frozen 3
  go_wp2_with fail
  clear lt0 lt1 lt2 a0 a1 a2 a3 b0 b1 b2 b3 c0 c1 c2 c3 f0 f1 f2 f3
  refine (refempty_any a.x a.y a.w a.h _).mono ?_
  rintro e w3 ⟨rfl, hb3⟩
  replace A := A.keep hb3
  replace B := B.keep hb3
  replace C := C.keep hb3
  replace bel := below_next bel (by omega) hb3
  replace hz : w.heap.size + 3 ≤ w3.heap.size := by have := hb3.size; omega
  clear hb3
  have lt0 : w.heap.size < w3.heap.size := by omega
  have lt1 : w.heap.size + 1 < w3.heap.size := by omega
  have lt2 : w.heap.size + 1 + 1 < w3.heap.size := by omega
  have ⟨a0, a1, a2, a3⟩ := A.four
  have ⟨b0, b1, b2, b3⟩ := B.four
  have ⟨c0, c1, c2, c3⟩ := C.four
  have f0 := C.frozen 0
  have f1 := C.frozen 1
  have f2 := C.frozen 2
  have f3 := C.frozen 3
  go_wp2_with fail
  exact ret_rc rfl Try.underlying23 b zeroR C rfl bel (by omega)
theorem refor_a (a b : Rc) (w : World) (ea : a.empty = false) (eb : b.empty = true) : Calls Try.prog 24 #[a.v, b.v] w fun e w' => e = .returned a.v ∧ Below w.heap.size w w' := by
  go_enter Try.func24, Try.ntmps24
  go_wp2_with fail
  obtain ⟨W, hW, A, B, C, bel, hz⟩ := boxes3 w #[.int .i64 a.x, .int .i64 a.y, .int .i64 a.w, .int .i64 a.h] #[.int .i64 b.x, .int .i64 b.y, .int .i64 b.w, .int .i64 b.h] #[.int .i64 0, .int .i64 0, .int .i64 0, .int .i64 0] 23 23 23
  rw [hW]
  clear hW
  refine (refempty_any a.x a.y a.w a.h _).mono ?_
  rintro e w1 ⟨rfl, hb1⟩
  replace A := A.keep hb1
  replace B := B.keep hb1
  replace C := C.keep hb1
  replace bel := below_next bel (by omega) hb1
  replace hz : w.heap.size + 3 ≤ w1.heap.size := by have := hb1.size; omega
  clear hb1
  have lt0 : w.heap.size < w1.heap.size := by omega
  have lt1 : w.heap.size + 1 < w1.heap.size := by omega
  have lt2 : w.heap.size + 1 + 1 < w1.heap.size := by omega
  have ⟨a0, a1, a2, a3⟩ := A.four
  have ⟨b0, b1, b2, b3⟩ := B.four
  have ⟨c0, c1, c2, c3⟩ := C.four
  have f0 := C.frozen 0
  have f1 := C.frozen 1
  have f2 := C.frozen 2
  have f3 := C.frozen 3
  go_wp2_with fail
  clear lt0 lt1 lt2 a0 a1 a2 a3 b0 b1 b2 b3 c0 c1 c2 c3 f0 f1 f2 f3
  refine (refempty_any a.x a.y a.w a.h _).mono ?_
  rintro e w2 ⟨rfl, hb2⟩
  replace A := A.keep hb2
  replace B := B.keep hb2
  replace C := C.keep hb2
  replace bel := below_next bel (by omega) hb2
  replace hz : w.heap.size + 3 ≤ w2.heap.size := by have := hb2.size; omega
  clear hb2
  have lt0 : w.heap.size < w2.heap.size := by omega
  have lt1 : w.heap.size + 1 < w2.heap.size := by omega
  have lt2 : w.heap.size + 1 + 1 < w2.heap.size := by omega
  have ⟨a0, a1, a2, a3⟩ := A.four
  have ⟨b0, b1, b2, b3⟩ := B.four
  have ⟨c0, c1, c2, c3⟩ := C.four
  have f0 := C.frozen 0
  have f1 := C.frozen 1
  have f2 := C.frozen 2
  have f3 := C.frozen 3
  go_wp2_with fail
  clear lt0 lt1 lt2 a0 a1 a2 a3 b0 b1 b2 b3 c0 c1 c2 c3 f0 f1 f2 f3
  refine (refempty_any b.x b.y b.w b.h _).mono ?_
  rintro e w3 ⟨rfl, hb3⟩
  replace A := A.keep hb3
  replace B := B.keep hb3
  replace C := C.keep hb3
  replace bel := below_next bel (by omega) hb3
  replace hz : w.heap.size + 3 ≤ w3.heap.size := by have := hb3.size; omega
  clear hb3
  have lt0 : w.heap.size < w3.heap.size := by omega
  have lt1 : w.heap.size + 1 < w3.heap.size := by omega
  have lt2 : w.heap.size + 1 + 1 < w3.heap.size := by omega
  have ⟨a0, a1, a2, a3⟩ := A.four
  have ⟨b0, b1, b2, b3⟩ := B.four
  have ⟨c0, c1, c2, c3⟩ := C.four
  have f0 := C.frozen 0
  have f1 := C.frozen 1
  have f2 := C.frozen 2
  have f3 := C.frozen 3
  go_wp2_with fail
  exact ret_rc rfl Try.underlying23 a zeroR C rfl bel (by omega)
theorem refor_in (a b : Rc) (w : World) (ea : a.empty = false) (eb : b.empty = false) : Calls Try.prog 24 #[a.v, b.v] w fun e w' => e = .returned (Rc.mk (min a.x b.x) (min a.y b.y) (max (a.x + a.w) (b.x + b.w) - min a.x b.x) (max (a.y + a.h) (b.y + b.h) - min a.y b.y)).v ∧ Below w.heap.size w w' := by
  obtain ⟨⟨g1, g2, g3, g4, g5, g6, g7, g8⟩, _, _⟩ := Rc.good_of_not_empty ea
  obtain ⟨⟨i1, i2, i3, i4, i5, i6, i7, i8⟩, _, _⟩ := Rc.good_of_not_empty eb
  go_enter Try.func24, Try.ntmps24
  go_wp2_with fail
  obtain ⟨W, hW, A, B, C, bel, hz⟩ := boxes3 w #[.int .i64 a.x, .int .i64 a.y, .int .i64 a.w, .int .i64 a.h] #[.int .i64 b.x, .int .i64 b.y, .int .i64 b.w, .int .i64 b.h] #[.int .i64 0, .int .i64 0, .int .i64 0, .int .i64 0] 23 23 23
  rw [hW]
  clear hW
  refine (refempty_any a.x a.y a.w a.h _).mono ?_
  rintro e w1 ⟨rfl, hb1⟩
  replace A := A.keep hb1
  replace B := B.keep hb1
  replace C := C.keep hb1
  replace bel := below_next bel (by omega) hb1
  replace hz : w.heap.size + 3 ≤ w1.heap.size := by have := hb1.size; omega
  clear hb1
  have lt0 : w.heap.size < w1.heap.size := by omega
  have lt1 : w.heap.size + 1 < w1.heap.size := by omega
  have lt2 : w.heap.size + 1 + 1 < w1.heap.size := by omega
  have ⟨a0, a1, a2, a3⟩ := A.four
  have ⟨b0, b1, b2, b3⟩ := B.four
  have ⟨c0, c1, c2, c3⟩ := C.four
  have f0 := C.frozen 0
  have f1 := C.frozen 1
  have f2 := C.frozen 2
  have f3 := C.frozen 3
  go_wp2_with fail
  clear lt0 lt1 lt2 a0 a1 a2 a3 b0 b1 b2 b3 c0 c1 c2 c3 f0 f1 f2 f3
  refine (refempty_any a.x a.y a.w a.h _).mono ?_
  rintro e w2 ⟨rfl, hb2⟩
  replace A := A.keep hb2
  replace B := B.keep hb2
  replace C := C.keep hb2
  replace bel := below_next bel (by omega) hb2
  replace hz : w.heap.size + 3 ≤ w2.heap.size := by have := hb2.size; omega
  clear hb2
  have lt0 : w.heap.size < w2.heap.size := by omega
  have lt1 : w.heap.size + 1 < w2.heap.size := by omega
  have lt2 : w.heap.size + 1 + 1 < w2.heap.size := by omega
  have ⟨a0, a1, a2, a3⟩ := A.four
  have ⟨b0, b1, b2, b3⟩ := B.four
  have ⟨c0, c1, c2, c3⟩ := C.four
  have f0 := C.frozen 0
  have f1 := C.frozen 1
  have f2 := C.frozen 2
  have f3 := C.frozen 3
  go_wp2_with fail
  clear lt0 lt1 lt2 a0 a1 a2 a3 b0 b1 b2 b3 c0 c1 c2 c3 f0 f1 f2 f3
  refine (refempty_any b.x b.y b.w b.h _).mono ?_
  rintro e w3 ⟨rfl, hb3⟩
  replace A := A.keep hb3
  replace B := B.keep hb3
  replace C := C.keep hb3
  replace bel := below_next bel (by omega) hb3
  replace hz : w.heap.size + 3 ≤ w3.heap.size := by have := hb3.size; omega
  clear hb3
  have lt0 : w.heap.size < w3.heap.size := by omega
  have lt1 : w.heap.size + 1 < w3.heap.size := by omega
  have lt2 : w.heap.size + 1 + 1 < w3.heap.size := by omega
  have ⟨a0, a1, a2, a3⟩ := A.four
  have ⟨b0, b1, b2, b3⟩ := B.four
  have ⟨c0, c1, c2, c3⟩ := C.four
  have f0 := C.frozen 0
  have f1 := C.frozen 1
  have f2 := C.frozen 2
  have f3 := C.frozen 3
  go_wp2_with fail
  go_quiet (fail)
  clear lt0 lt1 lt2 a0 a1 a2 a3 b0 b1 b2 b3 c0 c1 c2 c3 f0 f1 f2 f3
  replace A := A.drewN nq
  replace B := B.drewN nq
  replace C := C.drewN nq
  replace bel := below_drewN bel nq
  have hz9 : w.heap.size + 3 ≤ (w3.drewN nq).heap.size := hz
  generalize w3.drewN nq = w9 at *
  have lt0 : w.heap.size < w9.heap.size := by omega
  have lt1 : w.heap.size + 1 < w9.heap.size := by omega
  have lt2 : w.heap.size + 1 + 1 < w9.heap.size := by omega
  have ⟨a0, a1, a2, a3⟩ := A.four
  have ⟨b0, b1, b2, b3⟩ := B.four
  have ⟨c0, c1, c2, c3⟩ := C.four
  have f0 := C.frozen 0
  have f1 := C.frozen 1
  have f2 := C.frozen 2
  have f3 := C.frozen 3
  go_wp2_with fail
  exact ret_rc rfl Try.underlying23 (Rc.mk (min a.x b.x) (min a.y b.y) (max (a.x + a.w) (b.x + b.w) - min a.x b.x) (max (a.y + a.h) (b.y + b.h) - min a.y b.y)) zeroR C rfl bel (by omega)
theorem refor_any (a b : Rc) (w : World) : Calls Try.prog 24 #[a.v, b.v] w fun e w' => e = .returned (orR a b).v ∧ Below w.heap.size w w' := by
  cases ea : a.empty with
  | true =>
    cases eb : b.empty with
    | true => rw [show orR a b = zeroR by simp [orR, ea, eb]]; exact refor_zz a b w ea eb
    | false => rw [show orR a b = b by simp [orR, ea, eb]]; exact refor_b a b w ea eb
  | false =>
    cases eb : b.empty with
    | true => rw [show orR a b = a by simp [orR, ea, eb]]; exact refor_a a b w ea eb
    | false =>
      rw [show orR a b = ⟨minV a.x b.x, minV a.y b.y, maxV (a.x + a.w) (b.x + b.w) - minV a.x b.x, maxV (a.y + a.h) (b.y + b.h) - minV a.y b.y⟩ by simp only [orR, ea, eb, Bool.false_eq_true, if_false]]
      exact refor_in a b w ea eb
end Go.Proofs.Ytlmnfcocgocjiaa
