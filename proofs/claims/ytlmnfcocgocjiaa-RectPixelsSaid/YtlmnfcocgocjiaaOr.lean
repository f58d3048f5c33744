/- rect.Or and rect.Shift: the least one that has both; a rectangle elsewhere. -/
import Derived.Test.YtlmnfcocgocjiaaAnd
namespace Go.Proofs.Ytlmnfcocgocjiaa
open Go.RowKit
def orR (a b : Rc) : Rc :=
  if a.empty = true then (if b.empty = true then zeroR else b) else if b.empty = true then a else
  ⟨minV a.x b.x, minV a.y b.y, maxV (a.x + a.w) (b.x + b.w) - minV a.x b.x, maxV (a.y + a.h) (b.y + b.h) - minV a.y b.y⟩
theorem spano_in (a n b m : Int) (ha : -1048576 ≤ a) (ha' : a ≤ 1048576) (hb : -1048576 ≤ b) (hb' : b ≤ 1048576) (hn : 0 ≤ n) (hn' : a + n ≤ 1048576) (hm : 0 ≤ m) (hm' : b + m ≤ 1048576) (w : World) :
    Calls Try.prog 26 #[.int .i64 a, .int .i64 n, .int .i64 b, .int .i64 m, .func (.func 28) #[] #[], .func (.func 27) #[] #[]] w fun e w' =>
    e = .returned (.tuple #[.int .i64 (minV a b), .int .i64 (maxV (a + n) (b + m) - minV a b)]) ∧ w = w' := by
  have h := span_lm a n b m w
  have ⟨x1, x2, x3⟩ := max_bd (a + n) (b + m)
  have ⟨y1, y2, y3⟩ := min_bd a b
  rw [show wrap64 (a + n) = a + n by unfold wrap64; omega, show wrap64 (b + m) = b + m by unfold wrap64; omega, show wrap64 (maxV (a + n) (b + m) - minV a b) = maxV (a + n) (b + m) - minV a b by unfold wrap64; omega] at h
  exact h
/-- what stands in a call's result, written number by number -/
theorem ret_rc {f : Func} {p : Tmp} (hf : f.results = #[.cell p 23]) (hu : Try.prog.underlying 23 = some (.struct (Try.prog.fieldsOf 23))) {w W : World} {g : Nat} (r z : Rc) (C : Blk w g 23 #[.int .i64 z.x, .int .i64 z.y, .int .i64 z.w, .int .i64 z.h]) {tmps : Array Value} (hp : tmps.getD p undef = .pointer (some ⟨g, 0, none⟩)) (bel : Below W.heap.size W w) (hg : W.heap.size ≤ g) :
    bodyPost Try.prog f (fun e w' => e = .returned r.v ∧ Below W.heap.size W w') .ret { tmps := tmps, defers := [] } ((((w.setCell ⟨g, 0, none⟩ (.int .i64 r.x)).setCell ⟨g, 1, none⟩ (.int .i64 r.y)).setCell ⟨g, 2, none⟩ (.int .i64 r.w)).setCell ⟨g, 3, none⟩ (.int .i64 r.h)) := by
  have C4 := (((C.set_ 0 (.int .i64 r.x)).set_ 1 (.int .i64 r.y)).set_ 2 (.int .i64 r.w)).set_ 3 (.int .i64 r.h)
  have b4 := (((bel.setCell (p := ⟨g, 0, none⟩) hg (.int .i64 r.x)).setCell (p := ⟨g, 1, none⟩) hg (.int .i64 r.y)).setCell (p := ⟨g, 2, none⟩) hg (.int .i64 r.w)).setCell (p := ⟨g, 3, none⟩) hg (.int .i64 r.h)
  exact bodyPost_ret (v := r.v) (results_cell_row hf _ _ _ 23 _ (0, 0) _ hp C4 Try.underlying23 rfl (by kernel_rfl)) rfl ⟨rfl, b4⟩
theorem or_zz (a b : Rc) (w : World) (ea : a.empty = true) (eb : b.empty = true) : Calls Try.prog 23 #[a.v, b.v] w fun e w' => e = .returned zeroR.v ∧ Below w.heap.size w w' := by
  go_enter Try.func23, Try.ntmps23
  go_wp2_with fail
  obtain ⟨W, hW, A, B, C, bel, hz⟩ := boxes3 w #[.int .i64 a.x, .int .i64 a.y, .int .i64 a.w, .int .i64 a.h] #[.int .i64 b.x, .int .i64 b.y, .int .i64 b.w, .int .i64 b.h] #[.int .i64 0, .int .i64 0, .int .i64 0, .int .i64 0] 23 23 23
  rw [hW]
  clear hW
  refine (empty_any a.x a.y a.w a.h _).mono ?_
  rintro e w1 ⟨rfl, hb1⟩
  replace A := A.keep hb1
  replace B := B.keep hb1
  replace C := C.keep hb1
  replace bel := below_next bel (by omega) hb1
  replace hz : w.heap.size + 3 ≤ w1.heap.size := by have := hb1.size; omega
  clear hb1
  have lt0 : w.heap.size < w1.heap.size := by omega
  have lt1 : w.heap.size + 1 < w1.heap.size := by omega
  have lt2 : w.heap.size + 1 + 1 < w1.heap.size := by omega
  have ⟨a0, a1, a2, a3⟩ := A.four
  have ⟨b0, b1, b2, b3⟩ := B.four
  have ⟨c0, c1, c2, c3⟩ := C.four
  have f0 := C.frozen 0
  have f1 := C.frozen 1
  have f2 := C.frozen 2
  have f3 := C.frozen 3
  go_wp2_with fail
  clear lt0 lt1 lt2 a0 a1 a2 a3 b0 b1 b2 b3 c0 c1 c2 c3 f0 f1 f2 f3
  refine (empty_any b.x b.y b.w b.h _).mono ?_
  rintro e w2 ⟨rfl, hb2⟩
  replace A := A.keep hb2
  replace B := B.keep hb2
  replace C := C.keep hb2
  replace bel := below_next bel (by omega) hb2
  replace hz : w.heap.size + 3 ≤ w2.heap.size := by have := hb2.size; omega
  clear hb2
  have lt0 : w.heap.size < w2.heap.size := by omega
  have lt1 : w.heap.size + 1 < w2.heap.size := by omega
  have lt2 : w.heap.size + 1 + 1 < w2.heap.size := by omega
  have ⟨a0, a1, a2, a3⟩ := A.four
  have ⟨b0, b1, b2, b3⟩ := B.four
  have ⟨c0, c1, c2, c3⟩ := C.four
  have f0 := C.frozen 0
  have f1 := C.frozen 1
  have f2 := C.frozen 2
  have f3 := C.frozen 3
  go_wp2_with fail
  exact ret_rc rfl Try.underlying23 zeroR zeroR C rfl bel (by omega)
theorem or_b (a b : Rc) (w : World) (ea : a.empty = true) (eb : b.empty = false) : Calls Try.prog 23 #[a.v, b.v] w fun e w' => e = .returned b.v ∧ Below w.heap.size w w' := by
  go_enter Try.func23, Try.ntmps23
  go_wp2_with fail
  obtain ⟨W, hW, A, B, C, bel, hz⟩ := boxes3 w #[.int .i64 a.x, .int .i64 a.y, .int .i64 a.w, .int .i64 a.h] #[.int .i64 b.x, .int .i64 b.y, .int .i64 b.w, .int .i64 b.h] #[.int .i64 0, .int .i64 0, .int .i64 0, .int .i64 0] 23 23 23
  rw [hW]
  clear hW
  refine (empty_any a.x a.y a.w a.h _).mono ?_
  rintro e w1 ⟨rfl, hb1⟩
  replace A := A.keep hb1
  replace B := B.keep hb1
  replace C := C.keep hb1
  replace bel := below_next bel (by omega) hb1
  replace hz : w.heap.size + 3 ≤ w1.heap.size := by have := hb1.size; omega
  clear hb1
  have lt0 : w.heap.size < w1.heap.size := by omega
  have lt1 : w.heap.size + 1 < w1.heap.size := by omega
  have lt2 : w.heap.size + 1 + 1 < w1.heap.size := by omega
  have ⟨a0, a1, a2, a3⟩ := A.four
  have ⟨b0, b1, b2, b3⟩ := B.four
  have ⟨c0, c1, c2, c3⟩ := C.four
  have f0 := C.frozen 0
  have f1 := C.frozen 1
  have f2 := C.frozen 2
  have f3 := C.frozen 3
  go_wp2_with fail
  clear lt0 lt1 lt2 a0 a1 a2 a3 b0 b1 b2 b3 c0 c1 c2 c3 f0 f1 f2 f3
  refine (empty_any b.x b.y b.w b.h _).mono ?_
  rintro e w2 ⟨rfl, hb2⟩
  replace A := A.keep hb2
  replace B := B.keep hb2
  replace C := C.keep hb2
  replace bel := below_next bel (by omega) hb2
  replace hz : w.heap.size + 3 ≤ w2.heap.size := by have := hb2.size; omega
  clear hb2
  have lt0 : w.heap.size < w2.heap.size := by omega
  have lt1 : w.heap.size + 1 < w2.heap.size := by omega
  have lt2 : w.heap.size + 1 + 1 < w2.heap.size := by omega
  have ⟨a0, a1, a2, a3⟩ := A.four
  have ⟨b0, b1, b2, b3⟩ := B.four
  have ⟨c0, c1, c2, c3⟩ := C.four
  have f0 := C.frozen 0
  have f1 := C.frozen 1
  have f2 := C.frozen 2
  have f3 := C.frozen 3
  go_wp2_with fail
  clear lt0 lt1 lt2 a0 a1 a2 a3 b0 b1 b2 b3 c0 c1 c2 c3 f0 f1 f2 f3
  refine (empty_any a.x a.y a.w a.h _).mono ?_
  rintro e w3 ⟨rfl, hb3⟩
  replace A := A.keep hb3
  replace B := B.keep hb3
  replace C := C.keep hb3
  replace bel := below_next bel (by omega) hb3
  replace hz : w.heap.size + 3 ≤ w3.heap.size := by have := hb3.size; omega
  clear hb3
  have lt0 : w.heap.size < w3.heap.size := by omega
  have lt1 : w.heap.size + 1 < w3.heap.size := by omega
  have lt2 : w.heap.size + 1 + 1 < w3.heap.size := by omega
  have ⟨a0, a1, a2, a3⟩ := A.four
  have ⟨b0, b1, b2, b3⟩ := B.four
  have ⟨c0, c1, c2, c3⟩ := C.four
  have f0 := C.frozen 0
  have f1 := C.frozen 1
  have f2 := C.frozen 2
  have f3 := C.frozen 3
  go_wp2_with fail
  exact ret_rc rfl Try.underlying23 b zeroR C rfl bel (by omega)
theorem or_a (a b : Rc) (w : World) (ea : a.empty = false) (eb : b.empty = true) : Calls Try.prog 23 #[a.v, b.v] w fun e w' => e = .returned a.v ∧ Below w.heap.size w w' := by
  go_enter Try.func23, Try.ntmps23
  go_wp2_with fail
  obtain ⟨W, hW, A, B, C, bel, hz⟩ := boxes3 w #[.int .i64 a.x, .int .i64 a.y, .int .i64 a.w, .int .i64 a.h] #[.int .i64 b.x, .int .i64 b.y, .int .i64 b.w, .int .i64 b.h] #[.int .i64 0, .int .i64 0, .int .i64 0, .int .i64 0] 23 23 23
  rw [hW]
  clear hW
  refine (empty_any a.x a.y a.w a.h _).mono ?_
  rintro e w1 ⟨rfl, hb1⟩
  replace A := A.keep hb1
  replace B := B.keep hb1
  replace C := C.keep hb1
  replace bel := below_next bel (by omega) hb1
  replace hz : w.heap.size + 3 ≤ w1.heap.size := by have := hb1.size; omega
  clear hb1
  have lt0 : w.heap.size < w1.heap.size := by omega
  have lt1 : w.heap.size + 1 < w1.heap.size := by omega
  have lt2 : w.heap.size + 1 + 1 < w1.heap.size := by omega
  have ⟨a0, a1, a2, a3⟩ := A.four
  have ⟨b0, b1, b2, b3⟩ := B.four
  have ⟨c0, c1, c2, c3⟩ := C.four
  have f0 := C.frozen 0
  have f1 := C.frozen 1
  have f2 := C.frozen 2
  have f3 := C.frozen 3
  go_wp2_with fail
  clear lt0 lt1 lt2 a0 a1 a2 a3 b0 b1 b2 b3 c0 c1 c2 c3 f0 f1 f2 f3
  refine (empty_any a.x a.y a.w a.h _).mono ?_
  rintro e w2 ⟨rfl, hb2⟩
  replace A := A.keep hb2
  replace B := B.keep hb2
  replace C := C.keep hb2
  replace bel := below_next bel (by omega) hb2
  replace hz : w.heap.size + 3 ≤ w2.heap.size := by have := hb2.size; omega
  clear hb2
  have lt0 : w.heap.size < w2.heap.size := by omega
  have lt1 : w.heap.size + 1 < w2.heap.size := by omega
  have lt2 : w.heap.size + 1 + 1 < w2.heap.size := by omega
  have ⟨a0, a1, a2, a3⟩ := A.four
  have ⟨b0, b1, b2, b3⟩ := B.four
  have ⟨c0, c1, c2, c3⟩ := C.four
  have f0 := C.frozen 0
  have f1 := C.frozen 1
  have f2 := C.frozen 2
  have f3 := C.frozen 3
  go_wp2_with fail
  clear lt0 lt1 lt2 a0 a1 a2 a3 b0 b1 b2 b3 c0 c1 c2 c3 f0 f1 f2 f3
  refine (empty_any b.x b.y b.w b.h _).mono ?_
  rintro e w3 ⟨rfl, hb3⟩
  replace A := A.keep hb3
  replace B := B.keep hb3
  replace C := C.keep hb3
  replace bel := below_next bel (by omega) hb3
  replace hz : w.heap.size + 3 ≤ w3.heap.size := by have := hb3.size; omega
  clear hb3
  have lt0 : w.heap.size < w3.heap.size := by omega
  have lt1 : w.heap.size + 1 < w3.heap.size := by omega
  have lt2 : w.heap.size + 1 + 1 < w3.heap.size := by omega
  have ⟨a0, a1, a2, a3⟩ := A.four
  have ⟨b0, b1, b2, b3⟩ := B.four
  have ⟨c0, c1, c2, c3⟩ := C.four
  have f0 := C.frozen 0
  have f1 := C.frozen 1
  have f2 := C.frozen 2
  have f3 := C.frozen 3
  go_wp2_with fail
  exact ret_rc rfl Try.underlying23 a zeroR C rfl bel (by omega)
theorem or_in (a b : Rc) (px pw py ph : Int) (w : World) (hx : Hid (∀ w, Calls Try.prog 26 #[.int .i64 a.x, .int .i64 a.w, .int .i64 b.x, .int .i64 b.w, .func (.func 28) #[] #[], .func (.func 27) #[] #[]] w fun e w' => e = .returned (.tuple #[.int .i64 px, .int .i64 pw]) ∧ w = w'))
    (hy : Hid (∀ w, Calls Try.prog 26 #[.int .i64 a.y, .int .i64 a.h, .int .i64 b.y, .int .i64 b.h, .func (.func 28) #[] #[], .func (.func 27) #[] #[]] w fun e w' => e = .returned (.tuple #[.int .i64 py, .int .i64 ph]) ∧ w = w')) (ea : a.empty = false) (eb : b.empty = false) :
    Calls Try.prog 23 #[a.v, b.v] w fun e w' => e = .returned (Rc.mk px py pw ph).v ∧ Below w.heap.size w w' := by
  go_enter Try.func23, Try.ntmps23
  go_wp2_with fail
  obtain ⟨W, hW, A, B, C, bel, hz⟩ := boxes3 w #[.int .i64 a.x, .int .i64 a.y, .int .i64 a.w, .int .i64 a.h] #[.int .i64 b.x, .int .i64 b.y, .int .i64 b.w, .int .i64 b.h] #[.int .i64 0, .int .i64 0, .int .i64 0, .int .i64 0] 23 23 23
  rw [hW]
  clear hW
  refine (empty_any a.x a.y a.w a.h _).mono ?_
  rintro e w1 ⟨rfl, hb1⟩
  replace A := A.keep hb1
  replace B := B.keep hb1
  replace C := C.keep hb1
  replace bel := below_next bel (by omega) hb1
  replace hz : w.heap.size + 3 ≤ w1.heap.size := by have := hb1.size; omega
  clear hb1
  have lt0 : w.heap.size < w1.heap.size := by omega
  have lt1 : w.heap.size + 1 < w1.heap.size := by omega
  have lt2 : w.heap.size + 1 + 1 < w1.heap.size := by omega
  have ⟨a0, a1, a2, a3⟩ := A.four
  have ⟨b0, b1, b2, b3⟩ := B.four
  have ⟨c0, c1, c2, c3⟩ := C.four
  have f0 := C.frozen 0
  have f1 := C.frozen 1
  have f2 := C.frozen 2
  have f3 := C.frozen 3
  go_wp2_with fail
  clear lt0 lt1 lt2 a0 a1 a2 a3 b0 b1 b2 b3 c0 c1 c2 c3 f0 f1 f2 f3
  refine (empty_any a.x a.y a.w a.h _).mono ?_
  rintro e w2 ⟨rfl, hb2⟩
  replace A := A.keep hb2
  replace B := B.keep hb2
  replace C := C.keep hb2
  replace bel := below_next bel (by omega) hb2
  replace hz : w.heap.size + 3 ≤ w2.heap.size := by have := hb2.size; omega
  clear hb2
  have lt0 : w.heap.size < w2.heap.size := by omega
  have lt1 : w.heap.size + 1 < w2.heap.size := by omega
  have lt2 : w.heap.size + 1 + 1 < w2.heap.size := by omega
  have ⟨a0, a1, a2, a3⟩ := A.four
  have ⟨b0, b1, b2, b3⟩ := B.four
  have ⟨c0, c1, c2, c3⟩ := C.four
  have f0 := C.frozen 0
  have f1 := C.frozen 1
  have f2 := C.frozen 2
  have f3 := C.frozen 3
  go_wp2_with fail
  clear lt0 lt1 lt2 a0 a1 a2 a3 b0 b1 b2 b3 c0 c1 c2 c3 f0 f1 f2 f3
  refine (empty_any b.x b.y b.w b.h _).mono ?_
  rintro e w3 ⟨rfl, hb3⟩
  replace A := A.keep hb3
  replace B := B.keep hb3
  replace C := C.keep hb3
  replace bel := below_next bel (by omega) hb3
  replace hz : w.heap.size + 3 ≤ w3.heap.size := by have := hb3.size; omega
  clear hb3
  have lt0 : w.heap.size < w3.heap.size := by omega
  have lt1 : w.heap.size + 1 < w3.heap.size := by omega
  have lt2 : w.heap.size + 1 + 1 < w3.heap.size := by omega
  have ⟨a0, a1, a2, a3⟩ := A.four
  have ⟨b0, b1, b2, b3⟩ := B.four
  have ⟨c0, c1, c2, c3⟩ := C.four
  have f0 := C.frozen 0
  have f1 := C.frozen 1
  have f2 := C.frozen 2
  have f3 := C.frozen 3
  go_wp2_with fail
  refine (hx.out _).mono ?_
  rintro e w' ⟨rfl, rfl⟩
  go_wp2_with fail
  refine (hy.out _).mono ?_
  rintro e w' ⟨rfl, rfl⟩
  go_wp2_with fail
  have C4 := (((C.set_ 0 (.int .i64 px)).set_ 1 (.int .i64 py)).set_ 2 (.int .i64 pw)).set_ 3 (.int .i64 ph)
  have b4 := (((bel.setCell (p := ⟨w.heap.size + 1 + 1, 0, none⟩) (by simp; omega) (.int .i64 px)).setCell (p := ⟨w.heap.size + 1 + 1, 1, none⟩) (by simp; omega) (.int .i64 py)).setCell (p := ⟨w.heap.size + 1 + 1, 2, none⟩) (by simp; omega) (.int .i64 pw)).setCell (p := ⟨w.heap.size + 1 + 1, 3, none⟩) (by simp; omega) (.int .i64 ph)
  exact bodyPost_ret (v := (Rc.mk px py pw ph).v) (results_cell_row (p := 4) rfl _ _ _ 23 _ (0, 0) _ rfl (C4.alloc _) Try.underlying23 rfl (by kernel_rfl)) rfl ⟨rfl, b4.alloc (by simp; omega) _⟩
theorem or_any (a b : Rc) (w : World) : Calls Try.prog 23 #[a.v, b.v] w fun e w' => e = .returned (orR a b).v ∧ Below w.heap.size w w' := by
  cases ea : a.empty with
  | true =>
    cases eb : b.empty with
    | true => rw [show orR a b = zeroR by simp [orR, ea, eb]]; exact or_zz a b w ea eb
    | false => rw [show orR a b = b by simp [orR, ea, eb]]; exact or_b a b w ea eb
  | false =>
    cases eb : b.empty with
    | true => rw [show orR a b = a by simp [orR, ea, eb]]; exact or_a a b w ea eb
    | false =>
      obtain ⟨⟨a1, a2, a3, a4, a5, a6, a7, a8⟩, _, _⟩ := Rc.good_of_not_empty ea
      obtain ⟨⟨b1, b2, b3, b4, b5, b6, b7, b8⟩, _, _⟩ := Rc.good_of_not_empty eb
      rw [show orR a b = ⟨minV a.x b.x, minV a.y b.y, maxV (a.x + a.w) (b.x + b.w) - minV a.x b.x, maxV (a.y + a.h) (b.y + b.h) - minV a.y b.y⟩ by simp only [orR, ea, eb, Bool.false_eq_true, if_false]]
      exact or_in a b _ _ _ _ w (fun w => spano_in a.x a.w b.x b.w a1 a2 b1 b2 a5 a6 b5 b6 w) (fun w => spano_in a.y a.h b.y b.h a3 a4 b3 b4 a7 a8 b7 b8 w) ea eb
/-- a rectangle elsewhere -/
def shiftR (r : Rc) (dx dy : Int) : Rc :=
  if r.good = true ∧ inB dx (-4194304) 4194304 = true ∧ inB dy (-4194304) 4194304 = true then
    (if (Rc.mk (r.x + dx) (r.y + dy) r.w r.h).good = true then ⟨r.x + dx, r.y + dy, r.w, r.h⟩ else zeroR) else zeroR
theorem shift_far (r : Rc) (dx dy : Int) (w : World) (h : r.good = false ∨ (r.good = true ∧ (inB dx (-4194304) 4194304 = false ∨ (inB dx (-4194304) 4194304 = true ∧ inB dy (-4194304) 4194304 = false)))) :
    Calls Try.prog 20 #[r.v, .int .i64 dx, .int .i64 dy] w fun e w' => e = .returned zeroR.v ∧ Below w.heap.size w w' := by
  have hnot : ∀ (x : Bool) (w : World), (Op.unary .not (.bool x)).run Try.prog w = .ok (.bool (!x)) w := fun _ _ => rfl
  rcases h with h | ⟨h, h1 | ⟨h1, h2⟩⟩
  all_goals
    go_enter Try.func20, Try.ntmps20
    go_wp2_with fail
    obtain ⟨W, hW, A, C, bel, hz⟩ := boxes2 w #[.int .i64 r.x, .int .i64 r.y, .int .i64 r.w, .int .i64 r.h] #[.int .i64 0, .int .i64 0, .int .i64 0, .int .i64 0] 23 23
    rw [hW]
    clear hW
    refine (good_any r.x r.y r.w r.h _).mono ?_
    rintro e w1 ⟨rfl, hb1⟩
    replace C := C.keep hb1
    replace bel := below_next bel (by omega) hb1
    clear hb1 A
    have ⟨c0, c1, c2, c3⟩ := C.four
    have f0 := C.frozen 0
    have f1 := C.frozen 1
    have f2 := C.frozen 2
    have f3 := C.frozen 3
    go_wp2_with (go_at_call 29; refine (within_any _ _ _ _).mono ?_; rintro e w' ⟨rfl, rfl⟩)
    exact ret_rc rfl Try.underlying23 zeroR zeroR C rfl bel (by omega)
theorem shift_near (r : Rc) (dx dy : Int) (w : World) (h : r.good = true) (h1 : inB dx (-4194304) 4194304 = true) (h2 : inB dy (-4194304) 4194304 = true) (g : (Rc.mk (r.x + dx) (r.y + dy) r.w r.h).good = true) :
    Calls Try.prog 20 #[r.v, .int .i64 dx, .int .i64 dy] w fun e w' => e = .returned (Rc.mk (r.x + dx) (r.y + dy) r.w r.h).v ∧ Below w.heap.size w w' := by
  have ⟨g1, g2, g3, g4, g5, g6, g7, g8⟩ := good_of h
  have i1 : -4194304 ≤ dx ∧ dx ≤ 4194304 := by simpa [inB] using h1
  have i2 : -4194304 ≤ dy ∧ dy ≤ 4194304 := by simpa [inB] using h2
  obtain ⟨i1, i3⟩ := i1
  obtain ⟨i2, i4⟩ := i2
  have hnot : ∀ (x : Bool) (w : World), (Op.unary .not (.bool x)).run Try.prog w = .ok (.bool (!x)) w := fun _ _ => rfl
  go_enter Try.func20, Try.ntmps20
  go_wp2_with fail
  obtain ⟨W, hW, A, C, bel, hz⟩ := boxes2 w #[.int .i64 r.x, .int .i64 r.y, .int .i64 r.w, .int .i64 r.h] #[.int .i64 0, .int .i64 0, .int .i64 0, .int .i64 0] 23 23
  rw [hW]
  clear hW
  refine (good_any r.x r.y r.w r.h _).mono ?_
  rintro e w1 ⟨rfl, hb1⟩
  replace C := C.keep hb1
  replace A := A.keep hb1
  replace bel := below_next bel (by omega) hb1
  replace hz : w.heap.size + 2 ≤ w1.heap.size := by have := hb1.size; omega
  clear hb1
  have ⟨a0, a1, a2, a3⟩ := A.four
  have k0 := A.frozen 0
  have k1 := A.frozen 1
  go_wp2_with (go_at_call 29; refine (within_any _ _ _ _).mono ?_; rintro e w' ⟨rfl, rfl⟩)
  have A2 := (A.set_ 0 (.int .i64 (r.x + dx))).set_ 1 (.int .i64 (r.y + dy))
  have C2 := (C.far (p := ⟨w.heap.size, 0, none⟩) (by simp) (.int .i64 (r.x + dx))).far (p := ⟨w.heap.size, 1, none⟩) (by simp) (.int .i64 (r.y + dy))
  have b2 := (bel.setCell (p := ⟨w.heap.size, 0, none⟩) (by simp) (.int .i64 (r.x + dx))).setCell (p := ⟨w.heap.size, 1, none⟩) (by simp) (.int .i64 (r.y + dy))
  clear a0 a1 a2 a3 k0 k1 A C bel
  generalize ((w1.setCell ⟨w.heap.size, 0, none⟩ (.int .i64 (r.x + dx))).setCell ⟨w.heap.size, 1, none⟩ (.int .i64 (r.y + dy))) = w2 at *
  have A3 : Blk w2 w.heap.size 23 #[.int .i64 (r.x + dx), .int .i64 (r.y + dy), .int .i64 r.w, .int .i64 r.h] := A2
  clear A2 hz
  have hz : w.heap.size + 2 ≤ w2.heap.size := by have := C2.lt; omega
  refine (good_any _ _ _ _ _).mono ?_
  rintro e w3 ⟨rfl, hb3⟩
  replace A := A3.keep hb3
  replace C := C2.keep hb3
  replace bel := below_next b2 (by omega) hb3
  clear hb3 A3 C2 b2
  have ⟨a0, a1, a2, a3⟩ := A.four
  have ⟨c0, c1, c2, c3⟩ := C.four
  have f0 := C.frozen 0
  have f1 := C.frozen 1
  have f2 := C.frozen 2
  have f3 := C.frozen 3
  go_wp2_with fail
  exact ret_rc rfl Try.underlying23 (Rc.mk (r.x + dx) (r.y + dy) r.w r.h) zeroR C rfl bel (by omega)
theorem shift_off (r : Rc) (dx dy : Int) (w : World) (h : r.good = true) (h1 : inB dx (-4194304) 4194304 = true) (h2 : inB dy (-4194304) 4194304 = true) (g : (Rc.mk (r.x + dx) (r.y + dy) r.w r.h).good = false) :
    Calls Try.prog 20 #[r.v, .int .i64 dx, .int .i64 dy] w fun e w' => e = .returned zeroR.v ∧ Below w.heap.size w w' := by
  have ⟨g1, g2, g3, g4, g5, g6, g7, g8⟩ := good_of h
  have i1 : -4194304 ≤ dx ∧ dx ≤ 4194304 := by simpa [inB] using h1
  have i2 : -4194304 ≤ dy ∧ dy ≤ 4194304 := by simpa [inB] using h2
  obtain ⟨i1, i3⟩ := i1
  obtain ⟨i2, i4⟩ := i2
  have hnot : ∀ (x : Bool) (w : World), (Op.unary .not (.bool x)).run Try.prog w = .ok (.bool (!x)) w := fun _ _ => rfl
  go_enter Try.func20, Try.ntmps20
  go_wp2_with fail
  obtain ⟨W, hW, A, C, bel, hz⟩ := boxes2 w #[.int .i64 r.x, .int .i64 r.y, .int .i64 r.w, .int .i64 r.h] #[.int .i64 0, .int .i64 0, .int .i64 0, .int .i64 0] 23 23
  rw [hW]
  clear hW
  refine (good_any r.x r.y r.w r.h _).mono ?_
  rintro e w1 ⟨rfl, hb1⟩
  replace C := C.keep hb1
  replace A := A.keep hb1
  replace bel := below_next bel (by omega) hb1
  replace hz : w.heap.size + 2 ≤ w1.heap.size := by have := hb1.size; omega
  clear hb1
  have ⟨a0, a1, a2, a3⟩ := A.four
  have k0 := A.frozen 0
  have k1 := A.frozen 1
  go_wp2_with (go_at_call 29; refine (within_any _ _ _ _).mono ?_; rintro e w' ⟨rfl, rfl⟩)
  have A2 := (A.set_ 0 (.int .i64 (r.x + dx))).set_ 1 (.int .i64 (r.y + dy))
  have C2 := (C.far (p := ⟨w.heap.size, 0, none⟩) (by simp) (.int .i64 (r.x + dx))).far (p := ⟨w.heap.size, 1, none⟩) (by simp) (.int .i64 (r.y + dy))
  have b2 := (bel.setCell (p := ⟨w.heap.size, 0, none⟩) (by simp) (.int .i64 (r.x + dx))).setCell (p := ⟨w.heap.size, 1, none⟩) (by simp) (.int .i64 (r.y + dy))
  clear a0 a1 a2 a3 k0 k1 A C bel
  generalize ((w1.setCell ⟨w.heap.size, 0, none⟩ (.int .i64 (r.x + dx))).setCell ⟨w.heap.size, 1, none⟩ (.int .i64 (r.y + dy))) = w2 at *
  have A3 : Blk w2 w.heap.size 23 #[.int .i64 (r.x + dx), .int .i64 (r.y + dy), .int .i64 r.w, .int .i64 r.h] := A2
  clear A2 hz
  have hz : w.heap.size + 2 ≤ w2.heap.size := by have := C2.lt; omega
  refine (good_any _ _ _ _ _).mono ?_
  rintro e w3 ⟨rfl, hb3⟩
  replace A := A3.keep hb3
  replace C := C2.keep hb3
  replace bel := below_next b2 (by omega) hb3
  clear hb3 A3 C2 b2
  have ⟨a0, a1, a2, a3⟩ := A.four
  have ⟨c0, c1, c2, c3⟩ := C.four
  have f0 := C.frozen 0
  have f1 := C.frozen 1
  have f2 := C.frozen 2
  have f3 := C.frozen 3
  go_wp2_with fail
  exact ret_rc rfl Try.underlying23 zeroR zeroR C rfl bel (by omega)
theorem shift_any (r : Rc) (dx dy : Int) (w : World) : Calls Try.prog 20 #[r.v, .int .i64 dx, .int .i64 dy] w fun e w' => e = .returned (shiftR r dx dy).v ∧ Below w.heap.size w w' := by
  cases h : r.good with
  | false => rw [show shiftR r dx dy = zeroR by simp [shiftR, h]]; exact shift_far r dx dy w (.inl h)
  | true =>
    cases h1 : inB dx (-4194304) 4194304 with
    | false => rw [show shiftR r dx dy = zeroR by simp [shiftR, h1]]; exact shift_far r dx dy w (.inr ⟨h, .inl h1⟩)
    | true =>
      cases h2 : inB dy (-4194304) 4194304 with
      | false => rw [show shiftR r dx dy = zeroR by simp [shiftR, h2]]; exact shift_far r dx dy w (.inr ⟨h, .inr ⟨h1, h2⟩⟩)
      | true =>
        cases g : (Rc.mk (r.x + dx) (r.y + dy) r.w r.h).good with
        | false => rw [show shiftR r dx dy = zeroR by simp only [shiftR, h, h1, h2, g, Bool.false_eq_true, and_self, if_true, if_false]]; exact shift_off r dx dy w h h1 h2 g
        | true => rw [show shiftR r dx dy = ⟨r.x + dx, r.y + dy, r.w, r.h⟩ by simp only [shiftR, h, h1, h2, g, and_self, if_true]]; exact shift_near r dx dy w h h1 h2 g
end Go.Proofs.Ytlmnfcocgocjiaa
