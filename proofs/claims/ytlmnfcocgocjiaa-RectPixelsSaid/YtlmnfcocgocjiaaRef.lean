/- The references of rectangles compute the same: Good, Empty, Has, Area. -/
import Derived.Test.YtlmnfcocgocjiaaAnd
namespace Go.Proofs.Ytlmnfcocgocjiaa
open Go.RowKit
theorem refgood0 (x y ww h : Int) (w : World)  (h0 : decide (-1048576 ≤ x) = false) :
    Calls Try.prog 16 #[RV x y ww h] w fun e w' => e = .returned (.bool false) ∧ Below w.heap.size w w' := by
  go_enter Try.func16, Try.ntmps16
  go_wp2_with fail
  go_ret
  exact ⟨rfl, (Below.refl _ _).alloc (Nat.le_refl _) _⟩
theorem refgood1 (x y ww h : Int) (w : World) (h0 : -1048576 ≤ x) (h1 : decide (x ≤ 1048576) = false) :
    Calls Try.prog 16 #[RV x y ww h] w fun e w' => e = .returned (.bool false) ∧ Below w.heap.size w w' := by
  go_enter Try.func16, Try.ntmps16
  go_wp2_with fail
  go_ret
  exact ⟨rfl, (Below.refl _ _).alloc (Nat.le_refl _) _⟩
theorem refgood2 (x y ww h : Int) (w : World) (h0 : -1048576 ≤ x) (h1 : x ≤ 1048576) (h2 : decide (-1048576 ≤ y) = false) :
    Calls Try.prog 16 #[RV x y ww h] w fun e w' => e = .returned (.bool false) ∧ Below w.heap.size w w' := by
  go_enter Try.func16, Try.ntmps16
  go_wp2_with fail
  go_ret
  exact ⟨rfl, (Below.refl _ _).alloc (Nat.le_refl _) _⟩
theorem refgood3 (x y ww h : Int) (w : World) (h0 : -1048576 ≤ x) (h1 : x ≤ 1048576) (h2 : -1048576 ≤ y) (h3 : decide (y ≤ 1048576) = false) :
    Calls Try.prog 16 #[RV x y ww h] w fun e w' => e = .returned (.bool false) ∧ Below w.heap.size w w' := by
  go_enter Try.func16, Try.ntmps16
  go_wp2_with fail
  go_ret
  exact ⟨rfl, (Below.refl _ _).alloc (Nat.le_refl _) _⟩
theorem refgood4 (x y ww h : Int) (w : World) (h0 : -1048576 ≤ x) (h1 : x ≤ 1048576) (h2 : -1048576 ≤ y) (h3 : y ≤ 1048576) (h4 : decide (0 ≤ ww) = false) :
    Calls Try.prog 16 #[RV x y ww h] w fun e w' => e = .returned (.bool false) ∧ Below w.heap.size w w' := by
  go_enter Try.func16, Try.ntmps16
  go_wp2_with fail
  go_ret
  exact ⟨rfl, (Below.refl _ _).alloc (Nat.le_refl _) _⟩
theorem refgood5 (x y ww h : Int) (w : World) (h0 : -1048576 ≤ x) (h1 : x ≤ 1048576) (h2 : -1048576 ≤ y) (h3 : y ≤ 1048576) (h4 : 0 ≤ ww) (h5 : decide (ww ≤ 1048576 - x) = false) :
    Calls Try.prog 16 #[RV x y ww h] w fun e w' => e = .returned (.bool false) ∧ Below w.heap.size w w' := by
  go_enter Try.func16, Try.ntmps16
  go_wp2_with fail
  go_ret
  exact ⟨rfl, (Below.refl _ _).alloc (Nat.le_refl _) _⟩
theorem refgood6 (x y ww h : Int) (w : World) (h0 : -1048576 ≤ x) (h1 : x ≤ 1048576) (h2 : -1048576 ≤ y) (h3 : y ≤ 1048576) (h4 : 0 ≤ ww) (h5 : ww ≤ 1048576 - x) (h6 : decide (0 ≤ h) = false) :
    Calls Try.prog 16 #[RV x y ww h] w fun e w' => e = .returned (.bool false) ∧ Below w.heap.size w w' := by
  go_enter Try.func16, Try.ntmps16
  go_wp2_with fail
  go_ret
  exact ⟨rfl, (Below.refl _ _).alloc (Nat.le_refl _) _⟩
theorem refgood7 (x y ww h : Int) (w : World) (h0 : -1048576 ≤ x) (h1 : x ≤ 1048576) (h2 : -1048576 ≤ y) (h3 : y ≤ 1048576) (h4 : 0 ≤ ww) (h5 : ww ≤ 1048576 - x) (h6 : 0 ≤ h) (h7 : decide (h ≤ 1048576 - y) = false) :
    Calls Try.prog 16 #[RV x y ww h] w fun e w' => e = .returned (.bool false) ∧ Below w.heap.size w w' := by
  go_enter Try.func16, Try.ntmps16
  go_wp2_with fail
  go_ret
  exact ⟨rfl, (Below.refl _ _).alloc (Nat.le_refl _) _⟩
theorem refgood8 (x y ww h : Int) (w : World) (h0 : -1048576 ≤ x) (h1 : x ≤ 1048576) (h2 : -1048576 ≤ y) (h3 : y ≤ 1048576) (h4 : 0 ≤ ww) (h5 : ww ≤ 1048576 - x) (h6 : 0 ≤ h) (h7 : h ≤ 1048576 - y) :
    Calls Try.prog 16 #[RV x y ww h] w fun e w' => e = .returned (.bool true) ∧ Below w.heap.size w w' := by
  go_enter Try.func16, Try.ntmps16
  go_wp2_with fail
  go_ret
  exact ⟨rfl, (Below.refl _ _).alloc (Nat.le_refl _) _⟩
theorem refgood_any (x y ww h : Int) (w : World) : Calls Try.prog 16 #[RV x y ww h] w fun e w' => e = .returned (.bool (goodB x y ww h)) ∧ Below w.heap.size w w' := by
  cases hg : goodB x y ww h with
  | true =>
    obtain ⟨a, b, c, d, e, f, i, j⟩ := good_of hg
    exact refgood8 x y ww h w a b c d e (by omega) i (by omega)
  | false =>
    have hn : ¬ (-1048576 ≤ x ∧ x ≤ 1048576 ∧ -1048576 ≤ y ∧ y ≤ 1048576 ∧ 0 ≤ ww ∧ ww ≤ 1048576 - x ∧ 0 ≤ h ∧ h ≤ 1048576 - y) := by
      rintro ⟨a, b, c, d, e, f, i, j⟩
      rw [of_good ⟨a, b, c, d, e, by omega, i, by omega⟩] at hg
      cases hg
    by_cases h0 : -1048576 ≤ x
    rotate_left
    · exact refgood0 x y ww h w  (decide_eq_false h0)
    by_cases h1 : x ≤ 1048576
    rotate_left
    · exact refgood1 x y ww h w h0 (decide_eq_false h1)
    by_cases h2 : -1048576 ≤ y
    rotate_left
    · exact refgood2 x y ww h w h0 h1 (decide_eq_false h2)
    by_cases h3 : y ≤ 1048576
    rotate_left
    · exact refgood3 x y ww h w h0 h1 h2 (decide_eq_false h3)
    by_cases h4 : 0 ≤ ww
    rotate_left
    · exact refgood4 x y ww h w h0 h1 h2 h3 (decide_eq_false h4)
    by_cases h5 : ww ≤ 1048576 - x
    rotate_left
    · exact refgood5 x y ww h w h0 h1 h2 h3 h4 (decide_eq_false h5)
    by_cases h6 : 0 ≤ h
    rotate_left
    · exact refgood6 x y ww h w h0 h1 h2 h3 h4 h5 (decide_eq_false h6)
    by_cases h7 : h ≤ 1048576 - y
    rotate_left
    · exact refgood7 x y ww h w h0 h1 h2 h3 h4 h5 h6 (decide_eq_false h7)
    exact absurd ⟨h0, h1, h2, h3, h4, h5, h6, h7⟩ hn
theorem refempty_any (x y ww h : Int) (w : World) : Calls Try.prog 17 #[RV x y ww h] w fun e w' => e = .returned (.bool (emptyB x y ww h)) ∧ Below w.heap.size w w' := by
  have hnot : ∀ (x : Bool) (w : World), (Op.unary .not (.bool x)).run Try.prog w = .ok (.bool (!x)) w := fun _ _ => rfl
  have key : (goodB x y ww h = false ∧ emptyB x y ww h = true) ∨ (goodB x y ww h = true ∧ ((ww == 0) = true ∧ emptyB x y ww h = true ∨ (ww == 0) = false ∧ ((h == 0) = true ∧ emptyB x y ww h = true ∨ (h == 0) = false ∧ emptyB x y ww h = false))) := by
    cases hg : goodB x y ww h with
    | false => exact .inl ⟨rfl, by simp [emptyB, areaV, hg]⟩
    | true =>
      refine .inr ⟨rfl, ?_⟩
      by_cases h1 : ww = 0
      · exact .inl ⟨by simp [h1], by simp [emptyB, areaV, h1]⟩
      · refine .inr ⟨by simp [h1], ?_⟩
        by_cases h2 : h = 0
        · exact .inl ⟨by simp [h2], by simp [emptyB, areaV, h2]⟩
        · exact .inr ⟨by simp [h2], by simp [emptyB, areaV, hg, h1, h2]⟩
  rcases key with ⟨g, r⟩ | ⟨g, ⟨q, r⟩ | ⟨q, ⟨p, r⟩ | ⟨p, r⟩⟩⟩
  all_goals
    have R := Lib.hid r
    clear r
    go_enter Try.func17, Try.ntmps17
    go_wp2_with fail
    obtain ⟨W, hW, A, bel, hz⟩ := boxes1 w #[.int .i64 x, .int .i64 y, .int .i64 ww, .int .i64 h] 23
    rw [hW]
    clear hW
    refine (refgood_any _ _ _ _ _).mono ?_
    rintro e w1 ⟨rfl, hb1⟩
    have ⟨a0, a1, a2, a3⟩ := (A.keep hb1).four
    go_wp2_with fail
    go_ret
    exact ⟨by rw [R.out]; rfl, below_next bel (by omega) hb1⟩
theorem refarea_any (x y ww h : Int) (w : World) : Calls Try.prog 19 #[RV x y ww h] w fun e w' => e = .returned (.int .i64 (areaV x y ww h)) ∧ Below w.heap.size w w' := by
  cases he : emptyB x y ww h with
  | true =>
    have hr : areaV x y ww h = 0 := by simpa [emptyB] using he
    have R := Lib.hid hr
    clear hr
    go_enter Try.func19, Try.ntmps19
    go_wp2_with fail
    obtain ⟨W, hW, A, bel, hz⟩ := boxes1 w #[.int .i64 x, .int .i64 y, .int .i64 ww, .int .i64 h] 23
    rw [hW]
    clear hW
    refine (refempty_any _ _ _ _ _).mono ?_
    rintro e w1 ⟨rfl, hb1⟩
    go_wp2_with fail
    go_ret
    exact ⟨by rw [R.out]; rfl, below_next bel (by omega) hb1⟩
  | false =>
    have G := (Rc.good_of_not_empty (r := ⟨x, y, ww, h⟩) he).1
    have hr : areaV x y ww h = ww * h := by have := of_good G; simp only at this; simp [areaV, this]
    have R := Lib.hid hr
    clear hr
    have ⟨m0, m1⟩ := area_bd (p := 2097152) (q := 2097152) G.w0 (by have := G.w1; have := G.x0; simp only at *; omega) G.h0 (by have := G.h1; have := G.y0; simp only at *; omega)
    simp only at m0 m1
    clear G
    go_enter Try.func19, Try.ntmps19
    go_wp2_with fail
    obtain ⟨W, hW, A, bel, hz⟩ := boxes1 w #[.int .i64 x, .int .i64 y, .int .i64 ww, .int .i64 h] 23
    rw [hW]
    clear hW
    refine (refempty_any _ _ _ _ _).mono ?_
    rintro e w1 ⟨rfl, hb1⟩
    have ⟨a0, a1, a2, a3⟩ := (A.keep hb1).four
    go_wp2_with fail
    go_ret
    exact ⟨by rw [R.out]; rfl, below_next bel (by omega) hb1⟩
theorem refhas0 (x y ww h px py : Int) (w : World) (G : Good x y ww h) (he : emptyB x y ww h = false)  (h0 : decide (x ≤ px) = false) :
    Calls Try.prog 18 #[RV x y ww h, .int .i64 px, .int .i64 py] w fun e w' => e = .returned (.bool false) ∧ Below w.heap.size w w' := by
  have hnot : ∀ (x : Bool) (w : World), (Op.unary .not (.bool x)).run Try.prog w = .ok (.bool (!x)) w := fun _ _ => rfl
  obtain ⟨g1, g2, g3, g4, g5, g6, g7, g8⟩ := G
  go_enter Try.func18, Try.ntmps18
  go_wp2_with fail
  obtain ⟨W, hW, A, bel, hz⟩ := boxes1 w #[.int .i64 x, .int .i64 y, .int .i64 ww, .int .i64 h] 23
  rw [hW]
  clear hW
  refine (refempty_any _ _ _ _ _).mono ?_
  rintro e w1 ⟨rfl, hb1⟩
  have ⟨a0, a1, a2, a3⟩ := (A.keep hb1).four
  go_wp2_with fail
  go_ret
  exact ⟨rfl, below_next bel (by omega) hb1⟩
theorem refhas1 (x y ww h px py : Int) (w : World) (G : Good x y ww h) (he : emptyB x y ww h = false) (h0 : x ≤ px) (h1 : decide (px < x + ww) = false) :
    Calls Try.prog 18 #[RV x y ww h, .int .i64 px, .int .i64 py] w fun e w' => e = .returned (.bool false) ∧ Below w.heap.size w w' := by
  have hnot : ∀ (x : Bool) (w : World), (Op.unary .not (.bool x)).run Try.prog w = .ok (.bool (!x)) w := fun _ _ => rfl
  obtain ⟨g1, g2, g3, g4, g5, g6, g7, g8⟩ := G
  go_enter Try.func18, Try.ntmps18
  go_wp2_with fail
  obtain ⟨W, hW, A, bel, hz⟩ := boxes1 w #[.int .i64 x, .int .i64 y, .int .i64 ww, .int .i64 h] 23
  rw [hW]
  clear hW
  refine (refempty_any _ _ _ _ _).mono ?_
  rintro e w1 ⟨rfl, hb1⟩
  have ⟨a0, a1, a2, a3⟩ := (A.keep hb1).four
  go_wp2_with fail
  go_ret
  exact ⟨rfl, below_next bel (by omega) hb1⟩
theorem refhas2 (x y ww h px py : Int) (w : World) (G : Good x y ww h) (he : emptyB x y ww h = false) (h0 : x ≤ px) (h1 : px < x + ww) (h2 : decide (y ≤ py) = false) :
    Calls Try.prog 18 #[RV x y ww h, .int .i64 px, .int .i64 py] w fun e w' => e = .returned (.bool false) ∧ Below w.heap.size w w' := by
  have hnot : ∀ (x : Bool) (w : World), (Op.unary .not (.bool x)).run Try.prog w = .ok (.bool (!x)) w := fun _ _ => rfl
  obtain ⟨g1, g2, g3, g4, g5, g6, g7, g8⟩ := G
  go_enter Try.func18, Try.ntmps18
  go_wp2_with fail
  obtain ⟨W, hW, A, bel, hz⟩ := boxes1 w #[.int .i64 x, .int .i64 y, .int .i64 ww, .int .i64 h] 23
  rw [hW]
  clear hW
  refine (refempty_any _ _ _ _ _).mono ?_
  rintro e w1 ⟨rfl, hb1⟩
  have ⟨a0, a1, a2, a3⟩ := (A.keep hb1).four
  go_wp2_with fail
  go_ret
  exact ⟨rfl, below_next bel (by omega) hb1⟩
theorem refhas3 (x y ww h px py : Int) (w : World) (G : Good x y ww h) (he : emptyB x y ww h = false) (h0 : x ≤ px) (h1 : px < x + ww) (h2 : y ≤ py) (h3 : decide (py < y + h) = false) :
    Calls Try.prog 18 #[RV x y ww h, .int .i64 px, .int .i64 py] w fun e w' => e = .returned (.bool false) ∧ Below w.heap.size w w' := by
  have hnot : ∀ (x : Bool) (w : World), (Op.unary .not (.bool x)).run Try.prog w = .ok (.bool (!x)) w := fun _ _ => rfl
  obtain ⟨g1, g2, g3, g4, g5, g6, g7, g8⟩ := G
  go_enter Try.func18, Try.ntmps18
  go_wp2_with fail
  obtain ⟨W, hW, A, bel, hz⟩ := boxes1 w #[.int .i64 x, .int .i64 y, .int .i64 ww, .int .i64 h] 23
  rw [hW]
  clear hW
  refine (refempty_any _ _ _ _ _).mono ?_
  rintro e w1 ⟨rfl, hb1⟩
  have ⟨a0, a1, a2, a3⟩ := (A.keep hb1).four
  go_wp2_with fail
  go_ret
  exact ⟨rfl, below_next bel (by omega) hb1⟩
theorem refhas4 (x y ww h px py : Int) (w : World) (G : Good x y ww h) (he : emptyB x y ww h = false) (h0 : x ≤ px) (h1 : px < x + ww) (h2 : y ≤ py) (h3 : py < y + h) :
    Calls Try.prog 18 #[RV x y ww h, .int .i64 px, .int .i64 py] w fun e w' => e = .returned (.bool true) ∧ Below w.heap.size w w' := by
  have hnot : ∀ (x : Bool) (w : World), (Op.unary .not (.bool x)).run Try.prog w = .ok (.bool (!x)) w := fun _ _ => rfl
  obtain ⟨g1, g2, g3, g4, g5, g6, g7, g8⟩ := G
  go_enter Try.func18, Try.ntmps18
  go_wp2_with fail
  obtain ⟨W, hW, A, bel, hz⟩ := boxes1 w #[.int .i64 x, .int .i64 y, .int .i64 ww, .int .i64 h] 23
  rw [hW]
  clear hW
  refine (refempty_any _ _ _ _ _).mono ?_
  rintro e w1 ⟨rfl, hb1⟩
  have ⟨a0, a1, a2, a3⟩ := (A.keep hb1).four
  go_wp2_with fail
  go_ret
  exact ⟨rfl, below_next bel (by omega) hb1⟩
theorem has_empty {x y ww h : Int} (he : emptyB x y ww h = true) (px py : Int) : hasB x y ww h px py = false := by
  cases hg : goodB x y ww h with
  | false => simp [hasB, hg]
  | true =>
    have h0 : ww * h = 0 := by simpa [emptyB, areaV, hg] using he
    rcases Int.mul_eq_zero.1 h0 with h | h
    · simp only [hasB, inB, hg]; simp; omega
    · simp only [hasB, inB, hg]; simp; omega
theorem refhas_any (x y ww h px py : Int) (w : World) : Calls Try.prog 18 #[RV x y ww h, .int .i64 px, .int .i64 py] w fun e w' => e = .returned (.bool (hasB x y ww h px py)) ∧ Below w.heap.size w w' := by
  have hnot : ∀ (x : Bool) (w : World), (Op.unary .not (.bool x)).run Try.prog w = .ok (.bool (!x)) w := fun _ _ => rfl
  cases he : emptyB x y ww h with
  | true =>
    have R := Lib.hid (has_empty he px py)
    go_enter Try.func18, Try.ntmps18
    go_wp2_with fail
    obtain ⟨W, hW, A, bel, hz⟩ := boxes1 w #[.int .i64 x, .int .i64 y, .int .i64 ww, .int .i64 h] 23
    rw [hW]
    clear hW
    refine (refempty_any _ _ _ _ _).mono ?_
    rintro e w1 ⟨rfl, hb1⟩
    go_wp2_with fail
    go_ret
    exact ⟨by rw [R.out]; rfl, below_next bel (by omega) hb1⟩
  | false =>
    have G := (Rc.good_of_not_empty (r := ⟨x, y, ww, h⟩) he).1
    have hg := of_good G
    simp only at G hg
    by_cases h0 : x ≤ px
    rotate_left
    · rw [show hasB x y ww h px py = false by simp only [hasB, inB, hg, Bool.true_and, Bool.and_eq_false_iff, decide_eq_false_iff_not]; omega]
      exact refhas0 x y ww h px py w G he  (decide_eq_false h0)
    by_cases h1 : px < x + ww
    rotate_left
    · rw [show hasB x y ww h px py = false by simp only [hasB, inB, hg, Bool.true_and, Bool.and_eq_false_iff, decide_eq_false_iff_not]; omega]
      exact refhas1 x y ww h px py w G he h0 (decide_eq_false h1)
    by_cases h2 : y ≤ py
    rotate_left
    · rw [show hasB x y ww h px py = false by simp only [hasB, inB, hg, Bool.true_and, Bool.and_eq_false_iff, decide_eq_false_iff_not]; omega]
      exact refhas2 x y ww h px py w G he h0 h1 (decide_eq_false h2)
    by_cases h3 : py < y + h
    rotate_left
    · rw [show hasB x y ww h px py = false by simp only [hasB, inB, hg, Bool.true_and, Bool.and_eq_false_iff, decide_eq_false_iff_not]; omega]
      exact refhas3 x y ww h px py w G he h0 h1 h2 (decide_eq_false h3)
    rw [show hasB x y ww h px py = true by simp only [hasB, inB, hg, Bool.true_and, Bool.and_eq_true, decide_eq_true_eq]; omega]
    exact refhas4 x y ww h px py w G he h0 h1 h2 h3
end Go.Proofs.Ytlmnfcocgocjiaa
