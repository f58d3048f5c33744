/- A text of this claim, written by a program: Go functions as Lean functions, and the proof that the program's code does what they say (and, in a law's row, that the law returns true for every input, if its plain statement holds). No condition beyond the row's own. -/
import Derived.Test.YtgfjbbjdkmgdjaaLx0
import Derived.Test.YtgfjbbjdkmgdjaaLx2
import Derived.Test.YtgfjbbjdkmgdjaaLx5
namespace Go.Proofs.Ytgfjbbjdkmgdjaa.L
open Go.RowKit Go.Proofs.YtgfjbbjdkmgdjaaW.PrintWords Go.Proofs.YtgfjbbjdkmgdjaaW.PrintLast Go.Proofs.YtgfjbbjdkmgdjaaW.PrintMore
attribute [local go_sem] max2_int min2_int max_two min_two max_three min_three max_four min_four   -- for this text's walks alone
set_option linter.unusedVariables false
set_option linter.unusedSimpArgs false

/-! ### vignettelaw07_LzLongest: function 9 -/
mutual
def vignettelaw07_LzLongest.l0 : Nat → List Int → List (S26) → Int → Int → Option (Bool)
  | 0, _, _, _, _ => none
  | k + 1, x0, x3, x4, x5 => if x5 < (x3.length : Int) then (if 0 ≤ x5 then (if (wrap64 (x4 + (mx ((rd_T26 x3 x5).f1) 1))) > (x0.length : Int) then (vignettelaw07_LzLongest.j1 k x0 x3 x4 x5 (mx ((rd_T26 x3 x5).f1) 1) true ((rd_T26 x3 x5).f0) ((rd_T26 x3 x5).f1) ((rd_T26 x3 x5).f2)) else (if ((rd_T26 x3 x5).f1) > 0 then (vignettelaw07_LzLongest.j1 k x0 x3 x4 x5 (mx ((rd_T26 x3 x5).f1) 1) (decide (((rd_T26 x3 x5).f2) > x4)) ((rd_T26 x3 x5).f0) ((rd_T26 x3 x5).f1) ((rd_T26 x3 x5).f2)) else (vignettelaw07_LzLongest.j1 k x0 x3 x4 x5 (mx ((rd_T26 x3 x5).f1) 1) false ((rd_T26 x3 x5).f0) ((rd_T26 x3 x5).f1) ((rd_T26 x3 x5).f2)))) else (none)) else (if x4 = (x0.length : Int) then ((vignettelaw07_matches.f k).bind fun t326 => (some t326)) else (some false))
def vignettelaw07_LzLongest.j1 : Nat → List Int → List (S26) → Int → Int → Int → Bool → Int → Int → Int → Option (Bool)
  | 0, _, _, _, _, _, _, _, _, _ => none
  | k + 1, x0, x3, x4, x5, x7, x44, x329000, x329001, x329002 => if x44 = true then (some false) else (if x329001 > 0 then (if x329001 < 258 then (if (wrap64 (x4 + x7)) < (x0.length : Int) then (if 0 ≤ (wrap64 (x4 + x7)) then (if 0 ≤ (wrap64 ((wrap64 (x4 + x7)) - x329002)) then (if (wrap64 ((wrap64 (x4 + x7)) - x329002)) < (x0.length : Int) then (vignettelaw07_LzLongest.j2 k x0 x3 x4 x5 x7 ((rd x0 (wrap64 (x4 + x7))) == (rd x0 (wrap64 ((wrap64 (x4 + x7)) - x329002)))) x329000 x329001 x329002) else (none)) else (none)) else (none)) else (vignettelaw07_LzLongest.j2 k x0 x3 x4 x5 x7 false x329000 x329001 x329002)) else (vignettelaw07_LzLongest.j2 k x0 x3 x4 x5 x7 false x329000 x329001 x329002)) else (vignettelaw07_LzLongest.j2 k x0 x3 x4 x5 x7 false x329000 x329001 x329002))
def vignettelaw07_LzLongest.j2 : Nat → List Int → List (S26) → Int → Int → Int → Bool → Int → Int → Int → Option (Bool)
  | 0, _, _, _, _, _, _, _, _, _ => none
  | k + 1, x0, x3, x4, x5, x7, x78, x329000, x329001, x329002 => if x78 = true then (some false) else (vignettelaw07_LzLongest.l1 k x0 x3 x4 x5 x7 1 x329000 x329001 x329002)
def vignettelaw07_LzLongest.l1 : Nat → List Int → List (S26) → Int → Int → Int → Int → Int → Int → Int → Option (Bool)
  | 0, _, _, _, _, _, _, _, _, _ => none
  | k + 1, x0, x3, x4, x5, x7, x8, x329000, x329001, x329002 => if x8 ≤ x4 then (if x8 ≤ 300 then (if x329001 = 0 then (vignettelaw07_LzLongest.j4 k x0 x3 x4 x5 x7 x8 true x329000 x329001 x329002) else (vignettelaw07_LzLongest.j4 k x0 x3 x4 x5 x7 x8 (decide (x8 < x329002)) x329000 x329001 x329002)) else (vignettelaw07_LzLongest.j4 k x0 x3 x4 x5 x7 x8 false x329000 x329001 x329002)) else (vignettelaw07_LzLongest.j4 k x0 x3 x4 x5 x7 x8 false x329000 x329001 x329002)
def vignettelaw07_LzLongest.j4 : Nat → List Int → List (S26) → Int → Int → Int → Int → Bool → Int → Int → Int → Option (Bool)
  | 0, _, _, _, _, _, _, _, _, _, _ => none
  | k + 1, x0, x3, x4, x5, x7, x8, x96, x329000, x329001, x329002 => if x96 = true then (vignettelaw07_LzLongest.l2 k x0 x3 x4 x5 x7 x8 0 x329000 x329001 x329002) else (vignettelaw07_LzLongest.l0 k x0 x3 (wrap64 (x4 + x7)) (wrap64 (x5 + 1)))
def vignettelaw07_LzLongest.l2 : Nat → List Int → List (S26) → Int → Int → Int → Int → Int → Int → Int → Int → Option (Bool)
  | 0, _, _, _, _, _, _, _, _, _, _ => none
  | k + 1, x0, x3, x4, x5, x7, x8, x9, x329000, x329001, x329002 => if x9 < 258 then (if (wrap64 (x4 + x9)) < (x0.length : Int) then (if 0 ≤ (wrap64 (x4 + x9)) then (if 0 ≤ (wrap64 ((wrap64 (x4 + x9)) - x8)) then (if (wrap64 ((wrap64 (x4 + x9)) - x8)) < (x0.length : Int) then (if (rd x0 (wrap64 (x4 + x9))) = (rd x0 (wrap64 ((wrap64 (x4 + x9)) - x8))) then (vignettelaw07_LzLongest.l2 k x0 x3 x4 x5 x7 x8 (wrap64 (x9 + 1)) x329000 x329001 x329002) else (if x9 ≥ 3 then (if x9 ≥ x329001 then (some false) else (vignettelaw07_LzLongest.l1 k x0 x3 x4 x5 x7 (wrap64 (x8 + 1)) x329000 x329001 x329002)) else (vignettelaw07_LzLongest.l1 k x0 x3 x4 x5 x7 (wrap64 (x8 + 1)) x329000 x329001 x329002))) else (none)) else (none)) else (none)) else (if x9 ≥ 3 then (if x9 ≥ x329001 then (some false) else (vignettelaw07_LzLongest.l1 k x0 x3 x4 x5 x7 (wrap64 (x8 + 1)) x329000 x329001 x329002)) else (vignettelaw07_LzLongest.l1 k x0 x3 x4 x5 x7 (wrap64 (x8 + 1)) x329000 x329001 x329002))) else (if x9 ≥ 3 then (if x9 ≥ x329001 then (some false) else (vignettelaw07_LzLongest.l1 k x0 x3 x4 x5 x7 (wrap64 (x8 + 1)) x329000 x329001 x329002)) else (vignettelaw07_LzLongest.l1 k x0 x3 x4 x5 x7 (wrap64 (x8 + 1)) x329000 x329001 x329002))
end
def vignettelaw07_LzLongest.f (k : Nat) (l0 : List Int) : Option (Bool) := if (l0.length : Int) > 1000 then (some true) else ((lz_Match.f l0).bind fun t323 => (vignettelaw07_LzLongest.l0 k l0 t323 0 0))
theorem vignettelaw07_LzLongest.mono_l : ∀ k, (∀ y0 y1 y2 y3, LeO (vignettelaw07_LzLongest.l0 k y0 y1 y2 y3) (vignettelaw07_LzLongest.l0 (k + 1) y0 y1 y2 y3)) ∧ (∀ y0 y1 y2 y3 y4 y5 y6 y7 y8, LeO (vignettelaw07_LzLongest.j1 k y0 y1 y2 y3 y4 y5 y6 y7 y8) (vignettelaw07_LzLongest.j1 (k + 1) y0 y1 y2 y3 y4 y5 y6 y7 y8)) ∧ (∀ y0 y1 y2 y3 y4 y5 y6 y7 y8, LeO (vignettelaw07_LzLongest.j2 k y0 y1 y2 y3 y4 y5 y6 y7 y8) (vignettelaw07_LzLongest.j2 (k + 1) y0 y1 y2 y3 y4 y5 y6 y7 y8)) ∧ (∀ y0 y1 y2 y3 y4 y5 y6 y7 y8, LeO (vignettelaw07_LzLongest.l1 k y0 y1 y2 y3 y4 y5 y6 y7 y8) (vignettelaw07_LzLongest.l1 (k + 1) y0 y1 y2 y3 y4 y5 y6 y7 y8)) ∧ (∀ y0 y1 y2 y3 y4 y5 y6 y7 y8 y9, LeO (vignettelaw07_LzLongest.j4 k y0 y1 y2 y3 y4 y5 y6 y7 y8 y9) (vignettelaw07_LzLongest.j4 (k + 1) y0 y1 y2 y3 y4 y5 y6 y7 y8 y9)) ∧ (∀ y0 y1 y2 y3 y4 y5 y6 y7 y8 y9, LeO (vignettelaw07_LzLongest.l2 k y0 y1 y2 y3 y4 y5 y6 y7 y8 y9) (vignettelaw07_LzLongest.l2 (k + 1) y0 y1 y2 y3 y4 y5 y6 y7 y8 y9))
  | 0 => ⟨fun _ _ _ _ r h => by simp [vignettelaw07_LzLongest.l0] at h, fun _ _ _ _ _ _ _ _ _ r h => by simp [vignettelaw07_LzLongest.j1] at h, fun _ _ _ _ _ _ _ _ _ r h => by simp [vignettelaw07_LzLongest.j2] at h, fun _ _ _ _ _ _ _ _ _ r h => by simp [vignettelaw07_LzLongest.l1] at h, fun _ _ _ _ _ _ _ _ _ _ r h => by simp [vignettelaw07_LzLongest.j4] at h, fun _ _ _ _ _ _ _ _ _ _ r h => by simp [vignettelaw07_LzLongest.l2] at h⟩
  | k + 1 => by
    obtain ⟨ih0, ih1, ih2, ih3, ih4, ih5⟩ := vignettelaw07_LzLongest.mono_l k
    refine ⟨?_, ?_, ?_, ?_, ?_, ?_⟩
    · intro y0 y1 y2 y3
      unfold vignettelaw07_LzLongest.l0
      repeat' first
      | (with_reducible exact ih0 _ _ _ _)
      | (with_reducible exact ih1 _ _ _ _ _ _ _ _ _)
      | (with_reducible exact ih2 _ _ _ _ _ _ _ _ _)
      | (with_reducible exact ih3 _ _ _ _ _ _ _ _ _)
      | (with_reducible exact ih4 _ _ _ _ _ _ _ _ _ _)
      | (with_reducible exact ih5 _ _ _ _ _ _ _ _ _ _)
      | (with_reducible exact vignettelaw07_matches.mono _)
      | (with_reducible exact LeO.refl _)
      | (with_reducible exact LeO.none _)
      | (with_reducible refine LeO.ite ?_ ?_)
      | (with_reducible refine LeO.bind ?_ (fun _ => ?_))
      | exact ih0 _ _ _ _
      | exact ih1 _ _ _ _ _ _ _ _ _
      | exact ih2 _ _ _ _ _ _ _ _ _
      | exact ih3 _ _ _ _ _ _ _ _ _
      | exact ih4 _ _ _ _ _ _ _ _ _ _
      | exact ih5 _ _ _ _ _ _ _ _ _ _
      | exact vignettelaw07_matches.mono _
      | exact LeO.none _
      | refine LeO.ite ?_ ?_
      | refine LeO.bind ?_ (fun _ => ?_)
    · intro y0 y1 y2 y3 y4 y5 y6 y7 y8
      unfold vignettelaw07_LzLongest.j1
      repeat' first
      | (with_reducible exact ih0 _ _ _ _)
      | (with_reducible exact ih1 _ _ _ _ _ _ _ _ _)
      | (with_reducible exact ih2 _ _ _ _ _ _ _ _ _)
      | (with_reducible exact ih3 _ _ _ _ _ _ _ _ _)
      | (with_reducible exact ih4 _ _ _ _ _ _ _ _ _ _)
      | (with_reducible exact ih5 _ _ _ _ _ _ _ _ _ _)
      | (with_reducible exact vignettelaw07_matches.mono _)
      | (with_reducible exact LeO.refl _)
      | (with_reducible exact LeO.none _)
      | (with_reducible refine LeO.ite ?_ ?_)
      | (with_reducible refine LeO.bind ?_ (fun _ => ?_))
      | exact ih0 _ _ _ _
      | exact ih1 _ _ _ _ _ _ _ _ _
      | exact ih2 _ _ _ _ _ _ _ _ _
      | exact ih3 _ _ _ _ _ _ _ _ _
      | exact ih4 _ _ _ _ _ _ _ _ _ _
      | exact ih5 _ _ _ _ _ _ _ _ _ _
      | exact vignettelaw07_matches.mono _
      | exact LeO.none _
      | refine LeO.ite ?_ ?_
      | refine LeO.bind ?_ (fun _ => ?_)
    · intro y0 y1 y2 y3 y4 y5 y6 y7 y8
      unfold vignettelaw07_LzLongest.j2
      repeat' first
      | (with_reducible exact ih0 _ _ _ _)
      | (with_reducible exact ih1 _ _ _ _ _ _ _ _ _)
      | (with_reducible exact ih2 _ _ _ _ _ _ _ _ _)
      | (with_reducible exact ih3 _ _ _ _ _ _ _ _ _)
      | (with_reducible exact ih4 _ _ _ _ _ _ _ _ _ _)
      | (with_reducible exact ih5 _ _ _ _ _ _ _ _ _ _)
      | (with_reducible exact vignettelaw07_matches.mono _)
      | (with_reducible exact LeO.refl _)
      | (with_reducible exact LeO.none _)
      | (with_reducible refine LeO.ite ?_ ?_)
      | (with_reducible refine LeO.bind ?_ (fun _ => ?_))
      | exact ih0 _ _ _ _
      | exact ih1 _ _ _ _ _ _ _ _ _
      | exact ih2 _ _ _ _ _ _ _ _ _
      | exact ih3 _ _ _ _ _ _ _ _ _
      | exact ih4 _ _ _ _ _ _ _ _ _ _
      | exact ih5 _ _ _ _ _ _ _ _ _ _
      | exact vignettelaw07_matches.mono _
      | exact LeO.none _
      | refine LeO.ite ?_ ?_
      | refine LeO.bind ?_ (fun _ => ?_)
    · intro y0 y1 y2 y3 y4 y5 y6 y7 y8
      unfold vignettelaw07_LzLongest.l1
      repeat' first
      | (with_reducible exact ih0 _ _ _ _)
      | (with_reducible exact ih1 _ _ _ _ _ _ _ _ _)
      | (with_reducible exact ih2 _ _ _ _ _ _ _ _ _)
      | (with_reducible exact ih3 _ _ _ _ _ _ _ _ _)
      | (with_reducible exact ih4 _ _ _ _ _ _ _ _ _ _)
      | (with_reducible exact ih5 _ _ _ _ _ _ _ _ _ _)
      | (with_reducible exact vignettelaw07_matches.mono _)
      | (with_reducible exact LeO.refl _)
      | (with_reducible exact LeO.none _)
      | (with_reducible refine LeO.ite ?_ ?_)
      | (with_reducible refine LeO.bind ?_ (fun _ => ?_))
      | exact ih0 _ _ _ _
      | exact ih1 _ _ _ _ _ _ _ _ _
      | exact ih2 _ _ _ _ _ _ _ _ _
      | exact ih3 _ _ _ _ _ _ _ _ _
      | exact ih4 _ _ _ _ _ _ _ _ _ _
      | exact ih5 _ _ _ _ _ _ _ _ _ _
      | exact vignettelaw07_matches.mono _
      | exact LeO.none _
      | refine LeO.ite ?_ ?_
      | refine LeO.bind ?_ (fun _ => ?_)
    · intro y0 y1 y2 y3 y4 y5 y6 y7 y8 y9
      unfold vignettelaw07_LzLongest.j4
      repeat' first
      | (with_reducible exact ih0 _ _ _ _)
      | (with_reducible exact ih1 _ _ _ _ _ _ _ _ _)
      | (with_reducible exact ih2 _ _ _ _ _ _ _ _ _)
      | (with_reducible exact ih3 _ _ _ _ _ _ _ _ _)
      | (with_reducible exact ih4 _ _ _ _ _ _ _ _ _ _)
      | (with_reducible exact ih5 _ _ _ _ _ _ _ _ _ _)
      | (with_reducible exact vignettelaw07_matches.mono _)
      | (with_reducible exact LeO.refl _)
      | (with_reducible exact LeO.none _)
      | (with_reducible refine LeO.ite ?_ ?_)
      | (with_reducible refine LeO.bind ?_ (fun _ => ?_))
      | exact ih0 _ _ _ _
      | exact ih1 _ _ _ _ _ _ _ _ _
      | exact ih2 _ _ _ _ _ _ _ _ _
      | exact ih3 _ _ _ _ _ _ _ _ _
      | exact ih4 _ _ _ _ _ _ _ _ _ _
      | exact ih5 _ _ _ _ _ _ _ _ _ _
      | exact vignettelaw07_matches.mono _
      | exact LeO.none _
      | refine LeO.ite ?_ ?_
      | refine LeO.bind ?_ (fun _ => ?_)
    · intro y0 y1 y2 y3 y4 y5 y6 y7 y8 y9
      unfold vignettelaw07_LzLongest.l2
      repeat' first
      | (with_reducible exact ih0 _ _ _ _)
      | (with_reducible exact ih1 _ _ _ _ _ _ _ _ _)
      | (with_reducible exact ih2 _ _ _ _ _ _ _ _ _)
      | (with_reducible exact ih3 _ _ _ _ _ _ _ _ _)
      | (with_reducible exact ih4 _ _ _ _ _ _ _ _ _ _)
      | (with_reducible exact ih5 _ _ _ _ _ _ _ _ _ _)
      | (with_reducible exact vignettelaw07_matches.mono _)
      | (with_reducible exact LeO.refl _)
      | (with_reducible exact LeO.none _)
      | (with_reducible refine LeO.ite ?_ ?_)
      | (with_reducible refine LeO.bind ?_ (fun _ => ?_))
      | exact ih0 _ _ _ _
      | exact ih1 _ _ _ _ _ _ _ _ _
      | exact ih2 _ _ _ _ _ _ _ _ _
      | exact ih3 _ _ _ _ _ _ _ _ _
      | exact ih4 _ _ _ _ _ _ _ _ _ _
      | exact ih5 _ _ _ _ _ _ _ _ _ _
      | exact vignettelaw07_matches.mono _
      | exact LeO.none _
      | refine LeO.ite ?_ ?_
      | refine LeO.bind ?_ (fun _ => ?_)
theorem vignettelaw07_LzLongest.mono : ∀ a0 k, LeO (vignettelaw07_LzLongest.f k a0) (vignettelaw07_LzLongest.f (k + 1) a0) := by
  intro a0 k
  obtain ⟨ih0, ih1, ih2, ih3, ih4, ih5⟩ := vignettelaw07_LzLongest.mono_l k
  unfold vignettelaw07_LzLongest.f
  repeat' first
      | (with_reducible exact ih0 _ _ _ _)
      | (with_reducible exact ih1 _ _ _ _ _ _ _ _ _)
      | (with_reducible exact ih2 _ _ _ _ _ _ _ _ _)
      | (with_reducible exact ih3 _ _ _ _ _ _ _ _ _)
      | (with_reducible exact ih4 _ _ _ _ _ _ _ _ _ _)
      | (with_reducible exact ih5 _ _ _ _ _ _ _ _ _ _)
      | (with_reducible exact vignettelaw07_matches.mono _)
      | (with_reducible exact LeO.refl _)
      | (with_reducible exact LeO.none _)
      | (with_reducible refine LeO.ite ?_ ?_)
      | (with_reducible refine LeO.bind ?_ (fun _ => ?_))
      | exact ih0 _ _ _ _
      | exact ih1 _ _ _ _ _ _ _ _ _
      | exact ih2 _ _ _ _ _ _ _ _ _
      | exact ih3 _ _ _ _ _ _ _ _ _
      | exact ih4 _ _ _ _ _ _ _ _ _ _
      | exact ih5 _ _ _ _ _ _ _ _ _ _
      | exact vignettelaw07_matches.mono _
      | exact LeO.none _
      | refine LeO.ite ?_ ?_
      | refine LeO.bind ?_ (fun _ => ?_)
set_option maxHeartbeats 8000000 in
set_option maxRecDepth 100000 in
theorem vignettelaw07_LzLongest.calls (k : Nat) (A0 : Option Addr) (c0 : Nat) (l0 : List Int) (r : Bool) (w : World) (hr0 : Kd.C (Kd.int .u8) w A0 l0.length l0) (hc0 : l0.length ≤ c0) (h : vignettelaw07_LzLongest.f k l0 = some r) :
    Calls Try.prog 9 #[.slice A0 l0.length c0] w fun e w' => e = .returned (.bool r) ∧ Below w.heap.size w w' := by
  have hu26 := Try.underlying26
  have HR0 := Aside0.mk hr0
  have HC0 := Aside0.mk hc0
  clear hr0 hc0
  have HB := Aside0.mk (Below.refl w.heap.size w)
  have H : (if (l0.length : Int) > 1000 then (some true) else ((lz_Match.f l0).bind fun t323 => (vignettelaw07_LzLongest.l0 k l0 t323 0 0))) = some r := h
  clear h
  by_cases c2 : (l0.length : Int) > 1000
  · rw [if_pos c2] at H
    have c2b0 : decide (1000 < (l0.length : Int)) = true := decide_eq_true c2
    have c2b1 : decide (1000 < l0.length) = true := decide_eq_true (by omega)
    clear c2
    obtain rfl := Option.some.inj H
    go_enter Try.func9, Try.ntmps9
    go_wp2
    repeat (go_quiet (fail); try go_wp2)
    go_ret
    exact ⟨by first | rfl | (simp [errW_none, errW_some] <;> rfl) | (simp [*, errW_none, errW_some] <;> rfl), by repeat (first | (with_reducible first | exact HB.out | apply below_alloc | apply pw_below_drewN | apply below_drew1) | exact HB.out)⟩
  · rw [if_neg c2] at H
    have c2b0 : decide (1000 < (l0.length : Int)) = false := decide_eq_false c2
    have c2b1 : decide (1000 < l0.length) = false := decide_eq_false (by omega)
    clear c2
    replace H := Option.bind_eq_some_iff.mp H
    obtain ⟨t323, A30, H⟩ := H
    replace H : (vignettelaw07_LzLongest.l0 k l0 t323 0 0) = some r := H
    have A3 := Aside0.mk A30
    clear A30
    have H' := Aside0.mk H
    clear H
    go_enter Try.func9, Try.ntmps9
    go_wp2_with (first | (go_at_call 10; (with_reducible refine (lz_Match.calls _ _ l0 t323 _ ?side1 ?side2 A3.out).mono ?_); (case side1 => repeat (first | exact HR0.out | (with_reducible refine Kd.C_alloc ?_ _) | (with_reducible refine Kd.C_drewN ?_ _) | (with_reducible refine Kd.C_drew ?_))); (case side2 => exact HC0.out); rintro e w4 ⟨v324, rfl, ho0, hb⟩; have n0_ := Aside0.mk (Kd.R_lower ho0 (below_size (by repeat (first | (with_reducible first | exact HB.out | apply below_alloc | apply pw_below_drewN | apply below_drew1) | exact HB.out)))); have n1_ := Aside0.mk (below_step (by repeat (first | (with_reducible first | exact HB.out | apply below_alloc | apply pw_below_drewN | apply below_drew1) | exact HB.out)) hb); clear HB; have HO325 := n0_; have HB := n1_; clear n0_ n1_; (try clear hb); (try clear hb2); (try clear hk); (try clear hi); (try clear ho0)))
    repeat (go_quiet (first | (go_at_call 10; (with_reducible refine (lz_Match.calls _ _ l0 t323 _ ?side1 ?side2 A3.out).mono ?_); (case side1 => repeat (first | exact HR0.out | (with_reducible refine Kd.C_alloc ?_ _) | (with_reducible refine Kd.C_drewN ?_ _) | (with_reducible refine Kd.C_drew ?_))); (case side2 => exact HC0.out); rintro e w4 ⟨v324, rfl, ho0, hb⟩; have n0_ := Aside0.mk (Kd.R_lower ho0 (below_size (by repeat (first | (with_reducible first | exact HB.out | apply below_alloc | apply pw_below_drewN | apply below_drew1) | exact HB.out)))); have n1_ := Aside0.mk (below_step (by repeat (first | (with_reducible first | exact HB.out | apply below_alloc | apply pw_below_drewN | apply below_drew1) | exact HB.out)) hb); clear HB; have HO325 := n0_; have HB := n1_; clear n0_ n1_; (try clear hb); (try clear hb2); (try clear hk); (try clear hi); (try clear ho0))); try go_wp2_with (first | (go_at_call 10; (with_reducible refine (lz_Match.calls _ _ l0 t323 _ ?side1 ?side2 A3.out).mono ?_); (case side1 => repeat (first | exact HR0.out | (with_reducible refine Kd.C_alloc ?_ _) | (with_reducible refine Kd.C_drewN ?_ _) | (with_reducible refine Kd.C_drew ?_))); (case side2 => exact HC0.out); rintro e w4 ⟨v324, rfl, ho0, hb⟩; have n0_ := Aside0.mk (Kd.R_lower ho0 (below_size (by repeat (first | (with_reducible first | exact HB.out | apply below_alloc | apply pw_below_drewN | apply below_drew1) | exact HB.out)))); have n1_ := Aside0.mk (below_step (by repeat (first | (with_reducible first | exact HB.out | apply below_alloc | apply pw_below_drewN | apply below_drew1) | exact HB.out)) hb); clear HB; have HO325 := n0_; have HB := n1_; clear n0_ n1_; (try clear hb); (try clear hb2); (try clear hk); (try clear hi); (try clear ho0))))
    go_loopg [4, 5] k (fun kq v4 v5 w' => ∃ (x4_1 : Int) (x5_1 : Int), v4 = .int .i64 x4_1 ∧ v5 = .int .i64 x5_1 ∧ Aside0 (vignettelaw07_LzLongest.l0 kq l0 t323 x4_1 x5_1 = some r) ∧ Aside0 (kq ≤ k) ∧ Aside0 (Kd.R k26 26 w' w.heap.size (fun _ => True) v324 t323) ∧ Aside0 (Below w.heap.size w w'))
    case atStart => exact ⟨(0), (0), (by first | rfl | (simp; done) | (simp [*]; done)), (by first | rfl | (simp; done) | (simp [*]; done)), H', ⟨Nat.le_refl _⟩, ⟨by (with_reducible repeat (first | apply Kd.R_alloc | apply Kd.R_drewN | apply Kd.R_drew)); exact HO325.out⟩, ⟨by repeat (first | (with_reducible first | exact HB.out | apply below_alloc | apply pw_below_drewN | apply below_drew1) | exact HB.out)⟩⟩
    case round =>
      clear H'
      try clear c2
      try clear c2b0
      try clear c2b1
      try clear p2
      obtain ⟨x4_1, x5_1, rfl, rfl, HA, HK1, HO_3, HB⟩ := hrel
      cases gk with
      | zero => exact absurd HA.out (by simp [vignettelaw07_LzLongest.l0])
      | succ k1 =>
        have H := HA.out
        clear HA
        simp only [vignettelaw07_LzLongest.l0] at H
        by_cases c5 : x5_1 < (t323.length : Int)
        · rw [if_pos c5] at H
          have c5b0 : decide (x5_1 < (t323.length : Int)) = true := decide_eq_true c5
          clear c5
          by_cases c6 : 0 ≤ x5_1
          · rw [if_pos c6] at H
            have c6b0 : decide (0 ≤ x5_1) = true := decide_eq_true c6
            clear c6
            obtain ⟨ji7, hji7⟩ : ∃ j_ : Int, (mx ((rd_T26 t323 x5_1).f1) 1) = j_ := ⟨_, rfl⟩
            replace H : (if (wrap64 (x4_1 + (ji7))) > (l0.length : Int) then (vignettelaw07_LzLongest.j1 k1 l0 t323 x4_1 x5_1 ji7 true ((rd_T26 t323 x5_1).f0) ((rd_T26 t323 x5_1).f1) ((rd_T26 t323 x5_1).f2)) else (if ((rd_T26 t323 x5_1).f1) > 0 then (vignettelaw07_LzLongest.j1 k1 l0 t323 x4_1 x5_1 ji7 (decide (((rd_T26 t323 x5_1).f2) > x4_1)) ((rd_T26 t323 x5_1).f0) ((rd_T26 t323 x5_1).f1) ((rd_T26 t323 x5_1).f2)) else (vignettelaw07_LzLongest.j1 k1 l0 t323 x4_1 x5_1 ji7 false ((rd_T26 t323 x5_1).f0) ((rd_T26 t323 x5_1).f1) ((rd_T26 t323 x5_1).f2)))) = some r := by first | (rw [hji7] at H; exact H) | (simp only [hji7] at H ⊢; exact H)
            have hji7_ : (if ((rd_T26 t323 x5_1).f1) < 1 then 1 else ((rd_T26 t323 x5_1).f1)) = ji7 := hji7
            have HC8 := Aside0.mk H
            clear H
            obtain ⟨Ao9, co9, eo9⟩ := Kd.R_slice HO_3.out
            subst eo9
            have p327 : 0 ≤ (x5_1 : Int) := of_decide_eq_true (by first | (with_reducible assumption) | assumption)
            have q327 : x5_1 < (t323.length : Int) := of_decide_eq_true (by first | (with_reducible assumption) | assumption)
            obtain ⟨ad327, e327, hx327_0, hx327_1, hx327_2⟩ := at_T26 (Kd.R_reads' HO_3.out).2.2 x5_1 p327 q327
            cases e327
            replace p327 := eq_true p327
            replace q327 := eq_true q327
            go_upto_region 10 with (first | ((with_reducible refine gate_dst (N := 6) rfl ?_); (try (refine gate_guard (by rfl) ?_; dsimp only)); refine box_event ?hg (N := 6) ?hd (cs := #[.int .u8 0, .int .i64 0, .int .i64 0]) (t := 26) ?hr ?_; (case hd => rfl); (case hg => rfl); (case hr => first | (go_simp; done) | (go_simp; rfl)); intro gb328 hg w10 hbox hb; have n0_ := Aside0.mk (Kd.R_below (Kd.R_elderB (by (with_reducible repeat (first | apply Kd.R_alloc | apply Kd.R_drewN | apply Kd.R_drew)); exact HO_3.out) gb328 (Nat.le_of_eq hg.symm)) hb); have n1_ := Aside0.mk (below_step (by repeat (first | (with_reducible first | exact HB.out | apply below_alloc | apply pw_below_drewN | apply below_drew1) | exact HB.out)) hb); have n2_ := Aside0.mk (hbox); have n3_ := Aside0.mk ((by rw [hg]; exact (below_size (by repeat (first | (with_reducible first | exact HB.out | apply below_alloc | apply pw_below_drewN | apply below_drew1) | exact HB.out))) : w.heap.size ≤ gb328)); have n4_ := Aside0.mk ((by rw [hg]; exact (below_size (by repeat (first | (with_reducible first | exact HB.out | apply below_alloc | apply pw_below_drewN | apply below_drew1) | exact HB.out))) : w.heap.size ≤ gb328)); clear HO_3; clear HB; have HO_3 := n0_; have HB := n1_; have BK328 := n2_; have GW328 := n3_; have GE328 := n4_; clear n0_ n1_ n2_ n3_ n4_; clear hb hbox hg; have hcz11_0 : w10.cell? ⟨gb328, 0, none⟩ = some (.int .u8 0) := (blk_cell BK328.out 0).trans rfl; have hcz11_1 : w10.cell? ⟨gb328, 1, none⟩ = some (.int .i64 0) := (blk_cell BK328.out 1).trans rfl; have hcz11_2 : w10.cell? ⟨gb328, 2, none⟩ = some (.int .i64 0) := (blk_cell BK328.out 2).trans rfl; have hfz11_0 := blk_frozen BK328.out 0; have hfz11_1 := blk_frozen BK328.out 1; have hfz11_2 := blk_frozen BK328.out 2))
            repeat (go_quiet (first | ((with_reducible refine gate_dst (N := 6) rfl ?_); (try (refine gate_guard (by rfl) ?_; dsimp only)); refine box_event ?hg (N := 6) ?hd (cs := #[.int .u8 0, .int .i64 0, .int .i64 0]) (t := 26) ?hr ?_; (case hd => rfl); (case hg => rfl); (case hr => first | (go_simp; done) | (go_simp; rfl)); intro gb328 hg w10 hbox hb; have n0_ := Aside0.mk (Kd.R_below (Kd.R_elderB (by (with_reducible repeat (first | apply Kd.R_alloc | apply Kd.R_drewN | apply Kd.R_drew)); exact HO_3.out) gb328 (Nat.le_of_eq hg.symm)) hb); have n1_ := Aside0.mk (below_step (by repeat (first | (with_reducible first | exact HB.out | apply below_alloc | apply pw_below_drewN | apply below_drew1) | exact HB.out)) hb); have n2_ := Aside0.mk (hbox); have n3_ := Aside0.mk ((by rw [hg]; exact (below_size (by repeat (first | (with_reducible first | exact HB.out | apply below_alloc | apply pw_below_drewN | apply below_drew1) | exact HB.out))) : w.heap.size ≤ gb328)); have n4_ := Aside0.mk ((by rw [hg]; exact (below_size (by repeat (first | (with_reducible first | exact HB.out | apply below_alloc | apply pw_below_drewN | apply below_drew1) | exact HB.out))) : w.heap.size ≤ gb328)); clear HO_3; clear HB; have HO_3 := n0_; have HB := n1_; have BK328 := n2_; have GW328 := n3_; have GE328 := n4_; clear n0_ n1_ n2_ n3_ n4_; clear hb hbox hg; have hcz11_0 : w10.cell? ⟨gb328, 0, none⟩ = some (.int .u8 0) := (blk_cell BK328.out 0).trans rfl; have hcz11_1 : w10.cell? ⟨gb328, 1, none⟩ = some (.int .i64 0) := (blk_cell BK328.out 1).trans rfl; have hcz11_2 : w10.cell? ⟨gb328, 2, none⟩ = some (.int .i64 0) := (blk_cell BK328.out 2).trans rfl; have hfz11_0 := blk_frozen BK328.out 0; have hfz11_1 := blk_frozen BK328.out 1; have hfz11_2 := blk_frozen BK328.out 2)); go_upto_region 10 with (first | ((with_reducible refine gate_dst (N := 6) rfl ?_); (try (refine gate_guard (by rfl) ?_; dsimp only)); refine box_event ?hg (N := 6) ?hd (cs := #[.int .u8 0, .int .i64 0, .int .i64 0]) (t := 26) ?hr ?_; (case hd => rfl); (case hg => rfl); (case hr => first | (go_simp; done) | (go_simp; rfl)); intro gb328 hg w10 hbox hb; have n0_ := Aside0.mk (Kd.R_below (Kd.R_elderB (by (with_reducible repeat (first | apply Kd.R_alloc | apply Kd.R_drewN | apply Kd.R_drew)); exact HO_3.out) gb328 (Nat.le_of_eq hg.symm)) hb); have n1_ := Aside0.mk (below_step (by repeat (first | (with_reducible first | exact HB.out | apply below_alloc | apply pw_below_drewN | apply below_drew1) | exact HB.out)) hb); have n2_ := Aside0.mk (hbox); have n3_ := Aside0.mk ((by rw [hg]; exact (below_size (by repeat (first | (with_reducible first | exact HB.out | apply below_alloc | apply pw_below_drewN | apply below_drew1) | exact HB.out))) : w.heap.size ≤ gb328)); have n4_ := Aside0.mk ((by rw [hg]; exact (below_size (by repeat (first | (with_reducible first | exact HB.out | apply below_alloc | apply pw_below_drewN | apply below_drew1) | exact HB.out))) : w.heap.size ≤ gb328)); clear HO_3; clear HB; have HO_3 := n0_; have HB := n1_; have BK328 := n2_; have GW328 := n3_; have GE328 := n4_; clear n0_ n1_ n2_ n3_ n4_; clear hb hbox hg; have hcz11_0 : w10.cell? ⟨gb328, 0, none⟩ = some (.int .u8 0) := (blk_cell BK328.out 0).trans rfl; have hcz11_1 : w10.cell? ⟨gb328, 1, none⟩ = some (.int .i64 0) := (blk_cell BK328.out 1).trans rfl; have hcz11_2 : w10.cell? ⟨gb328, 2, none⟩ = some (.int .i64 0) := (blk_cell BK328.out 2).trans rfl; have hfz11_0 := blk_frozen BK328.out 0; have hfz11_1 := blk_frozen BK328.out 1; have hfz11_2 := blk_frozen BK328.out 2)))
            (try simp only [Act.put, List.setIfInBounds_toArray, List.set_cons_zero, List.set_cons_succ])
            go_cut [44] (fun v44 wc => ∃ (kq : Nat) (x44_7 : Bool), v44 = .bool x44_7 ∧ Aside0 (vignettelaw07_LzLongest.j1 kq l0 t323 x4_1 x5_1 ji7 x44_7 ((rd_T26 t323 x5_1).f0) ((rd_T26 t323 x5_1).f1) ((rd_T26 t323 x5_1).f2) = some r) ∧ Aside0 (kq ≤ k1) ∧ Aside0 (Kd.R k26 26 wc w.heap.size (fun k_ => k_ ≠ gb328) (.slice (some ad327) t323.length co9) t323) ∧ Aside0 (wc.heap[gb328]? = some (.cells #[.int .u8 ((rd_T26 t323 x5_1).f0), .int .i64 ((rd_T26 t323 x5_1).f1), .int .i64 ((rd_T26 t323 x5_1).f2)] 26 (0, 0))) ∧ Aside0 (Below w.heap.size w wc))
            case first =>
              have H := HC8.out
              clear HC8
              by_cases c12 : (wrap64 (x4_1 + (ji7))) > (l0.length : Int)
              · rw [if_pos c12] at H
                have c12b0 : decide ((l0.length : Int) < (wrap64 (x4_1 + (ji7)))) = true := decide_eq_true c12
                clear c12
                (first | rw [c12b0] | (simp only [i64_w, i32_w]; rw [c12b0]) | skip)
                have H' := Aside0.mk H
                clear H
                go_wp2
                repeat (go_quiet (fail); try go_wp2)
                go_meet
                case rel => exact ⟨_, (true), (by first | rfl | (simp; done) | (simp [*]; done)), H', ⟨by have := HK1.out; first | omega | exact Nat.le_refl _⟩, ⟨by (with_reducible repeat (first | apply Kd.R_alloc | apply Kd.R_drewN | apply Kd.R_drew)); exact Kd.R_mono (Kd.R_far (p := ⟨gb328, 2, none⟩) (Kd.R_far (p := ⟨gb328, 1, none⟩) (Kd.R_far (p := ⟨gb328, 0, none⟩) (Kd.R_mono HO_3.out (fun k_ hk => (⟨hk, hk.2⟩ : _ ∧ k_ ≠ gb328))) (fun _ hk => hk.2) (.int .u8 ((rd_T26 t323 x5_1).f0))) (fun _ hk => hk.2) (.int .i64 ((rd_T26 t323 x5_1).f1))) (fun _ hk => hk.2) (.int .i64 ((rd_T26 t323 x5_1).f2))) (fun _ hk => hk.1.2)⟩, ⟨by (with_reducible repeat (first | refine blk_drewN ?_ _ | refine blk_drew ?_ | refine blk_alloc ?_ _)); refine blk_put (cs := #[.int .u8 ((rd_T26 t323 x5_1).f0), .int .i64 ((rd_T26 t323 x5_1).f1), .int .i64 0]) ?_ 2 _ rfl; (with_reducible repeat (first | refine blk_drewN ?_ _ | refine blk_drew ?_ | refine blk_alloc ?_ _)); refine blk_put (cs := #[.int .u8 ((rd_T26 t323 x5_1).f0), .int .i64 0, .int .i64 0]) ?_ 1 _ rfl; (with_reducible repeat (first | refine blk_drewN ?_ _ | refine blk_drew ?_ | refine blk_alloc ?_ _)); refine blk_put (cs := #[.int .u8 0, .int .i64 0, .int .i64 0]) ?_ 0 _ rfl; (with_reducible repeat (first | refine blk_drewN ?_ _ | refine blk_drew ?_ | refine blk_alloc ?_ _)); exact BK328.out⟩, ⟨by repeat (first | (with_reducible first | exact HB.out | apply below_alloc | apply pw_below_drewN | apply below_drew1 | refine below_set ?_ GE328.out) | exact HB.out)⟩⟩
              · rw [if_neg c12] at H
                have c12b0 : decide ((l0.length : Int) < (wrap64 (x4_1 + (ji7)))) = false := decide_eq_false c12
                clear c12
                (first | rw [c12b0] | (simp only [i64_w, i32_w]; rw [c12b0]) | skip)
                by_cases c13 : ((rd_T26 t323 x5_1).f1) > 0
                · rw [if_pos c13] at H
                  have c13b0 : decide (0 < ((rd_T26 t323 x5_1).f1)) = true := decide_eq_true c13
                  clear c13
                  have H' := Aside0.mk H
                  clear H
                  have hcz14_0 : w10.cell? ⟨gb328, 0, none⟩ = some (.int .u8 0) := (blk_cell BK328.out 0).trans rfl
                  have hcz14_1 : w10.cell? ⟨gb328, 1, none⟩ = some (.int .i64 0) := (blk_cell BK328.out 1).trans rfl
                  have hcz14_2 : w10.cell? ⟨gb328, 2, none⟩ = some (.int .i64 0) := (blk_cell BK328.out 2).trans rfl
                  have hfz14_0 := blk_frozen BK328.out 0
                  have hfz14_1 := blk_frozen BK328.out 1
                  have hfz14_2 := blk_frozen BK328.out 2
                  go_wp2
                  repeat (go_quiet (fail); try go_wp2)
                  go_meet
                  case rel => exact ⟨_, (decide (((rd_T26 t323 x5_1).f2) > x4_1)), (by first | rfl | (simp; done) | (simp [*]; done)), H', ⟨by have := HK1.out; first | omega | exact Nat.le_refl _⟩, ⟨by (with_reducible repeat (first | apply Kd.R_alloc | apply Kd.R_drewN | apply Kd.R_drew)); exact Kd.R_mono (Kd.R_far (p := ⟨gb328, 2, none⟩) (Kd.R_far (p := ⟨gb328, 1, none⟩) (Kd.R_far (p := ⟨gb328, 0, none⟩) (Kd.R_mono HO_3.out (fun k_ hk => (⟨hk, hk.2⟩ : _ ∧ k_ ≠ gb328))) (fun _ hk => hk.2) (.int .u8 ((rd_T26 t323 x5_1).f0))) (fun _ hk => hk.2) (.int .i64 ((rd_T26 t323 x5_1).f1))) (fun _ hk => hk.2) (.int .i64 ((rd_T26 t323 x5_1).f2))) (fun _ hk => hk.1.2)⟩, ⟨by (with_reducible repeat (first | refine blk_drewN ?_ _ | refine blk_drew ?_ | refine blk_alloc ?_ _)); refine blk_put (cs := #[.int .u8 ((rd_T26 t323 x5_1).f0), .int .i64 ((rd_T26 t323 x5_1).f1), .int .i64 0]) ?_ 2 _ rfl; (with_reducible repeat (first | refine blk_drewN ?_ _ | refine blk_drew ?_ | refine blk_alloc ?_ _)); refine blk_put (cs := #[.int .u8 ((rd_T26 t323 x5_1).f0), .int .i64 0, .int .i64 0]) ?_ 1 _ rfl; (with_reducible repeat (first | refine blk_drewN ?_ _ | refine blk_drew ?_ | refine blk_alloc ?_ _)); refine blk_put (cs := #[.int .u8 0, .int .i64 0, .int .i64 0]) ?_ 0 _ rfl; (with_reducible repeat (first | refine blk_drewN ?_ _ | refine blk_drew ?_ | refine blk_alloc ?_ _)); exact BK328.out⟩, ⟨by repeat (first | (with_reducible first | exact HB.out | apply below_alloc | apply pw_below_drewN | apply below_drew1 | refine below_set ?_ GE328.out) | exact HB.out)⟩⟩
                · rw [if_neg c13] at H
                  have c13b0 : decide (0 < ((rd_T26 t323 x5_1).f1)) = false := decide_eq_false c13
                  clear c13
                  have H' := Aside0.mk H
                  clear H
                  have hcz15_0 : w10.cell? ⟨gb328, 0, none⟩ = some (.int .u8 0) := (blk_cell BK328.out 0).trans rfl
                  have hcz15_1 : w10.cell? ⟨gb328, 1, none⟩ = some (.int .i64 0) := (blk_cell BK328.out 1).trans rfl
                  have hcz15_2 : w10.cell? ⟨gb328, 2, none⟩ = some (.int .i64 0) := (blk_cell BK328.out 2).trans rfl
                  have hfz15_0 := blk_frozen BK328.out 0
                  have hfz15_1 := blk_frozen BK328.out 1
                  have hfz15_2 := blk_frozen BK328.out 2
                  go_wp2
                  repeat (go_quiet (fail); try go_wp2)
                  go_meet
                  case rel => exact ⟨_, (false), (by first | rfl | (simp; done) | (simp [*]; done)), H', ⟨by have := HK1.out; first | omega | exact Nat.le_refl _⟩, ⟨by (with_reducible repeat (first | apply Kd.R_alloc | apply Kd.R_drewN | apply Kd.R_drew)); exact Kd.R_mono (Kd.R_far (p := ⟨gb328, 2, none⟩) (Kd.R_far (p := ⟨gb328, 1, none⟩) (Kd.R_far (p := ⟨gb328, 0, none⟩) (Kd.R_mono HO_3.out (fun k_ hk => (⟨hk, hk.2⟩ : _ ∧ k_ ≠ gb328))) (fun _ hk => hk.2) (.int .u8 ((rd_T26 t323 x5_1).f0))) (fun _ hk => hk.2) (.int .i64 ((rd_T26 t323 x5_1).f1))) (fun _ hk => hk.2) (.int .i64 ((rd_T26 t323 x5_1).f2))) (fun _ hk => hk.1.2)⟩, ⟨by (with_reducible repeat (first | refine blk_drewN ?_ _ | refine blk_drew ?_ | refine blk_alloc ?_ _)); refine blk_put (cs := #[.int .u8 ((rd_T26 t323 x5_1).f0), .int .i64 ((rd_T26 t323 x5_1).f1), .int .i64 0]) ?_ 2 _ rfl; (with_reducible repeat (first | refine blk_drewN ?_ _ | refine blk_drew ?_ | refine blk_alloc ?_ _)); refine blk_put (cs := #[.int .u8 ((rd_T26 t323 x5_1).f0), .int .i64 0, .int .i64 0]) ?_ 1 _ rfl; (with_reducible repeat (first | refine blk_drewN ?_ _ | refine blk_drew ?_ | refine blk_alloc ?_ _)); refine blk_put (cs := #[.int .u8 0, .int .i64 0, .int .i64 0]) ?_ 0 _ rfl; (with_reducible repeat (first | refine blk_drewN ?_ _ | refine blk_drew ?_ | refine blk_alloc ?_ _)); exact BK328.out⟩, ⟨by repeat (first | (with_reducible first | exact HB.out | apply below_alloc | apply pw_below_drewN | apply below_drew1 | refine below_set ?_ GE328.out) | exact HB.out)⟩⟩
            case rest =>
              clear HC8
              try clear c1
              try clear c2
              try clear c2b0
              try clear c2b1
              try clear p2
              try clear p3
              try clear q3
              try clear hx3
              try clear c5
              try clear c5b0
              try clear c6
              try clear c6b0
              try clear p6
              try clear c9
              try clear c12
              try clear c12b0
              try clear c13
              try clear c13b0
              try clear hcz11_0
              try clear hcz11_1
              try clear hcz11_2
              try clear hcz14_0
              try clear hcz14_1
              try clear hcz14_2
              try clear hcz15_0
              try clear hcz15_1
              try clear hcz15_2
              try clear hfz11_0
              try clear hfz11_1
              try clear hfz11_2
              try clear hfz14_0
              try clear hfz14_1
              try clear hfz14_2
              try clear hfz15_0
              try clear hfz15_1
              try clear hfz15_2
              try clear hx327_0
              try clear hx327_1
              try clear hx327_2
              try clear p2
              try clear p327
              try clear q327
              obtain ⟨kq, x44_7, rfl, HA, HJ7, HO_3, BK328, HB⟩ := hcut
              cases kq with
              | zero => exact absurd HA.out (by simp [vignettelaw07_LzLongest.j1])
              | succ kj7 =>
                have H := HA.out
                clear HA
                simp only [vignettelaw07_LzLongest.j1] at H
                by_cases c16 : x44_7 = true
                · subst c16
                  have H1 : (some false) = some r := by rw [if_pos rfl] at H; exact H
                  clear H
                  have H := H1
                  clear H1
                  obtain rfl := Option.some.inj H
                  go_wp2
                  repeat (go_quiet (fail); try go_wp2)
                  go_ret
                  exact ⟨by first | rfl | (simp [errW_none, errW_some] <;> rfl) | (simp only [← hji7]; first | rfl | (simp [errW_none, errW_some] <;> rfl)) | (simp [*, errW_none, errW_some] <;> rfl), by repeat (first | (with_reducible first | exact HB.out | apply below_alloc | apply pw_below_drewN | apply below_drew1 | refine below_set ?_ GE328.out) | exact HB.out)⟩
                · replace c16 := Bool.eq_false_iff.mpr c16
                  subst c16
                  have H1 : (if ((rd_T26 t323 x5_1).f1) > 0 then (if ((rd_T26 t323 x5_1).f1) < 258 then (if (wrap64 (x4_1 + ji7)) < (l0.length : Int) then (if 0 ≤ (wrap64 (x4_1 + ji7)) then (if 0 ≤ (wrap64 ((wrap64 (x4_1 + ji7)) - ((rd_T26 t323 x5_1).f2))) then (if (wrap64 ((wrap64 (x4_1 + ji7)) - ((rd_T26 t323 x5_1).f2))) < (l0.length : Int) then (vignettelaw07_LzLongest.j2 kj7 l0 t323 x4_1 x5_1 ji7 ((rd l0 (wrap64 (x4_1 + ji7))) == (rd l0 (wrap64 ((wrap64 (x4_1 + ji7)) - ((rd_T26 t323 x5_1).f2))))) ((rd_T26 t323 x5_1).f0) ((rd_T26 t323 x5_1).f1) ((rd_T26 t323 x5_1).f2)) else (none)) else (none)) else (none)) else (vignettelaw07_LzLongest.j2 kj7 l0 t323 x4_1 x5_1 ji7 false ((rd_T26 t323 x5_1).f0) ((rd_T26 t323 x5_1).f1) ((rd_T26 t323 x5_1).f2))) else (vignettelaw07_LzLongest.j2 kj7 l0 t323 x4_1 x5_1 ji7 false ((rd_T26 t323 x5_1).f0) ((rd_T26 t323 x5_1).f1) ((rd_T26 t323 x5_1).f2))) else (vignettelaw07_LzLongest.j2 kj7 l0 t323 x4_1 x5_1 ji7 false ((rd_T26 t323 x5_1).f0) ((rd_T26 t323 x5_1).f1) ((rd_T26 t323 x5_1).f2))) = some r := by rw [if_neg (show ¬ (false = true) by decide)] at H; exact H
                  clear H
                  have H := H1
                  clear H1
                  have HC17 := Aside0.mk H
                  clear H
                  go_upto_region 12 with (fail)
                  repeat (go_quiet (fail); go_upto_region 12 with (fail))
                  go_cut [78] (fun v78 wc => ∃ (kq : Nat) (x78_16 : Bool), v78 = .bool x78_16 ∧ Aside0 (vignettelaw07_LzLongest.j2 kq l0 t323 x4_1 x5_1 ji7 x78_16 ((rd_T26 t323 x5_1).f0) ((rd_T26 t323 x5_1).f1) ((rd_T26 t323 x5_1).f2) = some r) ∧ Aside0 (kq ≤ kj7) ∧ Aside0 (Kd.R k26 26 wc w.heap.size (fun k_ => k_ ≠ gb328) (.slice (some ad327) t323.length co9) t323) ∧ Aside0 (wc.heap[gb328]? = some (.cells #[.int .u8 ((rd_T26 t323 x5_1).f0), .int .i64 ((rd_T26 t323 x5_1).f1), .int .i64 ((rd_T26 t323 x5_1).f2)] 26 (0, 0))) ∧ Aside0 (Below w.heap.size w wc))
                  case first =>
                    have H := HC17.out
                    clear HC17
                    by_cases c18 : ((rd_T26 t323 x5_1).f1) > 0
                    · rw [if_pos c18] at H
                      have c18b0 : decide (0 < ((rd_T26 t323 x5_1).f1)) = true := decide_eq_true c18
                      clear c18
                      (first | rw [c18b0] | (simp only [i64_w, i32_w]; rw [c18b0]) | skip)
                      by_cases c19 : ((rd_T26 t323 x5_1).f1) < 258
                      · rw [if_pos c19] at H
                        have c19b0 : decide (((rd_T26 t323 x5_1).f1) < 258) = true := decide_eq_true c19
                        clear c19
                        by_cases c20 : (wrap64 (x4_1 + ji7)) < (l0.length : Int)
                        · rw [if_pos c20] at H
                          have c20b0 : decide ((wrap64 (x4_1 + ji7)) < (l0.length : Int)) = true := decide_eq_true c20
                          clear c20
                          obtain ⟨ji21, hji21⟩ : ∃ j_ : Int, (wrap64 (x4_1 + ji7)) = j_ := ⟨_, rfl⟩
                          replace H : (if 0 ≤ (ji21) then (if 0 ≤ (wrap64 ((ji21) - ((rd_T26 t323 x5_1).f2))) then (if (wrap64 ((ji21) - ((rd_T26 t323 x5_1).f2))) < (l0.length : Int) then (vignettelaw07_LzLongest.j2 kj7 l0 t323 x4_1 x5_1 ji7 ((rd l0 (ji21)) == (rd l0 (wrap64 ((ji21) - ((rd_T26 t323 x5_1).f2))))) ((rd_T26 t323 x5_1).f0) ((rd_T26 t323 x5_1).f1) ((rd_T26 t323 x5_1).f2)) else (none)) else (none)) else (none)) = some r := by first | (rw [hji21] at H; exact H) | (simp only [hji21] at H ⊢; exact H)
                          (try rw [hji21] at c20b0)
                          have hji21w : (IntKind.i64.wrap (x4_1 + ji7)) = ji21 := (i64_w _).trans hji21
                          by_cases c22 : 0 ≤ (ji21)
                          · rw [if_pos c22] at H
                            have c22b0 : decide (0 ≤ (ji21)) = true := decide_eq_true c22
                            clear c22
                            obtain ⟨ji23, hji23⟩ : ∃ j_ : Int, (wrap64 ((ji21) - ((rd_T26 t323 x5_1).f2))) = j_ := ⟨_, rfl⟩
                            replace H : (if 0 ≤ (ji23) then (if (ji23) < (l0.length : Int) then (vignettelaw07_LzLongest.j2 kj7 l0 t323 x4_1 x5_1 ji7 ((rd l0 (ji21)) == (rd l0 (ji23))) ((rd_T26 t323 x5_1).f0) ((rd_T26 t323 x5_1).f1) ((rd_T26 t323 x5_1).f2)) else (none)) else (none)) = some r := by first | (rw [hji23] at H; exact H) | (simp only [hji23] at H ⊢; exact H)
                            have hji23w : (IntKind.i64.wrap ((ji21) - ((rd_T26 t323 x5_1).f2))) = ji23 := (i64_w _).trans hji23
                            by_cases c24 : 0 ≤ (ji23)
                            · rw [if_pos c24] at H
                              have c24b0 : decide (0 ≤ (ji23)) = true := decide_eq_true c24
                              clear c24
                              by_cases c25 : (ji23) < (l0.length : Int)
                              · rw [if_pos c25] at H
                                have c25b0 : decide ((ji23) < (l0.length : Int)) = true := decide_eq_true c25
                                clear c25
                                have H' := Aside0.mk H
                                clear H
                                have hcz26_0 : wc.cell? ⟨gb328, 0, none⟩ = some (.int .u8 ((rd_T26 t323 x5_1).f0)) := (blk_cell BK328.out 0).trans rfl
                                have hcz26_1 : wc.cell? ⟨gb328, 1, none⟩ = some (.int .i64 ((rd_T26 t323 x5_1).f1)) := (blk_cell BK328.out 1).trans rfl
                                have hcz26_2 : wc.cell? ⟨gb328, 2, none⟩ = some (.int .i64 ((rd_T26 t323 x5_1).f2)) := (blk_cell BK328.out 2).trans rfl
                                have hfz26_0 := blk_frozen BK328.out 0
                                have hfz26_1 := blk_frozen BK328.out 1
                                have hfz26_2 := blk_frozen BK328.out 2
                                have p329 : 0 ≤ ((ji21) : Int) := of_decide_eq_true (by first | (with_reducible assumption) | assumption)
                                have q329 : (ji21) < (l0.length : Int) := of_decide_eq_true (by first | (with_reducible assumption) | assumption)
                                obtain ⟨ad329, e329, hx329_0⟩ := Kd.at_int HR0.out (ji21) p329 q329
                                cases e329
                                replace hx329_0 := (HB.out.cell (World.block_lt_of_cell? w _ hx329_0)).trans hx329_0
                                replace p329 := eq_true p329
                                replace q329 := eq_true q329
                                have p330 : 0 ≤ ((ji23) : Int) := of_decide_eq_true (by first | (with_reducible assumption) | assumption)
                                have q330 : (ji23) < (l0.length : Int) := of_decide_eq_true (by first | (with_reducible assumption) | assumption)
                                obtain ⟨ad330, e330, hx330_0⟩ := Kd.at_int HR0.out (ji23) p330 q330
                                obtain rfl : ad329 = ad330 := (by injection e330)
                                replace hx330_0 := (HB.out.cell (World.block_lt_of_cell? w _ hx330_0)).trans hx330_0
                                replace p330 := eq_true p330
                                replace q330 := eq_true q330
                                go_wp2
                                repeat (go_quiet (fail); try go_wp2)
                                go_meet
                                case rel => exact ⟨_, (((rd l0 (ji21)) == (rd l0 (ji23)))), (by first | rfl | (simp; done) | (simp only [← hji21, ← hji23] <;> (first | rfl | simp)) | (simp [*]; done)), H', ⟨by have := HK1.out; have := HJ7.out; first | omega | exact Nat.le_refl _⟩, ⟨by (with_reducible repeat (first | apply Kd.R_alloc | apply Kd.R_drewN | apply Kd.R_drew)); exact HO_3.out⟩, ⟨by (with_reducible repeat (first | refine blk_drewN ?_ _ | refine blk_drew ?_ | refine blk_alloc ?_ _)); exact BK328.out⟩, ⟨by repeat (first | (with_reducible first | exact HB.out | apply below_alloc | apply pw_below_drewN | apply below_drew1 | refine below_set ?_ GE328.out) | exact HB.out)⟩⟩
                              · rw [if_neg c25] at H
                                exact absurd H (by simp)
                            · rw [if_neg c24] at H
                              exact absurd H (by simp)
                          · rw [if_neg c22] at H
                            exact absurd H (by simp)
                        · rw [if_neg c20] at H
                          have c20b0 : decide ((wrap64 (x4_1 + ji7)) < (l0.length : Int)) = false := decide_eq_false c20
                          clear c20
                          have H' := Aside0.mk H
                          clear H
                          have hcz27_0 : wc.cell? ⟨gb328, 0, none⟩ = some (.int .u8 ((rd_T26 t323 x5_1).f0)) := (blk_cell BK328.out 0).trans rfl
                          have hcz27_1 : wc.cell? ⟨gb328, 1, none⟩ = some (.int .i64 ((rd_T26 t323 x5_1).f1)) := (blk_cell BK328.out 1).trans rfl
                          have hcz27_2 : wc.cell? ⟨gb328, 2, none⟩ = some (.int .i64 ((rd_T26 t323 x5_1).f2)) := (blk_cell BK328.out 2).trans rfl
                          have hfz27_0 := blk_frozen BK328.out 0
                          have hfz27_1 := blk_frozen BK328.out 1
                          have hfz27_2 := blk_frozen BK328.out 2
                          go_wp2
                          repeat (go_quiet (fail); try go_wp2)
                          go_meet
                          case rel => exact ⟨_, (false), (by first | rfl | (simp; done) | (simp [*]; done)), H', ⟨by have := HK1.out; have := HJ7.out; first | omega | exact Nat.le_refl _⟩, ⟨by (with_reducible repeat (first | apply Kd.R_alloc | apply Kd.R_drewN | apply Kd.R_drew)); exact HO_3.out⟩, ⟨by (with_reducible repeat (first | refine blk_drewN ?_ _ | refine blk_drew ?_ | refine blk_alloc ?_ _)); exact BK328.out⟩, ⟨by repeat (first | (with_reducible first | exact HB.out | apply below_alloc | apply pw_below_drewN | apply below_drew1 | refine below_set ?_ GE328.out) | exact HB.out)⟩⟩
                      · rw [if_neg c19] at H
                        have c19b0 : decide (((rd_T26 t323 x5_1).f1) < 258) = false := decide_eq_false c19
                        clear c19
                        have H' := Aside0.mk H
                        clear H
                        have hcz28_0 : wc.cell? ⟨gb328, 0, none⟩ = some (.int .u8 ((rd_T26 t323 x5_1).f0)) := (blk_cell BK328.out 0).trans rfl
                        have hcz28_1 : wc.cell? ⟨gb328, 1, none⟩ = some (.int .i64 ((rd_T26 t323 x5_1).f1)) := (blk_cell BK328.out 1).trans rfl
                        have hcz28_2 : wc.cell? ⟨gb328, 2, none⟩ = some (.int .i64 ((rd_T26 t323 x5_1).f2)) := (blk_cell BK328.out 2).trans rfl
                        have hfz28_0 := blk_frozen BK328.out 0
                        have hfz28_1 := blk_frozen BK328.out 1
                        have hfz28_2 := blk_frozen BK328.out 2
                        go_wp2
                        repeat (go_quiet (fail); try go_wp2)
                        go_meet
                        case rel => exact ⟨_, (false), (by first | rfl | (simp; done) | (simp [*]; done)), H', ⟨by have := HK1.out; have := HJ7.out; first | omega | exact Nat.le_refl _⟩, ⟨by (with_reducible repeat (first | apply Kd.R_alloc | apply Kd.R_drewN | apply Kd.R_drew)); exact HO_3.out⟩, ⟨by (with_reducible repeat (first | refine blk_drewN ?_ _ | refine blk_drew ?_ | refine blk_alloc ?_ _)); exact BK328.out⟩, ⟨by repeat (first | (with_reducible first | exact HB.out | apply below_alloc | apply pw_below_drewN | apply below_drew1 | refine below_set ?_ GE328.out) | exact HB.out)⟩⟩
                    · rw [if_neg c18] at H
                      have c18b0 : decide (0 < ((rd_T26 t323 x5_1).f1)) = false := decide_eq_false c18
                      clear c18
                      (first | rw [c18b0] | (simp only [i64_w, i32_w]; rw [c18b0]) | skip)
                      have H' := Aside0.mk H
                      clear H
                      have hcz29_0 : wc.cell? ⟨gb328, 0, none⟩ = some (.int .u8 ((rd_T26 t323 x5_1).f0)) := (blk_cell BK328.out 0).trans rfl
                      have hcz29_1 : wc.cell? ⟨gb328, 1, none⟩ = some (.int .i64 ((rd_T26 t323 x5_1).f1)) := (blk_cell BK328.out 1).trans rfl
                      have hcz29_2 : wc.cell? ⟨gb328, 2, none⟩ = some (.int .i64 ((rd_T26 t323 x5_1).f2)) := (blk_cell BK328.out 2).trans rfl
                      have hfz29_0 := blk_frozen BK328.out 0
                      have hfz29_1 := blk_frozen BK328.out 1
                      have hfz29_2 := blk_frozen BK328.out 2
                      go_wp2
                      repeat (go_quiet (fail); try go_wp2)
                      go_meet
                      case rel => exact ⟨_, (false), (by first | rfl | (simp; done) | (simp [*]; done)), H', ⟨by have := HK1.out; have := HJ7.out; first | omega | exact Nat.le_refl _⟩, ⟨by (with_reducible repeat (first | apply Kd.R_alloc | apply Kd.R_drewN | apply Kd.R_drew)); exact HO_3.out⟩, ⟨by (with_reducible repeat (first | refine blk_drewN ?_ _ | refine blk_drew ?_ | refine blk_alloc ?_ _)); exact BK328.out⟩, ⟨by repeat (first | (with_reducible first | exact HB.out | apply below_alloc | apply pw_below_drewN | apply below_drew1 | refine below_set ?_ GE328.out) | exact HB.out)⟩⟩
                  case rest =>
                    clear HC17
                    try clear c1
                    try clear c2
                    try clear c2b0
                    try clear c2b1
                    try clear p2
                    try clear p3
                    try clear q3
                    try clear hx3
                    try clear c5
                    try clear c5b0
                    try clear c6
                    try clear c6b0
                    try clear p6
                    try clear c9
                    try clear c12
                    try clear c12b0
                    try clear c13
                    try clear c13b0
                    try clear c16
                    try clear c18
                    try clear c18b0
                    try clear c19
                    try clear c19b0
                    try clear c20
                    try clear c20b0
                    try clear c22
                    try clear c22b0
                    try clear c24
                    try clear c24b0
                    try clear c25
                    try clear c25b0
                    try clear hcz11_0
                    try clear hcz11_1
                    try clear hcz11_2
                    try clear hcz14_0
                    try clear hcz14_1
                    try clear hcz14_2
                    try clear hcz15_0
                    try clear hcz15_1
                    try clear hcz15_2
                    try clear hcz26_0
                    try clear hcz26_1
                    try clear hcz26_2
                    try clear hcz27_0
                    try clear hcz27_1
                    try clear hcz27_2
                    try clear hcz28_0
                    try clear hcz28_1
                    try clear hcz28_2
                    try clear hcz29_0
                    try clear hcz29_1
                    try clear hcz29_2
                    try clear hfz11_0
                    try clear hfz11_1
                    try clear hfz11_2
                    try clear hfz14_0
                    try clear hfz14_1
                    try clear hfz14_2
                    try clear hfz15_0
                    try clear hfz15_1
                    try clear hfz15_2
                    try clear hfz26_0
                    try clear hfz26_1
                    try clear hfz26_2
                    try clear hfz27_0
                    try clear hfz27_1
                    try clear hfz27_2
                    try clear hfz28_0
                    try clear hfz28_1
                    try clear hfz28_2
                    try clear hfz29_0
                    try clear hfz29_1
                    try clear hfz29_2
                    try clear hx327_0
                    try clear hx327_1
                    try clear hx327_2
                    try clear hx329_0
                    try clear hx330_0
                    try clear p2
                    try clear p3
                    try clear p327
                    try clear p329
                    try clear p330
                    try clear p6
                    try clear q3
                    try clear q327
                    try clear q329
                    try clear q330
                    obtain ⟨kq, x78_16, rfl, HA, HJ16, HO_3, BK328, HB⟩ := hcut
                    cases kq with
                    | zero => exact absurd HA.out (by simp [vignettelaw07_LzLongest.j2])
                    | succ kj16 =>
                      have H := HA.out
                      clear HA
                      simp only [vignettelaw07_LzLongest.j2] at H
                      by_cases c30 : x78_16 = true
                      · subst c30
                        have H1 : (some false) = some r := by rw [if_pos rfl] at H; exact H
                        clear H
                        have H := H1
                        clear H1
                        obtain rfl := Option.some.inj H
                        go_wp2
                        repeat (go_quiet (fail); try go_wp2)
                        go_ret
                        exact ⟨by first | rfl | (simp [errW_none, errW_some] <;> rfl) | (simp only [← hji7]; first | rfl | (simp [errW_none, errW_some] <;> rfl)) | (simp [*, errW_none, errW_some] <;> rfl), by repeat (first | (with_reducible first | exact HB.out | apply below_alloc | apply pw_below_drewN | apply below_drew1 | refine below_set ?_ GE328.out) | exact HB.out)⟩
                      · replace c30 := Bool.eq_false_iff.mpr c30
                        subst c30
                        have H1 : (vignettelaw07_LzLongest.l1 kj16 l0 t323 x4_1 x5_1 ji7 1 ((rd_T26 t323 x5_1).f0) ((rd_T26 t323 x5_1).f1) ((rd_T26 t323 x5_1).f2)) = some r := by rw [if_neg (show ¬ (false = true) by decide)] at H; exact H
                        clear H
                        have H := H1
                        clear H1
                        have H' := Aside0.mk H
                        clear H
                        go_wp2
                        repeat (go_quiet (fail); try go_wp2)
                        go_loopg [8] kj16 (fun kq v8 w' => ∃ (x8_4 : Int), v8 = .int .i64 x8_4 ∧ Aside0 (vignettelaw07_LzLongest.l1 kq l0 t323 x4_1 x5_1 ji7 x8_4 ((rd_T26 t323 x5_1).f0) ((rd_T26 t323 x5_1).f1) ((rd_T26 t323 x5_1).f2) = some r) ∧ Aside0 (kq ≤ kj16) ∧ Aside0 (Kd.R k26 26 w' w.heap.size (fun k_ => k_ ≠ gb328) (.slice (some ad327) t323.length co9) t323) ∧ Aside0 (w'.heap[gb328]? = some (.cells #[.int .u8 ((rd_T26 t323 x5_1).f0), .int .i64 ((rd_T26 t323 x5_1).f1), .int .i64 ((rd_T26 t323 x5_1).f2)] 26 (0, 0))) ∧ Aside0 (Below w.heap.size w w'))
                        case atStart => exact ⟨(1), (by first | rfl | (simp; done) | (simp [*]; done)), H', ⟨Nat.le_refl _⟩, ⟨by (with_reducible repeat (first | apply Kd.R_alloc | apply Kd.R_drewN | apply Kd.R_drew)); exact HO_3.out⟩, ⟨by (with_reducible repeat (first | refine blk_drewN ?_ _ | refine blk_drew ?_ | refine blk_alloc ?_ _)); exact BK328.out⟩, ⟨by repeat (first | (with_reducible first | exact HB.out | apply below_alloc | apply pw_below_drewN | apply below_drew1 | refine below_set ?_ GE328.out) | exact HB.out)⟩⟩
                        case round =>
                          clear H'
                          try clear c1
                          try clear c2
                          try clear c2b0
                          try clear c2b1
                          try clear p2
                          try clear c3
                          try clear p3
                          try clear q3
                          try clear hx3
                          try clear c5
                          try clear c5b0
                          try clear c6
                          try clear c6b0
                          try clear p6
                          try clear c9
                          try clear c12
                          try clear c12b0
                          try clear c13
                          try clear c13b0
                          try clear c16
                          try clear c18
                          try clear c18b0
                          try clear c19
                          try clear c19b0
                          try clear c20
                          try clear c20b0
                          try clear c22
                          try clear c22b0
                          try clear c24
                          try clear c24b0
                          try clear c25
                          try clear c25b0
                          try clear c30
                          try clear hcz11_0
                          try clear hcz11_1
                          try clear hcz11_2
                          try clear hcz14_0
                          try clear hcz14_1
                          try clear hcz14_2
                          try clear hcz15_0
                          try clear hcz15_1
                          try clear hcz15_2
                          try clear hcz26_0
                          try clear hcz26_1
                          try clear hcz26_2
                          try clear hcz27_0
                          try clear hcz27_1
                          try clear hcz27_2
                          try clear hcz28_0
                          try clear hcz28_1
                          try clear hcz28_2
                          try clear hcz29_0
                          try clear hcz29_1
                          try clear hcz29_2
                          try clear hfz11_0
                          try clear hfz11_1
                          try clear hfz11_2
                          try clear hfz14_0
                          try clear hfz14_1
                          try clear hfz14_2
                          try clear hfz15_0
                          try clear hfz15_1
                          try clear hfz15_2
                          try clear hfz26_0
                          try clear hfz26_1
                          try clear hfz26_2
                          try clear hfz27_0
                          try clear hfz27_1
                          try clear hfz27_2
                          try clear hfz28_0
                          try clear hfz28_1
                          try clear hfz28_2
                          try clear hfz29_0
                          try clear hfz29_1
                          try clear hfz29_2
                          try clear hx327_0
                          try clear hx327_1
                          try clear hx327_2
                          try clear hx329_0
                          try clear hx330_0
                          try clear p2
                          try clear p3
                          try clear p327
                          try clear p329
                          try clear p330
                          try clear p6
                          try clear q3
                          try clear q327
                          try clear q329
                          try clear q330
                          obtain ⟨x8_4, rfl, HA, HK4, HO_3, BK328, HB⟩ := hrel
                          cases gk with
                          | zero => exact absurd HA.out (by simp [vignettelaw07_LzLongest.l1])
                          | succ k4 =>
                            have H := HA.out
                            clear HA
                            simp only [vignettelaw07_LzLongest.l1] at H
                            have HC31 := Aside0.mk H
                            clear H
                            go_upto_region 15 with (fail)
                            repeat (go_quiet (fail); go_upto_region 15 with (fail))
                            go_cut [96] (fun v96 wc => ∃ (kq : Nat) (x96_30 : Bool), v96 = .bool x96_30 ∧ Aside0 (vignettelaw07_LzLongest.j4 kq l0 t323 x4_1 x5_1 ji7 x8_4 x96_30 ((rd_T26 t323 x5_1).f0) ((rd_T26 t323 x5_1).f1) ((rd_T26 t323 x5_1).f2) = some r) ∧ Aside0 (kq ≤ k4) ∧ Aside0 (Kd.R k26 26 wc w.heap.size (fun k_ => k_ ≠ gb328) (.slice (some ad327) t323.length co9) t323) ∧ Aside0 (wc.heap[gb328]? = some (.cells #[.int .u8 ((rd_T26 t323 x5_1).f0), .int .i64 ((rd_T26 t323 x5_1).f1), .int .i64 ((rd_T26 t323 x5_1).f2)] 26 (0, 0))) ∧ Aside0 (Below w.heap.size w wc))
                            case first =>
                              have H := HC31.out
                              clear HC31
                              by_cases c32 : x8_4 ≤ x4_1
                              · rw [if_pos c32] at H
                                have c32b0 : decide (x8_4 ≤ x4_1) = true := decide_eq_true c32
                                clear c32
                                (first | rw [c32b0] | (simp only [i64_w, i32_w]; rw [c32b0]) | skip)
                                by_cases c33 : x8_4 ≤ 300
                                · rw [if_pos c33] at H
                                  have c33b0 : decide (x8_4 ≤ 300) = true := decide_eq_true c33
                                  clear c33
                                  by_cases c34 : ((rd_T26 t323 x5_1).f1) = 0
                                  · rw [if_pos c34] at H
                                    have c34b0 : (((rd_T26 t323 x5_1).f1) == 0) = true := beq_iff_eq.mpr c34
                                    have c34b1 : (((rd_T26 t323 x5_1).f1) != 0) = false := bne_eq_false_iff_eq.mpr c34
                                    clear c34
                                    have H' := Aside0.mk H
                                    clear H
                                    have hcz35_0 : wr.cell? ⟨gb328, 0, none⟩ = some (.int .u8 ((rd_T26 t323 x5_1).f0)) := (blk_cell BK328.out 0).trans rfl
                                    have hcz35_1 : wr.cell? ⟨gb328, 1, none⟩ = some (.int .i64 ((rd_T26 t323 x5_1).f1)) := (blk_cell BK328.out 1).trans rfl
                                    have hcz35_2 : wr.cell? ⟨gb328, 2, none⟩ = some (.int .i64 ((rd_T26 t323 x5_1).f2)) := (blk_cell BK328.out 2).trans rfl
                                    have hfz35_0 := blk_frozen BK328.out 0
                                    have hfz35_1 := blk_frozen BK328.out 1
                                    have hfz35_2 := blk_frozen BK328.out 2
                                    go_wp2
                                    repeat (go_quiet (fail); try go_wp2)
                                    go_meet
                                    case rel => exact ⟨_, (true), (by first | rfl | (simp; done) | (simp [*]; done)), H', ⟨by have := HK1.out; have := HJ7.out; have := HJ16.out; have := HK4.out; first | omega | exact Nat.le_refl _⟩, ⟨by (with_reducible repeat (first | apply Kd.R_alloc | apply Kd.R_drewN | apply Kd.R_drew)); exact HO_3.out⟩, ⟨by (with_reducible repeat (first | refine blk_drewN ?_ _ | refine blk_drew ?_ | refine blk_alloc ?_ _)); exact BK328.out⟩, ⟨by repeat (first | (with_reducible first | exact HB.out | apply below_alloc | apply pw_below_drewN | apply below_drew1 | refine below_set ?_ GE328.out) | exact HB.out)⟩⟩
                                  · rw [if_neg c34] at H
                                    have c34b0 : (((rd_T26 t323 x5_1).f1) == 0) = false := beq_eq_false_iff_ne.mpr c34
                                    have c34b1 : (((rd_T26 t323 x5_1).f1) != 0) = true := bne_iff_ne.mpr c34
                                    have H' := Aside0.mk H
                                    clear H
                                    have hcz36_0 : wr.cell? ⟨gb328, 0, none⟩ = some (.int .u8 ((rd_T26 t323 x5_1).f0)) := (blk_cell BK328.out 0).trans rfl
                                    have hcz36_1 : wr.cell? ⟨gb328, 1, none⟩ = some (.int .i64 ((rd_T26 t323 x5_1).f1)) := (blk_cell BK328.out 1).trans rfl
                                    have hcz36_2 : wr.cell? ⟨gb328, 2, none⟩ = some (.int .i64 ((rd_T26 t323 x5_1).f2)) := (blk_cell BK328.out 2).trans rfl
                                    have hfz36_0 := blk_frozen BK328.out 0
                                    have hfz36_1 := blk_frozen BK328.out 1
                                    have hfz36_2 := blk_frozen BK328.out 2
                                    go_wp2
                                    repeat (go_quiet (fail); try go_wp2)
                                    go_meet
                                    case rel => exact ⟨_, (decide (x8_4 < ((rd_T26 t323 x5_1).f2))), (by first | rfl | (simp; done) | (simp [*]; done)), H', ⟨by have := HK1.out; have := HJ7.out; have := HJ16.out; have := HK4.out; first | omega | exact Nat.le_refl _⟩, ⟨by (with_reducible repeat (first | apply Kd.R_alloc | apply Kd.R_drewN | apply Kd.R_drew)); exact HO_3.out⟩, ⟨by (with_reducible repeat (first | refine blk_drewN ?_ _ | refine blk_drew ?_ | refine blk_alloc ?_ _)); exact BK328.out⟩, ⟨by repeat (first | (with_reducible first | exact HB.out | apply below_alloc | apply pw_below_drewN | apply below_drew1 | refine below_set ?_ GE328.out) | exact HB.out)⟩⟩
                                · rw [if_neg c33] at H
                                  have c33b0 : decide (x8_4 ≤ 300) = false := decide_eq_false c33
                                  clear c33
                                  have H' := Aside0.mk H
                                  clear H
                                  go_wp2
                                  repeat (go_quiet (fail); try go_wp2)
                                  go_meet
                                  case rel => exact ⟨_, (false), (by first | rfl | (simp; done) | (simp [*]; done)), H', ⟨by have := HK1.out; have := HJ7.out; have := HJ16.out; have := HK4.out; first | omega | exact Nat.le_refl _⟩, ⟨by (with_reducible repeat (first | apply Kd.R_alloc | apply Kd.R_drewN | apply Kd.R_drew)); exact HO_3.out⟩, ⟨by (with_reducible repeat (first | refine blk_drewN ?_ _ | refine blk_drew ?_ | refine blk_alloc ?_ _)); exact BK328.out⟩, ⟨by repeat (first | (with_reducible first | exact HB.out | apply below_alloc | apply pw_below_drewN | apply below_drew1 | refine below_set ?_ GE328.out) | exact HB.out)⟩⟩
                              · rw [if_neg c32] at H
                                have c32b0 : decide (x8_4 ≤ x4_1) = false := decide_eq_false c32
                                clear c32
                                (first | rw [c32b0] | (simp only [i64_w, i32_w]; rw [c32b0]) | skip)
                                have H' := Aside0.mk H
                                clear H
                                go_wp2
                                repeat (go_quiet (fail); try go_wp2)
                                go_meet
                                case rel => exact ⟨_, (false), (by first | rfl | (simp; done) | (simp [*]; done)), H', ⟨by have := HK1.out; have := HJ7.out; have := HJ16.out; have := HK4.out; first | omega | exact Nat.le_refl _⟩, ⟨by (with_reducible repeat (first | apply Kd.R_alloc | apply Kd.R_drewN | apply Kd.R_drew)); exact HO_3.out⟩, ⟨by (with_reducible repeat (first | refine blk_drewN ?_ _ | refine blk_drew ?_ | refine blk_alloc ?_ _)); exact BK328.out⟩, ⟨by repeat (first | (with_reducible first | exact HB.out | apply below_alloc | apply pw_below_drewN | apply below_drew1 | refine below_set ?_ GE328.out) | exact HB.out)⟩⟩
                            case rest =>
                              clear HC31
                              try clear c1
                              try clear c2
                              try clear c2b0
                              try clear c2b1
                              try clear p2
                              try clear c3
                              try clear p3
                              try clear q3
                              try clear hx3
                              try clear c5
                              try clear c5b0
                              try clear c6
                              try clear c6b0
                              try clear p6
                              try clear c9
                              try clear c12
                              try clear c12b0
                              try clear c13
                              try clear c13b0
                              try clear c16
                              try clear c18
                              try clear c18b0
                              try clear c19
                              try clear c19b0
                              try clear c20
                              try clear c20b0
                              try clear c22
                              try clear c22b0
                              try clear c24
                              try clear c24b0
                              try clear c25
                              try clear c25b0
                              try clear c30
                              try clear c32
                              try clear c32b0
                              try clear p32
                              try clear q32
                              try clear hx32
                              try clear c33
                              try clear c33b0
                              try clear p33
                              try clear q33
                              try clear hx33
                              try clear c34
                              try clear c34b0
                              try clear c34b1
                              try clear hcz11_0
                              try clear hcz11_1
                              try clear hcz11_2
                              try clear hcz14_0
                              try clear hcz14_1
                              try clear hcz14_2
                              try clear hcz15_0
                              try clear hcz15_1
                              try clear hcz15_2
                              try clear hcz26_0
                              try clear hcz26_1
                              try clear hcz26_2
                              try clear hcz27_0
                              try clear hcz27_1
                              try clear hcz27_2
                              try clear hcz28_0
                              try clear hcz28_1
                              try clear hcz28_2
                              try clear hcz29_0
                              try clear hcz29_1
                              try clear hcz29_2
                              try clear hcz35_0
                              try clear hcz35_1
                              try clear hcz35_2
                              try clear hcz36_0
                              try clear hcz36_1
                              try clear hcz36_2
                              try clear hfz11_0
                              try clear hfz11_1
                              try clear hfz11_2
                              try clear hfz14_0
                              try clear hfz14_1
                              try clear hfz14_2
                              try clear hfz15_0
                              try clear hfz15_1
                              try clear hfz15_2
                              try clear hfz26_0
                              try clear hfz26_1
                              try clear hfz26_2
                              try clear hfz27_0
                              try clear hfz27_1
                              try clear hfz27_2
                              try clear hfz28_0
                              try clear hfz28_1
                              try clear hfz28_2
                              try clear hfz29_0
                              try clear hfz29_1
                              try clear hfz29_2
                              try clear hfz35_0
                              try clear hfz35_1
                              try clear hfz35_2
                              try clear hfz36_0
                              try clear hfz36_1
                              try clear hfz36_2
                              try clear hx327_0
                              try clear hx327_1
                              try clear hx327_2
                              try clear hx329_0
                              try clear hx330_0
                              try clear p2
                              try clear p3
                              try clear p327
                              try clear p329
                              try clear p330
                              try clear p6
                              try clear q3
                              try clear q327
                              try clear q329
                              try clear q330
                              obtain ⟨kq, x96_30, rfl, HA, HJ30, HO_3, BK328, HB⟩ := hcut
                              cases kq with
                              | zero => exact absurd HA.out (by simp [vignettelaw07_LzLongest.j4])
                              | succ kj30 =>
                                have H := HA.out
                                clear HA
                                simp only [vignettelaw07_LzLongest.j4] at H
                                by_cases c37 : x96_30 = true
                                · subst c37
                                  have H1 : (vignettelaw07_LzLongest.l2 kj30 l0 t323 x4_1 x5_1 ji7 x8_4 0 ((rd_T26 t323 x5_1).f0) ((rd_T26 t323 x5_1).f1) ((rd_T26 t323 x5_1).f2)) = some r := by rw [if_pos rfl] at H; exact H
                                  clear H
                                  have H := H1
                                  clear H1
                                  have H' := Aside0.mk H
                                  clear H
                                  go_wp2
                                  repeat (go_quiet (fail); try go_wp2)
                                  go_loopg [9] kj30 (fun kq v9 w' => ∃ (x9_6 : Int), v9 = .int .i64 x9_6 ∧ Aside0 (vignettelaw07_LzLongest.l2 kq l0 t323 x4_1 x5_1 ji7 x8_4 x9_6 ((rd_T26 t323 x5_1).f0) ((rd_T26 t323 x5_1).f1) ((rd_T26 t323 x5_1).f2) = some r) ∧ Aside0 (kq ≤ kj30) ∧ Aside0 (Kd.R k26 26 w' w.heap.size (fun k_ => k_ ≠ gb328) (.slice (some ad327) t323.length co9) t323) ∧ Aside0 (w'.heap[gb328]? = some (.cells #[.int .u8 ((rd_T26 t323 x5_1).f0), .int .i64 ((rd_T26 t323 x5_1).f1), .int .i64 ((rd_T26 t323 x5_1).f2)] 26 (0, 0))) ∧ Aside0 (Below w.heap.size w w'))
                                  case atStart => exact ⟨(0), (by first | rfl | (simp; done) | (simp [*]; done)), H', ⟨Nat.le_refl _⟩, ⟨by (with_reducible repeat (first | apply Kd.R_alloc | apply Kd.R_drewN | apply Kd.R_drew)); exact HO_3.out⟩, ⟨by (with_reducible repeat (first | refine blk_drewN ?_ _ | refine blk_drew ?_ | refine blk_alloc ?_ _)); exact BK328.out⟩, ⟨by repeat (first | (with_reducible first | exact HB.out | apply below_alloc | apply pw_below_drewN | apply below_drew1 | refine below_set ?_ GE328.out) | exact HB.out)⟩⟩
                                  case round =>
                                    clear H'
                                    try clear c1
                                    try clear c2
                                    try clear c2b0
                                    try clear c2b1
                                    try clear p2
                                    try clear c3
                                    try clear p3
                                    try clear q3
                                    try clear hx3
                                    try clear c5
                                    try clear c5b0
                                    try clear c6
                                    try clear c6b0
                                    try clear p6
                                    try clear c9
                                    try clear c12
                                    try clear c12b0
                                    try clear c13
                                    try clear c13b0
                                    try clear c16
                                    try clear c18
                                    try clear c18b0
                                    try clear c19
                                    try clear c19b0
                                    try clear c20
                                    try clear c20b0
                                    try clear c22
                                    try clear c22b0
                                    try clear c24
                                    try clear c24b0
                                    try clear c25
                                    try clear c25b0
                                    try clear c30
                                    try clear c32
                                    try clear c32b0
                                    try clear p32
                                    try clear q32
                                    try clear hx32
                                    try clear c33
                                    try clear c33b0
                                    try clear p33
                                    try clear q33
                                    try clear hx33
                                    try clear c34
                                    try clear c34b0
                                    try clear c34b1
                                    try clear c37
                                    try clear hcz11_0
                                    try clear hcz11_1
                                    try clear hcz11_2
                                    try clear hcz14_0
                                    try clear hcz14_1
                                    try clear hcz14_2
                                    try clear hcz15_0
                                    try clear hcz15_1
                                    try clear hcz15_2
                                    try clear hcz26_0
                                    try clear hcz26_1
                                    try clear hcz26_2
                                    try clear hcz27_0
                                    try clear hcz27_1
                                    try clear hcz27_2
                                    try clear hcz28_0
                                    try clear hcz28_1
                                    try clear hcz28_2
                                    try clear hcz29_0
                                    try clear hcz29_1
                                    try clear hcz29_2
                                    try clear hcz35_0
                                    try clear hcz35_1
                                    try clear hcz35_2
                                    try clear hcz36_0
                                    try clear hcz36_1
                                    try clear hcz36_2
                                    try clear hfz11_0
                                    try clear hfz11_1
                                    try clear hfz11_2
                                    try clear hfz14_0
                                    try clear hfz14_1
                                    try clear hfz14_2
                                    try clear hfz15_0
                                    try clear hfz15_1
                                    try clear hfz15_2
                                    try clear hfz26_0
                                    try clear hfz26_1
                                    try clear hfz26_2
                                    try clear hfz27_0
                                    try clear hfz27_1
                                    try clear hfz27_2
                                    try clear hfz28_0
                                    try clear hfz28_1
                                    try clear hfz28_2
                                    try clear hfz29_0
                                    try clear hfz29_1
                                    try clear hfz29_2
                                    try clear hfz35_0
                                    try clear hfz35_1
                                    try clear hfz35_2
                                    try clear hfz36_0
                                    try clear hfz36_1
                                    try clear hfz36_2
                                    try clear hx327_0
                                    try clear hx327_1
                                    try clear hx327_2
                                    try clear hx329_0
                                    try clear hx330_0
                                    try clear p2
                                    try clear p3
                                    try clear p32
                                    try clear p327
                                    try clear p329
                                    try clear p33
                                    try clear p330
                                    try clear p6
                                    try clear q3
                                    try clear q32
                                    try clear q327
                                    try clear q329
                                    try clear q33
                                    try clear q330
                                    obtain ⟨x9_6, rfl, HA, HK6, HO_3, BK328, HB⟩ := hrel
                                    cases gk with
                                    | zero => exact absurd HA.out (by simp [vignettelaw07_LzLongest.l2])
                                    | succ k6 =>
                                      have H := HA.out
                                      clear HA
                                      simp only [vignettelaw07_LzLongest.l2] at H
                                      by_cases c38 : x9_6 < 258
                                      · rw [if_pos c38] at H
                                        have c38b0 : decide (x9_6 < 258) = true := decide_eq_true c38
                                        clear c38
                                        by_cases c39 : (wrap64 (x4_1 + x9_6)) < (l0.length : Int)
                                        · rw [if_pos c39] at H
                                          have c39b0 : decide ((wrap64 (x4_1 + x9_6)) < (l0.length : Int)) = true := decide_eq_true c39
                                          clear c39
                                          obtain ⟨ji40, hji40⟩ : ∃ j_ : Int, (wrap64 (x4_1 + x9_6)) = j_ := ⟨_, rfl⟩
                                          replace H : (if 0 ≤ (ji40) then (if 0 ≤ (wrap64 ((ji40) - x8_4)) then (if (wrap64 ((ji40) - x8_4)) < (l0.length : Int) then (if (rd l0 (ji40)) = (rd l0 (wrap64 ((ji40) - x8_4))) then (vignettelaw07_LzLongest.l2 k6 l0 t323 x4_1 x5_1 ji7 x8_4 (wrap64 (x9_6 + 1)) ((rd_T26 t323 x5_1).f0) ((rd_T26 t323 x5_1).f1) ((rd_T26 t323 x5_1).f2)) else (if x9_6 ≥ 3 then (if x9_6 ≥ ((rd_T26 t323 x5_1).f1) then (some false) else (vignettelaw07_LzLongest.l1 k6 l0 t323 x4_1 x5_1 ji7 (wrap64 (x8_4 + 1)) ((rd_T26 t323 x5_1).f0) ((rd_T26 t323 x5_1).f1) ((rd_T26 t323 x5_1).f2))) else (vignettelaw07_LzLongest.l1 k6 l0 t323 x4_1 x5_1 ji7 (wrap64 (x8_4 + 1)) ((rd_T26 t323 x5_1).f0) ((rd_T26 t323 x5_1).f1) ((rd_T26 t323 x5_1).f2)))) else (none)) else (none)) else (none)) = some r := by first | (rw [hji40] at H; exact H) | (simp only [hji40] at H ⊢; exact H)
                                          (try rw [hji40] at c39b0)
                                          have hji40w : (IntKind.i64.wrap (x4_1 + x9_6)) = ji40 := (i64_w _).trans hji40
                                          by_cases c41 : 0 ≤ (ji40)
                                          · rw [if_pos c41] at H
                                            have c41b0 : decide (0 ≤ (ji40)) = true := decide_eq_true c41
                                            clear c41
                                            obtain ⟨ji42, hji42⟩ : ∃ j_ : Int, (wrap64 ((ji40) - x8_4)) = j_ := ⟨_, rfl⟩
                                            replace H : (if 0 ≤ (ji42) then (if (ji42) < (l0.length : Int) then (if (rd l0 (ji40)) = (rd l0 (ji42)) then (vignettelaw07_LzLongest.l2 k6 l0 t323 x4_1 x5_1 ji7 x8_4 (wrap64 (x9_6 + 1)) ((rd_T26 t323 x5_1).f0) ((rd_T26 t323 x5_1).f1) ((rd_T26 t323 x5_1).f2)) else (if x9_6 ≥ 3 then (if x9_6 ≥ ((rd_T26 t323 x5_1).f1) then (some false) else (vignettelaw07_LzLongest.l1 k6 l0 t323 x4_1 x5_1 ji7 (wrap64 (x8_4 + 1)) ((rd_T26 t323 x5_1).f0) ((rd_T26 t323 x5_1).f1) ((rd_T26 t323 x5_1).f2))) else (vignettelaw07_LzLongest.l1 k6 l0 t323 x4_1 x5_1 ji7 (wrap64 (x8_4 + 1)) ((rd_T26 t323 x5_1).f0) ((rd_T26 t323 x5_1).f1) ((rd_T26 t323 x5_1).f2)))) else (none)) else (none)) = some r := by first | (rw [hji42] at H; exact H) | (simp only [hji42] at H ⊢; exact H)
                                            have hji42w : (IntKind.i64.wrap ((ji40) - x8_4)) = ji42 := (i64_w _).trans hji42
                                            by_cases c43 : 0 ≤ (ji42)
                                            · rw [if_pos c43] at H
                                              have c43b0 : decide (0 ≤ (ji42)) = true := decide_eq_true c43
                                              clear c43
                                              by_cases c44 : (ji42) < (l0.length : Int)
                                              · rw [if_pos c44] at H
                                                have c44b0 : decide ((ji42) < (l0.length : Int)) = true := decide_eq_true c44
                                                clear c44
                                                by_cases c45 : (rd l0 (ji40)) = (rd l0 (ji42))
                                                · rw [if_pos c45] at H
                                                  have c45b0 : ((rd l0 (ji40)) == (rd l0 (ji42))) = true := beq_iff_eq.mpr c45
                                                  have c45b1 : ((rd l0 (ji40)) != (rd l0 (ji42))) = false := bne_eq_false_iff_eq.mpr c45
                                                  clear c45
                                                  have H' := Aside0.mk H
                                                  clear H
                                                  have p331 : 0 ≤ ((ji40) : Int) := of_decide_eq_true (by first | (with_reducible assumption) | assumption)
                                                  have q331 : (ji40) < (l0.length : Int) := of_decide_eq_true (by first | (with_reducible assumption) | assumption)
                                                  obtain ⟨ad331, e331, hx331_0⟩ := Kd.at_int HR0.out (ji40) p331 q331
                                                  cases e331
                                                  replace hx331_0 := (HB.out.cell (World.block_lt_of_cell? w _ hx331_0)).trans hx331_0
                                                  replace p331 := eq_true p331
                                                  replace q331 := eq_true q331
                                                  have p332 : 0 ≤ ((ji42) : Int) := of_decide_eq_true (by first | (with_reducible assumption) | assumption)
                                                  have q332 : (ji42) < (l0.length : Int) := of_decide_eq_true (by first | (with_reducible assumption) | assumption)
                                                  obtain ⟨ad332, e332, hx332_0⟩ := Kd.at_int HR0.out (ji42) p332 q332
                                                  obtain rfl : ad331 = ad332 := (by injection e332)
                                                  replace hx332_0 := (HB.out.cell (World.block_lt_of_cell? w _ hx332_0)).trans hx332_0
                                                  replace p332 := eq_true p332
                                                  replace q332 := eq_true q332
                                                  go_wp2
                                                  repeat (go_quiet (fail); try go_wp2)
                                                  go_roundg k6
                                                  case measure => have := HK1.out; have := HJ7.out; have := HJ16.out; have := HK4.out; have := HJ30.out; have := HK6.out; omega
                                                  case rel => exact ⟨(wrap64 (x9_6 + 1)), (by first | rfl | (simp; done) | (simp [*]; done)), H', ⟨by have := HK1.out; have := HJ7.out; have := HJ16.out; have := HK4.out; have := HJ30.out; have := HK6.out; omega⟩, ⟨by (with_reducible repeat (first | apply Kd.R_alloc | apply Kd.R_drewN | apply Kd.R_drew)); exact HO_3.out⟩, ⟨by (with_reducible repeat (first | refine blk_drewN ?_ _ | refine blk_drew ?_ | refine blk_alloc ?_ _)); exact BK328.out⟩, ⟨by repeat (first | (with_reducible first | exact HB.out | apply below_alloc | apply pw_below_drewN | apply below_drew1 | refine below_set ?_ GE328.out) | exact HB.out)⟩⟩
                                                · rw [if_neg c45] at H
                                                  have c45b0 : ((rd l0 (ji40)) == (rd l0 (ji42))) = false := beq_eq_false_iff_ne.mpr c45
                                                  have c45b1 : ((rd l0 (ji40)) != (rd l0 (ji42))) = true := bne_iff_ne.mpr c45
                                                  by_cases c46 : x9_6 ≥ 3
                                                  · rw [if_pos c46] at H
                                                    have c46b0 : decide (3 ≤ x9_6) = true := decide_eq_true c46
                                                    clear c46
                                                    by_cases c47 : x9_6 ≥ ((rd_T26 t323 x5_1).f1)
                                                    · rw [if_pos c47] at H
                                                      have c47b0 : decide (((rd_T26 t323 x5_1).f1) ≤ x9_6) = true := decide_eq_true c47
                                                      clear c47
                                                      obtain rfl := Option.some.inj H
                                                      have p331 : 0 ≤ ((ji40) : Int) := of_decide_eq_true (by first | (with_reducible assumption) | assumption)
                                                      have q331 : (ji40) < (l0.length : Int) := of_decide_eq_true (by first | (with_reducible assumption) | assumption)
                                                      obtain ⟨ad331, e331, hx331_0⟩ := Kd.at_int HR0.out (ji40) p331 q331
                                                      cases e331
                                                      replace hx331_0 := (HB.out.cell (World.block_lt_of_cell? w _ hx331_0)).trans hx331_0
                                                      replace p331 := eq_true p331
                                                      replace q331 := eq_true q331
                                                      have p332 : 0 ≤ ((ji42) : Int) := of_decide_eq_true (by first | (with_reducible assumption) | assumption)
                                                      have q332 : (ji42) < (l0.length : Int) := of_decide_eq_true (by first | (with_reducible assumption) | assumption)
                                                      obtain ⟨ad332, e332, hx332_0⟩ := Kd.at_int HR0.out (ji42) p332 q332
                                                      obtain rfl : ad331 = ad332 := (by injection e332)
                                                      replace hx332_0 := (HB.out.cell (World.block_lt_of_cell? w _ hx332_0)).trans hx332_0
                                                      replace p332 := eq_true p332
                                                      replace q332 := eq_true q332
                                                      have hcz48_0 : wr.cell? ⟨gb328, 0, none⟩ = some (.int .u8 ((rd_T26 t323 x5_1).f0)) := (blk_cell BK328.out 0).trans rfl
                                                      have hcz48_1 : wr.cell? ⟨gb328, 1, none⟩ = some (.int .i64 ((rd_T26 t323 x5_1).f1)) := (blk_cell BK328.out 1).trans rfl
                                                      have hcz48_2 : wr.cell? ⟨gb328, 2, none⟩ = some (.int .i64 ((rd_T26 t323 x5_1).f2)) := (blk_cell BK328.out 2).trans rfl
                                                      have hfz48_0 := blk_frozen BK328.out 0
                                                      have hfz48_1 := blk_frozen BK328.out 1
                                                      have hfz48_2 := blk_frozen BK328.out 2
                                                      go_wp2
                                                      repeat (go_quiet (fail); try go_wp2)
                                                      go_ret
                                                      exact ⟨by first | rfl | (simp [errW_none, errW_some] <;> rfl) | (simp only [← hji7, ← hji40, ← hji42]; first | rfl | (simp [errW_none, errW_some] <;> rfl)) | (simp [*, errW_none, errW_some] <;> rfl), by repeat (first | (with_reducible first | exact HB.out | apply below_alloc | apply pw_below_drewN | apply below_drew1 | refine below_set ?_ GE328.out) | exact HB.out)⟩
                                                    · rw [if_neg c47] at H
                                                      have c47b0 : decide (((rd_T26 t323 x5_1).f1) ≤ x9_6) = false := decide_eq_false c47
                                                      clear c47
                                                      have H' := Aside0.mk H
                                                      clear H
                                                      have p331 : 0 ≤ ((ji40) : Int) := of_decide_eq_true (by first | (with_reducible assumption) | assumption)
                                                      have q331 : (ji40) < (l0.length : Int) := of_decide_eq_true (by first | (with_reducible assumption) | assumption)
                                                      obtain ⟨ad331, e331, hx331_0⟩ := Kd.at_int HR0.out (ji40) p331 q331
                                                      cases e331
                                                      replace hx331_0 := (HB.out.cell (World.block_lt_of_cell? w _ hx331_0)).trans hx331_0
                                                      replace p331 := eq_true p331
                                                      replace q331 := eq_true q331
                                                      have p332 : 0 ≤ ((ji42) : Int) := of_decide_eq_true (by first | (with_reducible assumption) | assumption)
                                                      have q332 : (ji42) < (l0.length : Int) := of_decide_eq_true (by first | (with_reducible assumption) | assumption)
                                                      obtain ⟨ad332, e332, hx332_0⟩ := Kd.at_int HR0.out (ji42) p332 q332
                                                      obtain rfl : ad331 = ad332 := (by injection e332)
                                                      replace hx332_0 := (HB.out.cell (World.block_lt_of_cell? w _ hx332_0)).trans hx332_0
                                                      replace p332 := eq_true p332
                                                      replace q332 := eq_true q332
                                                      have hcz49_0 : wr.cell? ⟨gb328, 0, none⟩ = some (.int .u8 ((rd_T26 t323 x5_1).f0)) := (blk_cell BK328.out 0).trans rfl
                                                      have hcz49_1 : wr.cell? ⟨gb328, 1, none⟩ = some (.int .i64 ((rd_T26 t323 x5_1).f1)) := (blk_cell BK328.out 1).trans rfl
                                                      have hcz49_2 : wr.cell? ⟨gb328, 2, none⟩ = some (.int .i64 ((rd_T26 t323 x5_1).f2)) := (blk_cell BK328.out 2).trans rfl
                                                      have hfz49_0 := blk_frozen BK328.out 0
                                                      have hfz49_1 := blk_frozen BK328.out 1
                                                      have hfz49_2 := blk_frozen BK328.out 2
                                                      go_wp2
                                                      repeat (go_quiet (fail); try go_wp2)
                                                      go_roundg k6
                                                      case measure => have := HK1.out; have := HJ7.out; have := HJ16.out; have := HK4.out; have := HJ30.out; have := HK6.out; omega
                                                      case rel => exact ⟨(wrap64 (x8_4 + 1)), (by first | rfl | (simp; done) | (simp [*]; done)), H', ⟨by have := HK1.out; have := HJ7.out; have := HJ16.out; have := HK4.out; have := HJ30.out; have := HK6.out; omega⟩, ⟨by (with_reducible repeat (first | apply Kd.R_alloc | apply Kd.R_drewN | apply Kd.R_drew)); exact HO_3.out⟩, ⟨by (with_reducible repeat (first | refine blk_drewN ?_ _ | refine blk_drew ?_ | refine blk_alloc ?_ _)); exact BK328.out⟩, ⟨by repeat (first | (with_reducible first | exact HB.out | apply below_alloc | apply pw_below_drewN | apply below_drew1 | refine below_set ?_ GE328.out) | exact HB.out)⟩⟩
                                                  · rw [if_neg c46] at H
                                                    have c46b0 : decide (3 ≤ x9_6) = false := decide_eq_false c46
                                                    clear c46
                                                    have H' := Aside0.mk H
                                                    clear H
                                                    have p331 : 0 ≤ ((ji40) : Int) := of_decide_eq_true (by first | (with_reducible assumption) | assumption)
                                                    have q331 : (ji40) < (l0.length : Int) := of_decide_eq_true (by first | (with_reducible assumption) | assumption)
                                                    obtain ⟨ad331, e331, hx331_0⟩ := Kd.at_int HR0.out (ji40) p331 q331
                                                    cases e331
                                                    replace hx331_0 := (HB.out.cell (World.block_lt_of_cell? w _ hx331_0)).trans hx331_0
                                                    replace p331 := eq_true p331
                                                    replace q331 := eq_true q331
                                                    have p332 : 0 ≤ ((ji42) : Int) := of_decide_eq_true (by first | (with_reducible assumption) | assumption)
                                                    have q332 : (ji42) < (l0.length : Int) := of_decide_eq_true (by first | (with_reducible assumption) | assumption)
                                                    obtain ⟨ad332, e332, hx332_0⟩ := Kd.at_int HR0.out (ji42) p332 q332
                                                    obtain rfl : ad331 = ad332 := (by injection e332)
                                                    replace hx332_0 := (HB.out.cell (World.block_lt_of_cell? w _ hx332_0)).trans hx332_0
                                                    replace p332 := eq_true p332
                                                    replace q332 := eq_true q332
                                                    go_wp2
                                                    repeat (go_quiet (fail); try go_wp2)
                                                    go_roundg k6
                                                    case measure => have := HK1.out; have := HJ7.out; have := HJ16.out; have := HK4.out; have := HJ30.out; have := HK6.out; omega
                                                    case rel => exact ⟨(wrap64 (x8_4 + 1)), (by first | rfl | (simp; done) | (simp [*]; done)), H', ⟨by have := HK1.out; have := HJ7.out; have := HJ16.out; have := HK4.out; have := HJ30.out; have := HK6.out; omega⟩, ⟨by (with_reducible repeat (first | apply Kd.R_alloc | apply Kd.R_drewN | apply Kd.R_drew)); exact HO_3.out⟩, ⟨by (with_reducible repeat (first | refine blk_drewN ?_ _ | refine blk_drew ?_ | refine blk_alloc ?_ _)); exact BK328.out⟩, ⟨by repeat (first | (with_reducible first | exact HB.out | apply below_alloc | apply pw_below_drewN | apply below_drew1 | refine below_set ?_ GE328.out) | exact HB.out)⟩⟩
                                              · rw [if_neg c44] at H
                                                exact absurd H (by simp)
                                            · rw [if_neg c43] at H
                                              exact absurd H (by simp)
                                          · rw [if_neg c41] at H
                                            exact absurd H (by simp)
                                        · rw [if_neg c39] at H
                                          have c39b0 : decide ((wrap64 (x4_1 + x9_6)) < (l0.length : Int)) = false := decide_eq_false c39
                                          clear c39
                                          by_cases c50 : x9_6 ≥ 3
                                          · rw [if_pos c50] at H
                                            have c50b0 : decide (3 ≤ x9_6) = true := decide_eq_true c50
                                            clear c50
                                            by_cases c51 : x9_6 ≥ ((rd_T26 t323 x5_1).f1)
                                            · rw [if_pos c51] at H
                                              have c51b0 : decide (((rd_T26 t323 x5_1).f1) ≤ x9_6) = true := decide_eq_true c51
                                              clear c51
                                              obtain rfl := Option.some.inj H
                                              have hcz52_0 : wr.cell? ⟨gb328, 0, none⟩ = some (.int .u8 ((rd_T26 t323 x5_1).f0)) := (blk_cell BK328.out 0).trans rfl
                                              have hcz52_1 : wr.cell? ⟨gb328, 1, none⟩ = some (.int .i64 ((rd_T26 t323 x5_1).f1)) := (blk_cell BK328.out 1).trans rfl
                                              have hcz52_2 : wr.cell? ⟨gb328, 2, none⟩ = some (.int .i64 ((rd_T26 t323 x5_1).f2)) := (blk_cell BK328.out 2).trans rfl
                                              have hfz52_0 := blk_frozen BK328.out 0
                                              have hfz52_1 := blk_frozen BK328.out 1
                                              have hfz52_2 := blk_frozen BK328.out 2
                                              go_wp2
                                              repeat (go_quiet (fail); try go_wp2)
                                              go_ret
                                              exact ⟨by first | rfl | (simp [errW_none, errW_some] <;> rfl) | (simp only [← hji7]; first | rfl | (simp [errW_none, errW_some] <;> rfl)) | (simp [*, errW_none, errW_some] <;> rfl), by repeat (first | (with_reducible first | exact HB.out | apply below_alloc | apply pw_below_drewN | apply below_drew1 | refine below_set ?_ GE328.out) | exact HB.out)⟩
                                            · rw [if_neg c51] at H
                                              have c51b0 : decide (((rd_T26 t323 x5_1).f1) ≤ x9_6) = false := decide_eq_false c51
                                              clear c51
                                              have H' := Aside0.mk H
                                              clear H
                                              have hcz53_0 : wr.cell? ⟨gb328, 0, none⟩ = some (.int .u8 ((rd_T26 t323 x5_1).f0)) := (blk_cell BK328.out 0).trans rfl
                                              have hcz53_1 : wr.cell? ⟨gb328, 1, none⟩ = some (.int .i64 ((rd_T26 t323 x5_1).f1)) := (blk_cell BK328.out 1).trans rfl
                                              have hcz53_2 : wr.cell? ⟨gb328, 2, none⟩ = some (.int .i64 ((rd_T26 t323 x5_1).f2)) := (blk_cell BK328.out 2).trans rfl
                                              have hfz53_0 := blk_frozen BK328.out 0
                                              have hfz53_1 := blk_frozen BK328.out 1
                                              have hfz53_2 := blk_frozen BK328.out 2
                                              go_wp2
                                              repeat (go_quiet (fail); try go_wp2)
                                              go_roundg k6
                                              case measure => have := HK1.out; have := HJ7.out; have := HJ16.out; have := HK4.out; have := HJ30.out; have := HK6.out; omega
                                              case rel => exact ⟨(wrap64 (x8_4 + 1)), (by first | rfl | (simp; done) | (simp [*]; done)), H', ⟨by have := HK1.out; have := HJ7.out; have := HJ16.out; have := HK4.out; have := HJ30.out; have := HK6.out; omega⟩, ⟨by (with_reducible repeat (first | apply Kd.R_alloc | apply Kd.R_drewN | apply Kd.R_drew)); exact HO_3.out⟩, ⟨by (with_reducible repeat (first | refine blk_drewN ?_ _ | refine blk_drew ?_ | refine blk_alloc ?_ _)); exact BK328.out⟩, ⟨by repeat (first | (with_reducible first | exact HB.out | apply below_alloc | apply pw_below_drewN | apply below_drew1 | refine below_set ?_ GE328.out) | exact HB.out)⟩⟩
                                          · rw [if_neg c50] at H
                                            have c50b0 : decide (3 ≤ x9_6) = false := decide_eq_false c50
                                            clear c50
                                            have H' := Aside0.mk H
                                            clear H
                                            go_wp2
                                            repeat (go_quiet (fail); try go_wp2)
                                            go_roundg k6
                                            case measure => have := HK1.out; have := HJ7.out; have := HJ16.out; have := HK4.out; have := HJ30.out; have := HK6.out; omega
                                            case rel => exact ⟨(wrap64 (x8_4 + 1)), (by first | rfl | (simp; done) | (simp [*]; done)), H', ⟨by have := HK1.out; have := HJ7.out; have := HJ16.out; have := HK4.out; have := HJ30.out; have := HK6.out; omega⟩, ⟨by (with_reducible repeat (first | apply Kd.R_alloc | apply Kd.R_drewN | apply Kd.R_drew)); exact HO_3.out⟩, ⟨by (with_reducible repeat (first | refine blk_drewN ?_ _ | refine blk_drew ?_ | refine blk_alloc ?_ _)); exact BK328.out⟩, ⟨by repeat (first | (with_reducible first | exact HB.out | apply below_alloc | apply pw_below_drewN | apply below_drew1 | refine below_set ?_ GE328.out) | exact HB.out)⟩⟩
                                      · rw [if_neg c38] at H
                                        have c38b0 : decide (x9_6 < 258) = false := decide_eq_false c38
                                        clear c38
                                        by_cases c54 : x9_6 ≥ 3
                                        · rw [if_pos c54] at H
                                          have c54b0 : decide (3 ≤ x9_6) = true := decide_eq_true c54
                                          clear c54
                                          by_cases c55 : x9_6 ≥ ((rd_T26 t323 x5_1).f1)
                                          · rw [if_pos c55] at H
                                            have c55b0 : decide (((rd_T26 t323 x5_1).f1) ≤ x9_6) = true := decide_eq_true c55
                                            clear c55
                                            obtain rfl := Option.some.inj H
                                            have hcz56_0 : wr.cell? ⟨gb328, 0, none⟩ = some (.int .u8 ((rd_T26 t323 x5_1).f0)) := (blk_cell BK328.out 0).trans rfl
                                            have hcz56_1 : wr.cell? ⟨gb328, 1, none⟩ = some (.int .i64 ((rd_T26 t323 x5_1).f1)) := (blk_cell BK328.out 1).trans rfl
                                            have hcz56_2 : wr.cell? ⟨gb328, 2, none⟩ = some (.int .i64 ((rd_T26 t323 x5_1).f2)) := (blk_cell BK328.out 2).trans rfl
                                            have hfz56_0 := blk_frozen BK328.out 0
                                            have hfz56_1 := blk_frozen BK328.out 1
                                            have hfz56_2 := blk_frozen BK328.out 2
                                            go_wp2
                                            repeat (go_quiet (fail); try go_wp2)
                                            go_ret
                                            exact ⟨by first | rfl | (simp [errW_none, errW_some] <;> rfl) | (simp only [← hji7]; first | rfl | (simp [errW_none, errW_some] <;> rfl)) | (simp [*, errW_none, errW_some] <;> rfl), by repeat (first | (with_reducible first | exact HB.out | apply below_alloc | apply pw_below_drewN | apply below_drew1 | refine below_set ?_ GE328.out) | exact HB.out)⟩
                                          · rw [if_neg c55] at H
                                            have c55b0 : decide (((rd_T26 t323 x5_1).f1) ≤ x9_6) = false := decide_eq_false c55
                                            clear c55
                                            have H' := Aside0.mk H
                                            clear H
                                            have hcz57_0 : wr.cell? ⟨gb328, 0, none⟩ = some (.int .u8 ((rd_T26 t323 x5_1).f0)) := (blk_cell BK328.out 0).trans rfl
                                            have hcz57_1 : wr.cell? ⟨gb328, 1, none⟩ = some (.int .i64 ((rd_T26 t323 x5_1).f1)) := (blk_cell BK328.out 1).trans rfl
                                            have hcz57_2 : wr.cell? ⟨gb328, 2, none⟩ = some (.int .i64 ((rd_T26 t323 x5_1).f2)) := (blk_cell BK328.out 2).trans rfl
                                            have hfz57_0 := blk_frozen BK328.out 0
                                            have hfz57_1 := blk_frozen BK328.out 1
                                            have hfz57_2 := blk_frozen BK328.out 2
                                            go_wp2
                                            repeat (go_quiet (fail); try go_wp2)
                                            go_roundg k6
                                            case measure => have := HK1.out; have := HJ7.out; have := HJ16.out; have := HK4.out; have := HJ30.out; have := HK6.out; omega
                                            case rel => exact ⟨(wrap64 (x8_4 + 1)), (by first | rfl | (simp; done) | (simp [*]; done)), H', ⟨by have := HK1.out; have := HJ7.out; have := HJ16.out; have := HK4.out; have := HJ30.out; have := HK6.out; omega⟩, ⟨by (with_reducible repeat (first | apply Kd.R_alloc | apply Kd.R_drewN | apply Kd.R_drew)); exact HO_3.out⟩, ⟨by (with_reducible repeat (first | refine blk_drewN ?_ _ | refine blk_drew ?_ | refine blk_alloc ?_ _)); exact BK328.out⟩, ⟨by repeat (first | (with_reducible first | exact HB.out | apply below_alloc | apply pw_below_drewN | apply below_drew1 | refine below_set ?_ GE328.out) | exact HB.out)⟩⟩
                                        · rw [if_neg c54] at H
                                          have c54b0 : decide (3 ≤ x9_6) = false := decide_eq_false c54
                                          clear c54
                                          have H' := Aside0.mk H
                                          clear H
                                          go_wp2
                                          repeat (go_quiet (fail); try go_wp2)
                                          go_roundg k6
                                          case measure => have := HK1.out; have := HJ7.out; have := HJ16.out; have := HK4.out; have := HJ30.out; have := HK6.out; omega
                                          case rel => exact ⟨(wrap64 (x8_4 + 1)), (by first | rfl | (simp; done) | (simp [*]; done)), H', ⟨by have := HK1.out; have := HJ7.out; have := HJ16.out; have := HK4.out; have := HJ30.out; have := HK6.out; omega⟩, ⟨by (with_reducible repeat (first | apply Kd.R_alloc | apply Kd.R_drewN | apply Kd.R_drew)); exact HO_3.out⟩, ⟨by (with_reducible repeat (first | refine blk_drewN ?_ _ | refine blk_drew ?_ | refine blk_alloc ?_ _)); exact BK328.out⟩, ⟨by repeat (first | (with_reducible first | exact HB.out | apply below_alloc | apply pw_below_drewN | apply below_drew1 | refine below_set ?_ GE328.out) | exact HB.out)⟩⟩
                                · replace c37 := Bool.eq_false_iff.mpr c37
                                  subst c37
                                  have H1 : (vignettelaw07_LzLongest.l0 kj30 l0 t323 (wrap64 (x4_1 + ji7)) (wrap64 (x5_1 + 1))) = some r := by rw [if_neg (show ¬ (false = true) by decide)] at H; exact H
                                  clear H
                                  have H := H1
                                  clear H1
                                  have H' := Aside0.mk H
                                  clear H
                                  go_wp2
                                  repeat (go_quiet (fail); try go_wp2)
                                  go_roundg kj30
                                  case measure => have := HK1.out; have := HJ7.out; have := HJ16.out; have := HK4.out; have := HJ30.out; omega
                                  case rel => exact ⟨(wrap64 (x4_1 + ji7)), (wrap64 (x5_1 + 1)), (by first | rfl | (simp; done) | (simp only [← hji7] <;> (first | rfl | simp)) | (simp [*]; done)), (by first | rfl | (simp; done) | (simp [*]; done)), H', ⟨by have := HK1.out; have := HJ7.out; have := HJ16.out; have := HK4.out; have := HJ30.out; omega⟩, ⟨by (with_reducible repeat (first | apply Kd.R_alloc | apply Kd.R_drewN | apply Kd.R_drew)); exact Kd.R_mono HO_3.out (fun _ hk => trivial)⟩, ⟨by repeat (first | (with_reducible first | exact HB.out | apply below_alloc | apply pw_below_drewN | apply below_drew1 | refine below_set ?_ GE328.out) | exact HB.out)⟩⟩
          · rw [if_neg c6] at H
            exact absurd H (by simp)
        · rw [if_neg c5] at H
          have c5b0 : decide (x5_1 < (t323.length : Int)) = false := decide_eq_false c5
          clear c5
          by_cases c58 : x4_1 = (l0.length : Int)
          · rw [if_pos c58] at H
            have c58b0 : (x4_1 == (l0.length : Int)) = true := beq_iff_eq.mpr c58
            have c58b1 : (x4_1 != (l0.length : Int)) = false := bne_eq_false_iff_eq.mpr c58
            clear c58
            replace H := Option.bind_eq_some_iff.mp H
            obtain ⟨t326, A590, H⟩ := H
            replace H : (some t326) = some r := H
            have A59 := Aside0.mk A590
            clear A590
            obtain rfl := Option.some.inj H
            obtain ⟨Ao60, co60, eo60⟩ := Kd.R_slice HO_3.out
            subst eo60
            go_wp2_with (first | (go_at_call 12; (with_reducible refine (vignettelaw07_matches.calls k1  t326 _ A59.out).mono ?_); rintro e w61 ⟨rfl, hb⟩; have n0_ := Aside0.mk (Kd.R_below (by (with_reducible repeat (first | apply Kd.R_alloc | apply Kd.R_drewN | apply Kd.R_drew)); exact HO_3.out) hb); have n1_ := Aside0.mk (below_step (by repeat (first | (with_reducible first | exact HB.out | apply below_alloc | apply pw_below_drewN | apply below_drew1) | exact HB.out)) hb); clear HO_3; clear HB; have HO_3 := n0_; have HB := n1_; clear n0_ n1_; (try clear hb); (try clear hb2); (try clear hk); (try clear hi)))
            repeat (go_quiet (first | (go_at_call 12; (with_reducible refine (vignettelaw07_matches.calls k1  t326 _ A59.out).mono ?_); rintro e w61 ⟨rfl, hb⟩; have n0_ := Aside0.mk (Kd.R_below (by (with_reducible repeat (first | apply Kd.R_alloc | apply Kd.R_drewN | apply Kd.R_drew)); exact HO_3.out) hb); have n1_ := Aside0.mk (below_step (by repeat (first | (with_reducible first | exact HB.out | apply below_alloc | apply pw_below_drewN | apply below_drew1) | exact HB.out)) hb); clear HO_3; clear HB; have HO_3 := n0_; have HB := n1_; clear n0_ n1_; (try clear hb); (try clear hb2); (try clear hk); (try clear hi))); try go_wp2_with (first | (go_at_call 12; (with_reducible refine (vignettelaw07_matches.calls k1  t326 _ A59.out).mono ?_); rintro e w61 ⟨rfl, hb⟩; have n0_ := Aside0.mk (Kd.R_below (by (with_reducible repeat (first | apply Kd.R_alloc | apply Kd.R_drewN | apply Kd.R_drew)); exact HO_3.out) hb); have n1_ := Aside0.mk (below_step (by repeat (first | (with_reducible first | exact HB.out | apply below_alloc | apply pw_below_drewN | apply below_drew1) | exact HB.out)) hb); clear HO_3; clear HB; have HO_3 := n0_; have HB := n1_; clear n0_ n1_; (try clear hb); (try clear hb2); (try clear hk); (try clear hi))))
            go_ret
            exact ⟨by first | rfl | (simp [errW_none, errW_some] <;> rfl) | (simp [*, errW_none, errW_some] <;> rfl), by repeat (first | (with_reducible first | exact HB.out | apply below_alloc | apply pw_below_drewN | apply below_drew1) | exact HB.out)⟩
          · rw [if_neg c58] at H
            have c58b0 : (x4_1 == (l0.length : Int)) = false := beq_eq_false_iff_ne.mpr c58
            have c58b1 : (x4_1 != (l0.length : Int)) = true := bne_iff_ne.mpr c58
            obtain rfl := Option.some.inj H
            obtain ⟨Ao62, co62, eo62⟩ := Kd.R_slice HO_3.out
            subst eo62
            go_wp2
            repeat (go_quiet (fail); try go_wp2)
            go_ret
            exact ⟨by first | rfl | (simp [errW_none, errW_some] <;> rfl) | (simp [*, errW_none, errW_some] <;> rfl), by repeat (first | (with_reducible first | exact HB.out | apply below_alloc | apply pw_below_drewN | apply below_drew1) | exact HB.out)⟩

/-- THE ONE PURE STATEMENT of vignettelaw07_LzLongest: yours. -/
def vignettelaw07_LzLongest.Pure : Prop := ∀ (l0 : List Int), l0.length ≤ maxLen → l0.length * 1 ≤ 140737488351232 → (∀ x ∈ l0, (Lit.int .u8 x).wf = true) → ∃ k, vignettelaw07_LzLongest.f k l0 = some true
theorem vignettelaw07_LzLongest.walk (P : vignettelaw07_LzLongest.Pure) (a0 : Option Addr) (len0 cap0 : Nat) (z0 : List Int) (w : World) (w0 : (a0 = none ∧ len0 = 0 ∧ cap0 = 0 ∧ z0 = []) ∨ ∃ x, a0 = some x ∧ len0 ≤ cap0 ∧ cap0 ≤ maxLen ∧ z0.length = cap0 ∧ (∀ i, i < z0.length → w.cell? (x.add i) = some (.int .u8 (z0.getD i 0))) ∧ ∀ n ∈ z0, (Lit.int .u8 n).wf = true) (y0 : len0 * 1 ≤ 140737488351232) :
    Calls Try.prog 9 #[.slice a0 len0 cap0] w fun e w' => e = .returned (.bool true) ∧ Below w.heap.size w w' := by
  obtain ⟨l0, rfl, hr0, hm0, hw0, hc0⟩ := ReadsInt.ofRowC w0
  obtain ⟨k, h⟩ := P l0 hm0 y0 hw0
  refine (vignettelaw07_LzLongest.calls k _ _ l0 true w (Kd.C_of_reads (d := (0 : Int)) (h1 := fun _ => rfl) hr0) hc0 h).mono ?_
  rintro e w' ⟨rfl, hd⟩
  exact ⟨rfl, hd⟩

end Go.Proofs.Ytgfjbbjdkmgdjaa.L
