/- The walks of the laws of blend: what is blended lies between. -/
import Derived.Test.YtlgbbckmaceabaaDoorPlain
import Derived.Test.YtlgbbckmaceabaaDoorWakes
import Derived.WalkLawsBesides
namespace Go.Proofs.YtlgbbckmaceabaaDoor
open Go.RowKit
/-- one channel, seen: all that the law asks of it -/
theorem seen (p q m n : Int) (hp : 0 ≤ p) (hp' : p ≤ 255) (hq : 0 ≤ q) (hq' : q ≤ 255) (hm : 0 ≤ m) (hmn : m ≤ n) (hn : n ≤ 255) :
    (p ≤ q ∧ p ≤ chV q p m ∧ chV q p m ≤ q ∧ p ≤ chV q p n ∧ chV q p n ≤ q ∧ chV q p m ≤ chV q p n ∧ (q ≤ p → chV q p n ≤ chV q p m)) ∨
    (q < p ∧ q ≤ chV q p m ∧ chV q p m ≤ p ∧ q ≤ chV q p n ∧ chV q p n ≤ p ∧ chV q p n ≤ chV q p m) := by
  by_cases h : p ≤ q
  · have ⟨a1, a2⟩ := chV_up h hm (by omega)
    have ⟨a3, a4⟩ := chV_up h (show 0 ≤ n by omega) hn
    exact .inl ⟨h, a1, a2, a3, a4, chV_rise h hmn, fun h' => chV_fall h' hmn⟩
  · have ⟨a1, a2⟩ := chV_down (show q ≤ p by omega) hm (by omega)
    have ⟨a3, a4⟩ := chV_down (show q ≤ p by omega) (show 0 ≤ n by omega) hn
    exact .inr ⟨by omega, a1, a2, a3, a4, chV_fall (by omega) hmn⟩
/-- the law's test of a channel finds no fault -/
def Fine (p q u v : Int) : Prop := (p ≤ q ∧ p ≤ u ∧ u ≤ q ∧ p ≤ v ∧ v ≤ q ∧ u ≤ v ∧ (p < q ∨ (q ≤ p ∧ v ≤ u))) ∨ (q < p ∧ q ≤ u ∧ u ≤ p ∧ q ≤ v ∧ v ≤ p ∧ v ≤ u)
theorem fine_of (p q m n : Int) (hp : 0 ≤ p) (hp' : p ≤ 255) (hq : 0 ≤ q) (hq' : q ≤ 255) (hm : 0 ≤ m) (hmn : m ≤ n) (hn : n ≤ 255) : Fine p q (chV q p m) (chV q p n) := by
  rcases seen p q m n hp hp' hq hq' hm hmn hn with ⟨h1, h2, h3, h4, h5, h6, h7⟩ | h
  · refine .inl ⟨h1, h2, h3, h4, h5, h6, ?_⟩
    by_cases h : q ≤ p
    · exact .inr ⟨h, h7 h⟩
    · exact .inl (by omega)
  · exact .inr h
/-- three channels of two blended colours, all fine -/
structure Fines (d s X Y : Int) : Prop where
  x0 : 0 ≤ X
  x1 : X ≤ 16777215
  y0 : 0 ≤ Y
  y1 : Y ≤ 16777215
  f0 : Fine (d % 256) (s % 256) (X % 256) (Y % 256)
  f8 : Fine (d / 256 % 256) (s / 256 % 256) (X / 256 % 256) (Y / 256 % 256)
  f16 : Fine (d / 65536 % 256) (s / 65536 % 256) (X / 65536 % 256) (Y / 65536 % 256)
theorem fines_of (d s m n : Int) (hm : 0 ≤ m) (hmn : m ≤ n) (hn : n ≤ 255) : Fines d s (outV s d m 3) (outV s d n 3) := by
  have a := outV_chs s d m hm (by omega)
  have b := outV_chs s d n (by omega) hn
  exact ⟨a.lo, a.hi, b.lo, b.hi, by rw [a.c0, b.c0]; exact fine_of _ _ _ _ (by omega) (by omega) (by omega) (by omega) hm hmn hn,
    by rw [a.c8, b.c8]; exact fine_of _ _ _ _ (by omega) (by omega) (by omega) (by omega) hm hmn hn, by rw [a.c16, b.c16]; exact fine_of _ _ _ _ (by omega) (by omega) (by omega) (by omega) hm hmn hn⟩

set_option maxRecDepth 100000 in
set_option maxHeartbeats 1000000 in
theorem between_lt (d s a b X Y : Int) (w : World) (hC : Chans w) (hs : 0 ≤ s) (hs' : s < 4294967296) (hd : 0 ≤ d) (hd' : d < 4294967296) (ha : 0 ≤ a) (ha' : a ≤ 255) (hb : 0 ≤ b) (hb' : b ≤ 255) (hab : a < b)
    (hX : Hid (outV s d a 3 = X)) (hY : Hid (outV s d b 3 = Y)) (F : Fines d s X Y) :
    Calls Tryd.prog 4 #[.int .u32 d, .int .u32 s, .int .u8 a, .int .u8 b] w fun e w' => e = .returned (.bool true) ∧ Below w.heap.size w w' := by
  have ⟨m0, m1⟩ := mulV_le ha hb ha' hb'
  have kd := mask24 d hd hd'
  have ks := mask24 s hs hs'
  have ⟨x0, x1, y0, y1, f0, f8, f16⟩ := F
  clear F
  have F0 := Lib.hid f0
  have F8 := Lib.hid f8
  have F16 := Lib.hid f16
  clear f0 f8 f16
  go_enter Tryd.func4, Tryd.ntmps4
  go_wp2_with fail
  refine (over_any s d 0 _ hC hs hs' hd hd' (by decide) (by decide)).mono ?_
  rw [outV_zero s d hd]
  rintro e w1 ⟨rfl, hb1⟩
  go_wp2_with fail
  refine (over_any s d 255 _ (hC.below hb1) hs hs' hd hd' (by decide) (by decide)).mono ?_
  rw [outV_full s d hs]
  rintro e w2 ⟨rfl, hb2⟩
  replace hb2 := hb1.trans (hb2.mono hb1.size)
  clear hb1
  go_wp2_with fail
  refine (over_any d d a _ (hC.below hb2) hd hd' hd hd' ha ha').mono ?_
  rw [outV_self d a hd]
  rintro e w3 ⟨rfl, hb3⟩
  replace hb3 := hb2.trans (hb3.mono hb2.size)
  clear hb2
  go_wp2_with fail
  refine (mul_any a 255 _ ha ha' (by decide) (by decide)).mono ?_
  rw [mulV_full a]
  rintro e w' ⟨rfl, rfl⟩
  go_wp2_with fail
  refine (mul_any a 0 _ ha ha' (by decide) (by decide)).mono ?_
  rw [mulV_zero a]
  rintro e w' ⟨rfl, rfl⟩
  go_wp2_with fail
  refine (mul_any a b _ ha ha' hb hb').mono ?_
  rintro e w' ⟨rfl, rfl⟩
  go_wp2_with fail
  refine (mul_any b a _ hb hb' ha ha').mono ?_
  rw [mulV_comm b a]
  rintro e w' ⟨rfl, rfl⟩
  go_wp2_with fail
  refine (mul_any a b _ ha ha' hb hb').mono ?_
  rintro e w' ⟨rfl, rfl⟩
  go_wp2_with fail
  refine (over_any s d _ _ (hC.below hb3) hs hs' hd hd' (by assumption) (by assumption)).mono ?_
  rw [hX.out]
  rintro e w4 ⟨rfl, hb4⟩
  replace hb4 := hb3.trans (hb4.mono hb3.size)
  clear hb3
  go_wp2_with fail
  refine (over_any s d _ _ (hC.below hb4) hs hs' hd hd' (by assumption) (by assumption)).mono ?_
  rw [hY.out]
  rintro e w5 ⟨rfl, hb5⟩
  replace hb5 := hb4.trans (hb5.mono hb4.size)
  clear hb4
  go_wp2_with fail
  go_loopw [11] (fun i wr => ∃ j n : Nat, j ≤ 3 ∧ i = .int .i64 (shOf j) ∧ wr = w5.drewN n) (fun i _ => 24 - (intOf i).toNat)
  case atStart => exact ⟨0, 0, by omega, rfl, rfl⟩
  case round =>
    obtain ⟨j, n, hj, rfl, rfl⟩ := hrel
    have hj4 : j = 0 ∨ j = 1 ∨ j = 2 ∨ j = 3 := by omega
    rcases hj4 with rfl | rfl | rfl | rfl
    · simp only [shOf]
      have q1 := mask8 (d) (by omega) (by omega)
      have q2 := mask8 (s) (by omega) (by omega)
      have q3 := mask8 (X) (by omega) (by omega)
      have q4 := mask8 (Y) (by omega) (by omega)
      go_wp2_with fail
      go_quiet (fail)
      go_wp2_with fail
      go_quiet (fail)
      clear q1 q2 q3 q4 kd ks
      have f := F0.out
      generalize d % 256 = p at *
      generalize s % 256 = q at *
      generalize X % 256 = u at *
      generalize Y % 256 = v at *
      clear x0 x1 y0 y1
      rcases f with ⟨g1, g2, g3, g4, g5, g6, g7 | ⟨g7, g8⟩⟩ | ⟨g1, g2, g3, g4, g5, g6⟩
      · have d0 : decide (u < p) = false := by simp; omega
        have d1 : decide (q < u) = false := by simp; omega
        have d2 : decide (v < p) = false := by simp; omega
        have d3 : decide (q < v) = false := by simp; omega
        have d4 : decide (v < u) = false := by simp; omega
        have d5 : decide (q ≤ p) = false := by simp; omega
        have d6 : decide (p ≤ q) = true := by simp; omega
        go_wp2_with fail
        go_roundw
        case rel => exact ⟨1, _, by omega, rfl, rfl⟩
        case measure => simp [intOf]
      · have d0 : decide (u < p) = false := by simp; omega
        have d1 : decide (q < u) = false := by simp; omega
        have d2 : decide (v < p) = false := by simp; omega
        have d3 : decide (q < v) = false := by simp; omega
        have d4 : decide (v < u) = false := by simp; omega
        have d5 : decide (u < v) = false := by simp; omega
        have d6 : decide (q ≤ p) = true := by simp; omega
        have d7 : decide (p ≤ q) = true := by simp; omega
        go_wp2_with fail
        go_roundw
        case rel => exact ⟨1, _, by omega, rfl, rfl⟩
        case measure => simp [intOf]
      · have d0 : decide (u < q) = false := by simp; omega
        have d1 : decide (p < u) = false := by simp; omega
        have d2 : decide (v < q) = false := by simp; omega
        have d3 : decide (p < v) = false := by simp; omega
        have d4 : decide (u < v) = false := by simp; omega
        have d5 : decide (q ≤ p) = true := by simp; omega
        have d6 : decide (p ≤ q) = false := by simp; omega
        go_wp2_with fail
        go_roundw
        case rel => exact ⟨1, _, by omega, rfl, rfl⟩
        case measure => simp [intOf]
    · simp only [shOf]
      have q1 := mask8 (d / 256) (by omega) (by omega)
      have q2 := mask8 (s / 256) (by omega) (by omega)
      have q3 := mask8 (X / 256) (by omega) (by omega)
      have q4 := mask8 (Y / 256) (by omega) (by omega)
      go_wp2_with fail
      go_quiet (fail)
      go_wp2_with fail
      go_quiet (fail)
      clear q1 q2 q3 q4 kd ks
      have f := F8.out
      generalize d / 256 % 256 = p at *
      generalize s / 256 % 256 = q at *
      generalize X / 256 % 256 = u at *
      generalize Y / 256 % 256 = v at *
      clear x0 x1 y0 y1
      rcases f with ⟨g1, g2, g3, g4, g5, g6, g7 | ⟨g7, g8⟩⟩ | ⟨g1, g2, g3, g4, g5, g6⟩
      · have d0 : decide (u < p) = false := by simp; omega
        have d1 : decide (q < u) = false := by simp; omega
        have d2 : decide (v < p) = false := by simp; omega
        have d3 : decide (q < v) = false := by simp; omega
        have d4 : decide (v < u) = false := by simp; omega
        have d5 : decide (q ≤ p) = false := by simp; omega
        have d6 : decide (p ≤ q) = true := by simp; omega
        go_wp2_with fail
        go_roundw
        case rel => exact ⟨2, _, by omega, rfl, rfl⟩
        case measure => simp [intOf]
      · have d0 : decide (u < p) = false := by simp; omega
        have d1 : decide (q < u) = false := by simp; omega
        have d2 : decide (v < p) = false := by simp; omega
        have d3 : decide (q < v) = false := by simp; omega
        have d4 : decide (v < u) = false := by simp; omega
        have d5 : decide (u < v) = false := by simp; omega
        have d6 : decide (q ≤ p) = true := by simp; omega
        have d7 : decide (p ≤ q) = true := by simp; omega
        go_wp2_with fail
        go_roundw
        case rel => exact ⟨2, _, by omega, rfl, rfl⟩
        case measure => simp [intOf]
      · have d0 : decide (u < q) = false := by simp; omega
        have d1 : decide (p < u) = false := by simp; omega
        have d2 : decide (v < q) = false := by simp; omega
        have d3 : decide (p < v) = false := by simp; omega
        have d4 : decide (u < v) = false := by simp; omega
        have d5 : decide (q ≤ p) = true := by simp; omega
        have d6 : decide (p ≤ q) = false := by simp; omega
        go_wp2_with fail
        go_roundw
        case rel => exact ⟨2, _, by omega, rfl, rfl⟩
        case measure => simp [intOf]
    · simp only [shOf]
      have q1 := mask8 (d / 65536) (by omega) (by omega)
      have q2 := mask8 (s / 65536) (by omega) (by omega)
      have q3 := mask8 (X / 65536) (by omega) (by omega)
      have q4 := mask8 (Y / 65536) (by omega) (by omega)
      go_wp2_with fail
      go_quiet (fail)
      go_wp2_with fail
      go_quiet (fail)
      clear q1 q2 q3 q4 kd ks
      have f := F16.out
      generalize d / 65536 % 256 = p at *
      generalize s / 65536 % 256 = q at *
      generalize X / 65536 % 256 = u at *
      generalize Y / 65536 % 256 = v at *
      clear x0 x1 y0 y1
      rcases f with ⟨g1, g2, g3, g4, g5, g6, g7 | ⟨g7, g8⟩⟩ | ⟨g1, g2, g3, g4, g5, g6⟩
      · have d0 : decide (u < p) = false := by simp; omega
        have d1 : decide (q < u) = false := by simp; omega
        have d2 : decide (v < p) = false := by simp; omega
        have d3 : decide (q < v) = false := by simp; omega
        have d4 : decide (v < u) = false := by simp; omega
        have d5 : decide (q ≤ p) = false := by simp; omega
        have d6 : decide (p ≤ q) = true := by simp; omega
        go_wp2_with fail
        go_roundw
        case rel => exact ⟨3, _, by omega, rfl, rfl⟩
        case measure => simp [intOf]
      · have d0 : decide (u < p) = false := by simp; omega
        have d1 : decide (q < u) = false := by simp; omega
        have d2 : decide (v < p) = false := by simp; omega
        have d3 : decide (q < v) = false := by simp; omega
        have d4 : decide (v < u) = false := by simp; omega
        have d5 : decide (u < v) = false := by simp; omega
        have d6 : decide (q ≤ p) = true := by simp; omega
        have d7 : decide (p ≤ q) = true := by simp; omega
        go_wp2_with fail
        go_roundw
        case rel => exact ⟨3, _, by omega, rfl, rfl⟩
        case measure => simp [intOf]
      · have d0 : decide (u < q) = false := by simp; omega
        have d1 : decide (p < u) = false := by simp; omega
        have d2 : decide (v < q) = false := by simp; omega
        have d3 : decide (p < v) = false := by simp; omega
        have d4 : decide (u < v) = false := by simp; omega
        have d5 : decide (q ≤ p) = true := by simp; omega
        have d6 : decide (p ≤ q) = false := by simp; omega
        go_wp2_with fail
        go_roundw
        case rel => exact ⟨3, _, by omega, rfl, rfl⟩
        case measure => simp [intOf]
    · simp only [shOf]
      go_wp2_with fail
      refine (wakes_any _ (hC.below (below_drewN hb5 _))).mono ?_
      rintro e w6 ⟨rfl, hb6⟩
      go_wp2_with fail
      go_ret
      exact ⟨rfl, (below_drewN hb5 n).trans (hb6.mono (below_drewN hb5 n).size)⟩
set_option maxRecDepth 100000 in
set_option maxHeartbeats 1000000 in
theorem between_eq (d s a X Y : Int) (w : World) (hC : Chans w) (hs : 0 ≤ s) (hs' : s < 4294967296) (hd : 0 ≤ d) (hd' : d < 4294967296) (ha : 0 ≤ a) (ha' : a ≤ 255)
    (hX : Hid (outV s d a 3 = X)) (hY : Hid (outV s d a 3 = Y)) (F : Fines d s X Y) :
    Calls Tryd.prog 4 #[.int .u32 d, .int .u32 s, .int .u8 a, .int .u8 a] w fun e w' => e = .returned (.bool true) ∧ Below w.heap.size w w' := by
  have ⟨m0, m1⟩ := mulV_le ha ha ha' ha'
  have kd := mask24 d hd hd'
  have ks := mask24 s hs hs'
  have ⟨x0, x1, y0, y1, f0, f8, f16⟩ := F
  clear F
  have F0 := Lib.hid f0
  have F8 := Lib.hid f8
  have F16 := Lib.hid f16
  clear f0 f8 f16
  go_enter Tryd.func4, Tryd.ntmps4
  go_wp2_with fail
  refine (over_any s d 0 _ hC hs hs' hd hd' (by decide) (by decide)).mono ?_
  rw [outV_zero s d hd]
  rintro e w1 ⟨rfl, hb1⟩
  go_wp2_with fail
  refine (over_any s d 255 _ (hC.below hb1) hs hs' hd hd' (by decide) (by decide)).mono ?_
  rw [outV_full s d hs]
  rintro e w2 ⟨rfl, hb2⟩
  replace hb2 := hb1.trans (hb2.mono hb1.size)
  clear hb1
  go_wp2_with fail
  refine (over_any d d a _ (hC.below hb2) hd hd' hd hd' ha ha').mono ?_
  rw [outV_self d a hd]
  rintro e w3 ⟨rfl, hb3⟩
  replace hb3 := hb2.trans (hb3.mono hb2.size)
  clear hb2
  go_wp2_with fail
  refine (mul_any a 255 _ ha ha' (by decide) (by decide)).mono ?_
  rw [mulV_full a]
  rintro e w' ⟨rfl, rfl⟩
  go_wp2_with fail
  refine (mul_any a 0 _ ha ha' (by decide) (by decide)).mono ?_
  rw [mulV_zero a]
  rintro e w' ⟨rfl, rfl⟩
  go_wp2_with fail
  refine (mul_any a a _ ha ha' ha ha').mono ?_
  rintro e w' ⟨rfl, rfl⟩
  go_wp2_with fail
  refine (mul_any a a _ ha ha' ha ha').mono ?_
  rw [mulV_comm a a]
  rintro e w' ⟨rfl, rfl⟩
  go_wp2_with fail
  refine (mul_any a a _ ha ha' ha ha').mono ?_
  rintro e w' ⟨rfl, rfl⟩
  go_wp2_with fail
  refine (over_any s d _ _ (hC.below hb3) hs hs' hd hd' (by assumption) (by assumption)).mono ?_
  rw [hX.out]
  rintro e w4 ⟨rfl, hb4⟩
  replace hb4 := hb3.trans (hb4.mono hb3.size)
  clear hb3
  go_wp2_with fail
  refine (over_any s d _ _ (hC.below hb4) hs hs' hd hd' (by assumption) (by assumption)).mono ?_
  rw [hY.out]
  rintro e w5 ⟨rfl, hb5⟩
  replace hb5 := hb4.trans (hb5.mono hb4.size)
  clear hb4
  go_wp2_with fail
  go_loopw [11] (fun i wr => ∃ j n : Nat, j ≤ 3 ∧ i = .int .i64 (shOf j) ∧ wr = w5.drewN n) (fun i _ => 24 - (intOf i).toNat)
  case atStart => exact ⟨0, 0, by omega, rfl, rfl⟩
  case round =>
    obtain ⟨j, n, hj, rfl, rfl⟩ := hrel
    have hj4 : j = 0 ∨ j = 1 ∨ j = 2 ∨ j = 3 := by omega
    rcases hj4 with rfl | rfl | rfl | rfl
    · simp only [shOf]
      have q1 := mask8 (d) (by omega) (by omega)
      have q2 := mask8 (s) (by omega) (by omega)
      have q3 := mask8 (X) (by omega) (by omega)
      have q4 := mask8 (Y) (by omega) (by omega)
      go_wp2_with fail
      go_quiet (fail)
      go_wp2_with fail
      go_quiet (fail)
      clear q1 q2 q3 q4 kd ks
      have f := F0.out
      generalize d % 256 = p at *
      generalize s % 256 = q at *
      generalize X % 256 = u at *
      generalize Y % 256 = v at *
      clear x0 x1 y0 y1
      rcases f with ⟨g1, g2, g3, g4, g5, g6, g7 | ⟨g7, g8⟩⟩ | ⟨g1, g2, g3, g4, g5, g6⟩
      · have d0 : decide (u < p) = false := by simp; omega
        have d1 : decide (q < u) = false := by simp; omega
        have d2 : decide (v < p) = false := by simp; omega
        have d3 : decide (q < v) = false := by simp; omega
        have d4 : decide (v < u) = false := by simp; omega
        have d5 : decide (q ≤ p) = false := by simp; omega
        have d6 : decide (p ≤ q) = true := by simp; omega
        go_wp2_with fail
        go_roundw
        case rel => exact ⟨1, _, by omega, rfl, rfl⟩
        case measure => simp [intOf]
      · have d0 : decide (u < p) = false := by simp; omega
        have d1 : decide (q < u) = false := by simp; omega
        have d2 : decide (v < p) = false := by simp; omega
        have d3 : decide (q < v) = false := by simp; omega
        have d4 : decide (v < u) = false := by simp; omega
        have d5 : decide (u < v) = false := by simp; omega
        have d6 : decide (q ≤ p) = true := by simp; omega
        have d7 : decide (p ≤ q) = true := by simp; omega
        go_wp2_with fail
        go_roundw
        case rel => exact ⟨1, _, by omega, rfl, rfl⟩
        case measure => simp [intOf]
      · have d0 : decide (u < q) = false := by simp; omega
        have d1 : decide (p < u) = false := by simp; omega
        have d2 : decide (v < q) = false := by simp; omega
        have d3 : decide (p < v) = false := by simp; omega
        have d4 : decide (u < v) = false := by simp; omega
        have d5 : decide (q ≤ p) = true := by simp; omega
        have d6 : decide (p ≤ q) = false := by simp; omega
        go_wp2_with fail
        go_roundw
        case rel => exact ⟨1, _, by omega, rfl, rfl⟩
        case measure => simp [intOf]
    · simp only [shOf]
      have q1 := mask8 (d / 256) (by omega) (by omega)
      have q2 := mask8 (s / 256) (by omega) (by omega)
      have q3 := mask8 (X / 256) (by omega) (by omega)
      have q4 := mask8 (Y / 256) (by omega) (by omega)
      go_wp2_with fail
      go_quiet (fail)
      go_wp2_with fail
      go_quiet (fail)
      clear q1 q2 q3 q4 kd ks
      have f := F8.out
      generalize d / 256 % 256 = p at *
      generalize s / 256 % 256 = q at *
      generalize X / 256 % 256 = u at *
      generalize Y / 256 % 256 = v at *
      clear x0 x1 y0 y1
      rcases f with ⟨g1, g2, g3, g4, g5, g6, g7 | ⟨g7, g8⟩⟩ | ⟨g1, g2, g3, g4, g5, g6⟩
      · have d0 : decide (u < p) = false := by simp; omega
        have d1 : decide (q < u) = false := by simp; omega
        have d2 : decide (v < p) = false := by simp; omega
        have d3 : decide (q < v) = false := by simp; omega
        have d4 : decide (v < u) = false := by simp; omega
        have d5 : decide (q ≤ p) = false := by simp; omega
        have d6 : decide (p ≤ q) = true := by simp; omega
        go_wp2_with fail
        go_roundw
        case rel => exact ⟨2, _, by omega, rfl, rfl⟩
        case measure => simp [intOf]
      · have d0 : decide (u < p) = false := by simp; omega
        have d1 : decide (q < u) = false := by simp; omega
        have d2 : decide (v < p) = false := by simp; omega
        have d3 : decide (q < v) = false := by simp; omega
        have d4 : decide (v < u) = false := by simp; omega
        have d5 : decide (u < v) = false := by simp; omega
        have d6 : decide (q ≤ p) = true := by simp; omega
        have d7 : decide (p ≤ q) = true := by simp; omega
        go_wp2_with fail
        go_roundw
        case rel => exact ⟨2, _, by omega, rfl, rfl⟩
        case measure => simp [intOf]
      · have d0 : decide (u < q) = false := by simp; omega
        have d1 : decide (p < u) = false := by simp; omega
        have d2 : decide (v < q) = false := by simp; omega
        have d3 : decide (p < v) = false := by simp; omega
        have d4 : decide (u < v) = false := by simp; omega
        have d5 : decide (q ≤ p) = true := by simp; omega
        have d6 : decide (p ≤ q) = false := by simp; omega
        go_wp2_with fail
        go_roundw
        case rel => exact ⟨2, _, by omega, rfl, rfl⟩
        case measure => simp [intOf]
    · simp only [shOf]
      have q1 := mask8 (d / 65536) (by omega) (by omega)
      have q2 := mask8 (s / 65536) (by omega) (by omega)
      have q3 := mask8 (X / 65536) (by omega) (by omega)
      have q4 := mask8 (Y / 65536) (by omega) (by omega)
      go_wp2_with fail
      go_quiet (fail)
      go_wp2_with fail
      go_quiet (fail)
      clear q1 q2 q3 q4 kd ks
      have f := F16.out
      generalize d / 65536 % 256 = p at *
      generalize s / 65536 % 256 = q at *
      generalize X / 65536 % 256 = u at *
      generalize Y / 65536 % 256 = v at *
      clear x0 x1 y0 y1
      rcases f with ⟨g1, g2, g3, g4, g5, g6, g7 | ⟨g7, g8⟩⟩ | ⟨g1, g2, g3, g4, g5, g6⟩
      · have d0 : decide (u < p) = false := by simp; omega
        have d1 : decide (q < u) = false := by simp; omega
        have d2 : decide (v < p) = false := by simp; omega
        have d3 : decide (q < v) = false := by simp; omega
        have d4 : decide (v < u) = false := by simp; omega
        have d5 : decide (q ≤ p) = false := by simp; omega
        have d6 : decide (p ≤ q) = true := by simp; omega
        go_wp2_with fail
        go_roundw
        case rel => exact ⟨3, _, by omega, rfl, rfl⟩
        case measure => simp [intOf]
      · have d0 : decide (u < p) = false := by simp; omega
        have d1 : decide (q < u) = false := by simp; omega
        have d2 : decide (v < p) = false := by simp; omega
        have d3 : decide (q < v) = false := by simp; omega
        have d4 : decide (v < u) = false := by simp; omega
        have d5 : decide (u < v) = false := by simp; omega
        have d6 : decide (q ≤ p) = true := by simp; omega
        have d7 : decide (p ≤ q) = true := by simp; omega
        go_wp2_with fail
        go_roundw
        case rel => exact ⟨3, _, by omega, rfl, rfl⟩
        case measure => simp [intOf]
      · have d0 : decide (u < q) = false := by simp; omega
        have d1 : decide (p < u) = false := by simp; omega
        have d2 : decide (v < q) = false := by simp; omega
        have d3 : decide (p < v) = false := by simp; omega
        have d4 : decide (u < v) = false := by simp; omega
        have d5 : decide (q ≤ p) = true := by simp; omega
        have d6 : decide (p ≤ q) = false := by simp; omega
        go_wp2_with fail
        go_roundw
        case rel => exact ⟨3, _, by omega, rfl, rfl⟩
        case measure => simp [intOf]
    · simp only [shOf]
      go_wp2_with fail
      refine (wakes_any _ (hC.below (below_drewN hb5 _))).mono ?_
      rintro e w6 ⟨rfl, hb6⟩
      go_wp2_with fail
      go_ret
      exact ⟨rfl, (below_drewN hb5 n).trans (hb6.mono (below_drewN hb5 n).size)⟩
set_option maxRecDepth 100000 in
set_option maxHeartbeats 1000000 in
theorem between_gt (d s a b X Y : Int) (w : World) (hC : Chans w) (hs : 0 ≤ s) (hs' : s < 4294967296) (hd : 0 ≤ d) (hd' : d < 4294967296) (ha : 0 ≤ a) (ha' : a ≤ 255) (hb : 0 ≤ b) (hb' : b ≤ 255) (hab : b < a)
    (hX : Hid (outV s d b 3 = X)) (hY : Hid (outV s d a 3 = Y)) (F : Fines d s X Y) :
    Calls Tryd.prog 4 #[.int .u32 d, .int .u32 s, .int .u8 a, .int .u8 b] w fun e w' => e = .returned (.bool true) ∧ Below w.heap.size w w' := by
  have ⟨m0, m1⟩ := mulV_le ha hb ha' hb'
  have kd := mask24 d hd hd'
  have ks := mask24 s hs hs'
  have ⟨x0, x1, y0, y1, f0, f8, f16⟩ := F
  clear F
  have F0 := Lib.hid f0
  have F8 := Lib.hid f8
  have F16 := Lib.hid f16
  clear f0 f8 f16
  go_enter Tryd.func4, Tryd.ntmps4
  go_wp2_with fail
  refine (over_any s d 0 _ hC hs hs' hd hd' (by decide) (by decide)).mono ?_
  rw [outV_zero s d hd]
  rintro e w1 ⟨rfl, hb1⟩
  go_wp2_with fail
  refine (over_any s d 255 _ (hC.below hb1) hs hs' hd hd' (by decide) (by decide)).mono ?_
  rw [outV_full s d hs]
  rintro e w2 ⟨rfl, hb2⟩
  replace hb2 := hb1.trans (hb2.mono hb1.size)
  clear hb1
  go_wp2_with fail
  refine (over_any d d a _ (hC.below hb2) hd hd' hd hd' ha ha').mono ?_
  rw [outV_self d a hd]
  rintro e w3 ⟨rfl, hb3⟩
  replace hb3 := hb2.trans (hb3.mono hb2.size)
  clear hb2
  go_wp2_with fail
  refine (mul_any a 255 _ ha ha' (by decide) (by decide)).mono ?_
  rw [mulV_full a]
  rintro e w' ⟨rfl, rfl⟩
  go_wp2_with fail
  refine (mul_any a 0 _ ha ha' (by decide) (by decide)).mono ?_
  rw [mulV_zero a]
  rintro e w' ⟨rfl, rfl⟩
  go_wp2_with fail
  refine (mul_any a b _ ha ha' hb hb').mono ?_
  rintro e w' ⟨rfl, rfl⟩
  go_wp2_with fail
  refine (mul_any b a _ hb hb' ha ha').mono ?_
  rw [mulV_comm b a]
  rintro e w' ⟨rfl, rfl⟩
  go_wp2_with fail
  refine (mul_any a b _ ha ha' hb hb').mono ?_
  rintro e w' ⟨rfl, rfl⟩
  go_wp2_with fail
  refine (over_any s d _ _ (hC.below hb3) hs hs' hd hd' (by assumption) (by assumption)).mono ?_
  rw [hX.out]
  rintro e w4 ⟨rfl, hb4⟩
  replace hb4 := hb3.trans (hb4.mono hb3.size)
  clear hb3
  go_wp2_with fail
  refine (over_any s d _ _ (hC.below hb4) hs hs' hd hd' (by assumption) (by assumption)).mono ?_
  rw [hY.out]
  rintro e w5 ⟨rfl, hb5⟩
  replace hb5 := hb4.trans (hb5.mono hb4.size)
  clear hb4
  go_wp2_with fail
  go_loopw [11] (fun i wr => ∃ j n : Nat, j ≤ 3 ∧ i = .int .i64 (shOf j) ∧ wr = w5.drewN n) (fun i _ => 24 - (intOf i).toNat)
  case atStart => exact ⟨0, 0, by omega, rfl, rfl⟩
  case round =>
    obtain ⟨j, n, hj, rfl, rfl⟩ := hrel
    have hj4 : j = 0 ∨ j = 1 ∨ j = 2 ∨ j = 3 := by omega
    rcases hj4 with rfl | rfl | rfl | rfl
    · simp only [shOf]
      have q1 := mask8 (d) (by omega) (by omega)
      have q2 := mask8 (s) (by omega) (by omega)
      have q3 := mask8 (X) (by omega) (by omega)
      have q4 := mask8 (Y) (by omega) (by omega)
      go_wp2_with fail
      go_quiet (fail)
      go_wp2_with fail
      go_quiet (fail)
      clear q1 q2 q3 q4 kd ks
      have f := F0.out
      generalize d % 256 = p at *
      generalize s % 256 = q at *
      generalize X % 256 = u at *
      generalize Y % 256 = v at *
      clear x0 x1 y0 y1
      rcases f with ⟨g1, g2, g3, g4, g5, g6, g7 | ⟨g7, g8⟩⟩ | ⟨g1, g2, g3, g4, g5, g6⟩
      · have d0 : decide (u < p) = false := by simp; omega
        have d1 : decide (q < u) = false := by simp; omega
        have d2 : decide (v < p) = false := by simp; omega
        have d3 : decide (q < v) = false := by simp; omega
        have d4 : decide (v < u) = false := by simp; omega
        have d5 : decide (q ≤ p) = false := by simp; omega
        have d6 : decide (p ≤ q) = true := by simp; omega
        go_wp2_with fail
        go_roundw
        case rel => exact ⟨1, _, by omega, rfl, rfl⟩
        case measure => simp [intOf]
      · have d0 : decide (u < p) = false := by simp; omega
        have d1 : decide (q < u) = false := by simp; omega
        have d2 : decide (v < p) = false := by simp; omega
        have d3 : decide (q < v) = false := by simp; omega
        have d4 : decide (v < u) = false := by simp; omega
        have d5 : decide (u < v) = false := by simp; omega
        have d6 : decide (q ≤ p) = true := by simp; omega
        have d7 : decide (p ≤ q) = true := by simp; omega
        go_wp2_with fail
        go_roundw
        case rel => exact ⟨1, _, by omega, rfl, rfl⟩
        case measure => simp [intOf]
      · have d0 : decide (u < q) = false := by simp; omega
        have d1 : decide (p < u) = false := by simp; omega
        have d2 : decide (v < q) = false := by simp; omega
        have d3 : decide (p < v) = false := by simp; omega
        have d4 : decide (u < v) = false := by simp; omega
        have d5 : decide (q ≤ p) = true := by simp; omega
        have d6 : decide (p ≤ q) = false := by simp; omega
        go_wp2_with fail
        go_roundw
        case rel => exact ⟨1, _, by omega, rfl, rfl⟩
        case measure => simp [intOf]
    · simp only [shOf]
      have q1 := mask8 (d / 256) (by omega) (by omega)
      have q2 := mask8 (s / 256) (by omega) (by omega)
      have q3 := mask8 (X / 256) (by omega) (by omega)
      have q4 := mask8 (Y / 256) (by omega) (by omega)
      go_wp2_with fail
      go_quiet (fail)
      go_wp2_with fail
      go_quiet (fail)
      clear q1 q2 q3 q4 kd ks
      have f := F8.out
      generalize d / 256 % 256 = p at *
      generalize s / 256 % 256 = q at *
      generalize X / 256 % 256 = u at *
      generalize Y / 256 % 256 = v at *
      clear x0 x1 y0 y1
      rcases f with ⟨g1, g2, g3, g4, g5, g6, g7 | ⟨g7, g8⟩⟩ | ⟨g1, g2, g3, g4, g5, g6⟩
      · have d0 : decide (u < p) = false := by simp; omega
        have d1 : decide (q < u) = false := by simp; omega
        have d2 : decide (v < p) = false := by simp; omega
        have d3 : decide (q < v) = false := by simp; omega
        have d4 : decide (v < u) = false := by simp; omega
        have d5 : decide (q ≤ p) = false := by simp; omega
        have d6 : decide (p ≤ q) = true := by simp; omega
        go_wp2_with fail
        go_roundw
        case rel => exact ⟨2, _, by omega, rfl, rfl⟩
        case measure => simp [intOf]
      · have d0 : decide (u < p) = false := by simp; omega
        have d1 : decide (q < u) = false := by simp; omega
        have d2 : decide (v < p) = false := by simp; omega
        have d3 : decide (q < v) = false := by simp; omega
        have d4 : decide (v < u) = false := by simp; omega
        have d5 : decide (u < v) = false := by simp; omega
        have d6 : decide (q ≤ p) = true := by simp; omega
        have d7 : decide (p ≤ q) = true := by simp; omega
        go_wp2_with fail
        go_roundw
        case rel => exact ⟨2, _, by omega, rfl, rfl⟩
        case measure => simp [intOf]
      · have d0 : decide (u < q) = false := by simp; omega
        have d1 : decide (p < u) = false := by simp; omega
        have d2 : decide (v < q) = false := by simp; omega
        have d3 : decide (p < v) = false := by simp; omega
        have d4 : decide (u < v) = false := by simp; omega
        have d5 : decide (q ≤ p) = true := by simp; omega
        have d6 : decide (p ≤ q) = false := by simp; omega
        go_wp2_with fail
        go_roundw
        case rel => exact ⟨2, _, by omega, rfl, rfl⟩
        case measure => simp [intOf]
    · simp only [shOf]
      have q1 := mask8 (d / 65536) (by omega) (by omega)
      have q2 := mask8 (s / 65536) (by omega) (by omega)
      have q3 := mask8 (X / 65536) (by omega) (by omega)
      have q4 := mask8 (Y / 65536) (by omega) (by omega)
      go_wp2_with fail
      go_quiet (fail)
      go_wp2_with fail
      go_quiet (fail)
      clear q1 q2 q3 q4 kd ks
      have f := F16.out
      generalize d / 65536 % 256 = p at *
      generalize s / 65536 % 256 = q at *
      generalize X / 65536 % 256 = u at *
      generalize Y / 65536 % 256 = v at *
      clear x0 x1 y0 y1
      rcases f with ⟨g1, g2, g3, g4, g5, g6, g7 | ⟨g7, g8⟩⟩ | ⟨g1, g2, g3, g4, g5, g6⟩
      · have d0 : decide (u < p) = false := by simp; omega
        have d1 : decide (q < u) = false := by simp; omega
        have d2 : decide (v < p) = false := by simp; omega
        have d3 : decide (q < v) = false := by simp; omega
        have d4 : decide (v < u) = false := by simp; omega
        have d5 : decide (q ≤ p) = false := by simp; omega
        have d6 : decide (p ≤ q) = true := by simp; omega
        go_wp2_with fail
        go_roundw
        case rel => exact ⟨3, _, by omega, rfl, rfl⟩
        case measure => simp [intOf]
      · have d0 : decide (u < p) = false := by simp; omega
        have d1 : decide (q < u) = false := by simp; omega
        have d2 : decide (v < p) = false := by simp; omega
        have d3 : decide (q < v) = false := by simp; omega
        have d4 : decide (v < u) = false := by simp; omega
        have d5 : decide (u < v) = false := by simp; omega
        have d6 : decide (q ≤ p) = true := by simp; omega
        have d7 : decide (p ≤ q) = true := by simp; omega
        go_wp2_with fail
        go_roundw
        case rel => exact ⟨3, _, by omega, rfl, rfl⟩
        case measure => simp [intOf]
      · have d0 : decide (u < q) = false := by simp; omega
        have d1 : decide (p < u) = false := by simp; omega
        have d2 : decide (v < q) = false := by simp; omega
        have d3 : decide (p < v) = false := by simp; omega
        have d4 : decide (u < v) = false := by simp; omega
        have d5 : decide (q ≤ p) = true := by simp; omega
        have d6 : decide (p ≤ q) = false := by simp; omega
        go_wp2_with fail
        go_roundw
        case rel => exact ⟨3, _, by omega, rfl, rfl⟩
        case measure => simp [intOf]
    · simp only [shOf]
      go_wp2_with fail
      refine (wakes_any _ (hC.below (below_drewN hb5 _))).mono ?_
      rintro e w6 ⟨rfl, hb6⟩
      go_wp2_with fail
      go_ret
      exact ⟨rfl, (below_drewN hb5 n).trans (hb6.mono (below_drewN hb5 n).size)⟩

theorem between_any (d s a b : Int) (w : World) (hC : Chans w) (hs : 0 ≤ s) (hs' : s < 4294967296) (hd : 0 ≤ d) (hd' : d < 4294967296) (ha : 0 ≤ a) (ha' : a ≤ 255) (hb : 0 ≤ b) (hb' : b ≤ 255) :
    Calls Tryd.prog 4 #[.int .u32 d, .int .u32 s, .int .u8 a, .int .u8 b] w fun e w' => e = .returned (.bool true) ∧ Below w.heap.size w w' := by
  rcases Int.lt_trichotomy a b with hab | rfl | hab
  · exact between_lt d s a b _ _ w hC hs hs' hd hd' ha ha' hb hb' hab rfl rfl (fines_of d s a b ha (by omega) hb')
  · exact between_eq d s a _ _ w hC hs hs' hd hd' ha ha' rfl rfl (fines_of d s a a ha (by omega) hb')
  · exact between_gt d s a b _ _ w hC hs hs' hd hd' ha ha' hb hb' hab rfl rfl (fines_of d s b a hb (by omega) ha')
end Go.Proofs.YtlgbbckmaceabaaDoor
