/- The walk of BlendRises: what is brighter in a channel makes it no darker there. -/
import Derived.Test.YtlgbbckmaceabaaDoorUp
namespace Go.Proofs.YtlgbbckmaceabaaDoor
open Go.RowKit
/-- one channel of the three colours: at the channel that was turned, no darker; elsewhere the same -/
def Risen (at_ : Bool) (p q r : Int) : Prop := if at_ = true then p ≤ q ∧ p ≤ r else q = p ∧ r = p
structure Risens (k : Nat) (X Y Z : Int) : Prop where
  x : 0 ≤ X ∧ X < 4294967296
  y : 0 ≤ Y ∧ Y < 4294967296
  z : 0 ≤ Z ∧ Z < 4294967296
  c0 : Risen (k == 0) (X % 256) (Y % 256) (Z % 256)
  c8 : Risen (k == 8) (X / 256 % 256) (Y / 256 % 256) (Z / 256 % 256)
  c16 : Risen (k == 16) (X / 65536 % 256) (Y / 65536 % 256) (Z / 65536 % 256)
theorem risen_of {b : Bool} {x x' y y' a : Int} (ha : 0 ≤ a) (ha' : a ≤ 255) (hx : if b = true then x ≤ x' else x' = x) (hy : if b = true then y ≤ y' else y' = y) : Risen b (chV x y a) (chV x' y a) (chV x y' a) := by
  unfold Risen
  cases b with
  | true => simp at hx hy; exact ⟨chV_over hx ha, chV_under hy ha'⟩
  | false => simp at hx hy; subst hx; subst hy; exact ⟨rfl, rfl⟩
theorem risens_of {d s U V a : Int} {k : Nat} (ha : 0 ≤ a) (ha' : a ≤ 255) (hU : IsUp s k U) (hV : IsUp d k V) : Risens k (outV s d a 3) (outV U d a 3) (outV s V a 3) := by
  have x := outV_chs s d a ha ha'
  have y := outV_chs U d a ha ha'
  have z := outV_chs s V a ha ha'
  refine ⟨⟨x.lo, by have := x.hi; omega⟩, ⟨y.lo, by have := y.hi; omega⟩, ⟨z.lo, by have := z.hi; omega⟩, ?_, ?_, ?_⟩
  · rw [x.c0, y.c0, z.c0]; exact risen_of ha ha' (by simpa using hU.c0) (by simpa using hV.c0)
  · rw [x.c8, y.c8, z.c8]; exact risen_of ha ha' (by simpa using hU.c8) (by simpa using hV.c8)
  · rw [x.c16, y.c16, z.c16]; exact risen_of ha ha' (by simpa using hU.c16) (by simpa using hV.c16)
set_option maxRecDepth 100000 in
set_option maxHeartbeats 1000000 in
theorem rises0 (d s a m n : Int) (w : World) (hC : Chans w) (hs : 0 ≤ s) (hs' : s < 4294967296) (hd : 0 ≤ d) (hd' : d < 4294967296) (ha : 0 ≤ a) (ha' : a ≤ 255) (hm : 0 ≤ m) (hm' : m ≤ 255) (hn : 0 ≤ n) (hn' : n ≤ 255) (hk : n % 3 = 0) :
    Calls Tryd.prog 5 #[.int .u32 d, .int .u32 s, .int .u8 a, .int .u8 m, .int .u8 n] w fun e w' => e = .returned (.bool true) ∧ Below w.heap.size w w' := by
  go_enter Tryd.func5, Tryd.ntmps5
  go_wp2_with fail
  clear hk
  refine (over_any s d a _ hC hs hs' hd hd' ha ha').mono ?_
  rintro e w1 ⟨rfl, hb1⟩
  go_wp2_with fail
  refine (up0 s m _ hs hs' hm hm').mono ?_
  rintro e w2 ⟨U, rfl, hU, hb2⟩
  replace hb2 := hb1.trans (hb2.mono hb1.size)
  clear hb1
  go_wp2_with fail
  refine (over_any U d a _ (hC.below hb2) hU.lo hU.hi hd hd' ha ha').mono ?_
  rintro e w3 ⟨rfl, hb3⟩
  replace hb3 := hb2.trans (hb3.mono hb2.size)
  clear hb2
  go_wp2_with fail
  refine (up0 d m _ hd hd' hm hm').mono ?_
  rintro e w4 ⟨V, rfl, hV, hb4⟩
  replace hb4 := hb3.trans (hb4.mono hb3.size)
  clear hb3
  go_wp2_with fail
  refine (over_any s V a _ (hC.below hb4) hs hs' hV.lo hV.hi ha ha').mono ?_
  rintro e w5 ⟨rfl, hb5⟩
  replace hb5 := hb4.trans (hb5.mono hb4.size)
  clear hb4
  have R := risens_of ha ha' hU hV
  clear hU hV
  generalize outV s d a 3 = X at *
  generalize outV U d a 3 = Y at *
  generalize outV s V a 3 = Z at *
  obtain ⟨⟨x0, x1⟩, ⟨y0, y1⟩, ⟨z0, z1⟩, c0, c8, c16⟩ := R
  have C0 := Lib.hid c0
  have C8 := Lib.hid c8
  have C16 := Lib.hid c16
  clear c0 c8 c16
  go_wp2_with fail
  go_loopw [15] (fun i wr => ∃ j n : Nat, j ≤ 3 ∧ i = .int .i64 (shOf j) ∧ wr = w5.drewN n) (fun i _ => 24 - (intOf i).toNat)
  case atStart => exact ⟨0, 0, by omega, rfl, rfl⟩
  case round =>
    obtain ⟨j, nd, hj, rfl, rfl⟩ := hrel
    have hj4 : j = 0 ∨ j = 1 ∨ j = 2 ∨ j = 3 := by omega
    rcases hj4 with rfl | rfl | rfl | rfl
    · simp only [shOf]
      have q1 := mask8 (X) (by omega) (by omega)
      have q2 := mask8 (Y) (by omega) (by omega)
      have q3 := mask8 (Z) (by omega) (by omega)
      go_wp2_with fail
      go_quiet (fail)
      clear q1 q2 q3
      have f := C0.out
      generalize X % 256 = p at *
      generalize Y % 256 = q at *
      generalize Z % 256 = r at *
      clear x0 x1 y0 y1 z0 z1
      simp only [Risen, Nat.reduceBEq, Nat.reduceEqDiff, beq_self_eq_true, if_true, if_false, reduceIte, Bool.false_eq_true] at f
      have ⟨f1, f2⟩ := f
      have d0 : decide (q < p) = false := by simp; omega
      have d1 : decide (r < p) = false := by simp; omega
      clear f f1 f2
      go_wp2_with fail
      go_roundw
      case rel => exact ⟨1, _, by omega, rfl, rfl⟩
      case measure => simp [intOf]
    · simp only [shOf]
      have q1 := mask8 (X / 256) (by omega) (by omega)
      have q2 := mask8 (Y / 256) (by omega) (by omega)
      have q3 := mask8 (Z / 256) (by omega) (by omega)
      go_wp2_with fail
      go_quiet (fail)
      clear q1 q2 q3
      have f := C8.out
      generalize X / 256 % 256 = p at *
      generalize Y / 256 % 256 = q at *
      generalize Z / 256 % 256 = r at *
      clear x0 x1 y0 y1 z0 z1
      simp only [Risen, Nat.reduceBEq, Nat.reduceEqDiff, beq_self_eq_true, if_true, if_false, reduceIte, Bool.false_eq_true] at f
      have ⟨f1, f2⟩ := f
      have d0 : (q != p) = false := by simp; omega
      have d1 : (r != p) = false := by simp; omega
      clear f f1 f2
      go_wp2_with fail
      go_roundw
      case rel => exact ⟨2, _, by omega, rfl, rfl⟩
      case measure => simp [intOf]
    · simp only [shOf]
      have q1 := mask8 (X / 65536) (by omega) (by omega)
      have q2 := mask8 (Y / 65536) (by omega) (by omega)
      have q3 := mask8 (Z / 65536) (by omega) (by omega)
      go_wp2_with fail
      go_quiet (fail)
      clear q1 q2 q3
      have f := C16.out
      generalize X / 65536 % 256 = p at *
      generalize Y / 65536 % 256 = q at *
      generalize Z / 65536 % 256 = r at *
      clear x0 x1 y0 y1 z0 z1
      simp only [Risen, Nat.reduceBEq, Nat.reduceEqDiff, beq_self_eq_true, if_true, if_false, reduceIte, Bool.false_eq_true] at f
      have ⟨f1, f2⟩ := f
      have d0 : (q != p) = false := by simp; omega
      have d1 : (r != p) = false := by simp; omega
      clear f f1 f2
      go_wp2_with fail
      go_roundw
      case rel => exact ⟨3, _, by omega, rfl, rfl⟩
      case measure => simp [intOf]
    · simp only [shOf]
      go_wp2_with fail
      refine (wakes_any _ (hC.below (below_drewN hb5 _))).mono ?_
      rintro e w6 ⟨rfl, hb6⟩
      go_wp2_with fail
      go_ret
      exact ⟨rfl, (below_drewN hb5 nd).trans (hb6.mono (below_drewN hb5 nd).size)⟩
set_option maxRecDepth 100000 in
set_option maxHeartbeats 1000000 in
theorem rises8 (d s a m n : Int) (w : World) (hC : Chans w) (hs : 0 ≤ s) (hs' : s < 4294967296) (hd : 0 ≤ d) (hd' : d < 4294967296) (ha : 0 ≤ a) (ha' : a ≤ 255) (hm : 0 ≤ m) (hm' : m ≤ 255) (hn : 0 ≤ n) (hn' : n ≤ 255) (hk : n % 3 = 1) :
    Calls Tryd.prog 5 #[.int .u32 d, .int .u32 s, .int .u8 a, .int .u8 m, .int .u8 n] w fun e w' => e = .returned (.bool true) ∧ Below w.heap.size w w' := by
  go_enter Tryd.func5, Tryd.ntmps5
  go_wp2_with fail
  clear hk
  refine (over_any s d a _ hC hs hs' hd hd' ha ha').mono ?_
  rintro e w1 ⟨rfl, hb1⟩
  go_wp2_with fail
  refine (up8 s m _ hs hs' hm hm').mono ?_
  rintro e w2 ⟨U, rfl, hU, hb2⟩
  replace hb2 := hb1.trans (hb2.mono hb1.size)
  clear hb1
  go_wp2_with fail
  refine (over_any U d a _ (hC.below hb2) hU.lo hU.hi hd hd' ha ha').mono ?_
  rintro e w3 ⟨rfl, hb3⟩
  replace hb3 := hb2.trans (hb3.mono hb2.size)
  clear hb2
  go_wp2_with fail
  refine (up8 d m _ hd hd' hm hm').mono ?_
  rintro e w4 ⟨V, rfl, hV, hb4⟩
  replace hb4 := hb3.trans (hb4.mono hb3.size)
  clear hb3
  go_wp2_with fail
  refine (over_any s V a _ (hC.below hb4) hs hs' hV.lo hV.hi ha ha').mono ?_
  rintro e w5 ⟨rfl, hb5⟩
  replace hb5 := hb4.trans (hb5.mono hb4.size)
  clear hb4
  have R := risens_of ha ha' hU hV
  clear hU hV
  generalize outV s d a 3 = X at *
  generalize outV U d a 3 = Y at *
  generalize outV s V a 3 = Z at *
  obtain ⟨⟨x0, x1⟩, ⟨y0, y1⟩, ⟨z0, z1⟩, c0, c8, c16⟩ := R
  have C0 := Lib.hid c0
  have C8 := Lib.hid c8
  have C16 := Lib.hid c16
  clear c0 c8 c16
  go_wp2_with fail
  go_loopw [15] (fun i wr => ∃ j n : Nat, j ≤ 3 ∧ i = .int .i64 (shOf j) ∧ wr = w5.drewN n) (fun i _ => 24 - (intOf i).toNat)
  case atStart => exact ⟨0, 0, by omega, rfl, rfl⟩
  case round =>
    obtain ⟨j, nd, hj, rfl, rfl⟩ := hrel
    have hj4 : j = 0 ∨ j = 1 ∨ j = 2 ∨ j = 3 := by omega
    rcases hj4 with rfl | rfl | rfl | rfl
    · simp only [shOf]
      have q1 := mask8 (X) (by omega) (by omega)
      have q2 := mask8 (Y) (by omega) (by omega)
      have q3 := mask8 (Z) (by omega) (by omega)
      go_wp2_with fail
      go_quiet (fail)
      clear q1 q2 q3
      have f := C0.out
      generalize X % 256 = p at *
      generalize Y % 256 = q at *
      generalize Z % 256 = r at *
      clear x0 x1 y0 y1 z0 z1
      simp only [Risen, Nat.reduceBEq, Nat.reduceEqDiff, beq_self_eq_true, if_true, if_false, reduceIte, Bool.false_eq_true] at f
      have ⟨f1, f2⟩ := f
      have d0 : (q != p) = false := by simp; omega
      have d1 : (r != p) = false := by simp; omega
      clear f f1 f2
      go_wp2_with fail
      go_roundw
      case rel => exact ⟨1, _, by omega, rfl, rfl⟩
      case measure => simp [intOf]
    · simp only [shOf]
      have q1 := mask8 (X / 256) (by omega) (by omega)
      have q2 := mask8 (Y / 256) (by omega) (by omega)
      have q3 := mask8 (Z / 256) (by omega) (by omega)
      go_wp2_with fail
      go_quiet (fail)
      clear q1 q2 q3
      have f := C8.out
      generalize X / 256 % 256 = p at *
      generalize Y / 256 % 256 = q at *
      generalize Z / 256 % 256 = r at *
      clear x0 x1 y0 y1 z0 z1
      simp only [Risen, Nat.reduceBEq, Nat.reduceEqDiff, beq_self_eq_true, if_true, if_false, reduceIte, Bool.false_eq_true] at f
      have ⟨f1, f2⟩ := f
      have d0 : decide (q < p) = false := by simp; omega
      have d1 : decide (r < p) = false := by simp; omega
      clear f f1 f2
      go_wp2_with fail
      go_roundw
      case rel => exact ⟨2, _, by omega, rfl, rfl⟩
      case measure => simp [intOf]
    · simp only [shOf]
      have q1 := mask8 (X / 65536) (by omega) (by omega)
      have q2 := mask8 (Y / 65536) (by omega) (by omega)
      have q3 := mask8 (Z / 65536) (by omega) (by omega)
      go_wp2_with fail
      go_quiet (fail)
      clear q1 q2 q3
      have f := C16.out
      generalize X / 65536 % 256 = p at *
      generalize Y / 65536 % 256 = q at *
      generalize Z / 65536 % 256 = r at *
      clear x0 x1 y0 y1 z0 z1
      simp only [Risen, Nat.reduceBEq, Nat.reduceEqDiff, beq_self_eq_true, if_true, if_false, reduceIte, Bool.false_eq_true] at f
      have ⟨f1, f2⟩ := f
      have d0 : (q != p) = false := by simp; omega
      have d1 : (r != p) = false := by simp; omega
      clear f f1 f2
      go_wp2_with fail
      go_roundw
      case rel => exact ⟨3, _, by omega, rfl, rfl⟩
      case measure => simp [intOf]
    · simp only [shOf]
      go_wp2_with fail
      refine (wakes_any _ (hC.below (below_drewN hb5 _))).mono ?_
      rintro e w6 ⟨rfl, hb6⟩
      go_wp2_with fail
      go_ret
      exact ⟨rfl, (below_drewN hb5 nd).trans (hb6.mono (below_drewN hb5 nd).size)⟩
set_option maxRecDepth 100000 in
set_option maxHeartbeats 1000000 in
theorem rises16 (d s a m n : Int) (w : World) (hC : Chans w) (hs : 0 ≤ s) (hs' : s < 4294967296) (hd : 0 ≤ d) (hd' : d < 4294967296) (ha : 0 ≤ a) (ha' : a ≤ 255) (hm : 0 ≤ m) (hm' : m ≤ 255) (hn : 0 ≤ n) (hn' : n ≤ 255) (hk : n % 3 = 2) :
    Calls Tryd.prog 5 #[.int .u32 d, .int .u32 s, .int .u8 a, .int .u8 m, .int .u8 n] w fun e w' => e = .returned (.bool true) ∧ Below w.heap.size w w' := by
  go_enter Tryd.func5, Tryd.ntmps5
  go_wp2_with fail
  clear hk
  refine (over_any s d a _ hC hs hs' hd hd' ha ha').mono ?_
  rintro e w1 ⟨rfl, hb1⟩
  go_wp2_with fail
  refine (up16 s m _ hs hs' hm hm').mono ?_
  rintro e w2 ⟨U, rfl, hU, hb2⟩
  replace hb2 := hb1.trans (hb2.mono hb1.size)
  clear hb1
  go_wp2_with fail
  refine (over_any U d a _ (hC.below hb2) hU.lo hU.hi hd hd' ha ha').mono ?_
  rintro e w3 ⟨rfl, hb3⟩
  replace hb3 := hb2.trans (hb3.mono hb2.size)
  clear hb2
  go_wp2_with fail
  refine (up16 d m _ hd hd' hm hm').mono ?_
  rintro e w4 ⟨V, rfl, hV, hb4⟩
  replace hb4 := hb3.trans (hb4.mono hb3.size)
  clear hb3
  go_wp2_with fail
  refine (over_any s V a _ (hC.below hb4) hs hs' hV.lo hV.hi ha ha').mono ?_
  rintro e w5 ⟨rfl, hb5⟩
  replace hb5 := hb4.trans (hb5.mono hb4.size)
  clear hb4
  have R := risens_of ha ha' hU hV
  clear hU hV
  generalize outV s d a 3 = X at *
  generalize outV U d a 3 = Y at *
  generalize outV s V a 3 = Z at *
  obtain ⟨⟨x0, x1⟩, ⟨y0, y1⟩, ⟨z0, z1⟩, c0, c8, c16⟩ := R
  have C0 := Lib.hid c0
  have C8 := Lib.hid c8
  have C16 := Lib.hid c16
  clear c0 c8 c16
  go_wp2_with fail
  go_loopw [15] (fun i wr => ∃ j n : Nat, j ≤ 3 ∧ i = .int .i64 (shOf j) ∧ wr = w5.drewN n) (fun i _ => 24 - (intOf i).toNat)
  case atStart => exact ⟨0, 0, by omega, rfl, rfl⟩
  case round =>
    obtain ⟨j, nd, hj, rfl, rfl⟩ := hrel
    have hj4 : j = 0 ∨ j = 1 ∨ j = 2 ∨ j = 3 := by omega
    rcases hj4 with rfl | rfl | rfl | rfl
    · simp only [shOf]
      have q1 := mask8 (X) (by omega) (by omega)
      have q2 := mask8 (Y) (by omega) (by omega)
      have q3 := mask8 (Z) (by omega) (by omega)
      go_wp2_with fail
      go_quiet (fail)
      clear q1 q2 q3
      have f := C0.out
      generalize X % 256 = p at *
      generalize Y % 256 = q at *
      generalize Z % 256 = r at *
      clear x0 x1 y0 y1 z0 z1
      simp only [Risen, Nat.reduceBEq, Nat.reduceEqDiff, beq_self_eq_true, if_true, if_false, reduceIte, Bool.false_eq_true] at f
      have ⟨f1, f2⟩ := f
      have d0 : (q != p) = false := by simp; omega
      have d1 : (r != p) = false := by simp; omega
      clear f f1 f2
      go_wp2_with fail
      go_roundw
      case rel => exact ⟨1, _, by omega, rfl, rfl⟩
      case measure => simp [intOf]
    · simp only [shOf]
      have q1 := mask8 (X / 256) (by omega) (by omega)
      have q2 := mask8 (Y / 256) (by omega) (by omega)
      have q3 := mask8 (Z / 256) (by omega) (by omega)
      go_wp2_with fail
      go_quiet (fail)
      clear q1 q2 q3
      have f := C8.out
      generalize X / 256 % 256 = p at *
      generalize Y / 256 % 256 = q at *
      generalize Z / 256 % 256 = r at *
      clear x0 x1 y0 y1 z0 z1
      simp only [Risen, Nat.reduceBEq, Nat.reduceEqDiff, beq_self_eq_true, if_true, if_false, reduceIte, Bool.false_eq_true] at f
      have ⟨f1, f2⟩ := f
      have d0 : (q != p) = false := by simp; omega
      have d1 : (r != p) = false := by simp; omega
      clear f f1 f2
      go_wp2_with fail
      go_roundw
      case rel => exact ⟨2, _, by omega, rfl, rfl⟩
      case measure => simp [intOf]
    · simp only [shOf]
      have q1 := mask8 (X / 65536) (by omega) (by omega)
      have q2 := mask8 (Y / 65536) (by omega) (by omega)
      have q3 := mask8 (Z / 65536) (by omega) (by omega)
      go_wp2_with fail
      go_quiet (fail)
      clear q1 q2 q3
      have f := C16.out
      generalize X / 65536 % 256 = p at *
      generalize Y / 65536 % 256 = q at *
      generalize Z / 65536 % 256 = r at *
      clear x0 x1 y0 y1 z0 z1
      simp only [Risen, Nat.reduceBEq, Nat.reduceEqDiff, beq_self_eq_true, if_true, if_false, reduceIte, Bool.false_eq_true] at f
      have ⟨f1, f2⟩ := f
      have d0 : decide (q < p) = false := by simp; omega
      have d1 : decide (r < p) = false := by simp; omega
      clear f f1 f2
      go_wp2_with fail
      go_roundw
      case rel => exact ⟨3, _, by omega, rfl, rfl⟩
      case measure => simp [intOf]
    · simp only [shOf]
      go_wp2_with fail
      refine (wakes_any _ (hC.below (below_drewN hb5 _))).mono ?_
      rintro e w6 ⟨rfl, hb6⟩
      go_wp2_with fail
      go_ret
      exact ⟨rfl, (below_drewN hb5 nd).trans (hb6.mono (below_drewN hb5 nd).size)⟩
theorem rises_any (d s a m n : Int) (w : World) (hC : Chans w) (hs : 0 ≤ s) (hs' : s < 4294967296) (hd : 0 ≤ d) (hd' : d < 4294967296) (ha : 0 ≤ a) (ha' : a ≤ 255) (hm : 0 ≤ m) (hm' : m ≤ 255) (hn : 0 ≤ n) (hn' : n ≤ 255) :
    Calls Tryd.prog 5 #[.int .u32 d, .int .u32 s, .int .u8 a, .int .u8 m, .int .u8 n] w fun e w' => e = .returned (.bool true) ∧ Below w.heap.size w w' := by
  have h3 : n % 3 = 0 ∨ n % 3 = 1 ∨ n % 3 = 2 := by omega
  rcases h3 with h | h | h
  · exact rises0 d s a m n w hC hs hs' hd hd' ha ha' hm hm' hn hn' h
  · exact rises8 d s a m n w hC hs hs' hd hd' ha ha' hm hm' hn hn' h
  · exact rises16 d s a m n w hC hs hs' hd hd' ha ha' hm hm' hn hn' h
end Go.Proofs.YtlgbbckmaceabaaDoor
