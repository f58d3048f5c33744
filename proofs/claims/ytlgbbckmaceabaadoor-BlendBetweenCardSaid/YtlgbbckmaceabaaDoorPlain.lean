/- What a blended colour is, in plain numbers: channel by channel, between both, rising. -/
import Derived.Test.YtlgbbckmaceabaaDoorOver
namespace Go.Proofs.YtlgbbckmaceabaaDoor
open Go.RowKit
theorem chV_form (x y a : Int) : chV x y a = y + ((x - y) * a + 127) / 255 := by
  unfold chV
  rw [show x * a + y * (255 - a) + 127 = ((x - y) * a + 127) + 255 * y by rw [Int.mul_sub, Int.sub_mul]; omega, Int.add_mul_ediv_left _ _ (by decide)]
  omega
theorem chV_up {x y a : Int} (h : y ≤ x) (ha : 0 ≤ a) (ha' : a ≤ 255) : y ≤ chV x y a ∧ chV x y a ≤ x := by
  rw [chV_form]
  have h1 : 0 ≤ (x - y) * a := Int.mul_nonneg (by omega) ha
  have h2 : (x - y) * a ≤ (x - y) * 255 := Int.mul_le_mul_of_nonneg_left ha' (by omega)
  generalize (x - y) * a = P at *
  omega
theorem chV_down {x y a : Int} (h : x ≤ y) (ha : 0 ≤ a) (ha' : a ≤ 255) : x ≤ chV x y a ∧ chV x y a ≤ y := by
  rw [chV_form]
  have h1 : 0 ≤ (y - x) * a := Int.mul_nonneg (by omega) ha
  have h2 : (y - x) * a ≤ (y - x) * 255 := Int.mul_le_mul_of_nonneg_left ha' (by omega)
  rw [show (x - y) * a = - ((y - x) * a) by rw [← Int.neg_mul]; congr 1; omega]
  generalize (y - x) * a = P at *
  omega
theorem chV_rise {x y a b : Int} (h : y ≤ x) (ha : a ≤ b) : chV x y a ≤ chV x y b := by
  rw [chV_form, chV_form]
  have h2 : (x - y) * a ≤ (x - y) * b := Int.mul_le_mul_of_nonneg_left ha (by omega)
  generalize (x - y) * a = P at *
  generalize (x - y) * b = Q at *
  omega
theorem chV_fall {x y a b : Int} (h : x ≤ y) (ha : a ≤ b) : chV x y b ≤ chV x y a := by
  rw [chV_form, chV_form]
  have h2 : (y - x) * a ≤ (y - x) * b := Int.mul_le_mul_of_nonneg_left ha (by omega)
  rw [show (x - y) * a = - ((y - x) * a) by rw [← Int.neg_mul]; congr 1; omega, show (x - y) * b = - ((y - x) * b) by rw [← Int.neg_mul]; congr 1; omega]
  generalize (y - x) * a = P at *
  generalize (y - x) * b = Q at *
  omega
/-- brighter over, brighter seen -/
theorem chV_over {x x' y a : Int} (h : x ≤ x') (ha : 0 ≤ a) : chV x y a ≤ chV x' y a := by
  unfold chV
  have h2 : x * a ≤ x' * a := Int.mul_le_mul_of_nonneg_right h ha
  generalize x * a = P at *
  generalize x' * a = Q at *
  omega
theorem chV_under {x y y' a : Int} (h : y ≤ y') (ha' : a ≤ 255) : chV x y a ≤ chV x y' a := by
  unfold chV
  have h2 : y * (255 - a) ≤ y' * (255 - a) := Int.mul_le_mul_of_nonneg_right h (by omega)
  generalize y * (255 - a) = P at *
  generalize y' * (255 - a) = Q at *
  omega
theorem chV_zero (x y : Int) : chV x y 0 = y := by rw [chV_form]; omega
theorem chV_full (x y : Int) : chV x y 255 = x := by rw [chV_form]; omega
theorem chV_self (x a : Int) : chV x x a = x := by rw [chV_form, Int.sub_self, Int.zero_mul]; omega

structure Chs (s d a X : Int) : Prop where
  lo : 0 ≤ X
  hi : X ≤ 16777215
  c0 : X % 256 = chV (s % 256) (d % 256) a
  c8 : X / 256 % 256 = chV (s / 256 % 256) (d / 256 % 256) a
  c16 : X / 65536 % 256 = chV (s / 65536 % 256) (d / 65536 % 256) a
theorem outV_chs (s d a : Int) (ha : 0 ≤ a) (ha' : a ≤ 255) : Chs s d a (outV s d a 3) := by
  have ⟨k0, k0'⟩ := chV_bd (show 0 ≤ s % 256 by omega) (show s % 256 ≤ 255 by omega) (show 0 ≤ d % 256 by omega) (show d % 256 ≤ 255 by omega) ha ha'
  have ⟨k1, k1'⟩ := chV_bd (show 0 ≤ s / 256 % 256 by omega) (show s / 256 % 256 ≤ 255 by omega) (show 0 ≤ d / 256 % 256 by omega) (show d / 256 % 256 ≤ 255 by omega) ha ha'
  have ⟨k2, k2'⟩ := chV_bd (show 0 ≤ s / 65536 % 256 by omega) (show s / 65536 % 256 ≤ 255 by omega) (show 0 ≤ d / 65536 % 256 by omega) (show d / 65536 % 256 ≤ 255 by omega) ha ha'
  constructor <;> simp only [outV] <;> omega
theorem low24 (d : Int) (hd : 0 ≤ d) : d % 256 + d / 256 % 256 * 256 + d / 65536 % 256 * 65536 = d % 16777216 := by omega
theorem outV_zero (s d : Int) (hd : 0 ≤ d) : outV s d 0 3 = d % 16777216 := by
  simp only [outV, chV_zero]; exact low24 d hd
theorem outV_full (s d : Int) (hs : 0 ≤ s) : outV s d 255 3 = s % 16777216 := by
  simp only [outV, chV_full]; exact low24 s hs
theorem outV_self (d a : Int) (hd : 0 ≤ d) : outV d d a 3 = d % 16777216 := by
  simp only [outV, chV_self]; exact low24 d hd
theorem mulV_full (a : Int) : mulV a 255 = a := by unfold mulV; omega
theorem mulV_zero (a : Int) : mulV a 0 = 0 := by unfold mulV; omega
theorem mulV_full' (a : Int) : mulV 255 a = a := by unfold mulV; omega
theorem mulV_comm (a b : Int) : mulV a b = mulV b a := by unfold mulV; rw [Int.mul_comm]
theorem mulV_rise {a b c : Int} (ha : 0 ≤ a) (h : b ≤ c) : mulV a b ≤ mulV a c := by
  unfold mulV
  have h2 : a * b ≤ a * c := Int.mul_le_mul_of_nonneg_left h ha
  generalize a * b = P at *
  generalize a * c = Q at *
  omega
theorem mulV_le {a b : Int} (ha : 0 ≤ a) (hb : 0 ≤ b) (ha' : a ≤ 255) (hb' : b ≤ 255) : mulV a b ≤ a ∧ mulV a b ≤ b := by
  constructor
  · have := mulV_rise ha hb'; rw [mulV_full] at this; exact this
  · rw [mulV_comm]; have := mulV_rise hb ha'; rw [mulV_full] at this; exact this
/-- where a channel begins -/
def shOf : Nat → Int
  | 0 => 0
  | 1 => 8
  | 2 => 16
  | _ => 24
theorem mask8 (d : Int) (hd : 0 ≤ d) (hd' : d < 4294967296) : bits BinOp.and IntKind.u32 d 255 = d % 256 :=
  bits_mask .u32 32 (by decide) (fun n h0 h1 => by rw [IntKind.wrap_u32]; omega) 8 (by omega) d hd hd'
theorem mask24 (d : Int) (hd : 0 ≤ d) (hd' : d < 4294967296) : bits BinOp.and IntKind.u32 d 16777215 = d % 16777216 :=
  bits_mask .u32 32 (by decide) (fun n h0 h1 => by rw [IntKind.wrap_u32]; omega) 24 (by omega) d hd hd'
end Go.Proofs.YtlgbbckmaceabaaDoor
