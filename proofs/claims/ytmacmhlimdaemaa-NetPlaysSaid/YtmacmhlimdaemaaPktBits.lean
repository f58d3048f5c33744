/- Bits that turn within bytes: what the laws' loops over a pattern do. -/
import Derived.Test.YtmacmhlimdaemaaPktPure
import Derived.Test.YtmacmhlimdaemaaWMore
namespace Go.Proofs.Ytmacmhlimdaemaa.Pkt
open Go.RowKit Go.Proofs.Ytmacmhlimdaemaa.Ext Go.Proofs.Ytmacmhlimdaemaa.Crc Go.Proofs.YtmacmhlimdaemaaW.PrintWords Go.Proofs.YtmacmhlimdaemaaW.PrintMore
theorem bit_more (p i : Nat) : p % 2 ^ (i + 1) = (p % 2 ^ i) ^^^ ((p / 2 ^ i % 2) <<< i) := by
  apply Nat.eq_of_testBit_eq
  intro j
  rw [Nat.testBit_xor, Nat.testBit_mod_two_pow, Nat.testBit_mod_two_pow, Nat.testBit_shiftLeft]
  rw [show p / 2 ^ i % 2 = (p / 2 ^ i) % 2 ^ 1 from rfl, Nat.testBit_mod_two_pow, Nat.testBit_div_two_pow]
  rcases Nat.lt_trichotomy j i with h | h | h
  · simp [h, show j < i + 1 by omega, show ¬ i ≤ j by omega]
  · subst h; simp
  · simp [show ¬ j < i by omega, show ¬ j < i + 1 by omega, show i ≤ j by omega, show ¬ (j - i < 1) by omega]
theorem bit_one (p i : Nat) (h : p / 2 ^ i % 2 = 1) : p % 2 ^ (i + 1) = (p % 2 ^ i) ^^^ (1 <<< i) := by rw [bit_more, h]
theorem bit_none (p i : Nat) (h : p / 2 ^ i % 2 = 0) : p % 2 ^ (i + 1) = p % 2 ^ i := by rw [bit_more, h, Nat.zero_shiftLeft, Nat.xor_zero]
theorem bit_pos (p i : Nat) (h : p / 2 ^ i % 2 = 1) : p % 2 ^ (i + 1) ≠ 0 := by
  intro h0
  have := congrArg (fun n => n.testBit i) h0
  simp only [Nat.testBit_mod_two_pow, Nat.zero_testBit] at this
  have h1 : p.testBit i = true := by rw [Nat.testBit_eq_decide_div_mod_eq, h]; rfl
  simp [h1] at this
theorem nat_set (c : List Int) (q : Nat) (x : Nat) : nat (c.set q (x : Int)) = (nat c).set q x := by simp [nat, List.map_set]
theorem okB_set {c : List Int} (h : okB c = true) (q x : Nat) (hx : x < 256) : okB (c.set q (x : Int)) = true :=
  okB_mk (fun y hy => by
    rcases List.mem_or_eq_of_mem_set hy with h1 | h1
    · exact okB_mem h y h1
    · subst h1; omega) (by rw [List.length_set]; exact okB_len h)
/-- the turned bit, as the code tells it -/
theorem turn_bit (c : List Int) (hc : okB c = true) (q r : Nat) (hq : q < c.length) (hr : r < 8) :
    Go.bits .xor .u8 (rd c (q : Int)) (shl .u8 1 (r : Int)) = (((nat c)[q]'(by rw [nat_length]; exact hq) ^^^ (1 <<< r) : Nat) : Int) := by
  have h1 : rd c (q : Int) = (((nat c)[q]'(by rw [nat_length]; exact hq) : Nat) : Int) := by
    unfold rd
    rw [Int.toNat_natCast, List.getD_eq_getElem?_getD, List.getElem?_eq_getElem hq, Option.getD_some]
    simp only [nat, List.getElem_map]
    have := okB_mem hc c[q] (List.getElem_mem hq)
    omega
  have h2 : shl .u8 1 (r : Int) = ((1 <<< r : Nat) : Int) := by
    have hr' : r = 0 ∨ r = 1 ∨ r = 2 ∨ r = 3 ∨ r = 4 ∨ r = 5 ∨ r = 6 ∨ r = 7 := by omega
    rcases hr' with h | h | h | h | h | h | h | h <;> subst h <;> decide
  rw [h1, h2]
  refine u8_xor_nat _ _ (nat_lt hc _ (List.getElem_mem _)) ?_
  rw [Nat.shiftLeft_eq, Nat.one_mul]
  exact Nat.lt_of_lt_of_le (Nat.pow_lt_pow_right (by omega) hr) (by decide)
theorem pat_bit (p i : Nat) (hp : p < 4294967296) (hi : i < 32) : Go.bits .and .u32 (shr .u32 (p : Int) (i : Int)) 1 = ((p / 2 ^ i % 2 : Nat) : Int) := by
  have h : shr .u32 (p : Int) (i : Int) = ((p / 2 ^ i : Nat) : Int) := by
    unfold shr
    rw [show min (i : Int).toNat IntKind.u32.bits = i by show min i 32 = i; omega]
    norm_cast
  rw [h, show (1 : Int) = ((1 : Nat) : Int) from rfl, u32_and_nat _ _ (Nat.lt_of_le_of_lt (Nat.div_le_self _ _) hp) (by omega), Nat.and_one_is_mod]
end Go.Proofs.Ytmacmhlimdaemaa.Pkt
