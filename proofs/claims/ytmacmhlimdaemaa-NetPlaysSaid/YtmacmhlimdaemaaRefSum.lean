import Derived.Test.YtmacmhlimdaemaaSum
namespace Go.Proofs.Ytmacmhlimdaemaa
open Go.RowKit Go.Proofs.Ytmacmhlimdaemaa.Crc
theorem xor_mod2 (a b : Nat) : (a ^^^ b) % 2 = (a + b) % 2 := by
  have hm : (a ^^^ b) % 2 = (a % 2) ^^^ (b % 2) := Nat.xor_mod_two_pow (n := 1)
  rw [hm]
  rcases Nat.mod_two_eq_zero_or_one a with h | h <;> rcases Nat.mod_two_eq_zero_or_one b with h' | h' <;> rw [h, h'] <;> simp <;> omega
theorem stp_two_odd (v c : Nat) (h : (c + v) % 2 = 1) : stp (v ^^^ c) = (v / 2 ^^^ 3988292384) ^^^ (c / 2) := by
  have hd : (v ^^^ c) / 2 = (v / 2) ^^^ (c / 2) := Nat.xor_div_two_pow (n := 1)
  unfold stp
  rw [xor_mod2, if_pos (by omega), hd, Nat.xor_assoc, Nat.xor_comm (c / 2), ← Nat.xor_assoc]
theorem stp_two_even (v c : Nat) (h : (c + v) % 2 = 0) : stp (v ^^^ c) = (v / 2) ^^^ (c / 2) := by
  have hd : (v ^^^ c) / 2 = (v / 2) ^^^ (c / 2) := Nat.xor_div_two_pow (n := 1)
  unfold stp
  rw [xor_mod2, if_neg (by omega), hd]
theorem refSum_any (A : Option Addr) (n c : Nat) (l : List Nat) (w : World) (hr : Reads w w.heap.size 1 A n (l.map encB)) (hl : ∀ c ∈ l, c < 256) (hn : n ≤ maxLen) :
    Calls Try.prog 20 #[.slice A n c] w fun e w' => e = .returned (.int .u32 ((sum l : Nat) : Int)) ∧ w = w' := by
  have hlen := hr.len
  have Hn := Lib.hid hn
  clear hn
  go_enter Try.func20, Try.ntmps20
  go_wp2_with fail
  go_loopw [3, 4] (fun v i wr => ∃ k : Nat, k ≤ n ∧ i = .int .i64 k ∧ v = .int .u32 ((reg l k : Nat) : Int) ∧ wr = w) (fun _ i _ => n - (intOf i).toNat)
  case atStart => exact ⟨0, by omega, rfl, rfl, rfl⟩
  case round =>
    obtain ⟨k, hk, rfl, rfl, rfl⟩ := hrel
    by_cases hlt : k < n
    · obtain ⟨b, o, rfl, hb, hkl, hcell⟩ := hr.byte hlt
      have hlk := hl _ (List.getElem_mem hkl)
      have hreg := reg_lt l hl k
      have hreg1 := reg_succ l k hkl
      obtain ⟨x, hx⟩ : ∃ x, l[k] = x := ⟨_, rfl⟩
      obtain ⟨v, hv⟩ : ∃ v, reg l k = v := ⟨_, rfl⟩
      rw [hx] at hcell hlk hreg1
      rw [hv] at hreg hreg1 ⊢
      have hki : (k : Int) < (n : Int) := by omega
      have hk0 : (0 : Int) ≤ (k : Int) := by omega
      have hkn : (k : Int).toNat = k := rfl
      have hmax : (k : Int) + 1 ≤ 9223372036854775807 := by have := Hn.out; simp only [maxLen] at this; omega
      clear hx hv
      have Hr1 := Lib.hid hreg1
      clear hreg1
      go_wp2_with fail
      go_loopw [3, 5, 6] (fun u y i w1 => ∃ m u' y' : Nat, m ≤ 8 ∧ i = .int .i64 m ∧ u = .int .u32 (u' : Int) ∧ y = .int .u8 (y' : Int) ∧ u' < 4294967296 ∧ y' < 2 ^ (8 - m) ∧ u' ^^^ y' = stpN m (v ^^^ x) ∧ w1 = wr) (fun _ _ i _ => 8 - (intOf i).toNat)
      case atStart => exact ⟨0, v, x, by omega, rfl, rfl, rfl, hreg, hlk, (stpN_none _).symm, rfl⟩
      case round =>
        obtain ⟨m, u, y, hm, rfl, rfl, rfl, hu, hy, hst, rfl⟩ := hrel
        have Hst := Lib.hid hst
        clear hst
        have Hy := Lib.hid hy
        have hy8 : y < 256 := Nat.lt_of_lt_of_le hy (Nat.pow_le_pow_right (n := 2) (by omega) (show 8 - m ≤ 8 by omega))
        clear hy
        by_cases hm8 : (m : Int) < 8
        · have hpow : 2 ^ (8 - m) = 2 * 2 ^ (8 - (m + 1)) := by rw [show 8 - m = (8 - (m + 1)) + 1 by omega, Nat.pow_succ, Nat.mul_comm]
          have Hp := Lib.hid hpow
          clear hpow
          rcases Nat.mod_two_eq_zero_or_one (y + u) with hpar | hpar
          · have hodd : ((y : Int) + (u : Int)) % 4294967296 % 2 = 0 := by omega
            have Hpar := Lib.hid hpar
            clear hpar
            go_wp2_with fail
            go_roundw
            case rel => exact ⟨m + 1, u / 2, y / 2, by omega, by simp, by simp, by simp, by omega, by have := Hy.out; rw [Hp.out] at this; omega, by rw [stpN_succ, ← Hst.out, stp_two_even _ _ Hpar.out], trivial⟩
            case measure => simp [intOf]; omega
          · have hodd : ((y : Int) + (u : Int)) % 4294967296 % 2 = 1 := by omega
            have Hpar := Lib.hid hpar
            clear hpar
            go_wp2_with fail
            go_roundw
            case rel => exact ⟨m + 1, u / 2 ^^^ 3988292384, y / 2, by omega, by simp, by rw [show (3988292384 : Int) = ((3988292384 : Nat) : Int) from rfl, show (u : Int) / 2 = ((u / 2 : Nat) : Int) by omega, u32_xor_nat _ _ (by omega) (by omega)], by simp, Nat.xor_lt_two_pow (n := 32) (by omega) (by omega), by have := Hy.out; rw [Hp.out] at this; omega, by rw [stpN_succ, ← Hst.out, stp_two_odd _ _ Hpar.out], trivial⟩
            case measure => simp [intOf]; omega
        · have hf8 : decide ((m : Int) < 8) = false := decide_eq_false (by omega)
          go_wp2_with fail
          go_roundw
          case rel =>
            obtain rfl : m = 8 := by omega
            have hy0 : y < 1 := Hy.out
            obtain rfl : y = 0 := by omega
            have := Hst.out
            rw [Nat.xor_zero] at this
            exact ⟨k + 1, by omega, by simp, by rw [this, Hr1.out], trivial⟩
          case measure => simp [intOf]; omega
    · have hf : decide ((k : Int) < (n : Int)) = false := decide_eq_false (by omega)
      go_wp2_with fail
      go_ret
      obtain rfl : k = n := by omega
      refine ⟨?_, rfl⟩
      have e : reg l k = st 4294967295 l := by unfold reg; rw [List.take_of_length_le (by omega)]
      show Ending.returned (.int .u32 (bits BinOp.xor IntKind.u32 (reg l k : Nat) 4294967295)) = _
      rw [show (4294967295 : Int) = ((4294967295 : Nat) : Int) from rfl, u32_xor_nat _ _ (reg_lt l hl k) (by omega), e]
      rfl
end Go.Proofs.Ytmacmhlimdaemaa
