/- A colour, a channel of which is brighter: what the law's own 'up' computes. -/
import Derived.Test.YtlgbbckmaceabaaDoorPlain
import Derived.Test.YtlgbbckmaceabaaDoorWakes
import Derived.WalkLawsBesides
namespace Go.Proofs.YtlgbbckmaceabaaDoor
open Go.RowKit
theorem chanN (c m k j M : Nat) (hM : ∀ i, i < 8 → M.testBit (j + i) = !(decide (j = k))) (hk : j = k ∨ j + 8 ≤ k ∨ k + 8 ≤ j) (hm : m < 256) :
    (((c &&& M) ||| (m <<< k)) / 2 ^ j) % 256 = if j = k then m else c / 2 ^ j % 256 := by
  apply Nat.eq_of_testBit_eq
  intro i
  rw [show (256 : Nat) = 2 ^ 8 from rfl, Nat.testBit_mod_two_pow, Nat.testBit_div_two_pow, Nat.testBit_or, Nat.testBit_and, Nat.testBit_shiftLeft]
  by_cases hi : i < 8
  · rw [Nat.add_comm i j, hM i hi]
    by_cases h : j = k
    · subst h
      simp [hi]
    · simp only [hi, h, if_false, decide_true, decide_false, Bool.not_false, Bool.and_true, Bool.true_and]
      rw [Nat.testBit_mod_two_pow, Nat.testBit_div_two_pow]
      simp only [hi, decide_true, Bool.true_and, Nat.add_comm i j]
      have : (decide (j + i ≥ k) && m.testBit (j + i - k)) = false := by
        rcases hk with hk | hk | hk
        · exact absurd hk h
        · simp; omega
        · have hlt : m < 2 ^ (j + i - k) := Nat.lt_of_lt_of_le hm (Nat.pow_le_pow_right (n := 2) (by omega) (show 8 ≤ j + i - k by omega))
          simp [Nat.testBit_lt_two_pow hlt]
      rw [this, Bool.or_false]
  · by_cases h : j = k
    · subst h
      have hlt : m < 2 ^ i := Nat.lt_of_lt_of_le hm (Nat.pow_le_pow_right (n := 2) (by omega) (show 8 ≤ i by omega))
      simp [hi, Nat.testBit_lt_two_pow hlt]
    · simp only [h, if_false]
      rw [Nat.testBit_mod_two_pow]
      simp [hi]
/-- the masks: the k-th channel cut out -/
theorem masks (k j M : Nat) (h : (k = 0 ∧ M = 4294967040) ∨ (k = 8 ∧ M = 4294902015) ∨ (k = 16 ∧ M = 4278255615)) (hj : j = 0 ∨ j = 8 ∨ j = 16) : ∀ i, i < 8 → M.testBit (j + i) = !(decide (j = k)) := by
  rcases h with ⟨rfl, rfl⟩ | ⟨rfl, rfl⟩ | ⟨rfl, rfl⟩ <;> rcases hj with rfl | rfl | rfl <;> decide
/-- what 'up' answers: a colour whose channel at k is m, the others as they were -/
structure Upped (c m : Int) (k : Nat) (U : Int) : Prop where
  lo : 0 ≤ U
  hi : U < 4294967296
  c0 : U % 256 = if k = 0 then m else c % 256
  c8 : U / 256 % 256 = if k = 8 then m else c / 256 % 256
  c16 : U / 65536 % 256 = if k = 16 then m else c / 65536 % 256
theorem upped (c m : Int) (k : Nat) (B P : Int) (h0 : 0 ≤ c) (h1 : c < 4294967296) (m0 : 0 ≤ m) (m1 : m ≤ 255) (h : (k = 0 ∧ B = 255 ∧ P = m) ∨ (k = 8 ∧ B = 65280 ∧ P = m * 256) ∨ (k = 16 ∧ B = 16711680 ∧ P = m * 65536)) :
    Upped c m k (bits .or .u32 (bits .andNot .u32 c B) P) := by
  obtain ⟨c, rfl⟩ := Int.eq_ofNat_of_zero_le h0
  obtain ⟨m, rfl⟩ := Int.eq_ofNat_of_zero_le m0
  have key : ∃ M : Nat, ((k = 0 ∧ M = 4294967040) ∨ (k = 8 ∧ M = 4294902015) ∨ (k = 16 ∧ M = 4278255615)) ∧ bits .or .u32 (bits .andNot .u32 (c : Int) B) P = (((c &&& M) ||| (m <<< k) : Nat) : Int) := by
    rcases h with ⟨rfl, rfl, rfl⟩ | ⟨rfl, rfl, rfl⟩ | ⟨rfl, rfl, rfl⟩
    · refine ⟨4294967040, .inl ⟨rfl, rfl⟩, ?_⟩
      rw [show ((255 : Int)) = ((255 : Nat) : Int) from rfl, u32_andNot_nat c 255 (by omega) (by decide), u32_or_nat _ _ (Nat.lt_of_le_of_lt Nat.and_le_left (by omega)) (by omega)]
      simp
    · refine ⟨4294902015, .inr (.inl ⟨rfl, rfl⟩), ?_⟩
      rw [show ((65280 : Int)) = ((65280 : Nat) : Int) from rfl, u32_andNot_nat c 65280 (by omega) (by decide), show (m : Int) * 256 = ((m * 256 : Nat) : Int) by simp, u32_or_nat _ _ (Nat.lt_of_le_of_lt Nat.and_le_left (by omega)) (by omega)]
      simp [Nat.shiftLeft_eq]
    · refine ⟨4278255615, .inr (.inr ⟨rfl, rfl⟩), ?_⟩
      rw [show ((16711680 : Int)) = ((16711680 : Nat) : Int) from rfl, u32_andNot_nat c 16711680 (by omega) (by decide), show (m : Int) * 65536 = ((m * 65536 : Nat) : Int) by simp, u32_or_nat _ _ (Nat.lt_of_le_of_lt Nat.and_le_left (by omega)) (by omega)]
      simp [Nat.shiftLeft_eq]
  obtain ⟨M, hM, e⟩ := key
  have hk : k = 0 ∨ k = 8 ∨ k = 16 := by omega
  have j0 := chanN c m k 0 M (masks k 0 M hM (by omega)) (by omega) (by omega)
  have j8 := chanN c m k 8 M (masks k 8 M hM (by omega)) (by omega) (by omega)
  have j16 := chanN c m k 16 M (masks k 16 M hM (by omega)) (by omega) (by omega)
  have hlt : ((c &&& M) ||| (m <<< k)) < 2 ^ 32 := by
    refine Nat.or_lt_two_pow (Nat.lt_of_le_of_lt Nat.and_le_left (by omega)) ?_
    rw [Nat.shiftLeft_eq]
    rcases hk with rfl | rfl | rfl <;> omega
  rw [e]
  generalize ((c &&& M) ||| (m <<< k)) = U at *
  refine ⟨by omega, by omega, ?_, ?_, ?_⟩
  · rcases hk with rfl | rfl | rfl <;> simp at j0 j8 j16 ⊢ <;> omega
  · rcases hk with rfl | rfl | rfl <;> simp at j0 j8 j16 ⊢ <;> omega
  · rcases hk with rfl | rfl | rfl <;> simp at j0 j8 j16 ⊢ <;> omega
/-- the answer of 'up': the channel at k is as bright or brighter, the others are as they were -/
structure IsUp (c : Int) (k : Nat) (U : Int) : Prop where
  lo : 0 ≤ U
  hi : U < 4294967296
  c0 : if k = 0 then c % 256 ≤ U % 256 else U % 256 = c % 256
  c8 : if k = 8 then c / 256 % 256 ≤ U / 256 % 256 else U / 256 % 256 = c / 256 % 256
  c16 : if k = 16 then c / 65536 % 256 ≤ U / 65536 % 256 else U / 65536 % 256 = c / 65536 % 256
def SomeUp (c : Int) (k : Nat) (w : World) (e : Ending) (w' : World) : Prop := ∃ U, e = .returned (.int .u32 U) ∧ IsUp c k U ∧ Below w.heap.size w w'
theorem Upped.is {c m U : Int} {k : Nat} (h : Upped c m k U) (h0 : k = 0 → c % 256 ≤ m) (h8 : k = 8 → c / 256 % 256 ≤ m) (h16 : k = 16 → c / 65536 % 256 ≤ m) : IsUp c k U := by
  refine ⟨h.lo, h.hi, ?_, ?_, ?_⟩
  · by_cases hk : k = 0
    · rw [if_pos hk]; have := h.c0; rw [if_pos hk] at this; have := h0 hk; omega
    · rw [if_neg hk]; have := h.c0; rw [if_neg hk] at this; exact this
  · by_cases hk : k = 8
    · rw [if_pos hk]; have := h.c8; rw [if_pos hk] at this; have := h8 hk; omega
    · rw [if_neg hk]; have := h.c8; rw [if_neg hk] at this; exact this
  · by_cases hk : k = 16
    · rw [if_pos hk]; have := h.c16; rw [if_pos hk] at this; have := h16 hk; omega
    · rw [if_neg hk]; have := h.c16; rw [if_neg hk] at this; exact this
theorem up0 (c m : Int) (w : World) (hc : 0 ≤ c) (hc' : c < 4294967296) (hm : 0 ≤ m) (hm' : m ≤ 255) :
    Calls Tryd.prog 12 #[.int .u32 c, .int .i64 0, .int .u8 m] w (SomeUp c 0 w) := by
  have q1 := mask8 (c) (by omega) (by omega)
  by_cases h : c % 256 + m < 255
  · have u := upped c (c % 256 + m) 0 255 ((c % 256 + m)) hc hc' (by omega) (by omega) (by omega)
    have U := Lib.hid u
    clear u
    go_enter Tryd.func12, Tryd.ntmps12
    go_wp2_with fail
    go_quiet (fail)
    go_wp2_with fail
    all_goals
      go_ret
      exact ⟨_, rfl, U.out.is (by omega) (by omega) (by omega), below_drewN (Below.refl _ _) _⟩
  · have u := upped c 255 0 255 255 hc hc' (by omega) (by omega) (by omega)
    have U := Lib.hid u
    clear u
    go_enter Tryd.func12, Tryd.ntmps12
    go_wp2_with fail
    go_quiet (fail)
    go_wp2_with fail
    all_goals
      go_ret
      exact ⟨_, rfl, U.out.is (by omega) (by omega) (by omega), below_drewN (Below.refl _ _) _⟩
theorem up8 (c m : Int) (w : World) (hc : 0 ≤ c) (hc' : c < 4294967296) (hm : 0 ≤ m) (hm' : m ≤ 255) :
    Calls Tryd.prog 12 #[.int .u32 c, .int .i64 8, .int .u8 m] w (SomeUp c 8 w) := by
  have q1 := mask8 (c / 256) (by omega) (by omega)
  by_cases h : c / 256 % 256 + m < 255
  · have u := upped c (c / 256 % 256 + m) 8 65280 ((c / 256 % 256 + m) * 256) hc hc' (by omega) (by omega) (by omega)
    have U := Lib.hid u
    clear u
    go_enter Tryd.func12, Tryd.ntmps12
    go_wp2_with fail
    go_quiet (fail)
    go_wp2_with fail
    all_goals
      go_ret
      exact ⟨_, rfl, U.out.is (by omega) (by omega) (by omega), below_drewN (Below.refl _ _) _⟩
  · have u := upped c 255 8 65280 65280 hc hc' (by omega) (by omega) (by omega)
    have U := Lib.hid u
    clear u
    go_enter Tryd.func12, Tryd.ntmps12
    go_wp2_with fail
    go_quiet (fail)
    go_wp2_with fail
    all_goals
      go_ret
      exact ⟨_, rfl, U.out.is (by omega) (by omega) (by omega), below_drewN (Below.refl _ _) _⟩
theorem up16 (c m : Int) (w : World) (hc : 0 ≤ c) (hc' : c < 4294967296) (hm : 0 ≤ m) (hm' : m ≤ 255) :
    Calls Tryd.prog 12 #[.int .u32 c, .int .i64 16, .int .u8 m] w (SomeUp c 16 w) := by
  have q1 := mask8 (c / 65536) (by omega) (by omega)
  by_cases h : c / 65536 % 256 + m < 255
  · have u := upped c (c / 65536 % 256 + m) 16 16711680 ((c / 65536 % 256 + m) * 65536) hc hc' (by omega) (by omega) (by omega)
    have U := Lib.hid u
    clear u
    go_enter Tryd.func12, Tryd.ntmps12
    go_wp2_with fail
    go_quiet (fail)
    go_wp2_with fail
    all_goals
      go_ret
      exact ⟨_, rfl, U.out.is (by omega) (by omega) (by omega), below_drewN (Below.refl _ _) _⟩
  · have u := upped c 255 16 16711680 16711680 hc hc' (by omega) (by omega) (by omega)
    have U := Lib.hid u
    clear u
    go_enter Tryd.func12, Tryd.ntmps12
    go_wp2_with fail
    go_quiet (fail)
    go_wp2_with fail
    all_goals
      go_ret
      exact ⟨_, rfl, U.out.is (by omega) (by omega) (by omega), below_drewN (Below.refl _ _) _⟩
end Go.Proofs.YtlgbbckmaceabaaDoor
