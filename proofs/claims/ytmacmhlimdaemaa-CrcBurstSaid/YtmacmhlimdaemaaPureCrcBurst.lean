/- CrcBurst, the plain part: bytes, as many, that differ only within 32 bits one behind the other have another sum. No condition beyond the row's own. -/
import Derived.Test.YtmacmhlimdaemaaQx1
namespace Go.Proofs.Ytmacmhlimdaemaa.Pure
open Go.RowKit Go.Proofs.Ytmacmhlimdaemaa.Q Go.Proofs.YtmacmhlimdaemaaW.PrintWords Go.Proofs.YtmacmhlimdaemaaW.PrintLast Go.Proofs.YtmacmhlimdaemaaW.PrintMore Go.Proofs.Ytmacmhlimdaemaa.Ext Go.Proofs.Ytmacmhlimdaemaa.Crc
theorem w64 {x : Int} (h1 : -9223372036854775808 ≤ x) (h2 : x ≤ 9223372036854775807) : wrap64 x = x := by unfold wrap64; omega
theorem sums_true : vignettelaw20_sums.f = some true := rfl
theorem bit_more (p i : Nat) : p % 2 ^ (i + 1) = (p % 2 ^ i) ^^^ ((p / 2 ^ i % 2) <<< i) := by
  apply Nat.eq_of_testBit_eq
  intro j
  rw [Nat.testBit_xor, Nat.testBit_mod_two_pow, Nat.testBit_mod_two_pow, Nat.testBit_shiftLeft]
  rw [show p / 2 ^ i % 2 = (p / 2 ^ i) % 2 ^ 1 from rfl, Nat.testBit_mod_two_pow, Nat.testBit_div_two_pow]
  rcases Nat.lt_trichotomy j i with h | h | h
  · simp [h, show j < i + 1 by omega, show ¬ i ≤ j by omega]
  · subst h; simp
  · simp [show ¬ j < i by omega, show ¬ j < i + 1 by omega, show i ≤ j by omega, show ¬ (j - i < 1) by omega]
theorem bit_one (p i : Nat) (h : p / 2 ^ i % 2 = 1) : p % 2 ^ (i + 1) = (p % 2 ^ i) ^^^ (1 <<< i) := by rw [bit_more, h]
theorem bit_none (p i : Nat) (h : p / 2 ^ i % 2 = 0) : p % 2 ^ (i + 1) = p % 2 ^ i := by rw [bit_more, h, Nat.zero_shiftLeft, Nat.xor_zero]
theorem bit_pos (p i : Nat) (h : p / 2 ^ i % 2 = 1) : p % 2 ^ (i + 1) ≠ 0 := by
  intro h0
  have := congrArg (fun n => n.testBit i) h0
  simp only [Nat.testBit_mod_two_pow, Nat.zero_testBit] at this
  have h1 : p.testBit i = true := by rw [Nat.testBit_eq_decide_div_mod_eq, h]; rfl
  simp [h1] at this
theorem nat_set (c : List Int) (q : Nat) (x : Nat) : nat (c.set q (x : Int)) = (nat c).set q x := by simp [nat, List.map_set]
theorem okB_set {c : List Int} (h : okB c = true) (q x : Nat) (hx : x < 256) : okB (c.set q (x : Int)) = true :=
  okB_mk (fun y hy => by
    rcases List.mem_or_eq_of_mem_set hy with h1 | h1
    · exact okB_mem h y h1
    · subst h1; omega) (by rw [List.length_set]; exact okB_len h)
/-- the turned bit, as the code tells it -/
theorem turn_bit (c : List Int) (hc : okB c = true) (q r : Nat) (hq : q < c.length) (hr : r < 8) :
    Go.bits .xor .u8 (rd c (q : Int)) (shl .u8 1 (r : Int)) = (((nat c)[q]'(by rw [nat_length]; exact hq) ^^^ (1 <<< r) : Nat) : Int) := by
  have h1 : rd c (q : Int) = (((nat c)[q]'(by rw [nat_length]; exact hq) : Nat) : Int) := by
    unfold rd
    rw [Int.toNat_natCast, List.getD_eq_getElem?_getD, List.getElem?_eq_getElem hq, Option.getD_some]
    simp only [nat, List.getElem_map]
    have := okB_mem hc c[q] (List.getElem_mem hq)
    omega
  have h2 : shl .u8 1 (r : Int) = ((1 <<< r : Nat) : Int) := by
    have hr' : r = 0 ∨ r = 1 ∨ r = 2 ∨ r = 3 ∨ r = 4 ∨ r = 5 ∨ r = 6 ∨ r = 7 := by omega
    rcases hr' with h | h | h | h | h | h | h | h <;> subst h <;> decide
  rw [h1, h2]
  refine u8_xor_nat _ _ (nat_lt hc _ (List.getElem_mem _)) ?_
  rw [Nat.shiftLeft_eq, Nat.one_mul]
  exact Nat.lt_of_lt_of_le (Nat.pow_lt_pow_right (by omega) hr) (by decide)
theorem pat_bit (p i : Nat) (hp : p < 4294967296) (hi : i < 32) : Go.bits .and .u32 (shr .u32 (p : Int) (i : Int)) 1 = ((p / 2 ^ i % 2 : Nat) : Int) := by
  have h : shr .u32 (p : Int) (i : Int) = ((p / 2 ^ i : Nat) : Int) := by
    unfold shr
    rw [show min (i : Int).toNat IntKind.u32.bits = i by show min i 32 = i; omega]
    norm_cast
  rw [h, show (1 : Int) = ((1 : Nat) : Int) from rfl, u32_and_nat _ _ (Nat.lt_of_le_of_lt (Nat.div_le_self _ _) hp) (by omega), Nat.and_one_is_mod]
theorem round_end (l c : List Int) (hl : okB l = true) (hc : okB c = true) (hlen : c.length = l.length) (p s i : Nat) (hp : p < 4294967296) (hs : s ≤ 8 * l.length)
    (hx : num (nat l) ^^^ num (nat c) = (p % 2 ^ i) <<< s) (tr : Bool) (htr : tr = decide (p % 2 ^ i ≠ 0)) :
    ((crc_Sum.f l).bind fun t112 => ((crc_Sum.f c).bind fun t113 => (if ((t112 != t113) == tr) = true then ((vignettelaw20_sums.f).bind fun t114 => (some t114)) else (some false)))) = some true := by
  have hb := burst (l := nat l) (m := nat c) (by rw [nat_length, nat_length, hlen]) (p % 2 ^ i) s (by rw [nat_length]; exact hs) (Nat.lt_of_le_of_lt (Nat.mod_le _ _) hp) hx
  unfold crc_Sum.f
  rw [sumF_ok hl, sumF_ok hc]
  simp only [Option.bind_some]
  rw [if_pos ?_, sums_true]
  · rfl
  · subst htr
    by_cases h0 : p % 2 ^ i = 0
    · rw [hb.2 h0]; simp [h0]
    · have : ¬ sum (nat l) = sum (nat c) := fun h => h0 (hb.1 h)
      have h2 : ((sum (nat l) : Nat) : Int) ≠ ((sum (nat c) : Nat) : Int) := fun h => this (by exact_mod_cast h)
      simp [h0, h2]
theorem loop (l : List Int) (hl : okB l = true) (h5 : l.length ≤ 5000) (p s : Nat) (hp : p < 4294967296) (hs : s < 8 * l.length) (d : Nat) :
    ∀ (k i : Nat) (c : List Int) (tr : Bool), i + d = 32 → 2 * d + 1 < k → s + i ≤ 8 * l.length → okB c = true → c.length = l.length → num (nat l) ^^^ num (nat c) = (p % 2 ^ i) <<< s → tr = decide (p % 2 ^ i ≠ 0) →
      vignettelaw20_CrcBurst.l0 k l (p : Int) (8 * (l.length : Int)) (s : Int) c tr (i : Int) = some true := by
  induction d with
  | zero =>
    intro k i c tr hi hk hsi hc hlen hx htr
    obtain ⟨k, rfl⟩ : ∃ m, k = m + 2 := ⟨k - 2, by omega⟩
    obtain rfl : i = 32 := by omega
    simp only [vignettelaw20_CrcBurst.l0]
    rw [if_neg (by omega)]
    simp only [vignettelaw20_CrcBurst.j3]
    rw [if_neg (by decide)]
    exact round_end l c hl hc hlen p s 32 hp (by omega) hx tr htr
  | succ d ih =>
    intro k i c tr hi hk hsi hc hlen hx htr
    obtain ⟨k, rfl⟩ : ∃ m, k = m + 2 := ⟨k - 2, by omega⟩
    simp only [vignettelaw20_CrcBurst.l0]
    rw [if_pos (by omega), w64 (by omega) (by omega)]
    simp only [vignettelaw20_CrcBurst.j3]
    by_cases hb : s + i < 8 * l.length
    · rw [if_pos (by rw [decide_eq_true_iff]; omega), if_pos (by omega), pat_bit p i hp (by omega)]
      have hi1 : wrap64 ((i : Int) + 1) = ((i + 1 : Nat) : Int) := by rw [w64 (by omega) (by omega)]; rfl
      rcases Nat.mod_two_eq_zero_or_one (p / 2 ^ i) with h | h
      · rw [h, if_neg (by decide), hi1]
        exact ih k (i + 1) c tr (by omega) (by omega) (by omega) hc hlen (by rw [bit_none p i h]; exact hx) (by rw [bit_none p i h]; exact htr)
      · have hq : Int.tdiv ((s : Int) + (i : Int)) 8 = (((s + i) / 8 : Nat) : Int) := by rw [Int.tdiv_eq_ediv_of_nonneg (by omega)]; omega
        have hr : Int.tmod ((s : Int) + (i : Int)) 8 = (((s + i) % 8 : Nat) : Int) := by rw [Int.tmod_eq_emod_of_nonneg (by omega)]; omega
        have hql : (s + i) / 8 < c.length := by omega
        rw [h, if_pos (by decide), w64 (x := (s : Int) + (i : Int)) (by omega) (by omega), hq, hr, w64 (by omega) (by omega), if_pos (by omega), if_pos (by omega), if_pos (by omega), hi1, turn_bit c hc _ _ hql (by omega), Int.toNat_natCast]
        have hlt : (nat c)[(s + i) / 8]'(by rw [nat_length]; exact hql) ^^^ (1 <<< ((s + i) % 8)) < 256 := by
          refine Nat.xor_lt_two_pow (n := 8) (nat_lt hc _ (List.getElem_mem _)) ?_
          rw [Nat.shiftLeft_eq, Nat.one_mul]
          exact Nat.pow_lt_pow_right (by omega) (by omega)
        refine ih k (i + 1) _ true (by omega) (by omega) (by omega) (okB_set hc _ _ hlt) (by rw [List.length_set]; exact hlen) ?_ (by rw [decide_eq_true (bit_pos p i h)])
        rw [nat_set, num_set _ _ _ (by rw [nat_length]; exact hql), ← Nat.xor_assoc, hx, ← Nat.shiftLeft_add, show (s + i) % 8 + 8 * ((s + i) / 8) = i + s by omega, bit_one p i h, Nat.shiftLeft_xor_distrib, ← Nat.shiftLeft_add]
    · rw [if_neg (by rw [decide_eq_true_iff]; omega)]
      exact round_end l c hl hc hlen p s i hp (by omega) hx tr htr

theorem CrcBurst : vignettelaw20_CrcBurst.Pure := by
  intro l a1 a2 hm hb hw w1 w2
  have hl : okB l = true := okB_mk (fun x hx => by have := hw x hx; simp [Lit.wf, IntKind.min, IntKind.max, IntKind.signed, IntKind.bits] at this; omega) (by omega)
  obtain ⟨p, rfl⟩ : ∃ p : Nat, a2 = (p : Int) := ⟨a2.toNat, by simp [Lit.wf, IntKind.min, IntKind.max, IntKind.signed, IntKind.bits] at w2; omega⟩
  have hp : p < 4294967296 := by simp [Lit.wf, IntKind.min, IntKind.max, IntKind.signed, IntKind.bits] at w2; omega
  refine ⟨70, ?_⟩
  unfold vignettelaw20_CrcBurst.f
  by_cases h5 : (l.length : Int) > 5000
  · rw [if_pos h5]
    simp only [vignettelaw20_CrcBurst.j0]
    rw [if_pos trivial, sums_true]; rfl
  · rw [if_neg h5]
    simp only [vignettelaw20_CrcBurst.j0]
    by_cases h0 : (l.length : Int) = 0
    · rw [if_pos (by rw [h0]; rfl), sums_true]; rfl
    · rw [if_neg (by rw [beq_iff_eq]; exact h0), w64 (by omega) (by omega), if_neg (by omega)]
      have go : ∀ s : Nat, s < 8 * l.length → vignettelaw20_CrcBurst.j1 69 l (p : Int) (8 * (l.length : Int)) (s : Int) = some true := by
        intro s hs
        simp only [vignettelaw20_CrcBurst.j1]
        rw [if_pos (by simp only [List.length_nil]; omega), List.nil_append]
        have := loop l hl (by omega) p s hp hs 32 68 0 l false rfl (by omega) (by omega) hl rfl (by rw [Nat.xor_self, Nat.pow_zero, Nat.mod_one, Nat.zero_shiftLeft]) (by simp [Nat.mod_one])
        exact this
      have hlt : Int.tmod a1 (8 * (l.length : Int)) < 8 * (l.length : Int) := Int.tmod_lt_of_pos _ (by omega)
      have hgt : -(8 * (l.length : Int)) < Int.tmod a1 (8 * (l.length : Int)) := by
        rcases Int.le_total 0 a1 with h | h
        · have := Int.tmod_nonneg (8 * (l.length : Int)) h
          omega
        · have h2 := Int.neg_tmod (-a1) (8 * (l.length : Int))
          have h3 := Int.tmod_lt_of_pos (-a1) (b := 8 * (l.length : Int)) (by omega)
          rw [Int.neg_neg] at h2
          omega
      by_cases hn : Int.tmod a1 (8 * (l.length : Int)) < 0
      · rw [if_pos hn, w64 (by omega) (by omega)]
        have := go (Int.tmod a1 (8 * (l.length : Int)) + 8 * (l.length : Int)).toNat (by omega)
        rwa [Int.toNat_of_nonneg (by omega)] at this
      · rw [if_neg hn]
        have := go (Int.tmod a1 (8 * (l.length : Int))).toNat (by omega)
        rwa [Int.toNat_of_nonneg (by omega)] at this
end Go.Proofs.Ytmacmhlimdaemaa.Pure
