/- PacketBack, the plain part. -/
import Derived.Test.YtmacmhlimdaemaaPktBase
import Derived.Test.YtmacmhlimdaemaaRx11
namespace Go.Proofs.Ytmacmhlimdaemaa.Pkt
open Go.RowKit Go.Proofs.Ytmacmhlimdaemaa.Ext Go.Proofs.Ytmacmhlimdaemaa.Crc Go.Proofs.YtmacmhlimdaemaaW.PrintWords Go.Proofs.YtmacmhlimdaemaaW.PrintMore Go.Proofs.Ytmacmhlimdaemaa.R
theorem back_end (b c : List Int) (hb : okB b = true) (hc : okB c = true) (hlen : c.length = b.length) (h24 : 24 ≤ b.length) (h280 : b.length ≤ 280) (hg : Good b)
    (p s i : Nat) (hp : p < 4294967296) (hs : s < 8 * b.length) (hx : num (nat b) ^^^ num (nat c) = (p % 2 ^ i) <<< s) (k : Nat) (hk : 27 ≤ k) :
    ((packet_Read.f (k + 1) c).bind fun bt325 => (if (strOfNums c).toList = (strOfNums b).toList then (if bt325.2.2.2.2 = 0 then ((vignettelaw21_writes.f (k + 1)).bind fun t333 => (some t333)) else (some false)) else (if (s : Int) > 0 then (vignettelaw21_PacketBack.j4 (k + 1) bt325.2.2.2.2 (decide ((s : Int) < 32)) bt325.1 bt325.2.1 bt325.2.2.1 bt325.2.2.2.1) else (vignettelaw21_PacketBack.j4 (k + 1) bt325.2.2.2.2 false bt325.1 bt325.2.1 bt325.2.2.1 bt325.2.2.2.1)))) = some true := by
  rw [read_at c hc (by omega)]
  simp only [Option.bind_some]
  by_cases he : c = b
  · subst he
    rw [if_pos rfl, if_pos hg.2, writes_at (by omega)]
    rfl
  · rw [if_neg (fun h => he ((str_eq (okB_mem hc) (okB_mem hb)).1 h))]
    by_cases hside : 0 < s ∧ s < 32
    · rw [if_pos (by omega), vignettelaw21_PacketBack.j4, if_pos (by rw [decide_eq_true_iff]; omega), writes_at (by omega)]
      rfl
    · have hbad := spoilt b c hb hc hlen h24 hg.1 (p % 2 ^ i) s (Nat.lt_of_le_of_lt (Nat.mod_le _ _) hp) (by omega) hx (by omega) he
      rw [read_bad c (by omega) (by omega) hbad]
      have hj : ∀ x : Bool, x = false → vignettelaw21_PacketBack.j4 (k + 1) 210 x 0 0 0 [] = some true := by
        rintro x rfl
        rw [vignettelaw21_PacketBack.j4, if_neg (by decide), if_pos rfl, if_pos (by simp), writes_at (by omega)]
        rfl
      by_cases h0 : (s : Int) > 0
      · rw [if_pos h0]
        exact hj _ (decide_eq_false (by omega))
      · rw [if_neg h0]
        exact hj _ rfl
theorem back_loop (b : List Int) (hb : okB b = true) (h24 : 24 ≤ b.length) (h280 : b.length ≤ 280) (hg : Good b)
    (p s : Nat) (hp : p < 4294967296) (hs : s < 8 * b.length) (d : Nat) :
    ∀ (k i : Nat) (c : List Int), i + d = 32 → 2 * d + 30 < k → s + i ≤ 8 * b.length → okB c = true → c.length = b.length → num (nat b) ^^^ num (nat c) = (p % 2 ^ i) <<< s →
      vignettelaw21_PacketBack.l0 k (p : Int) b (8 * (b.length : Int)) (s : Int) c (i : Int) = some true := by
  induction d with
  | zero =>
    intro k i c hi hk hsi hc hlen hx
    obtain ⟨k, rfl⟩ : ∃ m, k = m + 3 := ⟨k - 3, by omega⟩
    obtain rfl : i = 32 := by omega
    rw [vignettelaw21_PacketBack.l0, if_neg (by omega), vignettelaw21_PacketBack.j3, if_neg (by decide)]
    exact back_end b c hb hc hlen h24 h280 hg p s 32 hp hs hx k (by omega)
  | succ d ih =>
    intro k i c hi hk hsi hc hlen hx
    obtain ⟨k, rfl⟩ : ∃ m, k = m + 3 := ⟨k - 3, by omega⟩
    rw [vignettelaw21_PacketBack.l0, if_pos (by omega), w64 (by omega) (by omega), vignettelaw21_PacketBack.j3]
    by_cases hbi : s + i < 8 * b.length
    · rw [if_pos (by rw [decide_eq_true_iff]; omega), if_pos (by omega), pat_bit p i hp (by omega)]
      have hi1 : wrap64 ((i : Int) + 1) = ((i + 1 : Nat) : Int) := by rw [w64 (by omega) (by omega)]; rfl
      rcases Nat.mod_two_eq_zero_or_one (p / 2 ^ i) with h | h
      · rw [h, if_neg (by decide), hi1]
        exact ih (k + 1) (i + 1) c (by omega) (by omega) (by omega) hc hlen (by rw [bit_none p i h]; exact hx)
      · have hq : Int.tdiv ((s : Int) + (i : Int)) 8 = (((s + i) / 8 : Nat) : Int) := by rw [Int.tdiv_eq_ediv_of_nonneg (by omega)]; omega
        have hr : Int.tmod ((s : Int) + (i : Int)) 8 = (((s + i) % 8 : Nat) : Int) := by rw [Int.tmod_eq_emod_of_nonneg (by omega)]; omega
        have hql : (s + i) / 8 < c.length := by omega
        rw [h, if_pos (by decide), w64 (x := (s : Int) + (i : Int)) (by omega) (by omega), hq, hr, w64 (by omega) (by omega), if_pos (by omega), if_pos (by omega), if_pos (by omega), hi1, turn_bit c hc _ _ hql (by omega), Int.toNat_natCast]
        have hlt : (nat c)[(s + i) / 8]'(by rw [nat_length]; exact hql) ^^^ (1 <<< ((s + i) % 8)) < 256 := by
          refine Nat.xor_lt_two_pow (n := 8) (nat_lt hc _ (List.getElem_mem _)) ?_
          rw [Nat.shiftLeft_eq, Nat.one_mul]
          exact Nat.pow_lt_pow_right (by omega) (by omega)
        refine ih (k + 1) (i + 1) _ (by omega) (by omega) (by omega) (okB_set hc _ _ hlt) (by rw [List.length_set]; exact hlen) ?_
        rw [nat_set, num_set _ _ _ (by rw [nat_length]; exact hql), ← Nat.xor_assoc, hx, ← Nat.shiftLeft_add, show (s + i) % 8 + 8 * ((s + i) / 8) = i + s by omega, bit_one p i h, Nat.shiftLeft_xor_distrib, ← Nat.shiftLeft_add]
    · rw [if_neg (by rw [decide_eq_true_iff]; omega)]
      exact back_end b c hb hc hlen h24 h280 hg p s i hp hs hx k (by omega)
theorem back_j0 (b : List Int) (hb : okB b = true) (h24 : 24 ≤ b.length) (h280 : b.length ≤ 280) (hg : Good b) (x : Int) (p : Nat) (hp : p < 4294967296) : vignettelaw21_PacketBack.j0 200 x (p : Int) b false = some true := by
  rw [vignettelaw21_PacketBack.j0, if_neg (by decide), w64 (x := 8 * (b.length : Int)) (by omega) (by omega), if_neg (by omega)]
  have go : ∀ s : Nat, s < 8 * b.length → vignettelaw21_PacketBack.j1 199 (p : Int) b (8 * (b.length : Int)) (s : Int) = some true := by
    intro s hs
    rw [vignettelaw21_PacketBack.j1, if_pos (by simp only [List.length_nil]; omega), List.nil_append]
    exact back_loop b hb h24 h280 hg p s hp hs 32 198 0 b rfl (by omega) (by omega) hb rfl (by rw [Nat.xor_self, Nat.pow_zero, Nat.mod_one, Nat.zero_shiftLeft])
  obtain ⟨s, hs, hse⟩ := tmod_in x (8 * b.length) (by omega)
  rw [show ((8 * b.length : Nat) : Int) = 8 * (b.length : Int) by omega] at hse
  by_cases hn : Int.tmod x (8 * (b.length : Int)) < 0
  · rw [if_pos hn] at hse
    rw [if_pos hn, hse, w64 (by omega) (by omega)]
    exact go s hs
  · rw [if_neg hn] at hse
    rw [if_neg hn, hse]
    exact go s hs
theorem back_law (e o a : Nat) (d : List Int) (x : Int) (p : Nat) (he : e < 4294967296) (ho : o < 18446744073709551616) (ha : a < 18446744073709551616) (hd : ∀ x ∈ d, 0 ≤ x ∧ x < 256) (hp : p < 4294967296) :
    vignettelaw21_PacketBack.f 200 e o a d x (p : Int) = some true := by
  unfold vignettelaw21_PacketBack.f
  by_cases h : (d.length : Int) > 2000
  · rw [if_pos h]
  · have hok : okB d = true := okB_mk hd (by omega)
    rw [if_neg h, write_at e o a d he hok (by omega)]
    simp only [Option.bind_some]
    by_cases h2 : (d.length : Int) > 256
    · have hw : writeS e o a d = ([], 2) := by unfold writeS; rw [if_pos (by omega)]
      rw [if_pos h2, hw, if_pos rfl, if_pos (by simp), writes_at (by omega)]
      rfl
    · have hl : d.length ≤ 256 := by omega
      have hback := back e o a d he ho ha hd hl
      have hbok := wr_ok e o a d hd hl
      have hgood := wr_good e o a d he ho ha hd hl
      have hbl := wrS_len e o a d
      rw [if_neg h2, writeS_small e o a d h2]
      generalize wrS e o a d = b at hback hbok hgood hbl ⊢
      rw [read_at b hbok (by omega), hback]
      simp only [Option.bind_some]
      rw [if_pos trivial, if_pos trivial, same_self, Option.bind_some]
      have hne : ((b.length : Int) != wrap64 (24 + (d.length : Int))) = false := by
        rw [w64 (by omega) (by omega), hbl, bne_eq_false_iff_eq]
        omega
      rw [if_pos rfl, hne]
      exact back_j0 b hbok (by omega) (by omega) hgood x p hp
end Go.Proofs.Ytmacmhlimdaemaa.Pkt
