/- PacketHead, the plain part. -/
import Derived.Test.YtmacmhlimdaemaaPktBase
import Derived.Test.YtmacmhlimdaemaaRx12
namespace Go.Proofs.Ytmacmhlimdaemaa.Pkt
open Go.RowKit Go.Proofs.Ytmacmhlimdaemaa.Ext Go.Proofs.Ytmacmhlimdaemaa.Crc Go.Proofs.YtmacmhlimdaemaaW.PrintWords Go.Proofs.YtmacmhlimdaemaaW.PrintMore Go.Proofs.Ytmacmhlimdaemaa.R
theorem head_end (b : List Int) (hb : okB b = true) (h24 : 24 ≤ b.length) (h280 : b.length ≤ 280) (hg : Good b) (s : Nat) (hs : s < 8 * b.length) (k : Nat) (hk : 27 ≤ k) :
    (if 0 ≤ (wrap64 (Int.tdiv (s : Int) 8)) then (if (wrap64 (Int.tdiv (s : Int) 8)) < (b.length : Int) then (if 0 ≤ (Int.tmod (s : Int) 8) then ((packet_Read.f k (b.set ((wrap64 (Int.tdiv (s : Int) 8)) : Int).toNat (Go.bits .xor .u8 (rd b (wrap64 (Int.tdiv (s : Int) 8))) (shl .u8 1 (Int.tmod (s : Int) 8))))).bind fun bt344 => (if bt344.2.2.2.2 = 210 then ((vignettelaw21_writes.f k).bind fun t352 => (some t352)) else (some false))) else (none)) else (none)) else (none)) = some true := by
  have hq : Int.tdiv (s : Int) 8 = ((s / 8 : Nat) : Int) := by rw [Int.tdiv_eq_ediv_of_nonneg (by omega)]; omega
  have hr : Int.tmod (s : Int) 8 = ((s % 8 : Nat) : Int) := by rw [Int.tmod_eq_emod_of_nonneg (by omega)]; omega
  have hql : s / 8 < b.length := by omega
  rw [hq, hr, w64 (by omega) (by omega), if_pos (by omega), if_pos (by omega), if_pos (by omega), turn_bit b hb _ _ hql (by omega), Int.toNat_natCast]
  have hlt : (nat b)[s / 8]'(by rw [nat_length]; exact hql) ^^^ (1 <<< (s % 8)) < 256 := by
    refine Nat.xor_lt_two_pow (n := 8) (nat_lt hb _ (List.getElem_mem _)) ?_
    rw [Nat.shiftLeft_eq, Nat.one_mul]
    exact Nat.pow_lt_pow_right (by omega) (by omega)
  have hc := okB_set hb (s / 8) _ hlt
  have hx : num (nat b) ^^^ num (nat (b.set (s / 8) (((nat b)[s / 8]'(by rw [nat_length]; exact hql) ^^^ (1 <<< (s % 8)) : Nat) : Int))) = 1 <<< s := by
    rw [nat_set, num_set _ _ _ (by rw [nat_length]; exact hql), ← Nat.xor_assoc, Nat.xor_self, Nat.zero_xor, ← Nat.shiftLeft_add, show s % 8 + 8 * (s / 8) = s by omega]
  have hne : b.set (s / 8) (((nat b)[s / 8]'(by rw [nat_length]; exact hql) ^^^ (1 <<< (s % 8)) : Nat) : Int) ≠ b := by
    intro h
    rw [h, Nat.xor_self, Nat.shiftLeft_eq, Nat.one_mul] at hx
    have := Nat.two_pow_pos s
    omega
  have hside : s = 0 ∨ 32 ≤ s ∨ 1 <<< s < 4294967296 := by
    by_cases h : 32 ≤ s
    · exact .inr (.inl h)
    · refine .inr (.inr ?_)
      rw [Nat.shiftLeft_eq, Nat.one_mul]
      exact Nat.lt_of_lt_of_le (Nat.pow_lt_pow_right (n := 32) (m := s) (by omega) (by omega)) (by decide)
  have hbad := spoilt b _ hb hc (by rw [List.length_set]) h24 hg.1 1 s (by omega) (by omega) hx hside hne
  rw [read_at _ hc hk, read_bad _ (by rw [List.length_set]; omega) (by rw [List.length_set]; omega) hbad]
  simp only [Option.bind_some]
  rw [if_pos trivial, writes_at hk]
  rfl
theorem head_j0 (b : List Int) (hb : okB b = true) (h24 : 24 ≤ b.length) (h280 : b.length ≤ 280) (hg : Good b) (x : Int) : vignettelaw21_PacketHead.j0 100 x b false = some true := by
  rw [vignettelaw21_PacketHead.j0, if_neg (by decide), w64 (x := 8 * (b.length : Int)) (by omega) (by omega), if_neg (by omega)]
  obtain ⟨s, hs, hse⟩ := tmod_in x (8 * b.length) (by omega)
  rw [show ((8 * b.length : Nat) : Int) = 8 * (b.length : Int) by omega] at hse
  have go := head_end b hb h24 h280 hg s hs 99 (by omega)
  by_cases hn : Int.tmod x (8 * (b.length : Int)) < 0
  · rw [if_pos hn] at hse
    rw [if_pos hn, hse, w64 (x := (s : Int)) (by omega) (by omega)]
    exact go
  · rw [if_neg hn] at hse
    rw [if_neg hn, hse]
    exact go
theorem head_law (e o a : Nat) (d : List Int) (x : Int) (he : e < 4294967296) (ho : o < 18446744073709551616) (ha : a < 18446744073709551616) (hd : ∀ x ∈ d, 0 ≤ x ∧ x < 256) :
    vignettelaw21_PacketHead.f 100 e o a d x = some true := by
  unfold vignettelaw21_PacketHead.f
  by_cases h2 : (d.length : Int) > 256
  · rw [if_pos h2, writes_at (by omega)]
    rfl
  · have hl : d.length ≤ 256 := by omega
    have hok : okB d = true := okB_mk hd (by omega)
    have hbok := wr_ok e o a d hd hl
    have hgood := wr_good e o a d he ho ha hd hl
    have hbl := wrS_len e o a d
    rw [if_neg h2, write_at e o a d he hok (by omega), writeS_small e o a d h2]
    generalize wrS e o a d = b at hbok hgood hbl ⊢
    rw [Option.bind_some, if_pos rfl]
    rw [show (((b, (0 : Int)).1.length : Int) == 0) = false by rw [beq_eq_false_iff_ne]; show ¬ (b.length : Int) = 0; omega]
    exact head_j0 b hbok (by omega) (by omega) hgood x
end Go.Proofs.Ytmacmhlimdaemaa.Pkt
