/- What is written reads as a packet; what is spoilt does not. -/
import Derived.Test.YtmacmhlimdaemaaPktLawsA
namespace Go.Proofs.Ytmacmhlimdaemaa.Pkt
open Go.RowKit Go.Proofs.Ytmacmhlimdaemaa.Ext Go.Proofs.Ytmacmhlimdaemaa.Crc Go.Proofs.YtmacmhlimdaemaaW.PrintWords Go.Proofs.YtmacmhlimdaemaaW.PrintMore Go.Proofs.Ytmacmhlimdaemaa.R
theorem writeS_small (e o a : Nat) (d : List Int) (h : ¬ (d.length : Int) > 256) : writeS e o a d = (wrS e o a d, 0) := by unfold writeS; rw [if_neg (by omega)]
theorem wr_reads (e o a : Nat) (d : List Int) (hd : ∀ x ∈ d, 0 ≤ x ∧ x < 256) (hl : d.length ≤ 256) : sum (nat ((wrS e o a d).drop 4)) = val ((wrS e o a d).take 4) := by
  rw [wrS_drop, wrS_take, sum_val e o a d hd hl]
theorem read_bad (c : List Int) (h1 : 24 ≤ c.length) (h2 : c.length ≤ 280) (h : sum (nat (c.drop 4)) ≠ val (c.take 4)) : readS c = (0, 0, 0, [], 210) := by
  unfold readS
  rw [if_neg (by omega), if_neg (by omega), if_neg h]
theorem tmod_in (x : Int) (n : Nat) (h : 0 < n) : ∃ s : Nat, s < n ∧ (if Int.tmod x (n : Int) < 0 then Int.tmod x (n : Int) + n else Int.tmod x (n : Int)) = (s : Int) := by
  have hlt : Int.tmod x (n : Int) < n := Int.tmod_lt_of_pos _ (by omega)
  have hgt : -(n : Int) < Int.tmod x n := by
    rcases Int.le_total 0 x with h | h
    · have := Int.tmod_nonneg (n : Int) h
      omega
    · have h2 := Int.neg_tmod (-x) (n : Int)
      have h3 := Int.tmod_lt_of_pos (-x) (b := (n : Int)) (by omega)
      rw [Int.neg_neg] at h2
      omega
  by_cases hn : Int.tmod x (n : Int) < 0
  · rw [if_pos hn]
    exact ⟨(Int.tmod x n + n).toNat, by omega, by omega⟩
  · rw [if_neg hn]
    exact ⟨(Int.tmod x n).toNat, by omega, by omega⟩
def Good (b : List Int) : Prop := sum (nat (b.drop 4)) = val (b.take 4) ∧ (readS b).2.2.2.2 = 0
theorem wr_good (e o a : Nat) (d : List Int) (he : e < 4294967296) (ho : o < 18446744073709551616) (ha : a < 18446744073709551616) (hd : ∀ x ∈ d, 0 ≤ x ∧ x < 256) (hl : d.length ≤ 256) : Good (wrS e o a d) :=
  ⟨wr_reads e o a d hd hl, by rw [back e o a d he ho ha hd hl]⟩
theorem wr_ok (e o a : Nat) (d : List Int) (hd : ∀ x ∈ d, 0 ≤ x ∧ x < 256) (hl : d.length ≤ 256) : okB (wrS e o a d) = true := okB_mk (wrS_mem e o a d hd) (by rw [wrS_len]; omega)
end Go.Proofs.Ytmacmhlimdaemaa.Pkt
