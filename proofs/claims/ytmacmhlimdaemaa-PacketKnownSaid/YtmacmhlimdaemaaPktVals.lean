/- The values of PacketKnown. -/
import Derived.Test.YtmacmhlimdaemaaBRow
import Derived.Outline
namespace Go.Proofs.Ytmacmhlimdaemaa.Pkt
open Go.RowKit Go.Proofs.YtmacmhlimdaemaaW.PrintWords Go.Proofs.Ytmacmhlimdaemaa.R Go.Proofs.Ytmacmhlimdaemaa.Crc Go.Proofs.Ytmacmhlimdaemaa.Ext
def zs (n : Nat) : List Int := List.replicate n 0
theorem zs_len (n : Nat) : (zs n).length = n := by simp [zs]
theorem zs_mem (n : Nat) : ∀ x ∈ zs n, 0 ≤ x ∧ x < 256 := fun x hx => by
  have := List.eq_of_mem_replicate hx
  omega
theorem zs_ok (n : Nat) (h : n ≤ 1000) : okB (zs n) = true := okB_mk (zs_mem n) (by rw [zs_len]; omega)
def bigB : List Int := wrS 4294967295 18446744073709551615 9223372036854775808 (zs 256)
theorem bigB_len : bigB.length = 280 := by unfold bigB; rw [wrS_len, zs_len]
theorem bigB_mem : ∀ x ∈ bigB, 0 ≤ x ∧ x < 256 := wrS_mem _ _ _ _ (zs_mem 256)
theorem bigB_ok : okB bigB = true := okB_mk bigB_mem (by rw [bigB_len]; omega)
theorem bigW : writeS 4294967295 18446744073709551615 9223372036854775808 (zs 256) = (bigB, 0) := writeS_small _ _ _ _ (by rw [zs_len]; decide)
theorem bigR : readS bigB = (4294967295, 18446744073709551615, 9223372036854775808, zs 256, 0) := back 4294967295 18446744073709551615 9223372036854775808 (zs 256) (by decide) (by decide) (by decide) (zs_mem 256) (by rw [zs_len]; decide)
set_option maxRecDepth 10000000 in
theorem cutR : readS (bigB.take 279) = (0, 0, 0, [], 210) := by
  refine read_bad _ (by rw [List.length_take, bigB_len]; decide) (by rw [List.length_take, bigB_len]; decide) ?_
  have h1 : (sum (nat ((bigB.take 279).drop 4)) == val ((bigB.take 279).take 4)) = false := by kernel_rfl
  simpa using h1
theorem r23 : readS (zs 23) = (0, 0, 0, [], 211) := by
  unfold readS
  rw [if_pos (by rw [zs_len]; decide)]
theorem r24 : readS (zs 24) = (0, 0, 0, [], 210) := by
  refine read_bad _ (by rw [zs_len]; decide) (by rw [zs_len]; decide) ?_
  have h1 : (sum (nat ((zs 24).drop 4)) == val ((zs 24).take 4)) = false := by kernel_rfl
  simpa using h1
theorem moreR : readS (bigB ++ [0]) = (0, 0, 0, [], 2) := by
  unfold readS
  rw [if_neg (by rw [List.length_append, bigB_len]; decide), if_pos (by rw [List.length_append, bigB_len]; decide)]
theorem moreB_ok : okB (bigB ++ [0]) = true := okB_mk (fun x hx => (List.mem_append.1 hx).elim (bigB_mem x) fun h => by simp at h; omega) (by rw [List.length_append, bigB_len]; decide)
theorem w257 : writeS 0 0 0 (zs 257) = ([], 2) := by unfold writeS; rw [if_pos (by rw [zs_len]; decide)]
def smallB : List Int := wrS 0 0 0 []
theorem smallW : writeS 0 0 0 [] = (smallB, 0) := writeS_small _ _ _ _ (by decide)
theorem smallB_len : smallB.length = 24 := by unfold smallB; rw [wrS_len]; rfl
theorem smallB_ok : okB smallB = true := wr_ok _ _ _ _ (by simp) (by decide)
theorem smallR : readS smallB = (0, 0, 0, [], 0) := back 0 0 0 [] (by decide) (by decide) (by decide) (by simp) (by decide)
end Go.Proofs.Ytmacmhlimdaemaa.Pkt
