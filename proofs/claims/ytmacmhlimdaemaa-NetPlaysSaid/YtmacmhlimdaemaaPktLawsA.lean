/- The example that each law of packets holds, and what the functions answer with rounds enough. -/
import Derived.Test.YtmacmhlimdaemaaPktSpecA
import Derived.Test.YtmacmhlimdaemaaPktBits
import Derived.Test.YtmacmhlimdaemaaRxRead
namespace Go.Proofs.Ytmacmhlimdaemaa.Pkt
open Go.RowKit Go.Proofs.Ytmacmhlimdaemaa.Ext Go.Proofs.Ytmacmhlimdaemaa.Crc Go.Proofs.YtmacmhlimdaemaaW.PrintWords Go.Proofs.YtmacmhlimdaemaaW.PrintMore Go.Proofs.Ytmacmhlimdaemaa.R
theorem wr_one : (strOfNums (bodyS 1 2 3 [97])).toList = ([0, 0, 0, 1, 0, 0, 0, 0, 0, 0, 0, 2, 0, 0, 0, 0, 0, 0, 0, 3, 97] : List UInt8) := by
  rw [Lib.toList_data, strOfNums_data]
  decide
theorem writes_spec (j : Nat) : vignettelaw21_writes.f (j + 27) = some true := by
  unfold vignettelaw21_writes.f
  have hd : okB [97] = true := by decide
  have hw := write_spec 1 2 3 [97] (by omega) hd j
  have hs : writeS 1 2 3 [97] = (wrS 1 2 3 [97], 0) := by unfold writeS; rw [if_neg (by simp)]
  rw [hs] at hw
  have hm := wrS_mem 1 2 3 [97] (okB_mem hd)
  have hl := wrS_len 1 2 3 [97]
  have hok : okB (wrS 1 2 3 [97]) = true := okB_mk hm (by rw [hl]; simp)
  have hr := read_spec (wrS 1 2 3 [97]) hok (j + 18)
  rw [back 1 2 3 [97] (by decide) (by decide) (by decide) (okB_mem hd) (by simp)] at hr
  have hw' : packet_Write.f (j + 27) 1 2 3 [97] = some (wrS 1 2 3 [97], 0) := hw
  rw [hw']
  simp only [Option.bind_some]
  rw [show j + 27 = j + 18 + 9 by omega, hr]
  simp only [Option.bind_some]
  rw [if_pos trivial, if_pos (by rw [hl]; simp), if_pos (by rw [hl]; simp), wrS_drop, if_pos wr_one]
  simp only [Int.natCast_one, if_true, show ((2 : Nat) : Int) = 2 from rfl, show ((3 : Nat) : Int) = 3 from rfl]
  rw [Lib.toList_data, strOfNums_data]
  decide
theorem writes_at {k : Nat} (h : 27 ≤ k) : vignettelaw21_writes.f k = some true := by
  obtain ⟨j, rfl⟩ : ∃ j, k = j + 27 := ⟨k - 27, by omega⟩
  exact writes_spec j
theorem read_at (l : List Int) (hl : okB l = true) {k : Nat} (h : 27 ≤ k) : packet_Read.f k l = some (readS l) := by
  obtain ⟨j, rfl⟩ : ∃ j, k = j + 9 := ⟨k - 9, by omega⟩
  exact read_spec l hl j
theorem write_at (e o a : Nat) (d : List Int) (he : e < 4294967296) (hd : okB d = true) {k : Nat} (h : 27 ≤ k) : packet_Write.f k e o a d = some (writeS e o a d) := by
  obtain ⟨j, rfl⟩ : ∃ j, k = j + 27 := ⟨k - 27, by omega⟩
  exact write_spec e o a d he hd j
theorem same_self (e o a : Int) (d : List Int) : vignetteref21_Same.f e o a d e o a d = some true := by
  unfold vignetteref21_Same.f
  simp
end Go.Proofs.Ytmacmhlimdaemaa.Pkt
