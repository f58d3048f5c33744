/- PacketReads, the plain part: every Read answers as the document says, of any bytes, and with a right sum put ahead. No condition beyond the row's own. -/
import Derived.Test.YtmacmhlimdaemaaPktLaws
import Derived.Test.YtmacmhlimdaemaaRx10
namespace Go.Proofs.Ytmacmhlimdaemaa.Pure
open Go.RowKit Go.Proofs.Ytmacmhlimdaemaa.Ext Go.Proofs.Ytmacmhlimdaemaa.Crc Go.Proofs.Ytmacmhlimdaemaa.Pkt Go.Proofs.YtmacmhlimdaemaaW.PrintWords Go.Proofs.YtmacmhlimdaemaaW.PrintMore Go.Proofs.Ytmacmhlimdaemaa.R
theorem reads_l0 (x0 : List Int) (hx : okB x0 = true) (hlen : x0.length ≤ 2000) (r0 r1 r2 : Int) (d : Nat) : ∀ (j i : Nat) (lst : List Int), i + d = lst.length → lst.length < 100000 → 27 ≤ j →
    vignettelaw21_PacketReads.l0 (j + d + 1) x0 x0 (i : Int) r0 r1 r2 lst = some true := by
  induction d with
  | zero =>
    intro j i lst hi hl hj
    rw [vignettelaw21_PacketReads.l0]
    have hs := sum_lt32 x0 hx
    rw [if_neg (by omega)]
    unfold vignetteref20_Sum.f
    rw [sumF_ok hx]
    simp only [Option.bind_some]
    rw [u64w _ (by omega) (by omega), show (4 : Int) = ((4 : Nat) : Int) from rfl]
    obtain ⟨j, rfl⟩ : ∃ m, j = m + 9 := ⟨j - 9, by omega⟩
    have hn := number_spec (sum (nat x0)) 4 (by omega) (by omega) j
    have hy : okB (be 4 (sum (nat x0)) ++ x0) = true := okB_mk (okB_append (be_mem _ _) (okB_mem hx)) (by simp only [List.length_append, be_len]; omega)
    rw [hn]
    simp only [Option.bind_some]
    rw [if_pos (by rw [be_len]; omega), read_at _ hy hj, refRead_at _ hy hj]
    simp only [Option.bind_some]
    rw [if_pos trivial, same_self]
    simp only [Option.bind_some]
    rw [if_pos trivial, if_pos trivial, writes_at hj]
    rfl
  | succ d ih =>
    intro j i lst hi hl hj
    rw [show j + (d + 1) + 1 = (j + d + 1) + 1 by omega, vignettelaw21_PacketReads.l0]
    rw [if_pos (by omega), if_pos (by omega), w64 (by omega) (by omega)]
    exact ih j (i + 1) _ (by rw [List.length_set]; omega) (by rw [List.length_set]; omega) hj
theorem PacketReads : vignettelaw21_PacketReads.Pure := by
  intro l hm hb hw
  have hd : ∀ x ∈ l, 0 ≤ x ∧ x < 256 := fun x hx => by have := hw x hx; simp [Lit.wf, IntKind.min, IntKind.max, IntKind.signed, IntKind.bits] at this; omega
  refine ⟨1000, ?_⟩
  unfold vignettelaw21_PacketReads.f
  by_cases h : (l.length : Int) > 2000
  · rw [if_pos h]
  · have hok : okB l = true := okB_mk hd (by omega)
    rw [if_neg h, if_pos (by simp only [List.length_nil]; omega)]
    simp only [Option.bind_some, List.nil_append]
    rw [read_at l hok (by omega), refRead_at l hok (by omega)]
    simp only [Option.bind_some]
    rw [same_self]
    simp only [Option.bind_some]
    rw [if_pos trivial, if_pos trivial, show ((strOfNums l).toList != (strOfNums l).toList) = false by simp, vignettelaw21_PacketReads.j0, if_neg (by decide)]
    have hr : (readS l).2.2.2.1.length ≤ 256 := by
      unfold readS
      split
      · simp
      · split
        · simp
        · split
          · simp only [List.length_drop]; omega
          · simp
    have := reads_l0 l hok (by omega) (readS l).1 (readS l).2.1 (readS l).2.2.1 (readS l).2.2.2.1.length (998 - (readS l).2.2.2.1.length) 0 (readS l).2.2.2.1 (by omega) (by omega) (by omega)
    rwa [show 998 - (readS l).2.2.2.1.length + (readS l).2.2.2.1.length + 1 = 999 by omega] at this
end Go.Proofs.Ytmacmhlimdaemaa.Pure
