/- PacketApart, the plain part, and its walk. -/
import Derived.Test.YtmacmhlimdaemaaPktBase
import Derived.Test.YtmacmhlimdaemaaRxApart
namespace Go.Proofs.Ytmacmhlimdaemaa.Pkt
open Go.RowKit Go.Proofs.Ytmacmhlimdaemaa.Ext Go.Proofs.Ytmacmhlimdaemaa.Crc Go.Proofs.YtmacmhlimdaemaaW.PrintWords Go.Proofs.YtmacmhlimdaemaaW.PrintMore Go.Proofs.Ytmacmhlimdaemaa.R
theorem same_tells (e o a e' o' a' : Nat) (d d' : List Int) (hd : ∀ x ∈ d, 0 ≤ x ∧ x < 256) (hd' : ∀ x ∈ d', 0 ≤ x ∧ x < 256) :
    vignetteref21_Same.f e o a d e' o' a' d' = some (decide (e = e' ∧ o = o' ∧ a = a' ∧ d = d')) := by
  unfold vignetteref21_Same.f
  by_cases h1 : e = e'
  · rw [if_pos (by rw [h1])]
    by_cases h2 : o = o'
    · rw [if_pos (by rw [h2])]
      by_cases h3 : a = a'
      · rw [if_pos (by rw [h3])]
        by_cases h4 : d = d'
        · subst h4; simp [h1, h2, h3]
        · have : ¬ (strOfNums d).toList = (strOfNums d').toList := fun h => h4 ((str_eq hd hd').1 h)
          simp [this, h4]
      · rw [if_neg (by omega)]; simp [h3]
    · rw [if_neg (by omega)]; simp [h2]
  · rw [if_neg (by omega)]; simp [h1]
theorem wr_inj (e o a e' o' a' : Nat) (d d' : List Int) (he : e < 4294967296) (ho : o < 18446744073709551616) (ha : a < 18446744073709551616) (hd : ∀ x ∈ d, 0 ≤ x ∧ x < 256) (hl : d.length ≤ 256)
    (he' : e' < 4294967296) (ho' : o' < 18446744073709551616) (ha' : a' < 18446744073709551616) (hd' : ∀ x ∈ d', 0 ≤ x ∧ x < 256) (hl' : d'.length ≤ 256) : wrS e o a d = wrS e' o' a' d' ↔ (e = e' ∧ o = o' ∧ a = a' ∧ d = d') := by
  constructor
  · intro h
    have h1 := back e o a d (by omega) (by omega) (by omega) hd hl
    have h2 := back e' o' a' d' (by omega) (by omega) (by omega) hd' hl'
    rw [h, h2] at h1
    simp only [Prod.mk.injEq, and_true] at h1
    obtain ⟨x1, x2, x3, x4⟩ := h1
    exact ⟨by omega, by omega, by omega, x4.symm⟩
  · rintro ⟨rfl, rfl, rfl, rfl⟩; rfl
theorem apart_law (e o a e' o' a' : Nat) (d d' : List Int) (he : e < 4294967296) (ho : o < 18446744073709551616) (ha : a < 18446744073709551616) (hd : ∀ x ∈ d, 0 ≤ x ∧ x < 256)
    (he' : e' < 4294967296) (ho' : o' < 18446744073709551616) (ha' : a' < 18446744073709551616) (hd' : ∀ x ∈ d', 0 ≤ x ∧ x < 256) :
    vignettelaw21_PacketApart.f 100 e o a d e' o' a' d' = some true := by
  unfold vignettelaw21_PacketApart.f
  by_cases h1 : (d.length : Int) > 256
  · rw [if_pos h1, vignettelaw21_PacketApart.j0, if_pos rfl, writes_at (by omega)]
    rfl
  · rw [if_neg h1, vignettelaw21_PacketApart.j0]
    by_cases h2 : (d'.length : Int) > 256
    · rw [if_pos (decide_eq_true h2), writes_at (by omega)]
      rfl
    · rw [if_neg (by rw [decide_eq_true_iff]; exact h2)]
      have hok : okB d = true := okB_mk hd (by omega)
      have hok' : okB d' = true := okB_mk hd' (by omega)
      rw [write_at e o a d he hok (by omega), write_at e' o' a' d' he' hok' (by omega), writeS_small e o a d h1, writeS_small e' o' a' d' h2]
      simp only [Option.bind_some]
      rw [if_pos trivial, if_pos trivial, same_tells _ _ _ _ _ _ _ _ hd hd']
      simp only [Option.bind_some]
      have hs := str_eq (wrS_mem e o a d hd) (wrS_mem e' o' a' d' hd')
      rw [wr_inj e o a e' o' a' d d' he ho ha hd (by omega) he' ho' ha' hd' (by omega)] at hs
      rw [if_pos ?_, writes_at (by omega)]
      · rfl
      · by_cases hsame : e = e' ∧ o = o' ∧ a = a' ∧ d = d'
        · rw [decide_eq_true hsame, beq_iff_eq.2 (hs.2 hsame)]
          rfl
        · rw [decide_eq_false hsame, beq_eq_false_iff_ne.2 (fun h => hsame (hs.1 h))]
          rfl
end Go.Proofs.Ytmacmhlimdaemaa.Pkt
