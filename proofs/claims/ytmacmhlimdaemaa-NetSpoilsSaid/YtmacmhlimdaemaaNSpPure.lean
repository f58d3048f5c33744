/- One byte spoilt: the plain part. -/
import Derived.Test.YtmacmhlimdaemaaNSpoilAny
namespace Go.Proofs.Ytmacmhlimdaemaa.Net
open Go.RowKit Go.Proofs.Ytmacmhlimdaemaa.Ext Go.Proofs.Ytmacmhlimdaemaa.Crc Go.Proofs.YtmacmhlimdaemaaW.PrintWords Go.Proofs.YtmacmhlimdaemaaW.PrintMore Go.Proofs.Ytmacmhlimdaemaa.R Go.Proofs.Ytmacmhlimdaemaa.Pkt
theorem sp_form (b : List Int) (hb : okB b = true) (t : Nat) (ht : t < b.length) (y : Int) (hy : 0 ≤ y ∧ y < 256) : spB b t y = b.set t (((nat b)[t]'(by rw [nat_length]; exact ht) ^^^ y.toNat : Nat) : Int) := by
  unfold spB
  have hx := okB_mem hb _ (List.getElem_mem ht)
  rw [List.getElem?_eq_getElem ht, Option.getD_some, u8_xor _ _ hx.1 hx.2 hy.1 hy.2]
  simp [nat]
theorem sp_twice (b : List Int) (hb : okB b = true) (t : Nat) (ht : t < b.length) (y : Int) (hy : 0 ≤ y ∧ y < 256) : spB (spB b t y) t y = b := by
  have hlen : (spB b t y).length = b.length := by unfold spB; rw [List.length_set]
  have h1 := sp_form b hb t ht y hy
  have h2 := sp_form (spB b t y) (sp_ok b t y hb ht hy) t (by rw [hlen]; exact ht) y hy
  rw [h2]
  have hnat : (nat (spB b t y))[t]'(by rw [nat_length, hlen]; exact ht) = (nat b)[t]'(by rw [nat_length]; exact ht) ^^^ y.toNat := by
    simp only [h1, nat_set, List.getElem_set_self]
  rw [hnat, Nat.xor_assoc, Nat.xor_self, Nat.xor_zero, h1, List.set_set]
  have hx := okB_mem hb _ (List.getElem_mem ht)
  have he : (((nat b)[t]'(by rw [nat_length]; exact ht) : Nat) : Int) = b[t] := by simp [nat]; omega
  rw [he, List.set_getElem_self]
theorem sp_num (b : List Int) (hb : okB b = true) (t : Nat) (ht : t < b.length) (y : Int) (hy : 0 ≤ y ∧ y < 256) : num (nat b) ^^^ num (nat (spB b t y)) = y.toNat <<< (8 * t) := by
  rw [sp_form b hb t ht y hy, nat_set, num_set _ _ _ (by rw [nat_length]; exact ht), ← Nat.xor_assoc, Nat.xor_self, Nat.zero_xor]
theorem sp_bad (b : List Int) (hb : okB b = true) (h24 : 24 ≤ b.length) (h280 : b.length ≤ 280) (hg : Pkt.Good b) (t : Nat) (ht : t < b.length) (y : Int) (hy : 0 < y ∧ y < 256) : readS (spB b t y) = (0, 0, 0, [], 210) := by
  have hlen : (spB b t y).length = b.length := by unfold spB; rw [List.length_set]
  have hn := sp_num b hb t ht y ⟨by omega, hy.2⟩
  refine read_bad _ (by omega) (by omega) (spoilt b _ hb (sp_ok b t y hb ht ⟨by omega, hy.2⟩) hlen h24 hg.1 y.toNat (8 * t) (by omega) (by omega) hn ?_ ?_)
  · by_cases h0 : t = 0
    · exact .inl (by omega)
    · by_cases h4 : 4 ≤ t
      · exact .inr (.inl (by omega))
      · refine .inr (.inr ?_)
        rw [Nat.shiftLeft_eq]
        have hp : 2 ^ (8 * t) ≤ 2 ^ 24 := Nat.pow_le_pow_right (by omega) (by omega)
        have : y.toNat * 2 ^ (8 * t) ≤ 255 * 2 ^ 24 := Nat.mul_le_mul (by omega) hp
        omega
  · intro h
    rw [h, Nat.xor_self, Nat.shiftLeft_eq] at hn
    have hpos : 0 < y.toNat * 2 ^ (8 * t) := Nat.mul_pos (by omega) (Nat.pos_of_ne_zero (by simp))
    omega
theorem write_big (e o a : Nat) (d : List Int) (h : ¬ d.length ≤ 256) : (writeS e o a d).2 = 2 ∧ (writeS e o a d).1 = [] := by unfold writeS; rw [if_pos (by omega)]; exact ⟨rfl, rfl⟩
end Go.Proofs.Ytmacmhlimdaemaa.Net
