/- A token: a byte, or the longest repetition, the nearest among the longest. -/
import Derived.Test.YtgfjbbjdkmgdjaaLzEv
namespace Go.Proofs.Ytgfjbbjdkmgdjaa.Lz
theorem bestTo_first (l : List Nat) (a : Nat) : ∀ E d, 1 ≤ d → d ≤ E → (3 ≤ mlen l (a - d) a → mlen l (a - d) a ≤ (bestTo l a E).1) ∧ (d < (bestTo l a E).2 → 3 ≤ mlen l (a - d) a → mlen l (a - d) a < (bestTo l a E).1)
  | 0, d, h1, h2 => by omega
  | E + 1, d, h1, h2 => by
    have hd := (bestTo_dist l a E).1
    rw [bestTo]
    by_cases h : 3 ≤ mlen l (a - (E + 1)) a ∧ (bestTo l a E).1 < mlen l (a - (E + 1)) a
    · rw [if_pos h]
      by_cases e : d = E + 1
      · subst e
        exact ⟨fun _ => Nat.le_refl _, fun c => absurd c (Nat.lt_irrefl _)⟩
      · have ih := bestTo_first l a E d h1 (by omega)
        refine ⟨fun c => ?_, fun _ c => ?_⟩
        · exact Nat.le_of_lt (Nat.lt_of_le_of_lt (ih.1 c) h.2)
        · exact Nat.lt_of_le_of_lt (ih.1 c) h.2
    · rw [if_neg h]
      by_cases e : d = E + 1
      · subst e
        refine ⟨fun c => ?_, fun c => by omega⟩
        rcases Nat.lt_or_ge (bestTo l a E).1 (mlen l (a - (E + 1)) a) with h' | h'
        · exact absurd ⟨c, h'⟩ h
        · exact h'
      · exact bestTo_first l a E d h1 (by omega)
theorem tok_cases (l : List Nat) (a : Nat) (h : a < l.length) :
    (tokAt l a = ⟨at_ l a, 0, 0⟩ ∧ ∀ d, 1 ≤ d → d ≤ a → d ≤ 32768 → mlen l (a - d) a < 3) ∨
    ∃ m D, tokAt l a = ⟨0, m, D⟩ ∧ 3 ≤ m ∧ m ≤ 258 ∧ 1 ≤ D ∧ D ≤ a ∧ D ≤ 32768 ∧ m = mlen l (a - D) a ∧ a + m ≤ l.length ∧ ∀ d, 1 ≤ d → d < D → mlen l (a - d) a < m := by
  obtain ⟨hd1, hd2⟩ := bestTo_dist l a (min a 32768)
  have hf := bestTo_first l a (min a 32768)
  have he := bestTo_end l a (Nat.le_of_lt h) (min a 32768)
  have hl := bestTo_len l a (min a 32768)
  unfold tokAt tokOf bestOf
  obtain ⟨b, hb⟩ : ∃ b, bestTo l a (min a 32768) = b := ⟨_, rfl⟩
  rw [hb] at hd1 hd2 hf he hl ⊢
  obtain ⟨m, D⟩ := b
  simp only at hd1 hd2 hf he hl ⊢
  by_cases hm : m = 0
  · left
    subst hm
    refine ⟨if_pos rfl, fun d h1 h2 h3 => ?_⟩
    have := (hf d h1 (by omega)).1
    omega
  · right
    obtain ⟨h3, h4, h5⟩ := hd2 hm
    refine ⟨m, D, if_neg hm, h3, hl, h4, by omega, by omega, h5, he, fun d h1 h2 => ?_⟩
    have := (hf d h1 (by omega)).2 h2
    omega
end Go.Proofs.Ytgfjbbjdkmgdjaa.Lz
namespace Go.Proofs.Ytgfjbbjdkmgdjaa.L
open Go.RowKit Go.Proofs.YtgfjbbjdkmgdjaaW.PrintWords Go.Proofs.Ytgfjbbjdkmgdjaa.Lz Ext
theorem matchS_len (l : List Nat) : (matchS l).length ≤ l.length := by
  have h : ∀ f a, a ≤ l.length → (emit l f a).length ≤ l.length - a := by
    intro f
    induction f with
    | zero => intro a _; simp [emit]
    | succ f ih =>
      intro a ha
      by_cases h : a < l.length
      · rw [emit_step l f a h, List.length_cons]
        have := tokAt_end l a h
        have := ih _ this
        omega
      · rw [emit_end l _ a h]; simp
  exact h _ _ (Nat.zero_le _)
/-- the tokens from place a on -/
def Rest (l : List Int) (T : List S26) (i a : Nat) : Prop := i + ((emit (nat l) (l.length - a) a).map tokS).length = T.length ∧ T.drop i = (emit (nat l) (l.length - a) a).map tokS
theorem Rest.start (l : List Int) : Rest l ((matchS (nat l)).map tokS) 0 0 := by
  unfold Rest matchS
  rw [nat_length]
  simp
theorem Rest.stop {l : List Int} {T : List S26} {i : Nat} (h : Rest l T i l.length) : i = T.length := by
  have := h.1
  rw [emit_end _ _ _ (by rw [nat_length]; omega)] at this
  simpa using this
theorem Rest.go {l : List Int} {T : List S26} {i a : Nat} (h : Rest l T i a) (ha : a < l.length) : i < T.length ∧ rd_T26 T (i : Int) = tokS (tokAt (nat l) a) ∧ Rest l T (i + 1) (a + max (tokAt (nat l) a).len 1) := by
  have hgo : emit (nat l) (l.length - a) a = tokAt (nat l) a :: emit (nat l) (l.length - (a + max (tokAt (nat l) a).len 1)) (a + max (tokAt (nat l) a).len 1) := by
    have := emit_go (nat l) (l.length - a) a (by rw [nat_length]; exact ha) (by rw [nat_length]; exact Nat.le_refl _)
    rwa [nat_length] at this
  obtain ⟨h1, h2⟩ := h
  rw [hgo, List.map_cons] at h1 h2
  rw [List.length_cons] at h1
  have hi : i < T.length := by omega
  refine ⟨hi, ?_, by omega, ?_⟩
  · rw [List.drop_eq_getElem_cons hi] at h2
    injection h2 with h2
    unfold rd_T26
    rw [Int.toNat_natCast, List.getD_eq_getElem?_getD, List.getElem?_eq_getElem hi, Option.getD_some, h2]
  · rw [List.drop_eq_getElem_cons hi] at h2
    injection h2
end Go.Proofs.Ytgfjbbjdkmgdjaa.L
