/- The reference's Match gives what the code's Match gives. -/
import Derived.Test.YtgfjbbjdkmgdjaaLx3
import Derived.Test.YtgfjbbjdkmgdjaaLzEv
namespace Go.Proofs.Ytgfjbbjdkmgdjaa.L
open Go.RowKit Go.Proofs.YtgfjbbjdkmgdjaaW.PrintWords Go.Proofs.Ytgfjbbjdkmgdjaa.Lz Ext
theorem refm_l0 (l : List Int) (hl : okM l = true) (a D : Nat) (h1 : 1 ≤ D) (hD : D ≤ a) (ha : a ≤ l.length) (d : Nat) : ∀ (k t : Nat), t + d = 258 →
    vignetteref07_match.l0 (k + d + 1) l (a : Int) (D : Int) (t : Int) = some (((t + mN (nat l) d (a - D + t) (a + t) : Nat) : Int)) := by
  have hlen := okM_len hl
  induction d with
  | zero =>
    intro k t ht
    rw [vignetteref07_match.l0, if_neg (by omega)]
    rfl
  | succ d ih =>
    intro k t ht
    rw [show k + (d + 1) + 1 = (k + d + 1) + 1 by omega, vignetteref07_match.l0, if_pos (by omega), w64 (x := (a : Int) + (t : Int)) (by omega) (by omega)]
    by_cases h1 : a + t < l.length
    · rw [if_pos (by omega), w64 (x := (a : Int) + (t : Int) - (D : Int)) (by omega) (by omega), if_pos (by omega), if_pos (by omega), if_pos (by omega), show (a : Int) + (t : Int) - (D : Int) = ((a - D + t : Nat) : Int) by omega, show (a : Int) + (t : Int) = ((a + t : Nat) : Int) by omega,
        rd_at l hl (a + t) h1, rd_at l hl (a - D + t) (by omega)]
      by_cases h2 : at_ (nat l) (a - D + t) = at_ (nat l) (a + t)
      · rw [if_pos (by rw [h2]), w64 (by omega) (by omega), mN_step _ _ _ _ (by rw [nat_length]; exact h1) h2]
        have := ih k (t + 1) (by omega)
        rw [show ((t + 1 : Nat) : Int) = (t : Int) + 1 by omega] at this
        rw [this, show a - D + t + 1 = a - D + (t + 1) by omega, show a + t + 1 = a + (t + 1) by omega]
        generalize mN (nat l) d (a - D + (t + 1)) (a + (t + 1)) = z
        rw [show t + 1 + z = t + (z + 1) by omega]
      · rw [if_neg (by omega), mN_stop _ _ _ _ (fun c => h2 c.2)]
        rfl
    · rw [if_neg (by omega), mN_stop _ _ _ _ (fun c => h1 (by rw [nat_length] at c; exact c.1))]
      rfl
theorem refm_is (l : List Int) (hl : okM l = true) (a D : Nat) (h1 : 1 ≤ D) (hD : D ≤ a) (ha : a ≤ l.length) (k : Nat) (hk : 259 ≤ k) : vignetteref07_match.f k l (a : Int) (D : Int) = some ((mlen (nat l) (a - D) a : Nat) : Int) := by
  have := refm_l0 l hl a D h1 hD ha 258 (k - 259) 0 (by omega)
  rw [show k - 259 + 258 + 1 = k by omega] at this
  simp only [Nat.zero_add, Nat.add_zero] at this
  exact this
/-- the reference's best so far -/
def rOf (l : List Nat) (a : Nat) : Nat → Nat × Nat
  | 0 => (0, 0)
  | D + 1 => if (rOf l a D).1 < mlen l (a - (D + 1)) a then (mlen l (a - (D + 1)) a, D + 1) else rOf l a D
theorem rOf_best (l : List Nat) (a : Nat) : ∀ D, (3 ≤ (rOf l a D).1 ∧ bestTo l a D = rOf l a D) ∨ ((rOf l a D).1 < 3 ∧ bestTo l a D = (0, 0))
  | 0 => .inr ⟨by simp [rOf], rfl⟩
  | D + 1 => by
    have ih := rOf_best l a D
    rw [rOf, bestTo]
    obtain ⟨m, hm⟩ : ∃ m, mlen l (a - (D + 1)) a = m := ⟨_, rfl⟩
    rw [hm]
    rcases ih with ⟨h3, hb⟩ | ⟨h3, hb⟩
    · rw [hb]
      by_cases h : (rOf l a D).1 < m
      · rw [if_pos h, if_pos ⟨by omega, h⟩]; exact .inl ⟨by simp only; omega, rfl⟩
      · rw [if_neg h, if_neg (fun c => h c.2)]; exact .inl ⟨h3, rfl⟩
    · rw [hb]
      by_cases h : 3 ≤ m
      · rw [if_pos (by omega), if_pos ⟨h, by simp only; omega⟩]; exact .inl ⟨h, rfl⟩
      · rw [if_neg (show ¬ (3 ≤ m ∧ ((0, 0) : Nat × Nat).1 < m) from fun c => h c.1)]
        by_cases h' : (rOf l a D).1 < m
        · rw [if_pos h']; exact .inr ⟨by simp only; omega, rfl⟩
        · rw [if_neg h']; exact .inr ⟨h3, rfl⟩
theorem rOf_tok (l : List Nat) (a : Nat) : (3 ≤ (rOf l a (min a 32768)).1 → tokAt l a = ⟨0, (rOf l a (min a 32768)).1, (rOf l a (min a 32768)).2⟩) ∧ ((rOf l a (min a 32768)).1 < 3 → tokAt l a = ⟨at_ l a, 0, 0⟩) := by
  have h := rOf_best l a (min a 32768)
  unfold tokAt tokOf bestOf
  rcases h with ⟨h3, hb⟩ | ⟨h3, hb⟩
  · rw [hb]
    exact ⟨fun _ => by rw [if_neg (by omega)], fun h => by omega⟩
  · rw [hb]
    exact ⟨fun h => by omega, fun _ => by rw [if_pos rfl]⟩
/-- one step of the reference's outer loop: what comes after the search -/
def After (l : List Int) (ts : List S26) (a : Nat) (r : List S26) (b : Nat × Nat) : Prop :=
  Ev (fun k => vignetteref07_Match.j2 k l ts (a : Int) (b.1 : Int) (b.2 : Int) 0 false) r
theorem ref_l1 (l : List Int) (hl : okM l = true) (a : Nat) (ha : a < l.length) (ts r : List S26) (hj : ∀ x : Int, Ev (fun k => vignetteref07_Match.j2 k l ts (a : Int) ((rOf (nat l) a (min a 32768)).1 : Int) ((rOf (nat l) a (min a 32768)).2 : Int) x false) r) :
    ∀ e D, D + e = min a 32768 → Ev (fun k => vignetteref07_Match.l1 k l ts (a : Int) ((rOf (nat l) a D).1 : Int) ((rOf (nat l) a D).2 : Int) ((D + 1 : Nat) : Int)) r
  | 0, D, hD => by
    have hlen := okM_len hl
    obtain rfl : D = min a 32768 := by omega
    refine (hj ((min a 32768 + 1 : Nat) : Int)).step fun k hk => ?_
    rw [vignetteref07_Match.l1]
    by_cases h : min a 32768 + 1 ≤ 32768
    · rw [if_pos (by omega), show decide (((min a 32768 + 1 : Nat) : Int) ≤ (a : Int)) = false from decide_eq_false (by omega)]
      exact hk
    · rw [if_neg (by omega)]
      exact hk
  | e + 1, D, hD => by
    have hlen := okM_len hl
    have ih := ref_l1 l hl a ha ts r hj e (D + 1) (by omega)
    obtain ⟨N, ih⟩ := ih
    refine ⟨N + 262, fun k hk => ?_⟩
    obtain ⟨m, rfl⟩ : ∃ m, k = m + 2 := ⟨k - 2, by omega⟩
    have ih' := ih m (by omega)
    show vignetteref07_Match.l1 (m + 1 + 1) _ _ _ _ _ _ = _
    rw [vignetteref07_Match.l1, if_pos (by omega), show decide (((D + 1 : Nat) : Int) ≤ (a : Int)) = true from decide_eq_true (by omega), vignetteref07_Match.j2, if_pos rfl,
      refm_is l hl a (D + 1) (by omega) (by omega) (by omega) m (by omega), Option.bind_some, w64 (by omega) (by omega), show ((D + 1 : Nat) : Int) + 1 = ((D + 1 + 1 : Nat) : Int) by omega]
    simp only [rOf] at ih'
    by_cases h : (rOf (nat l) a D).1 < mlen (nat l) (a - (D + 1)) a
    · rw [if_pos (by omega)]
      rw [if_pos h] at ih'
      exact ih'
    · rw [if_neg (by omega)]
      rw [if_neg h] at ih'
      exact ih'
theorem ref_l0 (l : List Int) (hl : okM l = true) : ∀ d a, l.length - a ≤ d → a ≤ l.length → ∀ ts : List S26, ts.length ≤ a →
    Ev (fun k => vignetteref07_Match.l0 k l ts (a : Int)) (ts ++ (emit (nat l) (l.length - a) a).map tokS) := by
  have hlen := okM_len hl
  intro d
  induction d with
  | zero =>
    intro a hd ha ts hts
    refine ⟨1, fun k hk => ?_⟩
    obtain ⟨m, rfl⟩ : ∃ m, k = m + 1 := ⟨k - 1, by omega⟩
    show vignetteref07_Match.l0 (m + 1) _ _ _ = _
    rw [vignetteref07_Match.l0, if_neg (by omega), emit_end _ _ _ (by rw [nat_length]; omega)]
    simp
  | succ d ih =>
    intro a hd ha ts hts
    by_cases hlt : a < l.length
    · have hgo : emit (nat l) (l.length - a) a = tokAt (nat l) a :: emit (nat l) (l.length - (a + max (tokAt (nat l) a).len 1)) (a + max (tokAt (nat l) a).len 1) := by
        have := emit_go (nat l) (l.length - a) a (by rw [nat_length]; exact hlt) (by rw [nat_length]; exact Nat.le_refl _)
        rwa [nat_length] at this
      have hend := tokAt_end (nat l) a (by rw [nat_length]; exact hlt)
      rw [nat_length] at hend
      obtain ⟨h3, hs⟩ := rOf_tok (nat l) a
      have ih2 := ih (a + max (tokAt (nat l) a).len 1) (by omega) (by omega) (ts ++ [tokS (tokAt (nat l) a)]) (by simp; omega)
      rw [hgo, List.map_cons, ← List.singleton_append, ← List.append_assoc]
      obtain ⟨rr, hrr⟩ : ∃ rr, ts ++ [tokS (tokAt (nat l) a)] ++ (emit (nat l) (l.length - (a + max (tokAt (nat l) a).len 1)) (a + max (tokAt (nat l) a).len 1)).map tokS = rr := ⟨_, rfl⟩
      rw [hrr] at ih2 ⊢
      clear hrr hgo
      have hj : ∀ x : Int, Ev (fun k => vignetteref07_Match.j2 k l ts (a : Int) ((rOf (nat l) a (min a 32768)).1 : Int) ((rOf (nat l) a (min a 32768)).2 : Int) x false) rr := by
        intro x
        refine ih2.step fun k hk => ?_
        rw [vignetteref07_Match.j2, if_neg (by simp)]
        by_cases h : 3 ≤ (rOf (nat l) a (min a 32768)).1
        · have ht := h3 h
          rw [ht] at hk hend
          have hmx : max (rOf (nat l) a (min a 32768)).1 1 = (rOf (nat l) a (min a 32768)).1 := by omega
          simp only [hmx] at hk hend
          rw [if_pos (by omega), if_pos (by omega), w64 (by omega) (by omega), show (a : Int) + ((rOf (nat l) a (min a 32768)).1 : Int) = ((a + (rOf (nat l) a (min a 32768)).1 : Nat) : Int) by omega]
          exact hk
        · have ht := hs (by omega)
          rw [ht] at hk
          rw [if_neg (by omega), if_pos (by omega), if_pos (by omega), if_pos (by omega), w64 (by omega) (by omega), rd_at l hl a hlt]
          exact hk
      refine (ref_l1 l hl a hlt ts rr hj (min a 32768) 0 (by omega)).step fun k hk => ?_
      rw [vignetteref07_Match.l0, if_pos (by omega)]
      exact hk
    · refine ⟨1, fun k hk => ?_⟩
      obtain ⟨m, rfl⟩ : ∃ m, k = m + 1 := ⟨k - 1, by omega⟩
      show vignetteref07_Match.l0 (m + 1) _ _ _ = _
      rw [vignetteref07_Match.l0, if_neg (by omega), emit_end _ _ _ (by rw [nat_length]; omega)]
      simp
theorem ref_match (l : List Int) (hl : okM l = true) : Ev (fun k => vignetteref07_Match.f k l) ((matchS (nat l)).map tokS) := by
  have := ref_l0 l hl l.length 0 (by omega) (by omega) [] (by simp)
  simp only [Nat.sub_zero, List.nil_append] at this
  unfold matchS
  rw [nat_length]
  exact this
end Go.Proofs.Ytgfjbbjdkmgdjaa.L
