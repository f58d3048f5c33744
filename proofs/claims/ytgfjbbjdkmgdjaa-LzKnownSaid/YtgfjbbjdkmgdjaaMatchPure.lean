/- Tokens of bytes, as the program finds them: by chains of places that begin with the same three bytes. Plain. -/
import Derived.ProofKit
namespace Go.Proofs.Ytgfjbbjdkmgdjaa.Lz
structure Tok where
  byte : Nat
  len : Nat
  dist : Nat
def at_ (l : List Nat) (i : Nat) : Nat := l.getD i 0
/-- how many bytes from i on are as those from j on, at most k -/
def mN (l : List Nat) : Nat → Nat → Nat → Nat
  | 0, _, _ => 0
  | k + 1, i, j => if j < l.length ∧ at_ l i = at_ l j then mN l k (i + 1) (j + 1) + 1 else 0
def mlen (l : List Nat) (i j : Nat) : Nat := mN l 258 i j
def trip (l : List Nat) (i : Nat) : Nat × Nat × Nat := (at_ l i, at_ l (i + 1), at_ l (i + 2))
/-- the last place ahead of n that begins with these three bytes, and 1; 0: there is none -/
def lastF (l : List Nat) : Nat → Nat × Nat × Nat → Nat
  | 0, _ => 0
  | n + 1, k => if n + 3 ≤ l.length ∧ trip l n = k then n + 1 else lastF l n k
/-- the best repetition of a distance of at most D: its length and distance -/
def bestTo (l : List Nat) (a : Nat) : Nat → Nat × Nat
  | 0 => (0, 0)
  | D + 1 => if 3 ≤ mlen l (a - (D + 1)) a ∧ (bestTo l a D).1 < mlen l (a - (D + 1)) a then (mlen l (a - (D + 1)) a, D + 1) else bestTo l a D
def bestOf (l : List Nat) (a : Nat) : Nat × Nat := bestTo l a (min a 32768)
def tokOf (l : List Nat) (a : Nat) (b : Nat × Nat) : Tok := if b.1 = 0 then ⟨at_ l a, 0, 0⟩ else ⟨0, b.1, b.2⟩
def tokAt (l : List Nat) (a : Nat) : Tok := tokOf l a (bestOf l a)
def emit (l : List Nat) : Nat → Nat → List Tok
  | 0, _ => []
  | f + 1, a => if a < l.length then tokAt l a :: emit l f (a + max (tokAt l a).len 1) else []
def matchS (l : List Nat) : List Tok := emit l l.length 0

theorem mN_le (l : List Nat) : ∀ k i j, mN l k i j ≤ k := by
  intro k
  induction k with
  | zero => intro i j; simp [mN]
  | succ k ih =>
    intro i j
    rw [mN]
    split
    · have := ih (i + 1) (j + 1); omega
    · omega
theorem mN_end (l : List Nat) : ∀ k i j, j ≤ l.length → j + mN l k i j ≤ l.length := by
  intro k
  induction k with
  | zero => intro i j h; simp [mN, h]
  | succ k ih =>
    intro i j h
    rw [mN]
    split
    · rename_i hc
      have := ih (i + 1) (j + 1) (by omega)
      omega
    · omega
theorem mN_step (l : List Nat) (k i j : Nat) (h : j < l.length) (he : at_ l i = at_ l j) : mN l (k + 1) i j = mN l k (i + 1) (j + 1) + 1 := by rw [mN, if_pos ⟨h, he⟩]
theorem mN_stop (l : List Nat) (k i j : Nat) (h : ¬ (j < l.length ∧ at_ l i = at_ l j)) : mN l k i j = 0 := by
  cases k with
  | zero => rfl
  | succ k => rw [mN, if_neg h]
theorem mN_agree (l : List Nat) : ∀ k i j t, t < mN l k i j → j + t < l.length ∧ at_ l (i + t) = at_ l (j + t) := by
  intro k
  induction k with
  | zero => intro i j t h; simp [mN] at h
  | succ k ih =>
    intro i j t h
    rw [mN] at h
    split at h
    · rename_i hc
      cases t with
      | zero => exact hc
      | succ t =>
        have := ih (i + 1) (j + 1) t (by omega)
        rw [show i + 1 + t = i + (t + 1) by omega, show j + 1 + t = j + (t + 1) by omega] at this
        exact this
    · omega
theorem mN_three (l : List Nat) (k i j : Nat) (h : 3 ≤ mN l k i j) : j + 3 ≤ l.length ∧ trip l i = trip l j := by
  have h0 := mN_agree l k i j 0 (by omega)
  have h1 := mN_agree l k i j 1 (by omega)
  have h2 := mN_agree l k i j 2 (by omega)
  refine ⟨by omega, ?_⟩
  unfold trip
  simp only [Nat.add_zero] at h0
  rw [h0.2, h1.2, h2.2]
theorem lastF_le (l : List Nat) (k : Nat × Nat × Nat) : ∀ n, lastF l n k ≤ n := by
  intro n
  induction n with
  | zero => simp [lastF]
  | succ n ih => rw [lastF]; split <;> omega
theorem lastF_hit (l : List Nat) (k : Nat × Nat × Nat) : ∀ n p, lastF l n k = p + 1 → p < n ∧ p + 3 ≤ l.length ∧ trip l p = k ∧ ∀ j, p < j → j < n → j + 3 ≤ l.length → trip l j ≠ k := by
  intro n
  induction n with
  | zero => intro p h; simp [lastF] at h
  | succ n ih =>
    intro p h
    rw [lastF] at h
    split at h
    · rename_i hc
      obtain rfl : n = p := by omega
      exact ⟨by omega, hc.1, hc.2, fun j h1 h2 => by omega⟩
    · rename_i hc
      obtain ⟨h1, h2, h3, h4⟩ := ih p h
      refine ⟨by omega, h2, h3, fun j hj hn hl => ?_⟩
      by_cases e : j = n
      · subst e; exact fun ht => hc ⟨hl, ht⟩
      · exact h4 j hj (by omega) hl
theorem lastF_none (l : List Nat) (k : Nat × Nat × Nat) : ∀ n, lastF l n k = 0 → ∀ j, j < n → j + 3 ≤ l.length → trip l j ≠ k := by
  intro n
  induction n with
  | zero => intro _ j h; omega
  | succ n ih =>
    intro h j hj hl
    rw [lastF] at h
    split at h
    · omega
    · rename_i hc
      by_cases e : j = n
      · subst e; exact fun ht => hc ⟨hl, ht⟩
      · exact ih h j (by omega) hl
theorem lastF_succ_hit (l : List Nat) (n : Nat) (h : n + 3 ≤ l.length) (k : Nat × Nat × Nat) : lastF l (n + 1) k = if trip l n = k then n + 1 else lastF l n k := by
  rw [lastF]
  by_cases e : trip l n = k
  · rw [if_pos ⟨h, e⟩, if_pos e]
  · rw [if_neg (fun c => e c.2), if_neg e]
theorem lastF_succ_miss (l : List Nat) (n : Nat) (h : ¬ n + 3 ≤ l.length) (k : Nat × Nat × Nat) : lastF l (n + 1) k = lastF l n k := by rw [lastF, if_neg (fun c => h c.1)]
theorem bestTo_skip (l : List Nat) (a D : Nat) : ∀ e, (∀ d, D < d → d ≤ D + e → mlen l (a - d) a < 3 ∨ mlen l (a - d) a ≤ (bestTo l a D).1) → bestTo l a (D + e) = bestTo l a D := by
  intro e
  induction e with
  | zero => intro _; rfl
  | succ e ih =>
    intro h
    have h1 := ih (fun d h1 h2 => h d h1 (by omega))
    rw [← Nat.add_assoc, bestTo, h1, if_neg]
    intro hc
    rcases h (D + e + 1) (by omega) (by omega) with h2 | h2 <;> omega
theorem bestTo_len (l : List Nat) (a : Nat) : ∀ D, (bestTo l a D).1 ≤ 258 := by
  intro D
  induction D with
  | zero => simp [bestTo]
  | succ D ih =>
    rw [bestTo]
    split
    · exact mN_le l 258 _ _
    · exact ih
theorem bestTo_end (l : List Nat) (a : Nat) (h : a ≤ l.length) : ∀ D, a + (bestTo l a D).1 ≤ l.length := by
  intro D
  induction D with
  | zero => simp [bestTo, h]
  | succ D ih =>
    rw [bestTo]
    split
    · exact mN_end l 258 _ _ h
    · exact ih
theorem bestTo_dist (l : List Nat) (a : Nat) : ∀ D, (bestTo l a D).2 ≤ D ∧ ((bestTo l a D).1 ≠ 0 → 3 ≤ (bestTo l a D).1 ∧ 1 ≤ (bestTo l a D).2 ∧ (bestTo l a D).1 = mlen l (a - (bestTo l a D).2) a) := by
  intro D
  induction D with
  | zero => simp [bestTo]
  | succ D ih =>
    rw [bestTo]
    split
    · rename_i hc
      exact ⟨Nat.le_refl _, fun _ => ⟨hc.1, by show 1 ≤ D + 1; omega, rfl⟩⟩
    · exact ⟨by omega, ih.2⟩
/-- what trying one place does to the best one -/
def tryAt (l : List Nat) (a p : Nat) (b : Nat × Nat) : Nat × Nat := if 3 ≤ mlen l p a ∧ b.1 < mlen l p a then (mlen l p a, a - p) else b
theorem chain_step (l : List Nat) (a q p : Nat) (hq : q ≤ a) (h : lastF l q (trip l a) = p + 1) : tryAt l a p (bestTo l a (a - q)) = bestTo l a (a - p) := by
  obtain ⟨h1, h2, h3, h4⟩ := lastF_hit l _ q p h
  have hs : bestTo l a (a - q + (q - p - 1)) = bestTo l a (a - q) := bestTo_skip l a (a - q) _ (fun d hd1 hd2 => by
    left
    rcases Nat.lt_or_ge (mlen l (a - d) a) 3 with h | h
    · exact h
    · obtain ⟨hl, ht⟩ := mN_three l 258 (a - d) a h
      exact absurd ht (h4 (a - d) (by omega) (by omega) (by omega)))
  rw [show a - p = (a - q + (q - p - 1)) + 1 by omega, bestTo, hs, show a - (a - q + (q - p - 1) + 1) = p by omega]
  unfold tryAt
  rw [show a - p = a - q + (q - p - 1) + 1 by omega]
theorem chain_none (l : List Nat) (a q : Nat) (hq : q ≤ a) (hd : a - q ≤ 32768) (h : lastF l q (trip l a) = 0) : bestOf l a = bestTo l a (a - q) := by
  unfold bestOf
  have hs := bestTo_skip l a (a - q) (min a 32768 - (a - q)) (fun d hd1 hd2 => by
    left
    rcases Nat.lt_or_ge (mlen l (a - d) a) 3 with h' | h'
    · exact h'
    · obtain ⟨hl, ht⟩ := mN_three l 258 (a - d) a h'
      exact absurd ht (lastF_none l _ q h (a - d) (by omega) (by omega)))
  rw [← hs]
  congr 1
  omega
theorem chain_far (l : List Nat) (a q p : Nat) (hq : q ≤ a) (hd : a - q ≤ 32768) (h : lastF l q (trip l a) = p + 1) (hp : 32768 < a - p) : bestOf l a = bestTo l a (a - q) := by
  unfold bestOf
  obtain ⟨h1, h2, h3, h4⟩ := lastF_hit l _ q p h
  have hs := bestTo_skip l a (a - q) (min a 32768 - (a - q)) (fun d hd1 hd2 => by
    left
    rcases Nat.lt_or_ge (mlen l (a - d) a) 3 with h' | h'
    · exact h'
    · obtain ⟨hl, ht⟩ := mN_three l 258 (a - d) a h'
      exact absurd ht (h4 (a - d) (by omega) (by omega) (by omega)))
  rw [← hs]
  congr 1
  omega
theorem chain_full (l : List Nat) (a q : Nat) (hq : q ≤ a) (hd : a - q ≤ 32768) (h : 258 ≤ (bestTo l a (a - q)).1) : bestOf l a = bestTo l a (a - q) := by
  unfold bestOf
  have hs := bestTo_skip l a (a - q) (min a 32768 - (a - q)) (fun d _ _ => by
    right
    have := mN_le l 258 (a - d) a
    unfold mlen
    omega)
  rw [← hs]
  congr 1
  omega
theorem chain_short (l : List Nat) (a : Nat) (h : ¬ a + 3 ≤ l.length) : bestOf l a = (0, 0) := by
  unfold bestOf
  have hs := bestTo_skip l a 0 (min a 32768) (fun d _ _ => by
    left
    rcases Nat.lt_or_ge (mlen l (a - d) a) 3 with h' | h'
    · exact h'
    · exact absurd (mN_three l 258 (a - d) a h').1 h)
  rw [Nat.zero_add] at hs
  exact hs
theorem emit_end (l : List Nat) (f a : Nat) (h : ¬ a < l.length) : emit l f a = [] := by
  cases f with
  | zero => rfl
  | succ f => rw [emit, if_neg h]
theorem emit_step (l : List Nat) (f a : Nat) (h : a < l.length) : emit l (f + 1) a = tokAt l a :: emit l f (a + max (tokAt l a).len 1) := by rw [emit, if_pos h]
theorem tokAt_len (l : List Nat) (a : Nat) : (tokAt l a).len = (bestOf l a).1 := by
  unfold tokAt tokOf
  split
  · rename_i h; rw [h]
  · rfl
theorem tokAt_end (l : List Nat) (a : Nat) (h : a < l.length) : a + max (tokAt l a).len 1 ≤ l.length := by
  rw [tokAt_len]
  have := bestTo_end l a (by omega) (min a 32768)
  unfold bestOf
  omega
end Go.Proofs.Ytgfjbbjdkmgdjaa.Lz
