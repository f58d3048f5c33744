/- LzTwice: the plain law. -/
import Derived.Test.YtgfjbbjdkmgdjaaLx10
import Derived.Test.YtgfjbbjdkmgdjaaTokCases
namespace Go.Proofs.Ytgfjbbjdkmgdjaa.L
open Go.RowKit Go.Proofs.YtgfjbbjdkmgdjaaW.PrintWords Go.Proofs.Ytgfjbbjdkmgdjaa.Lz Ext
theorem mN_ge (l : List Nat) : ∀ k i j e, e ≤ k → (∀ t, t < e → j + t < l.length ∧ at_ l (i + t) = at_ l (j + t)) → e ≤ mN l k i j
  | k, i, j, 0, _, _ => Nat.zero_le _
  | 0, i, j, e + 1, h, _ => by omega
  | k + 1, i, j, e + 1, h, ht => by
    have h0 := ht 0 (by omega)
    rw [mN_step l k i j h0.1 h0.2]
    have := mN_ge l k (i + 1) (j + 1) e (by omega) (fun t hlt => by
      have := ht (t + 1) (by omega)
      rw [show i + 1 + t = i + (t + 1) by omega, show j + 1 + t = j + (t + 1) by omega]
      exact this)
    omega
theorem at_twice (l : List Nat) (t : Nat) (h : t < l.length) : at_ (l ++ l) (l.length + t) = at_ (l ++ l) t := by
  unfold at_
  rw [List.getD_eq_getElem?_getD, List.getD_eq_getElem?_getD, List.getElem?_append_right (by omega), List.getElem?_append_left h]
  congr 2
  omega
/-- in the second half a byte alone stands only at the last two places -/
theorem twice_lit (l : List Nat) (h6 : l.length ≤ 600) (a : Nat) (h1 : l.length ≤ a) (h2 : a < (l ++ l).length) (ht : tokAt (l ++ l) a = ⟨at_ (l ++ l) a, 0, 0⟩) : 2 * l.length ≤ a + 2 := by
  rw [List.length_append] at h2
  rcases tok_cases (l ++ l) a (by rw [List.length_append]; exact h2) with ⟨_, hno⟩ | ⟨m, D, ht', h3, _⟩
  · rcases Nat.lt_or_ge (a + 2) (2 * l.length) with h | h
    · have := hno l.length (by omega) h1 (by omega)
      have := mN_ge (l ++ l) 258 (a - l.length) a 3 (by omega) (fun t hlt => ⟨by rw [List.length_append]; omega, by
        rw [show a + t = l.length + (a - l.length + t) by omega]
        exact (at_twice l _ (by omega)).symm⟩)
      have : mN (l ++ l) 258 (a - l.length) a < 3 := hno l.length (by omega) h1 (by omega)
      omega
    · exact h
  · rw [ht'] at ht
    injection ht with _ hl _
    omega
theorem at_same (b m t : Nat) (h : t < m) : at_ (List.replicate m b) t = b := by
  unfold at_
  rw [List.getD_eq_getElem?_getD, List.getElem?_replicate, if_pos h]
  rfl
theorem same_tok (b m a : Nat) (h : a < m) : tokAt (List.replicate m b) a = if 0 < a ∧ 3 ≤ m - a then ⟨0, min (m - a) 258, 1⟩ else ⟨b, 0, 0⟩ := by
  have hlen : (List.replicate m b).length = m := List.length_replicate
  have hge : 0 < a → min (m - a) 258 ≤ mlen (List.replicate m b) (a - 1) a := fun h0 => mN_ge _ 258 (a - 1) a (min (m - a) 258) (by omega) (fun t hlt => ⟨by rw [hlen]; omega, by rw [at_same b m _ (by omega), at_same b m _ (by omega)]⟩)
  rcases tok_cases (List.replicate m b) a (by rw [hlen]; exact h) with ⟨ht, hno⟩ | ⟨k, D, ht, h3, h258, hD1, hDa, hD3, hm, hme, hno⟩
  · rw [ht, at_same b m a h, if_neg ?_]
    rintro ⟨h0, h3⟩
    have := hno 1 (by omega) (by omega) (by omega)
    have := hge h0
    omega
  · rw [hlen] at hme
    rw [ht, if_pos ⟨by omega, by omega⟩]
    have hg := hge (by omega)
    have hD : D = 1 := by
      rcases Nat.lt_or_ge 1 D with h' | h'
      · have := hno 1 (by omega) h'
        omega
      · omega
    subst hD
    rw [← hm] at hg
    have : k = min (m - a) 258 := by omega
    rw [this]
theorem twice_l2 (b : Int) (hb : 0 ≤ b ∧ b < 256) (m : Nat) (hm : m ≤ 2000) (T : List S26) (hT : T.length ≤ 2000) : ∀ d a i, m - a ≤ d → a ≤ m → (0 < i ↔ 0 < a) → Rest (List.replicate m b) T i a → Ev (fun k => vignettelaw07_LzTwice.l2 k b T ((m - a : Nat) : Int) (i : Int)) true := by
  have hlen : (List.replicate m b).length = m := List.length_replicate
  have hnat : nat (List.replicate m b) = List.replicate m b.toNat := by unfold nat; rw [List.map_replicate]
  have hend : ∀ i, Rest (List.replicate m b) T i m → Ev (fun k => vignettelaw07_LzTwice.l2 k b T ((m - m : Nat) : Int) (i : Int)) true := by
    intro i hR
    rw [show Rest (List.replicate m b) T i m = Rest (List.replicate m b) T i (List.replicate m b).length by rw [hlen]] at hR
    refine matches_ev.step fun k hk => ?_
    rw [vignettelaw07_LzTwice.l2, if_neg (by have := hR.stop; omega), if_pos (by omega), hk, Option.bind_some]
  intro d
  induction d with
  | zero =>
    intro a i hd ha _ hR
    obtain rfl : a = m := by omega
    exact hend i hR
  | succ d ih =>
    intro a i hd ha hia hR
    by_cases hlt : a < m
    · obtain ⟨hi, hrd, hR'⟩ := hR.go (by rw [hlen]; exact hlt)
      rw [hnat, same_tok b.toNat m a hlt] at hrd hR'
      by_cases hc : 0 < a ∧ 3 ≤ m - a
      · rw [if_pos hc] at hrd hR'
        have hmx : max (min (m - a) 258) 1 = min (m - a) 258 := by omega
        simp only [hmx] at hR'
        have hmn : mn ((m - a : Nat) : Int) 258 = ((min (m - a) 258 : Nat) : Int) := by unfold mn; split <;> omega
        have hmx2 : YtgfjbbjdkmgdjaaW.PrintWords.mx ((min (m - a) 258 : Nat) : Int) 1 = ((min (m - a) 258 : Nat) : Int) := by unfold YtgfjbbjdkmgdjaaW.PrintWords.mx; split <;> omega
        have hj : Ev (fun k => vignettelaw07_LzTwice.j3 k b T ((m - a : Nat) : Int) (i : Int) true b 0 0) true := by
          refine (ih (a + min (m - a) 258) (i + 1) (by omega) (by omega) (by omega) hR').step fun k hk => ?_
          rw [vignettelaw07_LzTwice.j3, if_pos rfl, if_pos (by omega), if_pos (by omega), hrd, hmn, if_neg (by simp [tokS]), hmx2, w64 (by omega) (by omega), w64 (by omega) (by omega),
            show ((m - a : Nat) : Int) - ((min (m - a) 258 : Nat) : Int) = ((m - (a + min (m - a) 258) : Nat) : Int) by omega]
          exact hk
        refine hj.step fun k hk => ?_
        rw [vignettelaw07_LzTwice.l2, if_pos (by omega), if_pos (by omega), show decide (((m - a : Nat) : Int) ≥ 3) = true from decide_eq_true (by omega)]
        exact hk
      · rw [if_neg hc] at hrd hR'
        have hj : Ev (fun k => vignettelaw07_LzTwice.j3 k b T ((m - a : Nat) : Int) (i : Int) false b 0 0) true := by
          refine (ih (a + 1) (i + 1) (by omega) (by omega) (by omega) hR').step fun k hk => ?_
          have hbt : (tokS ⟨b.toNat, 0, 0⟩).f0 = b := by show ((b.toNat : Nat) : Int) = b; omega
          rw [vignettelaw07_LzTwice.j3, if_neg (by simp), if_pos (by omega), if_pos (by omega), hrd, hbt, if_neg (by simp [tokS]), show YtgfjbbjdkmgdjaaW.PrintWords.mx (0 : Int) 1 = 1 from rfl, w64 (by omega) (by omega), w64 (by omega) (by omega),
            show ((m - a : Nat) : Int) - 1 = ((m - (a + 1) : Nat) : Int) by omega]
          exact hk
        refine hj.step fun k hk => ?_
        rw [vignettelaw07_LzTwice.l2, if_pos (by omega)]
        by_cases hi0 : 0 < i
        · rw [if_pos (by omega), show decide (((m - a : Nat) : Int) ≥ 3) = false from decide_eq_false (by omega)]
          exact hk
        · rw [if_neg (by omega)]
          exact hk
    · obtain rfl : a = m := by omega
      exact hend i hR
theorem twice_l1 (b : Int) (hb : 0 ≤ b ∧ b < 256) (m : Nat) (hm : m ≤ 2000) : ∀ d t, t + d = m → Ev (fun k => vignettelaw07_LzTwice.l1 k b (m : Int) (List.replicate t b) (t : Int)) true
  | 0, t, ht => by
    obtain rfl : t = m := by omega
    have hl : okM (List.replicate t b) = true := okM_mk (fun x hx => by rw [List.eq_of_mem_replicate hx]; exact hb) (by rw [List.length_replicate]; omega)
    have hml := matchS_len (nat (List.replicate t b))
    rw [nat_length, List.length_replicate] at hml
    have hl2 := twice_l2 b hb t hm ((matchS (nat (List.replicate t b))).map tokS) (by rw [List.length_map]; omega) t 0 0 (by omega) (by omega) (by omega) (Rest.start _)
    refine hl2.step fun k hk => ?_
    have hf : lz_Match.f (List.replicate t b) = some ((matchS (nat (List.replicate t b))).map tokS) := by rw [lz_Match.f, if_pos hl]
    rw [vignettelaw07_LzTwice.l1, if_neg (by omega), hf, Option.bind_some]
    exact hk
  | d + 1, t, ht => by
    refine (twice_l1 b hb m hm d (t + 1) (by omega)).step fun k hk => ?_
    rw [vignettelaw07_LzTwice.l1, if_pos (by omega), if_pos (by rw [List.length_replicate]; omega), w64 (by omega) (by omega)]
    rw [List.replicate_succ'] at hk
    exact hk
theorem twice_l0 (l : List Int) (h6 : l.length ≤ 600) (b a2 : Int) (hb : 0 ≤ b ∧ b < 256) (h2 : 0 ≤ a2) (T : List S26) (hT : T.length ≤ 1200) : ∀ d a i c, 2 * l.length - a ≤ d → a ≤ 2 * l.length → c + 2 * l.length ≤ max (a + 2) (2 * l.length) → Rest (l ++ l) T i a → Ev (fun k => vignettelaw07_LzTwice.l0 k l b a2 T (a : Int) (c : Int) (i : Int)) true := by
  have hlen : (l ++ l).length = 2 * l.length := by rw [List.length_append]; omega
  have hnat : nat (l ++ l) = nat l ++ nat l := by unfold nat; rw [List.map_append]
  have hend : ∀ i c, c ≤ 2 → Rest (l ++ l) T i (l ++ l).length → Ev (fun k => vignettelaw07_LzTwice.l0 k l b a2 T ((2 * l.length : Nat) : Int) (c : Int) (i : Int)) true := by
    intro i c hc hR
    obtain ⟨m, hm⟩ : ∃ m : Nat, wrap64 (Int.tmod a2 2000) = (m : Int) ∧ m ≤ 2000 := by
      have e := Int.tmod_eq_emod_of_nonneg (b := 2000) h2
      rw [e, w64 (by omega) (by omega)]
      exact ⟨(a2 % 2000).toNat, by omega, by omega⟩
    refine (twice_l1 b hb m hm.2 m 0 (by omega)).step fun k hk => ?_
    rw [vignettelaw07_LzTwice.l0, if_neg (by have := hR.stop; omega), if_neg (by omega), hm.1]
    exact hk
  intro d
  induction d with
  | zero =>
    intro a i c hd ha hc hR
    obtain rfl : a = 2 * l.length := by omega
    exact hend i c (by omega) (by rw [hlen]; exact hR)
  | succ d ih =>
    intro a i c hd ha hc hR
    by_cases hlt : a < 2 * l.length
    · obtain ⟨hi, hrd, hR'⟩ := hR.go (by rw [hlen]; exact hlt)
      rcases tok_cases (nat (l ++ l)) a (by rw [nat_length, hlen]; exact hlt) with ⟨ht, _⟩ | ⟨m, D, ht, h3, h258, hD1, hDa, hD3, hm, hme, _⟩
      · have htw : l.length ≤ a → 2 * l.length ≤ a + 2 := fun h => by
          have := twice_lit (nat l) (by rw [nat_length]; exact h6) a (by rw [nat_length]; exact h) (by rw [← hnat, nat_length, hlen]; exact hlt) (by rw [← hnat]; exact ht)
          rwa [nat_length] at this
        rw [ht] at hrd hR'
        have f1 : (tokS ⟨at_ (nat (l ++ l)) a, 0, 0⟩).f1 = 0 := rfl
        by_cases hla : l.length ≤ a
        · refine (ih (a + 1) (i + 1) (c + 1) (by omega) (by omega) (by have := htw hla; omega) hR').step fun k hk => ?_
          rw [vignettelaw07_LzTwice.l0, if_pos (by omega), if_pos (by omega), if_pos (by omega), hrd, f1, if_pos rfl, show YtgfjbbjdkmgdjaaW.PrintWords.mx (0 : Int) 1 = 1 from rfl, w64 (by omega) (by omega), w64 (by omega) (by omega), w64 (by omega) (by omega)]
          exact hk
        · refine (ih (a + 1) (i + 1) c (by omega) (by omega) (by omega) hR').step fun k hk => ?_
          rw [vignettelaw07_LzTwice.l0, if_pos (by omega), if_neg (by omega), if_pos (by omega), hrd, f1, show YtgfjbbjdkmgdjaaW.PrintWords.mx (0 : Int) 1 = 1 from rfl, w64 (by omega) (by omega), w64 (by omega) (by omega)]
          exact hk
      · rw [nat_length, hlen] at hme
        rw [ht] at hrd hR'
        have hmx : max m 1 = m := by omega
        simp only [hmx] at hR'
        have hmx2 : YtgfjbbjdkmgdjaaW.PrintWords.mx (m : Int) 1 = (m : Int) := by unfold YtgfjbbjdkmgdjaaW.PrintWords.mx; split <;> omega
        refine (ih (a + m) (i + 1) c (by omega) hme (by omega) hR').step fun k hk => ?_
        by_cases hla : l.length ≤ a
        · rw [vignettelaw07_LzTwice.l0, if_pos (by omega), if_pos (by omega), if_pos (by omega), hrd, show (tokS ⟨0, m, D⟩).f1 = (m : Int) from rfl, if_neg (by omega), hmx2, w64 (by omega) (by omega), w64 (by omega) (by omega)]
          exact hk
        · rw [vignettelaw07_LzTwice.l0, if_pos (by omega), if_neg (by omega), if_pos (by omega), hrd, show (tokS ⟨0, m, D⟩).f1 = (m : Int) from rfl, hmx2, w64 (by omega) (by omega), w64 (by omega) (by omega)]
          exact hk
    · obtain rfl : a = 2 * l.length := by omega
      exact hend i c (by omega) (by rw [hlen]; exact hR)
theorem _root_.Go.Proofs.Ytgfjbbjdkmgdjaa.Pure.LzTwice : vignettelaw07_LzTwice.Pure := by
  intro l a1 a2 h1 h2 hwf hw1 hw2
  by_cases hlen : l.length ≤ 600
  · have hl : okM l = true := okM_of_wf hwf (by omega)
    have hl2 : okM (l ++ l) = true := okM_mk (fun x hx => okM_mem hl x (by rcases List.mem_append.1 hx with h | h <;> exact h)) (by rw [List.length_append]; omega)
    have hb : 0 ≤ a1 ∧ a1 < 256 := by
      simp [Lit.wf, IntKind.min, IntKind.max, IntKind.signed, IntKind.bits] at hw1
      omega
    have hn : 0 ≤ a2 := by
      simp [Lit.wf, IntKind.min, IntKind.max, IntKind.signed, IntKind.bits] at hw2
      omega
    have hml := matchS_len (nat (l ++ l))
    rw [nat_length, List.length_append] at hml
    obtain ⟨N, hN⟩ := twice_l0 l hlen a1 a2 hb hn ((matchS (nat (l ++ l))).map tokS) (by rw [List.length_map]; omega) (2 * l.length) 0 0 0 (by omega) (by omega) (by omega) (Rest.start _)
    refine ⟨N, ?_⟩
    have hf : lz_Match.f (l ++ l) = some ((matchS (nat (l ++ l))).map tokS) := by rw [lz_Match.f, if_pos hl2]
    rw [vignettelaw07_LzTwice.f, if_neg (by omega), Option.bind_some, if_pos (by simp; omega), Option.bind_some, List.nil_append, if_pos (by omega), hf, Option.bind_some]
    exact hN _ (Nat.le_refl _)
  · refine ⟨0, ?_⟩
    rw [vignettelaw07_LzTwice.f, if_pos (by omega)]
end Go.Proofs.Ytgfjbbjdkmgdjaa.L
