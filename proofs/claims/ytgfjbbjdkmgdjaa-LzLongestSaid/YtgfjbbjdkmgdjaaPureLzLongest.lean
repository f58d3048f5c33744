/- LzLongest: the plain law. -/
import Derived.Test.YtgfjbbjdkmgdjaaLx13
import Derived.Test.YtgfjbbjdkmgdjaaTokCases
namespace Go.Proofs.Ytgfjbbjdkmgdjaa.L
open Go.RowKit Go.Proofs.YtgfjbbjdkmgdjaaW.PrintWords Go.Proofs.Ytgfjbbjdkmgdjaa.Lz Ext
/-- the count ends: what comes then -/
theorem long_end (l : List Int) (T : List S26) (a i x7 d z : Int) (u m v : Int) (k : Nat) (h : z < 3 ∨ z < m) (hn : vignettelaw07_LzLongest.l1 k l T a i x7 (wrap64 (d + 1)) u m v = some true) :
    (if z ≥ 3 then (if z ≥ m then (some false) else (vignettelaw07_LzLongest.l1 k l T a i x7 (wrap64 (d + 1)) u m v)) else (vignettelaw07_LzLongest.l1 k l T a i x7 (wrap64 (d + 1)) u m v)) = some true := by
  by_cases h3 : z ≥ 3
  · rw [if_pos h3, if_neg (by omega)]
    exact hn
  · rw [if_neg h3]
    exact hn
theorem long_l2 (l : List Int) (hl : okM l = true) (h5 : l.length ≤ 1000) (T : List S26) (a D : Nat) (i x7 u m v : Int) (h1 : 1 ≤ D) (hD : D ≤ a) (ha : a ≤ l.length) (hm : mlen (nat l) (a - D) a < 3 ∨ ((mlen (nat l) (a - D) a : Nat) : Int) < m)
    (hn : Ev (fun k => vignettelaw07_LzLongest.l1 k l T (a : Int) i x7 (wrap64 ((D : Int) + 1)) u m v) true) :
    ∀ d t, t + d = 258 → t + mN (nat l) d (a - D + t) (a + t) = mlen (nat l) (a - D) a → Ev (fun k => vignettelaw07_LzLongest.l2 k l T (a : Int) i x7 (D : Int) (t : Int) u m v) true
  | 0, t, ht, he => by
    refine hn.step fun k hk => ?_
    rw [vignettelaw07_LzLongest.l2, if_neg (by omega)]
    have he' : t = mlen (nat l) (a - D) a := he
    exact long_end l T _ i x7 _ _ u m v k (by rw [he']; omega) hk
  | d + 1, t, ht, he => by
    by_cases hb : a + t < l.length
    · by_cases h2 : at_ (nat l) (a - D + t) = at_ (nat l) (a + t)
      · rw [mN_step _ _ _ _ (by rw [nat_length]; exact hb) h2] at he
        refine (long_l2 l hl h5 T a D i x7 u m v h1 hD ha hm hn d (t + 1) (by omega) (by rw [show a - D + (t + 1) = a - D + t + 1 by omega, show a + (t + 1) = a + t + 1 by omega]; omega)).step fun k hk => ?_
        rw [vignettelaw07_LzLongest.l2, if_pos (by omega), w64 (x := (a : Int) + (t : Int)) (by omega) (by omega), if_pos (by omega), if_pos (by omega), w64 (x := (a : Int) + (t : Int) - (D : Int)) (by omega) (by omega), if_pos (by omega), if_pos (by omega),
          show (a : Int) + (t : Int) - (D : Int) = ((a - D + t : Nat) : Int) by omega, show (a : Int) + (t : Int) = ((a + t : Nat) : Int) by omega, rd_at l hl (a + t) hb, rd_at l hl (a - D + t) (by omega), if_pos (by rw [h2]), w64 (by omega) (by omega)]
        exact hk
      · rw [mN_stop _ _ _ _ (fun c => h2 c.2)] at he
        refine hn.step fun k hk => ?_
        rw [vignettelaw07_LzLongest.l2, if_pos (by omega), w64 (x := (a : Int) + (t : Int)) (by omega) (by omega), if_pos (by omega), if_pos (by omega), w64 (x := (a : Int) + (t : Int) - (D : Int)) (by omega) (by omega), if_pos (by omega), if_pos (by omega),
          show (a : Int) + (t : Int) - (D : Int) = ((a - D + t : Nat) : Int) by omega, show (a : Int) + (t : Int) = ((a + t : Nat) : Int) by omega, rd_at l hl (a + t) hb, rd_at l hl (a - D + t) (by omega), if_neg (by omega)]
        exact long_end l T _ i x7 _ _ u m v k (by omega) hk
    · rw [mN_stop _ _ _ _ (fun c => hb (by rw [nat_length] at c; exact c.1))] at he
      refine hn.step fun k hk => ?_
      rw [vignettelaw07_LzLongest.l2, if_pos (by omega), w64 (x := (a : Int) + (t : Int)) (by omega) (by omega), if_neg (by omega)]
      exact long_end l T _ i x7 _ _ u m v k (by omega) hk
/-- the search over the nearer places: none is as long -/
theorem long_l1 (l : List Int) (hl : okM l = true) (h5 : l.length ≤ 1000) (T : List S26) (a : Nat) (i x7 u m v : Int) (ha : a ≤ l.length) (hm : ∀ d : Nat, 1 ≤ d → d ≤ a → (m = 0 ∨ (d : Int) < v) → mlen (nat l) (a - d) a < 3 ∨ ((mlen (nat l) (a - d) a : Nat) : Int) < m)
    (hn : Ev (fun k => vignettelaw07_LzLongest.l0 k l T (wrap64 ((a : Int) + x7)) (wrap64 (i + 1))) true) :
    ∀ e d : Nat, d + e = 301 → 1 ≤ d → Ev (fun k => vignettelaw07_LzLongest.l1 k l T (a : Int) i x7 (d : Int) u m v) true := by
  have hj : ∀ d : Int, Ev (fun k => vignettelaw07_LzLongest.j4 k l T (a : Int) i x7 d false u m v) true := fun d => hn.step fun k hk => by
    rw [vignettelaw07_LzLongest.j4, if_neg (by simp)]
    exact hk
  intro e
  induction e with
  | zero =>
    intro d hd h1
    refine (hj (d : Int)).step fun k hk => ?_
    rw [vignettelaw07_LzLongest.l1]
    by_cases h : (d : Int) ≤ (a : Int)
    · rw [if_pos h, if_neg (by omega)]; exact hk
    · rw [if_neg h]; exact hk
  | succ e ih =>
    intro d hd h1
    by_cases h : d ≤ a
    · by_cases hc : m = 0 ∨ (d : Int) < v
      · have hl1 := ih (d + 1) (by omega) (by omega)
        have hl2 := long_l2 l hl h5 T a d i x7 u m v h1 h ha (hm d h1 h hc) (by rw [w64 (by omega) (by omega)]; exact hl1) 258 0 (by omega) (by rw [Nat.zero_add]; rfl)
        have hjt : Ev (fun k => vignettelaw07_LzLongest.j4 k l T (a : Int) i x7 (d : Int) true u m v) true := hl2.step fun k hk => by
          rw [vignettelaw07_LzLongest.j4, if_pos rfl]
          exact hk
        refine hjt.step fun k hk => ?_
        rw [vignettelaw07_LzLongest.l1, if_pos (by omega), if_pos (by omega)]
        by_cases h0 : m = 0
        · rw [if_pos h0]; exact hk
        · rw [if_neg h0, show decide ((d : Int) < v) = true from decide_eq_true (by omega)]; exact hk
      · refine (hj (d : Int)).step fun k hk => ?_
        rw [vignettelaw07_LzLongest.l1, if_pos (by omega), if_pos (by omega), if_neg (by omega), show decide ((d : Int) < v) = false from decide_eq_false (by omega)]
        exact hk
    · refine (hj (d : Int)).step fun k hk => ?_
      rw [vignettelaw07_LzLongest.l1, if_neg (by omega)]
      exact hk
/-- behind a repetition that has ended early no more bytes agree -/
theorem mN_max (l : List Nat) : ∀ k i j, mN l k i j < k → j + mN l k i j < l.length → at_ l (i + mN l k i j) ≠ at_ l (j + mN l k i j)
  | 0, i, j, h, _ => by simp [mN] at h
  | k + 1, i, j, h, hl => by
    by_cases hc : j < l.length ∧ at_ l i = at_ l j
    · rw [mN_step l k i j hc.1 hc.2] at h hl ⊢
      have := mN_max l k (i + 1) (j + 1) (by omega) (by omega)
      rwa [show i + 1 + mN l k (i + 1) (j + 1) = i + (mN l k (i + 1) (j + 1) + 1) by omega, show j + 1 + mN l k (i + 1) (j + 1) = j + (mN l k (i + 1) (j + 1) + 1) by omega] at this
    · rw [mN_stop l (k + 1) i j hc] at h hl ⊢
      exact fun e => hc ⟨hl, e⟩
theorem long_l0 (l : List Int) (hl : okM l = true) (h5 : l.length ≤ 1000) (T : List S26) (hT : T.length ≤ 1000) : ∀ d a i, l.length - a ≤ d → a ≤ l.length → Rest l T i a → Ev (fun k => vignettelaw07_LzLongest.l0 k l T (a : Int) (i : Int)) true := by
  have hend : ∀ i, Rest l T i l.length → Ev (fun k => vignettelaw07_LzLongest.l0 k l T (l.length : Int) (i : Int)) true := by
    intro i hR
    refine matches_ev.step fun k hk => ?_
    rw [vignettelaw07_LzLongest.l0, if_neg (by have := hR.stop; omega), if_pos rfl, hk, Option.bind_some]
  intro d
  induction d with
  | zero =>
    intro a i hd ha hR
    obtain rfl : a = l.length := by omega
    exact hend i hR
  | succ d ih =>
    intro a i hd ha hR
    by_cases hlt : a < l.length
    · obtain ⟨hi, hrd, hR'⟩ := hR.go hlt
      rcases tok_cases (nat l) a (by rw [nat_length]; exact hlt) with ⟨ht, hno⟩ | ⟨m, D, ht, h3, h258, hD1, hDa, hD3, hm, hme, hno⟩
      · rw [ht] at hrd hR'
        have hn := ih (a + 1) (i + 1) (by omega) (by omega) hR'
        have hl1 := long_l1 l hl h5 T a (i : Int) 1 ((at_ (nat l) a : Nat) : Int) 0 0 ha (fun d h1 h2 _ => .inl (hno d h1 h2 (by omega))) (by rw [w64 (by omega) (by omega), w64 (by omega) (by omega)]; exact hn) 300 1 (by omega) (by omega)
        refine ((hl1.step (g := fun k => vignettelaw07_LzLongest.j2 k l T (a : Int) (i : Int) 1 false ((at_ (nat l) a : Nat) : Int) 0 0) fun k hk => ?_).step (g := fun k => vignettelaw07_LzLongest.j1 k l T (a : Int) (i : Int) 1 false ((at_ (nat l) a : Nat) : Int) 0 0) fun k hk => ?_).step fun k hk => ?_
        · rw [vignettelaw07_LzLongest.j2, if_neg (by simp)]
          exact hk
        · rw [vignettelaw07_LzLongest.j1, if_neg (by simp), if_neg (by omega)]
          exact hk
        · rw [vignettelaw07_LzLongest.l0, if_pos (by omega), if_pos (by omega), hrd, show YtgfjbbjdkmgdjaaW.PrintWords.mx (tokS ⟨at_ (nat l) a, 0, 0⟩).f1 1 = 1 from rfl, w64 (by omega) (by omega), if_neg (by omega), show (tokS ⟨at_ (nat l) a, 0, 0⟩).f1 = 0 from rfl, if_neg (by omega)]
          exact hk
      · rw [nat_length] at hme
        rw [ht] at hrd hR'
        have hmx : max m 1 = m := by omega
        simp only [hmx] at hR'
        have hmx2 : YtgfjbbjdkmgdjaaW.PrintWords.mx (m : Int) 1 = (m : Int) := by unfold YtgfjbbjdkmgdjaaW.PrintWords.mx; split <;> omega
        have hn := ih (a + m) (i + 1) (by omega) hme hR'
        have hl1 := long_l1 l hl h5 T a (i : Int) (m : Int) 0 (m : Int) (D : Int) ha (fun d h1 h2 hc => .inr (by have := hno d h1 (by omega); omega)) (by rw [w64 (by omega) (by omega), w64 (by omega) (by omega)]; exact hn) 300 1 (by omega) (by omega)
        have hj2 : Ev (fun k => vignettelaw07_LzLongest.j2 k l T (a : Int) (i : Int) (m : Int) false 0 (m : Int) (D : Int)) true := hl1.step fun k hk => by
          rw [vignettelaw07_LzLongest.j2, if_neg (by simp)]
          exact hk
        have hj1 : Ev (fun k => vignettelaw07_LzLongest.j1 k l T (a : Int) (i : Int) (m : Int) false 0 (m : Int) (D : Int)) true := hj2.step fun k hk => by
          rw [vignettelaw07_LzLongest.j1, if_neg (by simp), if_pos (by omega)]
          by_cases h8 : m < 258
          · rw [if_pos (by omega), w64 (x := (a : Int) + (m : Int)) (by omega) (by omega)]
            by_cases hb : a + m < l.length
            · have hx := mN_max (nat l) 258 (a - D) a (by show mlen (nat l) (a - D) a < 258; omega) (by show a + mlen (nat l) (a - D) a < _; rw [nat_length]; omega)
              have hx' : at_ (nat l) (a - D + mlen (nat l) (a - D) a) ≠ at_ (nat l) (a + mlen (nat l) (a - D) a) := hx
              rw [← hm] at hx'
              rw [if_pos (by omega), if_pos (by omega), w64 (x := (a : Int) + (m : Int) - (D : Int)) (by omega) (by omega), if_pos (by omega), if_pos (by omega), show (a : Int) + (m : Int) - (D : Int) = ((a - D + m : Nat) : Int) by omega, show (a : Int) + (m : Int) = ((a + m : Nat) : Int) by omega,
                rd_at l hl (a + m) hb, rd_at l hl (a - D + m) (by omega), beq_eq_false_iff_ne.2 (by omega)]
              exact hk
            · rw [if_neg (by omega)]; exact hk
          · rw [if_neg (by omega)]; exact hk
        refine hj1.step fun k hk => ?_
        rw [vignettelaw07_LzLongest.l0, if_pos (by omega), if_pos (by omega), hrd, show (tokS ⟨0, m, D⟩).f1 = (m : Int) from rfl, show (tokS ⟨0, m, D⟩).f2 = (D : Int) from rfl, hmx2, w64 (by omega) (by omega), if_neg (by omega), if_pos (by omega), show decide ((D : Int) > (a : Int)) = false from decide_eq_false (by omega)]
        exact hk
    · obtain rfl : a = l.length := by omega
      exact hend i hR
theorem _root_.Go.Proofs.Ytgfjbbjdkmgdjaa.Pure.LzLongest : vignettelaw07_LzLongest.Pure := by
  intro l h1 h2 hwf
  by_cases hlen : l.length ≤ 1000
  · have hl : okM l = true := okM_of_wf hwf (by omega)
    have hm := matchS_len (nat l)
    rw [nat_length] at hm
    obtain ⟨N, hN⟩ := long_l0 l hl hlen ((matchS (nat l)).map tokS) (by rw [List.length_map]; omega) l.length 0 0 (by omega) (by omega) (Rest.start l)
    refine ⟨N, ?_⟩
    have hf : lz_Match.f l = some ((matchS (nat l)).map tokS) := by rw [lz_Match.f, if_pos hl]
    rw [vignettelaw07_LzLongest.f, if_neg (by omega), hf, Option.bind_some]
    exact hN _ (Nat.le_refl _)
  · refine ⟨0, ?_⟩
    rw [vignettelaw07_LzLongest.f, if_pos (by omega)]
end Go.Proofs.Ytgfjbbjdkmgdjaa.L
