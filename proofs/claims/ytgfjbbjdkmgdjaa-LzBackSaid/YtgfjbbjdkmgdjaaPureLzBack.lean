/- LzBack: the plain law. -/
import Derived.Test.YtgfjbbjdkmgdjaaLx9
import Derived.Test.YtgfjbbjdkmgdjaaTokCases
namespace Go.Proofs.Ytgfjbbjdkmgdjaa.L
open Go.RowKit Go.Proofs.YtgfjbbjdkmgdjaaW.PrintWords Go.Proofs.Ytgfjbbjdkmgdjaa.Lz Ext
theorem take_rd {l : List Int} {i n : Nat} (h : i < n) : rd (l.take n) (i : Int) = rd l (i : Int) := by
  unfold rd
  rw [Int.toNat_natCast, List.getD_eq_getElem?_getD, List.getD_eq_getElem?_getD, List.getElem?_take_of_lt h]
theorem take_more {l : List Int} {n : Nat} (h : n < l.length) : l.take n ++ [rd l (n : Int)] = l.take (n + 1) := by
  unfold rd
  rw [Int.toNat_natCast, List.getD_eq_getElem?_getD, List.getElem?_eq_getElem h, Option.getD_some, List.take_succ_eq_append_getElem h]
theorem exp_l1 (l : List Int) (hl : okM l = true) (h5 : l.length ≤ 5000) (T : List S26) (n i : Int) (a m D : Nat) (h1 : 1 ≤ D) (hD : D ≤ a) (hm : m = mlen (nat l) (a - D) a) (hme : a + m ≤ l.length) (u v x : Int) (r : List Int × Int) (hn : Ev (fun k => lz_Expand.l0 k (l.take (a + m)) T n (wrap64 (i + 1))) r) :
    ∀ d t, t + d = m → Ev (fun k => lz_Expand.l1 k (l.take (a + t)) T n i (m : Int) (t : Int) u v (D : Int)) r
  | 0, t, ht => by
    obtain rfl : t = m := by omega
    refine hn.step fun k hk => ?_
    rw [lz_Expand.l1, if_neg (by omega), if_neg (by rw [List.length_take]; omega)]
    exact hk
  | d + 1, t, ht => by
    refine (exp_l1 l hl h5 T n i a m D h1 hD hm hme u v x r hn d (t + 1) (by omega)).step fun k hk => ?_
    have hlen : (l.take (a + t)).length = a + t := by rw [List.length_take]; omega
    have hag := (mN_agree (nat l) 258 (a - D) a t (by show t < mlen (nat l) (a - D) a; rw [← hm]; omega)).2
    have hrd : rd (l.take (a + t)) ((a - D + t : Nat) : Int) = rd l ((a + t : Nat) : Int) := by
      rw [take_rd (by omega), rd_at l hl _ (by omega), rd_at l hl _ (by omega), hag]
    rw [lz_Expand.l1, if_pos (by omega), hlen, w64 (x := ((a + t : Nat) : Int) - (D : Int)) (by omega) (by omega), if_pos (by omega), if_pos (by omega), if_pos (by omega), show ((a + t : Nat) : Int) - (D : Int) = ((a - D + t : Nat) : Int) by omega,
      hrd, take_more (by omega), w64 (by omega) (by omega)]
    exact hk
theorem exp_l0 (l : List Int) (hl : okM l = true) (h5 : l.length ≤ 5000) (T : List S26) (hT : T.length ≤ 5000) : ∀ d a i, l.length - a ≤ d → a ≤ l.length → Rest l T i a → Ev (fun k => lz_Expand.l0 k (l.take a) T (T.length : Int) (i : Int)) (l, 0) := by
  intro d
  induction d with
  | zero =>
    intro a i hd ha hR
    obtain rfl : a = l.length := by omega
    refine ⟨1, fun k hk => ?_⟩
    obtain ⟨m, rfl⟩ : ∃ m, k = m + 1 := ⟨k - 1, by omega⟩
    show lz_Expand.l0 (m + 1) _ _ _ _ = _
    rw [lz_Expand.l0, if_neg (by have := hR.stop; omega), List.take_length]
  | succ d ih =>
    intro a i hd ha hR
    by_cases hlt : a < l.length
    · obtain ⟨hi, hrd, hR'⟩ := hR.go hlt
      rcases tok_cases (nat l) a (by rw [nat_length]; exact hlt) with ⟨ht, _⟩ | ⟨m, D, ht, h3, h258, hD1, hDa, hD3, hm, hme, _⟩
      · rw [ht] at hrd hR'
        have hn := ih (a + 1) (i + 1) (by omega) (by omega) hR'
        have hj : Ev (fun k => lz_Expand.j1 k (l.take a) T (T.length : Int) (i : Int) true ((at_ (nat l) a : Nat) : Int) 0 0) (l, 0) := by
          refine hn.step fun k hk => ?_
          rw [lz_Expand.j1, if_pos rfl, if_pos (by rw [List.length_take]; omega), Option.bind_some, ← rd_at l hl a hlt, take_more hlt, if_neg (by rw [List.length_take]; omega), w64 (by omega) (by omega)]
          exact hk
        refine hj.step fun k hk => ?_
        rw [lz_Expand.l0, if_pos (by omega), if_pos (by omega), if_pos (by omega), hrd, if_pos (show (tokS ⟨at_ (nat l) a, 0, 0⟩).f1 = 0 from rfl)]
        exact hk
      · rw [nat_length] at hme
        rw [ht] at hrd hR'
        have hmx : max m 1 = m := by omega
        simp only [hmx] at hR'
        have hn := ih (a + m) (i + 1) (by omega) hme hR'
        have hl1 := exp_l1 l hl h5 T (T.length : Int) (i : Int) a m D hD1 hDa hm hme 0 (m : Int) 0 (l, 0) (by rw [w64 (by omega) (by omega)]; exact hn) m 0 (by omega)
        refine ((hl1.step (g := fun k => lz_Expand.j2 k (l.take a) T (T.length : Int) (i : Int) false 0 (m : Int) (D : Int)) fun k hk => ?_).step (g := fun k => lz_Expand.j1 k (l.take a) T (T.length : Int) (i : Int) false 0 (m : Int) (D : Int)) fun k hk => ?_).step fun k hk => ?_
        · rw [lz_Expand.j2, if_neg (by simp)]
          exact hk
        · rw [lz_Expand.j1, if_neg (by simp), if_pos rfl, if_neg (by omega), if_neg (by omega), if_neg (by omega)]
          have : decide ((D : Int) > mn 32768 ((l.take a).length : Int)) = false := by
            rw [List.length_take, Nat.min_eq_left ha]
            unfold mn
            refine decide_eq_false ?_
            split <;> omega
          rw [this]
          exact hk
        · rw [lz_Expand.l0, if_pos (by omega), if_pos (by omega), if_pos (by omega), hrd, if_neg (by simp only [tokS]; omega)]
          exact hk
    · obtain rfl : a = l.length := by omega
      refine ⟨1, fun k hk => ?_⟩
      obtain ⟨m, rfl⟩ : ∃ m, k = m + 1 := ⟨k - 1, by omega⟩
      show lz_Expand.l0 (m + 1) _ _ _ _ = _
      rw [lz_Expand.l0, if_neg (by have := hR.stop; omega), List.take_length]
theorem exp_match (l : List Int) (hl : okM l = true) (h5 : l.length ≤ 5000) : Ev (fun k => lz_Expand.f k ((matchS (nat l)).map tokS)) (l, 0) := by
  have hm := matchS_len (nat l)
  rw [nat_length] at hm
  exact exp_l0 l hl h5 _ (by rw [List.length_map]; omega) l.length 0 0 (by omega) (by omega) (Rest.start l)
theorem back_l0 (l : List Int) (h5 : l.length ≤ 5000) (T : List S26) (hT : T.length ≤ 5000) : ∀ d a i, l.length - a ≤ d → a ≤ l.length → Rest l T i a → Ev (fun k => vignettelaw07_LzBack.l0 k l T (a : Int) (i : Int)) true := by
  have hend : ∀ i, Rest l T i l.length → Ev (fun k => vignettelaw07_LzBack.l0 k l T (l.length : Int) (i : Int)) true := by
    intro i hR
    refine matches_ev.step fun k hk => ?_
    rw [vignettelaw07_LzBack.l0, if_neg (by have := hR.stop; omega), if_pos rfl, hk, Option.bind_some]
  intro d
  induction d with
  | zero =>
    intro a i hd ha hR
    obtain rfl : a = l.length := by omega
    exact hend i hR
  | succ d ih =>
    intro a i hd ha hR
    by_cases hlt : a < l.length
    · obtain ⟨hi, hrd, hR'⟩ := hR.go hlt
      rcases tok_cases (nat l) a (by rw [nat_length]; exact hlt) with ⟨ht, _⟩ | ⟨m, D, ht, h3, h258, hD1, hDa, hD3, hm, hme, _⟩
      · rw [ht] at hrd hR'
        refine (ih (a + 1) (i + 1) (by omega) (by omega) hR').step fun k hk => ?_
        rw [vignettelaw07_LzBack.l0, if_pos (by omega), if_pos (by omega), hrd, if_neg (by simp [tokS]), show YtgfjbbjdkmgdjaaW.PrintWords.mx (tokS ⟨at_ (nat l) a, 0, 0⟩).f1 1 = 1 from rfl, w64 (by omega) (by omega), w64 (by omega) (by omega)]
        exact hk
      · rw [nat_length] at hme
        rw [ht] at hrd hR'
        have hmx : max m 1 = m := by omega
        simp only [hmx] at hR'
        have hmx2 : YtgfjbbjdkmgdjaaW.PrintWords.mx (m : Int) 1 = (m : Int) := by unfold YtgfjbbjdkmgdjaaW.PrintWords.mx; split <;> omega
        refine (ih (a + m) (i + 1) (by omega) hme hR').step fun k hk => ?_
        rw [vignettelaw07_LzBack.l0, if_pos (by omega), if_pos (by omega), hrd]
        rw [show (tokS ⟨0, m, D⟩).f1 = (m : Int) from rfl, show (tokS ⟨0, m, D⟩).f2 = (D : Int) from rfl, if_pos (by omega), if_neg (by omega), if_neg (by omega), if_neg (by omega), hmx2, w64 (by omega) (by omega), w64 (by omega) (by omega)]
        exact hk
    · obtain rfl : a = l.length := by omega
      exact hend i hR
theorem _root_.Go.Proofs.Ytgfjbbjdkmgdjaa.Pure.LzBack : vignettelaw07_LzBack.Pure := by
  intro l h1 h2 hwf
  by_cases hlen : l.length ≤ 5000
  · have hl : okM l = true := okM_of_wf hwf (by omega)
    have hm := matchS_len (nat l)
    rw [nat_length] at hm
    have hj : Ev (fun k => vignettelaw07_LzBack.j0 k l ((matchS (nat l)).map tokS) false) true := by
      refine (back_l0 l hlen ((matchS (nat l)).map tokS) (by rw [List.length_map]; omega) l.length 0 0 (by omega) (by omega) (Rest.start l)).step fun k hk => ?_
      rw [vignettelaw07_LzBack.j0, if_neg (by simp)]
      exact hk
    obtain ⟨N, hN⟩ := hj
    obtain ⟨M, hM⟩ := exp_match l hl hlen
    refine ⟨N + M, ?_⟩
    have hM' : lz_Expand.f (N + M) ((matchS (nat l)).map tokS) = _ := hM (N + M) (by omega)
    have hf : lz_Match.f l = some ((matchS (nat l)).map tokS) := by rw [lz_Match.f, if_pos hl]
    rw [vignettelaw07_LzBack.f, if_neg (by omega), hf, Option.bind_some, hM', Option.bind_some, if_pos rfl, if_pos rfl, show decide ((((matchS (nat l)).map tokS).length : Int) > (l.length : Int)) = false from decide_eq_false (by rw [List.length_map]; omega)]
    exact hN _ (by omega)
  · refine ⟨0, ?_⟩
    rw [vignettelaw07_LzBack.f, if_pos (by omega)]
end Go.Proofs.Ytgfjbbjdkmgdjaa.L
