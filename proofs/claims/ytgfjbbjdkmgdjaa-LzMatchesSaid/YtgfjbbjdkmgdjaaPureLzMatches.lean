/- LzMatches: the plain law. -/
import Derived.Test.YtgfjbbjdkmgdjaaLx6
import Derived.Test.YtgfjbbjdkmgdjaaRefPure
import Derived.Test.YtgfjbbjdkmgdjaaLzEv
namespace Go.Proofs.Ytgfjbbjdkmgdjaa.L
open Go.RowKit Go.Proofs.YtgfjbbjdkmgdjaaW.PrintWords Go.Proofs.Ytgfjbbjdkmgdjaa.Lz Ext
theorem same_l0 (xs : List S26) (hx : xs.length ≤ 1000000) : ∀ d i, i + d = xs.length → Ev (fun k => vignettelaw07_LzMatches.l0 k xs xs (i : Int)) true
  | 0, i, h => by
    refine matches_ev.step fun k hk => ?_
    rw [vignettelaw07_LzMatches.l0, if_neg (by omega), hk, Option.bind_some]
  | d + 1, i, h => by
    refine (same_l0 xs hx d (i + 1) (by omega)).step fun k hk => ?_
    rw [vignettelaw07_LzMatches.l0, if_pos (by omega), if_pos (by omega), if_pos (by omega), if_neg (by simp), w64 (by omega) (by omega)]
    exact hk
theorem matchS_len (l : List Nat) : (matchS l).length ≤ l.length := by
  have h : ∀ f a, a ≤ l.length → (emit l f a).length ≤ l.length - a := by
    intro f
    induction f with
    | zero => intro a _; simp [emit]
    | succ f ih =>
      intro a ha
      by_cases h : a < l.length
      · rw [emit_step l f a h, List.length_cons]
        have := tokAt_end l a h
        have := ih _ this
        omega
      · rw [emit_end l _ a h]; simp
  exact h _ _ (Nat.zero_le _)
theorem _root_.Go.Proofs.Ytgfjbbjdkmgdjaa.Pure.LzMatches : vignettelaw07_LzMatches.Pure := by
  intro l h1 h2 hwf
  by_cases hlen : l.length ≤ 1200
  · have hl : okM l = true := okM_of_wf hwf (by omega)
    have hm := matchS_len (nat l)
    rw [nat_length] at hm
    have hl0 := same_l0 ((matchS (nat l)).map tokS) (by rw [List.length_map]; omega) _ 0 (Nat.zero_add _)
    have hj : Ev (fun k => vignettelaw07_LzMatches.j0 k ((matchS (nat l)).map tokS) ((matchS (nat l)).map tokS) false) true := by
      refine hl0.step fun k hk => ?_
      rw [vignettelaw07_LzMatches.j0, if_neg (by simp)]
      exact hk
    obtain ⟨N, hN⟩ := hj
    obtain ⟨M, hM⟩ := ref_match l hl
    refine ⟨N + M, ?_⟩
    rw [vignettelaw07_LzMatches.f, if_neg (by omega), if_pos (by simp; omega), Option.bind_some, List.nil_append]
    have hf : lz_Match.f l = some ((matchS (nat l)).map tokS) := by rw [lz_Match.f, if_pos hl]
    have hM' : vignetteref07_Match.f (N + M) l = _ := hM (N + M) (by omega)
    rw [hf, Option.bind_some, hM', Option.bind_some, if_pos rfl, bne_self_eq_false]
    exact hN _ (by omega)
  · refine ⟨0, ?_⟩
    rw [vignettelaw07_LzMatches.f, if_pos (by omega)]
end Go.Proofs.Ytgfjbbjdkmgdjaa.L
