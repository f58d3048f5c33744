/- What Expand answers, and that the code's does (printed by gen_exp.py). -/
import Derived.Test.YtgfjbbjdkmgdjaaTokIn
import Derived.Test.YtgfjbbjdkmgdjaaLzEv
namespace Go.Proofs.Ytgfjbbjdkmgdjaa.L
open Go.RowKit Go.Proofs.YtgfjbbjdkmgdjaaW.PrintWords Go.Proofs.Ytgfjbbjdkmgdjaa.Lz Ext
/-- bytes copied one by one from D before the end -/
def copyN : Nat → List Int → Nat → List Int
  | 0, out, _ => out
  | n + 1, out, D => copyN n (out ++ [rd out (((out.length - D : Nat) : Int))]) D
theorem copyN_len : ∀ n out D, (copyN n out D).length = out.length + n
  | 0, out, D => rfl
  | n + 1, out, D => by rw [copyN, copyN_len n, List.length_append, List.length_singleton]; omega
def expS : List S26 → List Int → List Int × Int
  | [], out => (out, 0)
  | ⟨f0, f1, f2⟩ :: ts, out =>
    if f1 = 0 ∧ f2 = 0 then (if 524288 < (out ++ [f0]).length then ([], 2) else expS ts (out ++ [f0]))
    else if f0 = 0 ∧ 3 ≤ f1 ∧ f1 ≤ 258 ∧ 1 ≤ f2 ∧ f2 ≤ 32768 ∧ f2 ≤ (out.length : Int) then
      (if 524288 < (copyN f1.toNat out f2.toNat).length then ([], 2) else expS ts (copyN f1.toNat out f2.toNat))
    else ([], 70)
theorem lze_l1 (T : List S26) (n i : Int) (out0 : List Int) (D : Nat) (h1 : 1 ≤ D) (u v w' : Int) (hv : w' = (D : Int)) (m : Nat) (hm : m ≤ 258) (r : List Int × Int) (hn : ∀ out, out = copyN m out0 D → Ev (fun k => if (out.length : Int) > 524288 then (some (([] : List Int), (2 : Int))) else (lz_Expand.l0 k out T n (wrap64 (i + 1)))) r) :
    ∀ d t out, t + d = m → D ≤ out.length → out.length ≤ 1000000 + t → copyN d out D = copyN m out0 D → Ev (fun k => lz_Expand.l1 k out T n i (m : Int) (t : Int) u v w') r
  | 0, t, out, ht, hD, hle, hc => by
    refine (hn out hc).step fun k hk => ?_
    rw [lz_Expand.l1, if_neg (by omega)]
    exact hk
  | d + 1, t, out, ht, hD, hle, hc => by
    refine (lze_l1 T n i out0 D h1 u v w' hv m hm r hn d (t + 1) (out ++ [rd out (((out.length - D : Nat) : Int))]) (by omega) (by rw [List.length_append]; omega) (by rw [List.length_append, List.length_singleton]; omega) hc).step fun k hk => ?_
    rw [lz_Expand.l1, if_pos (by omega), hv, w64 (x := (out.length : Int) - (D : Int)) (by omega) (by omega), if_pos (by omega), if_pos (by omega), if_pos (by omega), show (out.length : Int) - (D : Int) = ((out.length - D : Nat) : Int) by omega, w64 (by omega) (by omega)]
    rw [hv] at hk
    exact hk
theorem lze_l0 (T : List S26) (hT : T.length ≤ 1000000) (hok : ∀ x ∈ T, okS x) : ∀ d i out, i + d = T.length → out.length ≤ 524288 → Ev (fun k => lz_Expand.l0 k out T (T.length : Int) (i : Int)) (expS (T.drop i) out)
  | 0, i, out, hi, ho => by
    refine ⟨1, fun k hk => ?_⟩
    obtain ⟨m, rfl⟩ : ∃ m, k = m + 1 := ⟨k - 1, by omega⟩
    show lz_Expand.l0 (m + 1) _ _ _ _ = _
    rw [lz_Expand.l0, if_neg (by omega), List.drop_of_length_le (by omega), expS]
  | d + 1, i, out, hi, ho => by
    have hlt : i < T.length := by omega
    have hrd : rd_T26 T (i : Int) = T[i] := by
      unfold rd_T26
      rw [Int.toNat_natCast, List.getD_eq_getElem?_getD, List.getElem?_eq_getElem hlt, Option.getD_some]
    have hokx := hok T[i] (List.getElem_mem hlt)
    rw [List.drop_eq_getElem_cons hlt]
    obtain ⟨x, hx⟩ : ∃ x, T[i] = x := ⟨_, rfl⟩
    rw [hx] at hrd hokx ⊢
    clear hx
    obtain ⟨f0, f1, f2⟩ := x
    unfold okS at hokx
    simp only at hokx
    have ih := fun out' (h : out'.length ≤ 524288) => lze_l0 T hT hok d (i + 1) out' (by omega) h
    have w1 : wrap64 ((i : Int) + 1) = ((i + 1 : Nat) : Int) := by rw [w64 (by omega) (by omega)]; omega
    have go : ∀ (b : Bool) (r : List Int × Int), b = (f1 == 0 && f2 == 0) → Ev (fun k => lz_Expand.j1 k out T (T.length : Int) (i : Int) b f0 f1 f2) r → Ev (fun k => lz_Expand.l0 k out T (T.length : Int) (i : Int)) r := by
      intro b r hb hj
      refine hj.step fun k hk => ?_
      rw [lz_Expand.l0, if_pos (by omega), if_pos (by omega), if_pos (by omega), hrd]
      by_cases h1 : f1 = 0
      · rw [if_pos h1]
        subst hb
        rw [show (f1 == 0 && f2 == 0) = (f2 == 0) by rw [h1]; simp] at hk
        exact hk
      · rw [if_neg h1]
        subst hb
        rw [show (f1 == 0 && f2 == 0) = false by simp [h1]] at hk
        exact hk
    unfold expS
    by_cases h0 : f1 = 0 ∧ f2 = 0
    · rw [if_pos h0]
      refine go true _ (by rw [h0.1, h0.2]; rfl) ?_
      by_cases hbig : 524288 < (out ++ [f0]).length
      · rw [if_pos hbig]
        refine ⟨1, fun k hk => ?_⟩
        obtain ⟨m, rfl⟩ : ∃ m, k = m + 1 := ⟨k - 1, by omega⟩
        show lz_Expand.j1 (m + 1) out T (T.length : Int) (i : Int) true _ _ _ = _
        rw [lz_Expand.j1, if_pos rfl, if_pos (by omega), Option.bind_some, if_pos (by omega)]
      · rw [if_neg hbig]
        refine (ih (out ++ [f0]) (by omega)).step fun k hk => ?_
        rw [lz_Expand.j1, if_pos rfl, if_pos (by omega), Option.bind_some, if_neg (by omega), w1]
        exact hk
    · rw [if_neg h0]
      refine go false _ (by
        by_cases h1 : f1 = 0
        · have h2 : f2 ≠ 0 := fun c => h0 ⟨h1, c⟩
          simp [h2]
        · simp [h1]) ?_
      have j2t : Ev (fun k => lz_Expand.j2 k out T (T.length : Int) (i : Int) true f0 f1 f2) ([], 70) := by
        refine ⟨1, fun k hk => ?_⟩
        obtain ⟨m, rfl⟩ : ∃ m, k = m + 1 := ⟨k - 1, by omega⟩
        show lz_Expand.j2 (m + 1) out T (T.length : Int) (i : Int) true f0 f1 f2 = _
        rw [lz_Expand.j2, if_pos rfl]
      by_cases hgood : f0 = 0 ∧ 3 ≤ f1 ∧ f1 ≤ 258 ∧ 1 ≤ f2 ∧ f2 ≤ 32768 ∧ f2 ≤ (out.length : Int)
      · rw [if_pos hgood]
        obtain ⟨g0, g1, g2, g3, g4, g5⟩ := hgood
        have hlenc := copyN_len f1.toNat out f2.toNat
        have hl1 : Ev (fun k => lz_Expand.l1 k out T (T.length : Int) (i : Int) (f1.toNat : Int) ((0 : Nat) : Int) f0 f1 f2) (if 524288 < (copyN f1.toNat out f2.toNat).length then ([], 2) else expS (T.drop (i + 1)) (copyN f1.toNat out f2.toNat)) := by
          refine lze_l1 T (T.length : Int) (i : Int) out f2.toNat (by omega) f0 f1 f2 (by omega) f1.toNat (by omega) _ ?_ f1.toNat 0 out (by omega) (by omega) (by omega) rfl
          rintro out' rfl
          by_cases hbig : 524288 < (copyN f1.toNat out f2.toNat).length
          · rw [if_pos hbig]
            refine ⟨0, fun k hk => ?_⟩
            show (if _ then _ else _) = _
            rw [if_pos (by omega)]
          · rw [if_neg hbig]
            obtain ⟨N, hN⟩ := ih (copyN f1.toNat out f2.toNat) (by omega)
            refine ⟨N, fun k hk => ?_⟩
            show (if _ then _ else _) = _
            rw [if_neg (by omega), w1]
            exact hN k hk
        refine (hl1.step (g := fun k => lz_Expand.j2 k out T (T.length : Int) (i : Int) false f0 f1 f2) fun k hk => ?_).step fun k hk => ?_
        · rw [lz_Expand.j2, if_neg (by simp)]
          rw [show ((f1.toNat : Nat) : Int) = f1 by omega] at hk
          exact hk
        · rw [lz_Expand.j1, if_neg (by simp), if_pos g0, if_neg (by omega), if_neg (by omega), if_neg (by omega), show decide (f2 > mn 32768 (out.length : Int)) = false from decide_eq_false (by unfold mn; split <;> omega)]
          exact hk
      · rw [if_neg hgood]
        refine j2t.step fun k hk => ?_
        rw [lz_Expand.j1, if_neg (by simp)]
        by_cases c0 : f0 = 0
        · rw [if_pos c0]
          by_cases c1 : f1 < 3
          · rw [if_pos c1]; exact hk
          · rw [if_neg c1]
            by_cases c2 : f1 > 258
            · rw [if_pos c2]; exact hk
            · rw [if_neg c2]
              by_cases c3 : f2 < 1
              · rw [if_pos c3]; exact hk
              · rw [if_neg c3, show decide (f2 > mn 32768 (out.length : Int)) = true from decide_eq_true (by unfold mn; split <;> omega)]
                exact hk
        · rw [if_neg c0]; exact hk
theorem lze_is (T : List S26) (hT : T.length ≤ 1000000) (hok : ∀ x ∈ T, okS x) : Ev (fun k => lz_Expand.f k T) (expS T []) := by
  have := lze_l0 T hT hok T.length 0 [] (by omega) (by simp)
  exact this
end Go.Proofs.Ytgfjbbjdkmgdjaa.L
