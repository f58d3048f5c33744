/- What Expand makes of Match's tokens, and of rows of one token; the closed rows. Plain. -/
import Derived.Test.YtgfjbbjdkmgdjaaSplitPure
import Derived.Test.YtgfjbbjdkmgdjaaTokCases
namespace Go.Proofs.Ytgfjbbjdkmgdjaa.L
open Go.RowKit Go.Proofs.YtgfjbbjdkmgdjaaW.PrintWords Go.Proofs.Ytgfjbbjdkmgdjaa.Lz Ext
theorem take_rd {l : List Int} {i n : Nat} (h : i < n) : rd (l.take n) (i : Int) = rd l (i : Int) := by
  unfold rd
  rw [Int.toNat_natCast, List.getD_eq_getElem?_getD, List.getD_eq_getElem?_getD, List.getElem?_take_of_lt h]
theorem take_more {l : List Int} {n : Nat} (h : n < l.length) : l.take n ++ [rd l (n : Int)] = l.take (n + 1) := by
  unfold rd
  rw [Int.toNat_natCast, List.getD_eq_getElem?_getD, List.getElem?_eq_getElem h, Option.getD_some, List.take_succ_eq_append_getElem h]
theorem copy_take (l : List Int) (hl : okM l = true) (a m D : Nat) (h1 : 1 ≤ D) (hD : D ≤ a) (hm : m = mlen (nat l) (a - D) a) (hme : a + m ≤ l.length) : ∀ d t, t + d = m → copyN d (l.take (a + t)) D = l.take (a + m)
  | 0, t, ht => by
    obtain rfl : t = m := by omega
    rfl
  | d + 1, t, ht => by
    have hlen : (l.take (a + t)).length = a + t := by rw [List.length_take]; omega
    have hag := (mN_agree (nat l) 258 (a - D) a t (by show t < mlen (nat l) (a - D) a; rw [← hm]; omega)).2
    have hrd : rd (l.take (a + t)) ((a - D + t : Nat) : Int) = rd l ((a + t : Nat) : Int) := by
      rw [take_rd (by omega), rd_at l hl _ (by omega), rd_at l hl _ (by omega), hag]
    rw [copyN, hlen, show a + t - D = a - D + t by omega, hrd, take_more (by omega)]
    exact copy_take l hl a m D h1 hD hm hme d (t + 1) (by omega)
theorem exp_emit (l : List Int) (hl : okM l = true) (h5 : l.length ≤ 524288) : ∀ f a, a ≤ l.length → l.length - a ≤ f → expS ((emit (nat l) f a).map tokS) (l.take a) = (l, 0) := by
  intro f
  induction f with
  | zero =>
    intro a ha hf
    obtain rfl : a = l.length := by omega
    rw [List.take_length]
    rfl
  | succ f ih =>
    intro a ha hf
    by_cases hlt : a < l.length
    · rw [emit_step _ _ _ (by rw [nat_length]; exact hlt), List.map_cons]
      rcases tok_cases (nat l) a (by rw [nat_length]; exact hlt) with ⟨ht, _⟩ | ⟨m, D, ht, h3, h258, hD1, hDa, hD3, hm, hme, _⟩
      · rw [ht]
        have hn := ih (a + 1) (by omega) (by omega)
        show expS (⟨((at_ (nat l) a : Nat) : Int), ((0 : Nat) : Int), ((0 : Nat) : Int)⟩ :: _) _ = _
        rw [expS, if_pos ⟨rfl, rfl⟩, ← rd_at l hl a hlt, take_more hlt, if_neg (by rw [List.length_take]; omega)]
        exact hn
      · rw [nat_length] at hme
        rw [ht]
        have hmx : max m 1 = m := by omega
        simp only [hmx]
        have hn := ih (a + m) hme (by omega)
        have hc := copy_take l hl a m D hD1 hDa hm hme m 0 (by omega)
        rw [Nat.add_zero] at hc
        show expS (⟨((0 : Nat) : Int), (m : Int), (D : Int)⟩ :: _) _ = _
        rw [expS, if_neg (by omega), if_pos (by rw [List.length_take]; omega), Int.toNat_natCast, Int.toNat_natCast, hc, if_neg (by rw [List.length_take]; omega)]
        exact hn
    · obtain rfl : a = l.length := by omega
      rw [emit_end _ _ _ (by rw [nat_length]; omega), List.take_length]
      rfl
theorem exp_back (l : List Int) (hl : okM l = true) (h5 : l.length ≤ 524288) : expS ((matchS (nat l)).map tokS) [] = (l, 0) := by
  have := exp_emit l hl h5 l.length 0 (by omega) (by omega)
  rw [List.take_zero] at this
  unfold matchS
  rw [nat_length]
  exact this
def tA : S26 := ⟨97, 0, 0⟩
def tR : S26 := ⟨0, 258, 1⟩
theorem exp_reps : ∀ n (out : List Int), 1 ≤ out.length → out.length + 258 * n ≤ 524288 → (expS (List.replicate n tR) out).2 = 0 ∧ (expS (List.replicate n tR) out).1.length = out.length + 258 * n
  | 0, out, _, _ => ⟨rfl, rfl⟩
  | n + 1, out, h1, h2 => by
    have hl := copyN_len 258 out 1
    rw [List.replicate_succ]
    show (expS (⟨0, 258, 1⟩ :: _) out).2 = 0 ∧ _
    have he : expS (⟨0, 258, 1⟩ :: List.replicate n tR) out = expS (List.replicate n tR) (copyN 258 out 1) := by
      rw [expS, if_neg (by omega), if_pos (by omega), show (258 : Int).toNat = 258 from rfl, show (1 : Int).toNat = 1 from rfl, if_neg (by omega)]
    have ih := exp_reps n (copyN 258 out 1) (by omega) (by omega)
    show (expS (⟨0, 258, 1⟩ :: List.replicate n tR) out).2 = 0 ∧ (expS (⟨0, 258, 1⟩ :: List.replicate n tR) out).1.length = _
    rw [he]
    refine ⟨ih.1, ?_⟩
    rw [ih.2]
    omega
theorem exp_over : ∀ n (out : List Int), 1 ≤ out.length → out.length ≤ 524288 → 524288 < out.length + 258 * n → expS (List.replicate n tR) out = ([], 2)
  | 0, out, _, _, _ => by omega
  | n + 1, out, h1, h2, h3 => by
    have hl := copyN_len 258 out 1
    rw [List.replicate_succ]
    show expS (⟨0, 258, 1⟩ :: List.replicate n tR) out = _
    rw [expS, if_neg (by omega), if_pos (by omega), show (258 : Int).toNat = 258 from rfl, show (1 : Int).toNat = 1 from rfl]
    by_cases hb : 524288 < (copyN 258 out 1).length
    · rw [if_pos hb]
    · rw [if_neg hb]
      exact exp_over n _ (by omega) (by omega) (by omega)
def manyT (n : Nat) : List S26 := tA :: List.replicate n tR
theorem many_exp (n : Nat) : expS (manyT n) [] = expS (List.replicate n tR) [97] := by
  unfold manyT
  show expS (⟨97, 0, 0⟩ :: _) _ = _
  rw [expS, if_pos ⟨rfl, rfl⟩]
  rfl
theorem many_ok : (expS (manyT 2032) []).2 = 0 ∧ (expS (manyT 2032) []).1.length = 524257 := by
  rw [many_exp]
  exact exp_reps 2032 [97] (by decide) (by decide)
theorem many_over : expS (manyT 2033) [] = ([], 2) := by
  rw [many_exp]
  exact exp_over 2033 [97] (by decide) (by decide) (by decide)
theorem manyT_len (n : Nat) : (manyT n).length = n + 1 := by simp [manyT]
theorem manyT_snoc (n : Nat) : manyT n ++ [tR] = manyT (n + 1) := by
  unfold manyT
  rw [List.cons_append, List.replicate_succ']
theorem manyT_okS (n : Nat) : ∀ x ∈ manyT n, okS x := by
  intro x hx
  unfold manyT at hx
  rcases List.mem_cons.1 hx with rfl | h
  · simp [okS, tA]
  · rw [List.eq_of_mem_replicate h]
    simp [okS, tR]
theorem emit_okS (l : List Int) (hl : okM l = true) : ∀ f a, ∀ x ∈ (emit (nat l) f a).map tokS, okS x := by
  intro f
  induction f with
  | zero => intro a x hx; simp [emit] at hx
  | succ f ih =>
    intro a x hx
    by_cases hlt : a < l.length
    · rw [emit_step _ _ _ (by rw [nat_length]; exact hlt), List.map_cons] at hx
      rcases List.mem_cons.1 hx with rfl | h
      · have hlen := okM_len hl
        rcases tok_cases (nat l) a (by rw [nat_length]; exact hlt) with ⟨ht, _⟩ | ⟨m, D, ht, h3, h258, hD1, hDa, hD3, hm, hme, _⟩
        · rw [ht]
          have hb := rd_at l hl a hlt
          have hc : rd l (a : Int) = l[a] := by
            unfold rd
            rw [Int.toNat_natCast, List.getD_eq_getElem?_getD, List.getElem?_eq_getElem hlt, Option.getD_some]
          have hd := okM_mem hl l[a] (List.getElem_mem hlt)
          show (0 ≤ ((at_ (nat l) a : Nat) : Int) ∧ ((at_ (nat l) a : Nat) : Int) < 256) ∧ ((-9223372036854775808 : Int) ≤ ((0 : Nat) : Int) ∧ ((0 : Nat) : Int) ≤ 9223372036854775807) ∧ ((-9223372036854775808 : Int) ≤ ((0 : Nat) : Int) ∧ ((0 : Nat) : Int) ≤ 9223372036854775807)
          omega
        · rw [ht]
          show (0 ≤ ((0 : Nat) : Int) ∧ ((0 : Nat) : Int) < 256) ∧ ((-9223372036854775808 : Int) ≤ (m : Int) ∧ (m : Int) ≤ 9223372036854775807) ∧ ((-9223372036854775808 : Int) ≤ (D : Int) ∧ (D : Int) ≤ 9223372036854775807)
          omega
      · exact ih _ x h
    · rw [emit_end _ _ _ (by rw [nat_length]; exact hlt)] at hx
      simp at hx
theorem match_okS (l : List Int) (hl : okM l = true) : ∀ x ∈ (matchS (nat l)).map tokS, okS x := emit_okS l hl _ _
theorem xor8 (a b : Int) : 0 ≤ Go.bits .xor .u8 a b ∧ Go.bits .xor .u8 a b < 256 := by
  show 0 ≤ IntKind.u8.wrap _ ∧ IntKind.u8.wrap _ < 256
  simp [IntKind.wrap, IntKind.bits, IntKind.signed]
  omega
theorem many_y : ∃ y : List Int, ∃ M : Nat, expS (manyT 2032) [] = (y, 0) ∧ y.length = M ∧ M = 524257 := by
  have h := many_ok
  generalize expS (manyT 2032) [] = r at h ⊢
  obtain ⟨y, k⟩ := r
  obtain ⟨h1, h2⟩ := h
  simp only at h1 h2
  subst h1
  exact ⟨y, _, rfl, rfl, h2⟩
theorem many_all : ∃ (T2 T3 : List S26) (y : List Int) (M : Nat), manyT 2032 = T2 ∧ T2.length = 2033 ∧ (∀ x ∈ T2, okS x) ∧ expS T2 [] = (y, 0) ∧ y.length = M ∧ (M : Int) = 524257 ∧ T2 ++ [tR] = T3 ∧ T3.length = 2034 ∧ (∀ x ∈ T3, okS x) ∧ expS T3 [] = ([], 2) := by
  obtain ⟨y, M, h1, h2, h3⟩ := many_y
  exact ⟨_, _, y, M, rfl, manyT_len _, manyT_okS _, h1, h2, by omega, manyT_snoc _, manyT_len _, manyT_okS _, many_over⟩
theorem match_a : matchS (nat [97, 97, 97, 97, 97]) = [⟨97, 0, 0⟩, ⟨0, 4, 1⟩] := by kernel_rfl
theorem match_b : matchS (nat [97, 98, 97, 98]) = [⟨97, 0, 0⟩, ⟨98, 0, 0⟩, ⟨97, 0, 0⟩, ⟨98, 0, 0⟩] := by kernel_rfl
theorem match_c : matchS (nat [120, 97, 98, 99, 121, 97, 98, 99, 100, 122, 97, 98, 99, 100]) = [⟨120, 0, 0⟩, ⟨97, 0, 0⟩, ⟨98, 0, 0⟩, ⟨99, 0, 0⟩, ⟨121, 0, 0⟩, ⟨0, 3, 4⟩, ⟨100, 0, 0⟩, ⟨122, 0, 0⟩, ⟨0, 4, 5⟩] := by kernel_rfl
theorem match_nil : matchS (nat []) = [] := rfl
/-- the rows that Expand refuses -/
def badT : List (List S26) := [[tA, ⟨0, 3, 2⟩], [⟨0, 2, 1⟩], [tA, ⟨0, 2, 1⟩], [tA, ⟨0, 259, 1⟩], [tA, ⟨1, 3, 1⟩], [tA, ⟨0, 0, 1⟩], [tA, ⟨0, 3, 0⟩], [tA, ⟨0, -1, 1⟩], [tA, ⟨0, 3, -1⟩]]
theorem bad_exp : ∀ T ∈ badT, expS T [] = ([], 70) := by
  intro T hT
  simp only [badT, List.mem_cons, List.not_mem_nil, or_false] at hT
  rcases hT with rfl | rfl | rfl | rfl | rfl | rfl | rfl | rfl | rfl <;> kernel_rfl
theorem bad_okS : ∀ T ∈ badT, ∀ x ∈ T, okS x := by
  intro T hT x hx
  simp only [badT, List.mem_cons, List.not_mem_nil, or_false] at hT
  rcases hT with rfl | rfl | rfl | rfl | rfl | rfl | rfl | rfl | rfl <;>
    simp only [List.mem_cons, List.not_mem_nil, or_false] at hx <;>
    (first | (rcases hx with rfl | rfl) | subst hx) <;> (unfold okS; simp [tA])
end Go.Proofs.Ytgfjbbjdkmgdjaa.L
