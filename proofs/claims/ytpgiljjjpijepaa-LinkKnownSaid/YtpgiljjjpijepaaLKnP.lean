/- The closed example's states: what ticks tell, what packets do. -/
import Derived.Test.YtpgiljjjpijepaaLKnA
namespace Go.Proofs.Ytpgiljjjpijepaa
open Go.RowKit
def kA1 : LS := { newL 1 with wait := [120] }
def kA (t : Nat) : LS := { kA1 with sent := 1, most := 1, ticks := t }
def kP0 : Pk := ⟨1, 0, 0, [120]⟩
theorem kA1_tick : tickS kA1 = kA 0 ∧ tickP kA1 = [kP0] := by
  have h : pieces kA1 = (kA 0, [kP0]) := by
    rw [pieces_more (by decide), pieces_none (by decide)]
    rfl
  unfold tickS tickP
  rw [show lateS kA1 = kA1 from rfl, h]
  exact ⟨rfl, rfl⟩
theorem kA_tick {t : Nat} (ht : t < 4) : tickS (kA t) = kA (t + 1) ∧ tickP (kA t) = [] := by
  have h0 : lateS (kA t) = kA (t + 1) := by
    unfold lateS
    rw [if_neg (show ¬ (kA t).sent = (kA t).base by show ¬ (1 : Nat) = 0; decide), if_neg (show ¬ 4 < (kA t).ticks + 1 by show ¬ 4 < t + 1; omega)]
    rfl
  have h : pieces (kA (t + 1)) = (kA (t + 1), []) := pieces_none rfl
  unfold tickS tickP
  rw [h0, h]
  exact ⟨rfl, rfl⟩
theorem kA4_tick : tickS (kA 4) = kA 0 ∧ tickP (kA 4) = [kP0] := by
  have h0 : lateS (kA 4) = { kA 0 with sent := 0 } := rfl
  have h : pieces { kA 0 with sent := 0 } = (kA 0, [kP0]) := by
    rw [pieces_more (by decide), pieces_none (by decide)]
    rfl
  unfold tickS tickP
  rw [h0, h]
  exact ⟨rfl, rfl⟩
theorem kA1_inv : Inv kA1 := by constructor <;> decide
theorem kA_inv (t : Nat) : Inv (kA t) := ⟨by show 0 ≤ 1; decide, by show 1 ≤ 0 + 1; decide, by show 1 ≤ 1048576; decide, by show 0 ≤ 1000000000000; decide, by show 1 ≤ 2000000000000; decide, by show 1 ≤ 0 + 1024; decide⟩
def kQ1 : Pk := ⟨2, 0, 0, []⟩
def kQ2 : Pk := ⟨1, 0, 9, []⟩
theorem kA_q1 : takeE (kA 0) kQ1 = 220 ∧ takeS (kA 0) kQ1 = kA 0 := ⟨rfl, rfl⟩
theorem kA_q2 : takeE (kA 0) kQ2 = 221 ∧ takeS (kA 0) kQ2 = kA 0 := ⟨rfl, rfl⟩
/-- the long row -/
def lng : List Nat := (List.range 1300).map (· % 256)
theorem lng_len : lng.length = 1300 := by simp [lng]
def lc : Nat → Array Value
  | 0 => (List.replicate 1300 (enB 0)).toArray
  | i + 1 => (lc i).setIfInBounds i (enB (i % 256))
theorem lc_size : ∀ i, (lc i).size = 1300
  | 0 => by unfold lc; rw [List.size_toArray, List.length_replicate]
  | i + 1 => by unfold lc; rw [Array.size_setIfInBounds, lc_size i]
theorem lc_get : ∀ i j (_ : j < 1300), (lc i)[j]? = some (enB (if j < i then j % 256 else 0))
  | 0, j, h => by unfold lc; rw [List.getElem?_toArray, List.getElem?_replicate, if_pos h, if_neg (by omega)]
  | i + 1, j, h => by
    unfold lc
    rw [Array.getElem?_setIfInBounds]
    by_cases hij : i = j
    · subst hij
      rw [if_pos rfl, if_pos (by rw [lc_size]; exact h), if_pos (by omega)]
    · rw [if_neg hij, lc_get i j h]
      by_cases h2 : j < i
      · rw [if_pos h2, if_pos (by omega)]
      · rw [if_neg h2, if_neg (by omega)]
theorem lc_end : (lc 1300).toList = lng.map enB := by
  apply List.ext_getElem?
  intro j
  rw [Array.getElem?_toList]
  by_cases h : j < 1300
  · rw [lc_get 1300 j h, if_pos h]
    simp [lng, h]
  · rw [Array.getElem?_eq_none (by rw [lc_size]; omega), List.getElem?_eq_none (by rw [List.length_map, lng_len]; omega)]
/-- the long row's link: so much is confirmed, so much was sent -/
def kC (b s t : Nat) : LS := { newL 7 with wait := lng.drop b, base := b, sent := s, most := s, ticks := t }
def kP (b s k : Nat) : Pk := ⟨7, s, 0, ((lng.drop b).drop (s - b)).take k⟩
theorem kC_len (b s t : Nat) : (kC b s t).wait.length = 1300 - b := by show (lng.drop b).length = _; rw [List.length_drop, lng_len]
theorem kC_k (b s t : Nat) : kOf (kC b s t) = min (min ((1300 - b) - (s - b)) 256) (1024 - (s - b)) := by
  unfold kOf
  rw [kC_len]
  rfl
theorem kC_more (b s t k : Nat) (hk : min (min ((1300 - b) - (s - b)) 256) (1024 - (s - b)) = k) (h0 : k ≠ 0) : pieces (kC b s t) = ((pieces (kC b (s + k) t)).1, kP b s k :: (pieces (kC b (s + k) t)).2) := by
  have h := kC_k b s t
  rw [hk] at h
  have h1 : pieceS (kC b s t) = kC b (s + k) t := by
    unfold pieceS
    rw [h]
    have hm : max (kC b s t).most ((kC b s t).sent + k) = s + k := by show max s (s + k) = _; omega
    rw [hm]
    rfl
  have h2 : pieceP (kC b s t) = kP b s k := by
    unfold pieceP
    rw [h]
    rfl
  rw [pieces_more (by rw [h]; exact h0), h1, h2]
theorem kC_none (b s t : Nat) (hk : min (min ((1300 - b) - (s - b)) 256) (1024 - (s - b)) = 0) : pieces (kC b s t) = (kC b s t, []) := pieces_none ((kC_k b s t).trans hk)
theorem kC_inv (b s t : Nat) (h1 : b ≤ s) (h2 : s ≤ 1300) (h3 : s ≤ b + 1024) : Inv (kC b s t) := by
  refine ⟨h1, ?_, ?_, ?_, ?_, h3⟩
  · rw [kC_len]
    show s ≤ b + (1300 - b)
    omega
  · rw [kC_len]
    omega
  · show b ≤ 1000000000000
    omega
  · show s ≤ 2000000000000
    omega
theorem kC_late0 (b t : Nat) : lateS (kC b b t) = kC b b t := by unfold lateS; exact if_pos rfl
theorem kC_late (b s t : Nat) (h : s ≠ b) (ht : t < 4) : lateS (kC b s t) = kC b s (t + 1) := by
  unfold lateS
  rw [if_neg (show ¬ (kC b s t).sent = (kC b s t).base from h), if_neg (show ¬ 4 < (kC b s t).ticks + 1 by show ¬ 4 < t + 1; omega)]
  rfl
theorem kC_ow (b s t : Nat) : ({ kC b s t with owes := false } : LS) = kC b s t := rfl
theorem tick_of {s s1 : LS} {b x t : Nat} {ps : List Pk} (h1 : lateS s = s1) (h2 : pieces s1 = (kC b x t, ps)) : tickS s = kC b x t ∧ tickP s = ps := by
  unfold tickS tickP told
  rw [h1, h2]
  refine ⟨kC_ow b x t, ?_⟩
  by_cases h : ps = []
  · subst h
    rw [if_pos rfl, if_neg (show ¬ (kC b x t).owes = true by intro h; cases h)]
  · rw [if_neg h]
theorem kC_tick1 : tickS (kC 0 0 0) = kC 0 1024 0 ∧ tickP (kC 0 0 0) = [kP 0 0 256, kP 0 256 256, kP 0 512 256, kP 0 768 256] := by
  refine tick_of (kC_late0 0 0) ?_
  rw [kC_more 0 0 0 256 (by decide) (by decide), kC_more 0 (0 + 256) 0 256 (by decide) (by decide), kC_more 0 (0 + 256 + 256) 0 256 (by decide) (by decide), kC_more 0 (0 + 256 + 256 + 256) 0 256 (by decide) (by decide), kC_none 0 (0 + 256 + 256 + 256 + 256) 0 (by decide)]
theorem kC_tick2 : tickS (kC 0 1024 0) = kC 0 1024 1 ∧ tickP (kC 0 1024 0) = [] :=
  tick_of (kC_late 0 1024 0 (by decide) (by decide)) (kC_none 0 1024 1 (by decide))
theorem kC_q (b s t a : Nat) (h1 : b < a) (h2 : a ≤ s) : takeE (kC b s t) ⟨7, 0, a, []⟩ = 0 ∧ takeS (kC b s t) ⟨7, 0, a, []⟩ = kC a s 0 := by
  have g1 : ¬ (7 : Nat) ≠ (kC b s t).epoch := fun h => h rfl
  have g2 : ¬ (kC b s t).most < a := by show ¬ s < a; omega
  have g3 : ¬ a ≤ (kC b s t).base := by show ¬ a ≤ b; omega
  have hc : confS (kC b s t) a = kC a s 0 := by
    unfold confS
    rw [if_neg g2, if_neg g3]
    have hm : max (kC b s t).sent a = s := by show max s a = s; omega
    have hw : (kC b s t).wait.drop (a - (kC b s t).base) = lng.drop a := by
      show (lng.drop b).drop (a - b) = _
      rw [List.drop_drop]
      congr 1
      omega
    rw [hm, hw]
    rfl
  unfold takeE takeS
  rw [if_neg g1, if_neg g2, if_neg g1, if_neg g2]
  refine ⟨rfl, ?_⟩
  show comeS (confS (kC b s t) a) 0 [] = _
  rw [hc]
  unfold comeS
  exact if_pos rfl
def kQ3 : Pk := ⟨7, 0, 300, []⟩
theorem kC_q3 : takeE (kC 0 1024 1) kQ3 = 0 ∧ takeS (kC 0 1024 1) kQ3 = kC 300 1024 0 := kC_q 0 1024 1 300 (by decide) (by decide)
theorem kC_tick3 : tickS (kC 300 1024 0) = kC 300 1300 1 ∧ tickP (kC 300 1024 0) = [kP 300 1024 256, kP 300 1280 20] := by
  refine tick_of (kC_late 300 1024 0 (by decide) (by decide)) ?_
  rw [kC_more 300 1024 (0 + 1) 256 (by decide) (by decide), kC_more 300 (1024 + 256) (0 + 1) 20 (by decide) (by decide), kC_none 300 (1024 + 256 + 20) (0 + 1) (by decide)]
theorem kP_len (b s k : Nat) (h : k ≤ (1300 - b) - (s - b)) : (kP b s k).d.length = k := by
  show (((lng.drop b).drop (s - b)).take k).length = k
  rw [List.length_take, List.length_drop, List.length_drop, lng_len]
  omega
theorem kP_first : (kP 0 0 256).d[0]? = some 0 := by
  unfold kP
  simp only [Nat.sub_self, List.drop_zero]
  rw [List.getElem?_take_of_lt (by decide)]
  unfold lng
  rw [List.getElem?_map, List.getElem?_range (by decide)]
  rfl
def late4 : List Nat := [108, 97, 116, 101]
def lo6 : List Nat := [108, 111, 32, 121, 111, 117]
def kD (l : List Nat) (n : Nat) : LS := { newL 7 with owes := true, got := l, next := n }
def kR1 : Pk := ⟨7, 5, 0, late4⟩
def kR2 : Pk := ⟨7, 0, 0, hello⟩
def kR3 : Pk := ⟨7, 3, 0, lo6⟩
def kR4 : Pk := ⟨7, 18446744073709551614, 0, lo6⟩
def hy : List Nat := [104, 101, 108, 108, 111, 32, 121, 111, 117]
theorem kD_1 : takeE (newL 7) kR1 = 0 ∧ takeS (newL 7) kR1 = kD [] 0 := ⟨rfl, rfl⟩
theorem kD_2 : takeE (kD [] 0) kR2 = 0 ∧ takeS (kD [] 0) kR2 = kD hello 5 := ⟨rfl, rfl⟩
theorem kD_3 : takeE (kD hello 5) kR3 = 0 ∧ takeS (kD hello 5) kR3 = kD hy 9 := ⟨rfl, rfl⟩
theorem kD_4 : takeE (kD hy 9) kR4 = 0 ∧ takeS (kD hy 9) kR4 = kD hy 9 := by
  refine ⟨rfl, ?_⟩
  have h0 : confS (kD hy 9) 0 = kD hy 9 := rfl
  unfold takeS
  rw [if_neg (by decide), if_neg (by decide), show kR4.a = 0 from rfl, h0]
  unfold comeS
  rw [if_neg (by decide), if_pos (Or.inl (by decide))]
  rfl
theorem kD_r1 : readB (kD hy 9) 4 = [104, 101, 108, 108] ∧ readL (kD hy 9) 4 = kD [111, 32, 121, 111, 117] 9 := ⟨rfl, rfl⟩
theorem kD_r2 : readB (kD [111, 32, 121, 111, 117] 9) 100 = [111, 32, 121, 111, 117] ∧ readL (kD [111, 32, 121, 111, 117] 9) 100 = kD [] 9 := ⟨rfl, rfl⟩
theorem kD_r3 : readB (kD [] 9) 1 = [] ∧ readL (kD [] 9) 1 = kD [] 9 := ⟨rfl, rfl⟩
theorem kD_r4 : readB (kD [] 9) (-1) = [] ∧ readL (kD [] 9) (-1) = kD [] 9 := ⟨rfl, rfl⟩
end Go.Proofs.Ytpgiljjjpijepaa
