/- How often each flight may come still: plain counting. -/
import Derived.Test.YtmacmhlimdaemaaNSpend
namespace Go.Proofs.Ytmacmhlimdaemaa.Net
open Go.RowKit Go.Proofs.YtmacmhlimdaemaaW.PrintWords Go.Proofs.Ytmacmhlimdaemaa.R Go.Proofs.Ytmacmhlimdaemaa.Pkt
open Classical
noncomputable def cnt (f : Fl) : List Fl → Int
  | [] => 0
  | g :: fs => (if g = f then 1 else 0) + cnt f fs
noncomputable def tot (f : Fl) : List Fl → List Int → Int
  | s :: ss, x :: ls => (if s = f then x else 0) + tot f ss ls
  | _, _ => 0
def sumL : List Int → Int
  | [] => 0
  | x :: ls => x + sumL ls
theorem cnt_append (f : Fl) (a b : List Fl) : cnt f (a ++ b) = cnt f a + cnt f b := by
  induction a with
  | nil => simp [cnt]
  | cons x a ih => simp only [List.cons_append, cnt, ih]; omega
theorem cnt_nonneg (f : Fl) (a : List Fl) : 0 ≤ cnt f a := by
  induction a with
  | nil => simp [cnt]
  | cons x a ih => simp only [cnt]; split <;> omega
theorem cnt_mem (f : Fl) (a : List Fl) (h : f ∈ a) : 0 < cnt f a := by
  induction a with
  | nil => simp at h
  | cons x a ih =>
    simp only [cnt]
    have := cnt_nonneg f a
    rcases List.mem_cons.1 h with h | h
    · rw [if_pos h.symm]; omega
    · have := ih h
      split <;> omega
theorem cnt_erase (f g : Fl) : ∀ (a : List Fl) (i : Nat), a[i]? = some g → cnt f (a.eraseIdx i) = cnt f a - (if g = f then 1 else 0)
  | [], i, h => by simp at h
  | x :: a, 0, h => by
    simp only [List.getElem?_cons_zero, Option.some.injEq] at h
    subst h
    simp only [List.eraseIdx_cons_zero, cnt]
    omega
  | x :: a, i + 1, h => by
    rw [List.getElem?_cons_succ] at h
    have ih := cnt_erase f g a i h
    simp only [List.eraseIdx_cons_succ, cnt, ih]
    omega
theorem tot_append (f g : Fl) (x : Int) : ∀ (ss : List Fl) (ls : List Int), ls.length = ss.length → tot f (ss ++ [g]) (ls ++ [x]) = tot f ss ls + (if g = f then x else 0)
  | [], [], _ => by simp [tot]
  | s :: ss, y :: ls, h => by
    have ih := tot_append f g x ss ls (by simpa using h)
    simp only [List.cons_append, tot, ih]
    omega
  | [], _ :: _, h => by simp at h
  | _ :: _, [], h => by simp at h
theorem tot_set (f g : Fl) (x y : Int) : ∀ (ss : List Fl) (ls : List Int) (j : Nat), ss[j]? = some g → ls[j]? = some x → tot f ss (ls.set j y) = tot f ss ls + (if g = f then y - x else 0)
  | s :: ss, z :: ls, 0, h, k => by
    simp only [List.getElem?_cons_zero, Option.some.injEq] at h k
    subst h k
    simp only [List.set_cons_zero, tot]
    split <;> omega
  | s :: ss, z :: ls, j + 1, h, k => by
    rw [List.getElem?_cons_succ] at h k
    have ih := tot_set f g x y ss ls j h k
    simp only [List.set_cons_succ, tot, ih]
    omega
  | [], _, _, h, _ => by simp at h
  | _ :: _, [], _, _, k => by simp at k
theorem tot_has (f : Fl) : ∀ (ss : List Fl) (ls : List Int), (∀ x ∈ ls, 0 ≤ x) → 0 < tot f ss ls → Has ss ls f
  | [], _, _, h => by simp [tot] at h
  | _ :: _, [], _, h => by simp [tot] at h
  | s :: ss, y :: ls, hn, h => by
    simp only [tot] at h
    by_cases hs : s = f ∧ 0 < y
    · exact ⟨0, y, by rw [hs.1]; rfl, rfl, hs.2⟩
    · have h2 : 0 < tot f ss ls := by
        have := hn y (by simp)
        split at h
        · have : ¬ 0 < y := fun e => hs ⟨by assumption, e⟩
          omega
        · omega
      obtain ⟨j, x, h3, h4, h5⟩ := tot_has f ss ls (fun x hx => hn x (by simp [hx])) h2
      exact ⟨j + 1, x, by rw [List.getElem?_cons_succ]; exact h3, by rw [List.getElem?_cons_succ]; exact h4, h5⟩
theorem sumL_append (x : Int) (ls : List Int) : sumL (ls ++ [x]) = sumL ls + x := by
  induction ls with
  | nil => simp [sumL]
  | cons y ls ih => simp only [List.cons_append, sumL, ih]; omega
theorem sumL_set (x y : Int) : ∀ (ls : List Int) (j : Nat), ls[j]? = some x → sumL (ls.set j y) = sumL ls + (y - x)
  | z :: ls, 0, k => by
    simp only [List.getElem?_cons_zero, Option.some.injEq] at k
    subst k
    simp only [List.set_cons_zero, sumL]
    omega
  | z :: ls, j + 1, k => by
    rw [List.getElem?_cons_succ] at k
    have ih := sumL_set x y ls j k
    simp only [List.set_cons_succ, sumL, ih]
    omega
  | [], _, k => by simp at k
theorem sumL_nonneg (ls : List Int) (h : ∀ x ∈ ls, 0 ≤ x) : 0 ≤ sumL ls := by
  induction ls with
  | nil => simp [sumL]
  | cons y ls ih =>
    have := h y (by simp)
    have := ih fun x hx => h x (by simp [hx])
    simp only [sumL]
    omega
theorem sumL_le (ls : List Int) (h : ∀ x ∈ ls, 0 ≤ x) : ∀ x ∈ ls, x ≤ sumL ls := by
  induction ls with
  | nil => simp
  | cons y ls ih =>
    intro x hx
    have h1 := h y (by simp)
    have h2 := sumL_nonneg ls fun x hx => h x (by simp [hx])
    simp only [sumL]
    rcases List.mem_cons.1 hx with rfl | hx
    · omega
    · have := ih (fun x hx => h x (by simp [hx])) x hx
      omega
theorem sumL_take (ls : List Int) (h : ∀ x ∈ ls, 0 ≤ x) (k : Nat) : 0 ≤ sumL (ls.take k) ∧ sumL (ls.take k) ≤ sumL ls := by
  induction ls generalizing k with
  | nil => simp [sumL]
  | cons y ls ih =>
    have h1 := h y (by simp)
    have h2 := sumL_nonneg ls fun x hx => h x (by simp [hx])
    rcases k with _ | k
    · simp only [List.take_zero, sumL]; omega
    · have := ih (fun x hx => h x (by simp [hx])) k
      simp only [List.take_succ_cons, sumL]
      omega
/-- what is under way, what was sent, and how often each may come still -/
structure Inv (fs ss : List Fl) (ls : List Int) : Prop where
  len : ls.length = ss.length
  nn : ∀ x ∈ ls, 0 ≤ x
  cnt : ∀ f, tot f ss ls = cnt f fs
  sum : sumL ls = fs.length
theorem Inv.nil : Inv [] [] [] := ⟨rfl, by simp, fun f => rfl, rfl⟩
theorem Inv.send {fs ss : List Fl} {ls : List Int} (h : Inv fs ss ls) (f : Fl) : Inv (fs ++ [f]) (ss ++ [f]) (ls ++ [1]) :=
  ⟨by simp [h.len], fun x hx => by
    rcases List.mem_append.1 hx with hx | hx
    · exact h.nn x hx
    · obtain rfl : x = 1 := by simpa using hx
      decide, fun g => by
    rw [tot_append g f 1 ss ls h.len, h.cnt g, cnt_append]
    simp [Net.cnt], by rw [sumL_append, h.sum]; simp⟩
theorem Inv.has {fs ss : List Fl} {ls : List Int} (h : Inv fs ss ls) {f : Fl} (hf : f ∈ fs) : Has ss ls f := tot_has f ss ls h.nn (by rw [h.cnt f]; exact cnt_mem f fs hf)
theorem set_mem {ls : List Int} {j : Nat} {y x : Int} (h : x ∈ ls.set j y) : x ∈ ls ∨ x = y := List.mem_or_eq_of_mem_set h
theorem Inv.take {fs ss : List Fl} {ls : List Int} (h : Inv fs ss ls) {f : Fl} {i j : Nat} {x : Int} (hi : fs[i]? = some f) (hj : ss[j]? = some f) (hx : ls[j]? = some x) (h0 : 0 < x) : Inv (fs.eraseIdx i) ss (ls.set j (x + -1)) := by
  have hil := (List.getElem?_eq_some_iff.1 hi).1
  refine ⟨by rw [List.length_set]; exact h.len, fun y hy => ?_, fun g => ?_, ?_⟩
  · rcases set_mem hy with hy | rfl
    · exact h.nn y hy
    · omega
  · rw [tot_set g f x _ ss ls j hj hx, cnt_erase g f fs i hi, h.cnt g]
    split <;> omega
  · rw [sumL_set x _ ls j hx, h.sum, List.length_eraseIdx_of_lt hil]; omega
theorem Inv.dbl {fs ss : List Fl} {ls : List Int} (h : Inv fs ss ls) {f : Fl} {j : Nat} {x : Int} (hj : ss[j]? = some f) (hx : ls[j]? = some x) (h0 : 0 < x) : Inv (fs ++ [f]) ss (ls.set j (x + 1)) := by
  refine ⟨by rw [List.length_set]; exact h.len, fun y hy => ?_, fun g => ?_, ?_⟩
  · rcases set_mem hy with hy | rfl
    · exact h.nn y hy
    · omega
  · rw [tot_set g f x _ ss ls j hj hx, cnt_append, h.cnt g]
    simp only [Net.cnt]
    split <;> omega
  · rw [sumL_set x _ ls j hx, h.sum, List.length_append]; simp; omega
end Go.Proofs.Ytmacmhlimdaemaa.Net
