/- Tokens that came in: their numbers. -/
import Derived.Test.YtgfjbbjdkmgdjaaLx0
import Derived.OpenShut
import Derived.ChangeOld
import Derived.ChangeSlices
import Derived.Deep.Slices
import Derived.Deep.Fields
import Derived.ChangeSame
import Derived.Lib.SmallJoins
namespace Go.Proofs.Ytgfjbbjdkmgdjaa.L
open Go.RowKit Go.ChangeShapes Go.WideShapes Go.ChangeAt Go.Deep Go.Proofs.YtgfjbbjdkmgdjaaW.PrintWords
/-- a token whose numbers are in their types -/
def okS (x : S26) : Prop := (0 ≤ x.f0 ∧ x.f0 < 256) ∧ (-9223372036854775808 ≤ x.f1 ∧ x.f1 ≤ 9223372036854775807) ∧ (-9223372036854775808 ≤ x.f2 ∧ x.f2 ≤ 9223372036854775807)
theorem pick_list {α : Type} (Q : Nat → α → Prop) : ∀ n, (∀ i, i < n → ∃ s, Q i s) → ∃ l : List α, l.length = n ∧ ∀ i s, l[i]? = some s → Q i s
  | 0, _ => ⟨[], rfl, fun i s h => by simp at h⟩
  | n + 1, h => by
    obtain ⟨l, hl, hq⟩ := pick_list Q n fun i hi => h i (by omega)
    obtain ⟨s, hs⟩ := h n (by omega)
    refine ⟨l ++ [s], by simp [hl], fun i u hu => ?_⟩
    rcases Nat.lt_or_ge i l.length with hi | hi
    · rw [List.getElem?_append_left hi] at hu
      exact hq i u hu
    · have hin : i < (l ++ [s]).length := (List.getElem?_eq_some_iff.1 hu).1
      have : i = n := by simp [hl] at hin; omega
      subst this
      rw [← hl, List.getElem?_concat_length] at hu
      injection hu with hu
      subst hu
      exact hs
theorem tok_cells {H : Type} {enc : TypeId × Value → H} {W : World} {fs : Array Field} {n : Nat} {cs : List Value} {y : DataW H × List MemPlace} (he : Try.prog.underlying 26 = some (.struct fs)) (hone : oneCellFields Try.prog fs = true)
    (hf0 : fs[0]?.map (·.type) = some 5) (hf1 : fs[1]?.map (·.type) = some 3) (hf2 : fs[2]?.map (·.type) = some 3) (hl : cs.length = 3) (h : DataW.trod enc Try.prog W 0 (fun _ => true) true n 26 cs = some y) :
    ∃ s : S26, okS s ∧ cs = [.int .u8 s.f0, .int .i64 s.f1, .int .i64 s.f2] := by
  obtain ⟨ys, n', _, _, _, _, hf⟩ := DataW.trod_struct he h
  obtain ⟨v0, v1, v2, rfl⟩ : ∃ v0 v1 v2, cs = [v0, v1, v2] := by
    rcases cs with _ | ⟨v0, _ | ⟨v1, _ | ⟨v2, _ | ⟨v3, r⟩⟩⟩⟩ <;> simp at hl
    exact ⟨v0, v1, v2, rfl⟩
  have key : ∀ (j : Nat) (t : TypeId), fs[j]?.map (·.type) = some t → ∀ v, ([v0, v1, v2].drop j).take 1 = [v] → ∃ z : DataW H × List MemPlace, DataW.trod enc Try.prog W 0 (fun _ => true) true n' t [v] = some z := by
    intro j t hj v hv
    cases hfj : fs[j]? with
    | none => rw [hfj] at hj; simp at hj
    | some f =>
      rw [hfj] at hj
      simp only [Option.map_some, Option.some.injEq] at hj
      subst hj
      obtain ⟨ho, hk⟩ := hone_of hone j f hfj
      have h1 := hf j f hfj
      rw [ho, hk, hv] at h1
      cases hy : ys[j]? with
      | none =>
        have hlt : j < fs.size := (Array.getElem?_eq_some_iff.1 hfj).1
        rw [List.getElem?_eq_none_iff] at hy
        omega
      | some z => exact ⟨z, h1.trans hy⟩
  obtain ⟨z0, hz0⟩ := key 0 5 hf0 v0 rfl
  obtain ⟨z1, hz1⟩ := key 1 3 hf1 v1 rfl
  obtain ⟨z2, hz2⟩ := key 2 3 hf2 v2 rfl
  obtain ⟨e, e0, _, w0⟩ := DataW.trod_int Try.underlying5 hz0
  obtain ⟨o, e1, _, w1⟩ := DataW.trod_int Try.underlying3 hz1
  obtain ⟨a, e2, _, w2⟩ := DataW.trod_int Try.underlying3 hz2
  simp only [List.cons.injEq, and_true] at e0 e1 e2
  subst e0; subst e1; subst e2
  have b0 := bounds_u8 w0
  have b1 := bounds_i64 w1
  have b2 := bounds_i64 w2
  refine ⟨⟨e, o, a⟩, ?_, rfl⟩
  show (0 ≤ e ∧ e < 256) ∧ (-9223372036854775808 ≤ o ∧ o ≤ 9223372036854775807) ∧ (-9223372036854775808 ≤ a ∧ a ≤ 9223372036854775807)
  omega
theorem toks_in {H : Type} {enc : TypeId × Value → H} {W : World} {n : Nat} {cs : List Value} {y : DataW H × List MemPlace} (h : DataW.trod enc Try.prog W 0 (fun _ => true) true n 23 cs = some y) :
    ∃ (l : List S26) (A : Option Addr) (c : Nat), cs = [.slice A l.length c] ∧ (∀ x ∈ l, okS x) ∧ Kd.C k26 W A l.length l ∧ l.length ≤ c := by
  rcases open_slice Try.underlying23 h with ⟨hcs, _⟩ | ⟨a, len, cap, m, n', D, Pl, hcs, _, hl, hm, hmm, _, hi⟩
  · exact ⟨[], none, 0, hcs, by simp, ⟨rfl, by simp, fun h => by simp at h⟩, by simp⟩
  · have hc3 : Try.prog.cellsOf 26 = 3 := by kernel_rfl
    rw [hc3] at hi
    obtain ⟨l, hll, hq⟩ := pick_list (fun i s => okS s ∧ ∀ j u, [Value.int .u8 s.f0, .int .i64 s.f1, .int .i64 s.f2][j]? = some u → W.cell? (a.add (i * 3 + j)) = some u) len fun i hin => by
      obtain ⟨cs', hc, ht⟩ := hi i (by simp only [if_true] at hmm; omega)
      obtain ⟨_, hcl, hat⟩ := World.cells?_some hc
      obtain ⟨s, hs, rfl⟩ := tok_cells Try.underlying26 (by kernel_rfl) (by kernel_rfl) (by kernel_rfl) (by kernel_rfl) hcl ht
      refine ⟨s, hs, fun j u hu => ?_⟩
      have hj : j < 3 := by
        have := (List.getElem?_eq_some_iff.1 hu).1
        simpa using this
      rw [← Go.Deep.add_add, hat j hj]
      exact hu
    refine ⟨l, some a, cap, by rw [hll]; exact hcs, fun x hx => ?_, ⟨rfl, by rw [hll]; unfold maxLen at hm; omega, fun _ => ⟨a, rfl, fun j p hp => ⟨_, rfl, k26_mk W p, (hq j p hp).2⟩⟩⟩, by omega⟩
    obtain ⟨i, hlt, rfl⟩ := List.getElem_of_mem hx
    exact (hq i _ (List.getElem?_eq_getElem hlt)).1
end Go.Proofs.Ytgfjbbjdkmgdjaa.L
