/- Arguments that are slices of structs: their elements' cells, one behind the other. -/
import Derived.Test.YtpgiljjjpijepaaSep
import Derived.OpenShut
import Derived.ChangeOld
import Derived.ChangeSlices
import Derived.Deep.Slices
import Derived.Deep.Fields
import Derived.ChangeSame
import Derived.Lib.SmallJoins
namespace Go.Proofs.Ytpgiljjjpijepaa
open Go.RowKit Go.ChangeShapes Go.WideShapes Go.ChangeAt Go.Deep
theorem pick_list {α : Type} (Q : Nat → α → Prop) : ∀ n, (∀ i, i < n → ∃ s, Q i s) → ∃ l : List α, l.length = n ∧ ∀ i s, l[i]? = some s → Q i s
  | 0, _ => ⟨[], rfl, fun i s h => by simp at h⟩
  | n + 1, h => by
    obtain ⟨l, hl, hq⟩ := pick_list Q n fun i hi => h i (by omega)
    obtain ⟨s, hs⟩ := h n (by omega)
    refine ⟨l ++ [s], by simp [hl], fun i u hu => ?_⟩
    rcases Nat.lt_or_ge i l.length with hi | hi
    · rw [List.getElem?_append_left hi] at hu
      exact hq i u hu
    · have hin : i < (l ++ [s]).length := (List.getElem?_eq_some_iff.1 hu).1
      have : i = n := by simp [hl] at hin; omega
      subst this
      rw [← hl, List.getElem?_concat_length] at hu
      injection hu with hu
      subst hu
      exact hs
section
variable {H : Type} {enc : TypeId × Value → H} {P : Program} {w : World} {base : Nat} {spare : Nat → Bool} {held : Bool}
/-- the fields of a struct that reads as data -/
theorem fields_in {t : TypeId} {fs : Array Field} {fuel : Nat} {cs : List Value} {x : DataW H × List MemPlace} (ht : P.underlying t = some (.struct fs)) (h : DataW.trod enc P w base spare held fuel t cs = some x) :
    ∃ n, cs.length = P.cellsOf t ∧ ∀ (i off k : Nat) (ft : TypeId), fs[i]?.map (fun f => (f.offset, f.type)) = some (off, ft) → P.cellsOf ft = k → ∃ z, DataW.trod enc P w base spare held n ft ((cs.drop off).take k) = some z := by
  obtain ⟨ys, n', _, _, hl, hyl, hf⟩ := DataW.trod_struct ht h
  refine ⟨n', hl, fun i off k ft hi hk => ?_⟩
  cases hfi : fs[i]? with
  | none => rw [hfi] at hi; simp at hi
  | some f =>
    rw [hfi] at hi
    simp only [Option.map_some, Option.some.injEq, Prod.mk.injEq] at hi
    obtain ⟨rfl, rfl⟩ := hi
    have h1 := hf i f hfi
    rw [hk] at h1
    cases hy : ys[i]? with
    | none =>
      have hlt : i < fs.size := (Array.getElem?_eq_some_iff.1 hfi).1
      rw [List.getElem?_eq_none_iff] at hy
      omega
    | some z => exact ⟨z, h1.trans hy⟩
theorem flatMap_get {α : Type} (cells : α → List Value) (k : Nat) (hk : ∀ x, (cells x).length = k) : ∀ (l : List α) (i : Nat) (h : i < l.length) (j : Nat) (u : Value), (cells l[i])[j]? = some u → (l.flatMap cells)[i * k + j]? = some u
  | a :: l, 0, _, j, u, hu => by
    have hj : j < k := by have := (List.getElem?_eq_some_iff.1 hu).1; simpa [hk] using this
    rw [List.flatMap_cons, Nat.zero_mul, Nat.zero_add, List.getElem?_append_left (by rw [hk]; exact hj)]
    exact hu
  | a :: l, i + 1, h, j, u, hu => by
    have he : (i + 1) * k + j - (cells a).length = i * k + j := by rw [hk, Nat.succ_mul]; omega
    rw [List.flatMap_cons, List.getElem?_append_right (by rw [hk, Nat.succ_mul]; omega), he]
    exact flatMap_get cells k hk l i (by simpa using h) j u (by simpa using hu)
theorem flatMap_len {α : Type} (cells : α → List Value) (k : Nat) (hk : ∀ x, (cells x).length = k) (l : List α) : (l.flatMap cells).length = l.length * k := by
  induction l with
  | nil => simp
  | cons a l ih => rw [List.flatMap_cons, List.length_append, ih, hk, List.length_cons, Nat.succ_mul]; omega
/-- where the j-th of all cells stands -/
theorem flatMap_at {α : Type} (cells : α → List Value) (k : Nat) (hk : ∀ x, (cells x).length = k) : ∀ (l : List α) (q : Nat) (u : Value), (l.flatMap cells)[q]? = some u → ∃ i j, ∃ h : i < l.length, q = i * k + j ∧ (cells l[i])[j]? = some u
  | [], _, _, h => by simp at h
  | a :: l, q, u, h => by
    rw [List.flatMap_cons] at h
    rcases Nat.lt_or_ge q (cells a).length with hq | hq
    · rw [List.getElem?_append_left hq] at h
      exact ⟨0, q, by simp, by omega, h⟩
    · rw [List.getElem?_append_right hq] at h
      obtain ⟨i, j, hi, he, hu⟩ := flatMap_at cells k hk l _ u h
      refine ⟨i + 1, j, by simp; omega, ?_, by simpa using hu⟩
      rw [Nat.succ_mul]
      rw [hk] at he hq
      omega
/-- a slice whose elements are read as 'cells' of something -/
theorem slice_in {α : Type} (cells : α → List Value) (ok : α → Prop) (k : Nat) (hk : ∀ x, (cells x).length = k) (hpos : 0 < k) {t e : TypeId} (ht : P.underlying t = some (.slice e)) (hC : P.cellsOf e = k)
    (opn : ∀ n cs y, DataW.trod enc P w base (fun _ => true) held n e cs = some y → ∃ x, ok x ∧ cs = cells x) {fuel : Nat} {cs : List Value} {y : DataW H × List MemPlace} (h : DataW.trod enc P w base (fun _ => true) held fuel t cs = some y) :
    ∃ (l : List α) (A : Option Addr) (c : Nat), cs = [.slice A l.length c] ∧ (∀ x ∈ l, ok x) ∧ l.length ≤ c ∧ c ≤ maxLen ∧ Reads w w.heap.size k A l.length (l.flatMap cells) := by
  rcases open_slice ht h with ⟨hcs, _⟩ | ⟨a, len, cap, m, n', D, Pl, hcs, _, hl, hm, hmm, _, hi⟩
  · exact ⟨[], none, 0, hcs, by simp, by simp, Nat.zero_le _, by simpa using Reads.none_⟩
  · rw [hC] at hi
    obtain ⟨l, hll, hq⟩ := pick_list (fun i s => ok s ∧ ∀ j u, (cells s)[j]? = some u → w.cell? (a.add (i * k + j)) = some u) len fun i hin => by
      obtain ⟨cs', hc, ht⟩ := hi i (by simp only [if_true] at hmm; omega)
      obtain ⟨_, hcl, hat⟩ := World.cells?_some hc
      obtain ⟨s, hs, rfl⟩ := opn _ _ _ ht
      refine ⟨s, hs, fun j u hu => ?_⟩
      have hj : j < k := by
        have := (List.getElem?_eq_some_iff.1 hu).1
        rwa [hk] at this
      rw [← Go.Deep.add_add, hat j hj]
      exact hu
    refine ⟨l, some a, cap, by rw [hll]; exact hcs, fun x hx => ?_, by omega, hm, ⟨flatMap_len cells k hk l, fun hn => ⟨a, rfl, ?_, fun j u hu => ?_⟩⟩⟩
    · obtain ⟨i, hlt, rfl⟩ := List.getElem_of_mem hx
      exact (hq i _ (List.getElem?_eq_getElem hlt)).1
    · have h0 := (hq 0 _ (List.getElem?_eq_getElem hn)).2 0 _ (List.getElem?_eq_getElem (by rw [hk]; exact hpos))
      have := World.block_lt_of_cell? w _ h0
      rwa [block_of_add] at this
    · obtain ⟨i, j', hi', rfl, hu'⟩ := flatMap_at cells k hk l j u hu
      exact (hq i _ (List.getElem?_eq_getElem hi')).2 j' u hu'
end
/-- the cells of the i-th element -/
theorem Reads.elem {α : Type} {cells : α → List Value} {k : Nat} (hk : ∀ x, (cells x).length = k) (hpos : 0 < k) {w : World} {B : Nat} {A : Option Addr} {l : List α} (h : Reads w B k A l.length (l.flatMap cells)) {i : Nat} (hi : i < l.length) :
    ∃ b o, A = some ⟨b, o, none⟩ ∧ b < B ∧ ∀ j u, (cells l[i])[j]? = some u → w.cell? ⟨b, o + i * k + j, none⟩ = some u := by
  obtain ⟨ad, rfl, hb, hc⟩ := h.2 (by omega)
  have h0 := hc (0 * k + 0) _ (flatMap_get cells k hk l 0 (by omega) 0 _ (List.getElem?_eq_getElem (by rw [hk]; exact hpos)))
  obtain ⟨b, o, s⟩ := ad
  have hs : s = none := by
    rw [Nat.zero_mul] at h0
    exact World.cell?_spot (a := ⟨b, o, s⟩) h0
  subst hs
  refine ⟨b, o, rfl, hb, fun j u hu => ?_⟩
  have := hc _ u (flatMap_get cells k hk l i hi j u hu)
  have he : (⟨b, o, none⟩ : Addr).add (i * k + j) = ⟨b, o + (i * k + j), none⟩ := by unfold Addr.add; split <;> simp_all
  rwa [he, ← Nat.add_assoc] at this
end Go.Proofs.Ytpgiljjjpijepaa
