/- The contract of crc.Sum in the printed texts' form. -/
import Derived.Test.YtmacmhlimdaemaaSum
import Derived.Test.YtmacmhlimdaemaaWWords
namespace Go.Proofs.Ytmacmhlimdaemaa.Ext
open Go.RowKit Go.Proofs.YtmacmhlimdaemaaW.PrintWords Go.Proofs.Ytmacmhlimdaemaa.Crc
/-- bytes, and no more than memory takes -/
def okB (l : List Int) : Bool := l.all (fun x => decide (0 ≤ x ∧ x < 256)) && decide (l.length ≤ 140737488351232)
def nat (l : List Int) : List Nat := l.map Int.toNat
theorem okB_mk {l : List Int} (h : ∀ x ∈ l, 0 ≤ x ∧ x < 256) (hl : l.length ≤ 140737488351232) : okB l = true := by
  unfold okB
  rw [Bool.and_eq_true, List.all_eq_true, decide_eq_true_iff]
  exact ⟨fun x hx => decide_eq_true (h x hx), hl⟩
theorem okB_mem {l : List Int} (h : okB l = true) : ∀ x ∈ l, 0 ≤ x ∧ x < 256 := by
  unfold okB at h
  rw [Bool.and_eq_true, List.all_eq_true] at h
  exact fun x hx => of_decide_eq_true (h.1 x hx)
theorem okB_len {l : List Int} (h : okB l = true) : l.length ≤ 140737488351232 := by
  unfold okB at h
  rw [Bool.and_eq_true] at h
  exact of_decide_eq_true h.2
theorem nat_lt {l : List Int} (h : okB l = true) : ∀ c ∈ nat l, c < 256 := by
  intro c hc
  obtain ⟨x, hx, rfl⟩ := List.mem_map.1 hc
  have := okB_mem h x hx
  omega
theorem nat_length (l : List Int) : (nat l).length = l.length := by simp [nat]
theorem reads_nat {w : World} {A : Option Addr} {l : List Int} (h : Kd.C (Kd.int .u8) w A l.length l) (hb : okB l = true) : Reads w w.heap.size 1 A l.length ((nat l).map encB) := by
  have h2 := Kd.reads_of_C (d := (0 : Int)) (h1 := fun _ => rfl) h
  refine ⟨by simp [nat], fun hn => ?_⟩
  obtain ⟨ad, e, hc⟩ := h2.2.2 hn
  have h0 := hc 0 hn
  refine ⟨ad, e, ?_, fun j u hu => ?_⟩
  · have := World.block_lt_of_cell? _ _ h0
    simpa [Addr.add] using this
  · have hj : j < l.length := by
      have := (List.getElem?_eq_some_iff.1 hu).1
      simpa [nat] using this
    rw [hc j hj]
    simp only [nat, List.map_map, List.getElem?_map, List.getElem?_eq_getElem hj, Option.map_some, Option.some.injEq] at hu
    rw [← hu, List.getD_eq_getElem?_getD, List.getElem?_eq_getElem hj]
    have := okB_mem hb l[j] (List.getElem_mem hj)
    simp only [Function.comp, encB, Option.getD_some]
    rw [Int.toNat_of_nonneg this.1]
def sumF (l : List Int) : Option Int := if okB l = true then some ((sum (nat l) : Nat) : Int) else none
theorem sumF_ok {l : List Int} (h : okB l = true) : sumF l = some ((sum (nat l) : Nat) : Int) := if_pos h
theorem sum_calls (A0 : Option Addr) (c0 : Nat) (l0 : List Int) (r : Int) (w : World) (hr0 : Kd.C (Kd.int .u8) w A0 l0.length l0) (hc0 : l0.length ≤ c0) (h : sumF l0 = some r) :
    Calls Try.prog 19 #[.slice A0 l0.length c0] w fun e w' => e = .returned (.int .u32 r) ∧ Below w.heap.size w w' := by
  have _ := hc0
  unfold sumF at h
  by_cases hb : okB l0 = true
  · rw [if_pos hb] at h
    injection h with h
    subst h
    exact sum_any A0 l0.length c0 (nat l0) w (reads_nat hr0 hb) (nat_lt hb) (by have := okB_len hb; simp only [maxLen]; omega)
  · rw [if_neg hb] at h
    cases h
end Go.Proofs.Ytmacmhlimdaemaa.Ext
