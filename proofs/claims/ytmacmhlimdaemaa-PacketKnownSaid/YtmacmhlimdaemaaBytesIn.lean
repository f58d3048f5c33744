import Derived.Test.YtmacmhlimdaemaaWords
import Derived.OpenShut
import Derived.ChangeOld
import Derived.ChangeSlices
import Derived.Lib.SmallJoins
namespace Go.Proofs.Ytmacmhlimdaemaa
open Go.RowKit Go.ChangeShapes Go.WideShapes Go.ChangeAt
/-- a slice of bytes that came in: its bytes as one list -/
theorem bytes_in {P : Program} {H : Type} {enc : TypeId × Value → H} {W : World} {t e : TypeId} {A : Option Addr} {n c : Nat} {x : DataW H × List MemPlace} (ht : P.underlying t = some (.slice e)) (he : P.underlying e = some (.int .u8)) (hc : P.cellsOf e = 1)
    (h : ∃ fuel, DataW.trod enc P W 0 (fun _ => true) true fuel t (Value.slice A n c).cells.toList = some x) :
    ∃ l : List Nat, Reads W W.heap.size 1 A n (l.map encB) ∧ (∀ c ∈ l, c < 256) ∧ n ≤ maxLen := by
  obtain ⟨fuel, hf⟩ := h
  rcases open_ints ht he hc hf with ⟨hcs, _⟩ | ⟨a, len, cap, zs, hcs, _, hl, hm, hz, _, hcell, hwz⟩
  · simp [Value.cells] at hcs
    obtain ⟨rfl, rfl, rfl⟩ := hcs
    exact ⟨[], Reads.none_, by simp, Nat.zero_le _⟩
  · simp [Value.cells] at hcs
    obtain ⟨rfl, rfl, rfl⟩ := hcs
    simp only [if_true] at hz
    have hb : ∀ z ∈ zs, 0 ≤ z ∧ z < 256 := fun z hz => by have := bounds_u8 (hwz z hz); omega
    refine ⟨(zs.take n).map Int.toNat, ⟨by simp; omega, fun hn => ?_⟩, ?_, by omega⟩
    · have h0 := hcell 0 (by omega)
      refine ⟨a, rfl, ?_, fun j u hu => ?_⟩
      · have := World.block_lt_of_cell? _ _ h0
        simpa [Addr.add] using this
      · simp only [List.map_map, List.getElem?_map, List.getElem?_take] at hu
        by_cases hj : j < n
        · rw [if_pos hj, List.getElem?_eq_getElem (by omega)] at hu
          simp only [Option.map_some, Option.some.injEq] at hu
          rw [hcell j (by omega), ← hu]
          have hj2 : j < zs.length := by omega
          have := hb zs[j] (List.getElem_mem hj2)
          simp only [encB, Function.comp, List.getD_eq_getElem?_getD, List.getElem?_eq_getElem hj2, Option.getD_some]
          rw [Int.toNat_of_nonneg this.1]
        · rw [if_neg hj] at hu; simp at hu
    · intro c hc
      obtain ⟨z, hz, rfl⟩ := List.mem_map.1 hc
      have := hb z (List.mem_of_mem_take hz)
      omega
end Go.Proofs.Ytmacmhlimdaemaa
