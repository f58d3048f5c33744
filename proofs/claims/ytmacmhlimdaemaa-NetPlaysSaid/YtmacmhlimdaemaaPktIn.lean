/- A packet that came in: its numbers and its bytes. -/
import Derived.Test.YtmacmhlimdaemaaExtSum
import Derived.OpenShut
import Derived.ChangeOld
import Derived.ChangeSlices
import Derived.Lib.SmallJoins
namespace Go.Proofs.Ytmacmhlimdaemaa
open Go.RowKit Go.ChangeShapes Go.WideShapes Go.ChangeAt Go.Proofs.YtmacmhlimdaemaaW.PrintWords
theorem ints_in {H : Type} {enc : TypeId × Value → H} {W : World} {n : Nat} {cs : List Value} {y : DataW H × List MemPlace} (h : DataW.trod enc Try.prog W 0 (fun _ => true) true n 22 cs = some y) :
    ∃ (l : List Int) (A : Option Addr) (c : Nat), cs = [.slice A l.length c] ∧ (∀ x ∈ l, 0 ≤ x ∧ x < 256) ∧ Kd.C (Kd.int .u8) W A l.length l ∧ l.length ≤ c := by
  rcases open_ints Try.underlying22 Try.underlying5 (by kernel_rfl) h with ⟨hcs, _⟩ | ⟨a, len, cap, zs, hcs, _, hl, hm, hz, _, hcell, hwz⟩
  · exact ⟨[], none, 0, hcs, by simp, Kd.C_of_reads (d := (0 : Int)) (h1 := fun _ => rfl) ⟨rfl, by simp, fun h => by simp at h⟩, by simp⟩
  · simp only [if_true] at hz
    have hlen : (zs.take len).length = len := by rw [List.length_take]; omega
    refine ⟨zs.take len, some a, cap, by rw [hlen]; exact hcs, fun x hx => ?_, ?_, by rw [hlen]; exact hl⟩
    · have := bounds_u8 (hwz x (List.mem_of_mem_take hx))
      omega
    · refine Kd.C_of_reads (d := (0 : Int)) (h1 := fun _ => rfl) ⟨rfl, by rw [hlen]; unfold maxLen at hm; omega, fun _ => ⟨a, rfl, fun j hj => ?_⟩⟩
      rw [hlen] at hj
      have h1 := hcell j (by omega)
      rw [h1]
      simp [List.getD_eq_getElem?_getD, hj]
theorem packet_in {H : Type} {enc : TypeId × Value → H} {W : World} {base : Nat} {v : Value} {d : DataW H} {p : List MemPlace} (hv : Value.okWide Try.prog W .any base 32 v) (h : DataW.Trod enc Try.prog W 0 (fun _ => true) true 32 v d p) :
    ∃ (e o a : Nat) (l : List Int) (A : Option Addr) (c : Nat), v = .agg #[.int .u32 (e : Int), .int .u64 (o : Int), .int .u64 (a : Int), .slice A l.length c] ∧ e < 4294967296 ∧ o < 18446744073709551616 ∧ a < 18446744073709551616 ∧
      (∀ x ∈ l, 0 ≤ x ∧ x < 256) ∧ Kd.C (Kd.int .u8) W A l.length l ∧ l.length ≤ c := by
  obtain ⟨v0, v1, v2, v3, y0, y1, y2, y3, m, rfl, _, _, hy0, hy1, hy2, hy3⟩ := Go.Joins.open_agg4 Try.underlying32 (by kernel_rfl) (by kernel_rfl) hv h
  obtain ⟨e, e0, _, w0⟩ := DataW.trod_int Try.underlying23 hy0
  obtain ⟨o, e1, _, w1⟩ := DataW.trod_int Try.underlying30 hy1
  obtain ⟨a, e2, _, w2⟩ := DataW.trod_int Try.underlying30 hy2
  obtain ⟨l, A, c, e3, hd, hC, hc⟩ := ints_in hy3
  simp only [List.cons.injEq, and_true] at e0 e1 e2 e3
  subst e0; subst e1; subst e2; subst e3
  have b0 := bounds_u32 w0
  have b1 := bounds_u64 w1
  have b2 := bounds_u64 w2
  refine ⟨e.toNat, o.toNat, a.toNat, l, A, c, ?_, by omega, by omega, by omega, hd, hC, hc⟩
  rw [Int.toNat_of_nonneg b0.1, Int.toNat_of_nonneg b1.1, Int.toNat_of_nonneg b2.1]
end Go.Proofs.Ytmacmhlimdaemaa
