/- Rows of bytes as assertions; Clone in that form. -/
import Derived.Test.YtmacmhlimdaemaaSep
import Derived.Test.YtmacmhlimdaemaaExtClone
import Derived.Test.YtmacmhlimdaemaaExtLit
import Derived.Laws.MakeOwn
namespace Go.Proofs.Ytmacmhlimdaemaa.R
end Go.Proofs.Ytmacmhlimdaemaa.R
namespace Go.Proofs.Ytmacmhlimdaemaa.Pkt
open Go.RowKit Go.Proofs.YtmacmhlimdaemaaW.PrintWords Go.Proofs.Ytmacmhlimdaemaa.R
open Go.Proofs.Ytmacmhlimdaemaa.Ext
def enB (x : Int) : Value := .int .u8 x
/-- a row of bytes of the call's own -/
def BRow (v : Value) (l : List Int) : Asn := row 5 1 v l.length (l.map enB)
theorem run_make_bytes (n : Nat) (hn : n ≤ 1000000) (w : World) : (Instr.makeSlice 22 (.int .i64 (n : Int)) (.int .i64 (n : Int))).run Try.prog w = .ok (.slice (some ⟨w.heap.size, 0, none⟩) n n) (w.alloc (.cells (List.replicate n (enB 0)).toArray 5)) := by
  obtain ⟨i, hi, hz0, hz1, hz2⟩ := info_parts Ext.info5
  have hr := run_make (P := Try.prog) w 22 5 i (.int .u8 0) Try.underlying22 hi hz0 .i64 .i64 n n (by omega) (by omega) (by rw [hz2]; omega) (by omega)
  simp only [Int.toNat_natCast] at hr
  rw [hr, hz1, Nat.mul_one]
  congr 3
  apply Array.ext
  · simp [madeCells]
  · intro j h1 h2
    simp [madeCells, enB, Value.cells, Nat.mod_one]
section
variable {w0 w w' : World} {L : List Asn}
theorem bofR {l : List Int} {v : Value} (hS : Sep w0 w L) (hb : Below w.heap.size w w') (hR : Kd.R (Kd.int .u8) 5 w' w.heap.size (fun _ => True) v l) : Sep w0 w' (BRow v l :: L) := by
  have ho := Kd.own_of_R hR
  exact hS.madeF hb (own_weaken ho (Nat.zero_le _)) fun k hk => own_base ho k hk
theorem own_bytes {l : List Int} {v : Value} {i : Nat} (hS : Sep w0 w L) (hi : L[i]? = some (BRow v l)) : w.ownsRow 0 5 1 v l.length (l.map enB) := hS.own i hi
theorem reads_bytes {l : List Int} {v : Value} (h : w.ownsRow 0 5 1 v l.length (l.map enB)) : ∃ A c, v = .slice A l.length c ∧ l.length ≤ c ∧ Kd.C (Kd.int .u8) w A l.length l :=
  Kd.R_reads (Kd.R_of_own (enc := Value.int .u8) (h1 := fun _ => rfl) (ok := fun _ => True) h fun _ _ => trivial)
theorem made_bytes (hS : Sep w0 w L) (n : Nat) (hn : n ≤ 1000000) : ∃ W, w.alloc (.cells (List.replicate n (enB 0)).toArray 5) = W ∧ Sep w0 W (BRow (.slice (some ⟨w.heap.size, 0, none⟩) n n) (List.replicate n 0) :: L) := by
  refine ⟨_, rfl, ?_⟩
  unfold BRow
  rw [List.length_replicate]
  exact Sep.closeRow (hS.boxF 5 (List.replicate n (enB 0)).toArray) (by simp) (Nat.le_refl _) (by unfold maxLen; omega) (by simp) (by simp [enB])
theorem string_bytes {l : List Int} {v : Value} (h : w.ownsRow 0 5 1 v l.length (l.map enB)) : (convert 22 9 v).run Try.prog w = .ok (.string (strOfNums l)) w :=
  own_string Try.underlying22 Try.underlying5 Try.underlying9 h
/-- Clone, whatever comes -/
theorem clone_any (l : List Int) (hl : l.length ≤ 140737488351232) (A : Option Addr) (c : Nat) (hC : Kd.C (Kd.int .u8) w A l.length l) (hc : l.length ≤ c) (hS : Sep w0 w L) :
    Calls Try.prog 51 #[.slice A l.length c] w fun en w' => ∃ v, en = .returned v ∧ Sep w0 w' (BRow v l :: L) :=
  (clone_calls A c l l w hC hc (cloneF_ok hl)).mono fun _ _ ⟨v, he, hR, hb⟩ => ⟨v, he, bofR hS hb hR⟩
end
end Go.Proofs.Ytmacmhlimdaemaa.Pkt
