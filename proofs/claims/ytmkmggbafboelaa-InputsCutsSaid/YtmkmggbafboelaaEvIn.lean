/- Events, acts and steps that came in. -/
import Derived.Test.YtmkmggbafboelaaIn
import Derived.Test.YtmkmggbafboelaaBase
import Derived.Test.YtmkmggbafboelaaRows
namespace Go.Proofs.Ytmkmggbafboelaa
open Go.RowKit Go.ChangeShapes Go.WideShapes Go.ChangeAt Go.Deep
section
variable {H : Type} {enc : TypeId × Value → H} {w : World} {base : Nat} {spare : Nat → Bool} {held : Bool}
theorem int_in {t : TypeId} {k : IntKind} {n : Nat} {v : Value} {z : DataW H × List MemPlace} (ht : Try.prog.underlying t = some (.int k)) (h : DataW.trod enc Try.prog w base spare held n t [v] = some z) : ∃ x, v = .int k x ∧ (Lit.int k x).wf = true := by
  obtain ⟨x, e, _, wf⟩ := DataW.trod_int ht h
  simp only [List.cons.injEq, and_true] at e
  exact ⟨x, e, wf⟩
theorem ev_in {n : Nat} {cs : List Value} {z : DataW H × List MemPlace} (h : DataW.trod enc Try.prog w base spare held n 26 cs = some z) : ∃ e : Ev, cs = e.cs := by
  obtain ⟨n', hl, hf⟩ := fields_in Try.underlying26 h
  have hC : Try.prog.cellsOf 26 = 4 := by kernel_rfl
  rw [hC] at hl
  obtain ⟨v0, v1, v2, v3, rfl⟩ : ∃ v0 v1 v2 v3, cs = [v0, v1, v2, v3] := by
    match cs, hl with
    | [v0, v1, v2, v3], _ => exact ⟨v0, v1, v2, v3, rfl⟩
  obtain ⟨z0, h0⟩ := hf 0 0 1 5 (by kernel_rfl) (by kernel_rfl)
  obtain ⟨z1, h1⟩ := hf 1 1 1 24 (by kernel_rfl) (by kernel_rfl)
  obtain ⟨z2, h2⟩ := hf 2 2 1 24 (by kernel_rfl) (by kernel_rfl)
  obtain ⟨z3, h3⟩ := hf 3 3 1 23 (by kernel_rfl) (by kernel_rfl)
  obtain ⟨x0, rfl, _⟩ := int_in Try.underlying5 h0
  obtain ⟨x1, rfl, _⟩ := int_in Try.underlying24 h1
  obtain ⟨x2, rfl, _⟩ := int_in Try.underlying24 h2
  obtain ⟨x3, rfl, _⟩ := int_in Try.underlying23 h3
  exact ⟨⟨x0, x1, x2, x3⟩, rfl⟩
end
/-- an act: what to do, a number, an input -/
structure Ac where
  d : Int
  n : Int
  e : Ev
abbrev Ac.cs (a : Ac) : List Value := [.int .u8 a.d, .int .u32 a.n, .int .u8 a.e.k, .int .u16 a.e.x, .int .u16 a.e.y, .int .u32 a.e.c]
def Ac.ok (a : Ac) : Prop := (0 ≤ a.d ∧ a.d < 256) ∧ 0 ≤ a.n ∧ a.n < 4294967296
/-- a step -/
structure St where
  d : Int
  n : Int
  e : Ev
abbrev St.cs (a : St) : List Value := [.int .u8 a.d, .int .i64 a.n, .int .u8 a.e.k, .int .u16 a.e.x, .int .u16 a.e.y, .int .u32 a.e.c]
def St.ok (a : St) : Prop := (0 ≤ a.d ∧ a.d < 256) ∧ -9223372036854775808 ≤ a.n ∧ a.n ≤ 9223372036854775807
section
variable {H : Type} {enc : TypeId × Value → H} {w : World} {base : Nat} {held : Bool}
theorem ac_in (n : Nat) (cs : List Value) (z : DataW H × List MemPlace) (h : DataW.trod enc Try.prog w base (fun _ => true) held n 57 cs = some z) : ∃ a : Ac, a.ok ∧ cs = a.cs := by
  obtain ⟨n', hl, hf⟩ := fields_in Try.underlying57 h
  have hC : Try.prog.cellsOf 57 = 6 := by kernel_rfl
  rw [hC] at hl
  obtain ⟨v0, v1, v2, v3, v4, v5, rfl⟩ : ∃ v0 v1 v2 v3 v4 v5, cs = [v0, v1, v2, v3, v4, v5] := by
    match cs, hl with
    | [v0, v1, v2, v3, v4, v5], _ => exact ⟨v0, v1, v2, v3, v4, v5, rfl⟩
  obtain ⟨z0, h0⟩ := hf 0 0 1 5 (by kernel_rfl) (by kernel_rfl)
  obtain ⟨z1, h1⟩ := hf 1 1 1 23 (by kernel_rfl) (by kernel_rfl)
  obtain ⟨z2, h2⟩ := hf 2 2 4 26 (by kernel_rfl) (by kernel_rfl)
  obtain ⟨x0, rfl, w0⟩ := int_in Try.underlying5 h0
  obtain ⟨x1, rfl, w1⟩ := int_in Try.underlying23 h1
  obtain ⟨e, he⟩ := ev_in h2
  have b0 := bounds_u8 w0
  have b1 := bounds_u32 w1
  have he' : [v2, v3, v4, v5] = e.cs := he
  simp only [Ev.cs, List.cons.injEq, and_true] at he'
  obtain ⟨rfl, rfl, rfl, rfl⟩ := he'
  refine ⟨⟨x0, x1, e⟩, ?_, rfl⟩
  show (0 ≤ x0 ∧ x0 < 256) ∧ 0 ≤ x1 ∧ x1 < 4294967296
  omega
theorem st_in (n : Nat) (cs : List Value) (z : DataW H × List MemPlace) (h : DataW.trod enc Try.prog w base (fun _ => true) held n 36 cs = some z) : ∃ a : St, a.ok ∧ cs = a.cs := by
  obtain ⟨n', hl, hf⟩ := fields_in Try.underlying36 h
  have hC : Try.prog.cellsOf 36 = 6 := by kernel_rfl
  rw [hC] at hl
  obtain ⟨v0, v1, v2, v3, v4, v5, rfl⟩ : ∃ v0 v1 v2 v3 v4 v5, cs = [v0, v1, v2, v3, v4, v5] := by
    match cs, hl with
    | [v0, v1, v2, v3, v4, v5], _ => exact ⟨v0, v1, v2, v3, v4, v5, rfl⟩
  obtain ⟨z0, h0⟩ := hf 0 0 1 5 (by kernel_rfl) (by kernel_rfl)
  obtain ⟨z1, h1⟩ := hf 1 1 1 3 (by kernel_rfl) (by kernel_rfl)
  obtain ⟨z2, h2⟩ := hf 2 2 4 26 (by kernel_rfl) (by kernel_rfl)
  obtain ⟨x0, rfl, w0⟩ := int_in Try.underlying5 h0
  obtain ⟨x1, rfl, w1⟩ := int_in Try.underlying3 h1
  obtain ⟨e, he⟩ := ev_in h2
  have b0 := bounds_u8 w0
  have b1 := bounds_i64 w1
  have he' : [v2, v3, v4, v5] = e.cs := he
  simp only [Ev.cs, List.cons.injEq, and_true] at he'
  obtain ⟨rfl, rfl, rfl, rfl⟩ := he'
  refine ⟨⟨x0, x1, e⟩, ?_, rfl⟩
  show (0 ≤ x0 ∧ x0 < 256) ∧ -9223372036854775808 ≤ x1 ∧ x1 ≤ 9223372036854775807
  omega
theorem acts_in {n : Nat} {cs : List Value} {y : DataW H × List MemPlace} (h : DataW.trod enc Try.prog w base (fun _ => true) held n 49 cs = some y) :
    ∃ (l : List Ac) (A : Option Addr) (c : Nat), cs = [.slice A l.length c] ∧ (∀ x ∈ l, x.ok) ∧ l.length ≤ c ∧ c ≤ maxLen ∧ Reads w w.heap.size 6 A l.length (l.flatMap Ac.cs) :=
  slice_in Ac.cs Ac.ok 6 (fun _ => rfl) (by decide) Try.underlying49 (by kernel_rfl) ac_in h
theorem steps_in {n : Nat} {cs : List Value} {y : DataW H × List MemPlace} (h : DataW.trod enc Try.prog w base (fun _ => true) held n 22 cs = some y) :
    ∃ (l : List St) (A : Option Addr) (c : Nat), cs = [.slice A l.length c] ∧ (∀ x ∈ l, x.ok) ∧ l.length ≤ c ∧ c ≤ maxLen ∧ Reads w w.heap.size 6 A l.length (l.flatMap St.cs) :=
  slice_in St.cs St.ok 6 (fun _ => rfl) (by decide) Try.underlying22 (by kernel_rfl) st_in h
theorem evs_in {n : Nat} {cs : List Value} {y : DataW H × List MemPlace} (h : DataW.trod enc Try.prog w base (fun _ => true) held n 34 cs = some y) :
    ∃ (l : List Ev) (A : Option Addr) (c : Nat), cs = [.slice A l.length c] ∧ (∀ x ∈ l, True) ∧ l.length ≤ c ∧ c ≤ maxLen ∧ Reads w w.heap.size 4 A l.length (l.flatMap Ev.cs) :=
  slice_in Ev.cs (fun _ => True) 4 (fun _ => rfl) (by decide) Try.underlying34 (by kernel_rfl) (fun _ _ _ h => by obtain ⟨e, he⟩ := ev_in h; exact ⟨e, trivial, he⟩) h
end
end Go.Proofs.Ytmkmggbafboelaa
