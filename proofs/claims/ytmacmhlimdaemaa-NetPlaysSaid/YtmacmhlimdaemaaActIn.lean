/- Flights and acts that came in. -/
import Derived.Test.YtmacmhlimdaemaaPktIn
import Derived.Test.YtmacmhlimdaemaaIn
import Derived.Test.YtmacmhlimdaemaaNBase
import Derived.Test.YtmacmhlimdaemaaRows
namespace Go.Proofs.Ytmacmhlimdaemaa.Net
open Go.RowKit Go.ChangeShapes Go.WideShapes Go.ChangeAt Go.Deep Go.Proofs.YtmacmhlimdaemaaW.PrintWords
section
variable {H : Type} {enc : TypeId × Value → H} {w : World}
theorem int_of {t : TypeId} {k : IntKind} {n : Nat} {v : Value} {z : DataW H × List MemPlace} (ht : Try.prog.underlying t = some (.int k)) (h : DataW.trod enc Try.prog w 0 (fun _ => true) true n t [v] = some z) : ∃ x, v = .int k x ∧ (Lit.int k x).wf = true := by
  obtain ⟨x, e, _, wf⟩ := DataW.trod_int ht h
  simp only [List.cons.injEq, and_true] at e
  exact ⟨x, e, wf⟩
/-- a flight's bytes are there -/
structure FlOk (w : World) (f : Fl) (A : Option Addr) (c : Nat) : Prop where
  num : -9223372036854775808 ≤ f.c ∧ f.c ≤ 9223372036854775807
  b : ∀ x ∈ f.b, 0 ≤ x ∧ x < 256
  at_ : Kd.C (Kd.int .u8) w A f.b.length f.b
  cap : f.b.length ≤ c
theorem fl_in {n : Nat} {cs : List Value} {z : DataW H × List MemPlace} (h : DataW.trod enc Try.prog w 0 (fun _ => true) true n 48 cs = some z) :
    ∃ (f : Fl) (A : Option Addr) (c : Nat), cs = f.cells (.slice A f.b.length c) ∧ FlOk w f A c := by
  obtain ⟨n', hl, hf⟩ := fields_in Try.underlying48 h
  have hC : Try.prog.cellsOf 48 = 3 := by kernel_rfl
  rw [hC] at hl
  obtain ⟨v0, v1, v2, rfl⟩ : ∃ v0 v1 v2, cs = [v0, v1, v2] := by
    match cs, hl with
    | [v0, v1, v2], _ => exact ⟨v0, v1, v2, rfl⟩
  obtain ⟨z0, h0⟩ := hf 0 0 1 3 (by kernel_rfl) (by kernel_rfl)
  obtain ⟨z1, h1⟩ := hf 1 1 1 4 (by kernel_rfl) (by kernel_rfl)
  obtain ⟨z2, h2⟩ := hf 2 2 1 22 (by kernel_rfl) (by kernel_rfl)
  obtain ⟨x0, rfl, w0⟩ := int_of Try.underlying3 h0
  obtain ⟨b, hb, _⟩ := DataW.trod_bool Try.underlying4 h1
  obtain ⟨l, A, c, hs, hd, hC2, hc⟩ := ints_in h2
  have b0 := bounds_i64 w0
  have hb' : [v1] = [Value.bool b] := hb
  have hs' : [v2] = [Value.slice A l.length c] := hs
  simp only [List.cons.injEq, and_true] at hb' hs'
  subst hb' hs'
  exact ⟨⟨x0, b, l⟩, A, c, rfl, ⟨by show -9223372036854775808 ≤ x0 ∧ x0 ≤ 9223372036854775807; omega, hd, hC2, hc⟩⟩
/-- an act -/
structure Act where
  d : Int
  i : Int
  pl : Int
  f : Fl
  A : Option Addr
  c : Nat
  by_ : Int
abbrev Act.cs (a : Act) : List Value := [.int .i64 a.d, .int .i64 a.i, .int .i64 a.pl, .int .i64 a.f.c, .bool a.f.d, .slice a.A a.f.b.length a.c, .int .u8 a.by_]
structure Act.ok (w : World) (a : Act) : Prop where
  d : -9223372036854775808 ≤ a.d ∧ a.d ≤ 9223372036854775807
  i : -9223372036854775808 ≤ a.i ∧ a.i ≤ 9223372036854775807
  pl : -9223372036854775808 ≤ a.pl ∧ a.pl ≤ 9223372036854775807
  fok : FlOk w a.f a.A a.c
  by_ : 0 ≤ a.by_ ∧ a.by_ < 256
theorem act_in (n : Nat) (cs : List Value) (z : DataW H × List MemPlace) (h : DataW.trod enc Try.prog w 0 (fun _ => true) true n 50 cs = some z) : ∃ a : Act, a.ok w ∧ cs = a.cs := by
  obtain ⟨n', hl, hf⟩ := fields_in Try.underlying50 h
  have hC : Try.prog.cellsOf 50 = 7 := by kernel_rfl
  rw [hC] at hl
  obtain ⟨v0, v1, v2, v3, v4, v5, v6, rfl⟩ : ∃ v0 v1 v2 v3 v4 v5 v6, cs = [v0, v1, v2, v3, v4, v5, v6] := by
    match cs, hl with
    | [v0, v1, v2, v3, v4, v5, v6], _ => exact ⟨v0, v1, v2, v3, v4, v5, v6, rfl⟩
  obtain ⟨z0, h0⟩ := hf 0 0 1 3 (by kernel_rfl) (by kernel_rfl)
  obtain ⟨z1, h1⟩ := hf 1 1 1 3 (by kernel_rfl) (by kernel_rfl)
  obtain ⟨z2, h2⟩ := hf 2 2 1 3 (by kernel_rfl) (by kernel_rfl)
  obtain ⟨z3, h3⟩ := hf 3 3 3 48 (by kernel_rfl) (by kernel_rfl)
  obtain ⟨z4, h4⟩ := hf 4 6 1 5 (by kernel_rfl) (by kernel_rfl)
  obtain ⟨x0, rfl, w0⟩ := int_of Try.underlying3 h0
  obtain ⟨x1, rfl, w1⟩ := int_of Try.underlying3 h1
  obtain ⟨x2, rfl, w2⟩ := int_of Try.underlying3 h2
  obtain ⟨f, A, c, he, hok⟩ := fl_in h3
  obtain ⟨x4, rfl, w4⟩ := int_of Try.underlying5 h4
  have b0 := bounds_i64 w0
  have b1 := bounds_i64 w1
  have b2 := bounds_i64 w2
  have b4 := bounds_u8 w4
  have he' : [v3, v4, v5] = [.int .i64 f.c, .bool f.d, .slice A f.b.length c] := he
  simp only [List.cons.injEq, and_true] at he'
  obtain ⟨rfl, rfl, rfl⟩ := he'
  exact ⟨⟨x0, x1, x2, f, A, c, x4⟩, ⟨by show -9223372036854775808 ≤ x0 ∧ x0 ≤ 9223372036854775807; omega, by show -9223372036854775808 ≤ x1 ∧ x1 ≤ 9223372036854775807; omega, by show -9223372036854775808 ≤ x2 ∧ x2 ≤ 9223372036854775807; omega, hok, by show 0 ≤ x4 ∧ x4 < 256; omega⟩, rfl⟩
/-- an act by value -/
theorem act_one {v : Value} {d : DataW H} {p : List MemPlace} {base : Nat} (hv : Value.okWide Try.prog w .any base 50 v) (h : DataW.Trod enc Try.prog w 0 (fun _ => true) true 50 v d p) : ∃ a : Act, a.ok w ∧ v = .agg a.cs.toArray := by
  obtain ⟨cs, rfl, hsz⟩ := okWide_struct Try.underlying50 hv
  obtain ⟨fuel, hf⟩ := h
  obtain ⟨a, ha, he⟩ := act_in _ _ _ hf
  refine ⟨a, ha, ?_⟩
  have he' : cs.toList = a.cs := he
  rw [← he']
/-- acts that came in -/
theorem acts_in {n : Nat} {cs : List Value} {y : DataW H × List MemPlace} (h : DataW.trod enc Try.prog w 0 (fun _ => true) true n 43 cs = some y) :
    ∃ (l : List Act) (A : Option Addr) (c : Nat), cs = [.slice A l.length c] ∧ (∀ x ∈ l, x.ok w) ∧ l.length ≤ c ∧ c ≤ maxLen ∧ Reads w w.heap.size 7 A l.length (l.flatMap Act.cs) :=
  slice_in Act.cs (Act.ok w) 7 (fun _ => rfl) (by decide) Try.underlying43 (by kernel_rfl) act_in h
end
end Go.Proofs.Ytmacmhlimdaemaa.Net
