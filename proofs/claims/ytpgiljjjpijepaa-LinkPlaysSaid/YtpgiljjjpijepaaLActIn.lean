/- Acts on a link that came in. -/
import Derived.Test.YtpgiljjjpijepaaLStepIn
namespace Go.Proofs.Ytpgiljjjpijepaa
open Go.RowKit Go.ChangeShapes Go.WideShapes Go.ChangeAt Go.Deep
/-- an act as it lies in memory -/
structure Av where
  d : Nat
  n : Int
  b : List Nat
  A : Option Addr
  c : Nat
  q : Pv
abbrev Av.cs (v : Av) : List Value := [.int .u8 (v.d : Int), .int .i64 v.n, .slice v.A v.b.length v.c, .int .u32 (v.q.p.e : Int), .int .u64 (v.q.p.o : Int), .int .u64 (v.q.p.a : Int), .slice v.q.A v.q.p.d.length v.q.c]
structure Av.ok (w : World) (v : Av) : Prop where
  d : v.d < 256
  n : -9223372036854775808 ≤ v.n ∧ v.n ≤ 9223372036854775807
  at_ : RB w v.A v.b.length v.b
  cap : v.b.length ≤ v.c
  q : v.q.ok w
section
variable {H : Type} {enc : TypeId × Value → H} {w : World}
theorem act_in (n : Nat) (cs : List Value) (z : DataW H × List MemPlace) (h : DataW.trod enc Try.prog w 0 (fun _ => true) true n 63 cs = some z) : ∃ v : Av, v.ok w ∧ cs = v.cs := by
  obtain ⟨n', hl, hf⟩ := fields_in Try.underlying63 h
  have hC : Try.prog.cellsOf 63 = 7 := by kernel_rfl
  rw [hC] at hl
  obtain ⟨v0, v1, v2, v3, v4, v5, v6, rfl⟩ : ∃ v0 v1 v2 v3 v4 v5 v6, cs = [v0, v1, v2, v3, v4, v5, v6] := by
    match cs, hl with
    | [v0, v1, v2, v3, v4, v5, v6], _ => exact ⟨v0, v1, v2, v3, v4, v5, v6, rfl⟩
  obtain ⟨z0, h0⟩ := hf 0 0 1 5 (by kernel_rfl) (by kernel_rfl)
  obtain ⟨z1, h1⟩ := hf 1 1 1 3 (by kernel_rfl) (by kernel_rfl)
  obtain ⟨z2, h2⟩ := hf 2 2 1 27 (by kernel_rfl) (by kernel_rfl)
  obtain ⟨z3, h3⟩ := hf 3 3 4 32 (by kernel_rfl) (by kernel_rfl)
  obtain ⟨x0, rfl, w0⟩ := int_of Try.underlying5 h0
  obtain ⟨x1, rfl, w1⟩ := int_of Try.underlying3 h1
  obtain ⟨l, A, c, hs, -, hc, -, hR⟩ := rb_in h2
  obtain ⟨q, hq, he⟩ := pkt_in _ _ _ h3
  have b0 := bounds_u8 w0
  have b1 := bounds_i64 w1
  have hs' : [v2] = [Value.slice A l.length c] := hs
  have he' : [v3, v4, v5, v6] = q.cs := he
  simp only [List.cons.injEq, and_true] at hs' he'
  obtain ⟨rfl, rfl, rfl, rfl⟩ := he'
  subst hs'
  refine ⟨⟨x0.toNat, x1, l, A, c, q⟩, ⟨by show x0.toNat < 256; omega, by show -9223372036854775808 ≤ x1 ∧ x1 ≤ 9223372036854775807; omega, hR, hc, hq⟩, ?_⟩
  show [Value.int .u8 x0, _, _, _, _, _, _] = [Value.int .u8 (x0.toNat : Int), _, _, _, _, _, _]
  rw [show ((x0.toNat : Nat) : Int) = x0 by omega]
theorem acts_in {n : Nat} {cs : List Value} {y : DataW H × List MemPlace} (h : DataW.trod enc Try.prog w 0 (fun _ => true) true n 61 cs = some y) :
    ∃ (l : List Av) (A : Option Addr) (c : Nat), cs = [.slice A l.length c] ∧ (∀ x ∈ l, x.ok w) ∧ l.length ≤ c ∧ c ≤ maxLen ∧ Reads w w.heap.size 7 A l.length (l.flatMap Av.cs) :=
  slice_in Av.cs (Av.ok w) 7 (fun _ => rfl) (by decide) Try.underlying61 (by kernel_rfl) act_in h
end
end Go.Proofs.Ytpgiljjjpijepaa
