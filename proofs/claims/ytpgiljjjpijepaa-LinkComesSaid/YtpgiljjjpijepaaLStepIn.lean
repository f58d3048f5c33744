/- Steps and packets that came in. -/
import Derived.Test.YtpgiljjjpijepaaLStep
import Derived.ProofKit
namespace Go.Proofs.Ytpgiljjjpijepaa
open Go.RowKit Go.ChangeShapes Go.WideShapes Go.ChangeAt Go.Deep
section
variable {H : Type} {enc : TypeId × Value → H} {w : World}
theorem int_of {t : TypeId} {k : IntKind} {n : Nat} {v : Value} {z : DataW H × List MemPlace} (ht : Try.prog.underlying t = some (.int k)) (h : DataW.trod enc Try.prog w 0 (fun _ => true) true n t [v] = some z) : ∃ x, v = .int k x ∧ (Lit.int k x).wf = true := by
  obtain ⟨x, e, _, wf⟩ := DataW.trod_int ht h
  simp only [List.cons.injEq, and_true] at e
  exact ⟨x, e, wf⟩
/-- bytes that came in -/
theorem rb_in {n : Nat} {cs : List Value} {z : DataW H × List MemPlace} (h : DataW.trod enc Try.prog w 0 (fun _ => true) true n 27 cs = some z) :
    ∃ (l : List Nat) (A : Option Addr) (c : Nat), cs = [.slice A l.length c] ∧ (∀ x ∈ l, x < 256) ∧ l.length ≤ c ∧ c ≤ maxLen ∧ RB w A l.length l := by
  obtain ⟨l, A, c, h1, h2, h3, h4, h5⟩ := slice_in (P := Try.prog) (base := 0) (held := true) (fun x : Nat => [enB x]) (fun x => x < 256) 1 (fun _ => rfl) (by decide) Try.underlying27 (by kernel_rfl) (fun n cs y h => by
    have hC : Try.prog.cellsOf 5 = 1 := by kernel_rfl
    obtain ⟨x, e, -, wf⟩ := DataW.trod_int Try.underlying5 h
    have b := bounds_u8 wf
    refine ⟨x.toNat, by omega, ?_⟩
    rw [e]
    unfold enB
    rw [show ((x.toNat : Nat) : Int) = x by omega]) h
  refine ⟨l, A, c, h1, h2, h3, h4, rfl, ?_⟩
  have he : l.flatMap (fun x : Nat => [enB x]) = l.map enB := List.map_eq_flatMap.symm
  rw [← he]
  exact h5
/-- a step as it lies in memory -/
structure Sv where
  x : St
  A : Option Addr
  c : Nat
abbrev Sv.cs (v : Sv) : List Value := [.int .u8 (v.x.d : Int), .bool v.x.s, .int .i64 v.x.a, .slice v.A v.x.b.length v.c]
structure Sv.ok (w : World) (v : Sv) : Prop where
  d : v.x.d < 256
  a : -9223372036854775808 ≤ v.x.a ∧ v.x.a ≤ 9223372036854775807
  b : ∀ x ∈ v.x.b, x < 256
  at_ : RB w v.A v.x.b.length v.x.b
  cap : v.x.b.length ≤ v.c
theorem step_in (n : Nat) (cs : List Value) (z : DataW H × List MemPlace) (h : DataW.trod enc Try.prog w 0 (fun _ => true) true n 43 cs = some z) : ∃ v : Sv, v.ok w ∧ cs = v.cs := by
  obtain ⟨n', hl, hf⟩ := fields_in Try.underlying43 h
  have hC : Try.prog.cellsOf 43 = 4 := by kernel_rfl
  rw [hC] at hl
  obtain ⟨v0, v1, v2, v3, rfl⟩ : ∃ v0 v1 v2 v3, cs = [v0, v1, v2, v3] := by
    match cs, hl with
    | [v0, v1, v2, v3], _ => exact ⟨v0, v1, v2, v3, rfl⟩
  obtain ⟨z0, h0⟩ := hf 0 0 1 5 (by kernel_rfl) (by kernel_rfl)
  obtain ⟨z1, h1⟩ := hf 1 1 1 4 (by kernel_rfl) (by kernel_rfl)
  obtain ⟨z2, h2⟩ := hf 2 2 1 3 (by kernel_rfl) (by kernel_rfl)
  obtain ⟨z3, h3⟩ := hf 3 3 1 27 (by kernel_rfl) (by kernel_rfl)
  obtain ⟨x0, rfl, w0⟩ := int_of Try.underlying5 h0
  obtain ⟨b, hb, _⟩ := DataW.trod_bool Try.underlying4 h1
  obtain ⟨x2, rfl, w2⟩ := int_of Try.underlying3 h2
  obtain ⟨l, A, c, hs, hd, hc, -, hR⟩ := rb_in h3
  have b0 := bounds_u8 w0
  have b2 := bounds_i64 w2
  have hb' : [v1] = [Value.bool b] := hb
  have hs' : [v3] = [Value.slice A l.length c] := hs
  simp only [List.cons.injEq, and_true] at hb' hs'
  subst hb' hs'
  refine ⟨⟨⟨x0.toNat, b, x2, l⟩, A, c⟩, ⟨by show x0.toNat < 256; omega, by show -9223372036854775808 ≤ x2 ∧ x2 ≤ 9223372036854775807; omega, hd, hR, hc⟩, ?_⟩
  show [Value.int .u8 x0, .bool b, .int .i64 x2, .slice A l.length c] = [Value.int .u8 (x0.toNat : Int), .bool b, .int .i64 x2, .slice A l.length c]
  rw [show ((x0.toNat : Nat) : Int) = x0 by omega]
theorem steps_in {n : Nat} {cs : List Value} {y : DataW H × List MemPlace} (h : DataW.trod enc Try.prog w 0 (fun _ => true) true n 37 cs = some y) :
    ∃ (l : List Sv) (A : Option Addr) (c : Nat), cs = [.slice A l.length c] ∧ (∀ x ∈ l, x.ok w) ∧ l.length ≤ c ∧ c ≤ maxLen ∧ Reads w w.heap.size 4 A l.length (l.flatMap Sv.cs) :=
  slice_in Sv.cs (Sv.ok w) 4 (fun _ => rfl) (by decide) Try.underlying37 (by kernel_rfl) step_in h
/-- a packet that came in -/
structure Pv where
  p : Pk
  A : Option Addr
  c : Nat
abbrev Pv.cs (v : Pv) : List Value := [.int .u32 (v.p.e : Int), .int .u64 (v.p.o : Int), .int .u64 (v.p.a : Int), .slice v.A v.p.d.length v.c]
structure Pv.ok (w : World) (v : Pv) : Prop where
  e : v.p.e < 4294967296
  o : v.p.o < 18446744073709551616
  a : v.p.a < 18446744073709551616
  b : ∀ x ∈ v.p.d, x < 256
  at_ : RB w v.A v.p.d.length v.p.d
  cap : v.p.d.length ≤ v.c
theorem pkt_in (n : Nat) (cs : List Value) (z : DataW H × List MemPlace) (h : DataW.trod enc Try.prog w 0 (fun _ => true) true n 32 cs = some z) : ∃ v : Pv, v.ok w ∧ cs = v.cs := by
  obtain ⟨n', hl, hf⟩ := fields_in Try.underlying32 h
  have hC : Try.prog.cellsOf 32 = 4 := by kernel_rfl
  rw [hC] at hl
  obtain ⟨v0, v1, v2, v3, rfl⟩ : ∃ v0 v1 v2 v3, cs = [v0, v1, v2, v3] := by
    match cs, hl with
    | [v0, v1, v2, v3], _ => exact ⟨v0, v1, v2, v3, rfl⟩
  obtain ⟨z0, h0⟩ := hf 0 0 1 24 (by kernel_rfl) (by kernel_rfl)
  obtain ⟨z1, h1⟩ := hf 1 1 1 30 (by kernel_rfl) (by kernel_rfl)
  obtain ⟨z2, h2⟩ := hf 2 2 1 30 (by kernel_rfl) (by kernel_rfl)
  obtain ⟨z3, h3⟩ := hf 3 3 1 27 (by kernel_rfl) (by kernel_rfl)
  obtain ⟨x0, rfl, w0⟩ := int_of Try.underlying24 h0
  obtain ⟨x1, rfl, w1⟩ := int_of Try.underlying30 h1
  obtain ⟨x2, rfl, w2⟩ := int_of Try.underlying30 h2
  obtain ⟨l, A, c, hs, hd, hc, -, hR⟩ := rb_in h3
  have b0 := bounds_u32 w0
  have b1 := bounds_u64 w1
  have b2 := bounds_u64 w2
  have hs' : [v3] = [Value.slice A l.length c] := hs
  simp only [List.cons.injEq, and_true] at hs'
  subst hs'
  refine ⟨⟨⟨x0.toNat, x1.toNat, x2.toNat, l⟩, A, c⟩, ⟨by show x0.toNat < _; omega, by show x1.toNat < _; omega, by show x2.toNat < _; omega, hd, hR, hc⟩, ?_⟩
  show [Value.int .u32 x0, .int .u64 x1, .int .u64 x2, .slice A l.length c] = [Value.int .u32 (x0.toNat : Int), .int .u64 (x1.toNat : Int), .int .u64 (x2.toNat : Int), .slice A l.length c]
  rw [show ((x0.toNat : Nat) : Int) = x0 by omega, show ((x1.toNat : Nat) : Int) = x1 by omega, show ((x2.toNat : Nat) : Int) = x2 by omega]
theorem pkt_one {v : Value} {d : DataW H} {p : List MemPlace} {base : Nat} (hv : Value.okWide Try.prog w .any base 32 v) (h : DataW.Trod enc Try.prog w 0 (fun _ => true) true 32 v d p) : ∃ a : Pv, a.ok w ∧ v = .agg a.cs.toArray := by
  obtain ⟨cs, rfl, hsz⟩ := okWide_struct Try.underlying32 hv
  obtain ⟨fuel, hf⟩ := h
  obtain ⟨a, ha, he⟩ := pkt_in _ _ _ hf
  refine ⟨a, ha, ?_⟩
  have he' : cs.toList = a.cs := he
  rw [← he']
end
/-! great -/
def greatB (l : List Sv) : Bool := decide (150 < l.length) || l.any fun v => decide (700 < v.x.b.length)
theorem great_no {l : List Sv} (h : greatB l = false) : l.length ≤ 150 ∧ ∀ v ∈ l, v.x.b.length ≤ 700 := by
  unfold greatB at h
  rw [Bool.or_eq_false_iff] at h
  refine ⟨by have := of_decide_eq_false h.1; omega, fun a ha => ?_⟩
  have := List.any_eq_false.1 h.2 a ha
  simp only [decide_eq_true_eq] at this
  omega
theorem great_any (l : List Sv) (A : Option Addr) (c : Nat) (w : World) (hr : Reads w w.heap.size 4 A l.length (l.flatMap Sv.cs)) : Calls Try.prog 19 #[.slice A l.length c] w fun en w' => en = .returned (.bool (greatB l)) ∧ w = w' := by
  have HR := Lib.hid hr
  obtain ⟨n, hn⟩ : ∃ n, l.length = n := ⟨_, rfl⟩
  have Hn := Lib.hid hn
  rw [hn]
  clear hr
  by_cases hbig : 150 < n
  · have hb : decide ((150 : Int) < (n : Int)) = true := decide_eq_true (by omega)
    have hg : Hid (greatB l = true) := Lib.hid (by unfold greatB; rw [hn, decide_eq_true hbig]; rfl)
    clear hn
    go_enter Try.func19, Try.ntmps19
    go_wp2_with fail
    go_ret
    exact ⟨by rw [hg.out]; rfl, rfl⟩
  have hb : decide ((150 : Int) < (n : Int)) = false := decide_eq_false (by omega)
  clear hn
  go_enter Try.func19, Try.ntmps19
  go_wp2_with fail
  go_loopw [3] (fun p wr => ∃ k : Nat, k ≤ n ∧ p = .int .i64 (k : Int) ∧ Hid (∀ v ∈ l.take k, v.x.b.length ≤ 700) ∧ Hid (wr = w)) (fun p _ => n - (intOf p).toNat)
  case atStart => exact ⟨0, Nat.zero_le _, rfl, Lib.hid (by simp), Lib.hid rfl⟩
  case round =>
    obtain ⟨k, hk, rfl, hp, hw⟩ := hrel
    have hw' : wr = w := hw.out
    subst hw'
    clear hw
    by_cases hlt : k < n
    · have hlt' : (k : Int) < (n : Int) := by omega
      have hkl : k < l.length := by have := Hn.out; omega
      obtain ⟨b, o, rfl, hbB, hcell⟩ := HR.out.elem (cells := Sv.cs) (fun _ => rfl) (by decide) hkl
      obtain ⟨v, hla⟩ : ∃ a, l[k] = a := ⟨_, rfl⟩
      rw [hla] at hcell
      have r3 : wr.cell? ⟨b, o + k * 4 + 3, none⟩ = some (.slice v.A v.x.b.length v.c) := hcell 3 _ rfl
      have Hla := Lib.hid hla
      obtain ⟨m, hm⟩ : ∃ m, v.x.b.length = m := ⟨_, rfl⟩
      rw [hm] at r3
      have Hm := Lib.hid hm
      have s3 : (k : Int).toNat = k := rfl
      have s4 : (0 : Int) ≤ (k : Int) := by omega
      clear hcell hla hm
      by_cases h2 : 700 < m
      · have hd : decide ((700 : Int) < (m : Int)) = true := decide_eq_true (by omega)
        have hg : Hid (greatB l = true) := Lib.hid (by
          unfold greatB
          rw [Bool.or_eq_true]
          refine .inr (List.any_eq_true.2 ⟨v, Hla.out ▸ List.getElem_mem hkl, decide_eq_true ?_⟩)
          rw [Hm.out]; exact h2)
        go_wp2_with fail
        go_ret
        exact ⟨by rw [hg.out]; rfl, rfl⟩
      · have hd : decide ((700 : Int) < (m : Int)) = false := decide_eq_false (by omega)
        have hp2 : Hid (∀ v ∈ l.take (k + 1), v.x.b.length ≤ 700) := Lib.hid (by
          intro x hx
          rw [List.take_add_one, List.getElem?_eq_getElem hkl, Hla.out] at hx
          rcases List.mem_append.1 hx with hx | hx
          · exact hp.out x hx
          · obtain rfl : x = v := by simpa using hx
            rw [Hm.out]; omega)
        go_wp2_with fail
        go_roundw
        case measure => simp [intOf]; omega
        case rel => exact ⟨k + 1, hlt, by go_num, hp2, Lib.hid trivial⟩
    · have hg : Hid (greatB l = false) := Lib.hid (by
        have hn := Hn.out
        unfold greatB
        rw [Bool.or_eq_false_iff]
        refine ⟨decide_eq_false (by omega), List.any_eq_false.2 fun x hx => ?_⟩
        have := hp.out x (by rw [List.take_of_length_le (by omega)]; exact hx)
        simp only [decide_eq_true_eq]
        omega)
      go_wp2_with fail
      go_ret
      exact ⟨by rw [hg.out]; rfl, rfl⟩
end Go.Proofs.Ytpgiljjjpijepaa
