/- step, whatever it is; what it makes of the pair. -/
import Derived.Test.YtpgiljjjpijepaaLStepP
import Derived.Test.YtpgiljjjpijepaaLStepR
namespace Go.Proofs.Ytpgiljjjpijepaa
open Go.RowKit
structure St where
  d : Nat
  s : Bool
  a : Int
  b : List Nat
def pickN (a : Int) (n : Nat) : Nat := (pickI a n).toNat
def at? (p : PS) (a : Int) : Option (Bool × Pk) := p.ws[pickN a p.ws.length]?
def stepS (p : PS) (x : St) : PS :=
  if x.d % 6 = 0 then writeP p x.s x.b
  else if x.d % 6 = 1 then tickPS p x.s
  else if x.d % 6 = 5 then readPS p x.s x.a
  else match at? p x.a with
    | none => p
    | some y => if x.d % 6 = 2 then takePS p y.1 y.2 (pickN x.a p.ws.length) else if x.d % 6 = 3 then { p with ws := p.ws.eraseIdx (pickN x.a p.ws.length) } else { p with ws := p.ws ++ [y] }
def stepR (p : PS) (x : St) : Bool := if x.d % 6 = 2 then match at? p x.a with | none => true | some y => takeE (p.l y.1) y.2 == 0 else true
/-- what the walk of a step asks -/
structure Fit (p : PS) : Prop where
  inv : ∀ s, Inv (p.l s)
  ticks : ∀ s, (p.l s).ticks ≤ 1000
  most : ∀ s, (p.l s).most ≤ (p.l s).base + (p.l s).wait.length
  next : ∀ s, (p.l s).next ≤ 1000000000000
  got : ∀ s, (p.l s).got.length ≤ 1048576
  wr : ∀ s, (p.wr s).length ≤ 1000000000
  rd : ∀ s, (p.rd s).length ≤ 1000000000
  len : p.ws.length ≤ 1000000000
  pk : ∀ y ∈ p.ws, y.2.o < 18446744073709551616 ∧ y.2.a < 18446744073709551616 ∧ y.2.d.length ≤ 1000000
section
variable {w0 w w' : World} {L M : List Asn}
theorem at_none {p : PS} {a : Int} (h : at? p a = none) : p.ws = [] := by
  unfold at? pickN at h
  rw [List.getElem?_eq_none_iff] at h
  rcases Nat.eq_zero_or_pos p.ws.length with h0 | h0
  · exact List.eq_nil_of_length_eq_zero h0
  · have := pickI_lt a p.ws.length h0
    omega
theorem at_some {p : PS} {a : Int} {y : Bool × Pk} (h : at? p a = some y) : pickI a p.ws.length = (pickN a p.ws.length : Int) := by
  have hl := (List.getElem?_eq_some_iff.1 h).1
  have := pickI_lt a p.ws.length (by omega)
  unfold pickN
  omega
theorem step_any {gp : Nat} {p : PS} (x : St) (A : Option Addr) (m c : Nat) (hF : Fit p) (hm : m ≤ 1000000) (hR : RB w0 A m x.b) (hS : Sep w0 w (PairAt gp p :: M)) :
    Calls Try.prog 22 #[.pointer (some ⟨gp, 0, none⟩), .agg #[.int .u8 (x.d : Int), .bool x.s, .int .i64 x.a, .slice A m c]] w fun en w' => en = .returned (.bool (stepR p x)) ∧ Sep w0 w' (PairAt gp (stepS p x) :: M) := by
  unfold stepS stepR
  by_cases h0 : x.d % 6 = 0
  · rw [if_pos h0, if_neg (by omega)]
    exact step0_any x.d h0 x.s x.a x.b A m c hF.len hm hR (hF.inv x.s).wl (hF.wr x.s) hS
  rw [if_neg h0]
  by_cases h1 : x.d % 6 = 1
  · rw [if_pos h1, if_neg (by omega)]
    exact step1_any x.d h1 x.s x.a A m c hF.len (hF.inv x.s) (hF.ticks x.s) hS
  rw [if_neg h1]
  by_cases h5 : x.d % 6 = 5
  · rw [if_pos h5, if_neg (by omega)]
    exact step5_any x.d h5 x.s x.a A m c hF.len (hF.got x.s) (hF.rd x.s) hS
  rw [if_neg h5]
  cases hy : at? p x.a with
  | none =>
    have h := at_none hy
    by_cases h2 : x.d % 6 = 2
    · rw [if_pos h2]
      exact step2_none x.d h2 x.s x.a A m c hF.len h hS
    · rw [if_neg h2]
      by_cases h3 : x.d % 6 = 3
      · exact step3_none x.d h3 x.s x.a A m c hF.len h hS
      · exact step4_none x.d (by omega) x.s x.a A m c hF.len h hS
  | some y =>
    obtain ⟨tt, q⟩ := y
    have hk := at_some hy
    obtain ⟨ho, ha, hqd⟩ := hF.pk (tt, q) (List.mem_of_getElem? hy)
    by_cases h2 : x.d % 6 = 2
    · rw [if_pos h2]
      simp only [if_pos h2]
      cases tt
      · exact step2_false x.d h2 x.s x.a A m c hF.len _ q hk hy ho ha hqd (hF.most _) (hF.inv _).wl (hF.next _) (hF.got _) hS
      · exact step2_true x.d h2 x.s x.a A m c hF.len _ q hk hy ho ha hqd (hF.most _) (hF.inv _).wl (hF.next _) (hF.got _) hS
    · rw [if_neg h2]
      simp only [if_neg h2]
      by_cases h3 : x.d % 6 = 3
      · rw [if_pos h3]
        exact step3_some x.d h3 x.s x.a A m c hF.len _ tt q hk hy hS
      · rw [if_neg h3]
        exact step4_some x.d (by omega) x.s x.a A m c hF.len _ tt q hk hy hS
end
end Go.Proofs.Ytpgiljjjpijepaa
