/- Calls on no link. -/
import Derived.Test.YtpgiljjjpijepaaLCarry
namespace Go.Proofs.Ytpgiljjjpijepaa
open Go.RowKit
section
variable {w0 w : World} {L : List Asn}
theorem take_nil (A : Option Addr) (n c : Nat) (hS : Sep w0 w L) : Calls Try.prog 13 #[.pointer none, .agg #[.int .u32 0, .int .u64 0, .int .u64 0, .slice A n c]] w fun en w' => en = .returned (.int .i64 8) ∧ Sep w0 w' L := by
  obtain ⟨W1, hW1, S1⟩ := hS.boxedF 32 #[.int .u32 0, .int .u64 0, .int .u64 0, .slice A n c]
  go_enter Try.func13, Try.ntmps13
  go_wp2_with fail
  go_ret
  exact ⟨rfl, S1.tail⟩
theorem nil_any (A : Option Addr) (n c : Nat) (k : Int) (hk : -9223372036854775808 ≤ k ∧ k ≤ 9223372036854775807) (w : World) : Calls Try.prog 9 #[.slice A n c, .int .i64 k] w fun e w' => e = .returned (.bool true) ∧ Below w.heap.size w w' := by
  by_cases h : 1000 < n
  · have d0 : decide ((1000 : Int) < (n : Int)) = true := decide_eq_true (by omega)
    have d1 : decide (1000 < n) = true := decide_eq_true h
    go_enter Try.func9, Try.ntmps9
    go_wp2_with fail
    go_ret
    exact ⟨rfl, Below.refl _ _⟩
  have d0 : decide ((1000 : Int) < (n : Int)) = false := decide_eq_false (by omega)
  have d1 : decide (1000 < n) = false := decide_eq_false h
  clear h
  go_enter Try.func9, Try.ntmps9
  go_wp2_with fail
  refine (sizes_nil _).mono ?_
  rintro e w1 ⟨rfl, rfl⟩
  go_wp2_with fail
  refine (epoch_nil _).mono ?_
  rintro e w1 ⟨rfl, rfl⟩
  go_wp2_with fail
  refine (write_nil _ _).mono ?_
  rintro e w1 ⟨rfl, rfl⟩
  go_wp2_with fail
  refine (tick_nil _).mono ?_
  rintro e w2 ⟨rfl, b2⟩
  have S2 := (Sep.start w).grow b2
  go_wp2_with fail
  refine (take_nil A n c S2).mono ?_
  rintro e w3 ⟨rfl, S3⟩
  go_wp2_with fail
  refine (peek_nil _).mono ?_
  rintro e w4 ⟨rfl, rfl⟩
  go_wp2_with fail
  refine (read_nil k hk _).mono ?_
  rintro e w4 ⟨rfl, rfl⟩
  go_wp2_with fail
  refine (idle_nil _).mono ?_
  rintro e w4 ⟨rfl, rfl⟩
  go_wp2_with fail
  refine (carries_any _).mono ?_
  rintro e w5 ⟨rfl, b5⟩
  have S5 := S3.grow b5
  go_wp2_with fail
  go_ret
  exact ⟨rfl, S5.below⟩
end
end Go.Proofs.Ytpgiljjjpijepaa
