/- The walks of the queue's Len and Given, and of the gate's Last. -/
import Derived.Test.YtmkmggbafboelaaBase
import Derived.Test.YtmkmggbafboelaaRows
import Derived.Deep.QuietTactic
import Derived.BigQuiet
import Derived.Outline
import Derived.IntWalk
namespace Go.Proofs.Ytmkmggbafboelaa
open Go.RowKit
theorem len_walk (g : Nat) (n a : Nat) (w : World) (h1 : w.cell? ⟨g, 80, none⟩ = some (.int .u32 (n : Int))) (h2 : w.cell? ⟨g, 81, none⟩ = some (.int .u32 (a : Int))) (hle : a ≤ n) (hn : n < 4294967296) :
    Calls Try.prog 10 #[.pointer (some ⟨g, 0, none⟩)] w fun e w' => e = .returned (.int .i64 ((n - a : Nat) : Int)) ∧ ∃ k, w' = w.drewN k := by
  have hs : IntKind.u32.wrap ((n : Int) - (a : Int)) = ((n - a : Nat) : Int) := by simp [IntKind.wrap, IntKind.signed, IntKind.bits]; omega
  have hs2 : IntKind.i64.wrap ((n - a : Nat) : Int) = ((n - a : Nat) : Int) := IntWalk.i64_in _ (by omega)
  go_enter Try.func10, Try.ntmps10
  go_wp2_with fail
  go_quiet (fail)
  go_wp2_with fail
  go_ret
  exact ⟨rfl, _, rfl⟩
theorem len_nil (w : World) : Calls Try.prog 10 #[.pointer none] w fun e w' => e = .returned (.int .i64 0) ∧ w = w' := by
  go_enter Try.func10, Try.ntmps10
  go_wp2_with fail
  go_ret
  exact ⟨rfl, rfl⟩
theorem given_walk (g : Nat) (n : Nat) (w : World) (h1 : w.cell? ⟨g, 80, none⟩ = some (.int .u32 (n : Int))) :
    Calls Try.prog 21 #[.pointer (some ⟨g, 0, none⟩)] w fun e w' => e = .returned (.int .u32 (n : Int)) ∧ w = w' := by
  go_enter Try.func21, Try.ntmps21
  go_wp2_with fail
  go_ret
  exact ⟨rfl, rfl⟩
theorem given_nil (w : World) : Calls Try.prog 21 #[.pointer none] w fun e w' => e = .returned (.int .u32 0) ∧ w = w' := by
  go_enter Try.func21, Try.ntmps21
  go_wp2_with fail
  go_ret
  exact ⟨rfl, rfl⟩
theorem last_walk (g : Nat) (n : Nat) (w : World) (h1 : w.cell? ⟨g, 0, none⟩ = some (.int .u32 (n : Int))) :
    Calls Try.prog 13 #[.pointer (some ⟨g, 0, none⟩)] w fun e w' => e = .returned (.int .u32 (n : Int)) ∧ w = w' := by
  go_enter Try.func13, Try.ntmps13
  go_wp2_with fail
  go_ret
  exact ⟨rfl, rfl⟩
theorem last_nil (w : World) : Calls Try.prog 13 #[.pointer none] w fun e w' => e = .returned (.int .u32 0) ∧ w = w' := by
  go_enter Try.func13, Try.ntmps13
  go_wp2_with fail
  go_ret
  exact ⟨rfl, rfl⟩
end Go.Proofs.Ytmkmggbafboelaa
