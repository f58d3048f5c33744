/- LinkEach, at an epoch as it comes in. -/
import Derived.Test.YtpgiljjjpijepaaLEach
namespace Go.Proofs.Ytpgiljjjpijepaa
open Go.RowKit
theorem each_int (a : Int) (ha : 0 ≤ a) (l : List Sv) (A : Option Addr) (c : Nat) (w : World) (hr : Reads w w.heap.size 4 A l.length (l.flatMap Sv.cs)) (hok : ∀ v ∈ l, v.ok w) : Calls Try.prog 4 #[.int .u32 a, .slice A l.length c] w fun en w' => en = .returned (.bool true) ∧ Below w.heap.size w w' := by
  obtain ⟨e, rfl⟩ := Int.eq_ofNat_of_zero_le ha
  exact each_any e l A c w hr hok
end Go.Proofs.Ytpgiljjjpijepaa
