/- Small laws on boxes that a call lays, and on what stands below them. -/
import Derived.Test.YtlgbbckmaceabaaDoorRows
import Derived.WalkKit
import Derived.ProofKit
import Derived.WalkSmall
import Derived.Deep.QuietTactic
import Derived.BigQuiet
import Derived.Lib.Hide
namespace Go.Proofs.YtlgbbckmaceabaaDoor
open Go.RowKit
/-- three boxes laid one behind the other -/
theorem boxes3 (w : World) (x y z : Value) (tx ty tz : TypeId) : ∃ W1, ((w.alloc (.cells #[x] tx)).alloc (.cells #[y] ty)).alloc (.cells #[z] tz) = W1 ∧
    W1.cell? ⟨w.heap.size, 0, none⟩ = some x ∧ W1.cell? ⟨w.heap.size + 1, 0, none⟩ = some y ∧ W1.cell? ⟨w.heap.size + 1 + 1, 0, none⟩ = some z ∧ Below w.heap.size w W1 ∧ W1.heap.size = w.heap.size + 3 :=
  ⟨_, rfl, by go_simp, by go_simp, by go_simp, (((Below.refl _ _).alloc (Nat.le_refl _) _).alloc (by simp) _).alloc (by simp; omega) _, by simp⟩
end Go.Proofs.YtlgbbckmaceabaaDoor
