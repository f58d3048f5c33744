/- blend.Mul and its parts: what they compute. -/
import Derived.Test.YtlgbbckmaceabaaDoorCom
import Derived.WalkKit
import Derived.ProofKit
namespace Go.Proofs.YtlgbbckmaceabaaDoor
open Go.RowKit

theorem mul_le {a b p q : Int} (ha : 0 ≤ a) (ha' : a ≤ p) (hb : 0 ≤ b) (hb' : b ≤ q) : 0 ≤ a * b ∧ a * b ≤ p * q :=
  ⟨Int.mul_nonneg ha hb, Int.mul_le_mul ha' hb' hb (by omega)⟩

theorem part_any (n : Int) (w : World) (h0 : 0 ≤ n) (h1 : n ≤ 200000) :
    Calls Tryd.prog 13 #[.int .i64 n] w fun e w' => e = .returned (.int .i64 ((n + 127) / 255)) ∧ w = w' := by
  go_enter Tryd.func13, Tryd.ntmps13
  go_wp2
  go_ret
  exact ⟨rfl, rfl⟩
def mulV (a b : Int) : Int := (a * b + 127) / 255
theorem mulV_bd {a b : Int} (ha : 0 ≤ a) (ha' : a ≤ 255) (hb : 0 ≤ b) (hb' : b ≤ 255) : 0 ≤ mulV a b ∧ mulV a b ≤ 255 := by
  have h := mul_le ha ha' hb hb'
  unfold mulV
  omega
theorem mul_any (a b : Int) (w : World) (ha : 0 ≤ a) (ha' : a ≤ 255) (hb : 0 ≤ b) (hb' : b ≤ 255) :
    Calls Tryd.prog 7 #[.int .u8 a, .int .u8 b] w fun e w' => e = .returned (.int .u8 (mulV a b)) ∧ w = w' := by
  have ⟨h0, h1⟩ := mul_le ha ha' hb hb'
  go_enter Tryd.func7, Tryd.ntmps7
  go_wp2_with (go_at_call 13; refine (part_any _ _ (by omega) (by omega)).mono ?_; rintro e w' ⟨rfl, rfl⟩)
  go_ret
  exact ⟨rfl, rfl⟩
theorem refmul_any (a b : Int) (w : World) (ha : 0 ≤ a) (ha' : a ≤ 255) (hb : 0 ≤ b) (hb' : b ≤ 255) :
    Calls Tryd.prog 8 #[.int .u8 a, .int .u8 b] w fun e w' => e = .returned (.int .u8 (mulV a b)) ∧ w = w' := by
  have ⟨h0, h1⟩ := mul_le ha ha' hb hb'
  go_enter Tryd.func8, Tryd.ntmps8
  go_wp2
  go_ret
  exact ⟨rfl, rfl⟩
end Go.Proofs.YtlgbbckmaceabaaDoor
