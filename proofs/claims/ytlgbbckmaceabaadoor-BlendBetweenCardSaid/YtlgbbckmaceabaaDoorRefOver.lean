/- The reference's Over computes the same. -/
import Derived.Test.YtlgbbckmaceabaaDoorOver
namespace Go.Proofs.YtlgbbckmaceabaaDoor
open Go.RowKit
def kOf : Nat → Int
  | 0 => 1
  | 1 => 256
  | 2 => 65536
  | _ => 16777216
theorem refover_any (s d a : Int) (w : World) (hs : 0 ≤ s) (hs' : s < 4294967296) (hd : 0 ≤ d) (hd' : d < 4294967296) (ha : 0 ≤ a) (ha' : a ≤ 255) :
    Calls Tryd.prog 10 #[.int .u32 d, .int .u32 s, .int .u8 a] w fun e w' => e = .returned (.int .u32 (outV s d a 3)) ∧ Below w.heap.size w w' := by
  have ⟨p0, p0'⟩ := mul_le (show 0 ≤ s % 256 by omega) (show s % 256 ≤ 255 by omega) ha ha'
  have ⟨q0, q0'⟩ := mul_le (show 0 ≤ d % 256 by omega) (show d % 256 ≤ 255 by omega) (show 0 ≤ 255 - a by omega) (show 255 - a ≤ 255 by omega)
  have ⟨p1, p1'⟩ := mul_le (show 0 ≤ s / 256 % 256 by omega) (show s / 256 % 256 ≤ 255 by omega) ha ha'
  have ⟨q1, q1'⟩ := mul_le (show 0 ≤ d / 256 % 256 by omega) (show d / 256 % 256 ≤ 255 by omega) (show 0 ≤ 255 - a by omega) (show 255 - a ≤ 255 by omega)
  have ⟨p2, p2'⟩ := mul_le (show 0 ≤ s / 65536 % 256 by omega) (show s / 65536 % 256 ≤ 255 by omega) ha ha'
  have ⟨q2, q2'⟩ := mul_le (show 0 ≤ d / 65536 % 256 by omega) (show d / 65536 % 256 ≤ 255 by omega) (show 0 ≤ 255 - a by omega) (show 255 - a ≤ 255 by omega)
  have ⟨k0, k0'⟩ := chV_bd (show 0 ≤ s % 256 by omega) (show s % 256 ≤ 255 by omega) (show 0 ≤ d % 256 by omega) (show d % 256 ≤ 255 by omega) ha ha'
  have ⟨k1, k1'⟩ := chV_bd (show 0 ≤ s / 256 % 256 by omega) (show s / 256 % 256 ≤ 255 by omega) (show 0 ≤ d / 256 % 256 by omega) (show d / 256 % 256 ≤ 255 by omega) ha ha'
  have ⟨k2, k2'⟩ := chV_bd (show 0 ≤ s / 65536 % 256 by omega) (show s / 65536 % 256 ≤ 255 by omega) (show 0 ≤ d / 65536 % 256 by omega) (show d / 65536 % 256 ≤ 255 by omega) ha ha'
  unfold chV at k0 k0' k1 k1' k2 k2'
  go_enter Tryd.func10, Tryd.ntmps10
  go_wp2_with fail
  go_loopw [7, 8] (fun o i wr => ∃ k n : Nat, k ≤ 3 ∧ i = .int .u32 (kOf k) ∧ o = .int .u32 (outV s d a k) ∧ wr = w.drewN n) (fun _ i _ => 16777216 - (intOf i).toNat)
  case atStart => exact ⟨0, 0, by omega, rfl, rfl, rfl⟩
  case round =>
    obtain ⟨k, n, hk, rfl, rfl, rfl⟩ := hrel
    have hk5 : k = 0 ∨ k = 1 ∨ k = 2 ∨ k = 3 := by omega
    rcases hk5 with rfl | rfl | rfl | rfl
    · simp only [kOf, outV]
      go_wp2_with fail
      go_quiet (fail)
      go_wp2_with fail
      go_roundw
      case rel => exact ⟨1, _, by omega, rfl, by simp [outV, chV]; done, rfl⟩
      case measure => simp [intOf]
    · simp only [kOf, outV, chV]
      go_wp2_with fail
      go_quiet (fail)
      go_wp2_with fail
      go_roundw
      case rel => exact ⟨2, _, by omega, rfl, by simp [outV, chV]; done, rfl⟩
      case measure => simp [intOf]
    · simp only [kOf, outV, chV]
      go_wp2_with fail
      go_quiet (fail)
      go_wp2_with fail
      go_roundw
      case rel => exact ⟨3, _, by omega, rfl, by simp [outV, chV]; done, rfl⟩
      case measure => simp [intOf]
    · simp only [kOf]
      go_wp2_with fail
      go_ret
      exact ⟨rfl, below_drewN (Below.refl _ _) _⟩
end Go.Proofs.YtlgbbckmaceabaaDoor
