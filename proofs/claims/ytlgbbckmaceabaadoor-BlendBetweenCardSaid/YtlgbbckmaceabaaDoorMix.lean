/- blend.Over's closure: one channel of a colour over another one, at the three shifts. -/
import Derived.Test.YtlgbbckmaceabaaDoorMul
import Derived.Deep.QuietTactic
import Derived.BigQuiet
namespace Go.Proofs.YtlgbbckmaceabaaDoor
open Go.RowKit
/-- a channel x over a channel y -/
def chV (x y a : Int) : Int := (x * a + y * (255 - a) + 127) / 255
theorem chV_bd {x y a : Int} (hx : 0 ≤ x) (hx' : x ≤ 255) (hy : 0 ≤ y) (hy' : y ≤ 255) (ha : 0 ≤ a) (ha' : a ≤ 255) : 0 ≤ chV x y a ∧ chV x y a ≤ 255 := by
  have h := mul_le hx hx' ha ha'
  have h2 := mul_le hy hy' (show 0 ≤ 255 - a by omega) (show 255 - a ≤ 255 by omega)
  have h3 : x * a + y * (255 - a) ≤ 255 * 255 := by
    have e1 := Int.mul_le_mul_of_nonneg_right hx' ha
    have e2 := Int.mul_le_mul_of_nonneg_right hy' (show 0 ≤ 255 - a by omega)
    omega
  unfold chV
  omega
theorem mix0 (s d a : Int) (w : World) (p0 p1 p2 : Addr) (h0 : w.cell? p0 = some (.int .u32 s)) (h1 : w.cell? p1 = some (.int .u32 d)) (h2 : w.cell? p2 = some (.int .u8 a))
    (hs : 0 ≤ s) (hs' : s < 4294967296) (hd : 0 ≤ d) (hd' : d < 4294967296) (ha : 0 ≤ a) (ha' : a ≤ 255) :
    Calls Tryd.prog 14 #[.int .i64 0, .pointer (some p0), .pointer (some p1), .pointer (some p2)] w fun e w' => e = .returned (.int .u32 (chV (s % 256) (d % 256) a)) ∧ ∃ n, w' = w.drewN n := by
  have ⟨b0, b1⟩ := mul_le (show 0 ≤ s % 256 by omega) (show s % 256 ≤ 255 by omega) ha ha'
  have ⟨b2, b3⟩ := mul_le (show 0 ≤ d % 256 by omega) (show d % 256 ≤ 255 by omega) (show 0 ≤ 255 - a by omega) (show 255 - a ≤ 255 by omega)
  have ⟨b4, b5⟩ := chV_bd (show 0 ≤ s % 256 by omega) (show s % 256 ≤ 255 by omega) (show 0 ≤ d % 256 by omega) (show d % 256 ≤ 255 by omega) ha ha'
  unfold chV at b4 b5
  go_enter Tryd.func14, Tryd.ntmps14
  go_wp2_with fail
  go_quiet (fail)
  go_wp2_with (go_at_call 13; refine (part_any _ _ (by omega) (by omega)).mono ?_; rintro e w' ⟨rfl, rfl⟩)
  go_ret
  exact ⟨rfl, _, rfl⟩
theorem mix8 (s d a : Int) (w : World) (p0 p1 p2 : Addr) (h0 : w.cell? p0 = some (.int .u32 s)) (h1 : w.cell? p1 = some (.int .u32 d)) (h2 : w.cell? p2 = some (.int .u8 a))
    (hs : 0 ≤ s) (hs' : s < 4294967296) (hd : 0 ≤ d) (hd' : d < 4294967296) (ha : 0 ≤ a) (ha' : a ≤ 255) :
    Calls Tryd.prog 14 #[.int .i64 8, .pointer (some p0), .pointer (some p1), .pointer (some p2)] w fun e w' => e = .returned (.int .u32 (chV (s / 256 % 256) (d / 256 % 256) a * 256)) ∧ ∃ n, w' = w.drewN n := by
  have ⟨b0, b1⟩ := mul_le (show 0 ≤ s / 256 % 256 by omega) (show s / 256 % 256 ≤ 255 by omega) ha ha'
  have ⟨b2, b3⟩ := mul_le (show 0 ≤ d / 256 % 256 by omega) (show d / 256 % 256 ≤ 255 by omega) (show 0 ≤ 255 - a by omega) (show 255 - a ≤ 255 by omega)
  have ⟨b4, b5⟩ := chV_bd (show 0 ≤ s / 256 % 256 by omega) (show s / 256 % 256 ≤ 255 by omega) (show 0 ≤ d / 256 % 256 by omega) (show d / 256 % 256 ≤ 255 by omega) ha ha'
  unfold chV at b4 b5
  go_enter Tryd.func14, Tryd.ntmps14
  go_wp2_with fail
  go_quiet (fail)
  go_wp2_with (go_at_call 13; refine (part_any _ _ (by omega) (by omega)).mono ?_; rintro e w' ⟨rfl, rfl⟩)
  go_ret
  exact ⟨rfl, _, rfl⟩
theorem mix16 (s d a : Int) (w : World) (p0 p1 p2 : Addr) (h0 : w.cell? p0 = some (.int .u32 s)) (h1 : w.cell? p1 = some (.int .u32 d)) (h2 : w.cell? p2 = some (.int .u8 a))
    (hs : 0 ≤ s) (hs' : s < 4294967296) (hd : 0 ≤ d) (hd' : d < 4294967296) (ha : 0 ≤ a) (ha' : a ≤ 255) :
    Calls Tryd.prog 14 #[.int .i64 16, .pointer (some p0), .pointer (some p1), .pointer (some p2)] w fun e w' => e = .returned (.int .u32 (chV (s / 65536 % 256) (d / 65536 % 256) a * 65536)) ∧ ∃ n, w' = w.drewN n := by
  have ⟨b0, b1⟩ := mul_le (show 0 ≤ s / 65536 % 256 by omega) (show s / 65536 % 256 ≤ 255 by omega) ha ha'
  have ⟨b2, b3⟩ := mul_le (show 0 ≤ d / 65536 % 256 by omega) (show d / 65536 % 256 ≤ 255 by omega) (show 0 ≤ 255 - a by omega) (show 255 - a ≤ 255 by omega)
  have ⟨b4, b5⟩ := chV_bd (show 0 ≤ s / 65536 % 256 by omega) (show s / 65536 % 256 ≤ 255 by omega) (show 0 ≤ d / 65536 % 256 by omega) (show d / 65536 % 256 ≤ 255 by omega) ha ha'
  unfold chV at b4 b5
  go_enter Tryd.func14, Tryd.ntmps14
  go_wp2_with fail
  go_quiet (fail)
  go_wp2_with (go_at_call 13; refine (part_any _ _ (by omega) (by omega)).mono ?_; rintro e w' ⟨rfl, rfl⟩)
  go_ret
  exact ⟨rfl, _, rfl⟩
end Go.Proofs.YtlgbbckmaceabaaDoor
