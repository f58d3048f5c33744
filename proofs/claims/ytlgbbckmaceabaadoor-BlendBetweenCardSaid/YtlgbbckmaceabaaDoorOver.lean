import Derived.Test.YtlgbbckmaceabaaDoorMix
import Derived.Lib.EndianBits
namespace Go.Proofs.YtlgbbckmaceabaaDoor
open Go.RowKit
/-- the table's three cells -/
def Chans (w : World) : Prop := w.cell? ⟨0, 0, none⟩ = some (.int .i64 0) ∧ w.cell? ⟨0, 1, none⟩ = some (.int .i64 8) ∧ w.cell? ⟨0, 2, none⟩ = some (.int .i64 16)
def outV (s d a : Int) : Nat → Int
  | 0 => 0
  | 1 => chV (s % 256) (d % 256) a
  | 2 => chV (s % 256) (d % 256) a + chV (s / 256 % 256) (d / 256 % 256) a * 256
  | _ => chV (s % 256) (d % 256) a + chV (s / 256 % 256) (d / 256 % 256) a * 256 + chV (s / 65536 % 256) (d / 65536 % 256) a * 65536
theorem over_any (s d a : Int) (w : World) (hC : Chans w) (hs : 0 ≤ s) (hs' : s < 4294967296) (hd : 0 ≤ d) (hd' : d < 4294967296) (ha : 0 ≤ a) (ha' : a ≤ 255) :
    Calls Tryd.prog 9 #[.int .u32 d, .int .u32 s, .int .u8 a] w fun e w' => e = .returned (.int .u32 (outV s d a 3)) ∧ Below w.heap.size w w' := by
  obtain ⟨g0, g1, g2⟩ := hC
  have ⟨k0, k0'⟩ := chV_bd (show 0 ≤ s % 256 by omega) (show s % 256 ≤ 255 by omega) (show 0 ≤ d % 256 by omega) (show d % 256 ≤ 255 by omega) ha ha'
  have ⟨k1, k1'⟩ := chV_bd (show 0 ≤ s / 256 % 256 by omega) (show s / 256 % 256 ≤ 255 by omega) (show 0 ≤ d / 256 % 256 by omega) (show d / 256 % 256 ≤ 255 by omega) ha ha'
  have ⟨k2, k2'⟩ := chV_bd (show 0 ≤ s / 65536 % 256 by omega) (show s / 65536 % 256 ≤ 255 by omega) (show 0 ≤ d / 65536 % 256 by omega) (show d / 65536 % 256 ≤ 255 by omega) ha ha'
  have o0 : bits BinOp.or IntKind.u32 0 (chV (s % 256) (d % 256) a) = chV (s % 256) (d % 256) a := by rw [u32_or _ _ (by omega) (by omega) (by omega) (by omega)]; simp; omega
  have o1 : bits BinOp.or IntKind.u32 (chV (s % 256) (d % 256) a) (chV (s / 256 % 256) (d / 256 % 256) a * 256) = outV s d a 2 := u32_or8 _ _ (by omega) (by omega) (by omega) (by omega) (by omega)
  have o2 : bits BinOp.or IntKind.u32 (outV s d a 2) (chV (s / 65536 % 256) (d / 65536 % 256) a * 65536) = outV s d a 3 := u32_or16 _ _ (by simp only [outV]; omega) (by simp only [outV]; omega) (by omega) (by omega) (by omega)
  have O0 := Lib.hid o0
  have O1 := Lib.hid o1
  have O2 := Lib.hid o2
  clear o0 o1 o2
  have i0 : ∀ w : World, (Instr.index 32 (.agg #[.int .i64 0, .int .i64 8, .int .i64 16]) (.int .i64 0)).run Tryd.prog w = .ok (.int .i64 0) w := fun _ => by kernel_rfl
  have i1 : ∀ w : World, (Instr.index 32 (.agg #[.int .i64 0, .int .i64 8, .int .i64 16]) (.int .i64 1)).run Tryd.prog w = .ok (.int .i64 8) w := fun _ => by kernel_rfl
  have i2 : ∀ w : World, (Instr.index 32 (.agg #[.int .i64 0, .int .i64 8, .int .i64 16]) (.int .i64 2)).run Tryd.prog w = .ok (.int .i64 16) w := fun _ => by kernel_rfl
  have hlt : 0 < w.heap.size := World.block_lt_of_cell? _ _ g0
  go_enter Tryd.func9, Tryd.ntmps9
  go_wp2_with fail
  obtain ⟨W1, hW1, c1, c2, c3, hB, hz⟩ := boxes3 w (.int .u32 d) (.int .u32 s) (.int .u8 a) 22 22 5
  rw [hW1]
  clear hW1
  go_loopw [8, 13] (fun o i wr => ∃ k n : Nat, k ≤ 3 ∧ i = .int .i64 k ∧ o = .int .u32 (outV s d a k) ∧ wr = W1.drewN n) (fun _ i _ => 3 - (intOf i).toNat)
  case atStart => exact ⟨0, 0, by omega, rfl, rfl, rfl⟩
  case round =>
    obtain ⟨k, n, hk, rfl, rfl, rfl⟩ := hrel
    have hk5 : k = 0 ∨ k = 1 ∨ k = 2 ∨ k = 3 := by omega
    rcases hk5 with rfl | rfl | rfl | rfl
    · go_wp2_with (go_at_call 14; refine (mix0 s d a _ _ _ _ (by exact c2) (by exact c1) (by exact c3) hs hs' hd hd' ha ha').mono ?_; rintro e w' ⟨rfl, m, rfl⟩)
      go_roundw
      case rel => exact ⟨1, _, by omega, rfl, by have := O0.out; simp [outV]; exact this, rfl⟩
      case measure => simp [intOf]
    · go_wp2_with (go_at_call 14; refine (mix8 s d a _ _ _ _ (by exact c2) (by exact c1) (by exact c3) hs hs' hd hd' ha ha').mono ?_; rintro e w' ⟨rfl, m, rfl⟩)
      go_roundw
      case rel => exact ⟨2, _, by omega, rfl, by have := O1.out; exact congrArg (Value.int .u32) this, rfl⟩
      case measure => simp [intOf]
    · go_wp2_with (go_at_call 14; refine (mix16 s d a _ _ _ _ (by exact c2) (by exact c1) (by exact c3) hs hs' hd hd' ha ha').mono ?_; rintro e w' ⟨rfl, m, rfl⟩)
      go_roundw
      case rel => exact ⟨3, _, by omega, rfl, by have := O2.out; exact congrArg (Value.int .u32) this, rfl⟩
      case measure => simp [intOf]
    · go_wp2_with fail
      go_ret
      exact ⟨rfl, below_drewN hB _⟩
end Go.Proofs.YtlgbbckmaceabaaDoor
