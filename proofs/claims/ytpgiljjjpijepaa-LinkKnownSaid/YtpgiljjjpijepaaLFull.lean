/- full: the limits are what they are. -/
import Derived.Test.YtpgiljjjpijepaaLKnA
namespace Go.Proofs.Ytpgiljjjpijepaa
open Go.RowKit
def fA : LS := { newL 1 with wait := zs 1048576 }
theorem fA_len : fA.wait.length = 1048576 := zs_len _
theorem fW1 : writeE (newL 1) 1048576 = 0 ∧ writeS (newL 1) (zs 1048576) = fA := by
  refine ⟨by unfold writeE; rw [if_neg (by simp [newL])], ?_⟩
  unfold writeS
  rw [zs_len, if_neg (by simp [newL])]
  rfl
theorem fW2 : writeE fA 1 = 3 ∧ writeS fA [1] = fA := by
  unfold writeE writeS
  rw [fA_len, if_pos (by decide), if_pos (by decide)]
  exact ⟨rfl, rfl⟩
theorem fW3 : writeE fA 0 = 0 := by
  unfold writeE
  rw [fA_len, if_neg (by decide)]
/-- k packets of 4096 bytes have come -/
def FS (k : Nat) : LS := ⟨[], 0, 0, 0, 0, zs (4096 * k), 4096 * k, decide (0 < k), 1⟩
def fP (k : Nat) : Pk := ⟨1, 4096 * k, 0, zs 4096⟩
def fQ : Pk := ⟨1, 1048576, 0, [1]⟩
theorem fs_take {k : Nat} (hk : k < 256) : takeE (FS k) (fP k) = 0 ∧ takeS (FS k) (fP k) = FS (k + 1) := by
  refine ⟨rfl, ?_⟩
  have h0 : confS (FS k) 0 = FS k := rfl
  unfold takeS
  rw [if_neg (by simp [fP, FS]), if_neg (by simp [fP, FS]), show (fP k).a = 0 from rfl, h0]
  unfold comeS
  rw [show (fP k).d = zs 4096 from rfl, show (fP k).o = 4096 * k from rfl, show (FS k).next = 4096 * k from rfl, show (FS k).got = zs (4096 * k) from rfl, zs_len, zs_len, Nat.sub_self, if_neg (by decide), if_neg (by omega), if_neg (by omega)]
  unfold FS
  simp only [List.drop_zero, LS.mk.injEq, true_and]
  refine ⟨?_, by omega, (decide_eq_true (by omega)).symm, trivial⟩
  unfold zs
  rw [List.replicate_append_replicate]
  congr 1
theorem fs_full : takeE (FS 256) fQ = 0 ∧ takeS (FS 256) fQ = FS 256 := by
  refine ⟨rfl, ?_⟩
  have h0 : confS (FS 256) 0 = FS 256 := rfl
  unfold takeS
  rw [if_neg (by simp [fQ, FS]), if_neg (by simp [fQ, FS]), show fQ.a = 0 from rfl, h0]
  unfold comeS
  rw [show fQ.d = [1] from rfl, show fQ.o = 1048576 from rfl, show (FS 256).next = 1048576 from rfl, show (FS 256).got = zs 1048576 from rfl, zs_len, if_neg (by decide), if_neg (by decide), if_pos (by decide)]
  rfl
/-- one byte was read -/
def fR : LS := { FS 256 with got := zs 1048575 }
theorem fs_read : readB (FS 256) 1 = [0] ∧ readL (FS 256) 1 = fR := by
  have h1 : readN (FS 256) 1 = 1 := by
    unfold readN
    rw [show (FS 256).got = zs 1048576 from rfl, zs_len]
    decide
  have h2 : (FS 256).got = 0 :: zs 1048575 := by
    show zs 1048576 = _
    unfold zs
    rw [← List.replicate_succ]
  unfold readB readL
  rw [h1, h2]
  exact ⟨rfl, rfl⟩
def fT : LS := { FS 256 with got := zs 1048575 ++ [1], next := 1048577 }
theorem fs_last : takeE fR fQ = 0 ∧ takeS fR fQ = fT ∧ fT.got.length = 1048576 := by
  refine ⟨rfl, ?_, by show (zs 1048575 ++ [1]).length = _; rw [List.length_append, zs_len]; rfl⟩
  have h0 : confS fR 0 = fR := rfl
  unfold takeS
  rw [if_neg (by simp [fQ, fR, FS]), if_neg (by simp [fQ, fR, FS]), show fQ.a = 0 from rfl, h0]
  unfold comeS
  rw [show fQ.d = [1] from rfl, show fQ.o = 1048576 from rfl, show fR.next = 1048576 from rfl, show fR.got = zs 1048575 from rfl, zs_len, if_neg (by decide), if_neg (by decide), if_neg (by decide)]
  rfl
set_option maxRecDepth 100000 in
theorem full_any (w : World) : Calls Try.prog 17 #[] w fun e w' => e = .returned (.bool true) ∧ Below w.heap.size w w' := by
  go_enter Try.func17, Try.ntmps17
  go_wp2_with fail
  refine (new_any 1 (Sep.start w)).mono ?_
  rintro e w1 ⟨a, rfl, S1⟩
  obtain ⟨W2, h2, S2⟩ := make_row 1048576 (by decide) 1048576 rfl S1
  obtain ⟨x2, hx2⟩ : ∃ x, w1.heap.size = x := ⟨_, rfl⟩
  rw [hx2] at h2 S2
  clear S1 hx2
  go_wp2_with fail
  refine (write_any (zs 1048576) _ 1048576 1048576 (S2.rb 0 rfl).1 (by decide) 1 rfl S2).mono ?_
  rw [fW1.1, fW1.2]
  rintro e w3 ⟨rfl, S3⟩
  replace S3 : Sep w w3 [LinkAt a fA] := S3.tail
  obtain ⟨W4, h4, S4⟩ := built_row [1] 1 rfl (by decide) #[.int .u8 1] rfl S3
  obtain ⟨x4, hx4⟩ : ∃ x, w3.heap.size = x := ⟨_, rfl⟩
  rw [hx4] at S4
  clear S2 S3 h2
  go_wp2_with fail
  refine (write_any [1] _ 1 1 (S4.rb 0 rfl).1 (Nat.le_of_eq fA_len) 1 rfl S4).mono ?_
  rw [fW2.1, fW2.2]
  rintro e w5 ⟨rfl, S5⟩
  replace S5 : Sep w w5 [LinkAt a fA] := S5.tail
  clear S4 h4 hx4
  go_wp2_with fail
  refine (write_any [] none 0 0 (RB.nil _ 0).1 (Nat.le_of_eq fA_len) 0 rfl S5).mono ?_
  rw [fW3]
  rintro e w6 ⟨rfl, S6⟩
  go_wp2_with fail
  refine (new_any 1 S6).mono ?_
  rintro e w7 ⟨g, rfl, S7⟩
  replace S7 : Sep w w7 [LinkAt g (FS 0)] := S7.drop 1
  clear S5 S6
  go_wp2_with fail
  go_loopw [3] (fun p3 wr => ∃ k, k ≤ 256 ∧ p3 = .int .u64 ((4096 * k : Nat) : Int) ∧ Sep w wr [LinkAt g (FS k)]) (fun p3 _ => 1048576 - (intOf p3).toNat)
  case atStart => exact ⟨0, by decide, rfl, S7⟩
  case round =>
    clear S7
    obtain ⟨k, hk, rfl, S8⟩ := hrel
    by_cases hlt : k < 256
    · have e1 : decide (((4096 * k : Nat) : Int) < 1048576) = true := decide_eq_true (by omega)
      have i1 : IntKind.u64.wrap (((4096 * k : Nat) : Int) + 4096) = ((4096 * (k + 1) : Nat) : Int) := by rw [u64_in (by omega) (by omega)]; omega
      obtain ⟨W9, h9, S9⟩ := make_row 4096 (by decide) 4096 rfl S8
      obtain ⟨x9, hx9⟩ : ∃ x, wr.heap.size = x := ⟨_, rfl⟩
      rw [hx9] at h9 S9
      have HT := Lib.hid (take_row 0 (fP k) 4096 (zs_len _) (by show 4096 * k < _; omega) (by show 0 < _; decide) (by decide) (Nat.le_refl _) (Nat.zero_le _) (by show 4096 * k ≤ _; omega) (by show (zs (4096 * k)).length ≤ _; rw [zs_len]; omega) rfl S9)
      rw [(fs_take hlt).1, (fs_take hlt).2, show ((fP k).o : Int) = ((4096 * k : Nat) : Int) from rfl, show ((fP k).e : Int) = 1 from rfl, show ((fP k).a : Int) = 0 from rfl] at HT
      obtain ⟨q, hq⟩ : ∃ q, 4096 * k = q := ⟨_, rfl⟩
      rw [hq] at e1 i1 HT ⊢
      have Hk := Lib.hid (And.intro hlt hq)
      clear S8 S9 hx9 hk hq
      go_wp2_with fail
      refine HT.out.mono ?_
      rintro e w10 ⟨rfl, S10⟩
      go_wp2_with fail
      go_roundw
      case measure =>
        have := Hk.out
        simp only [intOf]
        omega
      case rel => exact ⟨k + 1, by have := Hk.out; omega, rfl, S10⟩
    · have hq : ((4096 * k : Nat) : Int) = 1048576 := by omega
      obtain rfl : k = 256 := by omega
      rw [hq]
      clear hlt hk hq
      obtain ⟨W9, h9, S9⟩ := built_row [1] 1 rfl (by decide) #[.int .u8 1] rfl S8
      obtain ⟨x9, hx9⟩ : ∃ x, wr.heap.size = x := ⟨_, rfl⟩
      rw [hx9] at S9
      have HT := Lib.hid (take_row 0 fQ 1 rfl (by decide) (by decide) (by decide) (Nat.le_refl _) (by decide) (by decide) (by show (zs 1048576).length ≤ _; rw [zs_len]; decide) rfl S9)
      rw [fs_full.1, fs_full.2, show (fQ.o : Int) = 1048576 from rfl, show (fQ.e : Int) = 1 from rfl, show (fQ.a : Int) = 0 from rfl] at HT
      clear S8 S9
      go_wp2_with fail
      refine HT.out.mono ?_
      rintro e w10 ⟨rfl, S10⟩
      replace S10 : Sep w w10 [LinkAt g (FS 256)] := S10
      clear HT h9 hx9
      go_wp2_with fail
      refine (peek_any 0 rfl S10).mono ?_
      rw [show (((FS 256).got.length : Nat) : Int) = 1048576 from by show (((zs 1048576).length : Nat) : Int) = _; rw [zs_len]; rfl]
      rintro e w11 ⟨rfl, rfl⟩
      go_wp2_with fail
      refine (read_any 1 (by show (zs 1048576).length ≤ _; rw [zs_len]; decide) 0 rfl S10).mono ?_
      rw [fs_read.1, fs_read.2]
      rintro e w12 ⟨v12, rfl, S12⟩
      replace S12 : Sep w w12 [LinkAt g fR] := S12.tail
      clear S10
      obtain ⟨W13, h13, S13⟩ := built_row [1] 1 rfl (by decide) #[.int .u8 1] rfl S12
      obtain ⟨x13, hx13⟩ : ∃ x, w12.heap.size = x := ⟨_, rfl⟩
      rw [hx13] at S13
      have HT := Lib.hid (take_row 0 fQ 1 rfl (by decide) (by decide) (by decide) (Nat.le_refl _) (by decide) (by decide) (by show (zs 1048575).length ≤ _; rw [zs_len]; decide) rfl S13)
      rw [fs_last.1, fs_last.2.1, show (fQ.o : Int) = 1048576 from rfl, show (fQ.e : Int) = 1 from rfl, show (fQ.a : Int) = 0 from rfl] at HT
      clear S12 S13
      go_wp2_with fail
      refine HT.out.mono ?_
      rintro e w14 ⟨rfl, S14⟩
      replace S14 : Sep w w14 [LinkAt g fT] := S14
      clear HT h13 hx13
      go_wp2_with fail
      refine (peek_any 0 rfl S14).mono ?_
      rw [show ((fT.got.length : Nat) : Int) = 1048576 from by rw [fs_last.2.2]; rfl]
      rintro e w15 ⟨rfl, rfl⟩
      go_wp2_with fail
      go_ret
      exact ⟨rfl, S14.below⟩
end Go.Proofs.Ytpgiljjjpijepaa
