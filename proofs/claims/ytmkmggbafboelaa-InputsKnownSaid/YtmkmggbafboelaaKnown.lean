/- The walk of InputsKnown. -/
import Derived.Test.YtmkmggbafboelaaKeeps
namespace Go.Proofs.Ytmkmggbafboelaa
open Go.RowKit
def evK (k : Nat) : List Ev := (List.range k).map fun (i : Nat) => (⟨0, 0, 0, (i : Int)⟩ : Ev)
def evK2 (k : Nat) : List Ev := evK 16 ++ (List.range k).map fun (i : Nat) => (⟨0, 0, 0, 100 + (i : Int)⟩ : Ev)
theorem evK_len (k : Nat) : (evK k).length = k := by simp [evK]
theorem evK2_len (k : Nat) : (evK2 k).length = 16 + k := by simp [evK2, evK_len]
theorem evK_put (k : Nat) (h : k < 16) : putN (evK k) 0 = (k : Int) + 1 ∧ putE (evK k) 0 = 0 ∧ putS (evK k) 0 ⟨0, 0, 0, (k : Int)⟩ = evK (k + 1) := by
  have hf : ¬ full (evK k) 0 = true := by unfold full; rw [evK_len]; simp; omega
  unfold putN putE putS
  rw [if_neg hf, if_neg hf, if_neg hf, evK_len]
  exact ⟨rfl, rfl, by simp [evK, List.range_succ]⟩
theorem evK2_put (k : Nat) (h : k < 3) : putS (evK2 k) 3 ⟨0, 0, 0, 100 + (k : Int)⟩ = evK2 (k + 1) := by
  have hf : ¬ full (evK2 k) 3 = true := by unfold full; rw [evK2_len]; simp; omega
  unfold putS
  rw [if_neg hf]
  simp [evK2, List.range_succ]
set_option maxRecDepth 100000 in
set_option maxHeartbeats 1000000 in
theorem known_any (w : World) : Calls Try.prog 5 #[] w fun en w' => en = .returned (.bool true) ∧ Below w.heap.size w w' := by
  have hz1 := fun w => zero31 w
  have hz2 := fun w => zero33 w
  have p1 := Lib.hid (show dropE [] 0 = 0 by kernel_rfl)
  have p2 := Lib.hid (show dropE [] 1 = 1 by kernel_rfl)
  have p3 := Lib.hid (show putE (evK 16) 0 = 3 by kernel_rfl)
  have p4 := Lib.hid (show dropE (evK 16) 3 = 0 by kernel_rfl)
  have p5 := Lib.hid (show dropE (evK 16) 1 = 0 by kernel_rfl)
  have p6 := Lib.hid (show dropE (evK 16) 17 = 1 by kernel_rfl)
  have tb0 := Lib.hid (show takeB 0 2 = false by kernel_rfl)
  have te0 := Lib.hid (show takeE 0 2 = 250 by kernel_rfl)
  have tb1 := Lib.hid (show takeB 0 1 = true by kernel_rfl)
  have te1 := Lib.hid (show takeE 0 1 = 0 by kernel_rfl)
  have tb2 := Lib.hid (show takeB 1 1 = false by kernel_rfl)
  have te2 := Lib.hid (show takeE 1 1 = 0 by kernel_rfl)
  have tb3 := Lib.hid (show takeB 1 0 = false by kernel_rfl)
  have te3 := Lib.hid (show takeE 1 0 = 0 by kernel_rfl)
  have tb4 := Lib.hid (show takeB 1 3 = false by kernel_rfl)
  have te4 := Lib.hid (show takeE 1 3 = 250 by kernel_rfl)
  have tb5 := Lib.hid (show takeB 1 4294967295 = false by kernel_rfl)
  have te5 := Lib.hid (show takeE 1 4294967295 = 250 by kernel_rfl)
  have tb6 := Lib.hid (show takeB 1 2 = true by kernel_rfl)
  have te6 := Lib.hid (show takeE 1 2 = 0 by kernel_rfl)
  go_enter Try.func5, Try.ntmps5
  go_upto_region 3 with (fail)
  obtain ⟨W, hW, hS⟩ := (Sep.start w).newQ
  rw [hW]
  have hsz : w.heap.size + 1 = W.heap.size := by rw [← hW, World.size_alloc]
  rw [hsz]
  clear hW hsz hz1 hz2
  obtain ⟨W1, hW, hS⟩ := hS.newG
  rw [hW]
  clear hW
  generalize e1 : W.heap.size = gg at hS ⊢
  clear e1
  generalize e2 : w.heap.size = gq at hS ⊢
  have H2 := Lib.hid e2
  clear e2
  go_wp2_with fail
  refine (drop_any 0 (by decide) 1 rfl hS).mono ?_
  rw [p1.out]
  rintro en w2 ⟨rfl, hS⟩
  replace hS : Sep w w2 [GAt gg 0, QAt gq [] 0] := hS
  go_wp2_with fail
  refine (drop_any 1 (by decide) 1 rfl hS).mono ?_
  rw [p2.out]
  rintro en w3 ⟨rfl, hS⟩
  replace hS : Sep w w3 [GAt gg 0, QAt gq [] 0] := hS
  go_wp2_with fail
  go_loopw [3] (fun p wr => ∃ k : Nat, k ≤ 16 ∧ p = .int .i64 (k : Int) ∧ Sep w wr [GAt gg 0, QAt gq (evK k) 0]) (fun p _ => 16 - (intOf p).toNat)
  case atStart => exact ⟨0, by omega, rfl, hS⟩
  case round =>
    clear hS
    obtain ⟨k, hk, rfl, hS⟩ := hrel
    by_cases hlt : k < 16
    · have hlt' : (k : Int) < 16 := by omega
      obtain ⟨q1, q2, q3⟩ := evK_put k hlt
      have Q1 := Lib.hid q1
      have Q2 := Lib.hid q2
      have Q3 := Lib.hid q3
      clear q1 q2 q3
      have s1 : IntKind.u32.wrap (k : Int) = (k : Int) := by simp [IntKind.wrap, IntKind.signed, IntKind.bits]; omega
      have s2 : IntKind.u32.wrap ((k : Int) + 1) = (k : Int) + 1 := by simp [IntKind.wrap, IntKind.signed, IntKind.bits]; omega
      go_wp2_with fail
      refine (put_any ⟨0, 0, 0, (k : Int)⟩ 1 rfl hS (by rw [evK_len]; omega)).mono ?_
      rw [Q1.out, Q2.out, Q3.out]
      rintro en w4 ⟨rfl, hS⟩
      replace hS : Sep w w4 [GAt gg 0, QAt gq (evK (k + 1)) 0] := hS
      go_wp2_with fail
      go_roundw
      case measure => simp [intOf]; omega
      case rel => exact ⟨k + 1, hlt, by go_num, hS⟩
    · obtain rfl : k = 16 := by omega
      go_wp2_with fail
      refine (put_any ⟨0, 0, 0, 0⟩ 1 rfl hS (by rw [evK_len]; omega)).mono ?_
      rw [p3.out]
      rintro en w4 ⟨rfl, hS⟩
      replace hS : Sep w w4 [GAt gg 0, QAt gq (evK 16) 0] := hS
      go_wp2_with fail
      refine (drop_any 3 (by decide) 1 rfl hS).mono ?_
      rw [p4.out]
      rintro en w5 ⟨rfl, hS⟩
      replace hS : Sep w w5 [GAt gg 0, QAt gq (evK 16) 3] := hS
      go_wp2_with fail
      refine (drop_any 1 (by decide) 1 rfl hS).mono ?_
      rw [p5.out]
      rintro en w6 ⟨rfl, hS⟩
      replace hS : Sep w w6 [GAt gg 0, QAt gq (evK 16) 3] := hS
      go_wp2_with fail
      refine (len_any 1 rfl hS (by rw [evK_len]; omega)).mono ?_
      rintro en w7 ⟨rfl, hS⟩
      have l13 := Lib.hid (show ((evK 16).length - 3 : Nat) = 13 by rw [evK_len])
      rw [l13.out]
      go_wp2_with fail
      refine (drop_any 17 (by decide) 1 rfl hS).mono ?_
      rw [p6.out]
      rintro en w8 ⟨rfl, hS⟩
      replace hS : Sep w w8 [GAt gg 0, QAt gq (evK2 0) 3] := hS
      go_wp2_with fail
      go_loopw [8] (fun p wr => ∃ k : Nat, k ≤ 3 ∧ p = .int .i64 (k : Int) ∧ Sep w wr [GAt gg 0, QAt gq (evK2 k) 3]) (fun p _ => 3 - (intOf p).toNat)
      case atStart => exact ⟨0, by omega, rfl, hS⟩
      case round =>
        clear hS
        obtain ⟨k, hk, rfl, hS⟩ := hrel
        by_cases hlt : k < 3
        · have hlt' : (k : Int) < 3 := by omega
          have Q3 := Lib.hid (evK2_put k hlt)
          have s1 : IntKind.u32.wrap (k : Int) = (k : Int) := by simp [IntKind.wrap, IntKind.signed, IntKind.bits]; omega
          have s2 : IntKind.u32.wrap (100 + (k : Int)) = 100 + (k : Int) := by simp [IntKind.wrap, IntKind.signed, IntKind.bits]; omega
          go_wp2_with fail
          refine (put_any ⟨0, 0, 0, 100 + (k : Int)⟩ 1 rfl hS (by rw [evK2_len]; omega)).mono ?_
          rw [Q3.out]
          rintro en w4 ⟨rfl, hS⟩
          replace hS : Sep w w4 [GAt gg 0, QAt gq (evK2 (k + 1)) 3] := hS
          go_wp2_with fail
          go_roundw
          case measure => simp [intOf]; omega
          case rel => exact ⟨k + 1, hlt, by go_num, hS⟩
        · obtain rfl : k = 3 := by omega
          go_wp2_with fail
          refine (rest_any 1 rfl hS (by rw [evK2_len]; omega)).mono ?_
          rintro en w9 ⟨v, rfl, hS⟩
          replace hS : Sep w w9 [row 28 5 v 16 (numsC (restL (evK2 3) 3)), GAt gg 0, QAt gq (evK2 3) 3] := hS
          obtain ⟨b, c, rfl, hc16, hc⟩ := own_cells (hS.own 0 rfl) (by decide)
          have r0 : w9.cell? ⟨b, 0, none⟩ = some (.int .u32 4) := hc 0 _ (by kernel_rfl)
          have r1 : w9.cell? ⟨b, 1, none⟩ = some (.int .u8 0) := hc 1 _ (by kernel_rfl)
          have r2 : w9.cell? ⟨b, 2, none⟩ = some (.int .u16 0) := hc 2 _ (by kernel_rfl)
          have r3 : w9.cell? ⟨b, 3, none⟩ = some (.int .u16 0) := hc 3 _ (by kernel_rfl)
          have r4 : w9.cell? ⟨b, 4, none⟩ = some (.int .u32 3) := hc 4 _ (by kernel_rfl)
          have q0 : w9.cell? ⟨b, 75, none⟩ = some (.int .u32 19) := hc 75 _ (by kernel_rfl)
          have q1 : w9.cell? ⟨b, 76, none⟩ = some (.int .u8 0) := hc 76 _ (by kernel_rfl)
          have q2 : w9.cell? ⟨b, 77, none⟩ = some (.int .u16 0) := hc 77 _ (by kernel_rfl)
          have q3 : w9.cell? ⟨b, 78, none⟩ = some (.int .u16 0) := hc 78 _ (by kernel_rfl)
          have q4 : w9.cell? ⟨b, 79, none⟩ = some (.int .u32 102) := hc 79 _ (by kernel_rfl)
          obtain ⟨cur, -, -, -, -, -, hS1⟩ := hS.openRow
          have f0 := (hS1.blk 0 rfl).frozen 0
          clear hc hS
          go_wp2_with fail
          replace hS1 := (hS1.put 0 rfl 0 (.int .u32 99)).tail
          clear r0 r1 r2 r3 r4 q0 q1 q2 q3 q4 f0
          generalize w9.setCell ⟨b, 0, none⟩ (.int .u32 99) = w10 at hS1 ⊢
          refine (rest_any 1 rfl hS1 (by rw [evK2_len]; omega)).mono ?_
          rintro en w11 ⟨v2, rfl, hS⟩
          replace hS : Sep w w11 [row 28 5 v2 16 (numsC (restL (evK2 3) 3)), GAt gg 0, QAt gq (evK2 3) 3] := hS
          obtain ⟨b2, c2, hv2, hc16, hc⟩ := own_cells (hS.own 0 rfl) (by decide)
          have r0 : w11.cell? ⟨b2, 0, none⟩ = some (.int .u32 4) := hc 0 _ (by kernel_rfl)
          clear hc hS1
          rw [hv2]
          clear hv2
          go_wp2_with fail
          refine (take_any 2 ⟨0, 0, 0, 0⟩ (by decide) 1 rfl hS).mono ?_
          rw [tb0.out, te0.out]
          rintro en wt0 ⟨rfl, hS⟩
          replace hS : Sep w wt0 [row 28 5 v2 16 (numsC (restL (evK2 3) 3)), GAt gg 0, QAt gq (evK2 3) 3] := hS
          go_wp2_with fail
          refine (take_any 1 ⟨0, 0, 0, 0⟩ (by decide) 1 rfl hS).mono ?_
          rw [tb1.out, te1.out]
          rintro en wt1 ⟨rfl, hS⟩
          replace hS : Sep w wt1 [row 28 5 v2 16 (numsC (restL (evK2 3) 3)), GAt gg 1, QAt gq (evK2 3) 3] := hS
          go_wp2_with fail
          refine (take_any 1 ⟨0, 0, 0, 0⟩ (by decide) 1 rfl hS).mono ?_
          rw [tb2.out, te2.out]
          rintro en wt2 ⟨rfl, hS⟩
          replace hS : Sep w wt2 [row 28 5 v2 16 (numsC (restL (evK2 3) 3)), GAt gg 1, QAt gq (evK2 3) 3] := hS
          go_wp2_with fail
          refine (take_any 0 ⟨0, 0, 0, 0⟩ (by decide) 1 rfl hS).mono ?_
          rw [tb3.out, te3.out]
          rintro en wt3 ⟨rfl, hS⟩
          replace hS : Sep w wt3 [row 28 5 v2 16 (numsC (restL (evK2 3) 3)), GAt gg 1, QAt gq (evK2 3) 3] := hS
          go_wp2_with fail
          refine (take_any 3 ⟨0, 0, 0, 0⟩ (by decide) 1 rfl hS).mono ?_
          rw [tb4.out, te4.out]
          rintro en wt4 ⟨rfl, hS⟩
          replace hS : Sep w wt4 [row 28 5 v2 16 (numsC (restL (evK2 3) 3)), GAt gg 1, QAt gq (evK2 3) 3] := hS
          go_wp2_with fail
          refine (take_any 4294967295 ⟨0, 0, 0, 0⟩ (by decide) 1 rfl hS).mono ?_
          rw [tb5.out, te5.out]
          rintro en wt5 ⟨rfl, hS⟩
          replace hS : Sep w wt5 [row 28 5 v2 16 (numsC (restL (evK2 3) 3)), GAt gg 1, QAt gq (evK2 3) 3] := hS
          go_wp2_with fail
          refine (take_any 2 ⟨0, 0, 0, 0⟩ (by decide) 1 rfl hS).mono ?_
          rw [tb6.out, te6.out]
          rintro en wt6 ⟨rfl, hS⟩
          replace hS : Sep w wt6 [row 28 5 v2 16 (numsC (restL (evK2 3) 3)), GAt gg 2, QAt gq (evK2 3) 3] := hS
          go_wp2_with fail
          refine (last_any 1 rfl hS).mono ?_
          rintro en w12 ⟨rfl, rfl⟩
          go_wp2_with fail
          refine (keeps_any _).mono ?_
          rintro en w13 ⟨rfl, hb⟩
          replace hS := hS.grow hb
          clear hb
          go_wp2_with fail
          go_ret
          exact ⟨rfl, H2.out ▸ hS.below⟩
end Go.Proofs.Ytmkmggbafboelaa
