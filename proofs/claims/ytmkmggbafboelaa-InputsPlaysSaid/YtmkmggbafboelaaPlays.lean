/- The walk of InputsPlays. -/
import Derived.Test.YtmkmggbafboelaaKeeps
import Derived.Test.YtmkmggbafboelaaEvIn
import Derived.Deep.CutBlock
namespace Go.Proofs.Ytmkmggbafboelaa
open Go.RowKit
set_option maxRecDepth 100000 in
set_option maxHeartbeats 1000000 in
theorem plays_any (A : Option Addr) (c : Nat) (l : List Ac) (w : World) (hr : Reads w w.heap.size 6 A l.length (l.flatMap Ac.cs)) (hok : ∀ x ∈ l, x.ok) (hc : c ≤ maxLen) (hlc : l.length ≤ c) :
    Calls Try.prog 6 #[.slice A l.length c] w fun en w' => en = .returned (.bool true) ∧ Below w.heap.size w w' := by
  have hz1 := fun w => zero31 w
  have hz2 := fun w => zero33 w
  have HR := Lib.hid hr
  unfold maxLen at hc
  obtain ⟨N, hN⟩ : ∃ N, l.length = N := ⟨_, rfl⟩
  rw [hN] at hlc
  have HN := Lib.hid hN
  clear hr
  rw [hN]
  clear hN
  by_cases hbig : 200 < N
  · have hb : decide ((200 : Int) < (N : Int)) = true := decide_eq_true (by omega)
    go_enter Try.func6, Try.ntmps6
    go_wp2_with fail
    go_ret
    exact ⟨rfl, Below.refl _ _⟩
  have hb : decide ((200 : Int) < (N : Int)) = false := decide_eq_false (by omega)
  go_enter Try.func6, Try.ntmps6
  go_upto_region 7 with (fail)
  obtain ⟨W1, hW, hS⟩ := (Sep.start w).newQ
  rw [hW]
  have hs1 : w.heap.size + 1 = W1.heap.size := by rw [← hW, World.size_alloc]
  rw [hs1]
  clear hW hz1 hz2
  obtain ⟨W2, hW, hS⟩ := hS.newG
  rw [hW]
  have hs2 : W1.heap.size + 1 = W2.heap.size := by rw [← hW, World.size_alloc]
  rw [hs2]
  clear hW
  obtain ⟨W3, hW, hS⟩ := hS.newX
  rw [hW]
  have hs3 : W2.heap.size + 1 = W3.heap.size := by rw [← hW, World.size_alloc]
  rw [hs3]
  clear hW
  obtain ⟨W4, hW, hS⟩ := hS.newY
  rw [hW]
  clear hW hs1 hs2 hs3
  generalize W3.heap.size = g4 at hS ⊢
  generalize W2.heap.size = g3 at hS ⊢
  generalize W1.heap.size = g2 at hS ⊢
  generalize e2 : w.heap.size = g1 at hS ⊢
  have H2 := Lib.hid e2
  clear e2
  go_wp2_with fail
  go_loopw [7] (fun p wr => ∃ (k gone : Nat) (all ins : List Ev), k ≤ N ∧ p = .int .i64 (k : Int) ∧ Sep w wr [YAt g4 ins, XAt g3 all gone, GAt g2 ins.length, QAt g1 all gone] ∧ all.length ≤ k ∧ ins.length ≤ k ∧ gone ≤ all.length ∧ all.length ≤ gone + 16) (fun p _ => N - (intOf p).toNat)
  case atStart => exact ⟨0, 0, [], [], Nat.zero_le _, rfl, hS, Nat.le_refl _, Nat.le_refl _, Nat.le_refl _, by simp⟩
  case round =>
    clear hS
    obtain ⟨k, gone, all, ins, hk, rfl, hS, ha, hi, hg, hroom⟩ := hrel
    by_cases hlt : k < N
    · have hlt' : (k : Int) < (N : Int) := by omega
      have hkl : k < l.length := by have := HN.out; omega
      obtain ⟨b, o, rfl, hbB, hcell⟩ := (HR.out.below hS.below).elem (cells := Ac.cs) (fun _ => rfl) (by decide) hkl
      have hka := hok _ (List.getElem_mem hkl)
      obtain ⟨a, hla⟩ : ∃ a, l[k] = a := ⟨_, rfl⟩
      rw [hla] at hcell hka
      have r0 : wr.cell? ⟨b, o + k * 6, none⟩ = some (.int .u8 a.d) := hcell 0 _ rfl
      have r1 := hcell 1 _ rfl
      have r2 := hcell 2 _ rfl
      have r3 := hcell 3 _ rfl
      have r4 := hcell 4 _ rfl
      have r5 := hcell 5 _ rfl
      obtain ⟨⟨d1, d2⟩, n1, n2⟩ := hka
      have s3 : (k : Int).toNat = k := rfl
      have s4 : (0 : Int) ≤ (k : Int) := by omega
      clear hla hcell hkl
      go_upto_region 11 with (fail)
      obtain ⟨W, hW, hS⟩ := hS.boxedF 57 a.cs.toArray
      have hW' : wr.alloc (.cells #[.int .u8 a.d, .int .u32 a.n, .int .u8 a.e.k, .int .u16 a.e.x, .int .u16 a.e.y, .int .u32 a.e.c] 57) = W := hW
      rw [hW']
      clear hW hW' r0 r1 r2 r3 r4 r5
      generalize wr.heap.size = gx at hS ⊢
      have x0 : W.cell? ⟨gx, 0, none⟩ = some (.int .u8 a.d) := (hS.blk 0 rfl).at_ 0 rfl
      go_upto_block 2 with (fail)
      clear x0
      generalize a.d % 3 = r
      go_cut [] (fun wx => ∃ (gone : Nat) (all ins : List Ev), Sep w wx [cell gx 57 a.cs.toArray, YAt g4 ins, XAt g3 all gone, GAt g2 ins.length, QAt g1 all gone] ∧ all.length ≤ k + 1 ∧ ins.length ≤ k + 1 ∧ gone ≤ all.length ∧ all.length ≤ gone + 16)
      case first =>
        have hx := hS.blk 0 rfl
        have x1 : W.cell? ⟨gx, 1, none⟩ = some (.int .u32 a.n) := hx.at_ 1 rfl
        have x2 : W.cell? ⟨gx, 2, none⟩ = some (.int .u8 a.e.k) := hx.at_ 2 rfl
        have x3 : W.cell? ⟨gx, 3, none⟩ = some (.int .u16 a.e.x) := hx.at_ 3 rfl
        have x4 : W.cell? ⟨gx, 4, none⟩ = some (.int .u16 a.e.y) := hx.at_ 4 rfl
        have x5 : W.cell? ⟨gx, 5, none⟩ = some (.int .u32 a.e.c) := hx.at_ 5 rfl
        cases h0 : (r == 0) with
        | true =>
          have hb := putS_bd all gone a.e hg hroom
          go_wp2_with fail
          refine (put_any a.e 4 rfl hS (by omega)).mono ?_
          rintro en w1 ⟨rfl, hS⟩
          obtain ⟨p, hp⟩ : ∃ p, putN all gone = p := ⟨_, rfl⟩
          obtain ⟨q, hq⟩ : ∃ q, putE all gone = q := ⟨_, rfl⟩
          rw [hp, hq]
          have Hp := Lib.hid hp
          have Hq := Lib.hid hq
          clear x1 x2 x3 x4 x5 hx hp hq
          have hx : Blk w1 gx 57 a.cs.toArray := hS.blk 0 rfl
          have x2 : w1.cell? ⟨gx, 2, none⟩ = some (.int .u8 a.e.k) := hx.at_ 2 rfl
          have x3 : w1.cell? ⟨gx, 3, none⟩ = some (.int .u16 a.e.x) := hx.at_ 3 rfl
          have x4 : w1.cell? ⟨gx, 4, none⟩ = some (.int .u16 a.e.y) := hx.at_ 4 rfl
          have x5 : w1.cell? ⟨gx, 5, none⟩ = some (.int .u32 a.e.c) := hx.at_ 5 rfl
          go_wp2_with fail
          refine (xput_any a.e 2 rfl hS hg hroom (by omega)).mono ?_
          rw [Hp.out, Hq.out]
          rintro en w2 ⟨rfl, hS⟩
          clear x2 x3 x4 x5 hx
          go_wp2_with fail
          go_meet
          exact ⟨gone, putS all gone a.e, ins, hS, by omega, by omega, hb.2.1, hb.2.2⟩
        | false =>
          cases h1 : (r == 1) with
          | true =>
            have hb := dropS_bd all gone a.n n1 hg hroom
            go_upto_region 22 with (fail)
            have hSd := hS.drew
            obtain ⟨q, hq⟩ : ∃ q, dropE all a.n = q := ⟨_, rfl⟩
            have Hq := Lib.hid hq
            clear hq
            go_region_held3 (fun w' => w'.cell? ⟨gx, 1, none⟩ = some (.int .u32 a.n)) (first | exact (hS2.blk 0 rfl).at_ 1 rfl | exact (hS1.blk 0 rfl).at_ 1 rfl | exact x1)
              (first | (go_at_call 14; refine (drop_any a.n n1 4 rfl hSd).mono ?_; rw [Hq.out]; rintro en w1 ⟨rfl, hS1⟩) | (go_at_call 17; refine (xdrop_any a.n n1 n2 2 rfl hS1 (by omega)).mono ?_; rw [Hq.out]; rintro en w2 ⟨rfl, hS2⟩))
            clear x1 x2 x3 x4 x5 hx
            go_wp2_with fail
            go_meet
            exact ⟨dropS all gone a.n, all, ins, hS2, by omega, by omega, hb.1, hb.2⟩
          | false =>
            go_wp2_with fail
            refine (take_any a.n a.e n2 3 rfl hS).mono ?_
            rintro en w1 ⟨rfl, hS⟩
            obtain ⟨p, hp⟩ : ∃ p, takeB ins.length a.n = p := ⟨_, rfl⟩
            obtain ⟨q, hq⟩ : ∃ q, takeE ins.length a.n = q := ⟨_, rfl⟩
            rw [hp, hq]
            rw [hp] at hS
            have Hp := Lib.hid hp
            have Hq := Lib.hid hq
            clear x1 x2 x3 x4 x5 hx hp hq
            have hx : Blk w1 gx 57 a.cs.toArray := hS.blk 0 rfl
            have x1 : w1.cell? ⟨gx, 1, none⟩ = some (.int .u32 a.n) := hx.at_ 1 rfl
            have x2 : w1.cell? ⟨gx, 2, none⟩ = some (.int .u8 a.e.k) := hx.at_ 2 rfl
            have x3 : w1.cell? ⟨gx, 3, none⟩ = some (.int .u16 a.e.x) := hx.at_ 3 rfl
            have x4 : w1.cell? ⟨gx, 4, none⟩ = some (.int .u16 a.e.y) := hx.at_ 4 rfl
            have x5 : w1.cell? ⟨gx, 5, none⟩ = some (.int .u32 a.e.c) := hx.at_ 5 rfl
            go_wp2_with fail
            refine (xtake_any a.n a.e n1 n2 (by omega) 1 rfl hS).mono ?_
            rw [Hp.out, Hq.out]
            rintro en w2 ⟨rfl, hS⟩
            clear x1 x2 x3 x4 x5 hx
            have hl := Lib.hid (take_len p ins a.e)
            have hl2 : (if p = true then ins ++ [a.e] else ins).length ≤ k + 1 := by rw [take_len]; split <;> omega
            obtain ⟨ins', hins⟩ : ∃ ins', (if p = true then ins ++ [a.e] else ins) = ins' := ⟨_, rfl⟩
            rw [hins] at hl2
            have hS' : Sep w w2 [cell gx 57 a.cs.toArray, YAt g4 ins', XAt g3 all gone, GAt g2 ins'.length, QAt g1 all gone] := by
              rw [← hins, hl.out]
              exact hS
            clear hS hins hl
            go_wp2_with fail
            go_meet
            exact ⟨gone, all, ins', hS', by omega, hl2, hg, hroom⟩
      case rest =>
        clear hS
        obtain ⟨gone, all, ins, hS, ha, hi, hg, hroom⟩ := hcut
        replace hS := hS.tail
        obtain ⟨vy, hS⟩ := hS.openR
        obtain ⟨vx, hS⟩ := (hS.pick 2 rfl).openR
        obtain ⟨ay, cy, hvy, -, -⟩ := own_slice (hS.own 3 rfl)
        obtain ⟨ax, cx, hvx, -, -⟩ := own_slice (hS.own 1 rfl)
        subst hvy; subst hvx
        have hSd := hS.drew
        have y0 := (hSd.blk 0 rfl).two.1
        have y1 := (hSd.blk 2 rfl).one
        have HK := Lib.hid (fun (w' : World) (h0 : Blk w' g3 52 #[.slice ax all.length cx, .int .i64 (gone : Int)]) (h1 : Blk w' g4 55 #[.slice ay ins.length cy]) => And.intro h0.two.1 h1.one)
        have hrl := restL_len all gone
        have s1 : IntKind.u32.wrap (all.length : Int) = (all.length : Int) := by simp [IntKind.wrap, IntKind.signed, IntKind.bits]; omega
        have s2 : IntKind.u32.wrap (ins.length : Int) = (ins.length : Int) := by simp [IntKind.wrap, IntKind.signed, IntKind.bits]; omega
        have Hrl := Lib.hid hrl
        clear hrl
        go_upto_region 24 with (fail)
        go_region_held3 (fun w' => w'.cell? ⟨g3, 0, none⟩ = some (.slice ax all.length cx) ∧ w'.cell? ⟨g4, 0, none⟩ = some (.slice ay ins.length cy)) (first | exact HK.out _ (hS5.blk 3 rfl) (hS5.blk 5 rfl) | exact HK.out _ (hS4.blk 2 rfl) (hS4.blk 4 rfl) | exact HK.out _ (hS3.blk 2 rfl) (hS3.blk 4 rfl) | exact HK.out _ (hS2.blk 2 rfl) (hS2.blk 4 rfl) | exact HK.out _ (hS1.blk 1 rfl) (hS1.blk 3 rfl) | exact ⟨y0, y1⟩)
          (first | (go_at_call 11; refine (rest_any 5 rfl hSd (by omega)).mono ?_; rintro en w1 ⟨v1, rfl, hS1⟩) | (go_at_call 20; refine (xrest_two 2 2 rfl rfl hS4 hg (by omega)).mono ?_; rintro en w5 ⟨v3, rfl, hS5⟩; obtain ⟨a3, c3, hv3, -, -⟩ := own_slice (hS5.own 0 rfl); rw [Hrl.out] at hv3; subst hv3) | (go_at_call 20; refine (xrest_two 1 1 rfl rfl hS1 hg (by omega)).mono ?_; rintro en w2 ⟨v2, rfl, hS2⟩) | (go_at_call 19; refine (same_walk w _ _ (restL all gone) v1 v2 1 0 hS2 rfl rfl (by rw [Hrl.out]; omega)).mono ?_; rintro en w3 ⟨rfl, kk, hw3⟩; have hS3 := hS2.drewN kk; rw [← hw3] at hS3; clear hw3) | (go_at_call 10; refine (len_any 7 rfl hS3 (by omega)).mono ?_; rintro en w4 ⟨rfl, hS4⟩) | (go_at_call 21; refine (given_any 8 rfl hS5).mono ?_; rintro en w6 ⟨rfl, rfl⟩) | (go_at_call 13; refine (last_any 7 rfl hS5).mono ?_; rintro en w6 ⟨rfl, rfl⟩))
        clear y0 y1
        have hS6 : Sep w w5 [YAt g4 ins, XAt g3 all gone, GAt g2 ins.length, QAt g1 all gone] := Sep.closeR (v := .slice ay ins.length cy) ((Sep.closeR (v := .slice ax all.length cx) hS5.tail.tail.tail : Sep w w5 (XAt g3 all gone :: _)).pick2 1 1 rfl rfl)
        clear hS5 hSd hS hS1 hS2 hS3 hS4
        go_wp2_with fail
        go_roundw
        case measure => simp [intOf]; omega
        case rel => exact ⟨k + 1, gone, all, ins, hlt, by go_num, hS6, ha, hi, hg, hroom⟩
    · go_wp2_with fail
      refine (keeps_any _).mono ?_
      rintro en w13 ⟨rfl, hb⟩
      replace hS := hS.grow hb
      clear hb
      go_wp2_with fail
      go_ret
      exact ⟨rfl, H2.out ▸ hS.below⟩
end Go.Proofs.Ytmkmggbafboelaa
