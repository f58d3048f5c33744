import Derived.Test.YtmacmhlimdaemaaFill
import Derived.BigRegion
import Derived.Deep.DeepCutAuto
import Derived.Deep.LoopGhost
namespace Go.Proofs.Ytmacmhlimdaemaa
open Go.RowKit Go.Proofs.Ytmacmhlimdaemaa.Crc
set_option maxRecDepth 100000 in
set_option maxHeartbeats 4000000 in
theorem crcThree_any (A0 : Option Addr) (n0 c0 : Nat) (l0 : List Nat) (A1 : Option Addr) (n1 c1 : Nat) (l1 : List Nat) (A2 : Option Addr) (n2 c2 : Nat) (l2 : List Nat) (w : World)
    (hr0 : Reads w w.heap.size 1 A0 n0 (l0.map encB)) (hl0 : ∀ c ∈ l0, c < 256) (hn0 : n0 ≤ maxLen)
    (hr1 : Reads w w.heap.size 1 A1 n1 (l1.map encB)) (hl1 : ∀ c ∈ l1, c < 256) (hn1 : n1 ≤ maxLen)
    (hr2 : Reads w w.heap.size 1 A2 n2 (l2.map encB)) (hl2 : ∀ c ∈ l2, c < 256) (hn2 : n2 ≤ maxLen) :
    Calls Try.prog 5 #[.slice A0 n0 c0, .slice A1 n1 c1, .slice A2 n2 c2] w fun e w' => e = .returned (.bool true) ∧ Below w.heap.size w w' := by
  by_cases hbig : (n0 : Int) > 5000
  · have hbig' : (5000 : Int) < (n0 : Int) := hbig
    go_enter Try.func5, Try.ntmps5
    go_wp2_with fail
    go_ret
    exact ⟨rfl, Below.refl _ _⟩
  · have hsm : decide ((5000 : Int) < (n0 : Int)) = false := decide_eq_false hbig
    have hsmall : n0 ≤ 5000 := by omega
    have Hb := Lib.hid hsmall
    clear hbig hsmall
    obtain ⟨i0, hi0, hz0, hz1, hz2⟩ := info_parts byte_info
    have hH := Lib.hid hi0
    have Hz0 := Lib.hid hz0
    have Hz1 := Lib.hid hz1
    have Hz2 := Lib.hid hz2
    clear hi0 hz0 hz1 hz2
    have hby : i0.bytes * n0 ≤ 281474976710656 := by rw [Hz2.out]; have := Hb.out; omega
    have Hby := Lib.hid hby
    clear hby
    obtain ⟨fa, hfa⟩ : ∃ f : Nat → Nat, f = fun j => l0.getD j 0 := ⟨_, rfl⟩
    obtain ⟨fx, hfx⟩ : ∃ f : Nat → Nat, f = fun j => l1.getD j 0 := ⟨_, rfl⟩
    obtain ⟨fy, hfy⟩ : ∃ f : Nat → Nat, f = fun j => l2.getD j 0 := ⟨_, rfl⟩
    obtain ⟨fz, hfz⟩ : ∃ f : Nat → Nat, f = fun j => (fa j ^^^ fx j) ^^^ fy j := ⟨_, rfl⟩
    have Fa := Lib.hid hfa
    have Fx := Lib.hid hfx
    have Fy := Lib.hid hfy
    have Fz := Lib.hid hfz
    clear hfa hfx hfy hfz
    go_enter Try.func5, Try.ntmps5
    go_wp2_with (first
      | (refine wpList_make_full w rfl (.tmp 15) (.tmp 15) 22 rfl w.heap.size 5 i0 (.int .u8 0) 1 Try.underlying22 hH.out Hz0.out Hz1.out .i64 .i64 _ _ n0 rfl rfl rfl rfl Hby.out hn0 (Nat.le_refl _) ?_
         intro w1 hown1 hg1)
      | (refine wpList_make_full w1 rfl (.tmp 18) (.tmp 18) 22 rfl w.heap.size 5 i0 (.int .u8 0) 1 Try.underlying22 hH.out Hz0.out Hz1.out .i64 .i64 _ _ n0 rfl rfl rfl rfl Hby.out hn0 hg1.size ?_
         intro w2 hown2 hg2)
      | (refine wpList_make_full w2 rfl (.tmp 21) (.tmp 21) 22 rfl w.heap.size 5 i0 (.int .u8 0) 1 Try.underlying22 hH.out Hz0.out Hz1.out .i64 .i64 _ _ n0 rfl rfl rfl rfl Hby.out hn0 (Nat.le_trans hg1.size hg2.size) ?_
         intro w3 hown3 hg3))
    have d1 := made_fill fx hown1
    have d2 := made_fill fy hown2
    have d3 := made_fill fz hown3
    have e1 := (d1.grown hg2 (by simp)).grown hg3 (by simp)
    have e2 := d2.grown hg3 (by simp)
    have hB : Below w.heap.size w w3 := (((Below.refl _ _).grown hg1 (Nat.le_refl _) (by simp)).grown hg2 hg1.size (by simp)).grown hg3 (Nat.le_trans hg1.size hg2.size) (by simp)
    have lt1 := d1.lt
    have lt2 := d2.lt
    clear d1 d2 hown1 hown2 hown3 hg1 hg2 hg3
    generalize hgx : w.heap.size = gx at *
    generalize hgy : w1.heap.size = gy at *
    generalize hgz : w2.heap.size = gz at *
    have hxy : gx ≠ gy := by omega
    have hxz : gx ≠ gz := by omega
    have hyz : gy ≠ gz := by omega
    have hgy2 : gx ≤ gy := by omega
    have hgz2 : gx ≤ gz := by omega
    clear lt1 lt2 hgy hgz
    have Hgx := Lib.hid hgx
    clear hgx
    go_loopg [10] n0 (fun g i wr => ∃ k : Nat, k + g = n0 ∧ i = .int .i64 k ∧ Blk wr gx 5 (fill fx n0 k) ∧ Blk wr gy 5 (fill fy n0 k) ∧ Blk wr gz 5 (fill fz n0 k) ∧ Below gx w wr)
    case atStart => exact ⟨0, by omega, rfl, e1, e2, d3, hB⟩
    case round =>
      clear e1 e2 d3 hB
      obtain ⟨k, hk, rfl, e1, e2, e3, hB⟩ := hrel
      by_cases hlt : k < n0
      · have hki : (k : Int) < (n0 : Int) := by omega
        have hk0 : (0 : Int) ≤ (k : Int) := by omega
        have hkn : (k : Int).toNat = k := rfl
        have hmax : (k : Int) + 1 ≤ 5001 := by have := Hb.out; omega
        have hyx : gy ≠ gx := fun e => hxy e.symm
        have hzx : gz ≠ gx := fun e => hxz e.symm
        have hzy : gz ≠ gy := fun e => hyz e.symm
        have Hk := Lib.hid hk
        have Hmax := Lib.hid hmax
        clear hk hmax
        go_upto_if 32 with (fail)
        go_cut [] (fun wx => Blk wx gx 5 (fill fx n0 (k + 1)) ∧ Blk wx gy 5 (fill fy n0 k) ∧ Blk wx gz 5 (fill fz n0 k) ∧ Below gx w wx)
        case first =>
          have hcx := e1.at_ k (fill_get fx n0 k k hlt)
          have hfx := e1.frozen k
          by_cases h1 : k < n1
          · obtain ⟨b1, o1, rfl, hb1, hk1, hc1⟩ := (hr1.below hB).byte h1
            have hv1 : fx k = l1[k] := by rw [Fx.out]; simp [List.getD_eq_getElem?_getD, hk1]
            obtain ⟨p1, hp1⟩ : ∃ p, l1[k] = p := ⟨_, rfl⟩
            rw [hp1] at hc1 hv1
            have hi1 : (k : Int) < (n1 : Int) := by omega
            have S1 := Lib.hid (fill_set fx n0 k p1 hlt hv1)
            clear hp1 hv1
            go_wp2_with fail
            go_meet
            exact ⟨by have := e1.set_ k (.int .u8 (p1 : Int)); rwa [S1.out] at this, e2.far (p := ⟨gx, k, none⟩) hyx _, e3.far (p := ⟨gx, k, none⟩) hzx _, hB.setCell (Nat.le_refl gx) _⟩
          · have h1' : decide ((k : Int) < (n1 : Int)) = false := decide_eq_false (by omega)
            have hl1' := hr1.len
            have S1 := Lib.hid (fill_skip fx n0 k (by rw [Fx.out]; simp [List.getD_eq_getElem?_getD, List.getElem?_eq_none (show l1.length ≤ k by omega)]))
            go_wp2_with fail
            go_meet
            exact ⟨S1.out ▸ e1, e2, e3, hB⟩
        case rest =>
          clear e1 e2 e3 hB
          obtain ⟨e1, e2, e3, hB⟩ := hcut
          go_upto_if 43 with (fail)
          go_cut [] (fun wx => Blk wx gx 5 (fill fx n0 (k + 1)) ∧ Blk wx gy 5 (fill fy n0 (k + 1)) ∧ Blk wx gz 5 (fill fz n0 k) ∧ Below gx w wx)
          case first =>
            have hcy := e2.at_ k (fill_get fy n0 k k hlt)
            have hfy := e2.frozen k
            by_cases h2 : k < n2
            · obtain ⟨b2, o2, rfl, hb2, hk2, hc2⟩ := (hr2.below hB).byte h2
              have hv2 : fy k = l2[k] := by rw [Fy.out]; simp [List.getD_eq_getElem?_getD, hk2]
              obtain ⟨p2, hp2⟩ : ∃ p, l2[k] = p := ⟨_, rfl⟩
              rw [hp2] at hc2 hv2
              have hi2 : (k : Int) < (n2 : Int) := by omega
              have S2 := Lib.hid (fill_set fy n0 k p2 hlt hv2)
              clear hp2 hv2
              go_wp2_with fail
              go_meet
              exact ⟨e1.far (p := ⟨gy, k, none⟩) hxy _, by have := e2.set_ k (.int .u8 (p2 : Int)); rwa [S2.out] at this, e3.far (p := ⟨gy, k, none⟩) hzy _, hB.setCell hgy2 _⟩
            · have h2' : decide ((k : Int) < (n2 : Int)) = false := decide_eq_false (by omega)
              have hl2' := hr2.len
              have S2 := Lib.hid (fill_skip fy n0 k (by rw [Fy.out]; simp [List.getD_eq_getElem?_getD, List.getElem?_eq_none (show l2.length ≤ k by omega)]))
              go_wp2_with fail
              go_meet
              exact ⟨e1, S2.out ▸ e2, e3, hB⟩
          case rest =>
            clear e1 e2 e3 hB
            obtain ⟨e1, e2, e3, hB⟩ := hcut
            obtain ⟨b0, o0, rfl, hb0, hk0', hc0⟩ := (hr0.below hB).byte hlt
            have hv0 : fa k = l0[k] := by rw [Fa.out]; simp [List.getD_eq_getElem?_getD, hk0']
            obtain ⟨p0, hp0⟩ : ∃ p, l0[k] = p := ⟨_, rfl⟩
            have hp0lt : p0 < 256 := hp0 ▸ hl0 _ (List.getElem_mem hk0')
            rw [hp0] at hc0 hv0
            have hx := e1.at_ k (fill_get fx n0 (k + 1) k hlt)
            have hy := e2.at_ k (fill_get fy n0 (k + 1) k hlt)
            have hz := e3.at_ k (fill_get fz n0 k k hlt)
            have hfz := e3.frozen k
            rw [if_pos (Nat.lt_succ_self k)] at hx hy
            have hxlt : fx k < 256 := by
              rw [Fx.out]
              by_cases hkl : k < l1.length
              · simp [List.getD_eq_getElem?_getD, hkl]; exact hl1 _ (List.getElem_mem hkl)
              · simp [List.getD_eq_getElem?_getD, List.getElem?_eq_none (Nat.le_of_not_lt hkl)]
            have hylt : fy k < 256 := by
              rw [Fy.out]
              by_cases hkl : k < l2.length
              · simp [List.getD_eq_getElem?_getD, hkl]; exact hl2 _ (List.getElem_mem hkl)
              · simp [List.getD_eq_getElem?_getD, List.getElem?_eq_none (Nat.le_of_not_lt hkl)]
            obtain ⟨p1, hp1⟩ : ∃ p, fx k = p := ⟨_, rfl⟩
            obtain ⟨p2, hp2⟩ : ∃ p, fy k = p := ⟨_, rfl⟩
            have hpz : fz k = (p0 ^^^ p1) ^^^ p2 := by rw [Fz.out]; show (fa k ^^^ fx k) ^^^ fy k = _; rw [hv0, hp1, hp2]
            rw [hp1] at hx hxlt
            rw [hp2] at hy hylt
            have x1 : bits BinOp.xor IntKind.u8 (p0 : Int) (p1 : Int) = ((p0 ^^^ p1 : Nat) : Int) := u8_xor_nat _ _ hp0lt hxlt
            have x2 : bits BinOp.xor IntKind.u8 ((p0 ^^^ p1 : Nat) : Int) (p2 : Int) = ((p0 ^^^ p1 ^^^ p2 : Nat) : Int) := u8_xor_nat _ _ (Nat.xor_lt_two_pow (n := 8) hp0lt hxlt) hylt
            have S3 := Lib.hid (fill_set fz n0 k _ hlt hpz)
            have Hp := Lib.hid hpz
            clear hp0 hv0 hp1 hp2 hpz
            have hmax := Hmax.out
            have hbz : gx ≤ gz := hgz2
            have qz0 : b0 ≠ gz := by omega
            go_upto_region 13 with (fail)
            go_region
            go_wp2_with fail
            go_roundg (gk - 1)
            case measure => have := Hk.out; omega
            case rel => exact ⟨k + 1, by have := Hk.out; omega, by simp, (e1.far (p := ⟨gz, k, none⟩) hxz _).drew, (e2.far (p := ⟨gz, k, none⟩) hyz _).drew, by have := (e3.set_ k (.int .u8 ((p0 ^^^ p1 ^^^ p2 : Nat) : Int))).drew; rwa [S3.out] at this, (hB.setCell hgz2 _).drew⟩
      · have hf : decide ((k : Int) < (n0 : Int)) = false := decide_eq_false (by omega)
        obtain rfl : k = n0 := by omega
        clear hk
        have hlen0 := hr0.len
        have m1 : Reads wr gx.succ 1 (some ⟨gx, 0, none⟩) k (((List.range k).map fx).map encB) := Reads.of_row (by have := e1; rw [fill_full] at this; exact this) (Nat.lt_succ_self _) (by simp)
        have m2 : Reads wr gy.succ 1 (some ⟨gy, 0, none⟩) k (((List.range k).map fy).map encB) := Reads.of_row (by have := e2; rw [fill_full] at this; exact this) (Nat.lt_succ_self _) (by simp)
        have m3 : Reads wr gz.succ 1 (some ⟨gz, 0, none⟩) k (((List.range k).map fz).map encB) := Reads.of_row (by have := e3; rw [fill_full] at this; exact this) (Nat.lt_succ_self _) (by simp)
        have b1 := e1.lt
        have b2 := e2.lt
        have b3 := e3.lt
        have hfx : ∀ j, fx j < 256 := fun j => by
          rw [Fx.out]
          by_cases hkl : j < l1.length
          · simp [List.getD_eq_getElem?_getD, hkl]; exact hl1 _ (List.getElem_mem hkl)
          · simp [List.getD_eq_getElem?_getD, List.getElem?_eq_none (Nat.le_of_not_lt hkl)]
        have hfy : ∀ j, fy j < 256 := fun j => by
          rw [Fy.out]
          by_cases hkl : j < l2.length
          · simp [List.getD_eq_getElem?_getD, hkl]; exact hl2 _ (List.getElem_mem hkl)
          · simp [List.getD_eq_getElem?_getD, List.getElem?_eq_none (Nat.le_of_not_lt hkl)]
        have hfa : ∀ j, fa j < 256 := fun j => by
          rw [Fa.out]
          by_cases hkl : j < l0.length
          · simp [List.getD_eq_getElem?_getD, hkl]; exact hl0 _ (List.getElem_mem hkl)
          · simp [List.getD_eq_getElem?_getD, List.getElem?_eq_none (Nat.le_of_not_lt hkl)]
        have hmx : ∀ c ∈ (List.range k).map fx, c < 256 := fun c hc => by obtain ⟨j, _, rfl⟩ := List.mem_map.1 hc; exact hfx j
        have hmy : ∀ c ∈ (List.range k).map fy, c < 256 := fun c hc => by obtain ⟨j, _, rfl⟩ := List.mem_map.1 hc; exact hfy j
        have hmz : ∀ c ∈ (List.range k).map fz, c < 256 := fun c hc => by
          obtain ⟨j, _, rfl⟩ := List.mem_map.1 hc
          rw [Fz.out]
          exact Nat.xor_lt_two_pow (n := 8) (Nat.xor_lt_two_pow (n := 8) (hfa j) (hfx j)) (hfy j)
        have hla : (List.range k).map fa = l0 := by rw [Fa.out, ← hlen0]; exact list_range l0
        have hsz : sum ((List.range k).map fz) = (sum l0 ^^^ sum ((List.range k).map fx)) ^^^ sum ((List.range k).map fy) := by
          rw [Fz.out, sum_three, hla]
        obtain ⟨sx, hsx⟩ : ∃ s, sum ((List.range k).map fx) = s := ⟨_, rfl⟩
        obtain ⟨sy, hsy⟩ : ∃ s, sum ((List.range k).map fy) = s := ⟨_, rfl⟩
        obtain ⟨sa, hsa⟩ : ∃ s, sum l0 = s := ⟨_, rfl⟩
        rw [hsx, hsy, hsa] at hsz
        have ltx := hsx ▸ sum_lt _ hmx
        have lty := hsy ▸ sum_lt _ hmy
        have lta := hsa ▸ sum_lt _ hl0
        have x1 : bits BinOp.xor IntKind.u32 (sa : Int) (sx : Int) = ((sa ^^^ sx : Nat) : Int) := u32_xor_nat _ _ lta ltx
        have x2 : bits BinOp.xor IntKind.u32 ((sa ^^^ sx : Nat) : Int) (sy : Int) = ((sa ^^^ sx ^^^ sy : Nat) : Int) := u32_xor_nat _ _ (Nat.xor_lt_two_pow (n := 32) lta ltx) lty
        have Hx := Lib.hid hsx
        have Hy := Lib.hid hsy
        have Ha := Lib.hid hsa
        have Hz := Lib.hid hsz
        have Bk := Lib.hid hn0
        clear hsx hsy hsa hsz hla hfx hfy hfa hn0 hn1 hn2 ltx lty lta
        go_wp2_with fail
        refine (sum_known _ _ Hz.out _ _ _ _ (m3.more b3) hmz Bk.out).mono ?_
        rintro e w4 ⟨rfl, hb4⟩
        go_wp2_with fail
        refine (sum_known _ _ Ha.out _ _ _ _ (((hr0.below hB).more (Nat.le_trans (Nat.le_of_lt b1) (Nat.le_refl _))).below hb4 |>.more hb4.size) hl0 Bk.out).mono ?_
        rintro e w5 ⟨rfl, hb5⟩
        go_wp2_with fail
        have q1 := (((m1.more b1).below hb4).more hb4.size).below hb5 |>.more hb5.size
        have q2 := (((m2.more b2).below hb4).more hb4.size).below hb5 |>.more hb5.size
        refine (sum_known _ _ Hx.out _ _ _ _ q1 hmx Bk.out).mono ?_
        rintro e w6 ⟨rfl, hb6⟩
        go_wp2_with fail
        refine (sum_known _ _ Hy.out _ _ _ _ ((q2.below hb6).more hb6.size) hmy Bk.out).mono ?_
        rintro e w7 ⟨rfl, hb7⟩
        go_wp2_with fail
        refine (sums_any _).mono ?_
        rintro e w8 ⟨rfl, hb8⟩
        go_wp2_with fail
        go_ret
        have hB0 : Below w.heap.size w wr := Hgx.out.symm ▸ hB
        have c4 := below_next hB0 hB0.size hb4
        have c5 := below_next c4 c4.size hb5
        have c6 := below_next c5 c5.size hb6
        have c7 := below_next c6 c6.size hb7
        exact ⟨rfl, below_next c7 c7.size hb8⟩
end Go.Proofs.Ytmacmhlimdaemaa
