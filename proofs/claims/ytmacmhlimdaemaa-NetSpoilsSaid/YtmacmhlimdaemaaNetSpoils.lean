/- The walk of NetSpoils. -/
import Derived.Test.YtmacmhlimdaemaaNSpPure
import Derived.Deep.CutBlock
namespace Go.Proofs.Ytmacmhlimdaemaa.Net
open Go.RowKit Go.Proofs.YtmacmhlimdaemaaW.PrintWords Go.Proofs.Ytmacmhlimdaemaa.R Go.Proofs.Ytmacmhlimdaemaa.Pkt Go.Proofs.Ytmacmhlimdaemaa.Ext
section
variable {w0 w w' : World} {L M : List Asn}
/-- Read, with its answer at hand -/
theorem read_at_ (l : List Int) (n : Nat) (hn : l.length = n) (hl : okB l = true) (r : Int × Int × Int × List Int × Int) (hr : readS l = r) (A : Option Addr) (c : Nat) (hC : Kd.C (Kd.int .u8) w A n l) (hc : n ≤ c) (hS : Sep w0 w L) :
    Calls Try.prog 26 #[.slice A n c] w fun en w' => ∃ v, en = .returned (.tuple #[.agg #[.int .u32 r.1, .int .u64 r.2.1, .int .u64 r.2.2.1, v], .int .i64 r.2.2.2.2]) ∧ Sep w0 w' (BRow v r.2.2.2.1 :: L) := by
  subst hn hr
  exact read_any l hl A c hC hc hS
/-- Write of too much -/
theorem write_long (e o a : Int) (n c : Nat) (A : Option Addr) (hn : 256 < n) (hS : Sep w0 w L) :
    Calls Try.prog 22 #[.agg #[.int .u32 e, .int .u64 o, .int .u64 a, .slice A n c]] w fun en w' => en = .returned (.tuple #[.slice none 0 0, .int .i64 2]) ∧ Sep w0 w' L := by
  obtain ⟨W1, hW1, S1⟩ := hS.boxedF 32 #[.int .u32 e, .int .u64 o, .int .u64 a, .slice A n c]
  have z3 := (S1.blk 0 rfl).at_ 3 rfl
  have d0 : decide ((256 : Int) < (n : Int)) = true := decide_eq_true (by omega)
  clear hS
  go_enter Try.func22, Try.ntmps22
  go_wp2_with fail
  go_ret2
  exact ⟨rfl, S1.tail⟩
theorem sp_one (f : Fl) (s : Nat) (y k : Int) (hs : s < f.b.length) : spE [f] 0 (s : Int) = 0 ∧ spS [f] 0 (s : Int) y = [f.sp s y] ∧ spK [f] k 0 (s : Int) y = clash (spB f.b s y) y k := by
  have h : inB [f] 0 (s : Int) = true := by
    unfold inB
    rw [Bool.and_eq_true]
    exact ⟨rfl, decide_eq_true ⟨by omega, by show (s : Int) < (f.b.length : Int); omega⟩⟩
  unfold spE spS spK
  rw [if_pos h, if_pos h, if_pos h]
  exact ⟨rfl, rfl, rfl⟩
theorem tmod_n (x : Int) (n : Nat) (h : 0 < n) : ∃ s : Nat, s < n ∧ ((Int.tmod x (n : Int) < 0 ∧ Int.tmod x (n : Int) + n = s) ∨ (¬ Int.tmod x (n : Int) < 0 ∧ Int.tmod x (n : Int) = s)) := by
  obtain ⟨s, hs, he⟩ := tmod_in x n h
  refine ⟨s, hs, ?_⟩
  by_cases hn : Int.tmod x (n : Int) < 0
  · rw [if_pos hn] at he; exact .inl ⟨hn, he⟩
  · rw [if_neg hn] at he; exact .inr ⟨hn, he⟩
end
set_option maxRecDepth 100000 in
set_option maxHeartbeats 1000000 in
theorem netSpoils_any (e o a : Nat) (d : List Int) (A : Option Addr) (c : Nat) (place y : Int) (w : World) (he : e < 4294967296) (ho : o < 18446744073709551616) (ha : a < 18446744073709551616) (hd : ∀ x ∈ d, 0 ≤ x ∧ x < 256)
    (hC : Kd.C (Kd.int .u8) w A d.length d) (hc : d.length ≤ c) (hy : 0 ≤ y ∧ y < 256) :
    Calls Try.prog 18 #[.agg #[.int .u32 (e : Int), .int .u64 (o : Int), .int .u64 (a : Int), .slice A d.length c], .int .i64 place, .int .u8 y] w fun en w' => en = .returned (.bool true) ∧ Below w.heap.size w w' := by
  obtain ⟨nd, hnd⟩ : ∃ n, d.length = n := ⟨_, rfl⟩
  obtain ⟨W1, hW1, S1⟩ := (Sep.start w).boxedF 32 #[.int .u32 (e : Int), .int .u64 (o : Int), .int .u64 (a : Int), .slice A d.length c]
  have HC1 := Lib.hid (Kd.C_below hC S1.below)
  have HC0 := Lib.hid hC
  have Hnd := Lib.hid hnd
  have z0 : W1.cell? ⟨w.heap.size, 0, none⟩ = some (.int .u32 (e : Int)) := (S1.blk 0 rfl).at_ 0 rfl
  have z1 : W1.cell? ⟨w.heap.size, 1, none⟩ = some (.int .u64 (o : Int)) := (S1.blk 0 rfl).at_ 1 rfl
  have z2 : W1.cell? ⟨w.heap.size, 2, none⟩ = some (.int .u64 (a : Int)) := (S1.blk 0 rfl).at_ 2 rfl
  have z3 : W1.cell? ⟨w.heap.size, 3, none⟩ = some (.slice A nd c) := by rw [← hnd]; exact (S1.blk 0 rfl).at_ 3 rfl
  have Hd := Lib.hid hd
  obtain ⟨gp, hgp⟩ : ∃ g, w.heap.size = g := ⟨_, rfl⟩
  by_cases hbig : d.length ≤ 256
  · have HW := Lib.hid (write_any e o a d he (okB_mk hd (by omega)) A c HC1.out hc S1)
    rw [writeS_small e o a d (by omega)] at HW
    rw [hnd] at hW1 HW ⊢
    rw [hgp] at z0 z1 z2 z3 HW
    obtain ⟨b, hbe⟩ : ∃ b, wrS e o a d = b := ⟨_, rfl⟩
    have HG : Hid (Pkt.Good b) := Lib.hid (hbe ▸ wr_good e o a d he ho ha hd hbig)
    have HOK : Hid (okB b = true) := Lib.hid (hbe ▸ wr_ok e o a d hd hbig)
    have HBK : Hid (readS b = ((e : Int), (o : Int), (a : Int), d, 0)) := Lib.hid (hbe ▸ back e o a d he ho ha hd hbig)
    obtain ⟨n, hn⟩ : ∃ n, b.length = n := ⟨_, rfl⟩
    have hn24 : 24 ≤ n ∧ n ≤ 280 := by rw [← hn, ← hbe, wrS_len]; omega
    rw [hbe] at HW
    have Hn := Lib.hid hn
    clear S1 hC hc hnd hd hbe hn hbig
    go_enter Try.func18, Try.ntmps18
    go_wp2_with fail
    refine HW.out.mono ?_
    rintro en w2 ⟨v2, rfl, hS⟩
    replace hS : Sep w w2 [BRow v2 b, cell gp 32 #[.int .u32 (e : Int), .int .u64 (o : Int), .int .u64 (a : Int), .slice A nd c]] := hS
    clear z0 z1 z2 z3 HW hW1
    obtain ⟨A2, c2, rfl, hc2, -⟩ := own_slice (own_n n Hn.out hS 0 rfl)
    by_cases hy0 : y = 0
    · subst hy0
      have c0 : (n == 0) = false := by simp; omega
      have c1 : ((n : Int) == 0) = false := by simp; omega
      go_wp2_with fail
      refine (wakes_any _).mono ?_
      rintro en w3 ⟨rfl, hb⟩
      go_wp2_with fail
      go_ret
      exact ⟨rfl, (hS.grow hb).below⟩
    · have c0 : (n == 0) = false := by simp; omega
      have c1 : ((n : Int) == 0) = false := by simp; omega
      have cy : (y == 0) = false := by simp [hy0]
      have cz : (y != 0) = true := by simp [hy0]
      go_wp2_with fail
      refine (new_any hS).mono ?_
      rintro en w3 ⟨g, rfl, hS⟩
      obtain ⟨s, hs, hts⟩ := tmod_n place n (by omega)
      have hn0 : (n : Int) ≠ 0 := by omega
      go_upto_if 41 with (fail)
      go_cut [10] (fun k wx => k = .int .i64 (s : Int) ∧ Sep w wx [NetAt g [] 0, BRow (.slice A2 n c2) b, cell gp 32 #[.int .u32 (e : Int), .int .u64 (o : Int), .int .u64 (a : Int), .slice A nd c]])
      case first =>
        rcases hts with ⟨hlt, hsum⟩ | ⟨hge, heq⟩
        · have d0 : decide (Int.tmod place (n : Int) < 0) = true := decide_eq_true hlt
          have i1 : IntKind.i64.wrap (Int.tmod place (n : Int) + (n : Int)) = (s : Int) := by rw [hsum]; exact IntWalk.i64_in _ (by omega)
          clear hsum
          go_wp2_with fail
          go_meet
          exact ⟨rfl, hS⟩
        · have d0 : decide ((s : Int) < 0) = false := decide_eq_false (by omega)
          clear hge
          go_wp2_with fail
          go_meet
          exact ⟨by rw [heq], hS⟩
      case rest =>
        clear hS hts
        obtain ⟨rfl, hS⟩ := hcut
        obtain ⟨f, hf⟩ : ∃ f : Fl, f = ⟨0, false, b⟩ := ⟨_, rfl⟩
        have Hf := Lib.hid hf
        have HC2 : Hid (Kd.C (Kd.int .u8) wc A2 n b) := Lib.hid (by
          obtain ⟨A', c', h1, h2, h3⟩ := reads_bytes (own_bytes hS (i := 1) (l := b) rfl)
          injection h1 with e1 e2 e3
          subst e1
          rwa [Hn.out] at h3)
        have HSend := send_any (⟨0, false, b⟩ : Fl) A2 n c2 Hn.out (by omega) HC2.out hc2 0 rfl hS
        rw [show sendE ([] : List Fl) = 0 from rfl, show sendS [] (⟨0, false, b⟩ : Fl) = [f] by rw [hf]; rfl] at HSend
        have HSend' := Lib.hid HSend
        clear HSend hf hS
        go_wp2_with fail
        refine HSend'.out.mono ?_
        rintro en w4 ⟨rfl, hS⟩
        replace hS : Sep w w4 [NetAt g [f] 0, BRow (.slice A2 n c2) b, cell gp 32 #[.int .u32 (e : Int), .int .u64 (o : Int), .int .u64 (a : Int), .slice A nd c]] := hS
        have hfb : Hid (f.b = b) := Lib.hid (by rw [Hf.out])
        have hyr : Hid (0 < y ∧ y < 256) := Lib.hid (by omega)
        have HSB := Lib.hid (sp_bad b HOK.out (by rw [Hn.out]; exact hn24.1) (by rw [Hn.out]; exact hn24.2) HG.out s (by rw [Hn.out]; exact hs) y hyr.out)
        obtain ⟨cB, hcB⟩ : ∃ c, spB b s y = c := ⟨_, rfl⟩
        have HcB := Lib.hid hcB
        rw [hcB] at HSB
        have HcOK : Hid (okB cB = true) := Lib.hid (hcB ▸ sp_ok b s y HOK.out (by rw [Hn.out]; exact hs) hy)
        have Hcn : Hid (cB.length = n) := Lib.hid (by rw [← hcB]; unfold spB; rw [List.length_set]; exact Hn.out)
        have Htw : Hid (spB cB s y = b) := Lib.hid (by rw [← hcB]; exact sp_twice b HOK.out s (by rw [Hn.out]; exact hs) y hy)
        obtain ⟨f', hf'⟩ : ∃ f' : Fl, f.sp s y = f' := ⟨_, rfl⟩
        have hfb' : Hid (f'.b = cB) := Lib.hid (by rw [← hf', ← hcB, ← hfb.out]; rfl)
        have hff : Hid (f'.sp s y = f) := Lib.hid (by
          rw [← hf', Hf.out]
          unfold Fl.sp
          simp only
          rw [hcB, Htw.out])
        have HP := spoil_any 0 (s : Int) y (by simp) (fun x hx => by obtain rfl : x = f := (by simpa using hx); rw [hfb.out]; exact HOK.out) hy (by decide) 0 rfl hS
        obtain ⟨q1, q2, q3⟩ := sp_one f s y 0 (by rw [hfb.out, Hn.out]; exact hs)
        rw [q1, q2, q3, hf', hfb.out, hcB, show clash cB y 0 = 0 by unfold clash; rw [HSB.out, if_neg (by simp)]] at HP
        have HP' := Lib.hid HP
        clear HP q1 q2 q3 hf' hcB hS
        go_wp2_with fail
        refine HP'.out.mono ?_
        rintro en w5 ⟨rfl, hS⟩
        replace hS : Sep w w5 [NetAt g [f'] 0, BRow (.slice A2 n c2) b, cell gp 32 #[.int .u32 (e : Int), .int .u64 (o : Int), .int .u64 (a : Int), .slice A nd c]] := hS
        clear HP' HSend'
        go_wp2_with fail
        refine (clashed_any 0 rfl hS).mono ?_
        rintro en w6 ⟨rfl, rfl⟩
        go_wp2_with fail
        refine (flights_any (by simp) (fun x hx => by obtain rfl : x = f' := (by simpa using hx); rw [hfb'.out, Hcn.out]; omega) 0 rfl hS).mono ?_
        rintro en w6 ⟨v6, rfl, hS⟩
        obtain ⟨A6, c6, hv6, -, -, hfr6, -⟩ := hS.fr 0 rfl
        have hv6' : v6 = .slice A6 1 c6 := hv6
        subst hv6'
        obtain ⟨b9, o9, A9, c9, hA9, -, -, r2, hc9, hC9⟩ := hfr6.elem (k := 0) (by simp)
        simp only [List.getElem_cons_zero, Nat.zero_mul, Nat.add_zero] at r2 hc9 hC9
        rw [hfb'.out, Hcn.out] at r2 hc9 hC9
        subst hA9
        have HRd := Lib.hid (read_at_ cB n Hcn.out HcOK.out _ HSB.out A9 c9 hC9 hc9 hS)
        clear hfr6 hC9 hc9 hS
        go_wp2_with fail
        refine HRd.out.mono ?_
        rintro en w7 ⟨v7, rfl, hS⟩
        obtain ⟨a7, c7, hv7, -, -⟩ := own_slice (own_n 0 rfl hS 0 rfl)
        subst hv7
        obtain ⟨W8, hW8, S8⟩ := hS.boxedF 32 #[.int .u32 0, .int .u64 0, .int .u64 0, .slice a7 0 c7]
        have HP := spoil_any 0 (s : Int) y (by simp) (fun x hx => by obtain rfl : x = f' := (by simpa using hx); rw [hfb'.out]; exact HcOK.out) hy (by decide) 3 rfl S8
        obtain ⟨q1, q2, q3⟩ := sp_one f' s y 0 (by rw [hfb'.out, Hcn.out]; exact hs)
        rw [q1, q2, q3, hff.out, hfb'.out, Htw.out, show clash b y 0 = 1 by unfold clash; rw [HBK.out, if_pos ⟨rfl, hy0⟩]; rfl] at HP
        have HP' := Lib.hid HP
        clear HP q1 q2 q3 hS S8 r2 HRd
        go_wp2_with (
          refine wpList_store_row rfl 32 (.tmp 12) (.tmp 74) rfl w7.heap.size #[.int .u32 0, .int .u64 0, .int .u64 0, .slice a7 0 c7] rfl rfl 32 _ (Blk.new _ _ _) size32 rfl (pk_cells _ _ _ _ _ _) ?_
          rw [World.setRow_alloc_new, hW8]
          clear hW8)
        refine HP'.out.mono ?_
        rintro en w9 ⟨rfl, hS⟩
        replace hS : Sep w w9 [cell w7.heap.size 32 #[.int .u32 0, .int .u64 0, .int .u64 0, .slice a7 0 c7], BRow (.slice a7 0 c7) [], FlX (.slice (some ⟨b9, o9, none⟩) 1 c6) [f'], NetAt g [f] 1, BRow (.slice A2 n c2) b, cell gp 32 #[.int .u32 (e : Int), .int .u64 (o : Int), .int .u64 (a : Int), .slice A nd c]] := hS
        replace hS := hS.tail.tail.tail
        clear HP'
        go_wp2_with fail
        refine (clashed_any 0 rfl hS).mono ?_
        rintro en w10 ⟨rfl, rfl⟩
        go_wp2_with fail
        have HT := take_any (fs := [f]) 0 (by simp) 0 rfl hS
        rw [show takeE [f] 0 = 0 from rfl, show takeS [f] 0 = [] from rfl, show takeF [f] 0 = f from rfl, hfb.out] at HT
        refine HT.mono ?_
        clear HT
        rintro en w10 ⟨v10, rfl, hS⟩
        obtain ⟨A10, c10, hv10, hc10, hC10⟩ := reads_bytes (own_bytes hS (i := 0) (l := b) rfl)
        rw [Hn.out] at hv10 hc10 hC10
        subst hv10
        obtain ⟨W11, hW11, S11⟩ := hS.boxedF 48 #[.int .i64 f.c, .bool f.d, .slice A10 n c10]
        have hb11 : Below w10.heap.size w10 W11 := by rw [← hW11]; exact (Below.refl _ _).alloc (Nat.le_refl _) _
        have y2 := (S11.blk 0 rfl).at_ 2 rfl
        have HRd := Lib.hid (read_at_ b n Hn.out HOK.out _ HBK.out A10 c10 (Kd.C_below hC10 hb11) hc10 S11)
        clear hC10 hc10 hS hb11 S11
        go_wp2_with (
          refine wpList_store_row rfl 48 (.tmp 14) (.tmp 93) rfl w10.heap.size #[.int .i64 f.c, .bool f.d, .slice A10 n c10] rfl rfl 48 _ (Blk.new _ _ _) size48 rfl (fl_one _ _ _ _ _) ?_
          rw [World.setRow_alloc_new, hW11]
          clear hW11)
        refine HRd.out.mono ?_
        rintro en w12 ⟨v12, rfl, hS⟩
        obtain ⟨a12, c12, hv12, -, -⟩ := own_slice (own_n nd Hnd.out hS 0 rfl)
        subst hv12
        obtain ⟨W13, hW13, S13⟩ := hS.boxedF 32 #[.int .u32 (e : Int), .int .u64 (o : Int), .int .u64 (a : Int), .slice a12 nd c12]
        have k1 : (convert 22 9 (.slice a12 nd c12)).run Try.prog W13 = .ok (.string (strOfNums d)) W13 := string_bytes (own_bytes (i := 1) (l := d) S13 rfl)
        have k2 : (convert 22 9 (.slice A nd c)).run Try.prog W13 = .ok (.string (strOfNums d)) W13 := by
          have h := run_text (c := c) Hnd.out (by have := Kd.C_below HC0.out S13.below; rwa [Hnd.out] at this) 0
          exact h
        have x0 : W13.cell? ⟨w12.heap.size, 0, none⟩ = some (.int .u32 (e : Int)) := (S13.blk 0 rfl).at_ 0 rfl
        have x1 : W13.cell? ⟨w12.heap.size, 1, none⟩ = some (.int .u64 (o : Int)) := (S13.blk 0 rfl).at_ 1 rfl
        have x2 : W13.cell? ⟨w12.heap.size, 2, none⟩ = some (.int .u64 (a : Int)) := (S13.blk 0 rfl).at_ 2 rfl
        have x3 : W13.cell? ⟨w12.heap.size, 3, none⟩ = some (.slice a12 nd c12) := (S13.blk 0 rfl).at_ 3 rfl
        have z0 : W13.cell? ⟨gp, 0, none⟩ = some (.int .u32 (e : Int)) := (S13.blk 6 rfl).at_ 0 rfl
        have z1 : W13.cell? ⟨gp, 1, none⟩ = some (.int .u64 (o : Int)) := (S13.blk 6 rfl).at_ 1 rfl
        have z2 : W13.cell? ⟨gp, 2, none⟩ = some (.int .u64 (a : Int)) := (S13.blk 6 rfl).at_ 2 rfl
        have z3 : W13.cell? ⟨gp, 3, none⟩ = some (.slice A nd c) := (S13.blk 6 rfl).at_ 3 rfl
        clear hS y2 HRd
        go_wp2_with (
          refine wpList_store_row rfl 32 (.tmp 16) (.tmp 99) rfl w12.heap.size #[.int .u32 (e : Int), .int .u64 (o : Int), .int .u64 (a : Int), .slice a12 nd c12] rfl rfl 32 _ (Blk.new _ _ _) size32 rfl (pk_cells _ _ _ _ _ _) ?_
          rw [World.setRow_alloc_new, hW13]
          clear hW13)
        refine (wakes_any _).mono ?_
        rintro en w14 ⟨rfl, hb⟩
        go_wp2_with fail
        go_ret
        exact ⟨rfl, (S13.grow hb).below⟩
  · have HW := Lib.hid (write_long e o a nd c A (by omega) S1)
    rw [hnd] at hW1 ⊢
    rw [hgp] at z0 z1 z2 z3
    clear S1 hC hc hnd hd hbig HC1
    go_enter Try.func18, Try.ntmps18
    go_wp2_with fail
    refine HW.out.mono ?_
    rintro en w2 ⟨rfl, hS⟩
    clear z0 z1 z2 z3 HW
    go_wp2_with fail
    refine (wakes_any _).mono ?_
    rintro en w3 ⟨rfl, hb⟩
    go_wp2_with fail
    go_ret
    exact ⟨rfl, (hS.grow hb).below⟩
end Go.Proofs.Ytmacmhlimdaemaa.Net
