/- LinkOther: packets of another epoch, or that confirm what was never sent, change nothing. -/
import Derived.Test.YtpgiljjjpijepaaLBegins
namespace Go.Proofs.Ytpgiljjjpijepaa
open Go.RowKit
theorem size32 : (Try.prog.info? 32).map (·.size) = some 4 := by kernel_rfl
theorem pk_one (e o a : Int) (D : Option Addr) (n m : Nat) : #[Value.int .u32 e, .int .u64 o, .int .u64 a, .slice D n m].all (·.oneCell') = true := by kernel_rfl
set_option maxRecDepth 100000 in
set_option maxHeartbeats 2000000 in
theorem other_any (e : Nat) (l : List Sv) (A : Option Addr) (c : Nat) (q : Pv) (w : World) (hr : Reads w w.heap.size 4 A l.length (l.flatMap Sv.cs)) (hok : ∀ v ∈ l, v.ok w) (hq : q.ok w) :
    Calls Try.prog 7 #[.int .u32 (e : Int), .slice A l.length c, .agg #[.int .u32 (q.p.e : Int), .int .u64 (q.p.o : Int), .int .u64 (q.p.a : Int), .slice q.A q.p.d.length q.c]] w fun en w' => en = .returned (.bool true) ∧ Below w.heap.size w w' := by
  obtain ⟨m, hm⟩ : ∃ m, q.p.d.length = m := ⟨_, rfl⟩
  have hqR := hq.at_
  have hqc := hq.cap
  have hqo := hq.o
  have hqa := hq.a
  rw [hm] at hqR hqc ⊢
  obtain ⟨W1, hW1, S1⟩ := (Sep.start w).boxedF 32 #[.int .u32 (q.p.e : Int), .int .u64 (q.p.o : Int), .int .u64 (q.p.a : Int), .slice q.A m q.c]
  obtain ⟨qb, hqb⟩ : ∃ qb, w.heap.size = qb := ⟨_, rfl⟩
  rw [hqb] at S1
  have hRW : ∀ {W : World}, Below w.heap.size w W → Reads W W.heap.size 4 A l.length (l.flatMap Sv.cs) := fun hb => (hr.below hb).more hb.size
  have HG := Lib.hid (great_any l A c W1 (hRW S1.below))
  have x2 : W1.cell? ⟨qb, 2, none⟩ = some (.int .u64 (q.p.a : Int)) := (S1.blk 0 rfl).at_ 2 rfl
  have x3 : W1.cell? ⟨qb, 3, none⟩ = some (.slice q.A m q.c) := (S1.blk 0 rfl).at_ 3 rfl
  have HR := Lib.hid hr
  obtain ⟨n, hn⟩ : ∃ n, l.length = n := ⟨_, rfl⟩
  have hbel := Lib.hid S1.below
  cases hgr : greatB l with
  | true =>
    rw [hn] at HG
    rw [hgr] at HG
    rw [hn]
    clear hr hn hq hqR hqc hqo hqa S1 hRW
    go_enter Try.func7, Try.ntmps7
    go_wp2_with fail
    refine HG.out.mono ?_
    rintro en w1 ⟨rfl, rfl⟩
    go_wp2_with fail
    go_ret
    exact ⟨rfl, hbel.out⟩
  | false =>
  obtain ⟨hn150, hb700⟩ := great_no hgr
  rw [hn] at HG hn150
  rw [hgr] at HG
  by_cases hbig : 1000 < m
  · have d1 : decide ((1000 : Int) < (m : Int)) = true := decide_eq_true (by omega)
    have d2 : decide (1000 < m) = true := decide_eq_true hbig
    rw [hn]
    clear hr hn hq hqR hqc hqo hqa S1 hRW hbig
    go_enter Try.func7, Try.ntmps7
    go_wp2_with fail
    refine HG.out.mono ?_
    rintro en w1 ⟨rfl, rfl⟩
    go_wp2_with fail
    go_ret
    exact ⟨rfl, hbel.out⟩
  have d1 : decide ((1000 : Int) < (m : Int)) = false := decide_eq_false (by omega)
  have d2 : decide (1000 < m) = false := decide_eq_false hbig
  have Hn := Lib.hid hn
  rw [hn]
  have Hok := Lib.hid hok
  have Hb7 := Lib.hid hb700
  have HqR := Lib.hid (And.intro hqR (And.intro hqc (And.intro hqo (And.intro hqa (show m ≤ 1000 by omega)))))
  have HS1 := Lib.hid S1
  clear hr hn hok hb700 hgr hqR hqc hqo hqa hq S1 hRW hbig hbel
  go_enter Try.func7, Try.ntmps7
  go_wp2_with fail
  refine HG.out.mono ?_
  rintro en w1 ⟨rfl, rfl⟩
  go_wp2_with fail
  refine (two_any e HS1.out).mono ?_
  rintro en w2 ⟨gp, rfl, S2⟩
  clear x2 x3 HG HS1 d1 d2
  go_wp2_with fail
  go_loopw [8] (fun p8 wr => ∃ i p, i ≤ n ∧ p8 = .int .i64 (i : Int) ∧ Hid (PN e i p) ∧ Sep w wr [PairAt gp p, cell qb 32 #[.int .u32 (q.p.e : Int), .int .u64 (q.p.o : Int), .int .u64 (q.p.a : Int), .slice q.A m q.c]]) (fun p8 _ => n - (intOf p8).toNat)
  case atStart => exact ⟨0, newP e, Nat.zero_le _, rfl, Lib.hid (PN.new e), S2⟩
  case round =>
    clear S2
    obtain ⟨i, p, hi, rfl, hP, S3⟩ := hrel
    by_cases hlt : i < n
    · have hlt' : (i : Int) < (n : Int) := by omega
      have hil : i < l.length := by have := Hn.out; omega
      obtain ⟨b, o, rfl, hbB, hcell⟩ := HR.out.elem (cells := Sv.cs) (fun _ => rfl) (by decide) hil
      obtain ⟨v, hv⟩ : ∃ v, l[i] = v := ⟨_, rfl⟩
      rw [hv] at hcell
      have hvm : v ∈ l := by rw [← hv]; exact List.getElem_mem hil
      have hvo := Hok.out v hvm
      have hv7 := Hb7.out v hvm
      obtain ⟨hP2, hR2⟩ := hP.out.step v.x hv7
      have HP2 := Lib.hid hP2
      have HS := Lib.hid (step_any (gp := gp) v.x v.A v.x.b.length v.c (hP.out.fit (by omega)) (by omega) hvo.at_ S3)
      rw [hR2] at HS
      have hk : ∀ j u, v.cs[j]? = some u → wr.cell? ⟨b, o + i * 4 + j, none⟩ = some u := fun j u hu => (S3.below.cell (p := ⟨b, o + i * 4 + j, none⟩) hbB).trans (hcell j u hu)
      have r0 : wr.cell? ⟨b, o + i * 4, none⟩ = some (.int .u8 (v.x.d : Int)) := hk 0 _ rfl
      have r1 : wr.cell? ⟨b, o + i * 4 + 1, none⟩ = some (.bool v.x.s) := hk 1 _ rfl
      have r2 : wr.cell? ⟨b, o + i * 4 + 2, none⟩ = some (.int .i64 v.x.a) := hk 2 _ rfl
      have r3 : wr.cell? ⟨b, o + i * 4 + 3, none⟩ = some (.slice v.A v.x.b.length v.c) := hk 3 _ rfl
      have s4 : (0 : Int) ≤ (i : Int) := by omega
      obtain ⟨vm, hvm2⟩ : ∃ m, v.x.b.length = m := ⟨_, rfl⟩
      rw [hvm2] at HS r3
      clear hk hcell hv hvm hvo hvm2 S3 hP hR2 hP2
      go_wp2_with fail
      refine HS.out.mono ?_
      rintro en w4 ⟨rfl, S4⟩
      clear HS r0 r1 r2 r3 s4
      go_wp2_with fail
      go_roundw
      case measure => simp [intOf]; omega
      case rel => exact ⟨i + 1, _, hlt, by go_num, HP2, S4⟩
    · obtain ⟨xv, S⟩ := S3.openP2
      obtain ⟨g0, g1, vw0, vw1, vr0, vr1, vy, vt⟩ := xv
      replace S : Sep w wr (cell gp 49 (PV.cs ⟨g0, g1, vw0, vw1, vr0, vr1, vy, vt⟩) :: LinkAt g0 (p.l false) :: LinkAt g1 (p.l true) :: BRow vw0 (p.wr false) :: BRow vw1 (p.wr true) :: BRow vr0 (p.rd false) :: BRow vr1 (p.rd true) :: PkX vy (p.ws.map (·.2)) :: IRow vt p.ws :: [cell qb 32 #[.int .u32 (q.p.e : Int), .int .u64 (q.p.o : Int), .int .u64 (q.p.a : Int), .slice q.A m q.c]]) := S
      have hPN := hP.out
      have hFit := hPN.fit (by omega)
      have hL := hPN.inv.l false
      have hmost : (p.l false).most ≤ 1000000 := by have h1 := hL.mw; have h2 := hPN.wr false; omega
      have hep := hL.ep
      have k0 : wr.cell? ⟨gp, 0, none⟩ = some (.pointer (some ⟨g0, 0, none⟩)) := (S.blk 0 rfl).at_ 0 rfl
      have HZ := Lib.hid (sizes_any 1 rfl S)
      obtain ⟨za, hza⟩ : ∃ n, (p.l false).wait.length = n := ⟨_, rfl⟩
      obtain ⟨zb, hzb⟩ : ∃ n, (p.l false).got.length = n := ⟨_, rfl⟩
      rw [hza, hzb] at HZ
      clear S3 hP
      go_wp2_with fail
      refine HZ.out.mono ?_
      rintro en w5 ⟨rfl, q5, rfl⟩
      have S5 := S.drewN q5
      clear HZ S
      have k1 : (wr.drewN q5).cell? ⟨gp, 0, none⟩ = some (.pointer (some ⟨g0, 0, none⟩)) := k0
      clear k0
      generalize wr.drewN q5 = w6 at S5 k1 ⊢
      have HI := Lib.hid (idle_any 1 rfl S5)
      obtain ⟨zi, hzi⟩ : ∃ b : Bool, ((p.l false).wait.length == 0 && !(p.l false).owes) = b := ⟨_, rfl⟩
      rw [hzi] at HI
      go_wp2_with fail
      refine HI.out.mono ?_
      rintro en w7 ⟨rfl, rfl⟩
      clear HI k1
      have HZ2 := Lib.hid (And.intro hza hzb)
      have hi1 : IntKind.u32.wrap ((e : Int) + 1) = (((e + 1) % 4294967296 : Nat) : Int) := by simp [IntKind.wrap, IntKind.signed, IntKind.bits]
      obtain ⟨e1, he1⟩ : ∃ e1, (e + 1) % 4294967296 = e1 := ⟨_, rfl⟩
      rw [he1] at hi1
      have hne : e1 ≠ e := by omega
      have hqa := HqR.out.2.2.2.1
      obtain ⟨a1, ha1⟩ : ∃ a1, 9223372036854775808 + q.p.a % 4611686018427387904 = a1 := ⟨_, rfl⟩
      have ha1lt : a1 < 18446744073709551616 := by omega
      have hi2 : IntKind.u64.wrap (9223372036854775808 + (q.p.a : Int) % 4611686018427387904) = (a1 : Int) := by rw [u64_in (by omega) (by omega)]; omega
      have ha1gt : 1000000 < a1 := by omega
      obtain ⟨W7, hW7, S7⟩ := S5.boxedF 32 #[.int .u32 (q.p.e : Int), .int .u64 (q.p.o : Int), .int .u64 (q.p.a : Int), .slice q.A m q.c]
      obtain ⟨bb, hbb⟩ : ∃ b, w6.heap.size = b := ⟨_, rfl⟩
      rw [hbb] at S7
      have y0 := (S5.blk 9 rfl).at_ 0 rfl
      have y1 := (S5.blk 9 rfl).at_ 1 rfl
      have y2 := (S5.blk 9 rfl).at_ 2 rfl
      have y3 := (S5.blk 9 rfl).at_ 3 rfl
      have u0 := (S7.blk 0 rfl).at_ 0 rfl
      have v0 := (S7.blk 0 rfl).frozen 0
      have S8 := S7.put 0 rfl 0 (.int .u32 (e1 : Int))
      obtain ⟨W8, hW8⟩ : ∃ W8, W7.setCell ⟨bb, 0, none⟩ (.int .u32 (e1 : Int)) = W8 := ⟨_, rfl⟩
      rw [hW8] at S8
      obtain ⟨W9, hW9, S9⟩ := S8.boxedF 32 #[.int .u32 (q.p.e : Int), .int .u64 (q.p.o : Int), .int .u64 (q.p.a : Int), .slice q.A m q.c]
      obtain ⟨fb, hfb⟩ : ∃ b, W8.heap.size = b := ⟨_, rfl⟩
      rw [hfb] at S9
      have y4 := (S8.blk 10 rfl).at_ 0 rfl
      have y5 := (S8.blk 10 rfl).at_ 1 rfl
      have y6 := (S8.blk 10 rfl).at_ 2 rfl
      have y7 := (S8.blk 10 rfl).at_ 3 rfl
      have u1 := (S9.blk 0 rfl).at_ 0 rfl
      have v1 := (S9.blk 0 rfl).frozen 0
      have S10 := S9.put 0 rfl 0 (.int .u32 (e : Int))
      obtain ⟨W10, hW10⟩ : ∃ W8, W9.setCell ⟨fb, 0, none⟩ (.int .u32 (e : Int)) = W8 := ⟨_, rfl⟩
      rw [hW10] at S10
      have y8 := (S10.blk 11 rfl).at_ 2 rfl
      have u2 := (S10.blk 0 rfl).at_ 2 rfl
      have v2 := (S10.blk 0 rfl).frozen 2
      have S11 := S10.put 0 rfl 2 (.int .u64 (a1 : Int))
      obtain ⟨W11, hW11⟩ : ∃ W8, W10.setCell ⟨fb, 2, none⟩ (.int .u64 (a1 : Int)) = W8 := ⟨_, rfl⟩
      rw [hW11] at S11
      have HS := Lib.hid S11
      have HB6 := Lib.hid hbb
      have HB8 := Lib.hid hfb
      have HF := Lib.hid (And.intro hFit (And.intro hmost (And.intro hep (And.intro hne (And.intro ha1lt ha1gt)))))
      clear S5 S7 S8 S9 S10 S11 hFit hmost hep hne ha1lt ha1gt ha1 he1 hqa hL hPN hza hzb
      go_upto_region 15 with (first
        | (refine wpList_store_row rfl 32 (.tmp 12) (.tmp 53) rfl bb #[.int .u32 (q.p.e : Int), .int .u64 (q.p.o : Int), .int .u64 (q.p.a : Int), .slice q.A m q.c] rfl rfl 32 _ (by rw [← HB6.out]; exact Blk.new _ _ _) size32 rfl (pk_one _ _ _ _ _ _) ?_
           rw [← HB6.out, World.setRow_alloc_new, hW7, HB6.out])
        | (refine wpList_store_row rfl 32 (.tmp 13) (.tmp 57) rfl fb #[.int .u32 (q.p.e : Int), .int .u64 (q.p.o : Int), .int .u64 (q.p.a : Int), .slice q.A m q.c] rfl rfl 32 _ (by rw [← HB8.out]; exact Blk.new _ _ _) size32 rfl (pk_one _ _ _ _ _ _) ?_
           rw [← HB8.out, World.setRow_alloc_new, hW9, HB8.out]))
      clear hW7 hW8 hW9 hW10 hW11 y0 y1 y2 y3 y4 y5 y6 y7 y8 u0 u1 u2 v0 v1 v2 HB6 HB8 hi1 hi2
      have S12 : Sep w W11 (cell fb 32 #[.int .u32 (e : Int), .int .u64 (q.p.o : Int), .int .u64 (a1 : Int), .slice q.A m q.c] :: cell bb 32 #[.int .u32 (e1 : Int), .int .u64 (q.p.o : Int), .int .u64 (q.p.a : Int), .slice q.A m q.c] :: cell gp 49 (PV.cs ⟨g0, g1, vw0, vw1, vr0, vr1, vy, vt⟩) :: LinkAt g0 (p.l false) :: LinkAt g1 (p.l true) :: BRow vw0 (p.wr false) :: BRow vw1 (p.wr true) :: BRow vr0 (p.rd false) :: BRow vr1 (p.rd true) :: PkX vy (p.ws.map (·.2)) :: IRow vt p.ws :: [cell qb 32 #[.int .u32 (q.p.e : Int), .int .u64 (q.p.o : Int), .int .u64 (q.p.a : Int), .slice q.A m q.c]]) := HS.out
      have facts : ∀ {X : World}, Sep w X (cell fb 32 #[.int .u32 (e : Int), .int .u64 (q.p.o : Int), .int .u64 (a1 : Int), .slice q.A m q.c] :: cell bb 32 #[.int .u32 (e1 : Int), .int .u64 (q.p.o : Int), .int .u64 (q.p.a : Int), .slice q.A m q.c] :: cell gp 49 (PV.cs ⟨g0, g1, vw0, vw1, vr0, vr1, vy, vt⟩) :: LinkAt g0 (p.l false) :: LinkAt g1 (p.l true) :: BRow vw0 (p.wr false) :: BRow vw1 (p.wr true) :: BRow vr0 (p.rd false) :: BRow vr1 (p.rd true) :: PkX vy (p.ws.map (·.2)) :: IRow vt p.ws :: [cell qb 32 #[.int .u32 (q.p.e : Int), .int .u64 (q.p.o : Int), .int .u64 (q.p.a : Int), .slice q.A m q.c]]) → X.cell? ⟨gp, 0, none⟩ = some (.pointer (some ⟨g0, 0, none⟩)) ∧ X.cell? ⟨bb, 0, none⟩ = some (.int .u32 (e1 : Int)) ∧ X.cell? ⟨bb, 1, none⟩ = some (.int .u64 (q.p.o : Int)) ∧ X.cell? ⟨bb, 2, none⟩ = some (.int .u64 (q.p.a : Int)) ∧ X.cell? ⟨bb, 3, none⟩ = some (.slice q.A m q.c) ∧ X.cell? ⟨fb, 0, none⟩ = some (.int .u32 (e : Int)) ∧ X.cell? ⟨fb, 1, none⟩ = some (.int .u64 (q.p.o : Int)) ∧ X.cell? ⟨fb, 2, none⟩ = some (.int .u64 (a1 : Int)) ∧ X.cell? ⟨fb, 3, none⟩ = some (.slice q.A m q.c) := fun h => ⟨(h.blk 2 rfl).at_ 0 rfl, (h.blk 1 rfl).at_ 0 rfl, (h.blk 1 rfl).at_ 1 rfl, (h.blk 1 rfl).at_ 2 rfl, (h.blk 1 rfl).at_ 3 rfl, (h.blk 0 rfl).at_ 0 rfl, (h.blk 0 rfl).at_ 1 rfl, (h.blk 0 rfl).at_ 2 rfl, (h.blk 0 rfl).at_ 3 rfl⟩
      have HB : Hid (∀ W, Sep w W (cell fb 32 #[.int .u32 (e : Int), .int .u64 (q.p.o : Int), .int .u64 (a1 : Int), .slice q.A m q.c] :: cell bb 32 #[.int .u32 (e1 : Int), .int .u64 (q.p.o : Int), .int .u64 (q.p.a : Int), .slice q.A m q.c] :: cell gp 49 (PV.cs ⟨g0, g1, vw0, vw1, vr0, vr1, vy, vt⟩) :: LinkAt g0 (p.l false) :: LinkAt g1 (p.l true) :: BRow vw0 (p.wr false) :: BRow vw1 (p.wr true) :: BRow vr0 (p.rd false) :: BRow vr1 (p.rd true) :: PkX vy (p.ws.map (·.2)) :: IRow vt p.ws :: [cell qb 32 #[.int .u32 (q.p.e : Int), .int .u64 (q.p.o : Int), .int .u64 (q.p.a : Int), .slice q.A m q.c]]) → Calls Try.prog 13 #[.pointer (some ⟨g0, 0, none⟩), .agg #[.int .u32 (e1 : Int), .int .u64 (q.p.o : Int), .int .u64 (q.p.a : Int), .slice q.A m q.c]] W fun en w' => en = .returned (.int .i64 220) ∧ Sep w w' (cell fb 32 #[.int .u32 (e : Int), .int .u64 (q.p.o : Int), .int .u64 (a1 : Int), .slice q.A m q.c] :: cell bb 32 #[.int .u32 (e1 : Int), .int .u64 (q.p.o : Int), .int .u64 (q.p.a : Int), .slice q.A m q.c] :: cell gp 49 (PV.cs ⟨g0, g1, vw0, vw1, vr0, vr1, vy, vt⟩) :: LinkAt g0 (p.l false) :: LinkAt g1 (p.l true) :: BRow vw0 (p.wr false) :: BRow vw1 (p.wr true) :: BRow vr0 (p.rd false) :: BRow vr1 (p.rd true) :: PkX vy (p.ws.map (·.2)) :: IRow vt p.ws :: [cell qb 32 #[.int .u32 (q.p.e : Int), .int .u64 (q.p.o : Int), .int .u64 (q.p.a : Int), .slice q.A m q.c]])) := Lib.hid fun W hS => by
        obtain ⟨hqR, hqc, hqo, hqa, hm1⟩ := HqR.out
        obtain ⟨hFit, hmost, hep, hne, ha1, ha1gt⟩ := HF.out
        have h := take_any 3 ⟨e1, q.p.o, q.p.a, q.p.d⟩ q.A m q.c hqo hqa (fun W s' h => hqR.below h.below) hqc (by omega) (hFit.most false) (hFit.inv false).wl (hFit.next false) (hFit.got false) rfl hS
        have hE : takeE (p.l false) ⟨e1, q.p.o, q.p.a, q.p.d⟩ = 220 := by unfold takeE; rw [if_pos (by rw [hep]; exact hne)]
        have hS2 : takeS (p.l false) ⟨e1, q.p.o, q.p.a, q.p.d⟩ = p.l false := by unfold takeS; rw [if_pos (by rw [hep]; exact hne)]
        rw [hE, hS2] at h
        exact h
      have HFA : Hid (∀ W, Sep w W (cell fb 32 #[.int .u32 (e : Int), .int .u64 (q.p.o : Int), .int .u64 (a1 : Int), .slice q.A m q.c] :: cell bb 32 #[.int .u32 (e1 : Int), .int .u64 (q.p.o : Int), .int .u64 (q.p.a : Int), .slice q.A m q.c] :: cell gp 49 (PV.cs ⟨g0, g1, vw0, vw1, vr0, vr1, vy, vt⟩) :: LinkAt g0 (p.l false) :: LinkAt g1 (p.l true) :: BRow vw0 (p.wr false) :: BRow vw1 (p.wr true) :: BRow vr0 (p.rd false) :: BRow vr1 (p.rd true) :: PkX vy (p.ws.map (·.2)) :: IRow vt p.ws :: [cell qb 32 #[.int .u32 (q.p.e : Int), .int .u64 (q.p.o : Int), .int .u64 (q.p.a : Int), .slice q.A m q.c]]) → Calls Try.prog 13 #[.pointer (some ⟨g0, 0, none⟩), .agg #[.int .u32 (e : Int), .int .u64 (q.p.o : Int), .int .u64 (a1 : Int), .slice q.A m q.c]] W fun en w' => en = .returned (.int .i64 221) ∧ Sep w w' (cell fb 32 #[.int .u32 (e : Int), .int .u64 (q.p.o : Int), .int .u64 (a1 : Int), .slice q.A m q.c] :: cell bb 32 #[.int .u32 (e1 : Int), .int .u64 (q.p.o : Int), .int .u64 (q.p.a : Int), .slice q.A m q.c] :: cell gp 49 (PV.cs ⟨g0, g1, vw0, vw1, vr0, vr1, vy, vt⟩) :: LinkAt g0 (p.l false) :: LinkAt g1 (p.l true) :: BRow vw0 (p.wr false) :: BRow vw1 (p.wr true) :: BRow vr0 (p.rd false) :: BRow vr1 (p.rd true) :: PkX vy (p.ws.map (·.2)) :: IRow vt p.ws :: [cell qb 32 #[.int .u32 (q.p.e : Int), .int .u64 (q.p.o : Int), .int .u64 (q.p.a : Int), .slice q.A m q.c]])) := Lib.hid fun W hS => by
        obtain ⟨hqR, hqc, hqo, hqa, hm1⟩ := HqR.out
        obtain ⟨hFit, hmost, hep, hne, ha1, ha1gt⟩ := HF.out
        have h := take_any 3 ⟨e, q.p.o, a1, q.p.d⟩ q.A m q.c hqo ha1 (fun W s' h => hqR.below h.below) hqc (by omega) (hFit.most false) (hFit.inv false).wl (hFit.next false) (hFit.got false) rfl hS
        have hE : takeE (p.l false) ⟨e, q.p.o, a1, q.p.d⟩ = 221 := by unfold takeE; rw [if_neg (by rw [hep]; simp), if_pos (by show (p.l false).most < a1; omega)]
        have hS2 : takeS (p.l false) ⟨e, q.p.o, a1, q.p.d⟩ = p.l false := by unfold takeS; rw [if_neg (by rw [hep]; simp), if_pos (by show (p.l false).most < a1; omega)]
        rw [hE, hS2] at h
        exact h
      have hSS : W11.drew.cell? ⟨gp, 0, none⟩ = some (.pointer (some ⟨g0, 0, none⟩)) ∧ W11.drew.cell? ⟨bb, 0, none⟩ = some (.int .u32 (e1 : Int)) ∧ W11.drew.cell? ⟨bb, 1, none⟩ = some (.int .u64 (q.p.o : Int)) ∧ W11.drew.cell? ⟨bb, 2, none⟩ = some (.int .u64 (q.p.a : Int)) ∧ W11.drew.cell? ⟨bb, 3, none⟩ = some (.slice q.A m q.c) ∧ W11.drew.cell? ⟨fb, 0, none⟩ = some (.int .u32 (e : Int)) ∧ W11.drew.cell? ⟨fb, 1, none⟩ = some (.int .u64 (q.p.o : Int)) ∧ W11.drew.cell? ⟨fb, 2, none⟩ = some (.int .u64 (a1 : Int)) ∧ W11.drew.cell? ⟨fb, 3, none⟩ = some (.slice q.A m q.c) := facts S12.drew
      have S9 := S12.drew
      clear S12 HS HF HqR
      refine plain_under (fun w => w.cell? ⟨gp, 0, none⟩ = some (.pointer (some ⟨g0, 0, none⟩)) ∧ w.cell? ⟨bb, 0, none⟩ = some (.int .u32 (e1 : Int)) ∧ w.cell? ⟨bb, 1, none⟩ = some (.int .u64 (q.p.o : Int)) ∧ w.cell? ⟨bb, 2, none⟩ = some (.int .u64 (q.p.a : Int)) ∧ w.cell? ⟨bb, 3, none⟩ = some (.slice q.A m q.c) ∧ w.cell? ⟨fb, 0, none⟩ = some (.int .u32 (e : Int)) ∧ w.cell? ⟨fb, 1, none⟩ = some (.int .u64 (q.p.o : Int)) ∧ w.cell? ⟨fb, 2, none⟩ = some (.int .u64 (a1 : Int)) ∧ w.cell? ⟨fb, 3, none⟩ = some (.slice q.A m q.c)) (fun _ => true) (by kernel_rfl) ?_
      generalize W11.drew = w9 at hSS S9 ⊢
      simp only [List.size_toArray, List.length_cons, List.length_nil, Nat.reduceAdd, Array.replicate_succ, Array.replicate_zero, List.push_toArray, List.nil_append, List.cons_append]
      refine under_free (i := 0) (v := ?_) rfl (by kernel_rfl) (fun _ _ _ h => h) _ _ _ _ (by kernel_rfl) (by kernel_rfl) (Or.inl ⟨by rfl, ?_⟩) ?_
      rotate_left
      · intro w _
        go_simp
        try with_reducible rfl
      simp only [Act.put, List.setIfInBounds_toArray, List.set_cons_zero, List.set_cons_succ, List.getElem_toArray, List.getElem_cons_zero]
      refine under_free (i := 1) (v := ?_) rfl (by kernel_rfl) (fun _ _ _ h => h) _ _ _ _ (by kernel_rfl) (by kernel_rfl) (Or.inl ⟨by rfl, ?_⟩) ?_
      rotate_left
      · intro w _
        go_simp
        try with_reducible rfl
      simp only [Act.put, List.setIfInBounds_toArray, List.set_cons_zero, List.set_cons_succ, List.getElem_toArray, List.getElem_cons_zero, List.getElem_cons_succ]
      refine under_free (i := 2) (v := ?_) rfl (by kernel_rfl) (fun _ _ _ h => h) _ _ _ _ (by kernel_rfl) (by kernel_rfl) (Or.inl ⟨by rfl, ?_⟩) ?_
      rotate_left
      · intro w _
        go_simp
        try with_reducible rfl
      simp only [Act.put, List.setIfInBounds_toArray, List.set_cons_zero, List.set_cons_succ, List.getElem_toArray, List.getElem_cons_zero, List.getElem_cons_succ]
      refine under_free (i := 3) (v := ?_) rfl (by kernel_rfl) (fun _ _ _ h => h) _ _ _ _ (by kernel_rfl) (by kernel_rfl) (Or.inl ⟨by rfl, ?_⟩) ?_
      rotate_left
      · intro w _
        go_simp
        try with_reducible rfl
      simp only [Act.put, List.setIfInBounds_toArray, List.set_cons_zero, List.set_cons_succ, List.getElem_toArray, List.getElem_cons_zero, List.getElem_cons_succ]
      refine under_take (i := 4) (v := ?_) rfl (by kernel_rfl) (by kernel_rfl) (fun _ _ _ h => h) _ _ _ _ (by kernel_rfl) (by kernel_rfl) (by kernel_rfl) (Or.inl ⟨by rfl, ?_⟩) hSS ?_
      rotate_left
      · intro w hSw
        obtain ⟨q0, q1, q2, q3, q4, q5, q6, q7, q8⟩ := hSw
        go_simp
        try with_reducible rfl
      simp only [Act.put, List.setIfInBounds_toArray, List.set_cons_zero, List.set_cons_succ, List.getElem_toArray, List.getElem_cons_zero, List.getElem_cons_succ]
      refine under_take (i := 5) (v := ?_) rfl (by kernel_rfl) (by kernel_rfl) (fun _ _ _ h => h) _ _ _ _ (by kernel_rfl) (by kernel_rfl) (by kernel_rfl) (Or.inl ⟨by rfl, ?_⟩) hSS ?_
      rotate_left
      · intro w hSw
        obtain ⟨q0, q1, q2, q3, q4, q5, q6, q7, q8⟩ := hSw
        go_simp
        try with_reducible rfl
      simp only [Act.put, List.setIfInBounds_toArray, List.set_cons_zero, List.set_cons_succ, List.getElem_toArray, List.getElem_cons_zero, List.getElem_cons_succ]
      refine under_one (i := 6) (by kernel_rfl) rfl ?_
      intro K hK
      go_simp
      refine (HB.out w9 S9).mono ?_
      rintro en w10 ⟨rfl, S10⟩
      replace hSS := facts S10
      refine hK _ _ (fun _ => hSS) ?_
      clear hK K S9
      simp only [List.setIfInBounds_toArray, List.set_cons_zero, List.set_cons_succ]
      refine under_free (i := 7) (v := ?_) rfl (by kernel_rfl) (fun _ _ _ h => h) _ _ _ _ (by kernel_rfl) (by kernel_rfl) (Or.inl ⟨by rfl, ?_⟩) ?_
      rotate_left
      · intro w _
        go_simp
        try with_reducible rfl
      simp only [Act.put, List.setIfInBounds_toArray, List.set_cons_zero, List.set_cons_succ, List.getElem_toArray, List.getElem_cons_zero, List.getElem_cons_succ]
      refine under_free (i := 8) (v := ?_) rfl (by kernel_rfl) (fun _ _ _ h => h) _ _ _ _ (by kernel_rfl) (by kernel_rfl) (Or.inl ⟨by rfl, ?_⟩) ?_
      rotate_left
      · intro w _
        go_simp
        try with_reducible rfl
      simp only [Act.put, List.setIfInBounds_toArray, List.set_cons_zero, List.set_cons_succ, List.getElem_toArray, List.getElem_cons_zero, List.getElem_cons_succ]
      refine under_free (i := 9) (v := ?_) rfl (by kernel_rfl) (fun _ _ _ h => h) _ _ _ _ (by kernel_rfl) (by kernel_rfl) (Or.inl ⟨by rfl, ?_⟩) ?_
      rotate_left
      · intro w _
        go_simp
        try with_reducible rfl
      simp only [Act.put, List.setIfInBounds_toArray, List.set_cons_zero, List.set_cons_succ, List.getElem_toArray, List.getElem_cons_zero, List.getElem_cons_succ]
      refine under_free (i := 10) (v := ?_) rfl (by kernel_rfl) (fun _ _ _ h => h) _ _ _ _ (by kernel_rfl) (by kernel_rfl) (Or.inl ⟨by rfl, ?_⟩) ?_
      rotate_left
      · intro w _
        go_simp
        try with_reducible rfl
      simp only [Act.put, List.setIfInBounds_toArray, List.set_cons_zero, List.set_cons_succ, List.getElem_toArray, List.getElem_cons_zero, List.getElem_cons_succ]
      refine under_free (i := 11) (v := ?_) rfl (by kernel_rfl) (fun _ _ _ h => h) _ _ _ _ (by kernel_rfl) (by kernel_rfl) (Or.inl ⟨by rfl, ?_⟩) ?_
      rotate_left
      · intro w _
        go_simp
        try with_reducible rfl
      simp only [Act.put, List.setIfInBounds_toArray, List.set_cons_zero, List.set_cons_succ, List.getElem_toArray, List.getElem_cons_zero, List.getElem_cons_succ]
      refine under_free (i := 12) (v := ?_) rfl (by kernel_rfl) (fun _ _ _ h => h) _ _ _ _ (by kernel_rfl) (by kernel_rfl) (Or.inl ⟨by rfl, ?_⟩) ?_
      rotate_left
      · intro w _
        go_simp
        try with_reducible rfl
      simp only [Act.put, List.setIfInBounds_toArray, List.set_cons_zero, List.set_cons_succ, List.getElem_toArray, List.getElem_cons_zero, List.getElem_cons_succ]
      refine under_take (i := 13) (v := ?_) rfl (by kernel_rfl) (by kernel_rfl) (fun _ _ _ h => h) _ _ _ _ (by kernel_rfl) (by kernel_rfl) (by kernel_rfl) (Or.inl ⟨by rfl, ?_⟩) hSS ?_
      rotate_left
      · intro w hSw
        obtain ⟨q0, q1, q2, q3, q4, q5, q6, q7, q8⟩ := hSw
        go_simp
        try with_reducible rfl
      simp only [Act.put, List.setIfInBounds_toArray, List.set_cons_zero, List.set_cons_succ, List.getElem_toArray, List.getElem_cons_zero, List.getElem_cons_succ]
      refine under_take (i := 14) (v := ?_) rfl (by kernel_rfl) (by kernel_rfl) (fun _ _ _ h => h) _ _ _ _ (by kernel_rfl) (by kernel_rfl) (by kernel_rfl) (Or.inl ⟨by rfl, ?_⟩) hSS ?_
      rotate_left
      · intro w hSw
        obtain ⟨q0, q1, q2, q3, q4, q5, q6, q7, q8⟩ := hSw
        go_simp
        try with_reducible rfl
      simp only [Act.put, List.setIfInBounds_toArray, List.set_cons_zero, List.set_cons_succ, List.getElem_toArray, List.getElem_cons_zero, List.getElem_cons_succ]
      refine under_one (i := 15) (by kernel_rfl) rfl ?_
      intro K hK
      go_simp
      refine (HFA.out w10 S10).mono ?_
      rintro en w11 ⟨rfl, S11⟩
      replace hSS := facts S11
      refine hK _ _ (fun _ => hSS) ?_
      clear hK K S10
      simp only [List.setIfInBounds_toArray, List.set_cons_zero, List.set_cons_succ]
      refine under_free (i := 16) (v := ?_) rfl (by kernel_rfl) (fun _ _ _ h => h) _ _ _ _ (by kernel_rfl) (by kernel_rfl) (Or.inl ⟨by rfl, ?_⟩) ?_
      rotate_left
      · intro w _
        go_simp
        try with_reducible rfl
      simp only [Act.put, List.setIfInBounds_toArray, List.set_cons_zero, List.set_cons_succ, List.getElem_toArray, List.getElem_cons_zero, List.getElem_cons_succ]
      refine under_free (i := 17) (v := ?_) rfl (by kernel_rfl) (fun _ _ _ h => h) _ _ _ _ (by kernel_rfl) (by kernel_rfl) (Or.inl ⟨by rfl, ?_⟩) ?_
      rotate_left
      · intro w _
        go_simp
        try with_reducible rfl
      simp only [Act.put, List.setIfInBounds_toArray, List.set_cons_zero, List.set_cons_succ, List.getElem_toArray, List.getElem_cons_zero, List.getElem_cons_succ]
      refine under_done (by kernel_rfl) ?_ _
      have k11 : w11.cell? ⟨gp, 0, none⟩ = some (.pointer (some ⟨g0, 0, none⟩)) := hSS.1
      have HZ := Lib.hid (sizes_any 3 rfl S11)
      rw [HZ2.out.1, HZ2.out.2] at HZ
      clear hSS HB HFA facts
      go_wp2_with fail
      refine HZ.out.mono ?_
      rintro en w12 ⟨rfl, q12, rfl⟩
      clear HZ
      have S13 := S11.drewN q12
      replace k11 : (w11.drewN q12).cell? ⟨gp, 0, none⟩ = some (.pointer (some ⟨g0, 0, none⟩)) := k11
      generalize w11.drewN q12 = w13 at S13 k11 ⊢
      have HI := Lib.hid (idle_any 3 rfl S13)
      rw [hzi] at HI
      clear S11
      go_wp2_with fail
      refine HI.out.mono ?_
      rintro en w14 ⟨rfl, rfl⟩
      go_wp2_with fail
      refine (carries_any _).mono ?_
      rintro en w15 ⟨rfl, b15⟩
      have S15 := S13.grow b15
      go_wp2_with fail
      go_ret
      exact ⟨rfl, S15.below⟩
theorem other_int (a : Int) (h0 : 0 ≤ a) (l : List Sv) (A : Option Addr) (c : Nat) (q : Pv) (w : World) (hr : Reads w w.heap.size 4 A l.length (l.flatMap Sv.cs)) (hok : ∀ v ∈ l, v.ok w) (hq : q.ok w) :
    Calls Try.prog 7 #[.int .u32 a, .slice A l.length c, .agg q.cs.toArray] w fun en w' => en = .returned (.bool true) ∧ Below w.heap.size w w' := by
  obtain ⟨e, rfl⟩ := Int.eq_ofNat_of_zero_le h0
  exact other_any e l A c q w hr hok hq
end Go.Proofs.Ytpgiljjjpijepaa
