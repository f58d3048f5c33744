/- LinkComes: all that waits comes, within a bound. -/
import Derived.Test.YtpgiljjjpijepaaLComM
import Derived.Test.YtpgiljjjpijepaaLComH
import Derived.Test.YtpgiljjjpijepaaLKnA
import Derived.Test.YtpgiljjjpijepaaLRound
import Derived.Deep.WholeRow
namespace Go.Proofs.Ytpgiljjjpijepaa
open Go.RowKit
/-- behind k of the last rounds: what the others hold -/
def FQ (p p3 : PS) (k : Nat) : Prop := (∀ s, (k = 0 ∨ (k = 1 ∧ s = true)) → p.l s = p3.l s ∧ p.rd s = p3.rd s) ∧ ∀ s, p.wr s = p3.wr s
/-- which packets the list of losses means -/
def ldOf (ls : List Nat) (n : Nat) : Bool := decide (0 < ls.length ∧ ls.getD (n % ls.length) 0 % 2 = 1)
/-- what waits in the first k links -/
def sz (p : PS) (k : Nat) : Nat := if k = 0 then 0 else if k = 1 then (p.l false).wait.length else wt p
def lenOf (gp : Nat) (w : World) : Nat := match w.cell? ⟨gp, 6, none⟩ with | some (.slice _ n _) => n | _ => 0
/-- behind k of the two ticks -/
def tk (p : PS) (k : Nat) : PS := if k = 0 then p else if k = 1 then stepS p (xK false) else stepS (stepS p (xK false)) (xK true)
theorem size58 : (Try.prog.info? 58).map (·.size) = some 3 := by kernel_rfl
theorem key_one (a c : Int) (b : Bool) : #[Value.int .i64 a, .bool b, .int .u64 c].all (·.oneCell') = true := by kernel_rfl
theorem cell_lt {w : World} {p : Addr} {v : Value} (h : w.cell? p = some v) : p.block < w.heap.size := by
  rcases Nat.lt_or_ge p.block w.heap.size with h1 | h1
  · exact h1
  · have h2 : w.heap[p.block]? = none := Array.getElem?_eq_none h1
    simp [World.cell?, h2] at h
section
variable {w0 w w' : World} {L M : List Asn}
theorem lenOf_at {gp : Nat} {p : PS} (hS : Sep w0 w (PairAt gp p :: L)) : lenOf gp w = p.ws.length ∧ ∃ A c, w.cell? ⟨gp, 6, none⟩ = some (.slice A p.ws.length c) := by
  obtain ⟨xv, S⟩ := hS.openP2
  obtain ⟨A, c, hv, -⟩ := S.pr 7 rfl
  have y6 : w.cell? ⟨gp, 6, none⟩ = some xv.y := (S.blk 0 rfl).at_ 6 rfl
  rw [hv, List.length_map] at y6
  refine ⟨?_, A, c, y6⟩
  unfold lenOf
  rw [y6]
theorem step_store_row {P : Program} {ops : Array Oper} {o : Oper} {a : Act} {w : World} {K : Act → World → Prop} {Q : Exit → Act → World → Prop} {E : Prop} (hgd : o.guard = none) (ty : TypeId) (x y : Operand) (ho : o.op = .store ty x y)
    (g : Nat) (cells : Array Value) (hx : a.eval x = .pointer (some ⟨g, 0, none⟩)) (hy : a.eval y = .agg cells)
    (t : TypeId) (old : Array Value) (hg : w.heap[g]? = some (.cells old t (0, 0))) (hi : (P.info? ty).map (·.size) = some cells.size)
    (hold : old.size = cells.size) (h1 : cells.all (·.oneCell') = true)
    (h : K (a.put o.dst undef) (w.setRow g cells)) : if Region.wanted o (yielded ops a.tmps) = true then Oper.wp P o a w K Q else E := by
  have hw : Region.wanted o (yielded ops a.tmps) = true := by simp [Region.wanted, hgd]
  rw [if_pos hw]
  exact wp_store_row ty x y ho g cells hx hy t old hg hi hold h1 h
theorem told_pr {v : Value} {ps : List Pk} (n : Nat) (hn : ps.length = n) (h : Sep w0 w (PkX v ps :: L)) : ∃ A c, v = .slice A n c := by
  subst hn
  obtain ⟨A, c, h1, -⟩ := h.pr 0 rfl
  exact ⟨A, c, h1⟩
/-- a step of the turns -/
theorem step_of {gp : Nat} {p : PS} (d : Nat) (s : Bool) (hF : Fit p) (hR : stepR p ⟨d, s, 0, []⟩ = true) (hS : Sep w0 w (PairAt gp p :: M)) :
    Calls Try.prog 22 #[.pointer (some ⟨gp, 0, none⟩), .agg #[.int .u8 (d : Int), .bool s, .int .i64 0, .slice none 0 0]] w fun en w' => en = .returned (.bool true) ∧ Sep w0 w' (PairAt gp (stepS p ⟨d, s, 0, []⟩) :: M) := by
  have h := step_any ⟨d, s, 0, []⟩ none 0 0 hF (by decide) (RB.nil w0 0).1 hS
  rw [hR] at h
  exact h
end
set_option maxRecDepth 100000 in
set_option maxHeartbeats 4000000 in
theorem comes_any (e : Nat) (l : List Sv) (A : Option Addr) (c : Nat) (ls : List Nat) (LA : Option Addr) (lc : Nat) (w : World) (hr : Reads w w.heap.size 4 A l.length (l.flatMap Sv.cs)) (hok : ∀ v ∈ l, v.ok w) (hls : RB w LA ls.length ls) (hlc : ls.length ≤ lc) :
    Calls Try.prog 6 #[.int .u32 (e : Int), .slice A l.length c, .slice LA ls.length lc] w fun en w' => en = .returned (.bool true) ∧ Below w.heap.size w w' := by
  have HG := Lib.hid (great_any l A c w hr)
  have HR := Lib.hid hr
  have HLS := Lib.hid (And.intro hls hlc)
  obtain ⟨n, hn⟩ : ∃ n, l.length = n := ⟨_, rfl⟩
  obtain ⟨ln, hln⟩ : ∃ n, ls.length = n := ⟨_, rfl⟩
  have HLN := Lib.hid hln
  rw [hln]
  cases hgr : greatB l with
  | true =>
    rw [hn] at HG
    rw [hgr] at HG
    rw [hn]
    clear hr hn hln hls hlc
    go_enter Try.func6, Try.ntmps6
    go_wp2_with fail
    refine HG.out.mono ?_
    rintro en w1 ⟨rfl, rfl⟩
    go_wp2_with fail
    go_ret
    exact ⟨rfl, Below.refl _ _⟩
  | false =>
  obtain ⟨hn150, hb700⟩ := great_no hgr
  rw [hn] at HG hn150
  rw [hgr] at HG
  have Hn := Lib.hid hn
  rw [hn]
  have Hok := Lib.hid hok
  have Hb7 := Lib.hid hb700
  clear hr hn hok hb700 hgr hln hls hlc
  by_cases h200 : 200 < ln
  · have d0 : decide ((200 : Int) < (ln : Int)) = true := decide_eq_true (by omega)
    go_enter Try.func6, Try.ntmps6
    go_wp2_with fail
    refine HG.out.mono ?_
    rintro en w1 ⟨rfl, rfl⟩
    go_wp2_with fail
    go_ret
    exact ⟨rfl, Below.refl _ _⟩
  have d0 : decide ((200 : Int) < (ln : Int)) = false := decide_eq_false (by omega)
  go_enter Try.func6, Try.ntmps6
  go_wp2_with fail
  refine HG.out.mono ?_
  rintro en w1 ⟨rfl, rfl⟩
  go_wp2_with fail
  refine (two_any e (Sep.start w)).mono ?_
  rintro en w2 ⟨gp, rfl, S2⟩
  clear d0
  go_wp2_with fail
  go_loopw [8] (fun p8 wr => ∃ i p, i ≤ n ∧ p8 = .int .i64 (i : Int) ∧ Hid (PN e i p) ∧ Sep w wr [PairAt gp p]) (fun p8 _ => n - (intOf p8).toNat)
  case atStart => exact ⟨0, newP e, Nat.zero_le _, rfl, Lib.hid (PN.new e), S2⟩
  case round =>
    clear S2 HG
    obtain ⟨i, p, hi, rfl, hP, S3⟩ := hrel
    by_cases hlt : i < n
    · as_aux_lemma =>
      have hlt' : (i : Int) < (n : Int) := by omega
      have hil : i < l.length := by have := Hn.out; omega
      obtain ⟨b, o, rfl, hbB, hcell⟩ := HR.out.elem (cells := Sv.cs) (fun _ => rfl) (by decide) hil
      obtain ⟨v, hv⟩ : ∃ v, l[i] = v := ⟨_, rfl⟩
      rw [hv] at hcell
      have hvm : v ∈ l := by rw [← hv]; exact List.getElem_mem hil
      have hvo := Hok.out v hvm
      have hv7 := Hb7.out v hvm
      obtain ⟨hP2, hR2⟩ := hP.out.step v.x hv7
      have HS := Lib.hid (step_any (gp := gp) v.x v.A v.x.b.length v.c (hP.out.fit (by omega)) (by omega) hvo.at_ S3)
      rw [hR2] at HS
      have hk : ∀ j u, v.cs[j]? = some u → wr.cell? ⟨b, o + i * 4 + j, none⟩ = some u := fun j u hu => (S3.below.cell (p := ⟨b, o + i * 4 + j, none⟩) hbB).trans (hcell j u hu)
      have r0 : wr.cell? ⟨b, o + i * 4, none⟩ = some (.int .u8 (v.x.d : Int)) := hk 0 _ rfl
      have r1 : wr.cell? ⟨b, o + i * 4 + 1, none⟩ = some (.bool v.x.s) := hk 1 _ rfl
      have r2 : wr.cell? ⟨b, o + i * 4 + 2, none⟩ = some (.int .i64 v.x.a) := hk 2 _ rfl
      have r3 : wr.cell? ⟨b, o + i * 4 + 3, none⟩ = some (.slice v.A v.x.b.length v.c) := hk 3 _ rfl
      have s4 : (0 : Int) ≤ (i : Int) := by omega
      obtain ⟨m, hm⟩ : ∃ m, v.x.b.length = m := ⟨_, rfl⟩
      rw [hm] at HS r3
      have HP2 := Lib.hid hP2
      clear hk hcell hv hvm hvo hm S3 hP hR2 hP2
      go_wp2_with fail
      refine HS.out.mono ?_
      rintro en w4 ⟨rfl, S4⟩
      clear HS r0 r1 r2 r3 s4
      go_wp2_with fail
      go_roundw
      case measure => simp [intOf]; omega
      case rel => exact ⟨i + 1, stepS p v.x, hlt, by go_num, HP2, S4⟩
    · have hlt' : ¬ (i : Int) < (n : Int) := by omega
      have HC : Hid (CP e p ∧ p.ws.length ≤ 1000000) := Lib.hid ⟨⟨hP.out.inv, fun s => by have := hP.out.wr s; omega⟩, by have := hP.out.ws; omega⟩
      have Hsz : Hid (∀ s, (p.l s).wait.length ≤ 105000) := Lib.hid fun s => by
        have h1 := (hP.out.inv.l s).wlen
        have h2 := HC.out.1.wr s
        omega
      clear hP hlt Hok Hb7 HR hn150
      go_wp2_with fail
      clear hlt' hi Hn
      go_loopw [9, 10, 11, 12] (fun p9 p10 _ _ wi => ∃ k : Nat, k ≤ 2 ∧ p10 = .int .i64 (k : Int) ∧ p9 = .int .i64 ((sz p k : Nat) : Int) ∧ Sep w wi [PairAt gp p]) (fun _ p10 _ _ _ => 2 - (intOf p10).toNat)
      case atStart => exact ⟨0, by decide, rfl, rfl, S3⟩
      case round =>
        clear S3
        obtain ⟨k, hk2, rfl, rfl, S5⟩ := hrel
        obtain rfl | rfl | rfl : k = 0 ∨ k = 1 ∨ k = 2 := by omega
        · as_aux_lemma =>
          obtain ⟨xv, S⟩ := S5.openP2
          obtain ⟨g0, g1, vw0, vw1, vr0, vr1, vy, vt⟩ := xv
          have k0 : wr.cell? ⟨gp, 0, none⟩ = some (.pointer (some ⟨g0, 0, none⟩)) := (S.blk 0 rfl).at_ 0 rfl
          have HZ := Lib.hid (sizes_any 1 rfl S)
          obtain ⟨za, hza⟩ : ∃ n, (p.l false).wait.length = n := ⟨_, rfl⟩
          rw [hza] at HZ
          obtain ⟨zb, hzb⟩ : ∃ n, sz p 0 = n := ⟨_, rfl⟩
          have hbnd : za ≤ 105000 ∧ zb ≤ 105000 ∧ sz p (0 + 1) = zb + za := by
            refine ⟨by rw [← hza]; exact Hsz.out false, by rw [← hzb]; exact Nat.zero_le _, ?_⟩
            rw [← hza, ← hzb]
            show (p.l false).wait.length = 0 + _; omega
          rw [hzb]
          obtain ⟨u1, u2, u3⟩ := hbnd
          have i1 : IntKind.i64.wrap ((zb : Int) + (za : Int)) = ((zb + za : Nat) : Int) := by rw [IntWalk.i64_in _ (by omega)]; omega
          have H5 := Lib.hid S
          clear S S5 hza hzb
          go_wp2_with fail
          refine HZ.out.mono ?_
          rintro en w6 ⟨rfl, q6, rfl⟩
          have S6 := Sep.closeP2 (p := p) _ (H5.out.drewN q6)
          clear HZ k0 H5
          generalize wr.drewN q6 = w7 at S6 ⊢
          go_wp2_with fail
          go_roundw
          case measure => simp [intOf]
          case rel => exact ⟨0 + 1, by decide, by go_num, by rw [u3, Int.natCast_add], S6⟩
        · as_aux_lemma =>
          obtain ⟨xv, S⟩ := S5.openP2
          obtain ⟨g0, g1, vw0, vw1, vr0, vr1, vy, vt⟩ := xv
          have k0 : wr.cell? ⟨gp, 1, none⟩ = some (.pointer (some ⟨g1, 0, none⟩)) := (S.blk 0 rfl).at_ 1 rfl
          have HZ := Lib.hid (sizes_any 2 rfl S)
          obtain ⟨za, hza⟩ : ∃ n, (p.l true).wait.length = n := ⟨_, rfl⟩
          rw [hza] at HZ
          obtain ⟨zb, hzb⟩ : ∃ n, sz p 1 = n := ⟨_, rfl⟩
          have hbnd : za ≤ 105000 ∧ zb ≤ 105000 ∧ sz p (1 + 1) = zb + za := by
            refine ⟨by rw [← hza]; exact Hsz.out true, by rw [← hzb]; exact Hsz.out false, ?_⟩
            rw [← hza, ← hzb]
            rfl
          rw [hzb]
          obtain ⟨u1, u2, u3⟩ := hbnd
          have i1 : IntKind.i64.wrap ((zb : Int) + (za : Int)) = ((zb + za : Nat) : Int) := by rw [IntWalk.i64_in _ (by omega)]; omega
          have H5 := Lib.hid S
          clear S S5 hza hzb
          go_wp2_with fail
          refine HZ.out.mono ?_
          rintro en w6 ⟨rfl, q6, rfl⟩
          have S6 := Sep.closeP2 (p := p) _ (H5.out.drewN q6)
          clear HZ k0 H5
          generalize wr.drewN q6 = w7 at S6 ⊢
          go_wp2_with fail
          go_roundw
          case measure => simp [intOf]
          case rel => exact ⟨1 + 1, by decide, by go_num, by rw [u3, Int.natCast_add], S6⟩
        · have hsz2 : sz p 2 = wt p := rfl
          rw [hsz2, show ((2 : Nat) : Int) = 2 from rfl]
          obtain ⟨wp, hwp⟩ : ∃ x, wt p = x := ⟨_, rfl⟩
          have hwb : wp ≤ 210000 := by have := Hsz.out false; have := Hsz.out true; unfold wt at hwp; omega
          rw [hwp]
          have HCW : Hid (CP e p ∧ wt p ≤ wp ∧ p.ws.length ≤ 1000000) := Lib.hid ⟨HC.out.1, Nat.le_of_eq hwp, HC.out.2⟩
          clear hk2 hsz2 hwp Hsz HC
          go_wp2_with fail
          go_loopw [] (fun wi => ∃ p2, Hid (CP e p2 ∧ wt p2 ≤ wp ∧ p2.ws.length ≤ 1000000) ∧ Sep w wi [PairAt gp p2]) (fun wi => lenOf gp wi)
          case atStart => exact ⟨p, HCW, S5⟩
          case round =>
            clear S5 HCW
            obtain ⟨p2, H2, S6⟩ := hrel
            obtain ⟨h6, A6, c6, y6⟩ := lenOf_at S6
            cases hws : p2.ws with
            | cons y ys => as_aux_lemma =>
              obtain ⟨nw, hnw⟩ : ∃ x, p2.ws.length = x := ⟨_, rfl⟩
              have h0 : 0 < nw := by rw [← hnw, hws]; exact Nat.succ_pos _
              rw [hnw] at y6 h6
              have e1 : decide ((0 : Int) < (nw : Int)) = true := decide_eq_true (by omega)
              obtain ⟨c1, c2, c3, c4⟩ := H2.out.1.take hws
              have HS := Lib.hid (step_of (gp := gp) 2 false (H2.out.1.fit H2.out.2.2) c2 S6)
              rw [show ((2 : Nat) : Int) = 2 from rfl] at HS
              have hl4 : (stepS p2 ⟨2, false, 0, []⟩).ws.length + 1 = nw := by
                have : (stepS p2 ⟨2, false, 0, []⟩).ws = ys := c4
                rw [this, ← hnw, hws]
                rfl
              have HP : Hid (CP e (stepS p2 ⟨2, false, 0, []⟩) ∧ wt (stepS p2 ⟨2, false, 0, []⟩) ≤ wp ∧ (stepS p2 ⟨2, false, 0, []⟩).ws.length ≤ 1000000) := Lib.hid ⟨c1, Nat.le_trans c3 H2.out.2.1, by have := H2.out.2.2; omega⟩
              have HL := Lib.hid (And.intro hl4 h6)
              clear S6 c1 c2 c3 c4 hl4 hws H2 h6 hnw
              go_wp2_with fail
              refine HS.out.mono ?_
              rintro en w7 ⟨rfl, S7⟩
              clear HS y6 e1
              go_wp2_with fail
              go_roundw
              case measure =>
                obtain ⟨g1, g2⟩ := HL.out
                have := (lenOf_at S7).1
                show lenOf gp w7 < lenOf gp wr
                omega
              case rel => exact ⟨stepS p2 ⟨2, false, 0, []⟩, HP, S7⟩
            | nil =>
              rw [hws] at y6
              have y6' : wr.cell? ⟨gp, 6, none⟩ = some (.slice A6 0 c6) := y6
              have hH := (H2.out.1.head hws).pot.mono (show 600 + 120 * (wt p2 / 256) ≤ 600 + 120 * (wp / 256) by have := H2.out.2.1; omega)
              have HH : Hid (Head e p2 (fun _ => 0) (600 + 120 * (wp / 256)) 0 0) := Lib.hid ⟨H2.out.1, hws, fun _ => Nat.zero_le _, hH, Nat.le_refl _⟩
              clear h6 y6 H2 hH hws
              obtain ⟨wm, hwm⟩ : ∃ W, wr.alloc (.map #[] 0) = W := ⟨_, rfl⟩
              have S7 := S6.mapMade
              obtain ⟨gm, hgm⟩ : ∃ x, wr.heap.size = x := ⟨_, rfl⟩
              rw [hwm, hgm] at S7
              replace S7 : Sep w wm [PairAt gp p2, mapA gm 0 (fun _ => 0)] := S7.perm (List.Perm.swap _ _ _)
              have hmm : ∀ t, (Instr.makeMap t none).run Try.prog wr = .ok (.map (some gm)) wm := fun t => by rw [← hwm, ← hgm]; rfl
              clear S6 hwm hgm
              obtain ⟨q, hq⟩ : ∃ q, wp / 256 = q := ⟨_, rfl⟩
              rw [hq] at HH
              have t0 : (wp : Int).tdiv 256 = (q : Int) := by rw [← hq]; exact (Int.natCast_ediv wp 256).symm ▸ Int.tdiv_eq_ediv_of_nonneg (by omega)
              have t1 : wrap64 (120 * (q : Int)) = 120 * (q : Int) := IntWalk.wrap64_in _ (by omega)
              have t3 : wrap64 (q : Int) = (q : Int) := IntWalk.wrap64_in _ (by omega)
              obtain ⟨T, hT⟩ : ∃ T, 600 + 120 * q = T := ⟨_, rfl⟩
              rw [hT] at HH
              have t2 : wrap64 (600 + 120 * (q : Int)) = (T : Int) := by rw [IntWalk.wrap64_in _ (by omega)]; omega
              have hTb : T ≤ 200000 := by omega
              clear hq hT
              go_wp2_with fail
              rw [t2]
              clear hmm y6' t0 t1 t2 t3 hwb
              go_loopw [13, 16, 17, 18] (fun p13 p16 _ _ wr => ∃ (t c : Nat) (p : PS) (r : Rws), t ≤ T ∧ p13 = .int .i64 (c : Int) ∧ p16 = .int .i64 (t : Int) ∧ Hid (Head e p r (T - t) c t) ∧ Sep w wr [PairAt gp p, mapA gm c r]) (fun _ p16 _ _ _ => T - (intOf p16).toNat)
              case atStart => exact ⟨0, 0, p2, fun _ => 0, Nat.zero_le _, rfl, rfl, HH, S7⟩
              case round =>
                clear S7 HH
                obtain ⟨t, cn, p3, r, ht, rfl, rfl, H3, S8⟩ := hrel
                by_cases htT : t < T
                · as_aux_lemma =>
                  have htT' : (t : Int) < (T : Int) := by omega
                  go_wp2_with fail
                  clear htT'
                  go_loopw [17] (fun p17 wi => ∃ k : Nat, k ≤ 2 ∧ p17 = .int .i64 (k : Int) ∧ Sep w wi [PairAt gp (tk p3 k), mapA gm cn r]) (fun p17 _ => 2 - (intOf p17).toNat)
                  case atStart => exact ⟨0, by decide, rfl, S8⟩
                  case round =>
                    clear S8
                    obtain ⟨k, hk2, rfl, S9⟩ := hrel
                    obtain rfl | rfl | rfl : k = 0 ∨ k = 1 ∨ k = 2 := by omega
                    · as_aux_lemma =>
                      have hc := H3.out.cp
                      have hw0 := H3.out.ws
                      have HS := Lib.hid (step_of (gp := gp) (p := tk p3 0) 1 false (hc.fit (by rw [hw0]; decide)) (hc.inv.step _).2 S9)
                      rw [show ((1 : Nat) : Int) = 1 from rfl] at HS
                      clear hc hw0 S9
                      go_wp2_with fail
                      refine HS.out.mono ?_
                      rintro en w7 ⟨rfl, S10⟩
                      clear HS
                      go_wp2_with fail
                      go_roundw
                      case measure => simp [intOf]
                      case rel => exact ⟨0 + 1, by decide, by go_num, S10⟩
                    · as_aux_lemma =>
                      have hc := H3.out.cp
                      have hw0 := H3.out.ws
                      have HS := Lib.hid (step_of (gp := gp) (p := tk p3 1) 1 true ((hc.tick false).fit (by have h := (H3.out.mid (ldOf ls)).2; rw [step_K, step_K] at h; have h2 : (tickPS p3 false).ws.length ≤ (tickPS (tickPS p3 false) true).ws.length := (by show _ ≤ ((tickPS p3 false).ws ++ _).length; rw [List.length_append]; omega); rw [step_K]; omega)) ((hc.tick false).inv.step _).2 S9)
                      rw [show ((1 : Nat) : Int) = 1 from rfl] at HS
                      clear hc hw0 S9
                      go_wp2_with fail
                      refine HS.out.mono ?_
                      rintro en w7 ⟨rfl, S10⟩
                      clear HS
                      go_wp2_with fail
                      go_roundw
                      case measure => simp [intOf]
                      case rel => exact ⟨1 + 1, by decide, by go_num, S10⟩
                    · clear hk2
                      rw [show ((2 : Nat) : Int) = 2 from rfl]
                      have S9' : Sep w wr [PairAt gp (stepS (stepS p3 (xK false)) (xK true)), mapA gm cn r] := S9
                      obtain ⟨hM, hl4⟩ := H3.out.mid (ldOf ls)
                      obtain ⟨lT, hlT⟩ : ∃ x, turnL (ldOf ls) p3.l r cn = x := ⟨_, rfl⟩
                      obtain ⟨rT, hrT⟩ : ∃ x, turnR (ldOf ls) p3.l r cn = x := ⟨_, rfl⟩
                      obtain ⟨nT, hnT⟩ : ∃ x, cn + (told2 p3.l).length = x := ⟨_, rfl⟩
                      rw [hlT, hrT, hnT] at hM
                      generalize stepS (stepS p3 (xK false)) (xK true) = p5 at S9' hM hl4
                      have hnb : nT ≤ 1000000000 := by
                        have h1 := told_len H3.out.cp.inv.l
                        have h2 := H3.out.n
                        have h3 : t * 4000 ≤ 200000 * 4000 := Nat.mul_le_mul_right _ (by omega)
                        omega
                      have HT := Lib.hid (And.intro hlT (And.intro hrT hnT))
                      have HM : Hid (Mid e (ldOf ls) p5 r cn lT rT nT p3 ∧ p5.ws.length ≤ 4000) := Lib.hid ⟨hM, hl4⟩
                      clear S9 hM hl4 hlT hrT hnT
                      go_wp2_with fail
                      go_loopw [13, 18] (fun p13 _ wi => ∃ (c2 : Nat) (p4 : PS) (r2 : Rws), p13 = .int .i64 (c2 : Int) ∧ Hid (Mid e (ldOf ls) p4 r2 c2 lT rT nT p3 ∧ p4.ws.length ≤ 4000) ∧ Sep w wi [PairAt gp p4, mapA gm c2 r2]) (fun p13 _ _ => nT - (intOf p13).toNat)
                      case atStart => exact ⟨cn, p5, r, rfl, HM, S9'⟩
                      case round =>
                        clear S9' HM
                        obtain ⟨c2, p4, r2, rfl, H4, S10⟩ := hrel
                        obtain ⟨-, A6, c6, y6⟩ := lenOf_at S10
                        cases hws : p4.ws with
                        | nil =>
                          rw [hws] at y6
                          have y6' : wr.cell? ⟨gp, 6, none⟩ = some (.slice A6 0 c6) := y6
                          have HN : Hid (Head e p4 r2 (T - (t + 1)) c2 (t + 1)) := Lib.hid (by
                            obtain ⟨x1, x2, x3⟩ := HT.out
                            have h := H4.out.1
                            rw [← x1, ← x2, ← x3] at h
                            have h2 := Mid.head H3.out h hws
                            rw [show T - t - 1 = T - (t + 1) by omega] at h2
                            exact h2)
                          clear y6 hws H4
                          go_wp2_with fail
                          go_roundw
                          case measure => simp [intOf]; omega
                          case rel => exact ⟨t + 1, c2, p4, r2, by omega, rfl, by go_num, HN, S10⟩
                        | cons y ys => as_aux_lemma =>
                          clear y6
                          obtain ⟨xv, S⟩ := S10.openP2
                          obtain ⟨g0, g1, vw0, vw1, vr0, vr1, vy, vt⟩ := xv
                          obtain ⟨VA, vc, hv, -, -, hPR⟩ := S.pr 7 rfl
                          obtain ⟨nw, hnw⟩ : ∃ x, p4.ws.length = x := ⟨_, rfl⟩
                          have h0 : 0 < nw := by rw [← hnw, hws]; exact Nat.succ_pos _
                          rw [List.length_map, hnw] at hv
                          have hv' : vy = .slice VA nw vc := hv
                          subst hv'
                          obtain ⟨yb, yo, B, dc, rfl, -, -, -, q3, -, -, -⟩ := hPR.elem (k := 0) (p := y.2) (by rw [hws]; rfl)
                          simp only [Nat.zero_mul, Nat.add_zero] at q3
                          have hI := S.own 8 rfl
                          rw [hnw] at hI
                          obtain ⟨tb, tc, hvt, -⟩ := hI.form h0
                          have hvt' : vt = .slice (some ⟨tb, 0, none⟩) nw tc := hvt
                          subst hvt'
                          obtain ⟨kt, hkt⟩ : ∃ x : Int, (if y.1 then 1 else 0) = x := ⟨_, rfl⟩
                          obtain ⟨dl, hdl⟩ : ∃ x, y.2.d.length = x := ⟨_, rfl⟩
                          obtain ⟨oo, hoo⟩ : ∃ x, y.2.o = x := ⟨_, rfl⟩
                          obtain ⟨dt, hdt⟩ : ∃ b, decide (0 < dl) = b := ⟨_, rfl⟩
                          obtain ⟨off, hoff⟩ : ∃ x : Nat, (if dt = true then oo else 0) = x := ⟨_, rfl⟩
                          rw [hdl] at q3
                          have z0 : wr.cell? ⟨tb, 0, none⟩ = some (.int .i64 kt) := by
                            have h := own_cells hI 0 (enI y) (by rw [hws]; rfl)
                            rw [← hkt]
                            exact h
                          have hfit : Fit p4 := H4.out.1.cp.fit (by have := H4.out.2; omega)
                          have hpk := hfit.pk y (by rw [hws]; exact List.mem_cons_self)
                          have hok : okK (keyOf y) := by
                            show (if 0 < y.2.d.length then y.2.o else 0) < 18446744073709551616
                            split
                            · exact hpk.1
                            · decide
                          have hKV : KV (keyOf y) = .agg #[.int .i64 kt, .bool dt, .int .u64 (off : Int)] := by
                            have h1 : KV (keyOf y) = .agg #[.int .i64 (if y.1 then 1 else 0), .bool (decide (0 < y.2.d.length)), .int .u64 ((if 0 < y.2.d.length then y.2.o else 0 : Nat) : Int)] := rfl
                            have h2 : (if 0 < dl then oo else 0) = off := by
                              rw [← hoff, ← hdt]
                              by_cases h : 0 < dl
                              · rw [if_pos h, if_pos (decide_eq_true h)]
                              · rw [if_neg h, if_neg (by rw [decide_eq_false h]; decide)]
                            rw [h1, hkt, hdl, hdt, hoo, h2]
                          have HK := Lib.hid (And.intro hok (And.intro hKV hoff))
                          have hlt : c2 < nT := by have := H4.out.1.n; omega
                          have HW := Lib.hid (And.intro hws (And.intro hoo hlt))
                          have HF := Lib.hid hfit
                          have HLT := Lib.hid hlt
                          have hdt' : decide ((0 : Int) < (dl : Int)) = dt := by rw [← hdt]; exact decide_eq_decide.2 (by omega)
                          have hnn : decide ((0 : Int) < (nw : Int)) = true := decide_eq_true (by omega)
                          have y6 : wr.cell? ⟨gp, 6, none⟩ = some (.slice (some ⟨yb, yo, none⟩) nw vc) := (S.blk 0 rfl).at_ 6 rfl
                          have y7 : wr.cell? ⟨gp, 7, none⟩ = some (.slice (some ⟨tb, 0, none⟩) nw tc) := (S.blk 0 rfl).at_ 7 rfl
                          have hSS : wr.drew.cell? ⟨gp, 7, none⟩ = some (.slice (some ⟨tb, 0, none⟩) nw tc) ∧ wr.drew.cell? ⟨gp, 6, none⟩ = some (.slice (some ⟨yb, yo, none⟩) nw vc) ∧ wr.drew.cell? ⟨tb, 0, none⟩ = some (.int .i64 kt) ∧ wr.drew.cell? ⟨yb, yo + 3, none⟩ = some (.slice B dl dc) := ⟨y7, y6, z0, q3⟩
                          have S1 := S.drew
                          have hnw0 : (0 : Int) < (nw : Int) := by omega
                          clear S S10 hPR hI hv hvt hkt hdl hoo hoff hok hKV hpk hfit hws hnw z0 y7 q3 hlt
                          go_upto_region 29 with (fail)
                          refine plain_under (fun w => w.cell? ⟨gp, 7, none⟩ = some (.slice (some ⟨tb, 0, none⟩) nw tc) ∧ w.cell? ⟨gp, 6, none⟩ = some (.slice (some ⟨yb, yo, none⟩) nw vc) ∧ w.cell? ⟨tb, 0, none⟩ = some (.int .i64 kt) ∧ w.cell? ⟨yb, yo + 3, none⟩ = some (.slice B dl dc)) (fun j => decide (j < 17)) (by kernel_rfl) ?_
                          clear y6 hnn
                          generalize wr.drew = w7 at hSS S1 ⊢
                          obtain ⟨W8, hW8, S2⟩ := S1.boxedF 58 #[.int .i64 kt, .bool dt, .int .u64 0]
                          obtain ⟨kb, hkb⟩ : ∃ x, w7.heap.size = x := ⟨_, rfl⟩
                          rw [hkb] at S2
                          simp only [List.size_toArray, List.length_cons, List.length_nil, Nat.reduceAdd, Array.replicate_succ, Array.replicate_zero, List.push_toArray, List.nil_append, List.cons_append]
                          refine under_free (i := 0) (v := ?_) rfl (by kernel_rfl) (fun _ _ _ h => h) _ _ _ _ (by kernel_rfl) (by kernel_rfl) (Or.inl ⟨by rfl, ?_⟩) ?_
                          rotate_left
                          · intro w _
                            go_simp
                            try with_reducible rfl
                          simp only [Act.put, List.setIfInBounds_toArray, List.set_cons_zero, List.set_cons_succ, List.getElem_toArray, List.getElem_cons_zero]
                          refine under_free (i := 1) (v := ?_) rfl (by kernel_rfl) (fun _ _ _ h => h) _ _ _ _ (by kernel_rfl) (by kernel_rfl) (Or.inl ⟨by rfl, ?_⟩) ?_
                          rotate_left
                          · intro w _
                            go_simp
                            try with_reducible rfl
                          simp only [Act.put, List.setIfInBounds_toArray, List.set_cons_zero, List.set_cons_succ, List.getElem_toArray, List.getElem_cons_zero, List.getElem_cons_succ]
                          refine under_free (i := 2) (v := ?_) rfl (by kernel_rfl) (fun _ _ _ h => h) _ _ _ _ (by kernel_rfl) (by kernel_rfl) (Or.inl ⟨by rfl, ?_⟩) ?_
                          rotate_left
                          · intro w _
                            go_simp
                            try with_reducible rfl
                          simp only [Act.put, List.setIfInBounds_toArray, List.set_cons_zero, List.set_cons_succ, List.getElem_toArray, List.getElem_cons_zero, List.getElem_cons_succ]
                          refine under_take (i := 3) (v := ?_) rfl (by kernel_rfl) (by kernel_rfl) (fun _ _ _ h => h) _ _ _ _ (by kernel_rfl) (by kernel_rfl) (by kernel_rfl) (Or.inl ⟨by rfl, ?_⟩) hSS ?_
                          rotate_left
                          · intro w hSw
                            obtain ⟨q0, q1, q2, q3⟩ := hSw
                            go_simp
                            try with_reducible rfl
                          simp only [Act.put, List.setIfInBounds_toArray, List.set_cons_zero, List.set_cons_succ, List.getElem_toArray, List.getElem_cons_zero, List.getElem_cons_succ]
                          refine under_free (i := 4) (v := ?_) rfl (by kernel_rfl) (fun _ _ _ h => h) _ _ _ _ (by kernel_rfl) (by kernel_rfl) (Or.inl ⟨by rfl, ?_⟩) ?_
                          rotate_left
                          · intro w _
                            go_simp
                            try with_reducible rfl
                          simp only [Act.put, List.setIfInBounds_toArray, List.set_cons_zero, List.set_cons_succ, List.getElem_toArray, List.getElem_cons_zero, List.getElem_cons_succ]
                          refine under_take (i := 5) (v := ?_) rfl (by kernel_rfl) (by kernel_rfl) (fun _ _ _ h => h) _ _ _ _ (by kernel_rfl) (by kernel_rfl) (by kernel_rfl) (Or.inl ⟨by rfl, ?_⟩) hSS ?_
                          rotate_left
                          · intro w hSw
                            obtain ⟨q0, q1, q2, q3⟩ := hSw
                            go_simp
                            try with_reducible rfl
                          simp only [Act.put, List.setIfInBounds_toArray, List.set_cons_zero, List.set_cons_succ, List.getElem_toArray, List.getElem_cons_zero, List.getElem_cons_succ]
                          refine under_free (i := 6) (v := ?_) rfl (by kernel_rfl) (fun _ _ _ h => h) _ _ _ _ (by kernel_rfl) (by kernel_rfl) (Or.inl ⟨by rfl, ?_⟩) ?_
                          rotate_left
                          · intro w _
                            go_simp
                            try with_reducible rfl
                          simp only [Act.put, List.setIfInBounds_toArray, List.set_cons_zero, List.set_cons_succ, List.getElem_toArray, List.getElem_cons_zero, List.getElem_cons_succ]
                          refine under_free (i := 7) (v := ?_) rfl (by kernel_rfl) (fun _ _ _ h => h) _ _ _ _ (by kernel_rfl) (by kernel_rfl) (Or.inl ⟨by rfl, ?_⟩) ?_
                          rotate_left
                          · intro w _
                            go_simp
                            try with_reducible rfl
                          simp only [Act.put, List.setIfInBounds_toArray, List.set_cons_zero, List.set_cons_succ, List.getElem_toArray, List.getElem_cons_zero, List.getElem_cons_succ]
                          refine under_free (i := 8) (v := ?_) rfl (by kernel_rfl) (fun _ _ _ h => h) _ _ _ _ (by kernel_rfl) (by kernel_rfl) (Or.inl ⟨by rfl, ?_⟩) ?_
                          rotate_left
                          · intro w _
                            go_simp
                            try with_reducible rfl
                          simp only [Act.put, List.setIfInBounds_toArray, List.set_cons_zero, List.set_cons_succ, List.getElem_toArray, List.getElem_cons_zero, List.getElem_cons_succ]
                          refine under_take (i := 9) (v := ?_) rfl (by kernel_rfl) (by kernel_rfl) (fun _ _ _ h => h) _ _ _ _ (by kernel_rfl) (by kernel_rfl) (by kernel_rfl) (Or.inl ⟨by rfl, ?_⟩) hSS ?_
                          rotate_left
                          · intro w hSw
                            obtain ⟨q0, q1, q2, q3⟩ := hSw
                            go_simp
                            try with_reducible rfl
                          simp only [Act.put, List.setIfInBounds_toArray, List.set_cons_zero, List.set_cons_succ, List.getElem_toArray, List.getElem_cons_zero, List.getElem_cons_succ]
                          refine under_free (i := 10) (v := ?_) rfl (by kernel_rfl) (fun _ _ _ h => h) _ _ _ _ (by kernel_rfl) (by kernel_rfl) (Or.inl ⟨by rfl, ?_⟩) ?_
                          rotate_left
                          · intro w _
                            go_simp
                            try with_reducible rfl
                          simp only [Act.put, List.setIfInBounds_toArray, List.set_cons_zero, List.set_cons_succ, List.getElem_toArray, List.getElem_cons_zero, List.getElem_cons_succ]
                          refine under_free (i := 11) (v := ?_) rfl (by kernel_rfl) (fun _ _ _ h => h) _ _ _ _ (by kernel_rfl) (by kernel_rfl) (Or.inl ⟨by rfl, ?_⟩) ?_
                          rotate_left
                          · intro w _
                            go_simp
                            try with_reducible rfl
                          simp only [Act.put, List.setIfInBounds_toArray, List.set_cons_zero, List.set_cons_succ, List.getElem_toArray, List.getElem_cons_zero, List.getElem_cons_succ]
                          refine under_take (i := 12) (v := ?_) rfl (by kernel_rfl) (by kernel_rfl) (fun _ _ _ h => h) _ _ _ _ (by kernel_rfl) (by kernel_rfl) (by kernel_rfl) (Or.inl ⟨by rfl, ?_⟩) hSS ?_
                          rotate_left
                          · intro w hSw
                            obtain ⟨q0, q1, q2, q3⟩ := hSw
                            go_simp
                            try with_reducible rfl
                          simp only [Act.put, List.setIfInBounds_toArray, List.set_cons_zero, List.set_cons_succ, List.getElem_toArray, List.getElem_cons_zero, List.getElem_cons_succ]
                          refine under_free (i := 13) (v := ?_) rfl (by kernel_rfl) (fun _ _ _ h => h) _ _ _ _ (by kernel_rfl) (by kernel_rfl) (Or.inl ⟨by rfl, ?_⟩) ?_
                          rotate_left
                          · intro w _
                            go_simp
                            try with_reducible rfl
                          simp only [Act.put, List.setIfInBounds_toArray, List.set_cons_zero, List.set_cons_succ, List.getElem_toArray, List.getElem_cons_zero, List.getElem_cons_succ]
                          refine under_free (i := 14) (v := ?_) rfl (by kernel_rfl) (fun _ _ _ h => h) _ _ _ _ (by kernel_rfl) (by kernel_rfl) (Or.inl ⟨by rfl, ?_⟩) ?_
                          rotate_left
                          · intro w _
                            go_simp
                            try with_reducible rfl
                          simp only [Act.put, List.setIfInBounds_toArray, List.set_cons_zero, List.set_cons_succ, List.getElem_toArray, List.getElem_cons_zero, List.getElem_cons_succ]
                          refine under_free (i := 15) (v := ?_) rfl (by kernel_rfl) (fun _ _ _ h => h) _ _ _ _ (by kernel_rfl) (by kernel_rfl) (Or.inl ⟨by rfl, ?_⟩) ?_
                          rotate_left
                          · intro w _
                            go_simp
                            try with_reducible rfl
                          simp only [Act.put, List.setIfInBounds_toArray, List.set_cons_zero, List.set_cons_succ, List.getElem_toArray, List.getElem_cons_zero, List.getElem_cons_succ]
                          refine under_one (i := 16) (by kernel_rfl) rfl ?_
                          intro K hK
                          go_simp
                          have hS8 : (w7.alloc (.cells #[.int .i64 0, .bool false, .int .u64 0] 58)).cell? ⟨gp, 7, none⟩ = some (.slice (some ⟨tb, 0, none⟩) nw tc) ∧ (w7.alloc (.cells #[.int .i64 0, .bool false, .int .u64 0] 58)).cell? ⟨gp, 6, none⟩ = some (.slice (some ⟨yb, yo, none⟩) nw vc) ∧ (w7.alloc (.cells #[.int .i64 0, .bool false, .int .u64 0] 58)).cell? ⟨tb, 0, none⟩ = some (.int .i64 kt) ∧ (w7.alloc (.cells #[.int .i64 0, .bool false, .int .u64 0] 58)).cell? ⟨yb, yo + 3, none⟩ = some (.slice B dl dc) := ⟨(World.cell?_alloc_lt _ _ _ (cell_lt hSS.1)).trans hSS.1, (World.cell?_alloc_lt _ _ _ (cell_lt hSS.2.1)).trans hSS.2.1, (World.cell?_alloc_lt _ _ _ (cell_lt hSS.2.2.1)).trans hSS.2.2.1, (World.cell?_alloc_lt _ _ _ (cell_lt hSS.2.2.2)).trans hSS.2.2.2⟩
                          refine hK _ _ (fun _ => hS8) ?_
                          clear hK K hS8
                          simp only [List.setIfInBounds_toArray, List.set_cons_zero, List.set_cons_succ]
                          refine under_one (i := 17) (by kernel_rfl) rfl ?_
                          intro K hK
                          refine step_store_row rfl 58 (.tmp 18) (.tmp 109) rfl kb #[.int .i64 kt, .bool dt, .int .u64 0] rfl rfl 58 #[.int .i64 0, .bool false, .int .u64 0] (by rw [← hkb]; exact Blk.new _ _ _) size58 rfl (key_one _ _ _) ?_
                          rw [← hkb, World.setRow_alloc_new, hW8, hkb]
                          refine hK _ _ (fun h => by cases h) ?_
                          clear hK K
                          refine under_done (by kernel_rfl) ?_ _
                          have x1 : W8.cell? ⟨kb, 1, none⟩ = some (.bool dt) := (S2.blk 0 rfl).at_ 1 rfl
                          clear hSS S1 hW8 hkb hdt hdt' h0 hnw0
                          go_upto_if 111 with (fail)
                          go_cut [] (fun wx => Sep w wx [cell kb 58 #[.int .i64 kt, .bool dt, .int .u64 (off : Int)], PairAt gp p4, mapA gm c2 r2])
                          case first =>
                            have hoff := HK.out.2.2
                            cases dt with
                            | true =>
                              rw [if_pos rfl] at hoff
                              have y6 : W8.cell? ⟨gp, 6, none⟩ = some (.slice (some ⟨yb, yo, none⟩) nw vc) := (S2.blk 1 rfl).at_ 6 rfl
                              obtain ⟨VA2, vc2, hv2, -, -, hPR2⟩ := S2.pr 8 rfl
                              injection hv2 with e1 e2 e3
                              subst e1
                              obtain ⟨yb2, yo2, B2, d2, hA2, -, q1, -⟩ := hPR2.elem (k := 0) (p := y.2) (by rw [HW.out.1]; rfl)
                              injection hA2 with hA2
                              injection hA2 with e4 e5
                              subst e4 e5
                              simp only [Nat.zero_mul, Nat.add_zero] at q1
                              rw [HW.out.2.1] at q1
                              have x2 : W8.cell? ⟨kb, 2, none⟩ = some (.int .u64 0) := (S2.blk 0 rfl).at_ 2 rfl
                              have z2 := (S2.blk 0 rfl).frozen 2
                              have h0 : 0 < nw := by rw [e2, List.length_map, HW.out.1]; exact Nat.succ_pos _
                              have hn0 : (0 : Int) < (nw : Int) := by omega
                              have S3 := Lib.hid (S2.put 0 rfl 2 (.int .u64 (oo : Int)))
                              have Hf := Lib.hid hoff
                              clear S2 hPR2 e2 e3 hoff
                              go_wp2_with fail
                              go_meet
                              rw [← Hf.out]
                              have h := S3.out.ix 11 [1, 2, 3, 4, 5, 6, 7, 8, 9, 0, 10] [] (by decide)
                              exact (Sep.closeP2 (p := p4) ⟨g0, g1, vw0, vw1, vr0, vr1, .slice (some ⟨yb, yo, none⟩) nw vc, .slice (some ⟨tb, 0, none⟩) nw tc⟩ h).perm (List.Perm.swap _ _ _)
                            | false =>
                              rw [if_neg (by decide)] at hoff
                              have S3 := Lib.hid S2
                              have Hf := Lib.hid hoff
                              clear S2 hoff
                              go_wp2_with fail
                              go_meet
                              rw [← Hf.out]
                              have h := S3.out.ix 11 [1, 2, 3, 4, 5, 6, 7, 8, 9, 0, 10] [] (by decide)
                              exact (Sep.closeP2 (p := p4) ⟨g0, g1, vw0, vw1, vr0, vr1, .slice (some ⟨yb, yo, none⟩) nw vc, .slice (some ⟨tb, 0, none⟩) nw tc⟩ h).perm (List.Perm.swap _ _ _)
                          case rest =>
                            clear S2 x1
                            have S3 := hcut
                            clear hcut
                            have T3 := S3.tmap 2 rfl
                            obtain ⟨rk, hrk⟩ : ∃ x, r2 (keyOf y) = x := ⟨_, rfl⟩
                            have hlk : (Instr.lookup 56 (.map (some gm)) (.agg #[.int .i64 kt, .bool dt, .int .u64 (off : Int)]) false).run Try.prog wc = .ok (.int .i64 (rk : Int)) wc := by
                              have h := T3.look (keyOf y) HK.out.1
                              rw [HK.out.2.1, hrk] at h
                              exact h
                            have x0 : wc.cell? ⟨kb, 0, none⟩ = some (.int .i64 kt) := (S3.blk 0 rfl).at_ 0 rfl
                            have x1 : wc.cell? ⟨kb, 1, none⟩ = some (.bool dt) := (S3.blk 0 rfl).at_ 1 rfl
                            have x2 : wc.cell? ⟨kb, 2, none⟩ = some (.int .u64 (off : Int)) := (S3.blk 0 rfl).at_ 2 rfl
                            have hc2 : (c2 : Int) ≤ 1000000000 := by have := HLT.out; omega
                            have i1 : IntKind.i64.wrap ((c2 : Int) + 1) = ((c2 + 1 : Nat) : Int) := by rw [IntWalk.i64_in _ (by omega)]; omega
                            have i2 : wrap64 ((c2 : Int) + 1) = ((c2 + 1 : Nat) : Int) := by rw [IntWalk.wrap64_in _ (by omega)]; omega
                            go_upto_region 33 with (fail)
                            go_cut [141] (fun v wx => v = .bool (decide (ldOf ls (c2 + 1) = true ∧ r2 (keyOf y) < 3)) ∧ wx = wc)
                            case first =>
                              have hrk3 : r2 (keyOf y) < 3 ↔ rk < 3 := by rw [hrk]
                              rcases Nat.eq_zero_or_pos ln with hl0 | hl0
                              · have e1 : decide ((0 : Int) < (ln : Int)) = false := decide_eq_false (by omega)
                                have hld : ldOf ls (c2 + 1) = false := by unfold ldOf; exact decide_eq_false (fun h => by have := h.1; rw [HLN.out] at this; omega)
                                subst hl0
                                go_wp2_with fail
                                go_meet
                                exact ⟨by rw [hld, decide_eq_false (by intro h; cases h.1)], rfl⟩
                              · have e1 : decide ((0 : Int) < (ln : Int)) = true := decide_eq_true (by omega)
                                have e0 : (0 : Int) < (ln : Int) := by omega
                                have n0 : (ln : Int) ≠ 0 := by omega
                                have n1 : ((ln : Int) == 0) = false := by simp; omega
                                obtain ⟨j, hj⟩ : ∃ j, (c2 + 1) % ln = j := ⟨_, rfl⟩
                                have hjl : j < ln := by rw [← hj]; exact Nat.mod_lt _ hl0
                                have t1 : ((c2 + 1 : Nat) : Int).tmod (ln : Int) = (j : Int) := by rw [← hj]; rfl
                                have t2 : ((c2 : Int) + 1).tmod (ln : Int) = (j : Int) := by rw [← t1, Int.natCast_add]; rfl
                                obtain ⟨lb, lo, hLA, hjx, hcj⟩ : ∃ b o, LA = some ⟨b, o, none⟩ ∧ ∃ h : j < ls.length, wc.cell? ⟨b, o + j, none⟩ = some (.int .u8 (ls[j] : Int)) := by
                                  have hR := HLS.out.1.below S3.below
                                  obtain ⟨b, o, h1, -, h2, h3⟩ := Reads.byte (l := ls) hR.2 (k := j) (by rw [HLN.out]; exact hjl)
                                  exact ⟨b, o, h1, h2, h3⟩
                                subst hLA
                                obtain ⟨x, hx⟩ : ∃ x, ls[j] = x := ⟨_, rfl⟩
                                rw [hx] at hcj
                                have hld : ldOf ls (c2 + 1) = decide (x % 2 = 1) := by
                                  unfold ldOf
                                  rw [HLN.out, hj, List.getD_eq_getElem?_getD, List.getElem?_eq_getElem hjx, hx]
                                  exact decide_eq_decide.2 ⟨fun h => h.2, fun h => ⟨hl0, h⟩⟩
                                have s4 : (0 : Int) ≤ (j : Int) := by omega
                                have s5 : (j : Int) < (ln : Int) := by omega
                                clear hj hjx hx
                                by_cases hb : x % 2 = 1
                                · have b1 : ((x : Int) % 2 == 1) = true := by simp; omega
                                  by_cases hr : rk < 3
                                  · have b2 : decide ((rk : Int) < 3) = true := decide_eq_true (by omega)
                                    go_wp2_with fail
                                    go_meet
                                    exact ⟨by rw [hld, decide_eq_true hb, decide_eq_true ⟨rfl, hrk3.2 hr⟩], rfl⟩
                                  · have b2 : decide ((rk : Int) < 3) = false := decide_eq_false (by omega)
                                    go_wp2_with fail
                                    go_meet
                                    exact ⟨by rw [decide_eq_false (fun h => hr (hrk3.1 h.2))], rfl⟩
                                · have b1 : ((x : Int) % 2 == 1) = false := by simp; omega
                                  go_wp2_with fail
                                  go_meet
                                  exact ⟨by rw [hld, decide_eq_false hb, decide_eq_false (by intro h; cases h.1)], rfl⟩
                            case rest =>
                              obtain ⟨rfl, rfl⟩ := hcut
                              clear i1 i2
                              by_cases hc : ldOf ls (c2 + 1) = true ∧ r2 (keyOf y) < 3
                              · as_aux_lemma =>
                                rw [decide_eq_true hc]
                                have hr : rk < 3 := by rw [← hrk]; exact hc.2
                                have hr1 : ((rk + 1 : Nat) : Int) = (rk : Int) + 1 := by omega
                                obtain ⟨v0, st, w1, w2, h1, h3, hT2, hg2, hT1, hg1⟩ := ((S3.drew).tmap 2 rfl).entry (by unfold maxLen; omega) (keyOf y) HK.out.1 (rk + 1) (by omega)
                                rw [HK.out.2.1] at h1
                                rw [hr1] at h3
                                have hSS : wc.drew.cell? ⟨kb, 0, none⟩ = some (.int .i64 kt) ∧ wc.drew.cell? ⟨kb, 1, none⟩ = some (.bool dt) ∧ wc.drew.cell? ⟨kb, 2, none⟩ = some (.int .u64 (off : Int)) ∧ (Instr.lookup 56 (.map (some gm)) (.agg #[.int .i64 kt, .bool dt, .int .u64 (off : Int)]) false).run Try.prog wc.drew = .ok (.int .i64 (rk : Int)) wc.drew := ⟨x0, x1, x2, by
                                  have h := (S3.drew.tmap 2 rfl).look (keyOf y) HK.out.1
                                  rw [HK.out.2.1, hrk] at h
                                  exact h⟩
                                have S4 : Sep w w2 [cell kb 58 #[.int .i64 kt, .bool dt, .int .u64 (off : Int)], PairAt gp p4, mapA gm (c2 + 1) (setR r2 (keyOf y) (rk + 1))] := S3.drew.mapPut 2 rfl hT2 hg2
                                replace S4 := S4.tail
                                have S31 : Sep w w1 [cell kb 58 #[.int .i64 kt, .bool dt, .int .u64 (off : Int)], PairAt gp p4, mapA gm (c2 + 1) r2] := S3.drew.mapPut 2 rfl hT1 hg1
                                have hS8 : w1.cell? ⟨kb, 0, none⟩ = some (.int .i64 kt) ∧ w1.cell? ⟨kb, 1, none⟩ = some (.bool dt) ∧ w1.cell? ⟨kb, 2, none⟩ = some (.int .u64 (off : Int)) ∧ (Instr.lookup 56 (.map (some gm)) (.agg #[.int .i64 kt, .bool dt, .int .u64 (off : Int)]) false).run Try.prog w1 = .ok (.int .i64 (rk : Int)) w1 := ⟨(S31.blk 0 rfl).at_ 0 rfl, (S31.blk 0 rfl).at_ 1 rfl, (S31.blk 0 rfl).at_ 2 rfl, by
                                  have h := hT1.look (keyOf y) HK.out.1
                                  rw [HK.out.2.1, hrk] at h
                                  exact h⟩
                                have hw := HW.out.1
                                have HS := Lib.hid (step_of (gp := gp) 3 false HF.out (H4.out.1.cp.inv.step _).2 S4)
                                rw [show ((3 : Nat) : Int) = 3 from rfl] at HS
                                have hM := H4.out.1.lose hw hc
                                rw [hrk] at hM
                                have HM2 : Hid (Mid e (ldOf ls) (stepS p4 ⟨3, false, 0, []⟩) (setR r2 (keyOf y) (rk + 1)) (c2 + 1) lT rT nT p3 ∧ (stepS p4 ⟨3, false, 0, []⟩).ws.length ≤ 4000) := Lib.hid ⟨hM, by
                                  have h := H4.out.2
                                  rw [hw, List.length_cons] at h
                                  have h5 : (stepS p4 ⟨3, false, 0, []⟩).ws = ys := (H4.out.1.cp.lose hw).2
                                  rw [h5]
                                  omega⟩
                                have hr3 : (rk : Int) < 3 := by omega
                                have hr0 : (0 : Int) ≤ (rk : Int) := by omega
                                have i3 : IntKind.i64.wrap ((rk : Int) + 1) = (rk : Int) + 1 := IntWalk.i64_in _ (by omega)
                                have i4 : wrap64 ((rk : Int) + 1) = (rk : Int) + 1 := IntWalk.wrap64_in _ (by omega)
                                clear hw hM hT2 hg2 S4 T3 hlk x0 x1 x2 S3 hr1 hc hrk hr S31 hT1 hg1
                                go_upto_region 34 with (fail)
                                refine plain_under (fun w => w.cell? ⟨kb, 0, none⟩ = some (.int .i64 kt) ∧ w.cell? ⟨kb, 1, none⟩ = some (.bool dt) ∧ w.cell? ⟨kb, 2, none⟩ = some (.int .u64 (off : Int)) ∧ (Instr.lookup 56 (.map (some gm)) (.agg #[.int .i64 kt, .bool dt, .int .u64 (off : Int)]) false).run Try.prog w = .ok (.int .i64 (rk : Int)) w) (fun j => decide (j < 6)) (by kernel_rfl) ?_
                                generalize wc.drew = w7 at hSS h1 ⊢
                                simp only [List.size_toArray, List.length_cons, List.length_nil, Nat.reduceAdd, Array.replicate_succ, Array.replicate_zero, List.push_toArray, List.nil_append, List.cons_append]
                                refine under_free (i := 0) (v := ?_) rfl (by kernel_rfl) (fun _ _ _ h => h) _ _ _ _ (by kernel_rfl) (by kernel_rfl) (Or.inl ⟨by rfl, ?_⟩) ?_
                                rotate_left
                                · intro w _
                                  go_simp
                                  try with_reducible rfl
                                simp only [Act.put, List.setIfInBounds_toArray, List.set_cons_zero, List.set_cons_succ, List.getElem_toArray, List.getElem_cons_zero]
                                refine under_take (i := 1) (v := ?_) rfl (by kernel_rfl) (by kernel_rfl) (fun _ _ _ h => h) _ _ _ _ (by kernel_rfl) (by kernel_rfl) (by kernel_rfl) (Or.inl ⟨by rfl, ?_⟩) hSS ?_
                                rotate_left
                                · intro w hSw
                                  obtain ⟨q0, q1, q2, q3⟩ := hSw
                                  go_simp
                                  try with_reducible rfl
                                simp only [Act.put, List.setIfInBounds_toArray, List.set_cons_zero, List.set_cons_succ, List.getElem_toArray, List.getElem_cons_zero, List.getElem_cons_succ]
                                refine under_take (i := 2) (v := ?_) rfl (by kernel_rfl) (by kernel_rfl) (fun _ _ _ h => h) _ _ _ _ (by kernel_rfl) (by kernel_rfl) (by kernel_rfl) (Or.inl ⟨by rfl, ?_⟩) hSS ?_
                                rotate_left
                                · intro w hSw
                                  obtain ⟨q0, q1, q2, q3⟩ := hSw
                                  go_simp
                                  try with_reducible rfl
                                simp only [Act.put, List.setIfInBounds_toArray, List.set_cons_zero, List.set_cons_succ, List.getElem_toArray, List.getElem_cons_zero, List.getElem_cons_succ]
                                refine under_free (i := 3) (v := ?_) rfl (by kernel_rfl) (fun _ _ _ h => h) _ _ _ _ (by kernel_rfl) (by kernel_rfl) (Or.inl ⟨by rfl, ?_⟩) ?_
                                rotate_left
                                · intro w _
                                  go_simp
                                  try with_reducible rfl
                                simp only [Act.put, List.setIfInBounds_toArray, List.set_cons_zero, List.set_cons_succ, List.getElem_toArray, List.getElem_cons_zero, List.getElem_cons_succ]
                                refine under_one (i := 4) (by kernel_rfl) rfl ?_
                                intro K hK
                                go_simp
                                refine hK _ _ (fun _ => hS8) ?_
                                clear hK K
                                simp only [List.setIfInBounds_toArray, List.set_cons_zero, List.set_cons_succ]
                                refine under_free (i := 5) (v := ?_) rfl (by kernel_rfl) (fun _ _ _ h => h) _ _ _ _ (by kernel_rfl) (by kernel_rfl) (Or.inl ⟨by rfl, ?_⟩) ?_
                                rotate_left
                                · intro w _
                                  go_simp
                                  try with_reducible rfl
                                simp only [Act.put, List.setIfInBounds_toArray, List.set_cons_zero, List.set_cons_succ, List.getElem_toArray, List.getElem_cons_zero, List.getElem_cons_succ]
                                refine under_one (i := 6) (by kernel_rfl) rfl ?_
                                intro K hK
                                go_simp
                                refine hK _ _ (fun h => by cases h) ?_
                                clear hK K
                                refine under_done (by kernel_rfl) ?_ _
                                clear hSS hS8 h1 h3 i3 i4
                                go_wp2_with fail
                                refine HS.out.mono ?_
                                rintro en w9 ⟨rfl, S5⟩
                                clear HS
                                go_wp2_with fail
                                go_roundw
                                case measure =>
                                  have := HLT.out
                                  simp only [intOf]
                                  omega
                                case rel => exact ⟨c2 + 1, _, _, by go_num, HM2, S5⟩
                              · as_aux_lemma =>
                                rw [decide_eq_false hc]
                                obtain ⟨w2, hup, hT2, hg2⟩ := T3.put (by unfold maxLen; omega) (keyOf y) HK.out.1 0 (by omega)
                                rw [HK.out.2.1, show ((0 : Nat) : Int) = 0 from rfl] at hup
                                have S4 : Sep w w2 [cell kb 58 #[.int .i64 kt, .bool dt, .int .u64 (off : Int)], PairAt gp p4, mapA gm (c2 + 1) (setR r2 (keyOf y) 0)] := S3.mapPut 2 rfl hT2 hg2
                                replace S4 := S4.tail
                                have hw := HW.out.1
                                have HS := Lib.hid (step_of (gp := gp) 2 false HF.out (H4.out.1.cp.inv.step _).2 S4)
                                rw [show ((2 : Nat) : Int) = 2 from rfl] at HS
                                have HM2 : Hid (Mid e (ldOf ls) (stepS p4 ⟨2, false, 0, []⟩) (setR r2 (keyOf y) 0) (c2 + 1) lT rT nT p3 ∧ (stepS p4 ⟨2, false, 0, []⟩).ws.length ≤ 4000) := Lib.hid ⟨H4.out.1.take hw hc, by
                                  have h := H4.out.2
                                  rw [hw, List.length_cons] at h
                                  have h5 : (stepS p4 ⟨2, false, 0, []⟩).ws = ys := (H4.out.1.cp.take hw).2.2.2
                                  rw [h5]
                                  omega⟩
                                clear hw hT2 hg2 S4 T3 hlk S3 hc hrk
                                go_wp2_with fail
                                refine HS.out.mono ?_
                                rintro en w9 ⟨rfl, S5⟩
                                clear HS hup x0 x1 x2
                                go_wp2_with fail
                                go_roundw
                                case measure =>
                                  have := HLT.out
                                  simp only [intOf]
                                  omega
                                case rel => exact ⟨c2 + 1, _, _, by go_num, HM2, S5⟩
                · as_aux_lemma =>
                  have htT' : ¬ (t : Int) < (T : Int) := by omega
                  have HD : Hid (∀ s, (p3.l s).wait = [] ∧ (p3.l s).owes = false ∧ tickP (p3.l s) = [] ∧ p3.rd s ++ (p3.l s).got = p3.wr (!s)) := Lib.hid fun s => H3.out.cp.ti.done (H3.out.pot.mono (by omega)) s
                  have HC3 : Hid (CP e p3) := Lib.hid H3.out.cp
                  have S9 := S8.drop 1
                  have HQ : Hid (FQ p3 p3 0) := Lib.hid ⟨fun _ _ => ⟨rfl, rfl⟩, fun _ => rfl⟩
                  clear S8 H3
                  go_wp2_with fail
                  clear htT htT' hTb ht HLN HLS
                  go_loopw [19] (fun p19 wi => ∃ (k : Nat) (p : PS), k ≤ 2 ∧ p19 = .int .i64 (k : Int) ∧ Hid (FQ p p3 k) ∧ Sep w wi [PairAt gp p]) (fun p19 _ => 2 - (intOf p19).toNat)
                  case atStart => exact ⟨0, p3, by decide, rfl, HQ, S9⟩
                  case round =>
                    clear S9 HQ
                    obtain ⟨k, p, hk2, rfl, HQ, S5⟩ := hrel
                    obtain rfl | rfl | rfl : k = 0 ∨ k = 1 ∨ k = 2 := by omega
                    · as_aux_lemma =>
                      obtain ⟨xv, S⟩ := S5.openP2
                      obtain ⟨g0, g1, vw0, vw1, vr0, vr1, vy, vt⟩ := xv
                      obtain ⟨hq1, hq2⟩ := HQ.out
                      obtain ⟨hl, hrd⟩ := hq1 false (by decide)
                      obtain ⟨D1, D2, D3, D4⟩ := HD.out false
                      have hci := HC3.out.inv.c false
                      have hli := HC3.out.inv.l false
                      obtain ⟨gl, hgl⟩ : ∃ x, (p.l false).got.length = x := ⟨_, rfl⟩
                      have hgb : (p.l false).got.length ≤ 1048576 := by rw [hl]; exact hci.gl
                      have hgb2 : gl ≤ 1048576 := by rw [← hgl]; exact hgb
                      have hrB : readB (p.l false) (gl : Int) = (p.l false).got := by
                        unfold readB readN
                        rw [hgl]
                        exact List.take_of_length_le (by rw [hgl]; omega)
                      obtain ⟨LR, hLR⟩ : ∃ x, readL (p.l false) (gl : Int) = x := ⟨_, rfl⟩
                      have hLI : LInv e LR (p3.wr false) := by
                        rw [← hLR, hl]
                        exact ⟨hli.ep, hli.lo, hli.sm, hli.mw, hli.win, hli.wait, hli.wl, hli.tk⟩
                      have hLw : LR.wait = [] ∧ LR.owes = false := by
                        rw [← hLR, hl]
                        exact ⟨D1, D2⟩
                      have hwb := HC3.out.wr
                      have hInv : Inv LR := ⟨hLI.lo, by have := hLI.wlen; have := hLI.sm; have := hLI.mw; omega, hLI.wl, by have := hLI.lo; have := hLI.sm; have := hLI.mw; have := hwb false; omega, by have := hLI.mw; have := hwb false; omega, hLI.win⟩
                      have hTk : LR.ticks ≤ 1000 := by have := hLI.tk; omega
                      have htp : tickP LR = [] := by
                        rw [tells_still hLI (by rw [hLw.1]; rfl), hLw.2]
                        rfl
                      have hidle : (LR.wait.length == 0 && !LR.owes) = true := by rw [hLw.1, hLw.2]; rfl
                      have hcont : p.rd false ++ readB (p.l false) (gl : Int) = p.wr true := by
                        rw [hrB, hl, hrd, hq2]
                        exact D4
                      obtain ⟨RA, rc, hvr, -⟩ := own_slice (S.own 5 rfl)
                      obtain ⟨rn, hrn⟩ : ∃ x, (p.rd false).length = x := ⟨_, rfl⟩
                      rw [hrn] at hvr
                      have hrnb : rn ≤ 1000000 := by
                        have h1 := congrArg List.length hcont
                        rw [List.length_append, hrn, hq2] at h1
                        have := hwb true
                        omega
                      subst hvr
                      have hSS : wr.drew.cell? ⟨gp, 4, none⟩ = some (.slice RA rn rc) ∧ wr.drew.cell? ⟨gp, 0, none⟩ = some (.pointer (some ⟨g0, 0, none⟩)) := ⟨(S.blk 0 rfl).at_ 4 rfl, (S.blk 0 rfl).at_ 0 rfl⟩
                      have S1 := S.drew
                      clear S S5 hq1 hl hrd D1 D2 D3 D4 hci hli hrB hLw hk2
                      go_upto_region 42 with (fail)
                      refine plain_under (fun w => w.cell? ⟨gp, 4, none⟩ = some (.slice RA rn rc) ∧ w.cell? ⟨gp, 0, none⟩ = some (.pointer (some ⟨g0, 0, none⟩))) (fun j => decide (j < 26)) (by kernel_rfl) ?_
                      generalize wr.drew = w4 at hSS S1 ⊢
                      simp only [List.size_toArray, List.length_cons, List.length_nil, Nat.reduceAdd, Array.replicate_succ, Array.replicate_zero, List.push_toArray, List.nil_append, List.cons_append]
                      refine under_free (i := 0) (v := ?_) rfl (by kernel_rfl) (fun _ _ _ h => h) _ _ _ _ (by kernel_rfl) (by kernel_rfl) (Or.inl ⟨by rfl, ?_⟩) ?_
                      rotate_left
                      · intro w _
                        go_simp
                        try with_reducible rfl
                      simp only [Act.put, List.setIfInBounds_toArray, List.set_cons_zero, List.set_cons_succ, List.getElem_toArray, List.getElem_cons_zero]
                      refine under_free (i := 1) (v := ?_) rfl (by kernel_rfl) (fun _ _ _ h => h) _ _ _ _ (by kernel_rfl) (by kernel_rfl) (Or.inl ⟨by rfl, ?_⟩) ?_
                      rotate_left
                      · intro w _
                        go_simp
                        try with_reducible rfl
                      simp only [Act.put, List.setIfInBounds_toArray, List.set_cons_zero, List.set_cons_succ, List.getElem_toArray, List.getElem_cons_zero, List.getElem_cons_succ]
                      refine under_free (i := 2) (v := ?_) rfl (by kernel_rfl) (fun _ _ _ h => h) _ _ _ _ (by kernel_rfl) (by kernel_rfl) (Or.inl ⟨by rfl, ?_⟩) ?_
                      rotate_left
                      · intro w _
                        go_simp
                        try with_reducible rfl
                      simp only [Act.put, List.setIfInBounds_toArray, List.set_cons_zero, List.set_cons_succ, List.getElem_toArray, List.getElem_cons_zero, List.getElem_cons_succ]
                      refine under_free (i := 3) (v := ?_) rfl (by kernel_rfl) (fun _ _ _ h => h) _ _ _ _ (by kernel_rfl) (by kernel_rfl) (Or.inl ⟨by rfl, ?_⟩) ?_
                      rotate_left
                      · intro w _
                        go_simp
                        try with_reducible rfl
                      simp only [Act.put, List.setIfInBounds_toArray, List.set_cons_zero, List.set_cons_succ, List.getElem_toArray, List.getElem_cons_zero, List.getElem_cons_succ]
                      refine under_free (i := 4) (v := ?_) rfl (by kernel_rfl) (fun _ _ _ h => h) _ _ _ _ (by kernel_rfl) (by kernel_rfl) (Or.inl ⟨by rfl, ?_⟩) ?_
                      rotate_left
                      · intro w _
                        go_simp
                        try with_reducible rfl
                      simp only [Act.put, List.setIfInBounds_toArray, List.set_cons_zero, List.set_cons_succ, List.getElem_toArray, List.getElem_cons_zero, List.getElem_cons_succ]
                      refine under_free (i := 5) (v := ?_) rfl (by kernel_rfl) (fun _ _ _ h => h) _ _ _ _ (by kernel_rfl) (by kernel_rfl) (Or.inl ⟨by rfl, ?_⟩) ?_
                      rotate_left
                      · intro w _
                        go_simp
                        try with_reducible rfl
                      simp only [Act.put, List.setIfInBounds_toArray, List.set_cons_zero, List.set_cons_succ, List.getElem_toArray, List.getElem_cons_zero, List.getElem_cons_succ]
                      refine under_free (i := 6) (v := ?_) rfl (by kernel_rfl) (fun _ _ _ h => h) _ _ _ _ (by kernel_rfl) (by kernel_rfl) (Or.inl ⟨by rfl, ?_⟩) ?_
                      rotate_left
                      · intro w _
                        go_simp
                        try with_reducible rfl
                      simp only [Act.put, List.setIfInBounds_toArray, List.set_cons_zero, List.set_cons_succ, List.getElem_toArray, List.getElem_cons_zero, List.getElem_cons_succ]
                      refine under_take (i := 7) (v := ?_) rfl (by kernel_rfl) (by kernel_rfl) (fun _ _ _ h => h) _ _ _ _ (by kernel_rfl) (by kernel_rfl) (by kernel_rfl) (Or.inl ⟨by rfl, ?_⟩) hSS ?_
                      rotate_left
                      · intro w hSw
                        obtain ⟨q0, q1⟩ := hSw
                        go_simp
                        try with_reducible rfl
                      simp only [Act.put, List.setIfInBounds_toArray, List.set_cons_zero, List.set_cons_succ, List.getElem_toArray, List.getElem_cons_zero, List.getElem_cons_succ]
                      refine under_free (i := 8) (v := ?_) rfl (by kernel_rfl) (fun _ _ _ h => h) _ _ _ _ (by kernel_rfl) (by kernel_rfl) (Or.inl ⟨by rfl, ?_⟩) ?_
                      rotate_left
                      · intro w _
                        go_simp
                        try with_reducible rfl
                      simp only [Act.put, List.setIfInBounds_toArray, List.set_cons_zero, List.set_cons_succ, List.getElem_toArray, List.getElem_cons_zero, List.getElem_cons_succ]
                      refine under_free (i := 9) (v := ?_) rfl (by kernel_rfl) (fun _ _ _ h => h) _ _ _ _ (by kernel_rfl) (by kernel_rfl) (Or.inl ⟨by rfl, ?_⟩) ?_
                      rotate_left
                      · intro w _
                        go_simp
                        try with_reducible rfl
                      simp only [Act.put, List.setIfInBounds_toArray, List.set_cons_zero, List.set_cons_succ, List.getElem_toArray, List.getElem_cons_zero, List.getElem_cons_succ]
                      refine under_free (i := 10) (v := ?_) rfl (by kernel_rfl) (fun _ _ _ h => h) _ _ _ _ (by kernel_rfl) (by kernel_rfl) (Or.inl ⟨by rfl, ?_⟩) ?_
                      rotate_left
                      · intro w _
                        go_simp
                        try with_reducible rfl
                      simp only [Act.put, List.setIfInBounds_toArray, List.set_cons_zero, List.set_cons_succ, List.getElem_toArray, List.getElem_cons_zero, List.getElem_cons_succ]
                      refine under_free (i := 11) (v := ?_) rfl (by kernel_rfl) (fun _ _ _ h => h) _ _ _ _ (by kernel_rfl) (by kernel_rfl) (Or.inl ⟨by rfl, ?_⟩) ?_
                      rotate_left
                      · intro w _
                        go_simp
                        try with_reducible rfl
                      simp only [Act.put, List.setIfInBounds_toArray, List.set_cons_zero, List.set_cons_succ, List.getElem_toArray, List.getElem_cons_zero, List.getElem_cons_succ]
                      refine under_free (i := 12) (v := ?_) rfl (by kernel_rfl) (fun _ _ _ h => h) _ _ _ _ (by kernel_rfl) (by kernel_rfl) (Or.inl ⟨by rfl, ?_⟩) ?_
                      rotate_left
                      · intro w _
                        go_simp
                        try with_reducible rfl
                      simp only [Act.put, List.setIfInBounds_toArray, List.set_cons_zero, List.set_cons_succ, List.getElem_toArray, List.getElem_cons_zero, List.getElem_cons_succ]
                      refine under_take (i := 13) (v := ?_) rfl (by kernel_rfl) (by kernel_rfl) (fun _ _ _ h => h) _ _ _ _ (by kernel_rfl) (by kernel_rfl) (by kernel_rfl) (Or.inl ⟨by rfl, ?_⟩) hSS ?_
                      rotate_left
                      · intro w hSw
                        obtain ⟨q0, q1⟩ := hSw
                        go_simp
                        try with_reducible rfl
                      simp only [Act.put, List.setIfInBounds_toArray, List.set_cons_zero, List.set_cons_succ, List.getElem_toArray, List.getElem_cons_zero, List.getElem_cons_succ]
                      refine under_free (i := 14) (v := ?_) rfl (by kernel_rfl) (fun _ _ _ h => h) _ _ _ _ (by kernel_rfl) (by kernel_rfl) (Or.inl ⟨by rfl, ?_⟩) ?_
                      rotate_left
                      · intro w _
                        go_simp
                        try with_reducible rfl
                      simp only [Act.put, List.setIfInBounds_toArray, List.set_cons_zero, List.set_cons_succ, List.getElem_toArray, List.getElem_cons_zero, List.getElem_cons_succ]
                      refine under_free (i := 15) (v := ?_) rfl (by kernel_rfl) (fun _ _ _ h => h) _ _ _ _ (by kernel_rfl) (by kernel_rfl) (Or.inl ⟨by rfl, ?_⟩) ?_
                      rotate_left
                      · intro w _
                        go_simp
                        try with_reducible rfl
                      simp only [Act.put, List.setIfInBounds_toArray, List.set_cons_zero, List.set_cons_succ, List.getElem_toArray, List.getElem_cons_zero, List.getElem_cons_succ]
                      refine under_free (i := 16) (v := ?_) rfl (by kernel_rfl) (fun _ _ _ h => h) _ _ _ _ (by kernel_rfl) (by kernel_rfl) (Or.inl ⟨by rfl, ?_⟩) ?_
                      rotate_left
                      · intro w _
                        go_simp
                        try with_reducible rfl
                      simp only [Act.put, List.setIfInBounds_toArray, List.set_cons_zero, List.set_cons_succ, List.getElem_toArray, List.getElem_cons_zero, List.getElem_cons_succ]
                      refine under_free (i := 17) (v := ?_) rfl (by kernel_rfl) (fun _ _ _ h => h) _ _ _ _ (by kernel_rfl) (by kernel_rfl) (Or.inl ⟨by rfl, ?_⟩) ?_
                      rotate_left
                      · intro w _
                        go_simp
                        try with_reducible rfl
                      simp only [Act.put, List.setIfInBounds_toArray, List.set_cons_zero, List.set_cons_succ, List.getElem_toArray, List.getElem_cons_zero, List.getElem_cons_succ]
                      refine under_free (i := 18) (v := ?_) rfl (by kernel_rfl) (fun _ _ _ h => h) _ _ _ _ (by kernel_rfl) (by kernel_rfl) (Or.inl ⟨by rfl, ?_⟩) ?_
                      rotate_left
                      · intro w _
                        go_simp
                        try with_reducible rfl
                      simp only [Act.put, List.setIfInBounds_toArray, List.set_cons_zero, List.set_cons_succ, List.getElem_toArray, List.getElem_cons_zero, List.getElem_cons_succ]
                      refine under_take (i := 19) (v := ?_) rfl (by kernel_rfl) (by kernel_rfl) (fun _ _ _ h => h) _ _ _ _ (by kernel_rfl) (by kernel_rfl) (by kernel_rfl) (Or.inl ⟨by rfl, ?_⟩) hSS ?_
                      rotate_left
                      · intro w hSw
                        obtain ⟨q0, q1⟩ := hSw
                        go_simp
                        try with_reducible rfl
                      simp only [Act.put, List.setIfInBounds_toArray, List.set_cons_zero, List.set_cons_succ, List.getElem_toArray, List.getElem_cons_zero, List.getElem_cons_succ]
                      refine under_free (i := 23) (v := ?_) rfl (by kernel_rfl) (fun _ _ _ h => h) _ _ _ _ (by kernel_rfl) (by kernel_rfl) (Or.inl ⟨by rfl, ?_⟩) ?_
                      rotate_left
                      · intro w _
                        go_simp
                        try with_reducible rfl
                      simp only [Act.put, List.setIfInBounds_toArray, List.set_cons_zero, List.set_cons_succ, List.getElem_toArray, List.getElem_cons_zero, List.getElem_cons_succ]
                      refine under_free (i := 24) (v := ?_) rfl (by kernel_rfl) (fun _ _ _ h => h) _ _ _ _ (by kernel_rfl) (by kernel_rfl) (Or.inl ⟨by rfl, ?_⟩) ?_
                      rotate_left
                      · intro w _
                        go_simp
                        try with_reducible rfl
                      simp only [Act.put, List.setIfInBounds_toArray, List.set_cons_zero, List.set_cons_succ, List.getElem_toArray, List.getElem_cons_zero, List.getElem_cons_succ]
                      refine under_one (i := 20) (by kernel_rfl) rfl ?_
                      intro K hK
                      go_simp
                      refine (peek_any 1 rfl S1).mono ?_
                      rw [hgl]
                      rintro en w5 ⟨rfl, rfl⟩
                      refine hK _ _ (fun _ => hSS) ?_
                      clear hK K
                      simp only [List.setIfInBounds_toArray, List.set_cons_zero, List.set_cons_succ]
                      refine under_one (i := 21) (by kernel_rfl) rfl ?_
                      intro K hK
                      go_simp
                      refine (read_any (gl : Int) hgb 1 rfl S1).mono ?_
                      rintro en w6 ⟨v6, rfl, S4⟩
                      replace S4 : Sep w w6 (BRow v6 (readB (p.l false) (gl : Int)) :: cell gp 49 #[.pointer (some ⟨g0, 0, none⟩), .pointer (some ⟨g1, 0, none⟩), vw0, vw1, .slice RA rn rc, vr1, vy, vt] :: LinkAt g0 (readL (p.l false) (gl : Int)) :: LinkAt g1 (p.l true) :: BRow vw0 (p.wr false) :: BRow vw1 (p.wr true) :: BRow (.slice RA rn rc) (p.rd false) :: BRow vr1 (p.rd true) :: PkX vy (p.ws.map (·.2)) :: IRow vt p.ws :: []) := S4
                      have hSS : w6.cell? ⟨gp, 4, none⟩ = some (.slice RA rn rc) ∧ w6.cell? ⟨gp, 0, none⟩ = some (.pointer (some ⟨g0, 0, none⟩)) := ⟨(S4.blk 1 rfl).at_ 4 rfl, (S4.blk 1 rfl).at_ 0 rfl⟩
                      refine hK _ _ (fun _ => hSS) ?_
                      clear hK K S1
                      obtain ⟨A6, c6, hv6, -, -, hR6⟩ := S4.bform 0 rfl
                      subst hv6
                      simp only [List.setIfInBounds_toArray, List.set_cons_zero, List.set_cons_succ]
                      refine under_one (i := 22) (by kernel_rfl) rfl ?_
                      intro K hK
                      obtain ⟨i5, hi5, hz0, hz1, hz2⟩ := info_parts info5
                      have hbl : (readB (p.l false) (gl : Int)).length ≤ 1048576 := by unfold readB; rw [List.length_take]; omega
                      refine step_append_any _ rfl (.tmp 168) (.tmp 182) 27 rfl 0 5 i5 _ 1 1 Try.underlying27 hi5 hz0 hz1 hz2 rfl (by omega) (.slice RA rn rc) rn ((p.rd false).map enB) rfl (by have h := S4.own 6 rfl; rwa [hrn] at h) _ A6 _ c6 _ rfl hR6.2 (enB_one _) (by unfold maxLen; omega) (by omega) (Nat.zero_le _) ?_
                      intro v7 w7 hown hgr hat
                      have hl2 : (p.rd false ++ readB (p.l false) (gl : Int)).length = rn + (readB (p.l false) (gl : Int)).length := by rw [List.length_append, hrn]
                      have hown2 : w7.ownsRow 0 5 1 v7 (p.rd false ++ readB (p.l false) (gl : Int)).length ((p.rd false ++ readB (p.l false) (gl : Int)).map enB) := by rw [hl2, List.map_append]; exact hown
                      have S5 := S4.pushed 6 rfl hown2 hgr hat
                      have hSS : w7.cell? ⟨gp, 4, none⟩ = some (.slice RA rn rc) ∧ w7.cell? ⟨gp, 0, none⟩ = some (.pointer (some ⟨g0, 0, none⟩)) := ⟨(S5.blk 1 rfl).at_ 4 rfl, (S5.blk 1 rfl).at_ 0 rfl⟩
                      refine hK _ _ (fun _ => hSS) ?_
                      clear hK K hown hown2 hgr hat S4 hR6 hbl
                      obtain ⟨mm, hmm⟩ : ∃ x, (p.rd false ++ readB (p.l false) (gl : Int)).length = x := ⟨_, rfl⟩
                      obtain ⟨b7, d7, hv7, -, -⟩ := own_slice (S5.own 6 rfl)
                      rw [hmm] at hv7
                      subst hv7
                      have z7 := (S5.blk 1 rfl).frozen 4
                      have k7 := hSS.1
                      simp only [Act.put, List.setIfInBounds_toArray, List.set_cons_zero, List.set_cons_succ, List.getElem_toArray, List.getElem_cons_zero, List.getElem_cons_succ]
                      refine under_free (i := 25) (v := ?_) rfl (by kernel_rfl) (fun _ _ _ h => h) _ _ _ _ (by kernel_rfl) (by kernel_rfl) (Or.inl ⟨by rfl, ?_⟩) ?_
                      rotate_left
                      · intro w _
                        go_simp
                        try with_reducible rfl
                      simp only [Act.put, List.setIfInBounds_toArray, List.set_cons_zero, List.set_cons_succ, List.getElem_toArray, List.getElem_cons_zero, List.getElem_cons_succ]
                      refine under_one (i := 26) (by kernel_rfl) rfl ?_
                      intro K hK
                      go_simp
                      have S6 := S5.put 1 rfl 4 (.slice b7 mm d7)
                      refine hK _ _ (fun h => by cases h) ?_
                      clear hK K S5 z7 k7 hSS
                      refine under_done (by kernel_rfl) ?_ _
                      rw [hLR] at S6
                      replace S6 := S6.tail
                      replace S6 : Sep w _ (cell gp 49 #[.pointer (some ⟨g0, 0, none⟩), .pointer (some ⟨g1, 0, none⟩), vw0, vw1, .slice b7 mm d7, vr1, vy, vt] :: LinkAt g0 LR :: LinkAt g1 (p.l true) :: BRow vw0 (p.wr false) :: BRow vw1 (p.wr true) :: BRow (.slice b7 mm d7) (p.rd false ++ readB (p.l false) (gl : Int)) :: BRow vr1 (p.rd true) :: PkX vy (p.ws.map (·.2)) :: IRow vt p.ws :: []) := S6
                      obtain ⟨w8, hw8⟩ : ∃ W, w7.setCell ⟨gp, 4, none⟩ (.slice b7 mm d7) = W := ⟨_, rfl⟩
                      rw [hw8] at S6 ⊢
                      obtain ⟨b8, d8, hb8, -, -, hRb⟩ := S6.bform 5 rfl
                      obtain ⟨WA, wc, hvw, -, -, hRW⟩ := S6.bform 4 rfl
                      obtain ⟨wn, hwn⟩ : ∃ x, (p.wr true).length = x := ⟨_, rfl⟩
                      rw [hwn] at hvw hRW
                      subst hvw
                      rw [hmm] at hb8 hRb
                      injection hb8 with e1 e2 e3
                      subst e1 e3
                      rw [hcont] at hRb
                      obtain ⟨xs, hxs⟩ : ∃ x, strB (p.wr true) = x := ⟨_, rfl⟩
                      have cv1 := str_conv (c := d7) (hRb.below (w' := w8.drew) ⟨rfl, rfl, rfl, Nat.le_refl _, fun _ _ => rfl⟩)
                      have cv2 := str_conv (c := wc) (hRW.below (w' := w8.drew) ⟨rfl, rfl, rfl, Nat.le_refl _, fun _ _ => rfl⟩)
                      rw [hxs] at cv1 cv2
                      have hSS : w8.drew.cell? ⟨gp, 4, none⟩ = some (.slice b7 mm d7) ∧ w8.drew.cell? ⟨gp, 3, none⟩ = some (.slice WA wn wc) ∧ w8.drew.cell? ⟨gp, 0, none⟩ = some (.pointer (some ⟨g0, 0, none⟩)) ∧ (convert 27 9 (.slice b7 mm d7)).run Try.prog w8.drew = .ok (.string xs) w8.drew ∧ (convert 27 9 (.slice WA wn wc)).run Try.prog w8.drew = .ok (.string xs) w8.drew := ⟨(S6.blk 0 rfl).at_ 4 rfl, (S6.blk 0 rfl).at_ 3 rfl, (S6.blk 0 rfl).at_ 0 rfl, cv1, cv2⟩
                      have S8 := S6.drew
                      clear S6 hw8 hRb hRW cv1 cv2 hwn hgl hgb hmm hrn
                      have n1 : IntKind.i64.wrap 1 = 1 := by decide
                      have n0 : IntKind.i64.wrap 0 = 0 := by decide
                      go_upto_region 43 with (fail)
                      refine plain_under (fun w => w.cell? ⟨gp, 4, none⟩ = some (.slice b7 mm d7) ∧ w.cell? ⟨gp, 3, none⟩ = some (.slice WA wn wc) ∧ w.cell? ⟨gp, 0, none⟩ = some (.pointer (some ⟨g0, 0, none⟩)) ∧ (convert 27 9 (.slice b7 mm d7)).run Try.prog w = .ok (.string xs) w ∧ (convert 27 9 (.slice WA wn wc)).run Try.prog w = .ok (.string xs) w) (fun j => decide (j < 33)) (by kernel_rfl) ?_
                      generalize w8.drew = w10 at hSS S8 ⊢
                      simp only [List.size_toArray, List.length_cons, List.length_nil, Nat.reduceAdd, Array.replicate_succ, Array.replicate_zero, List.push_toArray, List.nil_append, List.cons_append]
                      refine under_free (i := 0) (v := ?_) rfl (by kernel_rfl) (fun _ _ _ h => h) _ _ _ _ (by kernel_rfl) (by kernel_rfl) (Or.inl ⟨by rfl, ?_⟩) ?_
                      rotate_left
                      · intro w _
                        go_simp
                        try with_reducible rfl
                      simp only [Act.put, List.setIfInBounds_toArray, List.set_cons_zero, List.set_cons_succ, List.getElem_toArray, List.getElem_cons_zero]
                      refine under_free (i := 1) (v := ?_) rfl (by kernel_rfl) (fun _ _ _ h => h) _ _ _ _ (by kernel_rfl) (by kernel_rfl) (Or.inl ⟨by rfl, ?_⟩) ?_
                      rotate_left
                      · intro w _
                        go_simp
                        try with_reducible rfl
                      simp only [Act.put, List.setIfInBounds_toArray, List.set_cons_zero, List.set_cons_succ, List.getElem_toArray, List.getElem_cons_zero, List.getElem_cons_succ]
                      refine under_free (i := 2) (v := ?_) rfl (by kernel_rfl) (fun _ _ _ h => h) _ _ _ _ (by kernel_rfl) (by kernel_rfl) (Or.inl ⟨by rfl, ?_⟩) ?_
                      rotate_left
                      · intro w _
                        go_simp
                        try with_reducible rfl
                      simp only [Act.put, List.setIfInBounds_toArray, List.set_cons_zero, List.set_cons_succ, List.getElem_toArray, List.getElem_cons_zero, List.getElem_cons_succ]
                      refine under_free (i := 3) (v := ?_) rfl (by kernel_rfl) (fun _ _ _ h => h) _ _ _ _ (by kernel_rfl) (by kernel_rfl) (Or.inl ⟨by rfl, ?_⟩) ?_
                      rotate_left
                      · intro w _
                        go_simp
                        try with_reducible rfl
                      simp only [Act.put, List.setIfInBounds_toArray, List.set_cons_zero, List.set_cons_succ, List.getElem_toArray, List.getElem_cons_zero, List.getElem_cons_succ]
                      refine under_free (i := 4) (v := ?_) rfl (by kernel_rfl) (fun _ _ _ h => h) _ _ _ _ (by kernel_rfl) (by kernel_rfl) (Or.inl ⟨by rfl, ?_⟩) ?_
                      rotate_left
                      · intro w _
                        go_simp
                        try with_reducible rfl
                      simp only [Act.put, List.setIfInBounds_toArray, List.set_cons_zero, List.set_cons_succ, List.getElem_toArray, List.getElem_cons_zero, List.getElem_cons_succ]
                      refine under_take (i := 5) (v := ?_) rfl (by kernel_rfl) (by kernel_rfl) (fun _ _ _ h => h) _ _ _ _ (by kernel_rfl) (by kernel_rfl) (by kernel_rfl) (Or.inl ⟨by rfl, ?_⟩) hSS ?_
                      rotate_left
                      · intro w hSw
                        obtain ⟨q0, q1, q2, q3, q4⟩ := hSw
                        go_simp
                        try with_reducible rfl
                      simp only [Act.put, List.setIfInBounds_toArray, List.set_cons_zero, List.set_cons_succ, List.getElem_toArray, List.getElem_cons_zero, List.getElem_cons_succ]
                      refine under_take (i := 6) (v := ?_) rfl (by kernel_rfl) (by kernel_rfl) (fun _ _ _ h => h) _ _ _ _ (by kernel_rfl) (by kernel_rfl) (by kernel_rfl) (Or.inl ⟨by rfl, ?_⟩) hSS ?_
                      rotate_left
                      · intro w hSw
                        obtain ⟨q0, q1, q2, q3, q4⟩ := hSw
                        go_simp
                        try with_reducible rfl
                      simp only [Act.put, List.setIfInBounds_toArray, List.set_cons_zero, List.set_cons_succ, List.getElem_toArray, List.getElem_cons_zero, List.getElem_cons_succ]
                      refine under_free (i := 7) (v := ?_) rfl (by kernel_rfl) (fun _ _ _ h => h) _ _ _ _ (by kernel_rfl) (by kernel_rfl) (Or.inl ⟨by rfl, ?_⟩) ?_
                      rotate_left
                      · intro w _
                        go_simp
                        try with_reducible rfl
                      simp only [Act.put, List.setIfInBounds_toArray, List.set_cons_zero, List.set_cons_succ, List.getElem_toArray, List.getElem_cons_zero, List.getElem_cons_succ]
                      refine under_free (i := 8) (v := ?_) rfl (by kernel_rfl) (fun _ _ _ h => h) _ _ _ _ (by kernel_rfl) (by kernel_rfl) (Or.inl ⟨by rfl, ?_⟩) ?_
                      rotate_left
                      · intro w _
                        go_simp
                        try with_reducible rfl
                      simp only [Act.put, List.setIfInBounds_toArray, List.set_cons_zero, List.set_cons_succ, List.getElem_toArray, List.getElem_cons_zero, List.getElem_cons_succ]
                      refine under_free (i := 9) (v := ?_) rfl (by kernel_rfl) (fun _ _ _ h => h) _ _ _ _ (by kernel_rfl) (by kernel_rfl) (Or.inl ⟨by rfl, ?_⟩) ?_
                      rotate_left
                      · intro w _
                        go_simp
                        try with_reducible rfl
                      simp only [Act.put, List.setIfInBounds_toArray, List.set_cons_zero, List.set_cons_succ, List.getElem_toArray, List.getElem_cons_zero, List.getElem_cons_succ]
                      refine under_free (i := 10) (v := ?_) rfl (by kernel_rfl) (fun _ _ _ h => h) _ _ _ _ (by kernel_rfl) (by kernel_rfl) (Or.inl ⟨by rfl, ?_⟩) ?_
                      rotate_left
                      · intro w _
                        go_simp
                        try with_reducible rfl
                      simp only [Act.put, List.setIfInBounds_toArray, List.set_cons_zero, List.set_cons_succ, List.getElem_toArray, List.getElem_cons_zero, List.getElem_cons_succ]
                      refine under_free (i := 11) (v := ?_) rfl (by kernel_rfl) (fun _ _ _ h => h) _ _ _ _ (by kernel_rfl) (by kernel_rfl) (Or.inl ⟨by rfl, ?_⟩) ?_
                      rotate_left
                      · intro w _
                        go_simp
                        try with_reducible rfl
                      simp only [Act.put, List.setIfInBounds_toArray, List.set_cons_zero, List.set_cons_succ, List.getElem_toArray, List.getElem_cons_zero, List.getElem_cons_succ]
                      refine under_free (i := 12) (v := ?_) rfl (by kernel_rfl) (fun _ _ _ h => h) _ _ _ _ (by kernel_rfl) (by kernel_rfl) (Or.inl ⟨by rfl, ?_⟩) ?_
                      rotate_left
                      · intro w _
                        go_simp
                        try with_reducible rfl
                      simp only [Act.put, List.setIfInBounds_toArray, List.set_cons_zero, List.set_cons_succ, List.getElem_toArray, List.getElem_cons_zero, List.getElem_cons_succ]
                      refine under_take (i := 13) (v := ?_) rfl (by kernel_rfl) (by kernel_rfl) (fun _ _ _ h => h) _ _ _ _ (by kernel_rfl) (by kernel_rfl) (by kernel_rfl) (Or.inl ⟨by rfl, ?_⟩) hSS ?_
                      rotate_left
                      · intro w hSw
                        obtain ⟨q0, q1, q2, q3, q4⟩ := hSw
                        go_simp
                        try with_reducible rfl
                      simp only [Act.put, List.setIfInBounds_toArray, List.set_cons_zero, List.set_cons_succ, List.getElem_toArray, List.getElem_cons_zero, List.getElem_cons_succ]
                      refine under_take (i := 14) (v := ?_) rfl (by kernel_rfl) (by kernel_rfl) (fun _ _ _ h => h) _ _ _ _ (by kernel_rfl) (by kernel_rfl) (by kernel_rfl) (Or.inl ⟨by rfl, ?_⟩) hSS ?_
                      rotate_left
                      · intro w hSw
                        obtain ⟨q0, q1, q2, q3, q4⟩ := hSw
                        go_simp
                        try with_reducible rfl
                      simp only [Act.put, List.setIfInBounds_toArray, List.set_cons_zero, List.set_cons_succ, List.getElem_toArray, List.getElem_cons_zero, List.getElem_cons_succ]
                      refine under_free (i := 15) (v := ?_) rfl (by kernel_rfl) (fun _ _ _ h => h) _ _ _ _ (by kernel_rfl) (by kernel_rfl) (Or.inl ⟨by rfl, ?_⟩) ?_
                      rotate_left
                      · intro w _
                        go_simp
                        try with_reducible rfl
                      simp only [Act.put, List.setIfInBounds_toArray, List.set_cons_zero, List.set_cons_succ, List.getElem_toArray, List.getElem_cons_zero, List.getElem_cons_succ]
                      refine under_free (i := 16) (v := ?_) rfl (by kernel_rfl) (fun _ _ _ h => h) _ _ _ _ (by kernel_rfl) (by kernel_rfl) (Or.inl ⟨by rfl, ?_⟩) ?_
                      rotate_left
                      · intro w _
                        go_simp
                        try with_reducible rfl
                      simp only [Act.put, List.setIfInBounds_toArray, List.set_cons_zero, List.set_cons_succ, List.getElem_toArray, List.getElem_cons_zero, List.getElem_cons_succ]
                      refine under_free (i := 17) (v := ?_) rfl (by kernel_rfl) (fun _ _ _ h => h) _ _ _ _ (by kernel_rfl) (by kernel_rfl) (Or.inl ⟨by rfl, ?_⟩) ?_
                      rotate_left
                      · intro w _
                        go_simp
                        try with_reducible rfl
                      simp only [Act.put, List.setIfInBounds_toArray, List.set_cons_zero, List.set_cons_succ, List.getElem_toArray, List.getElem_cons_zero, List.getElem_cons_succ]
                      refine under_free (i := 18) (v := ?_) rfl (by kernel_rfl) (fun _ _ _ h => h) _ _ _ _ (by kernel_rfl) (by kernel_rfl) (Or.inl ⟨by rfl, ?_⟩) ?_
                      rotate_left
                      · intro w _
                        go_simp
                        try with_reducible rfl
                      simp only [Act.put, List.setIfInBounds_toArray, List.set_cons_zero, List.set_cons_succ, List.getElem_toArray, List.getElem_cons_zero, List.getElem_cons_succ]
                      refine under_free (i := 19) (v := ?_) rfl (by kernel_rfl) (fun _ _ _ h => h) _ _ _ _ (by kernel_rfl) (by kernel_rfl) (Or.inl ⟨by rfl, ?_⟩) ?_
                      rotate_left
                      · intro w _
                        go_simp
                        try with_reducible rfl
                      simp only [Act.put, List.setIfInBounds_toArray, List.set_cons_zero, List.set_cons_succ, List.getElem_toArray, List.getElem_cons_zero, List.getElem_cons_succ]
                      refine under_free (i := 20) (v := ?_) rfl (by kernel_rfl) (fun _ _ _ h => h) _ _ _ _ (by kernel_rfl) (by kernel_rfl) (Or.inl ⟨by rfl, ?_⟩) ?_
                      rotate_left
                      · intro w _
                        go_simp
                        try with_reducible rfl
                      simp only [Act.put, List.setIfInBounds_toArray, List.set_cons_zero, List.set_cons_succ, List.getElem_toArray, List.getElem_cons_zero, List.getElem_cons_succ]
                      refine under_free (i := 21) (v := ?_) rfl (by kernel_rfl) (fun _ _ _ h => h) _ _ _ _ (by kernel_rfl) (by kernel_rfl) (Or.inl ⟨by rfl, ?_⟩) ?_
                      rotate_left
                      · intro w _
                        go_simp
                        try with_reducible rfl
                      simp only [Act.put, List.setIfInBounds_toArray, List.set_cons_zero, List.set_cons_succ, List.getElem_toArray, List.getElem_cons_zero, List.getElem_cons_succ]
                      refine under_take (i := 22) (v := ?_) rfl (by kernel_rfl) (by kernel_rfl) (fun _ _ _ h => h) _ _ _ _ (by kernel_rfl) (by kernel_rfl) (by kernel_rfl) (Or.inl ⟨by rfl, ?_⟩) hSS ?_
                      rotate_left
                      · intro w hSw
                        obtain ⟨q0, q1, q2, q3, q4⟩ := hSw
                        go_simp
                        try with_reducible rfl
                      simp only [Act.put, List.setIfInBounds_toArray, List.set_cons_zero, List.set_cons_succ, List.getElem_toArray, List.getElem_cons_zero, List.getElem_cons_succ]
                      refine under_one (i := 23) (by kernel_rfl) rfl ?_
                      intro K hK
                      go_simp
                      refine (idle_any 1 rfl S8).mono ?_
                      rw [hidle]
                      rintro en w5 ⟨rfl, rfl⟩
                      refine hK _ _ (fun _ => hSS) ?_
                      clear hK K
                      simp only [List.setIfInBounds_toArray, List.set_cons_zero, List.set_cons_succ]
                      refine under_free (i := 24) (v := ?_) rfl (by kernel_rfl) (fun _ _ _ h => h) _ _ _ _ (by kernel_rfl) (by kernel_rfl) (Or.inl ⟨by rfl, ?_⟩) ?_
                      rotate_left
                      · intro w _
                        go_simp
                        try with_reducible rfl
                      simp only [Act.put, List.setIfInBounds_toArray, List.set_cons_zero, List.set_cons_succ, List.getElem_toArray, List.getElem_cons_zero, List.getElem_cons_succ]
                      refine under_free (i := 25) (v := ?_) rfl (by kernel_rfl) (fun _ _ _ h => h) _ _ _ _ (by kernel_rfl) (by kernel_rfl) (Or.inl ⟨by rfl, ?_⟩) ?_
                      rotate_left
                      · intro w _
                        go_simp
                        try with_reducible rfl
                      simp only [Act.put, List.setIfInBounds_toArray, List.set_cons_zero, List.set_cons_succ, List.getElem_toArray, List.getElem_cons_zero, List.getElem_cons_succ]
                      refine under_free (i := 26) (v := ?_) rfl (by kernel_rfl) (fun _ _ _ h => h) _ _ _ _ (by kernel_rfl) (by kernel_rfl) (Or.inl ⟨by rfl, ?_⟩) ?_
                      rotate_left
                      · intro w _
                        go_simp
                        try with_reducible rfl
                      simp only [Act.put, List.setIfInBounds_toArray, List.set_cons_zero, List.set_cons_succ, List.getElem_toArray, List.getElem_cons_zero, List.getElem_cons_succ]
                      refine under_free (i := 27) (v := ?_) rfl (by kernel_rfl) (fun _ _ _ h => h) _ _ _ _ (by kernel_rfl) (by kernel_rfl) (Or.inl ⟨by rfl, ?_⟩) ?_
                      rotate_left
                      · intro w _
                        go_simp
                        try with_reducible rfl
                      simp only [Act.put, List.setIfInBounds_toArray, List.set_cons_zero, List.set_cons_succ, List.getElem_toArray, List.getElem_cons_zero, List.getElem_cons_succ]
                      refine under_free (i := 28) (v := ?_) rfl (by kernel_rfl) (fun _ _ _ h => h) _ _ _ _ (by kernel_rfl) (by kernel_rfl) (Or.inl ⟨by rfl, ?_⟩) ?_
                      rotate_left
                      · intro w _
                        go_simp
                        try with_reducible rfl
                      simp only [Act.put, List.setIfInBounds_toArray, List.set_cons_zero, List.set_cons_succ, List.getElem_toArray, List.getElem_cons_zero, List.getElem_cons_succ]
                      refine under_free (i := 29) (v := ?_) rfl (by kernel_rfl) (fun _ _ _ h => h) _ _ _ _ (by kernel_rfl) (by kernel_rfl) (Or.inl ⟨by rfl, ?_⟩) ?_
                      rotate_left
                      · intro w _
                        go_simp
                        try with_reducible rfl
                      simp only [Act.put, List.setIfInBounds_toArray, List.set_cons_zero, List.set_cons_succ, List.getElem_toArray, List.getElem_cons_zero, List.getElem_cons_succ]
                      refine under_free (i := 30) (v := ?_) rfl (by kernel_rfl) (fun _ _ _ h => h) _ _ _ _ (by kernel_rfl) (by kernel_rfl) (Or.inl ⟨by rfl, ?_⟩) ?_
                      rotate_left
                      · intro w _
                        go_simp
                        try with_reducible rfl
                      simp only [Act.put, List.setIfInBounds_toArray, List.set_cons_zero, List.set_cons_succ, List.getElem_toArray, List.getElem_cons_zero, List.getElem_cons_succ]
                      refine under_free (i := 31) (v := ?_) rfl (by kernel_rfl) (fun _ _ _ h => h) _ _ _ _ (by kernel_rfl) (by kernel_rfl) (Or.inl ⟨by rfl, ?_⟩) ?_
                      rotate_left
                      · intro w _
                        go_simp
                        try with_reducible rfl
                      simp only [Act.put, List.setIfInBounds_toArray, List.set_cons_zero, List.set_cons_succ, List.getElem_toArray, List.getElem_cons_zero, List.getElem_cons_succ]
                      refine under_take (i := 32) (v := ?_) rfl (by kernel_rfl) (by kernel_rfl) (fun _ _ _ h => h) _ _ _ _ (by kernel_rfl) (by kernel_rfl) (by kernel_rfl) (Or.inl ⟨by rfl, ?_⟩) hSS ?_
                      rotate_left
                      · intro w hSw
                        obtain ⟨q0, q1, q2, q3, q4⟩ := hSw
                        go_simp
                        try with_reducible rfl
                      simp only [Act.put, List.setIfInBounds_toArray, List.set_cons_zero, List.set_cons_succ, List.getElem_toArray, List.getElem_cons_zero, List.getElem_cons_succ]
                      refine under_one (i := 33) (by kernel_rfl) rfl ?_
                      intro K hK
                      go_simp
                      refine (tick_any hInv hTk 1 rfl S8).mono ?_
                      rw [htp]
                      rintro en w12 ⟨v12, rfl, S9⟩
                      obtain ⟨A12, c12, rfl⟩ := told_pr 0 rfl S9
                      replace S9 := S9.tail
                      refine hK _ _ (fun h => by cases h) ?_
                      clear hK K S8 hSS
                      simp only [List.setIfInBounds_toArray, List.set_cons_zero, List.set_cons_succ]
                      refine under_free (i := 34) (v := ?_) rfl (by kernel_rfl) (fun _ _ _ h => h) _ _ _ _ (by kernel_rfl) (by kernel_rfl) (Or.inl ⟨by rfl, ?_⟩) ?_
                      rotate_left
                      · intro w _
                        go_simp
                        try with_reducible rfl
                      simp only [Act.put, List.setIfInBounds_toArray, List.set_cons_zero, List.set_cons_succ, List.getElem_toArray, List.getElem_cons_zero, List.getElem_cons_succ]
                      refine under_free (i := 35) (v := ?_) rfl (by kernel_rfl) (fun _ _ _ h => h) _ _ _ _ (by kernel_rfl) (by kernel_rfl) (Or.inl ⟨by rfl, ?_⟩) ?_
                      rotate_left
                      · intro w _
                        go_simp
                        try with_reducible rfl
                      simp only [Act.put, List.setIfInBounds_toArray, List.set_cons_zero, List.set_cons_succ, List.getElem_toArray, List.getElem_cons_zero, List.getElem_cons_succ]
                      refine under_free (i := 36) (v := ?_) rfl (by kernel_rfl) (fun _ _ _ h => h) _ _ _ _ (by kernel_rfl) (by kernel_rfl) (Or.inl ⟨by rfl, ?_⟩) ?_
                      rotate_left
                      · intro w _
                        go_simp
                        try with_reducible rfl
                      simp only [Act.put, List.setIfInBounds_toArray, List.set_cons_zero, List.set_cons_succ, List.getElem_toArray, List.getElem_cons_zero, List.getElem_cons_succ]
                      refine under_done (by kernel_rfl) ?_ _
                      go_wp2_with fail
                      go_roundw
                      case measure => simp [intOf]
                      case rel =>
                        refine ⟨0 + 1, ⟨upd p.l false (tickS LR), p.wr, upd p.rd false (p.rd false ++ readB (p.l false) (gl : Int)), p.ws⟩, by decide, by go_num, Lib.hid ⟨fun s hs => ?_, HQ.out.2⟩, ?_⟩
                        · obtain hs | ⟨-, rfl⟩ := hs
                          · cases hs
                          · obtain ⟨h1, h2⟩ := HQ.out.1 true (.inl rfl)
                            exact ⟨h1, h2⟩
                        · exact Sep.closeP2 (p := ⟨upd p.l false (tickS LR), p.wr, upd p.rd false (p.rd false ++ readB (p.l false) (gl : Int)), p.ws⟩) ⟨g0, g1, vw0, .slice WA wn wc, .slice b7 mm d7, vr1, vy, vt⟩ S9
                    · as_aux_lemma =>
                      obtain ⟨xv, S⟩ := S5.openP2
                      obtain ⟨g0, g1, vw0, vw1, vr0, vr1, vy, vt⟩ := xv
                      obtain ⟨hq1, hq2⟩ := HQ.out
                      obtain ⟨hl, hrd⟩ := hq1 true (by decide)
                      obtain ⟨D1, D2, D3, D4⟩ := HD.out true
                      have hci := HC3.out.inv.c true
                      have hli := HC3.out.inv.l true
                      obtain ⟨gl, hgl⟩ : ∃ x, (p.l true).got.length = x := ⟨_, rfl⟩
                      have hgb : (p.l true).got.length ≤ 1048576 := by rw [hl]; exact hci.gl
                      have hgb2 : gl ≤ 1048576 := by rw [← hgl]; exact hgb
                      have hrB : readB (p.l true) (gl : Int) = (p.l true).got := by
                        unfold readB readN
                        rw [hgl]
                        exact List.take_of_length_le (by rw [hgl]; omega)
                      obtain ⟨LR, hLR⟩ : ∃ x, readL (p.l true) (gl : Int) = x := ⟨_, rfl⟩
                      have hLI : LInv e LR (p3.wr true) := by
                        rw [← hLR, hl]
                        exact ⟨hli.ep, hli.lo, hli.sm, hli.mw, hli.win, hli.wait, hli.wl, hli.tk⟩
                      have hLw : LR.wait = [] ∧ LR.owes = false := by
                        rw [← hLR, hl]
                        exact ⟨D1, D2⟩
                      have hwb := HC3.out.wr
                      have hInv : Inv LR := ⟨hLI.lo, by have := hLI.wlen; have := hLI.sm; have := hLI.mw; omega, hLI.wl, by have := hLI.lo; have := hLI.sm; have := hLI.mw; have := hwb true; omega, by have := hLI.mw; have := hwb true; omega, hLI.win⟩
                      have hTk : LR.ticks ≤ 1000 := by have := hLI.tk; omega
                      have htp : tickP LR = [] := by
                        rw [tells_still hLI (by rw [hLw.1]; rfl), hLw.2]
                        rfl
                      have hidle : (LR.wait.length == 0 && !LR.owes) = true := by rw [hLw.1, hLw.2]; rfl
                      have hcont : p.rd true ++ readB (p.l true) (gl : Int) = p.wr false := by
                        rw [hrB, hl, hrd, hq2]
                        exact D4
                      obtain ⟨RA, rc, hvr, -⟩ := own_slice (S.own 6 rfl)
                      obtain ⟨rn, hrn⟩ : ∃ x, (p.rd true).length = x := ⟨_, rfl⟩
                      rw [hrn] at hvr
                      have hrnb : rn ≤ 1000000 := by
                        have h1 := congrArg List.length hcont
                        rw [List.length_append, hrn, hq2] at h1
                        have := hwb false
                        omega
                      subst hvr
                      have hSS : wr.drew.cell? ⟨gp, 5, none⟩ = some (.slice RA rn rc) ∧ wr.drew.cell? ⟨gp, 1, none⟩ = some (.pointer (some ⟨g1, 0, none⟩)) := ⟨(S.blk 0 rfl).at_ 5 rfl, (S.blk 0 rfl).at_ 1 rfl⟩
                      have S1 := S.drew
                      clear S S5 hq1 hl hrd D1 D2 D3 D4 hci hli hrB hLw hk2
                      go_upto_region 42 with (fail)
                      refine plain_under (fun w => w.cell? ⟨gp, 5, none⟩ = some (.slice RA rn rc) ∧ w.cell? ⟨gp, 1, none⟩ = some (.pointer (some ⟨g1, 0, none⟩))) (fun j => decide (j < 26)) (by kernel_rfl) ?_
                      generalize wr.drew = w4 at hSS S1 ⊢
                      simp only [List.size_toArray, List.length_cons, List.length_nil, Nat.reduceAdd, Array.replicate_succ, Array.replicate_zero, List.push_toArray, List.nil_append, List.cons_append]
                      refine under_free (i := 0) (v := ?_) rfl (by kernel_rfl) (fun _ _ _ h => h) _ _ _ _ (by kernel_rfl) (by kernel_rfl) (Or.inl ⟨by rfl, ?_⟩) ?_
                      rotate_left
                      · intro w _
                        go_simp
                        try with_reducible rfl
                      simp only [Act.put, List.setIfInBounds_toArray, List.set_cons_zero, List.set_cons_succ, List.getElem_toArray, List.getElem_cons_zero]
                      refine under_free (i := 1) (v := ?_) rfl (by kernel_rfl) (fun _ _ _ h => h) _ _ _ _ (by kernel_rfl) (by kernel_rfl) (Or.inl ⟨by rfl, ?_⟩) ?_
                      rotate_left
                      · intro w _
                        go_simp
                        try with_reducible rfl
                      simp only [Act.put, List.setIfInBounds_toArray, List.set_cons_zero, List.set_cons_succ, List.getElem_toArray, List.getElem_cons_zero, List.getElem_cons_succ]
                      refine under_free (i := 2) (v := ?_) rfl (by kernel_rfl) (fun _ _ _ h => h) _ _ _ _ (by kernel_rfl) (by kernel_rfl) (Or.inl ⟨by rfl, ?_⟩) ?_
                      rotate_left
                      · intro w _
                        go_simp
                        try with_reducible rfl
                      simp only [Act.put, List.setIfInBounds_toArray, List.set_cons_zero, List.set_cons_succ, List.getElem_toArray, List.getElem_cons_zero, List.getElem_cons_succ]
                      refine under_free (i := 3) (v := ?_) rfl (by kernel_rfl) (fun _ _ _ h => h) _ _ _ _ (by kernel_rfl) (by kernel_rfl) (Or.inl ⟨by rfl, ?_⟩) ?_
                      rotate_left
                      · intro w _
                        go_simp
                        try with_reducible rfl
                      simp only [Act.put, List.setIfInBounds_toArray, List.set_cons_zero, List.set_cons_succ, List.getElem_toArray, List.getElem_cons_zero, List.getElem_cons_succ]
                      refine under_free (i := 4) (v := ?_) rfl (by kernel_rfl) (fun _ _ _ h => h) _ _ _ _ (by kernel_rfl) (by kernel_rfl) (Or.inl ⟨by rfl, ?_⟩) ?_
                      rotate_left
                      · intro w _
                        go_simp
                        try with_reducible rfl
                      simp only [Act.put, List.setIfInBounds_toArray, List.set_cons_zero, List.set_cons_succ, List.getElem_toArray, List.getElem_cons_zero, List.getElem_cons_succ]
                      refine under_free (i := 5) (v := ?_) rfl (by kernel_rfl) (fun _ _ _ h => h) _ _ _ _ (by kernel_rfl) (by kernel_rfl) (Or.inl ⟨by rfl, ?_⟩) ?_
                      rotate_left
                      · intro w _
                        go_simp
                        try with_reducible rfl
                      simp only [Act.put, List.setIfInBounds_toArray, List.set_cons_zero, List.set_cons_succ, List.getElem_toArray, List.getElem_cons_zero, List.getElem_cons_succ]
                      refine under_free (i := 6) (v := ?_) rfl (by kernel_rfl) (fun _ _ _ h => h) _ _ _ _ (by kernel_rfl) (by kernel_rfl) (Or.inl ⟨by rfl, ?_⟩) ?_
                      rotate_left
                      · intro w _
                        go_simp
                        try with_reducible rfl
                      simp only [Act.put, List.setIfInBounds_toArray, List.set_cons_zero, List.set_cons_succ, List.getElem_toArray, List.getElem_cons_zero, List.getElem_cons_succ]
                      refine under_take (i := 7) (v := ?_) rfl (by kernel_rfl) (by kernel_rfl) (fun _ _ _ h => h) _ _ _ _ (by kernel_rfl) (by kernel_rfl) (by kernel_rfl) (Or.inl ⟨by rfl, ?_⟩) hSS ?_
                      rotate_left
                      · intro w hSw
                        obtain ⟨q0, q1⟩ := hSw
                        go_simp
                        try with_reducible rfl
                      simp only [Act.put, List.setIfInBounds_toArray, List.set_cons_zero, List.set_cons_succ, List.getElem_toArray, List.getElem_cons_zero, List.getElem_cons_succ]
                      refine under_free (i := 8) (v := ?_) rfl (by kernel_rfl) (fun _ _ _ h => h) _ _ _ _ (by kernel_rfl) (by kernel_rfl) (Or.inl ⟨by rfl, ?_⟩) ?_
                      rotate_left
                      · intro w _
                        go_simp
                        try with_reducible rfl
                      simp only [Act.put, List.setIfInBounds_toArray, List.set_cons_zero, List.set_cons_succ, List.getElem_toArray, List.getElem_cons_zero, List.getElem_cons_succ]
                      refine under_free (i := 9) (v := ?_) rfl (by kernel_rfl) (fun _ _ _ h => h) _ _ _ _ (by kernel_rfl) (by kernel_rfl) (Or.inl ⟨by rfl, ?_⟩) ?_
                      rotate_left
                      · intro w _
                        go_simp
                        try with_reducible rfl
                      simp only [Act.put, List.setIfInBounds_toArray, List.set_cons_zero, List.set_cons_succ, List.getElem_toArray, List.getElem_cons_zero, List.getElem_cons_succ]
                      refine under_free (i := 10) (v := ?_) rfl (by kernel_rfl) (fun _ _ _ h => h) _ _ _ _ (by kernel_rfl) (by kernel_rfl) (Or.inl ⟨by rfl, ?_⟩) ?_
                      rotate_left
                      · intro w _
                        go_simp
                        try with_reducible rfl
                      simp only [Act.put, List.setIfInBounds_toArray, List.set_cons_zero, List.set_cons_succ, List.getElem_toArray, List.getElem_cons_zero, List.getElem_cons_succ]
                      refine under_free (i := 11) (v := ?_) rfl (by kernel_rfl) (fun _ _ _ h => h) _ _ _ _ (by kernel_rfl) (by kernel_rfl) (Or.inl ⟨by rfl, ?_⟩) ?_
                      rotate_left
                      · intro w _
                        go_simp
                        try with_reducible rfl
                      simp only [Act.put, List.setIfInBounds_toArray, List.set_cons_zero, List.set_cons_succ, List.getElem_toArray, List.getElem_cons_zero, List.getElem_cons_succ]
                      refine under_free (i := 12) (v := ?_) rfl (by kernel_rfl) (fun _ _ _ h => h) _ _ _ _ (by kernel_rfl) (by kernel_rfl) (Or.inl ⟨by rfl, ?_⟩) ?_
                      rotate_left
                      · intro w _
                        go_simp
                        try with_reducible rfl
                      simp only [Act.put, List.setIfInBounds_toArray, List.set_cons_zero, List.set_cons_succ, List.getElem_toArray, List.getElem_cons_zero, List.getElem_cons_succ]
                      refine under_take (i := 13) (v := ?_) rfl (by kernel_rfl) (by kernel_rfl) (fun _ _ _ h => h) _ _ _ _ (by kernel_rfl) (by kernel_rfl) (by kernel_rfl) (Or.inl ⟨by rfl, ?_⟩) hSS ?_
                      rotate_left
                      · intro w hSw
                        obtain ⟨q0, q1⟩ := hSw
                        go_simp
                        try with_reducible rfl
                      simp only [Act.put, List.setIfInBounds_toArray, List.set_cons_zero, List.set_cons_succ, List.getElem_toArray, List.getElem_cons_zero, List.getElem_cons_succ]
                      refine under_free (i := 14) (v := ?_) rfl (by kernel_rfl) (fun _ _ _ h => h) _ _ _ _ (by kernel_rfl) (by kernel_rfl) (Or.inl ⟨by rfl, ?_⟩) ?_
                      rotate_left
                      · intro w _
                        go_simp
                        try with_reducible rfl
                      simp only [Act.put, List.setIfInBounds_toArray, List.set_cons_zero, List.set_cons_succ, List.getElem_toArray, List.getElem_cons_zero, List.getElem_cons_succ]
                      refine under_free (i := 15) (v := ?_) rfl (by kernel_rfl) (fun _ _ _ h => h) _ _ _ _ (by kernel_rfl) (by kernel_rfl) (Or.inl ⟨by rfl, ?_⟩) ?_
                      rotate_left
                      · intro w _
                        go_simp
                        try with_reducible rfl
                      simp only [Act.put, List.setIfInBounds_toArray, List.set_cons_zero, List.set_cons_succ, List.getElem_toArray, List.getElem_cons_zero, List.getElem_cons_succ]
                      refine under_free (i := 16) (v := ?_) rfl (by kernel_rfl) (fun _ _ _ h => h) _ _ _ _ (by kernel_rfl) (by kernel_rfl) (Or.inl ⟨by rfl, ?_⟩) ?_
                      rotate_left
                      · intro w _
                        go_simp
                        try with_reducible rfl
                      simp only [Act.put, List.setIfInBounds_toArray, List.set_cons_zero, List.set_cons_succ, List.getElem_toArray, List.getElem_cons_zero, List.getElem_cons_succ]
                      refine under_free (i := 17) (v := ?_) rfl (by kernel_rfl) (fun _ _ _ h => h) _ _ _ _ (by kernel_rfl) (by kernel_rfl) (Or.inl ⟨by rfl, ?_⟩) ?_
                      rotate_left
                      · intro w _
                        go_simp
                        try with_reducible rfl
                      simp only [Act.put, List.setIfInBounds_toArray, List.set_cons_zero, List.set_cons_succ, List.getElem_toArray, List.getElem_cons_zero, List.getElem_cons_succ]
                      refine under_free (i := 18) (v := ?_) rfl (by kernel_rfl) (fun _ _ _ h => h) _ _ _ _ (by kernel_rfl) (by kernel_rfl) (Or.inl ⟨by rfl, ?_⟩) ?_
                      rotate_left
                      · intro w _
                        go_simp
                        try with_reducible rfl
                      simp only [Act.put, List.setIfInBounds_toArray, List.set_cons_zero, List.set_cons_succ, List.getElem_toArray, List.getElem_cons_zero, List.getElem_cons_succ]
                      refine under_take (i := 19) (v := ?_) rfl (by kernel_rfl) (by kernel_rfl) (fun _ _ _ h => h) _ _ _ _ (by kernel_rfl) (by kernel_rfl) (by kernel_rfl) (Or.inl ⟨by rfl, ?_⟩) hSS ?_
                      rotate_left
                      · intro w hSw
                        obtain ⟨q0, q1⟩ := hSw
                        go_simp
                        try with_reducible rfl
                      simp only [Act.put, List.setIfInBounds_toArray, List.set_cons_zero, List.set_cons_succ, List.getElem_toArray, List.getElem_cons_zero, List.getElem_cons_succ]
                      refine under_free (i := 23) (v := ?_) rfl (by kernel_rfl) (fun _ _ _ h => h) _ _ _ _ (by kernel_rfl) (by kernel_rfl) (Or.inl ⟨by rfl, ?_⟩) ?_
                      rotate_left
                      · intro w _
                        go_simp
                        try with_reducible rfl
                      simp only [Act.put, List.setIfInBounds_toArray, List.set_cons_zero, List.set_cons_succ, List.getElem_toArray, List.getElem_cons_zero, List.getElem_cons_succ]
                      refine under_free (i := 24) (v := ?_) rfl (by kernel_rfl) (fun _ _ _ h => h) _ _ _ _ (by kernel_rfl) (by kernel_rfl) (Or.inl ⟨by rfl, ?_⟩) ?_
                      rotate_left
                      · intro w _
                        go_simp
                        try with_reducible rfl
                      simp only [Act.put, List.setIfInBounds_toArray, List.set_cons_zero, List.set_cons_succ, List.getElem_toArray, List.getElem_cons_zero, List.getElem_cons_succ]
                      refine under_one (i := 20) (by kernel_rfl) rfl ?_
                      intro K hK
                      go_simp
                      refine (peek_any 2 rfl S1).mono ?_
                      rw [hgl]
                      rintro en w5 ⟨rfl, rfl⟩
                      refine hK _ _ (fun _ => hSS) ?_
                      clear hK K
                      simp only [List.setIfInBounds_toArray, List.set_cons_zero, List.set_cons_succ]
                      refine under_one (i := 21) (by kernel_rfl) rfl ?_
                      intro K hK
                      go_simp
                      refine (read_any (gl : Int) hgb 2 rfl S1).mono ?_
                      rintro en w6 ⟨v6, rfl, S4⟩
                      replace S4 : Sep w w6 (BRow v6 (readB (p.l true) (gl : Int)) :: cell gp 49 #[.pointer (some ⟨g0, 0, none⟩), .pointer (some ⟨g1, 0, none⟩), vw0, vw1, vr0, .slice RA rn rc, vy, vt] :: LinkAt g0 (p.l false) :: LinkAt g1 (readL (p.l true) (gl : Int)) :: BRow vw0 (p.wr false) :: BRow vw1 (p.wr true) :: BRow vr0 (p.rd false) :: BRow (.slice RA rn rc) (p.rd true) :: PkX vy (p.ws.map (·.2)) :: IRow vt p.ws :: []) := S4
                      have hSS : w6.cell? ⟨gp, 5, none⟩ = some (.slice RA rn rc) ∧ w6.cell? ⟨gp, 1, none⟩ = some (.pointer (some ⟨g1, 0, none⟩)) := ⟨(S4.blk 1 rfl).at_ 5 rfl, (S4.blk 1 rfl).at_ 1 rfl⟩
                      refine hK _ _ (fun _ => hSS) ?_
                      clear hK K S1
                      obtain ⟨A6, c6, hv6, -, -, hR6⟩ := S4.bform 0 rfl
                      subst hv6
                      simp only [List.setIfInBounds_toArray, List.set_cons_zero, List.set_cons_succ]
                      refine under_one (i := 22) (by kernel_rfl) rfl ?_
                      intro K hK
                      obtain ⟨i5, hi5, hz0, hz1, hz2⟩ := info_parts info5
                      have hbl : (readB (p.l true) (gl : Int)).length ≤ 1048576 := by unfold readB; rw [List.length_take]; omega
                      refine step_append_any _ rfl (.tmp 168) (.tmp 182) 27 rfl 0 5 i5 _ 1 1 Try.underlying27 hi5 hz0 hz1 hz2 rfl (by omega) (.slice RA rn rc) rn ((p.rd true).map enB) rfl (by have h := S4.own 7 rfl; rwa [hrn] at h) _ A6 _ c6 _ rfl hR6.2 (enB_one _) (by unfold maxLen; omega) (by omega) (Nat.zero_le _) ?_
                      intro v7 w7 hown hgr hat
                      have hl2 : (p.rd true ++ readB (p.l true) (gl : Int)).length = rn + (readB (p.l true) (gl : Int)).length := by rw [List.length_append, hrn]
                      have hown2 : w7.ownsRow 0 5 1 v7 (p.rd true ++ readB (p.l true) (gl : Int)).length ((p.rd true ++ readB (p.l true) (gl : Int)).map enB) := by rw [hl2, List.map_append]; exact hown
                      have S5 := S4.pushed 7 rfl hown2 hgr hat
                      have hSS : w7.cell? ⟨gp, 5, none⟩ = some (.slice RA rn rc) ∧ w7.cell? ⟨gp, 1, none⟩ = some (.pointer (some ⟨g1, 0, none⟩)) := ⟨(S5.blk 1 rfl).at_ 5 rfl, (S5.blk 1 rfl).at_ 1 rfl⟩
                      refine hK _ _ (fun _ => hSS) ?_
                      clear hK K hown hown2 hgr hat S4 hR6 hbl
                      obtain ⟨mm, hmm⟩ : ∃ x, (p.rd true ++ readB (p.l true) (gl : Int)).length = x := ⟨_, rfl⟩
                      obtain ⟨b7, d7, hv7, -, -⟩ := own_slice (S5.own 7 rfl)
                      rw [hmm] at hv7
                      subst hv7
                      have z7 := (S5.blk 1 rfl).frozen 5
                      have k7 := hSS.1
                      simp only [Act.put, List.setIfInBounds_toArray, List.set_cons_zero, List.set_cons_succ, List.getElem_toArray, List.getElem_cons_zero, List.getElem_cons_succ]
                      refine under_free (i := 25) (v := ?_) rfl (by kernel_rfl) (fun _ _ _ h => h) _ _ _ _ (by kernel_rfl) (by kernel_rfl) (Or.inl ⟨by rfl, ?_⟩) ?_
                      rotate_left
                      · intro w _
                        go_simp
                        try with_reducible rfl
                      simp only [Act.put, List.setIfInBounds_toArray, List.set_cons_zero, List.set_cons_succ, List.getElem_toArray, List.getElem_cons_zero, List.getElem_cons_succ]
                      refine under_one (i := 26) (by kernel_rfl) rfl ?_
                      intro K hK
                      go_simp
                      have S6 := S5.put 1 rfl 5 (.slice b7 mm d7)
                      refine hK _ _ (fun h => by cases h) ?_
                      clear hK K S5 z7 k7 hSS
                      refine under_done (by kernel_rfl) ?_ _
                      rw [hLR] at S6
                      replace S6 := S6.tail
                      replace S6 : Sep w _ (cell gp 49 #[.pointer (some ⟨g0, 0, none⟩), .pointer (some ⟨g1, 0, none⟩), vw0, vw1, vr0, .slice b7 mm d7, vy, vt] :: LinkAt g0 (p.l false) :: LinkAt g1 LR :: BRow vw0 (p.wr false) :: BRow vw1 (p.wr true) :: BRow vr0 (p.rd false) :: BRow (.slice b7 mm d7) (p.rd true ++ readB (p.l true) (gl : Int)) :: PkX vy (p.ws.map (·.2)) :: IRow vt p.ws :: []) := S6
                      obtain ⟨w8, hw8⟩ : ∃ W, w7.setCell ⟨gp, 5, none⟩ (.slice b7 mm d7) = W := ⟨_, rfl⟩
                      rw [hw8] at S6 ⊢
                      obtain ⟨b8, d8, hb8, -, -, hRb⟩ := S6.bform 6 rfl
                      obtain ⟨WA, wc, hvw, -, -, hRW⟩ := S6.bform 3 rfl
                      obtain ⟨wn, hwn⟩ : ∃ x, (p.wr false).length = x := ⟨_, rfl⟩
                      rw [hwn] at hvw hRW
                      subst hvw
                      rw [hmm] at hb8 hRb
                      injection hb8 with e1 e2 e3
                      subst e1 e3
                      rw [hcont] at hRb
                      obtain ⟨xs, hxs⟩ : ∃ x, strB (p.wr false) = x := ⟨_, rfl⟩
                      have cv1 := str_conv (c := d7) (hRb.below (w' := w8.drew) ⟨rfl, rfl, rfl, Nat.le_refl _, fun _ _ => rfl⟩)
                      have cv2 := str_conv (c := wc) (hRW.below (w' := w8.drew) ⟨rfl, rfl, rfl, Nat.le_refl _, fun _ _ => rfl⟩)
                      rw [hxs] at cv1 cv2
                      have hSS : w8.drew.cell? ⟨gp, 5, none⟩ = some (.slice b7 mm d7) ∧ w8.drew.cell? ⟨gp, 2, none⟩ = some (.slice WA wn wc) ∧ w8.drew.cell? ⟨gp, 1, none⟩ = some (.pointer (some ⟨g1, 0, none⟩)) ∧ (convert 27 9 (.slice b7 mm d7)).run Try.prog w8.drew = .ok (.string xs) w8.drew ∧ (convert 27 9 (.slice WA wn wc)).run Try.prog w8.drew = .ok (.string xs) w8.drew := ⟨(S6.blk 0 rfl).at_ 5 rfl, (S6.blk 0 rfl).at_ 2 rfl, (S6.blk 0 rfl).at_ 1 rfl, cv1, cv2⟩
                      have S8 := S6.drew
                      clear S6 hw8 hRb hRW cv1 cv2 hwn hgl hgb hmm hrn
                      have n1 : IntKind.i64.wrap 1 = 1 := by decide
                      have n0 : IntKind.i64.wrap 0 = 0 := by decide
                      go_upto_region 43 with (fail)
                      refine plain_under (fun w => w.cell? ⟨gp, 5, none⟩ = some (.slice b7 mm d7) ∧ w.cell? ⟨gp, 2, none⟩ = some (.slice WA wn wc) ∧ w.cell? ⟨gp, 1, none⟩ = some (.pointer (some ⟨g1, 0, none⟩)) ∧ (convert 27 9 (.slice b7 mm d7)).run Try.prog w = .ok (.string xs) w ∧ (convert 27 9 (.slice WA wn wc)).run Try.prog w = .ok (.string xs) w) (fun j => decide (j < 33)) (by kernel_rfl) ?_
                      generalize w8.drew = w10 at hSS S8 ⊢
                      simp only [List.size_toArray, List.length_cons, List.length_nil, Nat.reduceAdd, Array.replicate_succ, Array.replicate_zero, List.push_toArray, List.nil_append, List.cons_append]
                      refine under_free (i := 0) (v := ?_) rfl (by kernel_rfl) (fun _ _ _ h => h) _ _ _ _ (by kernel_rfl) (by kernel_rfl) (Or.inl ⟨by rfl, ?_⟩) ?_
                      rotate_left
                      · intro w _
                        go_simp
                        try with_reducible rfl
                      simp only [Act.put, List.setIfInBounds_toArray, List.set_cons_zero, List.set_cons_succ, List.getElem_toArray, List.getElem_cons_zero]
                      refine under_free (i := 1) (v := ?_) rfl (by kernel_rfl) (fun _ _ _ h => h) _ _ _ _ (by kernel_rfl) (by kernel_rfl) (Or.inl ⟨by rfl, ?_⟩) ?_
                      rotate_left
                      · intro w _
                        go_simp
                        try with_reducible rfl
                      simp only [Act.put, List.setIfInBounds_toArray, List.set_cons_zero, List.set_cons_succ, List.getElem_toArray, List.getElem_cons_zero, List.getElem_cons_succ]
                      refine under_free (i := 2) (v := ?_) rfl (by kernel_rfl) (fun _ _ _ h => h) _ _ _ _ (by kernel_rfl) (by kernel_rfl) (Or.inl ⟨by rfl, ?_⟩) ?_
                      rotate_left
                      · intro w _
                        go_simp
                        try with_reducible rfl
                      simp only [Act.put, List.setIfInBounds_toArray, List.set_cons_zero, List.set_cons_succ, List.getElem_toArray, List.getElem_cons_zero, List.getElem_cons_succ]
                      refine under_free (i := 3) (v := ?_) rfl (by kernel_rfl) (fun _ _ _ h => h) _ _ _ _ (by kernel_rfl) (by kernel_rfl) (Or.inl ⟨by rfl, ?_⟩) ?_
                      rotate_left
                      · intro w _
                        go_simp
                        try with_reducible rfl
                      simp only [Act.put, List.setIfInBounds_toArray, List.set_cons_zero, List.set_cons_succ, List.getElem_toArray, List.getElem_cons_zero, List.getElem_cons_succ]
                      refine under_free (i := 4) (v := ?_) rfl (by kernel_rfl) (fun _ _ _ h => h) _ _ _ _ (by kernel_rfl) (by kernel_rfl) (Or.inl ⟨by rfl, ?_⟩) ?_
                      rotate_left
                      · intro w _
                        go_simp
                        try with_reducible rfl
                      simp only [Act.put, List.setIfInBounds_toArray, List.set_cons_zero, List.set_cons_succ, List.getElem_toArray, List.getElem_cons_zero, List.getElem_cons_succ]
                      refine under_take (i := 5) (v := ?_) rfl (by kernel_rfl) (by kernel_rfl) (fun _ _ _ h => h) _ _ _ _ (by kernel_rfl) (by kernel_rfl) (by kernel_rfl) (Or.inl ⟨by rfl, ?_⟩) hSS ?_
                      rotate_left
                      · intro w hSw
                        obtain ⟨q0, q1, q2, q3, q4⟩ := hSw
                        go_simp
                        try with_reducible rfl
                      simp only [Act.put, List.setIfInBounds_toArray, List.set_cons_zero, List.set_cons_succ, List.getElem_toArray, List.getElem_cons_zero, List.getElem_cons_succ]
                      refine under_take (i := 6) (v := ?_) rfl (by kernel_rfl) (by kernel_rfl) (fun _ _ _ h => h) _ _ _ _ (by kernel_rfl) (by kernel_rfl) (by kernel_rfl) (Or.inl ⟨by rfl, ?_⟩) hSS ?_
                      rotate_left
                      · intro w hSw
                        obtain ⟨q0, q1, q2, q3, q4⟩ := hSw
                        go_simp
                        try with_reducible rfl
                      simp only [Act.put, List.setIfInBounds_toArray, List.set_cons_zero, List.set_cons_succ, List.getElem_toArray, List.getElem_cons_zero, List.getElem_cons_succ]
                      refine under_free (i := 7) (v := ?_) rfl (by kernel_rfl) (fun _ _ _ h => h) _ _ _ _ (by kernel_rfl) (by kernel_rfl) (Or.inl ⟨by rfl, ?_⟩) ?_
                      rotate_left
                      · intro w _
                        go_simp
                        try with_reducible rfl
                      simp only [Act.put, List.setIfInBounds_toArray, List.set_cons_zero, List.set_cons_succ, List.getElem_toArray, List.getElem_cons_zero, List.getElem_cons_succ]
                      refine under_free (i := 8) (v := ?_) rfl (by kernel_rfl) (fun _ _ _ h => h) _ _ _ _ (by kernel_rfl) (by kernel_rfl) (Or.inl ⟨by rfl, ?_⟩) ?_
                      rotate_left
                      · intro w _
                        go_simp
                        try with_reducible rfl
                      simp only [Act.put, List.setIfInBounds_toArray, List.set_cons_zero, List.set_cons_succ, List.getElem_toArray, List.getElem_cons_zero, List.getElem_cons_succ]
                      refine under_free (i := 9) (v := ?_) rfl (by kernel_rfl) (fun _ _ _ h => h) _ _ _ _ (by kernel_rfl) (by kernel_rfl) (Or.inl ⟨by rfl, ?_⟩) ?_
                      rotate_left
                      · intro w _
                        go_simp
                        try with_reducible rfl
                      simp only [Act.put, List.setIfInBounds_toArray, List.set_cons_zero, List.set_cons_succ, List.getElem_toArray, List.getElem_cons_zero, List.getElem_cons_succ]
                      refine under_free (i := 10) (v := ?_) rfl (by kernel_rfl) (fun _ _ _ h => h) _ _ _ _ (by kernel_rfl) (by kernel_rfl) (Or.inl ⟨by rfl, ?_⟩) ?_
                      rotate_left
                      · intro w _
                        go_simp
                        try with_reducible rfl
                      simp only [Act.put, List.setIfInBounds_toArray, List.set_cons_zero, List.set_cons_succ, List.getElem_toArray, List.getElem_cons_zero, List.getElem_cons_succ]
                      refine under_free (i := 11) (v := ?_) rfl (by kernel_rfl) (fun _ _ _ h => h) _ _ _ _ (by kernel_rfl) (by kernel_rfl) (Or.inl ⟨by rfl, ?_⟩) ?_
                      rotate_left
                      · intro w _
                        go_simp
                        try with_reducible rfl
                      simp only [Act.put, List.setIfInBounds_toArray, List.set_cons_zero, List.set_cons_succ, List.getElem_toArray, List.getElem_cons_zero, List.getElem_cons_succ]
                      refine under_free (i := 12) (v := ?_) rfl (by kernel_rfl) (fun _ _ _ h => h) _ _ _ _ (by kernel_rfl) (by kernel_rfl) (Or.inl ⟨by rfl, ?_⟩) ?_
                      rotate_left
                      · intro w _
                        go_simp
                        try with_reducible rfl
                      simp only [Act.put, List.setIfInBounds_toArray, List.set_cons_zero, List.set_cons_succ, List.getElem_toArray, List.getElem_cons_zero, List.getElem_cons_succ]
                      refine under_take (i := 13) (v := ?_) rfl (by kernel_rfl) (by kernel_rfl) (fun _ _ _ h => h) _ _ _ _ (by kernel_rfl) (by kernel_rfl) (by kernel_rfl) (Or.inl ⟨by rfl, ?_⟩) hSS ?_
                      rotate_left
                      · intro w hSw
                        obtain ⟨q0, q1, q2, q3, q4⟩ := hSw
                        go_simp
                        try with_reducible rfl
                      simp only [Act.put, List.setIfInBounds_toArray, List.set_cons_zero, List.set_cons_succ, List.getElem_toArray, List.getElem_cons_zero, List.getElem_cons_succ]
                      refine under_take (i := 14) (v := ?_) rfl (by kernel_rfl) (by kernel_rfl) (fun _ _ _ h => h) _ _ _ _ (by kernel_rfl) (by kernel_rfl) (by kernel_rfl) (Or.inl ⟨by rfl, ?_⟩) hSS ?_
                      rotate_left
                      · intro w hSw
                        obtain ⟨q0, q1, q2, q3, q4⟩ := hSw
                        go_simp
                        try with_reducible rfl
                      simp only [Act.put, List.setIfInBounds_toArray, List.set_cons_zero, List.set_cons_succ, List.getElem_toArray, List.getElem_cons_zero, List.getElem_cons_succ]
                      refine under_free (i := 15) (v := ?_) rfl (by kernel_rfl) (fun _ _ _ h => h) _ _ _ _ (by kernel_rfl) (by kernel_rfl) (Or.inl ⟨by rfl, ?_⟩) ?_
                      rotate_left
                      · intro w _
                        go_simp
                        try with_reducible rfl
                      simp only [Act.put, List.setIfInBounds_toArray, List.set_cons_zero, List.set_cons_succ, List.getElem_toArray, List.getElem_cons_zero, List.getElem_cons_succ]
                      refine under_free (i := 16) (v := ?_) rfl (by kernel_rfl) (fun _ _ _ h => h) _ _ _ _ (by kernel_rfl) (by kernel_rfl) (Or.inl ⟨by rfl, ?_⟩) ?_
                      rotate_left
                      · intro w _
                        go_simp
                        try with_reducible rfl
                      simp only [Act.put, List.setIfInBounds_toArray, List.set_cons_zero, List.set_cons_succ, List.getElem_toArray, List.getElem_cons_zero, List.getElem_cons_succ]
                      refine under_free (i := 17) (v := ?_) rfl (by kernel_rfl) (fun _ _ _ h => h) _ _ _ _ (by kernel_rfl) (by kernel_rfl) (Or.inl ⟨by rfl, ?_⟩) ?_
                      rotate_left
                      · intro w _
                        go_simp
                        try with_reducible rfl
                      simp only [Act.put, List.setIfInBounds_toArray, List.set_cons_zero, List.set_cons_succ, List.getElem_toArray, List.getElem_cons_zero, List.getElem_cons_succ]
                      refine under_free (i := 18) (v := ?_) rfl (by kernel_rfl) (fun _ _ _ h => h) _ _ _ _ (by kernel_rfl) (by kernel_rfl) (Or.inl ⟨by rfl, ?_⟩) ?_
                      rotate_left
                      · intro w _
                        go_simp
                        try with_reducible rfl
                      simp only [Act.put, List.setIfInBounds_toArray, List.set_cons_zero, List.set_cons_succ, List.getElem_toArray, List.getElem_cons_zero, List.getElem_cons_succ]
                      refine under_free (i := 19) (v := ?_) rfl (by kernel_rfl) (fun _ _ _ h => h) _ _ _ _ (by kernel_rfl) (by kernel_rfl) (Or.inl ⟨by rfl, ?_⟩) ?_
                      rotate_left
                      · intro w _
                        go_simp
                        try with_reducible rfl
                      simp only [Act.put, List.setIfInBounds_toArray, List.set_cons_zero, List.set_cons_succ, List.getElem_toArray, List.getElem_cons_zero, List.getElem_cons_succ]
                      refine under_free (i := 20) (v := ?_) rfl (by kernel_rfl) (fun _ _ _ h => h) _ _ _ _ (by kernel_rfl) (by kernel_rfl) (Or.inl ⟨by rfl, ?_⟩) ?_
                      rotate_left
                      · intro w _
                        go_simp
                        try with_reducible rfl
                      simp only [Act.put, List.setIfInBounds_toArray, List.set_cons_zero, List.set_cons_succ, List.getElem_toArray, List.getElem_cons_zero, List.getElem_cons_succ]
                      refine under_free (i := 21) (v := ?_) rfl (by kernel_rfl) (fun _ _ _ h => h) _ _ _ _ (by kernel_rfl) (by kernel_rfl) (Or.inl ⟨by rfl, ?_⟩) ?_
                      rotate_left
                      · intro w _
                        go_simp
                        try with_reducible rfl
                      simp only [Act.put, List.setIfInBounds_toArray, List.set_cons_zero, List.set_cons_succ, List.getElem_toArray, List.getElem_cons_zero, List.getElem_cons_succ]
                      refine under_take (i := 22) (v := ?_) rfl (by kernel_rfl) (by kernel_rfl) (fun _ _ _ h => h) _ _ _ _ (by kernel_rfl) (by kernel_rfl) (by kernel_rfl) (Or.inl ⟨by rfl, ?_⟩) hSS ?_
                      rotate_left
                      · intro w hSw
                        obtain ⟨q0, q1, q2, q3, q4⟩ := hSw
                        go_simp
                        try with_reducible rfl
                      simp only [Act.put, List.setIfInBounds_toArray, List.set_cons_zero, List.set_cons_succ, List.getElem_toArray, List.getElem_cons_zero, List.getElem_cons_succ]
                      refine under_one (i := 23) (by kernel_rfl) rfl ?_
                      intro K hK
                      go_simp
                      refine (idle_any 2 rfl S8).mono ?_
                      rw [hidle]
                      rintro en w5 ⟨rfl, rfl⟩
                      refine hK _ _ (fun _ => hSS) ?_
                      clear hK K
                      simp only [List.setIfInBounds_toArray, List.set_cons_zero, List.set_cons_succ]
                      refine under_free (i := 24) (v := ?_) rfl (by kernel_rfl) (fun _ _ _ h => h) _ _ _ _ (by kernel_rfl) (by kernel_rfl) (Or.inl ⟨by rfl, ?_⟩) ?_
                      rotate_left
                      · intro w _
                        go_simp
                        try with_reducible rfl
                      simp only [Act.put, List.setIfInBounds_toArray, List.set_cons_zero, List.set_cons_succ, List.getElem_toArray, List.getElem_cons_zero, List.getElem_cons_succ]
                      refine under_free (i := 25) (v := ?_) rfl (by kernel_rfl) (fun _ _ _ h => h) _ _ _ _ (by kernel_rfl) (by kernel_rfl) (Or.inl ⟨by rfl, ?_⟩) ?_
                      rotate_left
                      · intro w _
                        go_simp
                        try with_reducible rfl
                      simp only [Act.put, List.setIfInBounds_toArray, List.set_cons_zero, List.set_cons_succ, List.getElem_toArray, List.getElem_cons_zero, List.getElem_cons_succ]
                      refine under_free (i := 26) (v := ?_) rfl (by kernel_rfl) (fun _ _ _ h => h) _ _ _ _ (by kernel_rfl) (by kernel_rfl) (Or.inl ⟨by rfl, ?_⟩) ?_
                      rotate_left
                      · intro w _
                        go_simp
                        try with_reducible rfl
                      simp only [Act.put, List.setIfInBounds_toArray, List.set_cons_zero, List.set_cons_succ, List.getElem_toArray, List.getElem_cons_zero, List.getElem_cons_succ]
                      refine under_free (i := 27) (v := ?_) rfl (by kernel_rfl) (fun _ _ _ h => h) _ _ _ _ (by kernel_rfl) (by kernel_rfl) (Or.inl ⟨by rfl, ?_⟩) ?_
                      rotate_left
                      · intro w _
                        go_simp
                        try with_reducible rfl
                      simp only [Act.put, List.setIfInBounds_toArray, List.set_cons_zero, List.set_cons_succ, List.getElem_toArray, List.getElem_cons_zero, List.getElem_cons_succ]
                      refine under_free (i := 28) (v := ?_) rfl (by kernel_rfl) (fun _ _ _ h => h) _ _ _ _ (by kernel_rfl) (by kernel_rfl) (Or.inl ⟨by rfl, ?_⟩) ?_
                      rotate_left
                      · intro w _
                        go_simp
                        try with_reducible rfl
                      simp only [Act.put, List.setIfInBounds_toArray, List.set_cons_zero, List.set_cons_succ, List.getElem_toArray, List.getElem_cons_zero, List.getElem_cons_succ]
                      refine under_free (i := 29) (v := ?_) rfl (by kernel_rfl) (fun _ _ _ h => h) _ _ _ _ (by kernel_rfl) (by kernel_rfl) (Or.inl ⟨by rfl, ?_⟩) ?_
                      rotate_left
                      · intro w _
                        go_simp
                        try with_reducible rfl
                      simp only [Act.put, List.setIfInBounds_toArray, List.set_cons_zero, List.set_cons_succ, List.getElem_toArray, List.getElem_cons_zero, List.getElem_cons_succ]
                      refine under_free (i := 30) (v := ?_) rfl (by kernel_rfl) (fun _ _ _ h => h) _ _ _ _ (by kernel_rfl) (by kernel_rfl) (Or.inl ⟨by rfl, ?_⟩) ?_
                      rotate_left
                      · intro w _
                        go_simp
                        try with_reducible rfl
                      simp only [Act.put, List.setIfInBounds_toArray, List.set_cons_zero, List.set_cons_succ, List.getElem_toArray, List.getElem_cons_zero, List.getElem_cons_succ]
                      refine under_free (i := 31) (v := ?_) rfl (by kernel_rfl) (fun _ _ _ h => h) _ _ _ _ (by kernel_rfl) (by kernel_rfl) (Or.inl ⟨by rfl, ?_⟩) ?_
                      rotate_left
                      · intro w _
                        go_simp
                        try with_reducible rfl
                      simp only [Act.put, List.setIfInBounds_toArray, List.set_cons_zero, List.set_cons_succ, List.getElem_toArray, List.getElem_cons_zero, List.getElem_cons_succ]
                      refine under_take (i := 32) (v := ?_) rfl (by kernel_rfl) (by kernel_rfl) (fun _ _ _ h => h) _ _ _ _ (by kernel_rfl) (by kernel_rfl) (by kernel_rfl) (Or.inl ⟨by rfl, ?_⟩) hSS ?_
                      rotate_left
                      · intro w hSw
                        obtain ⟨q0, q1, q2, q3, q4⟩ := hSw
                        go_simp
                        try with_reducible rfl
                      simp only [Act.put, List.setIfInBounds_toArray, List.set_cons_zero, List.set_cons_succ, List.getElem_toArray, List.getElem_cons_zero, List.getElem_cons_succ]
                      refine under_one (i := 33) (by kernel_rfl) rfl ?_
                      intro K hK
                      go_simp
                      refine (tick_any hInv hTk 2 rfl S8).mono ?_
                      rw [htp]
                      rintro en w12 ⟨v12, rfl, S9⟩
                      obtain ⟨A12, c12, rfl⟩ := told_pr 0 rfl S9
                      replace S9 := S9.tail
                      refine hK _ _ (fun h => by cases h) ?_
                      clear hK K S8 hSS
                      simp only [List.setIfInBounds_toArray, List.set_cons_zero, List.set_cons_succ]
                      refine under_free (i := 34) (v := ?_) rfl (by kernel_rfl) (fun _ _ _ h => h) _ _ _ _ (by kernel_rfl) (by kernel_rfl) (Or.inl ⟨by rfl, ?_⟩) ?_
                      rotate_left
                      · intro w _
                        go_simp
                        try with_reducible rfl
                      simp only [Act.put, List.setIfInBounds_toArray, List.set_cons_zero, List.set_cons_succ, List.getElem_toArray, List.getElem_cons_zero, List.getElem_cons_succ]
                      refine under_free (i := 35) (v := ?_) rfl (by kernel_rfl) (fun _ _ _ h => h) _ _ _ _ (by kernel_rfl) (by kernel_rfl) (Or.inl ⟨by rfl, ?_⟩) ?_
                      rotate_left
                      · intro w _
                        go_simp
                        try with_reducible rfl
                      simp only [Act.put, List.setIfInBounds_toArray, List.set_cons_zero, List.set_cons_succ, List.getElem_toArray, List.getElem_cons_zero, List.getElem_cons_succ]
                      refine under_free (i := 36) (v := ?_) rfl (by kernel_rfl) (fun _ _ _ h => h) _ _ _ _ (by kernel_rfl) (by kernel_rfl) (Or.inl ⟨by rfl, ?_⟩) ?_
                      rotate_left
                      · intro w _
                        go_simp
                        try with_reducible rfl
                      simp only [Act.put, List.setIfInBounds_toArray, List.set_cons_zero, List.set_cons_succ, List.getElem_toArray, List.getElem_cons_zero, List.getElem_cons_succ]
                      refine under_done (by kernel_rfl) ?_ _
                      go_wp2_with fail
                      go_roundw
                      case measure => simp [intOf]
                      case rel =>
                        refine ⟨1 + 1, ⟨upd p.l true (tickS LR), p.wr, upd p.rd true (p.rd true ++ readB (p.l true) (gl : Int)), p.ws⟩, by decide, by go_num, Lib.hid ⟨fun s hs => ?_, HQ.out.2⟩, ?_⟩
                        · obtain hs | ⟨hs, -⟩ := hs
                          · cases hs
                          · cases hs
                        · exact Sep.closeP2 (p := ⟨upd p.l true (tickS LR), p.wr, upd p.rd true (p.rd true ++ readB (p.l true) (gl : Int)), p.ws⟩) ⟨g0, g1, .slice WA wn wc, vw1, vr0, .slice b7 mm d7, vy, vt⟩ S9
                    · have H5 := Lib.hid S5
                      clear S5
                      go_wp2_with fail
                      refine (carries_any _).mono ?_
                      rintro en w5 ⟨rfl, b5⟩
                      have S6 := H5.out.grow b5
                      go_wp2_with fail
                      go_ret
                      exact ⟨rfl, S6.below⟩
theorem comes_int (a : Int) (ha : 0 ≤ a) (l : List Sv) (A : Option Addr) (c : Nat) (ls : List Nat) (LA : Option Addr) (lc : Nat) (w : World) (hr : Reads w w.heap.size 4 A l.length (l.flatMap Sv.cs)) (hok : ∀ v ∈ l, v.ok w) (hls : RB w LA ls.length ls) (hlc : ls.length ≤ lc) :
    Calls Try.prog 6 #[.int .u32 a, .slice A l.length c, .slice LA ls.length lc] w fun en w' => en = .returned (.bool true) ∧ Below w.heap.size w w' := by
  obtain ⟨e, rfl⟩ := Int.eq_ofNat_of_zero_le ha
  exact comes_any e l A c ls LA lc w hr hok hls hlc
end Go.Proofs.Ytpgiljjjpijepaa
