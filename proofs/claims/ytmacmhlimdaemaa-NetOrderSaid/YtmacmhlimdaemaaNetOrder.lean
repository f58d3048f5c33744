/- The walk of NetOrder. -/
import Derived.Test.YtmacmhlimdaemaaNActs
import Derived.Deep.CutBlock
namespace Go.Proofs.Ytmacmhlimdaemaa.Net
open Go.RowKit Go.Proofs.YtmacmhlimdaemaaW.PrintWords Go.Proofs.Ytmacmhlimdaemaa.R Go.Proofs.Ytmacmhlimdaemaa.Pkt
theorem slice_last (A : Option Addr) (n c : Nat) (w : World) : (Instr.slice 55 (.slice A (n + 1) c) (some (.int .i64 (n : Int))) none none).run Try.prog w = .ok (.slice (subA A c n) 1 (c - n)) w := by
  have h := slice_lo A (n + 1) c n (by omega) w
  rwa [Nat.add_sub_cancel_left] at h
theorem slice_one (A : Option Addr) (n c q : Nat) (h : q + 1 ≤ c) (w : World) : (Instr.slice 55 (.slice A n c) (some (.int .i64 (q : Int))) (some (.int .i64 ((q : Int) + 1))) none).run Try.prog w = .ok (.slice (subA A c q) 1 (c - q)) w := by
  have h := slice_lh A n c q (q + 1) (by omega) h w
  rwa [Nat.add_sub_cancel_left, Int.natCast_succ] at h
theorem last_out (fs : List Fl) (x : Fl) (n : Nat) (hn : fs.length = n) : takeE (fs ++ [x]) (n : Int) = 0 ∧ takeS (fs ++ [x]) (n : Int) = fs := by
  have h : inF (fs ++ [x]) (n : Int) = true := decide_eq_true (by rw [List.length_append, hn]; simp; omega)
  unfold takeE takeS
  rw [if_pos h, if_pos h]
  refine ⟨rfl, ?_⟩
  subst hn
  rw [Int.toNat_natCast, List.eraseIdx_append_of_length_le (Nat.le_refl _)]
  simp
theorem erase_take (fs : List Fl) (q : Nat) (hq : q < fs.length) : (fs.eraseIdx q).take q = fs.take q := by
  rw [List.eraseIdx_eq_take_drop_succ, List.take_left' (by rw [List.length_take]; omega)]
theorem erase_drop (fs : List Fl) (q : Nat) (hq : q < fs.length) : (fs.eraseIdx q).drop q = fs.drop (q + 1) := by
  rw [List.eraseIdx_eq_take_drop_succ, List.drop_left' (by rw [List.length_take]; omega)]
theorem fr_single {w0 w : World} {L : List Asn} (f : Fl) (n : Nat) (hn : f.b.length = n) {g : Nat} {a : Option Addr} {c : Nat} (h : Sep w0 w L) (i : Nat) (hi : L[i]? = some (cell g 48 #[.int .i64 f.c, .bool f.d, .slice a n c])) (j : Nat) (hj : L[j]? = some (BRow (.slice a n c) f.b)) : FR w (some ⟨g, 0, none⟩) [f] := by
  subst hn
  obtain ⟨A, c', h1, h2, h3⟩ := reads_bytes (own_bytes h hj)
  injection h1 with e1 e2 e3
  subst e1 e3
  have hb := h.blk i hi
  refine ⟨[(.slice a f.b.length c, f)], rfl, ⟨rfl, fun _ => ⟨_, rfl, hb.lt, fun j u hu => ?_⟩⟩, fun e he => ?_⟩
  · have he : (⟨g, 0, none⟩ : Addr).add j = ⟨g, j, none⟩ := by unfold Addr.add; split <;> simp_all
    rw [he, hb.cell j, ← Array.getElem?_toList]
    exact hu
  · obtain rfl : e = (.slice a f.b.length c, f) := by simpa using he
    exact ⟨a, c, rfl, h2, h3⟩
theorem part_one (fs : List Fl) (q : Nat) (x : Fl) (hq : q < fs.length) (hx : fs.getD q zeroF = x) : (fs.take (q + 1)).drop q = [x] := by
  rw [getD_mem hq] at hx
  rw [List.take_add_one, List.getElem?_eq_getElem hq, hx, Option.toList_some, List.drop_left' (by rw [List.length_take]; omega)]
theorem dbl_three (fs : List Fl) (i : Int) {e : Int} (h : dblE fs i = e) : (e = 0 ∧ ∃ q : Nat, i = q ∧ q < fs.length ∧ fs.length < 256 ∧ dblS fs i = fs ++ [fs.getD q zeroF]) ∨ (e = 3 ∧ 256 ≤ fs.length ∧ dblS fs i = fs) ∨ (e = 5 ∧ dblS fs i = fs) := by
  subst h
  unfold dblE dblS
  by_cases h : 256 ≤ fs.length
  · rw [if_pos h, if_pos h]; exact .inr (.inl ⟨rfl, h, rfl⟩)
  · rw [if_neg h, if_neg h]
    by_cases h2 : inF fs i = true
    · rw [if_pos h2, if_pos h2]
      obtain ⟨n, rfl, hn⟩ := in_nat h2
      exact .inl ⟨rfl, n, rfl, hn, by omega, by rw [Int.toNat_natCast]⟩
    · rw [if_neg h2, if_neg h2]; exact .inr (.inr ⟨rfl, rfl⟩)
set_option maxRecDepth 100000 in
set_option maxHeartbeats 1000000 in
theorem netOrder_any (A : Option Addr) (c : Nat) (l : List Act) (i k : Int) (w : World) (hr : Reads w w.heap.size 7 A l.length (l.flatMap Act.cs)) (hok : ∀ x ∈ l, x.ok w) :
    Calls Try.prog 14 #[.slice A l.length c, .int .i64 i, .int .i64 k] w fun en w' => en = .returned (.bool true) ∧ Below w.heap.size w w' := by
  have HG := Lib.hid (great_any l A c w hr)
  have HR := Lib.hid hr
  have HO := Lib.hid hok
  obtain ⟨N, hN⟩ : ∃ N, l.length = N := ⟨_, rfl⟩
  have HN := Lib.hid hN
  rw [hN] at HG ⊢
  clear hr hok hN
  go_enter Try.func14, Try.ntmps14
  go_wp2_with fail
  refine HG.out.mono ?_
  rintro en w1 ⟨rfl, rfl⟩
  cases hg : greatB l with
  | true =>
    clear HG
    go_wp2_with fail
    refine (wakes_any _).mono ?_
    rintro en w1 ⟨rfl, hb⟩
    go_wp2_with fail
    go_ret
    exact ⟨rfl, hb⟩
  | false =>
    clear HG
    obtain ⟨hlen, hb⟩ := great_no hg
    have HB := Lib.hid hb
    rw [HN.out] at hlen
    clear hg hb
    go_wp2_with fail
    refine (new_any (Sep.start _)).mono ?_
    rintro en w1 ⟨g, rfl, hS⟩
    go_wp2_with fail
    go_loopw [8] (fun p wr => ∃ (j : Nat) (fs : List Fl), j ≤ N ∧ p = .int .i64 (j : Int) ∧ Hid (Good fs) ∧ Sep w wr [NetAt g fs 0]) (fun p _ => N - (intOf p).toNat)
    case atStart => exact ⟨0, [], Nat.zero_le _, rfl, Lib.hid Good.nil, hS⟩
    case round =>
      clear hS
      obtain ⟨j, fs, hj, rfl, hG, hS⟩ := hrel
      by_cases hlt : j < N
      · have hlt' : (j : Int) < (N : Int) := by omega
        have hjl : j < l.length := by have := HN.out; omega
        obtain ⟨b, o, rfl, hbB, hcell⟩ := (HR.out.below hS.below).elem (cells := Act.cs) (fun _ => rfl) (by decide) hjl
        have hka := HO.out _ (List.getElem_mem hjl)
        have hkb := HB.out _ (List.getElem_mem hjl)
        obtain ⟨a, hla⟩ : ∃ a, l[j] = a := ⟨_, rfl⟩
        rw [hla] at hcell hka hkb
        have r0 : wr.cell? ⟨b, o + j * 7, none⟩ = some (.int .i64 a.d) := hcell 0 _ rfl
        have r1 := hcell 1 _ rfl
        have r3 := hcell 3 _ rfl
        have r4 := hcell 4 _ rfl
        have r5 := hcell 5 _ rfl
        have s3 : (j : Int).toNat = j := rfl
        have s4 : (0 : Int) ≤ (j : Int) := by omega
        obtain ⟨m, hm⟩ : ∃ m, a.f.b.length = m := ⟨_, rfl⟩
        have HC := Lib.hid (Kd.C_below hka.fok.at_ hS.below)
        have Hcap := Lib.hid hka.fok.cap
        rw [hm] at r5 hkb HC Hcap
        have Hm := Lib.hid hm
        have Hkb := Lib.hid hkb
        clear hla hcell hjl hka hm hkb hbB
        obtain ⟨r, hrd⟩ : ∃ r, a.d = r := ⟨_, rfl⟩
        rw [hrd] at r0
        clear hrd
        go_upto_block 1 with (fail)
        go_cut [] (fun wx => ∃ fs : List Fl, Good fs ∧ Sep w wx [NetAt g fs 0])
        case first =>
          cases h0 : (r == 0) with
          | true =>
            go_wp2_with fail
            refine (send_any a.f a.A m a.c Hm.out (by have := Hkb.out; omega) HC.out Hcap.out 0 rfl hS).mono ?_
            rintro en w2 ⟨rfl, hS⟩
            go_wp2_with fail
            go_meet
            exact ⟨_, hG.out.send _ (by have := Hkb.out; have := Hm.out; omega), hS⟩
          | false =>
            cases h1 : (r == 1) with
            | true =>
              go_wp2_with fail
              refine (take_any a.i hG.out.small.1 0 rfl hS).mono ?_
              rintro en w2 ⟨v2, rfl, hS⟩
              go_wp2_with fail
              go_meet
              exact ⟨_, hG.out.take _, hS.tail⟩
            | false =>
              cases h2 : (r == 2) with
              | true =>
                go_wp2_with fail
                refine (lose_any a.i hG.out.small.1 0 rfl hS).mono ?_
                rintro en w2 ⟨rfl, hS⟩
                go_wp2_with fail
                go_meet
                exact ⟨_, hG.out.take _, hS⟩
              | false =>
                cases h3 : (r == 3) with
                | true =>
                  go_wp2_with fail
                  refine (double_any a.i hG.out.small.1 hG.out.small.2 0 rfl hS).mono ?_
                  rintro en w2 ⟨rfl, hS⟩
                  go_wp2_with fail
                  go_meet
                  exact ⟨_, hG.out.dbl _, hS⟩
                | false =>
                  go_wp2_with fail
                  go_meet
                  exact ⟨_, hG.out, hS⟩
        case rest =>
          clear hS hG
          obtain ⟨fs, hG, hS⟩ := hcut
          go_wp2_with fail
          go_roundw
          case measure => simp [intOf]; omega
          case rel => exact ⟨j + 1, fs, hlt, by go_num, hG, hS⟩
      · skip
        obtain ⟨n, hn⟩ : ∃ n, fs.length = n := ⟨_, rfl⟩
        have Hn := Lib.hid hn
        have hn3 : n ≤ 256 := hn ▸ hG.out.len
        clear hn
        go_wp2_with fail
        refine (flights_any hG.out.small.1 hG.out.small.2 0 rfl hS).mono ?_
        rintro en w1 ⟨v1, rfl, hS⟩
        obtain ⟨A1, c1, hv1, hc1, hm1, -, -⟩ := hS.fr 0 rfl
        rw [Hn.out] at hv1 hc1
        subst hv1
        go_wp2_with fail
        refine (double_any i hG.out.small.1 hG.out.small.2 1 rfl hS).mono ?_
        rintro en w2 ⟨rfl, hS⟩
        obtain ⟨e, he⟩ : ∃ e, dblE fs i = e := ⟨_, rfl⟩
        have HE := Lib.hid (dbl_three fs i he)
        rw [Hn.out] at HE
        rw [he]
        clear he
        go_upto_if 72 with (fail)
        go_cut [] (fun wx => Sep w wx [FlX (.slice A1 n c1) fs, NetAt g fs 0])
        case first =>
          rcases HE.out with ⟨rfl, q, rfl, hq, hn2, hs⟩ | ⟨rfl, -, hs⟩ | ⟨rfl, hs⟩
          · rw [hs] at hS
            replace hS : Sep w w2 [FlX (.slice A1 n c1) fs, NetAt g (fs ++ [fs.getD q zeroF]) 0] := hS
            clear hs
            go_wp2_with fail
            have hgp := hG.out.push (fs.getD q zeroF) (by have := Hn.out; rw [getD_mem (by omega)]; exact hG.out.b _ (List.getElem_mem _)) (by have := Hn.out; omega)
            refine (flights_any hgp.small.1 hgp.small.2 1 rfl hS).mono ?_
            rintro en w3 ⟨v2, rfl, hS⟩
            obtain ⟨A2, c2, hv2, hc2, hm2, -, -⟩ := hS.fr 0 rfl
            have hlen2 : (fs ++ [fs.getD q zeroF]).length = n + 1 := by rw [List.length_append, Hn.out]; rfl
            rw [hlen2] at hv2 hc2
            subst hv2
            obtain ⟨x, hx⟩ : ∃ x, fs.getD q zeroF = x := ⟨_, rfl⟩
            have Hx := Lib.hid hx
            rw [hx] at hS hgp hlen2
            have HF2 : Hid (∀ W, FR W A2 (fs ++ [x]) → FR W A2 fs) := Lib.hid fun W h => by have := h.take n; rwa [List.take_left' Hn.out] at this
            have HF3 : Hid (∀ W, FR W A2 (fs ++ [x]) → FR W (subA A2 c2 n) [x]) := Lib.hid fun W h => by have := h.drop n c2 (by omega) (by omega); rwa [List.drop_left' Hn.out] at this
            have HF4 : Hid (∀ W, FR W A1 fs → FR W (subA A1 c1 q) [x]) := Lib.hid fun W h => by
              have := (h.take (q + 1)).drop q c1 (by have := Hn.out; rw [List.length_take]; omega) (by have := Hn.out; rw [List.length_take]; omega)
              rwa [part_one fs q x (by have := Hn.out; omega) hx] at this
            have e1 := slice_hi A2 (n + 1) c2 n (by omega)
            have e2 := slice_last A2 n c2
            have e3 := slice_one A1 n c1 q (by omega)
            have i2 : IntKind.i64.wrap ((q : Int) + 1) = (q : Int) + 1 := IntWalk.i64_in _ (by omega)
            have i3 : IntKind.i64.wrap ((n : Int) + 1) = (n : Int) + 1 := IntWalk.i64_in _ (by omega)
            clear hx hc2 hm2 hlen2
            go_upto_region 20 with (fail)
            have hSd := hS.drew
            have f1 := HF2.out _ (hSd.fr2 0 rfl).1
            have f2 := (hSd.fr2 (A := A1) (n := n) (c := c1) (fs := fs) 1 rfl).1
            have F3 := Lib.hid (alike_parts (ca := c2) (cb := c1) Hn.out f1 f2 (by omega) hSd)
            clear f1 f2 hSd hS
            go_region_held3 (fun w' => True) (exact trivial) (first | (have f7 := lose_any (n : Int) hgp.small.1 2 rfl hS5; rw [(last_out fs x n Hn.out).1, (last_out fs x n Hn.out).2] at f7; go_at_call 34; refine f7.mono ?_; clear f7; rintro en w6 ⟨rfl, hS6⟩) | (have f4 := HF3.out _ (hS4.fr2 (A := A2) (n := n + 1) (c := c2) (fs := fs ++ [x]) 0 rfl).1; have f5 := HF4.out _ (hS4.fr2 (A := A1) (n := n) (c := c1) (fs := fs) 1 rfl).1; have f6 := alike_parts (n := 1) (ca := c2 - n) (cb := c1 - q) rfl f4 f5 (by omega) hS4; clear f4 f5; go_at_call 37; refine f6.mono ?_; clear f6; rintro en w5 ⟨rfl, hS5⟩) | (go_at_call 37; refine F3.out.mono ?_; rintro en w4 ⟨rfl, hS4⟩))
            go_wp2_with fail
            go_meet
            exact hS6.tail
          · rw [hs] at hS
            clear hs
            go_wp2_with fail
            go_meet
            exact hS
          · rw [hs] at hS
            clear hs
            go_wp2_with fail
            go_meet
            exact hS
        case rest =>
          clear hS
          have hS := hcut
          clear hcut
          go_upto_region 22 with (fail)
          go_cut [131] (fun t wx => t = .bool false ∧ Sep w wx [FlX (.slice A1 n c1) fs, NetAt g fs 0])
          case first =>
            go_wp2_with fail
            refine (flights_any hG.out.small.1 hG.out.small.2 1 rfl hS).mono ?_
            rintro en w3 ⟨v3, rfl, hS⟩
            obtain ⟨A3, c3, hv3, -, -, -, -⟩ := hS.fr 0 rfl
            rw [Hn.out] at hv3
            subst hv3
            go_wp2_with fail
            have f1 := (hS.fr2 (A := A3) (n := n) (c := c3) (fs := fs) 0 rfl).1
            have f2 := (hS.fr2 (A := A1) (n := n) (c := c1) (fs := fs) 1 rfl).1
            have f3 := alike_parts (ca := c3) (cb := c1) Hn.out f1 f2 (by omega) hS
            clear f1 f2
            refine f3.mono ?_
            clear f3
            rintro en w4 ⟨rfl, hS⟩
            rcases HE.out with ⟨rfl, -⟩ | ⟨rfl, h256, -⟩ | ⟨rfl, -⟩
            · go_wp2_with fail
              go_meet
              exact ⟨rfl, hS.tail⟩
            · have h1 : (n : Int) = 256 := by omega
              go_wp2_with fail
              go_meet
              exact ⟨rfl, hS.tail⟩
            · go_wp2_with fail
              go_meet
              exact ⟨rfl, hS.tail⟩
          case rest =>
            clear hS HE
            obtain ⟨rfl, hS⟩ := hcut
            go_wp2_with fail
            refine (take_any k hG.out.small.1 1 rfl hS).mono ?_
            cases hk : inF fs k with
            | false =>
              have hte : takeE fs k = 5 := by unfold takeE; rw [hk]; rfl
              have hts : takeS fs k = fs := by unfold takeS; rw [hk]; rfl
              rw [hte, hts]
              clear hte hts
              generalize takeF fs k = x
              rintro en w5 ⟨v5, rfl, hS⟩
              have hkn : k < 0 ∨ (n : Int) ≤ k := by have := of_decide_eq_false hk; have := Hn.out; omega
              obtain ⟨m5, hm5⟩ : ∃ m, x.b.length = m := ⟨_, rfl⟩
              obtain ⟨a5, c5, rfl, -, -⟩ := own_slice (own_n m5 hm5 hS 0 rfl)
              obtain ⟨W6, hW6, S6⟩ := hS.boxedF 48 #[.int .i64 x.c, .bool x.d, .slice a5 m5 c5]
              clear hS hk hm5
              go_upto_if 139 with (
                refine wpList_store_row rfl 48 (.tmp 12) (.tmp 136) rfl w5.heap.size #[.int .i64 x.c, .bool x.d, .slice a5 m5 c5] rfl rfl 48 _ (Blk.new _ _ _) size48 rfl (fl_one _ _ _ _ _) ?_
                rw [World.setRow_alloc_new, hW6]
                clear hW6)
              rcases hkn with hk | hk
              · have d0 : decide (k < 0) = true := decide_eq_true hk
                go_wp2_with fail
                refine (flights_any hG.out.small.1 hG.out.small.2 3 rfl S6).mono ?_
                rintro en w7 ⟨v7, rfl, hS⟩
                obtain ⟨A7, c7, hv7, -, -, -, -⟩ := hS.fr 0 rfl
                rw [Hn.out] at hv7
                subst hv7
                go_wp2_with fail
                have f1 := (hS.fr2 (A := A7) (n := n) (c := c7) (fs := fs) 0 rfl).1
                have f2 := (hS.fr2 (A := A1) (n := n) (c := c1) (fs := fs) 3 rfl).1
                have f3 := alike_parts (ca := c7) (cb := c1) Hn.out f1 f2 (by omega) hS
                clear f1 f2
                refine f3.mono ?_
                clear f3
                rintro en w8 ⟨rfl, hS⟩
                go_wp2_with fail
                refine (wakes_any _).mono ?_
                rintro en w9 ⟨rfl, hb⟩
                go_wp2_with fail
                go_ret
                exact ⟨rfl, (hS.grow hb).below⟩
              · have hk0 : ¬ k < 0 := by omega
                have d0 : decide (k < 0) = false := decide_eq_false hk0
                have d1 : decide ((n : Int) ≤ k) = true := decide_eq_true hk
                go_wp2_with fail
                refine (flights_any hG.out.small.1 hG.out.small.2 3 rfl S6).mono ?_
                rintro en w7 ⟨v7, rfl, hS⟩
                obtain ⟨A7, c7, hv7, -, -, -, -⟩ := hS.fr 0 rfl
                rw [Hn.out] at hv7
                subst hv7
                go_wp2_with fail
                have f1 := (hS.fr2 (A := A7) (n := n) (c := c7) (fs := fs) 0 rfl).1
                have f2 := (hS.fr2 (A := A1) (n := n) (c := c1) (fs := fs) 3 rfl).1
                have f3 := alike_parts (ca := c7) (cb := c1) Hn.out f1 f2 (by omega) hS
                clear f1 f2
                refine f3.mono ?_
                clear f3
                rintro en w8 ⟨rfl, hS⟩
                go_wp2_with fail
                refine (wakes_any _).mono ?_
                rintro en w9 ⟨rfl, hb⟩
                go_wp2_with fail
                go_ret
                exact ⟨rfl, (hS.grow hb).below⟩
            | true =>
              obtain ⟨q, rfl, hq⟩ := in_nat hk
              have hte : takeE fs (q : Int) = 0 := by unfold takeE; rw [hk]; rfl
              have hts : takeS fs (q : Int) = fs.eraseIdx q := by unfold takeS; rw [hk]; rfl
              have htf : takeF fs (q : Int) = fs.getD q zeroF := by unfold takeF; rw [hk]; rfl
              rw [hte, hts, htf]
              clear hte hts htf hk
              rintro en w5 ⟨v5, rfl, hS⟩
              obtain ⟨x, hx⟩ : ∃ x, fs.getD q zeroF = x := ⟨_, rfl⟩
              have Hx := Lib.hid hx
              rw [hx] at hS ⊢
              have hqn : q < n := by have := Hn.out; omega
              obtain ⟨m5, hm5⟩ : ∃ m, x.b.length = m := ⟨_, rfl⟩
              obtain ⟨a5, c5, rfl, -, -⟩ := own_slice (own_n m5 hm5 hS 0 rfl)
              obtain ⟨W6, hW6, S6⟩ := hS.boxedF 48 #[.int .i64 x.c, .bool x.d, .slice a5 m5 c5]
              have Hm5 := Lib.hid hm5
              obtain ⟨bx, hbx⟩ : ∃ bx, w5.heap.size = bx := ⟨_, rfl⟩
              rw [hbx] at S6
              have hgt : Good (fs.eraseIdx q) := ⟨by rw [List.length_eraseIdx_of_lt hq]; have := hG.out.len; omega, fun f hf => hG.out.b f (List.mem_of_mem_eraseIdx hf)⟩
              have HGt := Lib.hid hgt
              clear hS hm5 hx hgt hq
              go_wp2_with (
                refine wpList_store_row rfl 48 (.tmp 12) (.tmp 136) rfl w5.heap.size #[.int .i64 x.c, .bool x.d, .slice a5 m5 c5] rfl rfl 48 _ (Blk.new _ _ _) size48 rfl (fl_one _ _ _ _ _) ?_
                rw [World.setRow_alloc_new, hW6, hbx]
                clear hW6)
              refine (flights_any HGt.out.small.1 HGt.out.small.2 3 rfl S6).mono ?_
              rintro en w7 ⟨v7, rfl, hS⟩
              obtain ⟨A7, c7, hv7, hc7, hm7, -, -⟩ := hS.fr 0 rfl
              obtain ⟨m7, hn7⟩ : ∃ m7, (fs.eraseIdx q).length = m7 := ⟨_, rfl⟩
              rw [hn7] at hv7 hc7
              have hnm : n = m7 + 1 := by rw [← hn7, List.length_eraseIdx_of_lt (by have := Hn.out; omega)]; have := Hn.out; omega
              obtain ⟨r, hr⟩ : ∃ r, m7 = q + r := ⟨m7 - q, by omega⟩
              subst hv7
              have i2 : IntKind.i64.wrap ((q : Int) + 1) = (q : Int) + 1 := IntWalk.i64_in _ (by omega)
              have i3 : IntKind.i64.wrap ((n : Int) - 1) = (m7 : Int) := by rw [IntWalk.i64_in _ (by omega)]; omega
              have e1 := slice_one A1 n c1 q (by omega)
              have e2 := slice_hi A7 m7 c7 q (by omega)
              have e3 := slice_hi A1 n c1 q (by omega)
              have e4 : ∀ w, (Instr.slice 55 (.slice A7 m7 c7) (some (.int .i64 (q : Int))) none none).run Try.prog w = .ok (.slice (subA A7 c7 q) r (c7 - q)) w := fun w => by
                have := slice_lo A7 m7 c7 q (by omega) w
                rwa [show m7 - q = r by omega] at this
              have e5 : ∀ w, (Instr.slice 55 (.slice A1 n c1) (some (.int .i64 ((q : Int) + 1))) none none).run Try.prog w = .ok (.slice (subA A1 c1 (q + 1)) r (c1 - (q + 1))) w := fun w => by
                have := slice_lo A1 n c1 (q + 1) (by omega) w
                rwa [show n - (q + 1) = r by omega, Int.natCast_succ] at this
              have HF1 : Hid (∀ W, FR W A1 fs → FR W (subA A1 c1 q) [x]) := Lib.hid fun W h => by
                have := (h.take (q + 1)).drop q c1 (by have := Hn.out; rw [List.length_take]; omega) (by have := Hn.out; rw [List.length_take]; omega)
                rwa [part_one fs q x (by have := Hn.out; omega) Hx.out] at this
              have HF2 : Hid (∀ W, FR W A7 (fs.eraseIdx q) → FR W A7 (fs.take q)) := Lib.hid fun W h => by
                have := h.take q
                rwa [erase_take fs q (by have := Hn.out; omega)] at this
              have HF3 : Hid (∀ W, FR W A7 (fs.eraseIdx q) → FR W (subA A7 c7 q) (fs.drop (q + 1))) := Lib.hid fun W h => by
                have := h.drop q c7 (by omega) (by omega)
                rwa [erase_drop fs q (by have := Hn.out; omega)] at this
              have HF4 : Hid (∀ W, FR W A1 fs → FR W (subA A1 c1 (q + 1)) (fs.drop (q + 1))) := Lib.hid fun W h => h.drop (q + 1) c1 (by have := Hn.out; omega) (by have := Hn.out; omega)
              have hl2 : Hid ((fs.take q).length = q) := Lib.hid (by have := Hn.out; rw [List.length_take]; omega)
              have hl3 : Hid ((fs.drop (q + 1)).length = r) := Lib.hid (by have := Hn.out; rw [List.length_drop]; omega)
              have r0 := (hS.blk 1 rfl).at_ 0 rfl
              have r1 := (hS.blk 1 rfl).at_ 1 rfl
              have r2 := (hS.blk 1 rfl).at_ 2 rfl
              have HK := Lib.hid (fun (w' : World) (h0 : Blk w' bx 48 #[.int .i64 x.c, .bool x.d, .slice a5 m5 c5]) => And.intro (h0.at_ 0 rfl) (And.intro (h0.at_ 1 rfl) (h0.at_ 2 rfl)))
              have S8 := (hS.boxF 48 #[.int .i64 x.c, .bool x.d, .slice a5 m5 c5]).drew
              have F1 := Lib.hid (alike_parts (n := 1) (ca := 1) (cb := c1 - q) rfl (fr_single x m5 Hm5.out S8 0 rfl 3 rfl) (HF1.out _ (S8.fr2 (A := A1) (n := n) (c := c1) (fs := fs) 4 rfl).1) (by omega) S8)
              have Hrb := Lib.hid (show r < 1000000 by omega)
              have Hqb := Lib.hid (show q < 1000000 by omega)
              clear hn7 hc7 hm7 hS S8 hnm hr
              go_upto_region 28 with (fail)
              go_region_held3 (fun w' => w'.cell? ⟨bx, 0, none⟩ = some (.int .i64 x.c) ∧ w'.cell? ⟨bx, 1, none⟩ = some (.bool x.d) ∧ w'.cell? ⟨bx, 2, none⟩ = some (.slice a5 m5 c5))
                (first | exact HK.out _ (hS13.blk 2 rfl) | exact HK.out _ (hS12.blk 2 rfl) | exact HK.out _ (hS11.blk 2 rfl) | exact HK.out _ (hS10.blk 2 rfl) | (with_reducible exact ⟨r0, r1, r2⟩) | go_keep)
                (first | (have hq := hS12; clear hq; go_at_call 30; refine (wakes_any _).mono ?_; rintro en w13 ⟨rfl, hb13⟩; have hS13 := hS12.grow hb13) | (have f4 := HF3.out _ (hS11.fr2 (A := A7) (n := m7) (c := c7) (fs := fs.eraseIdx q) 1 rfl).1; have f5 := HF4.out _ (hS11.fr2 (A := A1) (n := n) (c := c1) (fs := fs) 4 rfl).1; have f6 := alike_parts (ca := c7 - q) (cb := c1 - (q + 1)) hl3.out f4 f5 Hrb.out hS11; clear f4 f5; go_at_call 37; refine f6.mono ?_; clear f6; rintro en w12 ⟨rfl, hS12⟩) | (have f4 := HF2.out _ (hS10.fr2 (A := A7) (n := m7) (c := c7) (fs := fs.eraseIdx q) 1 rfl).1; have f5 := (hS10.fr2 (A := A1) (n := n) (c := c1) (fs := fs) 4 rfl).1.take q; have f6 := alike_parts (ca := c7) (cb := c1) hl2.out f4 f5 Hqb.out hS10; clear f4 f5; go_at_call 37; refine f6.mono ?_; clear f6; rintro en w11 ⟨rfl, hS11⟩) | (go_at_call 37; refine F1.out.mono ?_; rintro en w10 ⟨rfl, hS10⟩))
              go_wp2_with fail
              go_ret
              exact ⟨rfl, hS13.below⟩
end Go.Proofs.Ytmacmhlimdaemaa.Net
