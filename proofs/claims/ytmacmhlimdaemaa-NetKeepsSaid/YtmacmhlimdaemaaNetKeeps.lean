/- The walk of NetKeeps. -/
import Derived.Test.YtmacmhlimdaemaaNKPure
import Derived.Deep.CutBlock
namespace Go.Proofs.Ytmacmhlimdaemaa.Net
open Go.RowKit Go.Proofs.YtmacmhlimdaemaaW.PrintWords Go.Proofs.Ytmacmhlimdaemaa.R Go.Proofs.Ytmacmhlimdaemaa.Pkt
def OldE (w : World) (e : Ent) : Prop := ∃ B c, e.1 = .slice B e.2.b.length c ∧ e.2.b.length ≤ c ∧ Kd.C (Kd.int .u8) w B e.2.b.length e.2.b
structure KP (w : World) (fs : List Fl) (es : List Ent) (ls : List Int) (j : Nat) : Prop where
  good : Good fs
  inv : Inv fs (es.map (·.2)) ls
  rf : ∀ f ∈ fs, ∀ x ∈ f.b, 0 ≤ x ∧ x < 256
  rs : ∀ e ∈ es, ∀ x ∈ e.2.b, 0 ≤ x ∧ x < 256
  old : ∀ e ∈ es, OldE w e
  le : es.length ≤ j
theorem KP.up {w : World} {fs : List Fl} {es : List Ent} {ls : List Int} {j : Nat} (h : KP w fs es ls j) : KP w fs es ls (j + 1) := ⟨h.good, h.inv, h.rf, h.rs, h.old, by have := h.le; omega⟩
theorem KP.send {w : World} {fs : List Fl} {es : List Ent} {ls : List Int} {j : Nat} (h : KP w fs es ls j) (a : Act) (ha : a.ok w) (hb : a.f.b.length ≤ 2000) (hl : fs.length < 256) : KP w (fs ++ [a.f]) (es ++ [(.slice a.A a.f.b.length a.c, a.f)]) (ls ++ [1]) (j + 1) := by
  refine ⟨h.good.push _ hb hl, by rw [List.map_append]; exact h.inv.send _, fun f hf => ?_, fun e he => ?_, fun e he => ?_, by rw [List.length_append]; have := h.le; simp; omega⟩
  · rcases List.mem_append.1 hf with hf | hf
    · exact h.rf f hf
    · obtain rfl : f = a.f := by simpa using hf
      exact ha.fok.b
  · rcases List.mem_append.1 he with he | he
    · exact h.rs e he
    · obtain rfl : e = (.slice a.A a.f.b.length a.c, a.f) := by simpa using he
      exact ha.fok.b
  · rcases List.mem_append.1 he with he | he
    · exact h.old e he
    · obtain rfl : e = (.slice a.A a.f.b.length a.c, a.f) := by simpa using he
      exact ⟨_, _, rfl, ha.fok.cap, ha.fok.at_⟩
theorem KP.take {w : World} {fs : List Fl} {es : List Ent} {ls : List Int} {j q i : Nat} {f : Fl} {x : Int} (h : KP w fs es ls j) (hq : fs[q]? = some f) (hi : (es.map (·.2))[i]? = some f) (hx : ls[i]? = some x) (h0 : 0 < x) : KP w (fs.eraseIdx q) es (ls.set i (x + -1)) (j + 1) :=
  ⟨⟨by rw [List.length_eraseIdx_of_lt (List.getElem?_eq_some_iff.1 hq).1]; have := h.good.len; omega, fun f hf => h.good.b f (List.mem_of_mem_eraseIdx hf)⟩, h.inv.take hq hi hx h0, fun f hf => h.rf f (List.mem_of_mem_eraseIdx hf), h.rs, h.old, by have := h.le; omega⟩
theorem KP.dbl {w : World} {fs : List Fl} {es : List Ent} {ls : List Int} {j i : Nat} {f : Fl} {x : Int} (h : KP w fs es ls j) (hq : f ∈ fs) (hl : fs.length < 256) (hi : (es.map (·.2))[i]? = some f) (hx : ls[i]? = some x) (h0 : 0 < x) : KP w (fs ++ [f]) es (ls.set i (x + 1)) (j + 1) :=
  ⟨h.good.push _ (h.good.b f hq) hl, h.inv.dbl hi hx h0, fun g hg => by
    rcases List.mem_append.1 hg with hg | hg
    · exact h.rf g hg
    · obtain rfl : g = f := by simpa using hg
      exact h.rf g hq, h.rs, h.old, by have := h.le; omega⟩
theorem KP.left {w : World} {fs : List Fl} {es : List Ent} {ls : List Int} {j : Nat} (h : KP w fs es ls j) : ∀ x ∈ ls, 0 ≤ x ∧ x ≤ 1000 := fun x hx => by
  have := sumL_le ls h.inv.nn x hx
  have := h.inv.sum
  have := h.inv.nn x hx
  have := h.good.len
  omega
theorem dbl_ways (fs : List Fl) (i : Int) {e : Int} (h : dblE fs i = e) : (e = 0 ∧ ∃ q : Nat, i = q ∧ q < fs.length ∧ fs.length < 256 ∧ dblS fs i = fs ++ [fs.getD q zeroF]) ∨ (e = 3 ∧ 256 ≤ fs.length ∧ dblS fs i = fs) ∨ (e = 5 ∧ dblS fs i = fs) := by
  subst h
  unfold dblE dblS
  by_cases h : 256 ≤ fs.length
  · rw [if_pos h, if_pos h]; exact .inr (.inl ⟨rfl, h, rfl⟩)
  · rw [if_neg h, if_neg h]
    by_cases h2 : inF fs i = true
    · rw [if_pos h2, if_pos h2]
      obtain ⟨n, rfl, hn⟩ := in_nat h2
      exact .inl ⟨rfl, n, rfl, hn, by omega, by rw [Int.toNat_natCast]⟩
    · rw [if_neg h2, if_neg h2]; exact .inr (.inr ⟨rfl, rfl⟩)
theorem info3 : (Try.prog.info? 3).map (fun i => (i.zero, i.size, i.bytes)) = some (some (.int .i64 0), 1, 8) := by kernel_rfl
theorem size50 : (Try.prog.info? 50).map (·.size) = some 7 := by kernel_rfl
theorem act_cells (a b d e : Int) (f : Bool) (A : Option Addr) (n m : Nat) (g : Int) : #[Value.int .i64 a, .int .i64 b, .int .i64 d, .int .i64 e, .bool f, .slice A n m, .int .u8 g].all (·.oneCell') = true := by kernel_rfl
section
variable {w0 w w' : World} {L M : List Asn}
theorem fr_old {v : Value} {es : List Ent} (h : Sep w0 w L) (i : Nat) (hi : L[i]? = some (rowX 48 3 v es.length (entC es))) (ho : ∀ e ∈ es, OldE w0 e) : ∃ A c, v = .slice A es.length c ∧ FR w A (es.map (·.2)) := by
  have ox := h.ownX i hi
  have hb : ∀ e ∈ es, ∃ B c, e.1 = .slice B e.2.b.length c ∧ e.2.b.length ≤ c ∧ Kd.C (Kd.int .u8) w B e.2.b.length e.2.b := fun e he => by
    obtain ⟨B, c, h1, h2, h3⟩ := ho e he
    exact ⟨B, c, h1, h2, Kd.C_below h3 h.below⟩
  rcases Nat.eq_zero_or_pos es.length with h0 | h0
  · obtain ⟨a, c, hv, h1, h2⟩ := ox.slice
    exact ⟨a, c, hv, ⟨es, rfl, ⟨ox.1, fun hn => by omega⟩, hb⟩⟩
  · obtain ⟨b, c, hv, h1, h2⟩ := ox.form h0
    subst hv
    have hlt : b < w.heap.size := by
      have hc := ox.cells (g := b) rfl 0 _ (List.getElem?_eq_getElem (by rw [entC_len]; omega))
      exact World.block_lt_of_cell? w ⟨b, 0, none⟩ hc
    refine ⟨some ⟨b, 0, none⟩, c, rfl, ⟨es, rfl, ⟨ox.1, fun hn => ?_⟩, hb⟩⟩
    obtain ⟨ad, e1, _, e2⟩ := ox.reads.2 hn
    injection e1 with e1
    subst e1
    exact ⟨_, rfl, hlt, e2⟩
end
set_option maxRecDepth 100000 in
set_option maxHeartbeats 1000000 in
theorem netKeeps_any (A : Option Addr) (c : Nat) (l : List Act) (w : World) (hr : Reads w w.heap.size 7 A l.length (l.flatMap Act.cs)) (hok : ∀ x ∈ l, x.ok w) :
    Calls Try.prog 15 #[.slice A l.length c] w fun en w' => en = .returned (.bool true) ∧ Below w.heap.size w w' := by
  have HG := Lib.hid (great_any l A c w hr)
  have HR := Lib.hid hr
  have HO := Lib.hid hok
  obtain ⟨N, hN⟩ : ∃ N, l.length = N := ⟨_, rfl⟩
  have HN := Lib.hid hN
  rw [hN] at HG ⊢
  clear hr hok hN
  go_enter Try.func15, Try.ntmps15
  go_wp2_with fail
  refine HG.out.mono ?_
  rintro en w1 ⟨rfl, rfl⟩
  cases hg : greatB l with
  | true =>
    clear HG
    go_wp2_with fail
    refine (wakes_any _).mono ?_
    rintro en w1 ⟨rfl, hb⟩
    go_wp2_with fail
    go_ret
    exact ⟨rfl, hb⟩
  | false =>
    clear HG
    obtain ⟨hlen, hb⟩ := great_no hg
    have HB := Lib.hid hb
    rw [HN.out] at hlen
    clear hg hb
    go_wp2_with fail
    refine (new_any (Sep.start _)).mono ?_
    rintro en w1 ⟨g, rfl, hS⟩
    replace hS := (hS.nilX 3 1).nilX 48 3
    go_wp2_with fail
    go_loopw [4, 5, 6] (fun s t p wr => ∃ (j : Nat) (fs : List Fl) (es : List Ent) (ls : List Int), j ≤ N ∧ p = .int .i64 (j : Int) ∧ Hid (KP w fs es ls j) ∧ Sep w wr [rowX 48 3 s es.length (entC es), rowX 3 1 t ls.length (ls.map enI), NetAt g fs 0]) (fun _ _ p _ => N - (intOf p).toNat)
    case atStart => exact ⟨0, [], [], [], Nat.zero_le _, rfl, Lib.hid ⟨Good.nil, Inv.nil, by simp, by simp, by simp, Nat.le_refl _⟩, hS⟩
    case round =>
      clear hS
      obtain ⟨j, fs, es, ls, hj, rfl, hK, hS⟩ := hrel
      by_cases hlt : j < N
      · have hlt' : (j : Int) < (N : Int) := by omega
        have hjl : j < l.length := by have := HN.out; omega
        obtain ⟨b, o, rfl, hbB, hcell⟩ := (HR.out.below hS.below).elem (cells := Act.cs) (fun _ => rfl) (by decide) hjl
        have hka := HO.out _ (List.getElem_mem hjl)
        have hkb := HB.out _ (List.getElem_mem hjl)
        obtain ⟨a, hla⟩ : ∃ a, l[j] = a := ⟨_, rfl⟩
        rw [hla] at hcell hka hkb
        have Hka := Lib.hid hka
        obtain ⟨m, hm⟩ : ∃ m, a.f.b.length = m := ⟨_, rfl⟩
        have r0 : wr.cell? ⟨b, o + j * 7, none⟩ = some (.int .i64 a.d) := hcell 0 _ rfl
        have r1 := hcell 1 _ rfl
        have r2 := hcell 2 _ rfl
        have r3 := hcell 3 _ rfl
        have r4 := hcell 4 _ rfl
        have r5 := hcell 5 _ rfl
        have r6 := hcell 6 _ rfl
        have s3 : (j : Int).toNat = j := rfl
        have s4 : (0 : Int) ≤ (j : Int) := by omega
        rw [hm] at r5 hkb
        have Hm := Lib.hid hm
        have Hkb := Lib.hid hkb
        obtain ⟨W, hW, S1⟩ := hS.boxedF 50 #[.int .i64 a.d, .int .i64 a.i, .int .i64 a.pl, .int .i64 a.f.c, .bool a.f.d, .slice a.A m a.c, .int .u8 a.by_]
        obtain ⟨gx, hgx⟩ : ∃ gx, wr.heap.size = gx := ⟨_, rfl⟩
        rw [hgx] at S1
        clear hla hcell hjl hka hm hkb hbB hS
        go_wp2_with (
          refine wpList_store_row rfl 50 (.tmp 7) (.tmp 26) rfl wr.heap.size #[.int .i64 a.d, .int .i64 a.i, .int .i64 a.pl, .int .i64 a.f.c, .bool a.f.d, .slice a.A m a.c, .int .u8 a.by_] rfl rfl 50 _ (Blk.new _ _ _) size50 rfl (act_cells _ _ _ _ _ _ _ _ _) ?_
          rw [World.setRow_alloc_new, hW, hgx]
          clear hW r0 r1 r2 r3 r4 r5 r6)
        clear hgx
        refine (flights_any hK.out.good.small.1 hK.out.good.small.2 3 rfl S1).mono ?_
        rintro en w2 ⟨v8, rfl, hS⟩
        clear S1
        obtain ⟨n, hn⟩ : ∃ n, fs.length = n := ⟨_, rfl⟩
        have Hn := Lib.hid hn
        obtain ⟨A8, c8, hv8, hc8, hm8, -, -⟩ := hS.fr 0 rfl
        rw [hn] at hv8 hc8
        subst hv8
        clear hn
        have x0 : w2.cell? ⟨gx, 0, none⟩ = some (.int .i64 a.d) := (hS.blk 1 rfl).at_ 0 rfl
        go_upto_block 2 with (fail)
        clear x0
        obtain ⟨r, hrd⟩ : ∃ r, a.d = r := ⟨_, rfl⟩
        rw [hrd] at hS ⊢
        clear hrd
        go_cut [4, 5] (fun s t wx => ∃ (fs : List Fl) (es : List Ent) (ls : List Int), KP w fs es ls (j + 1) ∧ Sep w wx [rowX 48 3 s es.length (entC es), rowX 3 1 t ls.length (ls.map enI), NetAt g fs 0])
        case first =>
          have hx := hS.blk 1 rfl
          have x1 : w2.cell? ⟨gx, 1, none⟩ = some (.int .i64 a.i) := hx.at_ 1 rfl
          have x3 : w2.cell? ⟨gx, 3, none⟩ = some (.int .i64 a.f.c) := hx.at_ 3 rfl
          have x4 : w2.cell? ⟨gx, 4, none⟩ = some (.bool a.f.d) := hx.at_ 4 rfl
          have x5 : w2.cell? ⟨gx, 5, none⟩ = some (.slice a.A m a.c) := hx.at_ 5 rfl
          clear hx
          cases h0 : (r == 0) with
          | true =>
            have HC := Lib.hid (Kd.C_below Hka.out.fok.at_ hS.below)
            have Hcap := Lib.hid Hka.out.fok.cap
            rw [Hm.out] at HC Hcap
            go_wp2_with fail
            clear x1 x3 x4 x5
            refine (send_any a.f a.A m a.c Hm.out (by have := Hkb.out; omega) HC.out Hcap.out 4 rfl hS).mono ?_
            by_cases hf : fs.length < 256
            · have hse : sendE fs = 0 := by unfold sendE; rw [if_pos hf]
              have hss : sendS fs a.f = fs ++ [a.f] := by unfold sendS; rw [if_pos hf]
              rw [hse, hss]
              have Hf := Lib.hid hf
              clear hse hss hf
              rintro en w3 ⟨rfl, hS⟩
              obtain ⟨W4, hW4, S4⟩ := hS.boxedF 48 #[.int .i64 a.f.c, .bool a.f.d, .slice a.A m a.c]
              have hx : Blk w3 gx 50 #[.int .i64 r, .int .i64 a.i, .int .i64 a.pl, .int .i64 a.f.c, .bool a.f.d, .slice a.A m a.c, .int .u8 a.by_] := hS.blk 1 rfl
              have x3 := hx.at_ 3 rfl
              have x4 := hx.at_ 4 rfl
              have x5 := hx.at_ 5 rfl
              have O4 := Lib.hid (S4.ownX (e := 48) (size := 3) 3 rfl)
              have R4 := Lib.hid (Reads.of_blk (n := 1) (size := 3) (S4.blk 0 rfl) rfl)
              have HS4 := Lib.hid S4
              have hle := hK.out.le
              have Hm1 : Hid (es.length + 1 ≤ maxLen) := Lib.hid (by unfold maxLen; omega)
              have Hm2 : Hid ((es.length + 1) * 40 ≤ 140737488355328) := Lib.hid (by omega)
              have hll : ls.length = es.length := by rw [hK.out.inv.len, List.length_map]
              have Hm3 : Hid (ls.length + 1 ≤ maxLen) := Lib.hid (by unfold maxLen; omega)
              have Hm4 : Hid ((ls.length + 1) * 8 ≤ 140737488355328) := Lib.hid (by omega)
              obtain ⟨i48, hi48, hz0, hz1, hz2⟩ := info_parts info48
              have Hi := Lib.hid hi48
              have Hz0 := Lib.hid hz0
              have Hz1 := Lib.hid hz1
              have Hz2 := Lib.hid hz2
              obtain ⟨i3, hi3, hy0, hy1, hy2⟩ := info_parts info3
              have Hi3 := Lib.hid hi3
              have Hy0 := Lib.hid hy0
              have Hy1 := Lib.hid hy1
              have Hy2 := Lib.hid hy2
              clear hi48 hz0 hz1 hz2 hi3 hy0 hy1 hy2 hS S4 hx hle hll
              go_wp2_with (first
                | (at_builtin
                   refine wpList_append_x rfl (.tmp 38) (.tmp 41) 55 rfl 48 i48 _ 3 40 Try.underlying55 Hi.out Hz0.out Hz1.out Hz2.out rfl (Nat.succ_pos 2) _ es.length (entC es) rfl O4.out (w3.heap.size + 1) (some ⟨w3.heap.size, 0, none⟩) 1 1 (a.f.cells (.slice a.A m a.c)) rfl R4.out (cells_one _ _ _ _) Hm1.out Hm2.out ?_
                   intro v5 w5 hown5 hg5 hat5
                   have S5 := (HS4.out.pushedX 3 rfl hown5 hg5 hat5).tail
                   obtain ⟨W6, hW6, S6⟩ := S5.boxedF 3 #[.int .i64 1]
                   have O6 := Lib.hid (S6.ownX (e := 3) (size := 1) 4 rfl)
                   have R6 := Lib.hid (Reads.of_blk (n := 1) (size := 1) (S6.blk 0 rfl) rfl)
                   have HS6 := Lib.hid S6
                   clear hown5 hg5 hat5 S5 S6 x3 x4 x5)
                | (at_builtin
                   refine wpList_append_x rfl (.tmp 43) (.tmp 44) 59 rfl 3 i3 _ 1 8 Try.underlying59 Hi3.out Hy0.out Hy1.out Hy2.out rfl (Nat.succ_pos 0) _ ls.length (ls.map enI) rfl O6.out (w5.heap.size + 1) (some ⟨w5.heap.size, 0, none⟩) 1 1 [enI 1] rfl R6.out (by decide) Hm3.out Hm4.out ?_
                   intro v7 w7 hown7 hg7 hat7
                   have S7 := Lib.hid (HS6.out.pushedX 4 rfl hown7 hg7 hat7)
                   clear hown7 hg7 hat7))
              go_meet
              refine ⟨fs ++ [a.f], es ++ [(.slice a.A a.f.b.length a.c, a.f)], ls ++ [1], hK.out.send a Hka.out (by have := Hm.out; have := Hkb.out; omega) Hf.out, ?_⟩
              have S8 := S7.out.drop 0 |>.drop 0 |>.drop 0
              have he1 : entC [((.slice a.A m a.c : Value), a.f)] = a.f.cells (.slice a.A m a.c) := by simp [entC]
              rw [List.length_append, entC_append, List.length_append, List.map_append, Hm.out, he1]
              exact S8
            · have hse : sendE fs = 3 := by unfold sendE; rw [if_neg hf]
              have hss : sendS fs a.f = fs := by unfold sendS; rw [if_neg hf]
              rw [hse, hss]
              clear hse hss hf
              rintro en w3 ⟨rfl, hS⟩
              go_wp2_with fail
              go_meet
              exact ⟨fs, es, ls, hK.out.up, hS.drop 0 |>.drop 0⟩
          | false =>
           cases h1 : (r == 1) with
           | true =>
            go_wp2_with fail
            clear x1 x3 x4 x5
            refine (take_any a.i hK.out.good.small.1 4 rfl hS).mono ?_
            cases hk : inF fs a.i with
            | false =>
              have hte : takeE fs a.i = 5 := by unfold takeE; rw [hk]; rfl
              have hts : takeS fs a.i = fs := by unfold takeS; rw [hk]; rfl
              have hkn : a.i < 0 ∨ (n : Int) ≤ a.i := by have := of_decide_eq_false hk; have := Hn.out; omega
              rw [hte, hts]
              clear hte hts hk
              generalize takeF fs a.i = x
              rintro en w3 ⟨v3, rfl, hS⟩
              obtain ⟨m3, hm3⟩ : ∃ m, x.b.length = m := ⟨_, rfl⟩
              obtain ⟨a3, c3, rfl, -, -⟩ := own_slice (own_n m3 hm3 hS 0 rfl)
              obtain ⟨W4, hW4, S4⟩ := hS.boxedF 48 #[.int .i64 x.c, .bool x.d, .slice a3 m3 c3]
              have x1 : W4.cell? ⟨gx, 1, none⟩ = some (.int .i64 a.i) := (S4.blk 3 rfl).at_ 1 rfl
              clear hS hm3
              rcases hkn with hk | hk
              · have d0 : decide (0 ≤ a.i) = false := decide_eq_false (by omega)
                go_wp2_with (
                  refine wpList_store_row rfl 48 (.tmp 9) (.tmp 54) rfl w3.heap.size #[.int .i64 x.c, .bool x.d, .slice a3 m3 c3] rfl rfl 48 _ (Blk.new _ _ _) size48 rfl (fl_one _ _ _ _ _) ?_
                  rw [World.setRow_alloc_new, hW4]
                  clear hW4)
                go_meet
                exact ⟨fs, es, ls, hK.out.up, S4.drop 0 |>.drop 0 |>.drop 0 |>.drop 0⟩
              · have d0 : decide (0 ≤ a.i) = true := decide_eq_true (by omega)
                have d1 : decide (a.i < (n : Int)) = false := decide_eq_false (by omega)
                go_wp2_with (
                  refine wpList_store_row rfl 48 (.tmp 9) (.tmp 54) rfl w3.heap.size #[.int .i64 x.c, .bool x.d, .slice a3 m3 c3] rfl rfl 48 _ (Blk.new _ _ _) size48 rfl (fl_one _ _ _ _ _) ?_
                  rw [World.setRow_alloc_new, hW4]
                  clear hW4)
                go_meet
                exact ⟨fs, es, ls, hK.out.up, S4.drop 0 |>.drop 0 |>.drop 0 |>.drop 0⟩
            | true =>
              obtain ⟨q, hq, hqn⟩ := in_nat hk
              have hte : takeE fs a.i = 0 := by unfold takeE; rw [hk]; rfl
              have hts : takeS fs a.i = fs.eraseIdx q := by unfold takeS; rw [hk, hq]; rfl
              have htf : takeF fs a.i = fs.getD q zeroF := by unfold takeF; rw [hk, hq]; rfl
              rw [hte, hts, htf]
              clear hte hts htf hk
              obtain ⟨x, hx⟩ : ∃ x, fs.getD q zeroF = x := ⟨_, rfl⟩
              rw [hx]
              have hxg : fs[q]? = some x := by rw [← hx, getD_mem hqn, List.getElem?_eq_getElem hqn]
              have hxm : x ∈ fs := List.mem_of_getElem? hxg
              have Hx := Lib.hid hxg
              rintro en w3 ⟨v3, rfl, hS⟩
              obtain ⟨m3, hm3⟩ : ∃ m, x.b.length = m := ⟨_, rfl⟩
              obtain ⟨a3, c3, rfl, -, -⟩ := own_slice (own_n m3 hm3 hS 0 rfl)
              obtain ⟨W4, hW4, S4⟩ := hS.boxedF 48 #[.int .i64 x.c, .bool x.d, .slice a3 m3 c3]
              have x1 : W4.cell? ⟨gx, 1, none⟩ = some (.int .i64 a.i) := (S4.blk 3 rfl).at_ 1 rfl
              have d0 : decide ((0 : Int) ≤ (q : Int)) = true := decide_eq_true (by omega)
              have d1 : decide (q < n) = true := decide_eq_true (by have := Hn.out; omega)
              have y0 := (S4.blk 0 rfl).at_ 0 rfl
              have y1 := (S4.blk 0 rfl).at_ 1 rfl
              have y2 := (S4.blk 0 rfl).at_ 2 rfl
              obtain ⟨A4, c4, hv4, hfr4⟩ := fr_old (es := es) S4 4 rfl hK.out.old
              have hhas := hK.out.inv.has hxm
              obtain ⟨n4, hn4⟩ : ∃ n, es.length = n := ⟨_, rfl⟩
              have hl4 : ls.length = n4 := by rw [hK.out.inv.len, List.length_map, hn4]
              have hle4 : n4 ≤ 1000 := by have := hK.out.le; omega
              obtain ⟨b5, c5, hv5, -, -⟩ := (S4.ownX 5 rfl).form (by obtain ⟨i, y, _, h2, _⟩ := hhas; have := (List.getElem?_eq_some_iff.1 h2).1; omega)
              rw [hn4] at hv4
              rw [hl4] at hv5
              subst hv4 hv5
              have hC3 : Kd.C (Kd.int .u8) W4 a3 m3 x.b := by
                obtain ⟨A', c', h1, h2, h3⟩ := reads_bytes (own_bytes S4 (i := 1) (l := x.b) rfl)
                injection h1 with e1 e2 e3
                subst e1
                rwa [hm3] at h3
              have hi5 : [cell w3.heap.size 48 #[.int .i64 x.c, .bool x.d, .slice a3 m3 c3], BRow (.slice a3 m3 c3) x.b, FlX (.slice A8 n c8) fs, cell gx 50 #[.int .i64 r, .int .i64 a.i, .int .i64 a.pl, .int .i64 a.f.c, .bool a.f.d, .slice a.A m a.c, .int .u8 a.by_], rowX 48 3 (.slice A4 n4 c4) es.length (entC es), rowX 3 1 (.slice (some ⟨b5, 0, none⟩) n4 c5) ls.length (ls.map enI), NetAt g (fs.eraseIdx q) 0][5]? = some (rowX 3 1 (.slice (some ⟨b5, 0, none⟩) n4 c5) n4 (ls.map enI)) := by rw [hl4]; rfl
              have HSp := Lib.hid (spend_any n4 ls x a3 m3 c3 c4 b5 c5 (-1) hl4 (by rw [List.length_map]; exact hn4) hle4 hfr4 (fun s hs => by obtain ⟨e, he, rfl⟩ := List.mem_map.1 hs; exact hK.out.rs e he) (hK.out.rf x hxm) hm3 hC3 hhas hK.out.left (by decide) 5 hi5 S4)
              have Hl4 := Lib.hid hl4
              have Hn4 := Lib.hid hn4
              clear hS hm3 S4 hfr4 hhas hl4 hn4 hC3 hi5 hxm hxg hx
              go_wp2_with (
                refine wpList_store_row rfl 48 (.tmp 9) (.tmp 54) rfl w3.heap.size #[.int .i64 x.c, .bool x.d, .slice a3 m3 c3] rfl rfl 48 _ (Blk.new _ _ _) size48 rfl (fl_one _ _ _ _ _) ?_
                rw [World.setRow_alloc_new, hW4]
                clear hW4)
              refine HSp.out.mono ?_
              rintro en w5 ⟨rfl, i5, y5, h5, h6, h7, S5⟩
              go_wp2_with fail
              go_meet
              refine ⟨fs.eraseIdx q, es, ls.set i5 (y5 + -1), hK.out.take Hx.out h5 h6 h7, ?_⟩
              rw [List.length_set, Hl4.out]
              exact S5.drop 0 |>.drop 0 |>.drop 0 |>.drop 0
           | false =>
            cases h2 : (r == 2) with
            | true =>
             go_wp2_with fail
             clear x1 x3 x4 x5
             refine (take_any a.i hK.out.good.small.1 4 rfl hS).mono ?_
             cases hk : inF fs a.i with
             | false =>
               have hte : takeE fs a.i = 5 := by unfold takeE; rw [hk]; rfl
               have hts : takeS fs a.i = fs := by unfold takeS; rw [hk]; rfl
               have hkn : a.i < 0 ∨ (n : Int) ≤ a.i := by have := of_decide_eq_false hk; have := Hn.out; omega
               rw [hte, hts]
               clear hte hts hk
               generalize takeF fs a.i = x
               rintro en w3 ⟨v3, rfl, hS⟩
               obtain ⟨m3, hm3⟩ : ∃ m, x.b.length = m := ⟨_, rfl⟩
               obtain ⟨a3, c3, rfl, -, -⟩ := own_slice (own_n m3 hm3 hS 0 rfl)
               obtain ⟨W4, hW4, S4⟩ := hS.boxedF 48 #[.int .i64 x.c, .bool x.d, .slice a3 m3 c3]
               have x1 : W4.cell? ⟨gx, 1, none⟩ = some (.int .i64 a.i) := (S4.blk 3 rfl).at_ 1 rfl
               clear hS hm3
               rcases hkn with hk | hk
               · have d0 : decide (0 ≤ a.i) = false := decide_eq_false (by omega)
                 go_wp2_with (
                   refine wpList_store_row rfl 48 (.tmp 9) (.tmp 54) rfl w3.heap.size #[.int .i64 x.c, .bool x.d, .slice a3 m3 c3] rfl rfl 48 _ (Blk.new _ _ _) size48 rfl (fl_one _ _ _ _ _) ?_
                   rw [World.setRow_alloc_new, hW4]
                   clear hW4)
                 go_meet
                 exact ⟨fs, es, ls, hK.out.up, S4.drop 0 |>.drop 0 |>.drop 0 |>.drop 0⟩
               · have d0 : decide (0 ≤ a.i) = true := decide_eq_true (by omega)
                 have d1 : decide (a.i < (n : Int)) = false := decide_eq_false (by omega)
                 go_wp2_with (
                   refine wpList_store_row rfl 48 (.tmp 9) (.tmp 54) rfl w3.heap.size #[.int .i64 x.c, .bool x.d, .slice a3 m3 c3] rfl rfl 48 _ (Blk.new _ _ _) size48 rfl (fl_one _ _ _ _ _) ?_
                   rw [World.setRow_alloc_new, hW4]
                   clear hW4)
                 go_meet
                 exact ⟨fs, es, ls, hK.out.up, S4.drop 0 |>.drop 0 |>.drop 0 |>.drop 0⟩
             | true =>
               obtain ⟨q, hq, hqn⟩ := in_nat hk
               have hte : takeE fs a.i = 0 := by unfold takeE; rw [hk]; rfl
               have hts : takeS fs a.i = fs.eraseIdx q := by unfold takeS; rw [hk, hq]; rfl
               have htf : takeF fs a.i = fs.getD q zeroF := by unfold takeF; rw [hk, hq]; rfl
               rw [hte, hts, htf]
               clear hte hts htf hk
               obtain ⟨x, hx⟩ : ∃ x, fs.getD q zeroF = x := ⟨_, rfl⟩
               rw [hx]
               have hxg : fs[q]? = some x := by rw [← hx, getD_mem hqn, List.getElem?_eq_getElem hqn]
               have hxm : x ∈ fs := List.mem_of_getElem? hxg
               have Hx := Lib.hid hxg
               rintro en w3 ⟨v3, rfl, hS⟩
               obtain ⟨m3, hm3⟩ : ∃ m, x.b.length = m := ⟨_, rfl⟩
               obtain ⟨a3, c3, rfl, -, -⟩ := own_slice (own_n m3 hm3 hS 0 rfl)
               obtain ⟨W4, hW4, S4⟩ := hS.boxedF 48 #[.int .i64 x.c, .bool x.d, .slice a3 m3 c3]
               have x1 : W4.cell? ⟨gx, 1, none⟩ = some (.int .i64 a.i) := (S4.blk 3 rfl).at_ 1 rfl
               have d0 : decide ((0 : Int) ≤ (q : Int)) = true := decide_eq_true (by omega)
               have d1 : decide (q < n) = true := decide_eq_true (by have := Hn.out; omega)
               have y0 := (S4.blk 0 rfl).at_ 0 rfl
               have y1 := (S4.blk 0 rfl).at_ 1 rfl
               have y2 := (S4.blk 0 rfl).at_ 2 rfl
               obtain ⟨A4, c4, hv4, hfr4⟩ := fr_old (es := es) S4 4 rfl hK.out.old
               have hhas := hK.out.inv.has hxm
               obtain ⟨n4, hn4⟩ : ∃ n, es.length = n := ⟨_, rfl⟩
               have hl4 : ls.length = n4 := by rw [hK.out.inv.len, List.length_map, hn4]
               have hle4 : n4 ≤ 1000 := by have := hK.out.le; omega
               obtain ⟨b5, c5, hv5, -, -⟩ := (S4.ownX 5 rfl).form (by obtain ⟨i, y, _, h2, _⟩ := hhas; have := (List.getElem?_eq_some_iff.1 h2).1; omega)
               rw [hn4] at hv4
               rw [hl4] at hv5
               subst hv4 hv5
               have hC3 : Kd.C (Kd.int .u8) W4 a3 m3 x.b := by
                 obtain ⟨A', c', h1, h2, h3⟩ := reads_bytes (own_bytes S4 (i := 1) (l := x.b) rfl)
                 injection h1 with e1 e2 e3
                 subst e1
                 rwa [hm3] at h3
               have hi5 : [cell w3.heap.size 48 #[.int .i64 x.c, .bool x.d, .slice a3 m3 c3], BRow (.slice a3 m3 c3) x.b, FlX (.slice A8 n c8) fs, cell gx 50 #[.int .i64 r, .int .i64 a.i, .int .i64 a.pl, .int .i64 a.f.c, .bool a.f.d, .slice a.A m a.c, .int .u8 a.by_], rowX 48 3 (.slice A4 n4 c4) es.length (entC es), rowX 3 1 (.slice (some ⟨b5, 0, none⟩) n4 c5) ls.length (ls.map enI), NetAt g (fs.eraseIdx q) 0][5]? = some (rowX 3 1 (.slice (some ⟨b5, 0, none⟩) n4 c5) n4 (ls.map enI)) := by rw [hl4]; rfl
               have HSp := Lib.hid (spend_any n4 ls x a3 m3 c3 c4 b5 c5 (-1) hl4 (by rw [List.length_map]; exact hn4) hle4 hfr4 (fun s hs => by obtain ⟨e, he, rfl⟩ := List.mem_map.1 hs; exact hK.out.rs e he) (hK.out.rf x hxm) hm3 hC3 hhas hK.out.left (by decide) 5 hi5 S4)
               have Hl4 := Lib.hid hl4
               have Hn4 := Lib.hid hn4
               clear hS hm3 S4 hfr4 hhas hl4 hn4 hC3 hi5 hxm hxg hx
               go_wp2_with (
                 refine wpList_store_row rfl 48 (.tmp 9) (.tmp 54) rfl w3.heap.size #[.int .i64 x.c, .bool x.d, .slice a3 m3 c3] rfl rfl 48 _ (Blk.new _ _ _) size48 rfl (fl_one _ _ _ _ _) ?_
                 rw [World.setRow_alloc_new, hW4]
                 clear hW4)
               refine HSp.out.mono ?_
               rintro en w5 ⟨rfl, i5, y5, h5, h6, h7, S5⟩
               go_wp2_with fail
               go_meet
               refine ⟨fs.eraseIdx q, es, ls.set i5 (y5 + -1), hK.out.take Hx.out h5 h6 h7, ?_⟩
               rw [List.length_set, Hl4.out]
               exact S5.drop 0 |>.drop 0 |>.drop 0 |>.drop 0
            | false =>
             cases h3 : (r == 3) with
             | false =>
               go_wp2_with fail
               go_meet
               exact ⟨fs, es, ls, hK.out.up, hS.drop 0 |>.drop 0⟩
             | true =>
               go_wp2_with fail
               clear x1 x3 x4 x5
               obtain ⟨e, he⟩ : ∃ e, dblE fs a.i = e := ⟨_, rfl⟩
               have HE := Lib.hid (dbl_ways fs a.i he)
               refine (double_any a.i hK.out.good.small.1 hK.out.good.small.2 4 rfl hS).mono ?_
               rw [he]
               clear he
               rintro en w3 ⟨rfl, hS⟩
               have x1 : w3.cell? ⟨gx, 1, none⟩ = some (.int .i64 a.i) := (hS.blk 1 rfl).at_ 1 rfl
               rcases HE.out with ⟨rfl, q, hq, hqn, hn2, hs⟩ | ⟨rfl, -, hs⟩ | ⟨rfl, hs⟩
               · obtain ⟨x, hx⟩ : ∃ x, fs.getD q zeroF = x := ⟨_, rfl⟩
                 rw [hs, hx] at hS
                 have hxg : fs[q] = x := by rw [← hx, getD_mem hqn]
                 have hxm : x ∈ fs := hxg ▸ List.getElem_mem hqn
                 obtain ⟨b9, o9, A3, c3, hA9, y0, y1, y2, hc3, hC3⟩ := (hS.fr2 (A := A8) (n := n) (c := c8) (fs := fs) 0 rfl).1.elem hqn
                 rw [hxg] at y0 y1 y2 hc3 hC3
                 subst hA9
                 obtain ⟨m3, hm3⟩ : ∃ m, x.b.length = m := ⟨_, rfl⟩
                 rw [hm3] at y2 hC3
                 have d0 : decide ((q : Int) < 0) = false := decide_eq_false (by omega)
                 have d1 : decide (n ≤ q) = false := decide_eq_false (by have := Hn.out; omega)
                 have d2 : decide ((n : Int) ≤ (q : Int)) = false := decide_eq_false (by have := Hn.out; omega)
                 have i1 : (q : Int).toNat = q := rfl
                 have i2 : (0 : Int) ≤ (q : Int) := by omega
                 have i3 : (q : Int) < (n : Int) := by have := Hn.out; omega
                 have i4 : q < n := by have := Hn.out; omega
                 obtain ⟨A4, c4, hv4, hfr4⟩ := fr_old (es := es) hS 2 rfl hK.out.old
                 have hhas := hK.out.inv.has hxm
                 obtain ⟨n4, hn4⟩ : ∃ n, es.length = n := ⟨_, rfl⟩
                 have hl4 : ls.length = n4 := by rw [hK.out.inv.len, List.length_map, hn4]
                 have hle4 : n4 ≤ 1000 := by have := hK.out.le; omega
                 obtain ⟨b5, c5, hv5, -, -⟩ := (hS.ownX 3 rfl).form (by obtain ⟨i, y, _, h2, _⟩ := hhas; have := (List.getElem?_eq_some_iff.1 h2).1; omega)
                 rw [hn4] at hv4
                 rw [hl4] at hv5
                 subst hv4 hv5
                 have hi5 : [FlX (.slice (some ⟨b9, o9, none⟩) n c8) fs, cell gx 50 #[.int .i64 r, .int .i64 a.i, .int .i64 a.pl, .int .i64 a.f.c, .bool a.f.d, .slice a.A m a.c, .int .u8 a.by_], rowX 48 3 (.slice A4 n4 c4) es.length (entC es), rowX 3 1 (.slice (some ⟨b5, 0, none⟩) n4 c5) ls.length (ls.map enI), NetAt g (fs ++ [x]) 0][3]? = some (rowX 3 1 (.slice (some ⟨b5, 0, none⟩) n4 c5) n4 (ls.map enI)) := by rw [hl4]; rfl
                 have HSp := Lib.hid (spend_any n4 ls x A3 m3 c3 c4 b5 c5 1 hl4 (by rw [List.length_map]; exact hn4) hle4 hfr4 (fun s hs => by obtain ⟨e, he, rfl⟩ := List.mem_map.1 hs; exact hK.out.rs e he) (hK.out.rf x hxm) hm3 hC3 hhas hK.out.left (by decide) 3 hi5 hS)
                 have Hl4 := Lib.hid hl4
                 have Hn4 := Lib.hid hn4
                 have Hxm := Lib.hid hxm
                 have Hn2 := Lib.hid hn2
                 clear hS hm3 hfr4 hhas hl4 hn4 hC3 hi5 hxm hxg hx hs HE hn2 hc3
                 go_wp2_with fail
                 refine HSp.out.mono ?_
                 rintro en w5 ⟨rfl, i5, y5, h5, h6, h7, S5⟩
                 go_wp2_with fail
                 go_meet
                 refine ⟨fs ++ [x], es, ls.set i5 (y5 + 1), hK.out.dbl Hxm.out Hn2.out h5 h6 h7, ?_⟩
                 rw [List.length_set, Hl4.out]
                 exact S5.drop 0 |>.drop 0
               · rw [hs] at hS
                 clear hs HE
                 go_wp2_with fail
                 go_meet
                 exact ⟨fs, es, ls, hK.out.up, hS.drop 0 |>.drop 0⟩
               · rw [hs] at hS
                 clear hs HE
                 go_wp2_with fail
                 go_meet
                 exact ⟨fs, es, ls, hK.out.up, hS.drop 0 |>.drop 0⟩
        case rest =>
          clear hS hK Hn
          obtain ⟨fs', es', ls', hK', hS'⟩ := hcut
          go_wp2_with fail
          refine (len_any 2 rfl hS').mono ?_
          rintro en w3 ⟨rfl, rfl⟩
          have hn' := hK'.good.len
          generalize fs'.length = n' at hn' ⊢
          have hd : decide ((256 : Int) < (n' : Int)) = false := decide_eq_false (by omega)
          go_wp2_with fail
          go_roundw
          case measure => simp [intOf]; omega
          case rel => exact ⟨j + 1, fs', es', ls', hlt, by go_num, Lib.hid hK', hS'⟩
      · obtain ⟨nl, hnl⟩ : ∃ n, ls.length = n := ⟨_, rfl⟩
        obtain ⟨a5, c5, hv5, -, -⟩ := (hS.ownX 1 rfl).slice
        have OX := Lib.hid (hS.ownX 1 rfl)
        rw [hnl] at hv5 OX
        subst hv5
        have Hnl := Lib.hid hnl
        have hnb : nl ≤ 1000 := by rw [← hnl, hK.out.inv.len, List.length_map]; have := hK.out.le; omega
        clear hnl
        go_wp2_with fail
        go_loopw [11, 12] (fun s p wx => ∃ k : Nat, k ≤ nl ∧ p = .int .i64 (k : Int) ∧ s = .int .i64 (sumL (ls.take k)) ∧ Hid (wx = wr)) (fun _ p _ => nl - (intOf p).toNat)
        case atStart => exact ⟨0, Nat.zero_le _, rfl, rfl, Lib.hid rfl⟩
        case round =>
          obtain ⟨k, hk, rfl, rfl, hw⟩ := hrel
          have hw' := hw.out
          subst hw'
          clear hw
          have hsb := sumL_take ls hK.out.inv.nn k
          have hsum := hK.out.inv.sum
          have hgl := hK.out.good.len
          by_cases hlk : k < nl
          · have hlk' : (k : Int) < (nl : Int) := by omega
            have hkl : k < ls.length := by have := Hnl.out; omega
            obtain ⟨b5, d5, hv5, -, -⟩ := OX.out.form (by omega)
            injection hv5 with e1 e2 e3
            clear e2
            subst e1 e3
            obtain ⟨x, hx⟩ : ∃ x, ls[k] = x := ⟨_, rfl⟩
            have l0 := OX.out.cells (g := b5) rfl k (enI x) (by rw [List.getElem?_map, List.getElem?_eq_getElem hkl, hx]; rfl)
            unfold enI at l0
            have hst : Hid (sumL (ls.take (k + 1)) = sumL (ls.take k) + x) := Lib.hid (by rw [List.take_add_one, List.getElem?_eq_getElem hkl, hx, Option.toList_some, sumL_append])
            have hsb2 := sumL_take ls hK.out.inv.nn (k + 1)
            rw [hst.out] at hsb2
            obtain ⟨sk, hsk⟩ : ∃ s, sumL (ls.take k) = s := ⟨_, rfl⟩
            rw [hsk] at hsb hsb2 ⊢
            have Hsk := Lib.hid hsk
            have i1 : IntKind.i64.wrap (sk + x) = sk + x := IntWalk.i64_in _ (by omega)
            have s3 : (k : Int).toNat = k := rfl
            have s4 : (0 : Int) ≤ (k : Int) := by omega
            clear hx hsk hkl hsb hsb2 hsum hgl
            go_wp2_with fail
            go_roundw
            case measure => simp [intOf]; omega
            case rel => exact ⟨k + 1, hlk, by go_num, by rw [hst.out, Hsk.out], Lib.hid trivial⟩
          · obtain rfl : k = nl := by omega
            have hst : sumL (ls.take k) = (fs.length : Int) := by rw [List.take_of_length_le (by have := Hnl.out; omega), hsum]
            rw [hst]
            clear hst hsb hsum
            go_wp2_with fail
            refine (len_any 2 rfl hS).mono ?_
            rintro en w3 ⟨rfl, rfl⟩
            go_wp2_with fail
            refine (clashed_any 2 rfl hS).mono ?_
            rintro en w3 ⟨rfl, rfl⟩
            go_wp2_with fail
            refine (wakes_any _).mono ?_
            rintro en w3 ⟨rfl, hb⟩
            go_wp2_with fail
            go_ret
            exact ⟨rfl, (hS.grow hb).below⟩
end Go.Proofs.Ytmacmhlimdaemaa.Net
