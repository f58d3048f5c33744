/-
  For every list of acts: each answer of the net, and its flights behind each, are the reference's; the law returns true. No condition (above 400 acts, or 2000 bytes a datagram, the law answers by a net that is known).
-/
import Derived.Test.YtmacmhlimdaemaaNRefC
import Derived.Test.YtmacmhlimdaemaaActIn
import Derived.Lib.SmallJoins
import Derived.ProofKit
import Derived.OpenShut
import Derived.Below
import Derived.Carry
import Derived.ChangeOld
namespace Go.Proofs.Ytmacmhlimdaemaa.Net
open Go.RowKit Go.Proofs.YtmacmhlimdaemaaW.PrintWords Go.Proofs.Ytmacmhlimdaemaa.R Go.Proofs.Ytmacmhlimdaemaa.Pkt Go.Proofs.Ytmacmhlimdaemaa.Ext
structure NP (fs : List Fl) (K : Int) (j : Nat) : Prop where
  good : Good fs
  ok : ∀ f ∈ fs, okB f.b = true
  k0 : 0 ≤ K
  k1 : K ≤ j
theorem step_store_row {P : Program} {w : World} {ops : Array Oper} {o : Oper} {a : Go.Act} {K : Go.Act → World → Prop} {Q : Exit → Go.Act → World → Prop} {E : Prop} (hgd : o.guard = none) (ty : TypeId) (x y : Operand) (ho : o.op = .store ty x y)
    (g : Nat) (cells : Array Value) (hx : a.eval x = .pointer (some ⟨g, 0, none⟩)) (hy : a.eval y = .agg cells)
    (t : TypeId) (old : Array Value) (hg : w.heap[g]? = some (.cells old t (0, 0))) (hi : (P.info? ty).map (·.size) = some cells.size)
    (hold : old.size = cells.size) (h1 : cells.all (·.oneCell') = true)
    (h : K (a.put o.dst undef) (w.setRow g cells)) : if Region.wanted o (yielded ops a.tmps) = true then Oper.wp P o a w K Q else E := by
  have hw : Region.wanted o (yielded ops a.tmps) = true := by simp [Region.wanted, hgd]
  rw [if_pos hw]
  exact wp_store_row ty x y ho g cells hx hy t old hg hi hold h1 h
/-- rows of bytes, whatever they hold -/
def BR (b : Value × List Int) : Asn := BRow b.1 b.2
def Shp (es : List Ent) (Bs : List (Value × List Int)) : Prop := ∀ (i : Nat) (e : Ent), es[i]? = some e → ∃ l : List Int, Bs[i]? = some (e.1, l) ∧ l.length = e.2.b.length
theorem Shp.start (es : List Ent) : Shp es (es.map fun e => (e.1, e.2.b)) := fun i e h => ⟨e.2.b, by rw [List.getElem?_map, h]; rfl, rfl⟩
theorem Shp.put {es : List Ent} {Bs : List (Value × List Int)} (h : Shp es Bs) (k : Nat) (e : Ent) (hk : es[k]? = some e) (l : List Int) (hl : l.length = e.2.b.length) : Shp es (Bs.set k (e.1, l)) := fun i x hx => by
  by_cases hi : i = k
  · subst hi
    rw [hk] at hx
    injection hx with hx
    subst hx
    obtain ⟨l0, h1, _⟩ := h i e hk
    exact ⟨l, List.getElem?_set_self (List.getElem?_eq_some_iff.1 h1).1, hl⟩
  · obtain ⟨l0, h1, h2⟩ := h i x hx
    exact ⟨l0, by rw [List.getElem?_set_ne (fun e => hi e.symm)]; exact h1, h2⟩
theorem fr_single {w0 w : World} {L : List Asn} (f : Fl) (n : Nat) (hn : f.b.length = n) {g : Nat} {a : Option Addr} {c : Nat} (h : Sep w0 w L) (i : Nat) (hi : L[i]? = some (cell g 48 #[.int .i64 f.c, .bool f.d, .slice a n c])) (j : Nat) (hj : L[j]? = some (BRow (.slice a n c) f.b)) : FR w (some ⟨g, 0, none⟩) [f] := by
  subst hn
  obtain ⟨A, c', h1, h2, h3⟩ := reads_bytes (own_bytes h hj)
  injection h1 with e1 e2 e3
  subst e1 e3
  have hb := h.blk i hi
  refine ⟨[(.slice a f.b.length c, f)], rfl, ⟨rfl, fun _ => ⟨_, rfl, hb.lt, fun j u hu => ?_⟩⟩, fun e he => ?_⟩
  · have he : (⟨g, 0, none⟩ : Addr).add j = ⟨g, j, none⟩ := by unfold Addr.add; split <;> simp_all
    rw [he, hb.cell j, ← Array.getElem?_toList]
    exact hu
  · obtain rfl : e = (.slice a f.b.length c, f) := by simpa using he
    exact ⟨a, c, rfl, h2, h3⟩
theorem rsame_parts {w0 w : World} {L : List Asn} {A B : Option Addr} {fs : List Fl} {n ca cb : Nat} (hn : fs.length = n) (hA : FR w A fs) (hB : FR w B fs) (hl : n < 1000000) (hS : Sep w0 w L) :
    Calls Try.prog 43 #[.slice A n ca, .slice B n cb] w fun en w' => en = .returned (.bool true) ∧ Sep w0 w' L := by
  subst hn
  exact (rsame_same ca cb hA hB hl).mono fun en w' ⟨he, k, hk⟩ => ⟨he, by subst hk; exact hS.drewN k⟩
theorem meas (N k : Nat) (h : k < N) : N - ((k : Int) + 1).toNat < N - (k : Int).toNat := by omega
theorem size50 : (Try.prog.info? 50).map (·.size) = some 7 := by kernel_rfl
theorem act_cells (a b d e : Int) (f : Bool) (A : Option Addr) (n m : Nat) (g : Int) : #[Value.int .i64 a, .int .i64 b, .int .i64 d, .int .i64 e, .bool f, .slice A n m, .int .u8 g].all (·.oneCell') = true := by kernel_rfl
abbrev Act.cells (a : Act) (m : Nat) : Array Value := #[.int .i64 a.d, .int .i64 a.i, .int .i64 a.pl, .int .i64 a.f.c, .bool a.f.d, .slice a.A m a.c, .int .u8 a.by_]
theorem NP.send {fs : List Fl} {K : Int} {j : Nat} (h : NP fs K j) (f : Fl) (hf : f.b.length ≤ 2000) (ho : okB f.b = true) : NP (sendS fs f) K (j + 1) :=
  ⟨h.good.send f hf, fun x hx => by
    unfold sendS at hx
    split at hx
    · rcases List.mem_append.1 hx with hx | hx
      · exact h.ok x hx
      · obtain rfl : x = f := (by simpa using hx)
        exact ho
    · exact h.ok x hx, h.k0, by have := h.k1; omega⟩
theorem NP.take {fs : List Fl} {K : Int} {j : Nat} (h : NP fs K j) (i : Int) : NP (takeS fs i) K (j + 1) :=
  ⟨h.good.take i, fun x hx => by
    unfold takeS at hx
    split at hx
    · exact h.ok x (List.mem_of_mem_eraseIdx hx)
    · exact h.ok x hx, h.k0, by have := h.k1; omega⟩
theorem NP.dbl {fs : List Fl} {K : Int} {j : Nat} (h : NP fs K j) (i : Int) : NP (dblS fs i) K (j + 1) :=
  ⟨h.good.dbl i, fun x hx => by
    unfold dblS at hx
    split at hx
    · exact h.ok x hx
    · split at hx
      · obtain ⟨n, rfl, hn⟩ := in_nat (by assumption)
        rw [Int.toNat_natCast, getD_mem hn] at hx
        rcases List.mem_append.1 hx with hx | hx
        · exact h.ok x hx
        · obtain rfl : x = fs[n] := (by simpa using hx)
          exact h.ok _ (List.getElem_mem hn)
      · exact h.ok x hx, h.k0, by have := h.k1; omega⟩
theorem NP.spoil {fs : List Fl} {K : Int} {j : Nat} (h : NP fs K j) (i pl y : Int) (hy : 0 ≤ y ∧ y < 256) : NP (spS fs i pl y) (spK fs K i pl y) (j + 1) := by
  unfold spS spK
  by_cases hb : inB fs i pl = true
  · rw [if_pos hb, if_pos hb]
    obtain ⟨n, t, rfl, rfl, hn, hf, ht⟩ := inB_nat hb
    rw [Int.toNat_natCast, Int.toNat_natCast]
    have hm := List.mem_of_getElem? hf
    refine ⟨⟨by rw [List.length_set]; exact h.good.len, fun x hx => ?_⟩, fun x hx => ?_, ?_, ?_⟩
    · rcases List.mem_or_eq_of_mem_set hx with hx | rfl
      · exact h.good.b x hx
      · have := h.good.b _ hm
        show (spB _ t y).length ≤ 2000
        unfold spB
        rw [List.length_set]
        exact this
    · rcases List.mem_or_eq_of_mem_set hx with hx | rfl
      · exact h.ok x hx
      · exact sp_ok _ t y (h.ok _ hm) ht hy
    · have := h.k0; unfold clash; split <;> omega
    · have := h.k1; unfold clash; split <;> omega
  · rw [if_neg hb, if_neg hb]
    exact ⟨h.good, h.ok, h.k0, by have := h.k1; omega⟩
theorem NP.up {fs : List Fl} {K : Int} {j : Nat} (h : NP fs K j) : NP fs K (j + 1) := ⟨h.good, h.ok, h.k0, by have := h.k1; omega⟩
theorem NP.small {fs : List Fl} {K : Int} {j : Nat} (h : NP fs K j) : fs.length ≤ 1000 ∧ ∀ f ∈ fs, f.b.length ≤ 1000000 := h.good.small
set_option maxRecDepth 100000 in
set_option maxHeartbeats 16000000 in
theorem netPlays_any (A : Option Addr) (c : Nat) (l : List Act) (w : World) (hr : Reads w w.heap.size 7 A l.length (l.flatMap Act.cs)) (hok : ∀ x ∈ l, x.ok w) :
    Calls Try.prog 16 #[.slice A l.length c] w fun en w' => en = .returned (.bool true) ∧ Below w.heap.size w w' := by
  have HG := Lib.hid (great_any l A c w hr)
  have HR := Lib.hid hr
  have HO := Lib.hid hok
  obtain ⟨N, hN⟩ : ∃ N, l.length = N := ⟨_, rfl⟩
  have HN := Lib.hid hN
  rw [hN] at HG ⊢
  clear hr hok hN
  go_enter Try.func16, Try.ntmps16
  go_wp2_with fail
  refine HG.out.mono ?_
  rintro en w1 ⟨rfl, rfl⟩
  cases hg : greatB l with
  | true =>
    clear HG
    go_wp2_with fail
    refine (wakes_any _).mono ?_
    rintro en w1 ⟨rfl, hb⟩
    go_wp2_with fail
    go_ret
    exact ⟨rfl, hb⟩
  | false =>
    clear HG
    obtain ⟨hlen, hb⟩ := great_no hg
    have HB := Lib.hid hb
    rw [HN.out] at hlen
    clear hg hb
    go_wp2_with fail
    refine (new_any (Sep.start _)).mono ?_
    rintro en w1 ⟨g, rfl, hS⟩
    obtain ⟨W2, hW2, S2⟩ := hS.boxedF 64 #[.slice none 0 0]
    obtain ⟨h, hh⟩ : ∃ h, w1.heap.size = h := ⟨_, rfl⟩
    rw [hh] at S2
    have S3 : Sep w W2 [RefAt h [], NetAt g [] 0] := Sep.closeRef (v := .slice none 0 0) (es := []) rfl ((S2.nilX 48 3).swap)
    have hS := S3.swap
    clear S2 S3
    go_wp2_with fail
    clear hW2 hh
    go_loopw [5, 6] (fun s p wr => ∃ (j : Nat) (fs : List Fl) (K : Int), j ≤ N ∧ p = .int .i64 (j : Int) ∧ s = .int .i64 K ∧ Hid (NP fs K j) ∧ Sep w wr [NetAt g fs K, RefAt h fs]) (fun _ p _ => N - (intOf p).toNat)
    case atStart => exact ⟨0, [], 0, Nat.zero_le _, rfl, rfl, Lib.hid ⟨Good.nil, by simp, by decide, by decide⟩, hS⟩
    case round =>
      clear hS
      obtain ⟨j, fs, K, hj, rfl, rfl, hK, hS⟩ := hrel
      by_cases hlt : j < N
      · have hlt' : (j : Int) < (N : Int) := by omega
        have hjl : j < l.length := by have := HN.out; omega
        obtain ⟨b, o, rfl, hbB, hcell⟩ := (HR.out.below hS.below).elem (cells := Act.cs) (fun _ => rfl) (by decide) hjl
        have hka := HO.out _ (List.getElem_mem hjl)
        have hkb := HB.out _ (List.getElem_mem hjl)
        obtain ⟨a, hla⟩ : ∃ a, l[j] = a := ⟨_, rfl⟩
        rw [hla] at hcell hka hkb
        have Hka := Lib.hid hka
        obtain ⟨m, hm⟩ : ∃ m, a.f.b.length = m := ⟨_, rfl⟩
        have r0 : wr.cell? ⟨b, o + j * 7, none⟩ = some (.int .i64 a.d) := hcell 0 _ rfl
        have r1 := hcell 1 _ rfl
        have r2 := hcell 2 _ rfl
        have r3 := hcell 3 _ rfl
        have r4 := hcell 4 _ rfl
        have r5 := hcell 5 _ rfl
        have r6 := hcell 6 _ rfl
        have s3 : (j : Int).toNat = j := rfl
        have s4 : (0 : Int) ≤ (j : Int) := by omega
        rw [hm] at r5 hkb
        have Hm := Lib.hid hm
        have Hkb := Lib.hid hkb
        obtain ⟨W, hW, S1⟩ := hS.boxedF 50 (a.cells m)
        obtain ⟨gx, hgx⟩ : ∃ gx, wr.heap.size = gx := ⟨_, rfl⟩
        rw [hgx] at S1
        have x0 : W.cell? ⟨gx, 0, none⟩ = some (.int .i64 a.d) := (S1.blk 0 rfl).at_ 0 rfl
        clear hla hcell hjl hka hm hkb hbB hS
        go_upto_block 2 with (
          refine wpList_store_row rfl 50 (.tmp 7) (.tmp 38) rfl wr.heap.size (a.cells m) rfl rfl 50 _ (Blk.new _ _ _) size50 rfl (act_cells _ _ _ _ _ _ _ _ _) ?_
          rw [World.setRow_alloc_new, hW, hgx]
          clear hW r0 r1 r2 r3 r4 r5 r6)
        clear hgx x0
        have hS := S1
        clear S1
        obtain ⟨r, hrd⟩ : ∃ r, a.d = r := ⟨_, rfl⟩
        rw [hrd]
        clear hrd
        go_cut [5, 8] (fun s ok wx => ∃ (fs : List Fl) (K : Int), s = .int .i64 K ∧ ok = .bool true ∧ NP fs K (j + 1) ∧ Sep w wx [NetAt g fs K, RefAt h fs])
        case first =>
          have hx := hS.blk 0 rfl
          have x1 : W.cell? ⟨gx, 1, none⟩ = some (.int .i64 a.i) := hx.at_ 1 rfl
          have x2 : W.cell? ⟨gx, 2, none⟩ = some (.int .i64 a.pl) := hx.at_ 2 rfl
          have x3 : W.cell? ⟨gx, 3, none⟩ = some (.int .i64 a.f.c) := hx.at_ 3 rfl
          have x4 : W.cell? ⟨gx, 4, none⟩ = some (.bool a.f.d) := hx.at_ 4 rfl
          have x5 : W.cell? ⟨gx, 5, none⟩ = some (.slice a.A m a.c) := hx.at_ 5 rfl
          have x6 : W.cell? ⟨gx, 6, none⟩ = some (.int .u8 a.by_) := hx.at_ 6 rfl
          clear hx
          cases h0 : (r == 0) with
          | true =>
            as_aux_lemma =>
              have HC := Lib.hid (Kd.C_below Hka.out.fok.at_ hS.below)
              rw [Hm.out] at HC
              have hmb := Hkb.out
              obtain ⟨W2, hW2, S2⟩ := hS.boxedF 48 #[.int .i64 a.f.c, .bool a.f.d, .slice a.A m a.c]
              obtain ⟨gf, hgf⟩ : ∃ x, W.heap.size = x := ⟨_, rfl⟩
              have hb2 : Below W.heap.size W W2 := by rw [← hW2]; exact (Below.refl _ _).alloc (Nat.le_refl _) _
              rw [hgf] at S2
              have HR := Lib.hid (C_rd Hm.out (Kd.C_below HC.out hb2))
              have N2 := Lib.hid (S2.nilRowF 5 1)
              have HO2 := Lib.hid (N2.out.own 0 rfl)
              have k0 : W2.cell? ⟨gf, 0, none⟩ = some (.int .i64 a.f.c) := (S2.blk 0 rfl).at_ 0 rfl
              have k2 : W2.cell? ⟨gf, 2, none⟩ = some (.slice a.A m a.c) := (S2.blk 0 rfl).at_ 2 rfl
              have y5 : W2.cell? ⟨gx, 5, none⟩ = some (.slice a.A m a.c) := (S2.blk 1 rfl).at_ 5 rfl
              have Hm1 : Hid (0 + m ≤ maxLen) := Lib.hid (by unfold maxLen; omega)
              have Hm2 : Hid ((0 + m) * 1 ≤ 140737488355328) := Lib.hid (by omega)
              have Hone : Hid (∀ u ∈ a.f.b.map enB, u.oneCell' = true) := Lib.hid (by intro u hu; obtain ⟨x, _, rfl⟩ := List.mem_map.1 hu; rfl)
              obtain ⟨i5, hi5, hz0, hz1, hz2⟩ := info_parts Ext.info5
              have Hi := Lib.hid hi5
              have Hz0 := Lib.hid hz0
              have Hz1 := Lib.hid hz1
              have Hz2 := Lib.hid hz2
              clear hi5 hz0 hz1 hz2 S2 hS HC hb2 x1 x2 x6
              go_upto_region 21 with (first
                | (refine wpList_store_row rfl 48 (.tmp 9) (.tmp 87) rfl W.heap.size #[.int .i64 a.f.c, .bool a.f.d, .slice a.A m a.c] rfl rfl 48 _ (Blk.new _ _ _) size48 rfl (fl_one _ _ _ _ _) ?_
                   rw [World.setRow_alloc_new, hW2, hgf]
                   clear hW2 x3 x4 x5)
                | (have hq := y5; clear hq; at_builtin
                   refine wpList_append_any _ rfl (.const (.slice none 0 0)) (.tmp 90) 22 rfl 0 5 i5 _ 1 1 Try.underlying22 Hi.out Hz0.out Hz1.out Hz2.out rfl (by omega) (.slice none 0 0) 0 [] rfl HO2.out W2.heap.size a.A m a.c (a.f.b.map enB) rfl HR.out Hone.out Hm1.out Hm2.out (Nat.zero_le _) ?_
                   intro v3 w3 hown3 hg3 hat3
                   have hown4 : w3.ownsRow 0 5 1 v3 a.f.b.length (a.f.b.map enB) := by rw [Nat.zero_add, List.nil_append] at hown3; rw [Hm.out]; exact hown3
                   have S3 := N2.out.pushed 0 rfl hown4 hg3 hat3
                   clear hown3 hown4 hg3 hat3 k0 k2 y5
                   obtain ⟨a3, c3, hv3, -, -⟩ := own_slice (S3.own 0 rfl)
                   rw [Hm.out] at hv3
                   subst hv3
                   have z1 := (S3.blk 1 rfl).frozen 2
                   have k0 : w3.cell? ⟨gf, 2, none⟩ = some (.slice a.A m a.c) := (S3.blk 1 rfl).at_ 2 rfl
                   have S4 := S3.put 1 rfl 2 (.slice a3 m c3)
                   obtain ⟨W4, hW4⟩ : ∃ W4, w3.setCell ⟨gf, 2, none⟩ (.slice a3 m c3) = W4 := ⟨_, rfl⟩
                   rw [hW4] at S4))
              clear hW4 k0 z1 S3 hgf
              replace S4 : Sep w W4 [BRow (.slice a3 m c3) a.f.b, cell gf 48 #[.int .i64 a.f.c, .bool a.f.d, .slice a3 m c3], cell gx 50 (a.cells m), NetAt g fs K, RefAt h fs] := S4
              have q0 : W4.cell? ⟨gf, 0, none⟩ = some (.int .i64 a.f.c) := (S4.blk 1 rfl).at_ 0 rfl
              have q1 : W4.cell? ⟨gf, 1, none⟩ = some (.bool a.f.d) := (S4.blk 1 rfl).at_ 1 rfl
              have q2 : W4.cell? ⟨gf, 2, none⟩ = some (.slice a3 m c3) := (S4.blk 1 rfl).at_ 2 rfl
              have q3 : W4.cell? ⟨gx, 3, none⟩ = some (.int .i64 a.f.c) := (S4.blk 2 rfl).at_ 3 rfl
              have q4 : W4.cell? ⟨gx, 4, none⟩ = some (.bool a.f.d) := (S4.blk 2 rfl).at_ 4 rfl
              have q5 : W4.cell? ⟨gx, 5, none⟩ = some (.slice a.A m a.c) := (S4.blk 2 rfl).at_ 5 rfl
              have HK := Lib.hid (fun (w' : World) (b1 : Blk w' gf 48 #[.int .i64 a.f.c, .bool a.f.d, .slice a3 m c3]) (b2 : Blk w' gx 50 (a.cells m)) => show w'.cell? ⟨gf, 0, none⟩ = some (.int .i64 a.f.c) ∧ w'.cell? ⟨gf, 1, none⟩ = some (.bool a.f.d) ∧ w'.cell? ⟨gf, 2, none⟩ = some (.slice a3 m c3) ∧ w'.cell? ⟨gx, 3, none⟩ = some (.int .i64 a.f.c) ∧ w'.cell? ⟨gx, 4, none⟩ = some (.bool a.f.d) ∧ w'.cell? ⟨gx, 5, none⟩ = some (.slice a.A m a.c) from ⟨b1.at_ 0 rfl, b1.at_ 1 rfl, b1.at_ 2 rfl, b2.at_ 3 rfl, b2.at_ 4 rfl, b2.at_ 5 rfl⟩)
              have Sd := S4.drew
              have C3 : Hid (Kd.C (Kd.int .u8) W4.drew a3 m a.f.b ∧ m ≤ c3) := Lib.hid (by
                obtain ⟨A', c', h1, h2, h3⟩ := reads_bytes (own_bytes Sd (i := 0) (l := a.f.b) rfl)
                injection h1 with e1 e2 e3
                subst e1 e3
                rw [Hm.out] at h2 h3
                exact ⟨h3, h2⟩)
              have HP := send_any a.f a3 m c3 Hm.out (by omega) C3.out.1 C3.out.2 3 rfl Sd
              obtain ⟨te, hte⟩ : ∃ te, sendE fs = te := ⟨_, rfl⟩
              rw [hte] at HP
              have HP' := Lib.hid HP
              have Hte := Lib.hid hte
              clear HP hte S4 Sd C3 HR N2 HO2
              go_region_held3 (fun w' => w'.cell? ⟨gf, 0, none⟩ = some (.int .i64 a.f.c) ∧ w'.cell? ⟨gf, 1, none⟩ = some (.bool a.f.d) ∧ w'.cell? ⟨gf, 2, none⟩ = some (.slice a3 m c3) ∧ w'.cell? ⟨gx, 3, none⟩ = some (.int .i64 a.f.c) ∧ w'.cell? ⟨gx, 4, none⟩ = some (.bool a.f.d) ∧ w'.cell? ⟨gx, 5, none⟩ = some (.slice a.A m a.c))
                (first | exact HK.out _ (S6.blk 1 rfl) (S6.blk 2 rfl) | exact HK.out _ (S5.blk 1 rfl) (S5.blk 2 rfl) | exact ⟨q0, q1, q2, q3, q4, q5⟩)
                (first | (have hq := S5; clear hq; have f9 := Kd.C_below Hka.out.fok.at_ S5.below; rw [Hm.out] at f9; have f8 := rsend_any a.f a.A m a.c Hm.out (by omega) f9 4 rfl S5; clear f9; rw [Hte.out] at f8; go_at_call 41; refine f8.mono ?_; clear f8; rintro en w6 ⟨rfl, S6⟩) | (go_at_call 32; refine HP'.out.mono ?_; rintro en w5 ⟨rfl, S5⟩))
              replace S6 : Sep w w6 [BRow (.slice a3 m c3) a.f.b, cell gf 48 #[.int .i64 a.f.c, .bool a.f.d, .slice a3 m c3], cell gx 50 (a.cells m), NetAt g (sendS fs a.f) K, RefAt h (sendS fs a.f)] := S6
              clear q0 q1 q2 q3 q4 q5 S5 HP'
              go_wp2_with fail
              go_loopw [10] (fun p wx => ∃ (q : Nat) (l : List Int), q ≤ m ∧ p = .int .i64 (q : Int) ∧ Hid (l.length = m) ∧ Sep w wx [BRow (.slice a3 m c3) l, cell gf 48 #[.int .i64 a.f.c, .bool a.f.d, .slice a3 m c3], cell gx 50 (a.cells m), NetAt g (sendS fs a.f) K, RefAt h (sendS fs a.f)]) (fun p _ => m - (intOf p).toNat)
              case atStart => exact ⟨0, a.f.b, Nat.zero_le _, rfl, Hm, S6⟩
              case round =>
                clear S6
                obtain ⟨q, l0, hq, rfl, hlm, hS⟩ := hrel
                have g2 := (hS.blk 1 rfl).at_ 2 rfl
                by_cases hqm : q < m
                · have hqm' : (q : Int) < (m : Int) := by omega
                  have hsl : ∃ d, a3 = some ⟨d, 0, none⟩ := by
                    rcases (own_n m hlm.out hS 0 rfl).2 with ⟨h1, h0⟩ | ⟨d, c', _, hu, _⟩
                    · omega
                    · injection hu with h1; exact ⟨d, h1⟩
                  obtain ⟨d, rfl⟩ := hsl
                  obtain ⟨b0, z0⟩ := b_cell hS 0 rfl q (by rw [hlm.out]; exact hqm)
                  have S7 := Lib.hid (hS.putB 0 rfl hlm.out q 7)
                  have s8 : (q : Int).toNat = q := rfl
                  have s9 : (0 : Int) ≤ (q : Int) := by omega
                  have hl2 : Hid ((l0.set q 7).length = m) := Lib.hid (by rw [List.length_set]; exact hlm.out)
                  clear hS
                  go_wp2_with fail
                  go_roundw
                  case measure => simpa [intOf] using meas m q hqm
                  case rel => exact ⟨q + 1, _, hqm, by go_num, hl2, S7.out⟩
                · go_wp2_with fail
                  go_meet
                  exact ⟨sendS fs a.f, K, rfl, rfl, hK.out.send a.f (by have := Hm.out; omega) (okB_mk Hka.out.fok.b (by have := Hm.out; omega)), hS.drop 0 |>.drop 0 |>.drop 0⟩
          | false =>
            cases h1 : (r == 1) with
            | true =>
              as_aux_lemma =>
                clear x2 x3 x4 x5 x6
                go_wp2_with fail
                clear x1
                obtain ⟨te, hte⟩ : ∃ te, takeE fs a.i = te := ⟨_, rfl⟩
                obtain ⟨x, hx⟩ : ∃ x, takeF fs a.i = x := ⟨_, rfl⟩
                refine (take_any a.i hK.out.small.1 1 rfl hS).mono ?_
                rw [hx, hte]
                rintro en w2 ⟨v2, rfl, hS⟩
                replace hS : Sep w w2 [BRow v2 x.b, cell gx 50 (a.cells m), NetAt g (takeS fs a.i) K, RefAt h fs] := hS
                obtain ⟨m3, hm3⟩ : ∃ m, x.b.length = m := ⟨_, rfl⟩
                obtain ⟨a3, c3, rfl, -, -⟩ := own_slice (own_n m3 hm3 hS 0 rfl)
                obtain ⟨W4, hW4, S4⟩ := hS.boxedF 48 #[.int .i64 x.c, .bool x.d, .slice a3 m3 c3]
                have x1 : W4.cell? ⟨gx, 1, none⟩ = some (.int .i64 a.i) := (S4.blk 2 rfl).at_ 1 rfl
                have HL := rtake_any a.i hK.out.small.1 4 rfl S4
                rw [hx, hte] at HL
                have HL' := Lib.hid HL
                obtain ⟨g4, hg4⟩ : ∃ g, w2.heap.size = g := ⟨_, rfl⟩
                have Hm3 := Lib.hid hm3
                clear HL hte hx hS S4 hm3
                go_wp2_with (
                  refine wpList_store_row rfl 48 (.tmp 11) (.tmp 119) rfl w2.heap.size #[.int .i64 x.c, .bool x.d, .slice a3 m3 c3] rfl rfl 48 _ (Blk.new _ _ _) size48 rfl (fl_one _ _ _ _ _) ?_
                  rw [World.setRow_alloc_new, hW4]
                  clear hW4)
                refine HL'.out.mono ?_
                rintro en w5 ⟨v5, rfl, hS⟩
                replace hS : Sep w w5 [BRow v5 x.b, cell w2.heap.size 48 #[.int .i64 x.c, .bool x.d, .slice a3 m3 c3], BRow (.slice a3 m3 c3) x.b, cell gx 50 (a.cells m), NetAt g (takeS fs a.i) K, RefAt h (takeS fs a.i)] := hS
                rw [hg4] at hS
                obtain ⟨a6, c6, rfl, -, -⟩ := own_slice (own_n m3 Hm3.out hS 0 rfl)
                obtain ⟨W6, hW6, S6⟩ := hS.boxedF 48 #[.int .i64 x.c, .bool x.d, .slice a6 m3 c6]
                obtain ⟨W7, hW7, S7⟩ := S6.boxedF 48 #[.int .i64 x.c, .bool x.d, .slice a3 m3 c3]
                obtain ⟨W8, hW8, S8⟩ := S7.boxedF 48 #[.int .i64 x.c, .bool x.d, .slice a6 m3 c6]
                have y0 : W6.cell? ⟨g4, 0, none⟩ = some (.int .i64 x.c) := (S6.blk 2 rfl).at_ 0 rfl
                have y1 : W6.cell? ⟨g4, 1, none⟩ = some (.bool x.d) := (S6.blk 2 rfl).at_ 1 rfl
                have y2 : W6.cell? ⟨g4, 2, none⟩ = some (.slice a3 m3 c3) := (S6.blk 2 rfl).at_ 2 rfl
                obtain ⟨g6, hg6⟩ : ∃ g, w5.heap.size = g := ⟨_, rfl⟩
                rw [hg6] at S6 S7 S8
                have z0 : W7.cell? ⟨g6, 0, none⟩ = some (.int .i64 x.c) := (S7.blk 1 rfl).at_ 0 rfl
                have z1 : W7.cell? ⟨g6, 1, none⟩ = some (.bool x.d) := (S7.blk 1 rfl).at_ 1 rfl
                have z2 : W7.cell? ⟨g6, 2, none⟩ = some (.slice a6 m3 c6) := (S7.blk 1 rfl).at_ 2 rfl
                have f1 := fr_single x m3 Hm3.out S8 1 rfl 5 rfl
                have f2 := fr_single x m3 Hm3.out S8 0 rfl 3 rfl
                have F3 := Lib.hid (rsame_same 1 1 f1 f2 (by simp))
                have HS8 := Lib.hid S8
                have hh6 : Hid (w5.heap.size = g6) := Lib.hid hg6
                clear f1 f2 S6 S7 S8 hS HL' x1
                go_wp2_with (
                  refine wpList_store_row rfl 48 (.tmp 13) (.tmp 126) rfl w5.heap.size #[.int .i64 x.c, .bool x.d, .slice a6 m3 c6] rfl rfl 48 _ (Blk.new _ _ _) size48 rfl (fl_one _ _ _ _ _) ?_
                  rw [World.setRow_alloc_new, hW6, hg6]
                  clear hW6)
                refine F3.out.mono ?_
                rintro en w9 ⟨rfl, q9, rfl⟩
                have S9 := HS8.out.drewN q9
                clear y0 y1 y2 z0 z1 z2
                go_wp2_with fail
                go_meet
                exact ⟨takeS fs a.i, K, rfl, rfl, hK.out.take _, S9.drop 0 |>.drop 0 |>.drop 0 |>.drop 0 |>.drop 0 |>.drop 0 |>.drop 0⟩
            | false =>
              cases h2 : (r == 2) with
              | true =>
                as_aux_lemma =>
                  clear x2 x3 x4 x5 x6
                  go_wp2_with fail
                  clear x1
                  refine (rtake_any a.i hK.out.small.1 2 rfl hS).mono ?_
                  generalize takeF fs a.i = x
                  rintro en w2 ⟨v2, rfl, hS⟩
                  replace hS : Sep w w2 [BRow v2 x.b, cell gx 50 (a.cells m), NetAt g fs K, RefAt h (takeS fs a.i)] := hS
                  obtain ⟨m3, hm3⟩ : ∃ m, x.b.length = m := ⟨_, rfl⟩
                  obtain ⟨a3, c3, rfl, -, -⟩ := own_slice (own_n m3 hm3 hS 0 rfl)
                  obtain ⟨W4, hW4, S4⟩ := hS.boxedF 48 #[.int .i64 x.c, .bool x.d, .slice a3 m3 c3]
                  have x1 : W4.cell? ⟨gx, 1, none⟩ = some (.int .i64 a.i) := (S4.blk 2 rfl).at_ 1 rfl
                  clear hS hm3
                  obtain ⟨te, hte⟩ : ∃ te, takeE fs a.i = te := ⟨_, rfl⟩
                  have HL := lose_any a.i hK.out.small.1 3 rfl S4
                  rw [hte] at HL ⊢
                  have HL' := Lib.hid HL
                  clear HL hte S4
                  go_wp2_with (
                    refine wpList_store_row rfl 48 (.tmp 15) (.tmp 145) rfl w2.heap.size #[.int .i64 x.c, .bool x.d, .slice a3 m3 c3] rfl rfl 48 _ (Blk.new _ _ _) size48 rfl (fl_one _ _ _ _ _) ?_
                    rw [World.setRow_alloc_new, hW4]
                    clear hW4)
                  refine HL'.out.mono ?_
                  rintro en w5 ⟨rfl, hS⟩
                  replace hS : Sep w w5 [cell w2.heap.size 48 #[.int .i64 x.c, .bool x.d, .slice a3 m3 c3], BRow (.slice a3 m3 c3) x.b, cell gx 50 (a.cells m), NetAt g (takeS fs a.i) K, RefAt h (takeS fs a.i)] := hS
                  clear x1 HL'
                  go_wp2_with fail
                  go_meet
                  exact ⟨takeS fs a.i, K, rfl, rfl, hK.out.take _, hS.drop 0 |>.drop 0 |>.drop 0⟩
              | false =>
                cases h3 : (r == 3) with
                | true =>
                  as_aux_lemma =>
                    clear x2 x3 x4 x5 x6
                    go_upto_region 34 with (fail)
                    obtain ⟨te, hte⟩ : ∃ te, dblE fs a.i = te := ⟨_, rfl⟩
                    have Hte := Lib.hid hte
                    clear hte
                    have hSd := hS.drew
                    go_region_held3 (fun w' => w'.cell? ⟨gx, 1, none⟩ = some (.int .i64 a.i)) (first | exact (hS6.blk 0 rfl).at_ 1 rfl | exact (hS5.blk 0 rfl).at_ 1 rfl | exact x1)
                      (first | (go_at_call 35; refine (double_any a.i hK.out.small.1 hK.out.small.2 1 rfl hSd).mono ?_; rw [Hte.out]; rintro en w5 ⟨rfl, hS5⟩) | (go_at_call 44; refine (rdouble_any a.i hK.out.small.2 2 rfl hS5).mono ?_; rw [Hte.out]; rintro en w6 ⟨rfl, hS6⟩))
                    replace hS6 : Sep w w6 [cell gx 50 (a.cells m), NetAt g (dblS fs a.i) K, RefAt h (dblS fs a.i)] := hS6
                    clear x1
                    go_wp2_with fail
                    go_meet
                    exact ⟨dblS fs a.i, K, rfl, rfl, hK.out.dbl _, hS6.tail⟩
                | false =>
                  have hya := Hka.out.by_
                  as_aux_lemma =>
                    clear x3 x4 x5
                    go_wp2_with fail
                    refine (rspoil_any a.i a.pl a.by_ 2 rfl hS).mono ?_
                    rintro en w2 ⟨rfl, hS⟩
                    replace hS : Sep w w2 [cell gx 50 (a.cells m), NetAt g fs K, RefAt h (spS fs a.i a.pl a.by_)] := hS
                    clear x1 x2 x6
                    have hx : Blk w2 gx 50 (a.cells m) := hS.blk 0 rfl
                    have x1 : w2.cell? ⟨gx, 1, none⟩ = some (.int .i64 a.i) := hx.at_ 1 rfl
                    have x2 : w2.cell? ⟨gx, 2, none⟩ = some (.int .i64 a.pl) := hx.at_ 2 rfl
                    have x6 : w2.cell? ⟨gx, 4 + 2, none⟩ = some (.int .u8 a.by_) := hx.at_ 6 rfl
                    have x6 : w2.cell? ⟨gx, 6, none⟩ = some (.int .u8 a.by_) := hx.at_ 6 rfl
                    clear hx
                    have HP := Lib.hid (spoil_any a.i a.pl a.by_ hK.out.small.1 hK.out.ok hya ⟨hK.out.k0, by have := hK.out.k1; omega⟩ 1 rfl hS)
                    obtain ⟨se, hse⟩ : ∃ e, spE fs a.i a.pl = e := ⟨_, rfl⟩
                    rw [hse] at HP ⊢
                    go_wp2_with fail
                    refine HP.out.mono ?_
                    rintro en w3 ⟨rfl, hS⟩
                    replace hS : Sep w w3 [cell gx 50 (a.cells m), NetAt g (spS fs a.i a.pl a.by_) (spK fs K a.i a.pl a.by_), RefAt h (spS fs a.i a.pl a.by_)] := hS
                    have HK := Lib.hid (hK.out.spoil a.i a.pl a.by_ hya)
                    clear x1 x2 x6 HP
                    have hx : Blk w3 gx 50 (a.cells m) := hS.blk 0 rfl
                    have x1 : w3.cell? ⟨gx, 1, none⟩ = some (.int .i64 a.i) := hx.at_ 1 rfl
                    have x6 : w3.cell? ⟨gx, 6, none⟩ = some (.int .u8 a.by_) := hx.at_ 6 rfl
                    clear hx
                    cases hin : inB fs a.i a.pl with
                    | false =>
                      obtain rfl : se = 5 := by rw [← hse]; unfold spE; rw [hin]; rfl
                      have hk : spK fs K a.i a.pl a.by_ = K := by unfold spK; rw [hin]; rfl
                      rw [hk] at hS HK
                      clear hk hse hin
                      go_wp2_with fail
                      go_meet
                      exact ⟨_, K, rfl, rfl, HK.out, hS.tail⟩
                    | true =>
                      obtain rfl : se = 0 := by rw [← hse]; unfold spE; rw [hin]; rfl
                      by_cases hy0 : a.by_ = 0
                      · have hk : spK fs K a.i a.pl a.by_ = K := by
                          unfold spK
                          rw [if_pos hin]
                          unfold clash
                          rw [if_neg (by rintro ⟨_, h⟩; exact h hy0)]
                        rw [hk] at hS HK
                        have cz : (a.by_ != 0) = false := by simp [hy0]
                        clear hk hse hin hy0
                        go_wp2_with fail
                        go_meet
                        exact ⟨_, K, rfl, rfl, HK.out, hS.tail⟩
                      · have cz : (a.by_ != 0) = true := by simp [hy0]
                        obtain ⟨n, tt, hai, hap, hnl, hfn, htl⟩ := inB_nat hin
                        obtain ⟨f, hf⟩ : ∃ f, fs.getD n zeroF = f := ⟨_, rfl⟩
                        rw [hf] at hfn htl
                        have hss : spS fs a.i a.pl a.by_ = fs.set n (f.sp tt a.by_) := by unfold spS; rw [if_pos hin, hai, hap, Int.toNat_natCast, Int.toNat_natCast, hf]
                        have hsk : spK fs K a.i a.pl a.by_ = clash (spB f.b tt a.by_) a.by_ K := by unfold spK; rw [if_pos hin, hai, hap, Int.toNat_natCast, Int.toNat_natCast, hf]
                        obtain ⟨fs2, hfs2⟩ : ∃ x, spS fs a.i a.pl a.by_ = x := ⟨_, rfl⟩
                        obtain ⟨K2, hK2⟩ : ∃ x, spK fs K a.i a.pl a.by_ = x := ⟨_, rfl⟩
                        rw [hfs2, hK2] at hS HK
                        rw [hfs2] at hss
                        rw [hK2] at hsk
                        obtain ⟨l2, hl2⟩ : ∃ x, spB f.b tt a.by_ = x := ⟨_, rfl⟩
                        rw [hl2] at hsk
                        have hfn2 : fs2[n]? = some (f.sp tt a.by_) := by rw [hss]; exact List.getElem?_set_self hnl
                        have hok2 : okB l2 = true := hl2 ▸ (sp_ok f.b tt a.by_ (hK.out.ok f (List.mem_of_getElem? hfn)) htl hya)
                        have hln2 : l2.length ≤ 2000 := by rw [← hl2]; unfold spB; rw [List.length_set]; exact hK.out.good.b f (List.mem_of_getElem? hfn)
                        obtain ⟨er, her⟩ : ∃ e, (readS l2).2.2.2.2 = e := ⟨_, rfl⟩
                        have HK2 : Hid (K2 = if er = 0 then K + 1 else K) := Lib.hid (by
                          rw [hsk]
                          unfold clash
                          rw [her]
                          by_cases h0 : er = 0
                          · rw [if_pos ⟨h0, hy0⟩, if_pos h0]
                          · rw [if_neg (by rintro ⟨h, _⟩; exact h0 h), if_neg h0])
                        -- the reference's row
                        obtain ⟨vr, es, hes, S⟩ := (hS.pick 2 rfl).openRef
                        have hjl : n < es.length := by
                          have := (List.getElem?_eq_some_iff.1 hfn2).1
                          rw [← hes, List.length_map] at this
                          exact this
                        have he : ∃ u, es[n] = (u, f.sp tt a.by_) := by
                          have h2 : (es.map (·.2))[n]? = some (f.sp tt a.by_) := by rw [hes]; exact hfn2
                          rw [List.getElem?_map, List.getElem?_eq_getElem hjl] at h2
                          have h3 : es[n].2 = f.sp tt a.by_ := Option.some.inj h2
                          exact ⟨es[n].1, by rw [← h3]⟩
                        obtain ⟨u, he⟩ := he
                        obtain ⟨b8, cc, hv, -, -⟩ := (S.ownX 1 rfl).form (by omega)
                        obtain ⟨m8, hm8⟩ : ∃ m, es.length = m := ⟨_, rfl⟩
                        have hr : (cell h 64 #[vr] :: rowX 48 3 vr es.length (entC es) :: (es.map rowE ++ [cell gx 50 (a.cells m), NetAt g fs2 K2]))[n + 2]? = some (BRow es[n].1 es[n].2.b) := by
                          rw [List.getElem?_cons_succ, List.getElem?_cons_succ, List.getElem?_append_left (by simpa using hjl), List.getElem?_map, List.getElem?_eq_getElem hjl]
                          rfl
                        rw [he] at hr
                        obtain ⟨A8, c8, hu, hc8, hC8⟩ := reads_bytes (own_bytes S (i := n + 2) (l := (f.sp tt a.by_).b) (v := u) hr)
                        have hb8 : (f.sp tt a.by_).b = l2 := hl2
                        rw [hb8] at hu hc8 hC8
                        obtain ⟨n8, hn8⟩ : ∃ n, l2.length = n := ⟨_, rfl⟩
                        rw [hn8] at hu hc8 hC8 hln2
                        have f2 : w3.cell? ⟨b8, n * 3 + 2, none⟩ = some (.slice A8 n8 c8) := by
                          have ox := S.ownX 1 rfl
                          rw [hv] at ox
                          have hg := entC_get es n hjl
                          rw [he, hu] at hg
                          exact ox.cells rfl _ _ (hg 2 _ rfl)
                        have c0 : w3.cell? ⟨h, 0, none⟩ = some (.slice (some ⟨b8, 0, none⟩) m8 cc) := by rw [← hm8, ← hv]; exact (S.blk 0 rfl).at_ 0 rfl
                        rw [hm8] at hjl
                        rw [hai] at x1
                        have i0 : (0 : Int) ≤ (n : Int) := by omega
                        have i1 : (n : Int) < (m8 : Int) := by omega
                        have i4 : (n : Int).toNat = n := rfl
                        -- a copy, read
                        have N2 := Lib.hid ((Sep.start w3).drew.nilRowF 5 1)
                        have HO2 := Lib.hid (N2.out.own 0 rfl)
                        have HC8 := Lib.hid hC8
                        have HR := Lib.hid (C_rd (w := w3.drew) hn8 (Kd.C_below hC8 (Below.refl w3.heap.size w3).drew))
                        have Hm1 : Hid (0 + n8 ≤ maxLen) := Lib.hid (by unfold maxLen; omega)
                        have Hm2 : Hid ((0 + n8) * 1 ≤ 140737488355328) := Lib.hid (by omega)
                        have Hone : Hid (∀ u ∈ l2.map enB, u.oneCell' = true) := Lib.hid (by intro u hu; obtain ⟨x, _, rfl⟩ := List.mem_map.1 hu; rfl)
                        obtain ⟨i5, hi5, hz0, hz1, hz2⟩ := info_parts Ext.info5
                        have Hi := Lib.hid hi5
                        have Hz0 := Lib.hid hz0
                        have Hz1 := Lib.hid hz1
                        have Hz2 := Lib.hid hz2
                        have Hn8 := Lib.hid hn8
                        have Hok2 := Lib.hid hok2
                        have Her := Lib.hid her
                        have hbk : Hid (∀ W, Below w3.heap.size w3 W → W.cell? ⟨gx, 1, none⟩ = some (.int .i64 (n : Int)) ∧ W.cell? ⟨h, 0, none⟩ = some (.slice (some ⟨b8, 0, none⟩) m8 cc) ∧ W.cell? ⟨b8, n * 3 + 2, none⟩ = some (.slice A8 n8 c8)) := Lib.hid fun W hb => by
                          have q1 := World.block_lt_of_cell? w3 _ x1
                          have q2 := World.block_lt_of_cell? w3 _ c0
                          have q3 := World.block_lt_of_cell? w3 _ f2
                          exact ⟨(hb.cell (p := ⟨gx, 1, none⟩) q1).trans x1, (hb.cell (p := ⟨h, 0, none⟩) q2).trans c0, (hb.cell (p := ⟨b8, n * 3 + 2, none⟩) q3).trans f2⟩
                        clear hi5 hz0 hz1 hz2 S hes hjl he hm8 hr hu hc8 hC8 hb8 hn8 hok2 her hv hsk hl2 hfn2 hss hfs2 hK2 hfn htl hf hai hap hnl hse hin hy0
                        go_upto_region 15 with (fail)
                        obtain ⟨W3, hW3, T3⟩ := (Sep.start w3).boxedF 32 #[.int .u32 0, .int .u64 0, .int .u64 0, .slice none 0 0]
                        have hbT : Below w3.heap.size w3 W3.drew := T3.drew.below
                        have N3 := Lib.hid (T3.drew.nilRowF 5 1)
                        have HO3 := Lib.hid (N3.out.own 0 rfl)
                        have HR3 := Lib.hid (C_rd (w := W3.drew) Hn8.out (Kd.C_below HC8.out hbT))
                        clear T3
                        go_region_held3 (fun w' => w'.cell? ⟨gx, 1, none⟩ = some (.int .i64 (n : Int)) ∧ w'.cell? ⟨h, 0, none⟩ = some (.slice (some ⟨b8, 0, none⟩) m8 cc) ∧ w'.cell? ⟨b8, n * 3 + 2, none⟩ = some (.slice A8 n8 c8)) (first | exact hbk.out _ hb9 | exact hbk.out _ S6b.below | exact hbk.out _ S6.below | exact hbk.out _ S5a.below | exact hbk.out _ S5.below | exact hbk.out _ hbT | exact ⟨x1, c0, f2⟩) (first | (refine step_append_any (P := Try.prog) _ rfl (.const (.slice none 0 0)) (.tmp 75) 22 rfl 0 5 i5 _ 1 1 Try.underlying22 Hi.out Hz0.out Hz1.out Hz2.out rfl (by omega) (.slice none 0 0) 0 [] rfl HO2.out _ A8 n8 c8 (l2.map enB) rfl HR.out Hone.out Hm1.out Hm2.out (Nat.zero_le _) ?_; intro v5 w5 hown5 hg5 hat5; have hown6 : w5.ownsRow 0 5 1 v5 l2.length (l2.map enB) := (by rw [Nat.zero_add, List.nil_append] at hown5; rw [Hn8.out]; exact hown5); have S5 := N2.out.pushed 0 rfl hown6 hg5 hat5; obtain ⟨a5, c5, hv5, hc5, C5⟩ := reads_bytes (own_bytes S5 (i := 0) (l := l2) rfl); rw [Hn8.out] at hv5 hc5; subst hv5; clear hown5 hown6 hg5 hat5; obtain ⟨W5, hW5, S5a⟩ := S5.boxedF 32 #[.int .u32 0, .int .u64 0, .int .u64 0, .slice none 0 0]) | (refine step_append_any (P := Try.prog) _ rfl (.const (.slice none 0 0)) (.tmp 75) 22 rfl 0 5 i5 _ 1 1 Try.underlying22 Hi.out Hz0.out Hz1.out Hz2.out rfl (by omega) (.slice none 0 0) 0 [] rfl HO3.out _ A8 n8 c8 (l2.map enB) rfl HR3.out Hone.out Hm1.out Hm2.out (Nat.zero_le _) ?_; intro v5 w5 hown5 hg5 hat5; have hown6 : w5.ownsRow 0 5 1 v5 l2.length (l2.map enB) := (by rw [Nat.zero_add, List.nil_append] at hown5; rw [Hn8.out]; exact hown5); have S5 := N3.out.pushed 0 rfl hown6 hg5 hat5; obtain ⟨a5, c5, hv5, hc5, C5⟩ := reads_bytes (own_bytes S5 (i := 0) (l := l2) rfl); rw [Hn8.out] at hv5 hc5; subst hv5; clear hown5 hown6 hg5 hat5; obtain ⟨W5, hW5, S5a⟩ := S5.boxedF 32 #[.int .u32 0, .int .u64 0, .int .u64 0, .slice none 0 0]; have wayC : Hid (0 = 0) := Lib.hid rfl) | (have hq := wayC; clear hq; have f6 := read_any l2 Hok2.out _ c5 C5 (by rw [Hn8.out]; exact hc5) S5; rw [Hn8.out, Her.out] at f6; generalize (readS l2).1 = o1 at f6; generalize (readS l2).2.1 = o2 at f6; generalize (readS l2).2.2.1 = o3 at f6; generalize (readS l2).2.2.2.1 = o4 at f6; go_at_call 26; with_reducible refine f6.mono ?_; clear f6; rintro en w6 ⟨v6, rfl, S6⟩; obtain ⟨a6, c6, hv6, -, -⟩ := own_slice (own_n o4.length rfl S6 0 rfl); subst hv6; have t0 := (S6.blk 2 rfl).at_ 0 rfl; have e0 := (S6.blk 2 rfl).frozen 0; have t1 := (S6.blk 2 rfl).at_ 1 rfl; have e1 := (S6.blk 2 rfl).frozen 1; have t2 := (S6.blk 2 rfl).at_ 2 rfl; have e2 := (S6.blk 2 rfl).frozen 2; have t3 := (S6.blk 2 rfl).at_ 3 rfl; have e3 := (S6.blk 2 rfl).frozen 3; have hb9 := ((((S6.put 2 rfl 0 (.int .u32 o1)).put 2 rfl 1 (.int .u64 o2)).put 2 rfl 2 (.int .u64 o3)).put 2 rfl 3 (.slice a6 o4.length c6)).below) | (have f6 := read_any l2 Hok2.out _ c5 C5 (by rw [Hn8.out]; exact hc5) S5; rw [Hn8.out, Her.out] at f6; generalize (readS l2).1 = o1 at f6; generalize (readS l2).2.1 = o2 at f6; generalize (readS l2).2.2.1 = o3 at f6; generalize (readS l2).2.2.2.1 = o4 at f6; go_at_call 26; with_reducible refine f6.mono ?_; clear f6; rintro en w6 ⟨v6, rfl, S6⟩; obtain ⟨a6, c6, hv6, -, -⟩ := own_slice (own_n o4.length rfl S6 0 rfl); subst hv6; obtain ⟨W6, hW6, S6b⟩ := S6.boxedF 32 #[.int .u32 0, .int .u64 0, .int .u64 0, .slice none 0 0]; have t0 := (S6b.blk 0 rfl).at_ 0 rfl; have e0 := (S6b.blk 0 rfl).frozen 0; have t1 := (S6b.blk 0 rfl).at_ 1 rfl; have e1 := (S6b.blk 0 rfl).frozen 1; have t2 := (S6b.blk 0 rfl).at_ 2 rfl; have e2 := (S6b.blk 0 rfl).frozen 2; have t3 := (S6b.blk 0 rfl).at_ 3 rfl; have e3 := (S6b.blk 0 rfl).frozen 3; have hb9 := ((((S6b.put 0 rfl 0 (.int .u32 o1)).put 0 rfl 1 (.int .u64 o2)).put 0 rfl 2 (.int .u64 o3)).put 0 rfl 3 (.slice a6 o4.length c6)).below) | (have f6 := read_any l2 Hok2.out _ c5 (Kd.C_below C5 (by rw [← hW5]; exact (Below.refl _ _).alloc (Nat.le_refl _) _)) (by rw [Hn8.out]; exact hc5) S5a; rw [Hn8.out, Her.out] at f6; generalize (readS l2).1 = o1 at f6; generalize (readS l2).2.1 = o2 at f6; generalize (readS l2).2.2.1 = o3 at f6; generalize (readS l2).2.2.2.1 = o4 at f6; go_at_call 26; with_reducible refine f6.mono ?_; clear f6; rintro en w6 ⟨v6, rfl, S6⟩; obtain ⟨a6, c6, hv6, -, -⟩ := own_slice (own_n o4.length rfl S6 0 rfl); subst hv6; have t0 := (S6.blk 1 rfl).at_ 0 rfl; have e0 := (S6.blk 1 rfl).frozen 0; have t1 := (S6.blk 1 rfl).at_ 1 rfl; have e1 := (S6.blk 1 rfl).frozen 1; have t2 := (S6.blk 1 rfl).at_ 2 rfl; have e2 := (S6.blk 1 rfl).frozen 2; have t3 := (S6.blk 1 rfl).at_ 3 rfl; have e3 := (S6.blk 1 rfl).frozen 3; have hb9 := ((((S6.put 1 rfl 0 (.int .u32 o1)).put 1 rfl 1 (.int .u64 o2)).put 1 rfl 2 (.int .u64 o3)).put 1 rfl 3 (.slice a6 o4.length c6)).below))
                        all_goals
                          have hS9 := Lib.hid (hS.grow hb9)
                          have hKb : 0 ≤ K ∧ K ≤ 1000000 := ⟨hK.out.k0, by have := hK.out.k1; omega⟩
                          have i9 : IntKind.i64.wrap (K + 1) = K + 1 := IntWalk.i64_in _ (by omega)
                          clear x1 c0 f2 x6 hb9 hbk
                          cases he : (er == 0) with
                          | true =>
                            have hk : Hid (K2 = K + 1) := Lib.hid (by rw [HK2.out, if_pos (by simpa using he)])
                            go_wp2_with fail
                            go_meet
                            exact ⟨fs2, K2, by rw [hk.out], rfl, HK.out, hS9.out.tail⟩
                          | false =>
                            have hk : Hid (K2 = K) := Lib.hid (by rw [HK2.out, if_neg (by intro h; subst h; simp at he)])
                            go_wp2_with fail
                            go_meet
                            exact ⟨fs2, K2, by rw [hk.out], rfl, HK.out, hS9.out.tail⟩
        case rest =>
          clear hS hK
          as_aux_lemma =>
            obtain ⟨fs', K', rfl, rfl, hK', hS⟩ := hcut
            have HK' := Lib.hid hK'
            clear hK'
            obtain ⟨n, hn⟩ : ∃ n, fs'.length = n := ⟨_, rfl⟩
            have Hn := Lib.hid hn
            have hn3 : n ≤ 256 := hn ▸ HK'.out.good.len
            clear hn
            go_wp2_with fail
            refine (flights_any HK'.out.small.1 HK'.out.small.2 0 rfl hS).mono ?_
            rintro en w20 ⟨v20, rfl, hS⟩
            obtain ⟨A20, c20, hv20, -, -, fr20, -⟩ := hS.fr 0 rfl
            rw [Hn.out] at hv20
            subst hv20
            obtain ⟨vr, es, hes, S⟩ := (hS.pick 2 rfl).openRef
            have hen : es.length = n := by rw [← Hn.out, ← hes, List.length_map]
            obtain ⟨Ar, cr, hvr, -, -, frr, -⟩ := fr_of (es := es) S 1 rfl (fun q hq => by
              rw [show 1 + 1 + q = q + 1 + 1 by omega, List.getElem?_cons_succ, List.getElem?_cons_succ, List.getElem?_append_left (by simpa using hq), List.getElem?_map, List.getElem?_eq_getElem hq]; rfl)
            rw [hes] at frr
            rw [hen] at hvr
            subst hvr
            have T : Sep w w20 ([FlX (.slice A20 n c20) fs', NetAt g fs' K'] ++ (cell h 64 #[.slice Ar n cr] :: rowX 48 3 (.slice Ar n cr) es.length (entC es) :: es.map rowE)) := S.perm (List.perm_append_comm (l₁ := cell h 64 #[.slice Ar n cr] :: rowX 48 3 (.slice Ar n cr) es.length (entC es) :: es.map rowE))
            have hback : Hid (∀ W, Sep w W ([FlX (.slice A20 n c20) fs', NetAt g fs' K'] ++ (cell h 64 #[.slice Ar n cr] :: rowX 48 3 (.slice Ar n cr) es.length (entC es) :: es.map rowE)) → Sep w W [FlX (.slice A20 n c20) fs', NetAt g fs' K', RefAt h fs']) := Lib.hid fun W hW => by
              have h1 : Sep w W ((cell h 64 #[.slice Ar n cr] :: rowX 48 3 (.slice Ar n cr) es.length (entC es) :: es.map rowE) ++ [FlX (.slice A20 n c20) fs', NetAt g fs' K']) := hW.perm List.perm_append_comm
              have h2 : Sep w W (RefAt h fs' :: [FlX (.slice A20 n c20) fs', NetAt g fs' K']) := Sep.closeRef hes h1
              exact h2.perm ((List.Perm.swap _ _ _).trans (.cons _ (.swap _ _ _)))
            have c0 : w20.cell? ⟨h, 0, none⟩ = some (.slice Ar n cr) := (T.blk 2 rfl).at_ 0 rfl
            have Td := T.drew
            have F3 := Lib.hid (rsame_parts (w := w20.drew) (ca := c20) (cb := cr) Hn.out (fr20.below (Below.refl w20.heap.size w20).drew) (frr.below (Below.refl w20.heap.size w20).drew) (by omega) Td)
            clear fr20 frr hS S T hes hen
            go_upto_region 36 with (fail)
            go_region_held3 (fun w' => w'.cell? ⟨h, 0, none⟩ = some (.slice Ar n cr)) (first | exact (T1.blk 2 rfl).at_ 0 rfl | exact c0)
              (first | (go_at_call 43; refine F3.out.mono ?_; rintro en w21 ⟨rfl, T1⟩) | (go_at_call 39; refine (len_any 1 rfl T1).mono ?_; rw [Hn.out]; rintro en w22 ⟨rfl, rfl⟩) | (go_at_call 40; refine (clashed_any 1 rfl T1).mono ?_; rintro en w23 ⟨rfl, rfl⟩))
            have hS := hback.out _ T1
            clear T1 Td c0 hback F3
            obtain ⟨es2, hes2, S2⟩ := hS.openF
            have hen2 : es2.length = n := by rw [← Hn.out, ← hes2, List.length_map]
            have S3 : Sep w w21 (rowX 48 3 (.slice A20 n c20) es2.length (entC es2) :: ((es2.map fun e => (e.1, e.2.b)).map BR ++ [NetAt g fs' K', RefAt h fs'])) := by
              rw [List.map_map]
              exact S2
            have Hen2 := Lib.hid hen2
            have hsm : Hid (∀ e ∈ es2, e.2.b.length ≤ 2000) := Lib.hid fun e he => HK'.out.good.b _ (by rw [← hes2]; exact List.mem_map_of_mem he)
            clear S2 hS hes2 hen2
            go_wp2_with fail
            go_loopw [21] (fun p wx => ∃ (k : Nat) (Bs : List (Value × List Int)), k ≤ n ∧ p = .int .i64 (k : Int) ∧ Hid (Shp es2 Bs) ∧ Sep w wx (rowX 48 3 (.slice A20 n c20) es2.length (entC es2) :: (Bs.map BR ++ [NetAt g fs' K', RefAt h fs']))) (fun p _ => n - (intOf p).toNat)
            case atStart => exact ⟨0, _, Nat.zero_le _, rfl, Lib.hid (Shp.start es2), S3⟩
            case round =>
              clear S3
              obtain ⟨k, Bs, hk, rfl, hB, hS⟩ := hrel
              by_cases hkn : k < n
              · have hkn' : (k : Int) < (n : Int) := by omega
                have hke : k < es2.length := by have := Hen2.out; omega
                obtain ⟨b9, d9, hv9, -, -⟩ := (hS.ownX 0 rfl).form (by have := Hen2.out; omega)
                injection hv9 with e1 e2 e3
                clear e2
                subst e1 e3
                obtain ⟨e, hee⟩ : ∃ e, es2[k] = e := ⟨_, rfl⟩
                have hge : Hid (es2[k]? = some e) := Lib.hid (by rw [List.getElem?_eq_getElem hke, hee])
                obtain ⟨l0, hl0, hll⟩ := hB.out k e hge.out
                have hidx : Hid (∀ (Bs : List (Value × List Int)) (l : List Int), Bs[k]? = some (e.1, l) → (rowX 48 3 (.slice (some ⟨b9, 0, none⟩) n c20) es2.length (entC es2) :: (Bs.map BR ++ [NetAt g fs' K', RefAt h fs']))[k + 1]? = some (BRow e.1 l)) := Lib.hid fun Bs l hl => by
                  rw [List.getElem?_cons_succ, List.getElem?_append_left (by rw [List.length_map]; exact (List.getElem?_eq_some_iff.1 hl).1), List.getElem?_map, hl]; rfl
                obtain ⟨a9, c9, he9, -, -⟩ := own_slice (own_n e.2.b.length hll hS (k + 1) (hidx.out Bs l0 hl0))
                obtain ⟨m9, hm9⟩ : ∃ m, e.2.b.length = m := ⟨_, rfl⟩
                have Hm9 := Lib.hid hm9
                have hm9b : m9 ≤ 2000 := hm9 ▸ hsm.out e (List.mem_of_getElem? hge.out)
                rw [hm9] at he9
                have hcl : Hid (∀ (wx : World) (Bs : List (Value × List Int)), Sep w wx (rowX 48 3 (.slice (some ⟨b9, 0, none⟩) n c20) es2.length (entC es2) :: (Bs.map BR ++ [NetAt g fs' K', RefAt h fs'])) → wx.cell? ⟨b9, k * 3 + 2, none⟩ = some (.slice a9 m9 c9)) := Lib.hid fun wx Bs hW => by
                  have hg := entC_get es2 k hke
                  rw [hee] at hg
                  have := (hW.ownX 0 rfl).cells (g := b9) rfl (k * 3 + 2) _ (hg 2 _ rfl)
                  rwa [he9] at this
                have s6 : (k : Int).toNat = k := rfl
                have s7 : (0 : Int) ≤ (k : Int) := by omega
                clear hll hl0 hm9 hee hke
                go_wp2_with fail
                go_loopw [22] (fun p wx => ∃ (q : Nat) (Bs : List (Value × List Int)), q ≤ m9 ∧ p = .int .i64 (q : Int) ∧ Hid (Shp es2 Bs) ∧ Sep w wx (rowX 48 3 (.slice (some ⟨b9, 0, none⟩) n c20) es2.length (entC es2) :: (Bs.map BR ++ [NetAt g fs' K', RefAt h fs']))) (fun p _ => m9 - (intOf p).toNat)
                case atStart => exact ⟨0, Bs, Nat.zero_le _, rfl, hB, hS⟩
                case round =>
                  clear hS hB
                  obtain ⟨q, Bs, hq, rfl, hB, hS⟩ := hrel
                  have g2 := hcl.out _ _ hS
                  by_cases hqm : q < m9
                  · have hqm' : (q : Int) < (m9 : Int) := by omega
                    obtain ⟨l1, hl1, hll⟩ := hB.out k e hge.out
                    have hi1 := hidx.out Bs l1 hl1
                    have hsl : ∃ d, a9 = some ⟨d, 0, none⟩ := by
                      rcases (own_n e.2.b.length hll hS (k + 1) hi1).2 with ⟨h1, h0⟩ | ⟨d, c', _, hu, _⟩
                      · have := Hm9.out; omega
                      · rw [he9] at hu; injection hu with h1; exact ⟨d, h1⟩
                    obtain ⟨d, rfl⟩ := hsl
                    rw [he9] at hi1
                    have hlm : l1.length = m9 := hll.trans Hm9.out
                    obtain ⟨b0, z0⟩ := b_cell hS (k + 1) hi1 q (by omega)
                    have S4 := Lib.hid (hS.putB (k + 1) hi1 hlm q 9)
                    have hB2 := Lib.hid (hB.out.put k e hge.out (l1.set q 9) (by rw [List.length_set]; exact hll))
                    have hset : Hid ((rowX 48 3 (.slice (some ⟨b9, 0, none⟩) n c20) es2.length (entC es2) :: (Bs.map BR ++ [NetAt g fs' K', RefAt h fs'])).set (k + 1) (BRow (.slice (some ⟨d, 0, none⟩) m9 c9) (l1.set q 9)) = rowX 48 3 (.slice (some ⟨b9, 0, none⟩) n c20) es2.length (entC es2) :: ((Bs.set k (e.1, l1.set q 9)).map BR ++ [NetAt g fs' K', RefAt h fs'])) := Lib.hid (by
                      rw [List.set_cons_succ, List.set_append_left _ _ (by rw [List.length_map]; exact (List.getElem?_eq_some_iff.1 hl1).1), List.map_set, ← he9]; rfl)
                    have s8 : (q : Int).toNat = q := rfl
                    have s9 : (0 : Int) ≤ (q : Int) := by omega
                    clear hi1 hl1 hll hlm hS
                    go_wp2_with fail
                    go_roundw
                    case measure => simpa [intOf] using meas m9 q hqm
                    case rel =>
                      refine ⟨q + 1, _, hqm, by go_num, hB2, ?_⟩
                      rw [← hset.out]
                      exact S4.out
                  · go_wp2_with fail
                    go_roundw
                    case measure => simpa [intOf] using meas n k hkn
                    case rel => exact ⟨k + 1, Bs, hkn, by go_num, hB, hS⟩
              · go_wp2_with fail
                go_roundw
                case measure => simpa [intOf] using meas N j hlt
                case rel =>
                  refine ⟨j + 1, fs', K', hlt, by go_num, rfl, HK', ?_⟩
                  have h1 : Sep w _ ((rowX 48 3 (.slice A20 n c20) es2.length (entC es2) :: Bs.map BR) ++ [NetAt g fs' K', RefAt h fs']) := hS
                  exact (h1.bund).tail
      · have HK := Lib.hid hK.out
        as_aux_lemma =>
          clear hK
          obtain ⟨n, hn⟩ : ∃ n, fs.length = n := ⟨_, rfl⟩
          have Hn := Lib.hid hn
          have hn3 : n ≤ 256 := hn ▸ HK.out.good.len
          obtain ⟨vr, es, hes, S⟩ := (hS.pick 1 rfl).openRef
          have hen : es.length = n := by rw [← hn, ← hes, List.length_map]
          obtain ⟨Ar, cr, hvr, -, -, -, -⟩ := fr_of (es := es) S 1 rfl (fun q hq => by
            rw [show 1 + 1 + q = q + 1 + 1 by omega, List.getElem?_cons_succ, List.getElem?_cons_succ, List.getElem?_append_left (by simpa using hq), List.getElem?_map, List.getElem?_eq_getElem hq]; rfl)
          rw [hen] at hvr
          subst hvr
          have T : Sep w wr ([NetAt g fs K] ++ (cell h 64 #[.slice Ar n cr] :: rowX 48 3 (.slice Ar n cr) es.length (entC es) :: es.map rowE)) := S.perm (List.perm_append_comm (l₁ := cell h 64 #[.slice Ar n cr] :: rowX 48 3 (.slice Ar n cr) es.length (entC es) :: es.map rowE))
          have c0 : wr.cell? ⟨h, 0, none⟩ = some (.slice Ar n cr) := (T.blk 1 rfl).at_ 0 rfl
          have Td := T.drew
          have Hfr : Hid (∀ W X, Sep w W (X :: ([NetAt g fs K] ++ (cell h 64 #[.slice Ar n cr] :: rowX 48 3 (.slice Ar n cr) es.length (entC es) :: es.map rowE))) → FR W Ar fs) := Lib.hid fun W X hW => by
            obtain ⟨A', c', hv', -, -, hf', -⟩ := fr_of (es := es) hW 3 rfl (fun q hq => by
              rw [show 3 + 1 + q = q + 1 + 1 + 1 + 1 by omega]
              show (es.map rowE)[q]? = _
              rw [List.getElem?_map, List.getElem?_eq_getElem hq]; rfl)
            injection hv' with e1 e2 e3
            subst e1
            rwa [hes] at hf'
          clear hS S T hn hes hen
          go_upto_region 45 with (fail)
          go_region_held3 (fun w' => w'.cell? ⟨h, 0, none⟩ = some (.slice Ar n cr)) (first | exact (T4.blk 2 rfl).at_ 0 rfl | exact (T3.blk 2 rfl).at_ 0 rfl | exact (T2.blk 2 rfl).at_ 0 rfl | exact c0)
            (first | (go_at_call 36; refine (flights_any HK.out.small.1 HK.out.small.2 0 rfl Td).mono ?_; rintro en w20 ⟨v20, rfl, T2⟩; obtain ⟨A20, c20, hv20, -, -, fr20, -⟩ := T2.fr 0 rfl; rw [Hn.out] at hv20; subst hv20) | (have f6 := rsame_parts (ca := c20) (cb := cr) Hn.out fr20 (Hfr.out _ _ T2) (by omega) T2; go_at_call 43; refine f6.mono ?_; clear f6; rintro en w21 ⟨rfl, T3⟩) | (go_at_call 30; refine (wakes_any _).mono ?_; rintro en w22 ⟨rfl, hb22⟩; have T4 := T3.grow hb22))
          go_wp2_with fail
          go_ret
          exact ⟨rfl, T4.below⟩
end Go.Proofs.Ytmacmhlimdaemaa.Net
namespace Go.Proofs.Ytmacmhlimdaemaa.netPlays
open Go.ChangeShapes Go.WideShapes Go.ChangeAt Go.RowKit
open Go.ChangeMaps (open_string shut_string)

theorem own : ownKnob Try.prog.godebug = none := by kernel_rfl
theorem laidOut : laidOutB Try.prog = true := by kernel_rfl

/-- what the walk gives, for every argument -/
theorem contract (H : Type) (enc : TypeId × Value → H) (W : World) (base : Nat) (args : Array Value) (ds gs : List (DataW H)) (before : List MemPlace)
    (hval : ∀ (j : Nat) t v, Try.f16.params[j]? = some t → args[j]? = some v → Value.okWide Try.prog W .any base t v)
    (hW : DataW.Whole enc Try.prog Try.f16.params.toList Rows.netPlaysSpec.vars false W args.toList ds gs before) :
    Calls Try.prog 16 args W fun e W' => ∃ v, e = .returned v ∧ Rows.netPlaysSpec.post enc Try.prog Try.f16 false true false false W args v W' := by
  have hW' := hW
  obtain ⟨p, q, hA0, hV, rfl, hfz, hnd⟩ := hW
  have hA : DataW.TrodAll enc Try.prog W 0 (fun _ => true) true Try.f16.params.toList args.toList ds p := hA0
  rw [Try.params16] at hA hval
  obtain ⟨v0, vs0, d0, ds0, p0, q0, hargs, rfl, rfl, h0, r0⟩ := trodAll_cons hA
  obtain ⟨rfl, rfl, rfl⟩ := trodAll_nil r0
  obtain rfl : args = #[v0] := by cases args; simp_all
  obtain ⟨rfl, rfl⟩ := trodVars_none hV
  have k0 := h0
  have lt0 : ∀ x ∈ p0, x.block < W.heap.size := by obtain ⟨m, hm⟩ := k0; exact DataW.trod_lt m _ _ _ hm
  obtain ⟨A0, len0, cap0, rfl⟩ := okWide_slice Try.underlying43 (hval 0 43 v0 rfl rfl)
  obtain ⟨fl0, hf0⟩ := h0
  obtain ⟨l0, B0, e0, hcs0, ok0, lc0, cm0, rd0⟩ := Net.acts_in (cs := [.slice A0 len0 cap0]) hf0
  simp only [List.cons.injEq, Value.slice.injEq, and_true] at hcs0
  obtain ⟨rfl, rfl, rfl⟩ := hcs0
  clear hA0
  refine (Net.netPlays_any _ _ l0 W rd0 ok0).mono fun e W' ⟨he, bel⟩ => ?_
  subst he
  exact ⟨_, rfl, _, _, _, [], _, [], hW', trodAll_mk1 (shut_bool Try.underlying4 _), (trodAll_cons_mk (Below.trod laidOut (by kernel_rfl) (of_decide_eq_true (by kernel_rfl)) k0 bel lt0) trodAll_mk0), rfl, bel.frame _, fun h => by cases h⟩

set_option maxRecDepth 100000 in
theorem lifted (os : Os) (started : os.Started) (H : Type) (enc : TypeId × Value → H) :
    ReturnsInHanded {} Try.checked os 16 .any (Rows.netPlaysSpec.pre6 enc Try.prog Try.f16 Rows.netPlaysRow.domain false) (Rows.netPlaysSpec.post enc Try.prog Try.f16 false true false false) := by
  refine returnsInHanded_of_change (C := Try.checked) own started (by kernel_rfl) Try.func16
    (ChangeSpec.witness6 (enc := enc) (C := Try.checked) false ⟨#[], #[.slice none 0 0], []⟩ 8 (by kernel_rfl) (by kernel_rfl) (by kernel_rfl) (by kernel_rfl)) ?_
  intro W base args ds gs before hval hW _ _
  exact contract H enc W base args ds gs before hval hW

theorem holds : Rows.NetPlaysSaid :=
  OpenClaim.holds_of_wide 16 Try.f16 rfl rfl rfl rfl rfl rfl rfl ⟨rfl, rfl, rfl, rfl, rfl⟩ rfl rfl rfl rfl rfl (by kernel_rfl) Try.func16 (by kernel_rfl)
    (of_decide_eq_true (by kernel_rfl)) (by unfold Func.isWrapper; first | (rw [if_pos (by decide +kernel)]; kernel_rfl) | (rw [if_neg (by decide +kernel)]; exact ⟨rfl, rfl⟩))
    (fun os started H enc _ => lifted os started H enc)
#print axioms holds
end Go.Proofs.Ytmacmhlimdaemaa.netPlays
