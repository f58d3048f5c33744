/- Spoil's inner function. -/
import Derived.Test.YtmacmhlimdaemaaNSpend
import Derived.Test.YtmacmhlimdaemaaBRow
import Derived.Deep.RegionHeld3
namespace Go.Proofs.Ytmacmhlimdaemaa
open Go.RowKit
section
variable {w0 w : World} {L : List Asn}
theorem ownsRow_put {e : TypeId} {size n b c : Nat} {xs : List Value} (h : w.ownsRow 0 e size (.slice (some ⟨b, 0, none⟩) n c) n xs) (j : Nat) (u : Value) : (w.setCell ⟨b, j, none⟩ u).ownsRow 0 e size (.slice (some ⟨b, 0, none⟩) n c) n (xs.set j u) := by
  obtain ⟨h1, ⟨h2, _⟩ | ⟨g, cap, cur, hv, hb0, hg, hnc, hcm, hcs, ht⟩⟩ := h
  · cases h2
  · injection hv with e1 e2 e3
    injection e1 with e1
    injection e1 with e1
    subst e1 e3
    have hb : Blk w b e cur := hg
    refine ⟨by rw [List.length_set]; exact h1, .inr ⟨b, c, cur.setIfInBounds j u, rfl, hb0, hb.set_ j u, hnc, hcm, by simpa using hcs, ?_⟩⟩
    rw [Array.toList_setIfInBounds, List.take_set, ht]
theorem Sep.putRow {e : TypeId} {size n b c : Nat} {xs : List Value} (h : Sep w0 w L) (i : Nat) (hi : L[i]? = some (row e size (.slice (some ⟨b, 0, none⟩) n c) n xs)) (j : Nat) (u : Value) :
    Sep w0 (w.setCell ⟨b, j, none⟩ u) (L.set i (row e size (.slice (some ⟨b, 0, none⟩) n c) n (xs.set j u))) := by
  obtain ⟨F, hA, hF, hup⟩ := h.step i hi
  exact hup _ _ F (Only.setCell (p := ⟨b, j, none⟩) (Only.refl F w) (.inl ((hA.2 b).2 rfl)) u) ⟨ownsRow_put hA.1 j u, hA.2⟩ fun k hk => .inl hk
end
end Go.Proofs.Ytmacmhlimdaemaa
namespace Go.Proofs.Ytmacmhlimdaemaa.Net
open Go.RowKit Go.Proofs.YtmacmhlimdaemaaW.PrintWords Go.Proofs.Ytmacmhlimdaemaa.R Go.Proofs.Ytmacmhlimdaemaa.Pkt Go.Proofs.Ytmacmhlimdaemaa.Ext
/-- a byte spoilt -/
def spB (l : List Int) (t : Nat) (y : Int) : List Int := l.set t (Go.bits .xor .u8 (l[t]?.getD 0) y)
def clash (l : List Int) (y k : Int) : Int := if (readS l).2.2.2.2 = 0 ∧ y ≠ 0 then k + 1 else k
section
variable {w0 w w' : World} {L M : List Asn}
theorem _root_.Go.Proofs.Ytmacmhlimdaemaa.Sep.putB {n b c : Nat} {l : List Int} (h : Sep w0 w L) (i : Nat) (hi : L[i]? = some (BRow (.slice (some ⟨b, 0, none⟩) n c) l)) (hn : l.length = n) (j : Nat) (x : Int) :
    Sep w0 (w.setCell ⟨b, j, none⟩ (.int .u8 x)) (L.set i (BRow (.slice (some ⟨b, 0, none⟩) n c) (l.set j x))) := by
  subst hn
  have h1 := Sep.putRow h i hi j (enB x)
  rw [← List.map_set] at h1
  unfold BRow
  rw [List.length_set]
  exact h1
theorem b_cell {n b c : Nat} {l : List Int} (h : Sep w0 w L) (i : Nat) (hi : L[i]? = some (BRow (.slice (some ⟨b, 0, none⟩) n c) l)) (t : Nat) (ht : t < l.length) : w.cell? ⟨b, t, none⟩ = some (.int .u8 (l[t]?.getD 0)) ∧ w.frozen? ⟨b, t, none⟩ = false := by
  have hx := ownsX.of_own (h.own i hi)
  have hn : l.length = n := by
    obtain ⟨A, c', h1, _⟩ := reads_bytes (own_bytes h hi)
    injection h1 with _ e _
    exact e.symm
  subst hn
  exact ⟨hx.cells (g := b) rfl t (enB (l[t]?.getD 0)) (by rw [List.getElem?_map, List.getElem?_eq_getElem ht]; rfl), hx.frozen t⟩
theorem sp_ok (l : List Int) (t : Nat) (y : Int) (hl : okB l = true) (ht : t < l.length) (hy : 0 ≤ y ∧ y < 256) : okB (spB l t y) = true := by
  unfold spB
  have hx := okB_mem hl _ (List.getElem_mem ht)
  rw [List.getElem?_eq_getElem ht, Option.getD_some, u8_xor _ _ hx.1 hx.2 hy.1 hy.2]
  refine okB_set hl t _ ?_
  exact Nat.xor_lt_two_pow (n := 8) (by omega) (by omega)
theorem size32 : (Try.prog.info? 32).map (·.size) = some 4 := by kernel_rfl
theorem pk_cells (a b d : Int) (A : Option Addr) (n m : Nat) : #[Value.int .u32 a, .int .u64 b, .int .u64 d, .slice A n m].all (·.oneCell') = true := by kernel_rfl
/-- what Spoil's inner function finds -/
abbrev spL (p y q g d n c : Nat) (pl by_ k : Int) (v : Value) (l : List Int) (M : List Asn) : List Asn := cell p 3 #[.int .i64 pl] :: cell y 5 #[.int .u8 by_] :: cell q 45 #[.pointer (some ⟨g, 0, none⟩)] :: cell g 80 #[v, .int .i64 k] :: BRow (.slice (some ⟨d, 0, none⟩) n c) l :: M
set_option maxRecDepth 100000 in
theorem spoil1 (l : List Int) (p y q g b o d n c t : Nat) (by_ k : Int) (v : Value) (hn : l.length = n) (ht : t < n) (hl : okB l = true) (hby : 0 ≤ by_ ∧ by_ < 256) (hk : 0 ≤ k ∧ k ≤ 1000000)
    (HF : ∀ W l k, Sep w0 W (spL p y q g d n c (t : Int) by_ k v l M) → W.cell? ⟨b, o + 2, none⟩ = some (.slice (some ⟨d, 0, none⟩) n c)) (hS : Sep w0 w (spL p y q g d n c (t : Int) by_ k v l M)) :
    Calls Try.prog 58 #[.pointer (some ⟨b, o, none⟩), .pointer (some ⟨p, 0, none⟩), .pointer (some ⟨y, 0, none⟩), .pointer (some ⟨q, 0, none⟩)] w fun en w' => en = .returned (.int .i64 0) ∧ Sep w0 w' (spL p y q g d n c (t : Int) by_ (clash (spB l t by_) by_ k) v (spB l t by_) M) := by
  have HF1 := Lib.hid HF
  have f2 := HF _ _ _ hS
  have p0 : w.cell? ⟨p, 0, none⟩ = some (.int .i64 (t : Int)) := (hS.blk 0 rfl).at_ 0 rfl
  have y0 : w.cell? ⟨y, 0, none⟩ = some (.int .u8 by_) := (hS.blk 1 rfl).at_ 0 rfl
  obtain ⟨b0, z0⟩ := b_cell hS 4 rfl t (by omega)
  have d0 : decide ((t : Int) < 0) = false := decide_eq_false (by omega)
  have d1 : decide ((n : Int) ≤ (t : Int)) = false := decide_eq_false (by omega)
  have d2 : decide (n ≤ t) = false := decide_eq_false (by omega)
  have i1 : (t : Int).toNat = t := rfl
  have i2 : (0 : Int) ≤ (t : Int) := by omega
  have i3 : (t : Int) < (n : Int) := by omega
  have Hn := Lib.hid hn
  have HS := Lib.hid hS
  clear HF hn hS
  go_enter Try.func58, Try.ntmps58
  go_upto_region 1 with (fail)
  go_quiet (fail)
  go_upto_region 3 with (fail)
  go_cut [] (fun wx => Sep w0 wx (spL p y q g d n c (t : Int) by_ k v (spB l t by_) M))
  case first =>
    have S3 := (HS.out.drewN (nq + 1)).putB 4 rfl Hn.out t (Go.bits .xor .u8 (l[t]?.getD 0) by_)
    go_region_law (fail)
    all_goals
      go_wp2_with fail
      go_meet
      exact S3
  case rest =>
    clear f2 p0 y0 b0 z0 HS
    have hS := hcut
    clear hcut
    have f2 := HF1.out _ _ _ hS
    have hl2 : okB (spB l t by_) = true := sp_ok l t by_ hl (by have := Hn.out; omega) hby
    have hn2 : (spB l t by_).length = n := by unfold spB; rw [List.length_set]; exact Hn.out
    obtain ⟨A2, c2, hA2, hc2, hC2⟩ := reads_bytes (own_bytes hS (i := 4) (l := spB l t by_) rfl)
    injection hA2 with e1 e2 e3
    subst e1 e3
    have HR := Lib.hid (read_any (spB l t by_) hl2 _ c hC2 (by omega) hS)
    rw [hn2] at HR
    clear hl2 hn2 e2 hc2 hC2 hS
    obtain ⟨er, her⟩ : ∃ e, (readS (spB l t by_)).2.2.2.2 = e := ⟨_, rfl⟩
    have hcl : Hid (clash (spB l t by_) by_ k = if er = 0 ∧ by_ ≠ 0 then k + 1 else k) := Lib.hid (by unfold clash; rw [her])
    rw [her] at HR
    generalize (readS (spB l t by_)).1 = o1 at HR
    generalize (readS (spB l t by_)).2.1 = o2 at HR
    generalize (readS (spB l t by_)).2.2.1 = o3 at HR
    generalize (readS (spB l t by_)).2.2.2.1 = o4 at HR
    clear her
    go_wp2_with fail
    refine HR.out.mono ?_
    rintro en w2 ⟨v2, rfl, hS⟩
    obtain ⟨a2, c2, rfl, -, -⟩ := own_slice (own_n o4.length rfl hS 0 rfl)
    obtain ⟨W4, hW4, S4⟩ := hS.boxedF 32 #[.int .u32 (o1 : Int), .int .u64 (o2 : Int), .int .u64 (o3 : Int), .slice a2 o4.length c2]
    have y0 : W4.cell? ⟨y, 0, none⟩ = some (.int .u8 by_) := (S4.blk 3 rfl).at_ 0 rfl
    have q0 : W4.cell? ⟨q, 0, none⟩ = some (.pointer (some ⟨g, 0, none⟩)) := (S4.blk 4 rfl).at_ 0 rfl
    have g0 : W4.cell? ⟨g, 1, none⟩ = some (.int .i64 k) := (S4.blk 5 rfl).at_ 1 rfl
    have z0 := (S4.blk 5 rfl).frozen 1
    have S5 := Lib.hid (S4.put 5 rfl 1 (.int .i64 (k + 1)))
    have HS4 := Lib.hid S4
    have i5 : IntKind.i64.wrap (k + 1) = k + 1 := IntWalk.i64_in _ (by omega)
    clear S4 f2 hS
    by_cases hb : by_ = 0
    · have hcl2 := hcl.out
      rw [if_neg (by rintro ⟨_, h⟩; exact h hb)] at hcl2
      have Hcl := Lib.hid hcl2
      have c0 : (by_ != 0) = false := by simp [hb]
      clear hb hcl hcl2
      cases he : (er == 0) with
      | true =>
        go_wp2_with (
          refine wpList_store_row rfl 32 (.tmp 6) (.tmp 35) rfl w2.heap.size #[.int .u32 (o1 : Int), .int .u64 (o2 : Int), .int .u64 (o3 : Int), .slice a2 o4.length c2] rfl rfl 32 _ (Blk.new _ _ _) size32 rfl (pk_cells _ _ _ _ _ _) ?_
          rw [World.setRow_alloc_new, hW4]
          clear hW4)
        go_ret
        refine ⟨rfl, ?_⟩
        rw [Hcl.out]
        exact HS4.out.tail.tail
      | false =>
        go_wp2_with (
          refine wpList_store_row rfl 32 (.tmp 6) (.tmp 35) rfl w2.heap.size #[.int .u32 (o1 : Int), .int .u64 (o2 : Int), .int .u64 (o3 : Int), .slice a2 o4.length c2] rfl rfl 32 _ (Blk.new _ _ _) size32 rfl (pk_cells _ _ _ _ _ _) ?_
          rw [World.setRow_alloc_new, hW4]
          clear hW4)
        go_ret
        refine ⟨rfl, ?_⟩
        rw [Hcl.out]
        exact HS4.out.tail.tail
    · have c0 : (by_ != 0) = true := by simp [hb]
      cases he : (er == 0) with
      | true =>
        have hcl2 := hcl.out
        rw [if_pos ⟨by simpa using he, hb⟩] at hcl2
        have Hcl := Lib.hid hcl2
        clear hb hcl hcl2
        go_wp2_with (
          refine wpList_store_row rfl 32 (.tmp 6) (.tmp 35) rfl w2.heap.size #[.int .u32 (o1 : Int), .int .u64 (o2 : Int), .int .u64 (o3 : Int), .slice a2 o4.length c2] rfl rfl 32 _ (Blk.new _ _ _) size32 rfl (pk_cells _ _ _ _ _ _) ?_
          rw [World.setRow_alloc_new, hW4]
          clear hW4)
        go_ret
        refine ⟨rfl, ?_⟩
        rw [Hcl.out]
        exact S5.out.tail.tail
      | false =>
        have hcl2 := hcl.out
        rw [if_neg (by rintro ⟨h, _⟩; subst h; simp at he)] at hcl2
        have Hcl := Lib.hid hcl2
        clear hb hcl hcl2
        go_wp2_with (
          refine wpList_store_row rfl 32 (.tmp 6) (.tmp 35) rfl w2.heap.size #[.int .u32 (o1 : Int), .int .u64 (o2 : Int), .int .u64 (o3 : Int), .slice a2 o4.length c2] rfl rfl 32 _ (Blk.new _ _ _) size32 rfl (pk_cells _ _ _ _ _ _) ?_
          rw [World.setRow_alloc_new, hW4]
          clear hW4)
        go_ret
        refine ⟨rfl, ?_⟩
        rw [Hcl.out]
        exact HS4.out.tail.tail
theorem spoil1_out (p y q b o n c : Nat) (A : Option Addr) (pl : Int) (h : pl < 0 ∨ (n : Int) ≤ pl) (f2 : w.cell? ⟨b, o + 2, none⟩ = some (.slice A n c)) (p0 : w.cell? ⟨p, 0, none⟩ = some (.int .i64 pl)) :
    Calls Try.prog 58 #[.pointer (some ⟨b, o, none⟩), .pointer (some ⟨p, 0, none⟩), .pointer (some ⟨y, 0, none⟩), .pointer (some ⟨q, 0, none⟩)] w fun en w' => en = .returned (.int .i64 5) ∧ ∃ q, w' = w.drewN q := by
  by_cases h0 : pl < 0
  · have d0 : decide (pl < 0) = true := decide_eq_true h0
    clear h
    go_enter Try.func58, Try.ntmps58
    go_upto_region 1 with (fail)
    go_quiet (fail)
    go_wp2_with fail
    go_ret
    exact ⟨rfl, _, rfl⟩
  · have h1 : (n : Int) ≤ pl := by omega
    have d0 : decide (pl < 0) = false := decide_eq_false h0
    have d1 : decide ((n : Int) ≤ pl) = true := decide_eq_true h1
    clear h
    go_enter Try.func58, Try.ntmps58
    go_upto_region 1 with (fail)
    go_quiet (fail)
    go_wp2_with fail
    go_ret
    exact ⟨rfl, _, rfl⟩
end
end Go.Proofs.Ytmacmhlimdaemaa.Net
