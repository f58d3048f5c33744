/- The reference's net. -/
import Derived.Test.YtmacmhlimdaemaaNSpoilAny
import Derived.Deep.CutBlock
namespace Go.Proofs.Ytmacmhlimdaemaa.Net
open Go.RowKit Go.Proofs.YtmacmhlimdaemaaW.PrintWords Go.Proofs.Ytmacmhlimdaemaa.R Go.Proofs.Ytmacmhlimdaemaa.Pkt Go.Proofs.Ytmacmhlimdaemaa.Ext
/-- the reference's net at g has these flights -/
def RefAt (g : Nat) (fs : List Fl) : Asn := exA fun x : { x : Value × List Ent // x.2.map (·.2) = fs } => bund (cell g 64 #[x.1.1] :: rowX 48 3 x.1.1 x.1.2.length (entC x.1.2) :: x.1.2.map rowE)
section
variable {w0 w w' : World} {L M : List Asn}
theorem _root_.Go.Proofs.Ytmacmhlimdaemaa.Sep.openRef {g : Nat} {fs : List Fl} (h : Sep w0 w (RefAt g fs :: L)) : ∃ v es, es.map (·.2) = fs ∧ Sep w0 w (cell g 64 #[v] :: rowX 48 3 v es.length (entC es) :: (es.map rowE ++ L)) := by
  obtain ⟨⟨⟨v, es⟩, hx⟩, h⟩ := h.openE
  exact ⟨v, es, hx, h.unbund⟩
theorem _root_.Go.Proofs.Ytmacmhlimdaemaa.Sep.closeRef {g : Nat} {v : Value} {es : List Ent} {fs : List Fl} (hx : es.map (·.2) = fs) (h : Sep w0 w (cell g 64 #[v] :: rowX 48 3 v es.length (entC es) :: (es.map rowE ++ L))) : Sep w0 w (RefAt g fs :: L) := by
  have h1 : Sep w0 w ((cell g 64 #[v] :: rowX 48 3 v es.length (entC es) :: es.map rowE) ++ L) := h
  exact Sep.closeE (P := fun x : { x : Value × List Ent // x.2.map (·.2) = fs } => bund (cell g 64 #[x.1.1] :: rowX 48 3 x.1.1 x.1.2.length (entC x.1.2) :: x.1.2.map rowE)) ⟨(v, es), hx⟩ h1.bund
/-- bytes that can be read, as cells -/
theorem C_rd {A : Option Addr} {n : Nat} {l : List Int} (hn : l.length = n) (h : Kd.C (Kd.int .u8) w A n l) : Reads w w.heap.size 1 A n (l.map enB) := by
  subst hn
  have h2 := Kd.reads_of_C (enc := Value.int .u8) (d := (0 : Int)) (h1 := fun _ => rfl) h
  refine ⟨by simp, fun hp => ?_⟩
  obtain ⟨ad, rfl, hc⟩ := h2.2.2 hp
  have h0 := hc 0 hp
  have hlt := World.block_lt_of_cell? w _ h0
  rw [block_of_add] at hlt
  refine ⟨ad, rfl, hlt, fun j u hu => ?_⟩
  have hj : j < l.length := by simpa using (List.getElem?_eq_some_iff.1 hu).1
  rw [hc j hj]
  rw [List.getElem?_map, List.getElem?_eq_getElem hj] at hu
  simp only [Option.map_some, Option.some.injEq] at hu
  rw [← hu]
  simp [enB, List.getD_eq_getElem?_getD, hj]
/-- copied: a flight with bytes of its own -/
theorem copied_any (f : Fl) (n : Nat) (hn : f.b.length = n) (hl : n ≤ 1000000) (A : Option Addr) (c : Nat) (hC : Kd.C (Kd.int .u8) w A n f.b) (hS : Sep w0 w L) :
    Calls Try.prog 57 #[.agg #[.int .i64 f.c, .bool f.d, .slice A n c]] w fun en w' => ∃ v, en = .returned (.agg #[.int .i64 f.c, .bool f.d, v]) ∧ Sep w0 w' (BRow v f.b :: L) := by
  obtain ⟨W1, hW1, S1⟩ := hS.boxedF 48 #[.int .i64 f.c, .bool f.d, .slice A n c]
  obtain ⟨W2, hW2, S2⟩ := S1.boxedF 48 #[.int .i64 0, .bool false, .slice none 0 0]
  have hb1 : Below w.heap.size w W1 := by rw [← hW1]; exact (Below.refl _ _).alloc (Nat.le_refl _) _
  have hb2 : Below W1.heap.size W1 W2 := by rw [← hW2]; exact (Below.refl _ _).alloc (Nat.le_refl _) _
  have HR := Lib.hid (C_rd hn (Kd.C_below (Kd.C_below hC hb1) hb2))
  have k1 : W2.cell? ⟨w.heap.size, 2, none⟩ = some (.slice A n c) := (S2.blk 1 rfl).at_ 2 rfl
  have z1 := (S2.blk 1 rfl).frozen 2
  have O2 := Lib.hid (S2.nilRowF 5 1)
  have HO := Lib.hid (O2.out.own 0 rfl)
  have Hm := Lib.hid hn
  have Hm1 : Hid (0 + n ≤ maxLen) := Lib.hid (by unfold maxLen; omega)
  have Hm2 : Hid ((0 + n) * 1 ≤ 140737488355328) := Lib.hid (by omega)
  have Hone : Hid (∀ u ∈ f.b.map enB, u.oneCell' = true) := Lib.hid (by intro u hu; obtain ⟨x, _, rfl⟩ := List.mem_map.1 hu; rfl)
  obtain ⟨i5, hi5, hz0, hz1, hz2⟩ := info_parts Ext.info5
  have Hi := Lib.hid hi5
  have Hz0 := Lib.hid hz0
  have Hz1 := Lib.hid hz1
  have Hz2 := Lib.hid hz2
  clear hC hn hl hb1 hb2 S1 S2 hS hi5 hz0 hz1 hz2
  go_enter Try.func57, Try.ntmps57
  go_wp2_with (first
    | (at_builtin
       refine wpList_append_any _ rfl (.const (.slice none 0 0)) (.tmp 4) 22 rfl 0 5 i5 _ 1 1 Try.underlying22 Hi.out Hz0.out Hz1.out Hz2.out rfl (by omega) (.slice none 0 0) 0 [] rfl HO.out W2.heap.size A n c (f.b.map enB) rfl HR.out Hone.out Hm1.out Hm2.out (Nat.zero_le _) ?_
       intro v3 w3 hown3 hg3 hat3
       have hown4 : w3.ownsRow 0 5 1 v3 f.b.length (f.b.map enB) := by rw [Nat.zero_add, List.nil_append] at hown3; rw [Hm.out]; exact hown3
       have S3 := O2.out.pushed 0 rfl hown4 hg3 hat3
       clear hown3 hown4 hg3 hat3 k1 z1
       obtain ⟨a3, c3, hv3, -, -⟩ := own_slice (S3.own 0 rfl)
       rw [Hm.out] at hv3
       subst hv3
       have z1 := (S3.blk 2 rfl).frozen 2
       have k0 : w3.cell? ⟨w.heap.size, 2, none⟩ = some (.slice A n c) := (S3.blk 2 rfl).at_ 2 rfl
       have S4 := S3.put 2 rfl 2 (.slice a3 n c3)
       obtain ⟨W4, hW4⟩ : ∃ W4, w3.setCell ⟨w.heap.size, 2, none⟩ (.slice a3 n c3) = W4 := ⟨_, rfl⟩
       rw [hW4] at S4
       have r0 : W4.cell? ⟨w.heap.size, 0, none⟩ = some (.int .i64 f.c) := (S4.blk 2 rfl).at_ 0 rfl
       have r1 : W4.cell? ⟨w.heap.size, 1, none⟩ = some (.bool f.d) := (S4.blk 2 rfl).at_ 1 rfl
       have r2 : W4.cell? ⟨w.heap.size, 2, none⟩ = some (.slice a3 n c3) := (S4.blk 2 rfl).at_ 2 rfl
       obtain ⟨W5, hW5⟩ : ∃ W5, W4.setRow W1.heap.size #[.int .i64 f.c, .bool f.d, .slice a3 n c3] = W5 := ⟨_, rfl⟩
       have S5 := S4.setRow 1 rfl #[.int .i64 f.c, .bool f.d, .slice a3 n c3]
       rw [hW5] at S5
       have D := S5.blk 1 rfl
       have HS := Lib.hid (S5.drop 1)
       have HB := Lib.hid (S4.blk 1 rfl)
       clear S3 S4 S5)
    | (refine wpList_store_row rfl 48 (.tmp 2) (.tmp 7) rfl W1.heap.size #[.int .i64 f.c, .bool f.d, .slice a3 n c3] rfl rfl 48 _ HB.out size48 rfl (fl_one _ _ _ _ _) ?_
       rw [hW5]))
  exact bodyPost_ret (v := .agg #[.int .i64 f.c, .bool f.d, .slice a3 n c3]) (results_cell_row (p := 2) rfl _ _ _ 48 _ (0, 0) _ rfl D Try.underlying48 rfl (by kernel_rfl)) rfl ⟨_, rfl, HS.out.drop 1⟩
theorem rsend_full (g : Nat) (fs : List Fl) (f : Fl) (hf : 256 ≤ fs.length) (A : Option Addr) (n c : Nat) (hS : Sep w0 w (RefAt g fs :: M)) :
    Calls Try.prog 41 #[.pointer (some ⟨g, 0, none⟩), f.agg (.slice A n c)] w fun en w' => en = .returned (.int .i64 3) ∧ Sep w0 w' (RefAt g fs :: M) := by
  obtain ⟨v, es, hes, S⟩ := hS.openRef
  obtain ⟨a, cc, hv, -, -⟩ := (S.ownX 1 rfl).slice
  obtain ⟨m, hm⟩ : ∃ m, es.length = m := ⟨_, rfl⟩
  have hm2 : 256 ≤ m := by rw [← hm, ← List.length_map (·.2), hes]; exact hf
  rw [hm] at hv
  have Hv := Lib.hid hv
  obtain ⟨W1, hW1, S1⟩ := S.boxedF 48 #[.int .i64 f.c, .bool f.d, .slice A n c]
  have c0 := (S1.blk 1 rfl).at_ 0 rfl
  rw [hv] at c0
  have hd : decide ((256 : Int) ≤ (m : Int)) = true := decide_eq_true (by omega)
  unfold Fl.agg
  clear S hm hv hS hf
  go_enter Try.func41, Try.ntmps41
  go_wp2_with fail
  go_ret
  exact ⟨rfl, Sep.closeRef hes S1.tail⟩
theorem res_push {g : Nat} {v : Value} {es : List Ent} {fs : List Fl} {u : Value} {f : Fl} {n : Nat} (hn : es.length = n) (hes : es.map (·.2) = fs) (h : Sep w0 w (BRow u f.b :: cell g 64 #[v] :: rowX 48 3 v (n + 1) (entC es ++ f.cells u) :: (es.map rowE ++ M))) : Sep w0 w (RefAt g (fs ++ [f]) :: M) := by
  refine Sep.closeRef (v := v) (es := es ++ [(u, f)]) (by rw [List.map_append, hes]; rfl) ?_
  rw [List.length_append, hn, entC_append, List.map_append, List.append_assoc]
  have he : entC [(u, f)] = f.cells u := by simp [entC]
  rw [he]
  refine h.perm ?_
  refine (List.Perm.swap _ _ _).trans (List.Perm.cons _ ((List.Perm.swap _ _ _).trans (List.Perm.cons _ ?_)))
  exact List.perm_middle.symm
set_option maxRecDepth 100000 in
set_option maxHeartbeats 1000000 in
theorem rsend_room (g : Nat) (fs : List Fl) (f : Fl) (hf : fs.length < 256) (A : Option Addr) (n c : Nat) (hn : f.b.length = n) (hl : n ≤ 1000000) (hC : Kd.C (Kd.int .u8) w A n f.b) (hS : Sep w0 w (RefAt g fs :: M)) :
    Calls Try.prog 41 #[.pointer (some ⟨g, 0, none⟩), f.agg (.slice A n c)] w fun en w' => en = .returned (.int .i64 0) ∧ Sep w0 w' (RefAt g (fs ++ [f]) :: M) := by
  obtain ⟨v, es, hes, S⟩ := hS.openRef
  obtain ⟨a, cc, hv, -, -⟩ := (S.ownX 1 rfl).slice
  obtain ⟨m, hm⟩ : ∃ m, es.length = m := ⟨_, rfl⟩
  have hm2 : m < 256 := by rw [← hm, ← List.length_map (·.2), hes]; exact hf
  rw [hm] at hv S
  subst hv
  obtain ⟨W1, hW1, S1⟩ := S.boxedF 48 #[.int .i64 f.c, .bool f.d, .slice A n c]
  have hb1 : Below w.heap.size w W1 := by rw [← hW1]; exact (Below.refl _ _).alloc (Nat.le_refl _) _
  have hd : decide ((256 : Int) ≤ (m : Int)) = false := decide_eq_false (by omega)
  have c0 := (S1.blk 1 rfl).at_ 0 rfl
  have ⟨b0, b1, b2⟩ : W1.cell? ⟨w.heap.size, 0, none⟩ = some (.int .i64 f.c) ∧ W1.cell? ⟨w.heap.size, 1, none⟩ = some (.bool f.d) ∧ W1.cell? ⟨w.heap.size, 2, none⟩ = some (.slice A n c) := ⟨(S1.blk 0 rfl).at_ 0 rfl, (S1.blk 0 rfl).at_ 1 rfl, (S1.blk 0 rfl).at_ 2 rfl⟩
  have HC := Lib.hid (Kd.C_below (Kd.C_below hC hb1) (Below.refl W1.heap.size W1).drew)
  obtain ⟨i48, hi48, hz0, hz1, hz2⟩ := info_parts info48
  have Hi := Lib.hid hi48
  have Hz0 := Lib.hid hz0
  have Hz1 := Lib.hid hz1
  have Hz2 := Lib.hid hz2
  have Hn := Lib.hid hn
  have Hl := Lib.hid hl
  have Hm := Lib.hid hm
  have Hes := Lib.hid hes
  have HS := Lib.hid S1.drew
  have Hm1 : Hid (m + 1 ≤ maxLen) := Lib.hid (by unfold maxLen; omega)
  have Hm2 : Hid ((m + 1) * 40 ≤ 140737488355328) := Lib.hid (by omega)
  unfold Fl.agg
  clear hi48 hz0 hz1 hz2 hn hl hm hes S S1 hC hb1 hS hf
  go_enter Try.func41, Try.ntmps41
  go_upto_region 3 with (fail)
  go_region_law (first | (go_simp; go_at_call 57; refine (copied_any f n Hn.out Hl.out A c HC.out HS.out).mono ?_; rintro en w3 ⟨v3, rfl, S3⟩; obtain ⟨a3, c3, rfl, -, -⟩ := own_slice (own_n n Hn.out S3 0 rfl); obtain ⟨W4, hW4, S4⟩ := S3.boxedF 48 #[.int .i64 f.c, .bool f.d, .slice a3 n c3]; have d0 := (S3.blk 2 rfl).at_ 0 rfl; have e0 := (S4.blk 3 rfl).at_ 0 rfl; have HS4 := Lib.hid S4; clear S3 S4) | (refine step_append_x (P := Try.prog) rfl (.tmp 15) (.tmp 18) 55 rfl 48 i48 _ 3 40 Try.underlying55 Hi.out Hz0.out Hz1.out Hz2.out rfl (Nat.succ_pos 2) (.slice a m cc) m (entC es) rfl (HS4.out.ownX 4 rfl) (w3.heap.size + 1) (some ⟨w3.heap.size, 0, none⟩) 1 1 (f.cells (.slice a3 n c3)) rfl (Reads.of_blk (n := 1) (size := 3) (HS4.out.blk 0 rfl) rfl) (cells_one _ _ _ _) Hm1.out Hm2.out ?_; intro v5 w5 hown5 hg5 hat5; obtain ⟨a5, c5, rfl, -, -⟩ := hown5.slice; have S5 := (HS4.out.pushedX 4 rfl hown5 hg5 hat5).tail; have f0 := (S5.blk 2 rfl).at_ 0 rfl; have z0 := (S5.blk 2 rfl).frozen 0; clear hown5 hg5 hat5))
  all_goals
    have S6 := (S5.put 2 rfl 0 (.slice a5 (m + 1) c5)).drop 1
    clear S5 f0 z0 d0 e0 c0 b0 b1 b2
    generalize w5.setCell ⟨g, 0, none⟩ (.slice a5 (m + 1) c5) = w6 at S6 ⊢
    go_wp2_with fail
    go_ret
    exact ⟨rfl, res_push Hm.out Hes.out S6⟩
/-- Send, whatever there is -/
theorem rsend_any {g : Nat} {fs : List Fl} (f : Fl) (A : Option Addr) (n c : Nat) (hn : f.b.length = n) (hl : n ≤ 1000000) (hC : Kd.C (Kd.int .u8) w A n f.b) (i : Nat) (hi : L[i]? = some (RefAt g fs)) (hS : Sep w0 w L) :
    Calls Try.prog 41 #[.pointer (some ⟨g, 0, none⟩), .agg #[.int .i64 f.c, .bool f.d, .slice A n c]] w fun en w' => en = .returned (.int .i64 (sendE fs)) ∧ Sep w0 w' (L.set i (RefAt g (sendS fs f))) := by
  unfold sendE sendS
  by_cases hf : fs.length < 256
  · rw [if_pos hf, if_pos hf]
    exact (rsend_room g fs f hf A n c hn hl hC (hS.pick i hi)).mono fun en w' ⟨he, h⟩ => ⟨he, h.back hi⟩
  · rw [if_neg hf, if_neg hf]
    exact (rsend_full g fs f (by omega) A n c (hS.pick i hi)).mono fun en w' ⟨he, h⟩ => ⟨he, h.back hi⟩
set_option maxRecDepth 100000 in
set_option maxHeartbeats 4000000 in
/-- the reference's Double, of one that is there -/
theorem rdbl_in (g : Nat) (fs : List Fl) (j : Nat) (f : Fl) (hf : fs.length < 256) (hj : fs[j]? = some f) (hl : f.b.length ≤ 1000000) (hS : Sep w0 w (RefAt g fs :: M)) :
    Calls Try.prog 44 #[.pointer (some ⟨g, 0, none⟩), .int .i64 (j : Int)] w fun en w' => en = .returned (.int .i64 0) ∧ Sep w0 w' (RefAt g (fs ++ [f]) :: M) := by
  obtain ⟨v, es, hes, S⟩ := hS.openRef
  have hln : es.length = fs.length := by rw [← hes, List.length_map]
  have hjf : j < fs.length := (List.getElem?_eq_some_iff.1 hj).1
  have hjl : j < es.length := by omega
  have h3 : es[j].2 = f := by
    have h2 : (es.map (·.2))[j]? = some f := by rw [hes]; exact hj
    rw [List.getElem?_map, List.getElem?_eq_getElem hjl] at h2
    exact Option.some.inj h2
  have hr : (cell g 64 #[v] :: rowX 48 3 v es.length (entC es) :: (es.map rowE ++ M))[j + 2]? = some (BRow es[j].1 es[j].2.b) := by
    rw [List.getElem?_cons_succ, List.getElem?_cons_succ, List.getElem?_append_left (by simpa using hjl), List.getElem?_map, List.getElem?_eq_getElem hjl]
    rfl
  rw [h3] at hr
  obtain ⟨A, c, hu, hc, hC⟩ := reads_bytes (own_bytes S hr)
  obtain ⟨b, cc, hv, -, -⟩ := (S.ownX 1 rfl).form (by omega)
  obtain ⟨m, hm⟩ : ∃ m, es.length = m := ⟨_, rfl⟩
  have ox := S.ownX 1 rfl
  have hg := entC_get es j hjl
  rw [h3, hu] at hg
  rw [hv] at ox
  obtain ⟨n, hn⟩ : ∃ n, f.b.length = n := ⟨_, rfl⟩
  have f0 : w.cell? ⟨b, j * 3, none⟩ = some (.int .i64 f.c) := ox.cells rfl _ _ (hg 0 _ rfl)
  have f1 : w.cell? ⟨b, j * 3 + 1, none⟩ = some (.bool f.d) := ox.cells rfl _ _ (hg 1 _ rfl)
  have f2 : w.cell? ⟨b, j * 3 + 2, none⟩ = some (.slice A n c) := by rw [← hn]; exact ox.cells rfl _ _ (hg 2 _ rfl)
  rw [hm] at S hv hjl
  subst hv
  have c0 : w.cell? ⟨g, 0, none⟩ = some (.slice (some ⟨b, 0, none⟩) m cc) := (S.blk 0 rfl).at_ 0 rfl
  have HC := Lib.hid (Kd.C_below hC (Below.refl w.heap.size w).drew)
  rw [hn] at HC hl
  have Hn := Lib.hid hn
  have Hl := Lib.hid hl
  have Hm := Lib.hid hm
  have Hes := Lib.hid hes
  have HS := Lib.hid S.drew
  have hm256 : m < 256 := by omega
  obtain ⟨i48, hi48, hz0, hz1, hz2⟩ := info_parts info48
  have Hi := Lib.hid hi48
  have Hz0 := Lib.hid hz0
  have Hz1 := Lib.hid hz1
  have Hz2 := Lib.hid hz2
  have Hm1 : Hid (m + 1 ≤ maxLen) := Lib.hid (by unfold maxLen; omega)
  have Hm2 : Hid ((m + 1) * 40 ≤ 140737488355328) := Lib.hid (by omega)
  have d0 : decide ((256 : Int) ≤ (m : Int)) = false := decide_eq_false (by omega)
  have d1 : decide ((j : Int) < 0) = false := decide_eq_false (by omega)
  have d2 : decide ((m : Int) ≤ (j : Int)) = false := decide_eq_false (by omega)
  have d3 : decide (m ≤ j) = false := decide_eq_false (by omega)
  have i1 : (j : Int).toNat = j := rfl
  have i2 : (0 : Int) ≤ (j : Int) := by omega
  have i3 : (j : Int) < (m : Int) := by omega
  clear hi48 hz0 hz1 hz2 hn hl hm hes S hC hS hf hj hln hjf h3 hr hu hc ox hg
  go_enter Try.func44, Try.ntmps44
  go_upto_region 5 with (fail)
  go_cut [] (fun wx => Sep w0 wx (RefAt g (fs ++ [f]) :: M))
  case first =>
    go_region_law (first | (go_simp; go_at_call 57; refine (copied_any f n Hn.out Hl.out A c HC.out HS.out).mono ?_; rintro en w3 ⟨v3, rfl, S3⟩; obtain ⟨a3, c3, rfl, -, -⟩ := own_slice (own_n n Hn.out S3 0 rfl); obtain ⟨W4, hW4, S4⟩ := S3.boxedF 48 #[.int .i64 f.c, .bool f.d, .slice a3 n c3]; have q0 : w3.cell? ⟨g, 0, none⟩ = some (.slice (some ⟨b, 0, none⟩) m cc) := (S3.blk 1 rfl).at_ 0 rfl; have e0 : W4.cell? ⟨g, 0, none⟩ = some (.slice (some ⟨b, 0, none⟩) m cc) := (S4.blk 2 rfl).at_ 0 rfl; have HS4 := Lib.hid S4; clear S3 S4) | (refine step_append_x (P := Try.prog) rfl (.tmp 26) (.tmp 35) 55 rfl 48 i48 _ 3 40 Try.underlying55 Hi.out Hz0.out Hz1.out Hz2.out rfl (Nat.succ_pos 2) (.slice (some ⟨b, 0, none⟩) m cc) m (entC es) rfl (HS4.out.ownX 3 rfl) (w3.heap.size + 1) (some ⟨w3.heap.size, 0, none⟩) 1 1 (f.cells (.slice a3 n c3)) rfl (Reads.of_blk (n := 1) (size := 3) (HS4.out.blk 0 rfl) rfl) (cells_one _ _ _ _) Hm1.out Hm2.out ?_; intro v5 w5 hown5 hg5 hat5; obtain ⟨a5, c5, rfl, -, -⟩ := hown5.slice; have S5 := (HS4.out.pushedX 3 rfl hown5 hg5 hat5).tail; have p0 := (S5.blk 1 rfl).at_ 0 rfl; have z0 := (S5.blk 1 rfl).frozen 0; clear hown5 hg5 hat5))
    all_goals
      have S6 := S5.put 1 rfl 0 (.slice a5 (m + 1) c5)
      clear S5 p0 z0 q0 e0 c0 f0 f1 f2
      generalize w5.setCell ⟨g, 0, none⟩ (.slice a5 (m + 1) c5) = w6 at S6 ⊢
      go_wp2_with fail
      go_meet
      exact res_push Hm.out Hes.out S6
  case rest =>
    have hS := hcut
    clear hcut
    go_wp2_with fail
    go_ret
    exact ⟨rfl, hS⟩
end
section
variable {w w' : World} {A B : Option Addr} {fs : List Fl}
theorem rsame_same (ca cb : Nat) (hA : FR w A fs) (hB : FR w B fs) (hn : fs.length < 1000000) :
    Calls Try.prog 43 #[.slice A fs.length ca, .slice B fs.length cb] w fun en w' => en = .returned (.bool true) ∧ ∃ k, w' = w.drewN k := by
  have HA := Lib.hid hA
  have HB := Lib.hid hB
  obtain ⟨n, hn'⟩ : ∃ n, fs.length = n := ⟨_, rfl⟩
  rw [hn'] at hn ⊢
  have Hn := Lib.hid hn'
  clear hn' hA hB
  go_enter Try.func43, Try.ntmps43
  go_wp2_with fail
  go_loopw [5] (fun p wr => ∃ k q : Nat, k ≤ n ∧ p = .int .i64 (k : Int) ∧ Hid (wr = w.drewN q)) (fun p _ => n - (intOf p).toNat)
  case atStart => exact ⟨0, 0, Nat.zero_le _, rfl, rfl⟩
  case round =>
    obtain ⟨k, q, hk, rfl, hw⟩ := hrel
    have hw' : wr = w.drewN q := hw.out
    subst hw'
    clear hw
    by_cases hlt : k < n
    · have hlt' : (k : Int) < (n : Int) := by omega
      have hl : k < fs.length := by have := Hn.out; omega
      obtain ⟨a, o, D, c, rfl, r0, r1, r2, -, hC⟩ := HA.out.elem hl
      obtain ⟨b, p, E, d, rfl, t0, t1, t2, -, hD⟩ := HB.out.elem hl
      obtain ⟨m, hm⟩ : ∃ m, fs[k].b.length = m := ⟨_, rfl⟩
      have e1 := fun x => run_text (c := c) hm (hm ▸ hC) x
      have e2 := fun x => run_text (c := d) hm (hm ▸ hD) x
      rw [hm] at r2 t2
      clear hC hD hm
      generalize fs[k].c = x0 at *
      generalize fs[k].d = x1 at *
      generalize strOfNums fs[k].b = x2 at *
      have s3 : (k : Int).toNat = k := rfl
      have s4 : (0 : Int) ≤ (k : Int) := by omega
      go_upto_region 6 with (fail)
      go_quiet (fail)
      go_wp2_with fail
      exact ⟨⟨k + 1, q + nq, hlt, by go_num, rfl⟩, by simp [intOf]; omega⟩
    · go_wp2_with fail
      go_ret
      exact ⟨rfl, _, rfl⟩
end
end Go.Proofs.Ytmacmhlimdaemaa.Net
