/- The reference's net: Double and Take, whatever there is. -/
import Derived.Test.YtmacmhlimdaemaaNRef
namespace Go.Proofs.Ytmacmhlimdaemaa
open Go.RowKit
section
variable {w0 w : World} {L : List Asn}
theorem ownsX.cutc {e : TypeId} {size n cap b : Nat} {xs : List Value} (h : ownsX w e size (.slice (some ⟨b, 0, none⟩) n cap) n xs) {j : Nat} (hj : j ≤ n) : ownsX w e size (.slice (some ⟨b, 0, none⟩) j cap) j (xs.take (j * size)) := by
  have hjn : j * size ≤ n * size := Nat.mul_le_mul_right _ hj
  obtain ⟨h1, ⟨h2, _⟩ | ⟨g, c, cur, hv, hg, hnc, hcm, hcs, ht⟩⟩ := h
  · cases h2
  · injection hv with e1 e2 e3
    injection e1 with e1
    injection e1 with e1
    subst e1 e3
    refine ⟨by rw [List.length_take, h1]; omega, .inr ⟨b, cap, cur, rfl, hg, by omega, hcm, hcs, ?_⟩⟩
    rw [← ht, List.take_take, Nat.min_eq_left hjn]
theorem Sep.cutXc {e : TypeId} {size n cap b : Nat} {xs : List Value} (h : Sep w0 w L) (i : Nat) (hi : L[i]? = some (rowX e size (.slice (some ⟨b, 0, none⟩) n cap) n xs)) (j : Nat) (hj : j ≤ n) :
    Sep w0 w (L.set i (rowX e size (.slice (some ⟨b, 0, none⟩) j cap) j (xs.take (j * size)))) := by
  obtain ⟨F, hA, hF, hup⟩ := h.step i hi
  exact hup w _ F (Only.refl F w) ⟨ownsX.cutc hA.1 hj, hA.2⟩ fun k hk => .inl hk
end
end Go.Proofs.Ytmacmhlimdaemaa
namespace Go.Proofs.Ytmacmhlimdaemaa.Net
open Go.RowKit Go.Proofs.YtmacmhlimdaemaaW.PrintWords Go.Proofs.Ytmacmhlimdaemaa.R Go.Proofs.Ytmacmhlimdaemaa.Pkt Go.Proofs.Ytmacmhlimdaemaa.Ext
section
variable {w0 w w' : World} {L M : List Asn}
theorem rdbl_full (g : Nat) (fs : List Fl) (j : Int) (hf : 256 ≤ fs.length) (hS : Sep w0 w (RefAt g fs :: M)) :
    Calls Try.prog 44 #[.pointer (some ⟨g, 0, none⟩), .int .i64 j] w fun en w' => en = .returned (.int .i64 3) ∧ Sep w0 w' (RefAt g fs :: M) := by
  obtain ⟨v, es, hes, S⟩ := hS.openRef
  have hln : es.length = fs.length := by rw [← hes, List.length_map]
  obtain ⟨a, cc, hv, -, -⟩ := (S.ownX 1 rfl).slice
  have c0 := (S.blk 0 rfl).at_ 0 rfl
  obtain ⟨m, hm⟩ : ∃ m, fs.length = m := ⟨_, rfl⟩
  rw [hv, hln, hm] at c0
  rw [hm] at hf
  have d0 : decide ((256 : Int) ≤ (m : Int)) = true := decide_eq_true (by omega)
  clear S hes hln hv hm hf
  go_enter Try.func44, Try.ntmps44
  go_wp2_with fail
  go_ret
  exact ⟨rfl, hS⟩
theorem rdbl_out (g : Nat) (fs : List Fl) (j : Int) (hf : fs.length < 256) (hj : j < 0 ∨ (fs.length : Int) ≤ j) (hS : Sep w0 w (RefAt g fs :: M)) :
    Calls Try.prog 44 #[.pointer (some ⟨g, 0, none⟩), .int .i64 j] w fun en w' => en = .returned (.int .i64 5) ∧ Sep w0 w' (RefAt g fs :: M) := by
  obtain ⟨v, es, hes, S⟩ := hS.openRef
  have hln : es.length = fs.length := by rw [← hes, List.length_map]
  obtain ⟨a, cc, hv, -, -⟩ := (S.ownX 1 rfl).slice
  have c0 := (S.blk 0 rfl).at_ 0 rfl
  obtain ⟨m, hm⟩ : ∃ m, fs.length = m := ⟨_, rfl⟩
  rw [hv, hln, hm] at c0
  rw [hm] at hf hj
  have d0 : decide ((256 : Int) ≤ (m : Int)) = false := decide_eq_false (by omega)
  clear S hes hln hv hm hf
  by_cases h0 : j < 0
  · have d1 : decide (j < 0) = true := decide_eq_true h0
    clear hj
    go_enter Try.func44, Try.ntmps44
    go_wp2_with fail
    go_ret
    exact ⟨rfl, hS⟩
  · have d1 : decide (j < 0) = false := decide_eq_false h0
    have h1 : (m : Int) ≤ j := by omega
    have d2 : decide ((m : Int) ≤ j) = true := decide_eq_true h1
    clear hj
    go_enter Try.func44, Try.ntmps44
    go_wp2_with fail
    go_ret
    exact ⟨rfl, hS⟩
/-- the reference's Double, whatever there is -/
theorem rdouble_any {g : Nat} {fs : List Fl} (j : Int) (hl : ∀ f ∈ fs, f.b.length ≤ 1000000) (i : Nat) (hi : L[i]? = some (RefAt g fs)) (hS : Sep w0 w L) :
    Calls Try.prog 44 #[.pointer (some ⟨g, 0, none⟩), .int .i64 j] w fun en w' => en = .returned (.int .i64 (dblE fs j)) ∧ Sep w0 w' (L.set i (RefAt g (dblS fs j))) := by
  unfold dblE dblS
  by_cases hf : 256 ≤ fs.length
  · rw [if_pos hf, if_pos hf]
    exact (rdbl_full g fs j hf (hS.pick i hi)).mono fun en w' ⟨he, h⟩ => ⟨he, h.back hi⟩
  · rw [if_neg hf, if_neg hf]
    by_cases h : inF fs j = true
    · rw [if_pos h, if_pos h]
      obtain ⟨n, rfl, hn⟩ := in_nat h
      rw [Int.toNat_natCast]
      have hg : fs[n]? = some (fs.getD n zeroF) := by rw [getD_mem hn, List.getElem?_eq_getElem hn]
      exact (rdbl_in g fs n _ (by omega) hg (hl _ (List.mem_of_getElem? hg)) (hS.pick i hi)).mono fun en w' ⟨he, h⟩ => ⟨he, h.back hi⟩
    · rw [if_neg h, if_neg h]
      have h2 : ¬ (0 ≤ j ∧ j < (fs.length : Int)) := fun e => h (decide_eq_true e)
      exact (rdbl_out g fs j (by omega) (by omega) (hS.pick i hi)).mono fun en w' ⟨he, h⟩ => ⟨he, h.back hi⟩
theorem ret42 (tmps : Array Value) (r : Nat) (cs : Array Value) (hc : cs.size = 3) (hp : tmps.getD 4 undef = .pointer (some ⟨r, 0, none⟩)) (D : Blk w r 48 cs) : (results Try.f42 tmps).run Try.prog w = .ok (.tuple #[.agg cs, tmps.getD 5 undef]) w := by
  have hi : (Try.prog.info? 48).map (·.size) = some cs.size := by rw [hc]; exact size48
  rw [results_cell_tmp rfl, hp]
  simp only [asAddr, Sem.run_pure, Result.andThen_ok, run_loadVar_row w r 48 48 cs (0, 0) _ D Try.underlying48 rfl hi]
set_option maxRecDepth 100000 in
theorem rtake_out (g : Nat) (fs : List Fl) (j : Int) (hj : j < 0 ∨ (fs.length : Int) ≤ j) (hS : Sep w0 w (RefAt g fs :: M)) :
    Calls Try.prog 42 #[.pointer (some ⟨g, 0, none⟩), .int .i64 j] w fun en w' => en = .returned (.tuple #[.agg #[.int .i64 0, .bool false, .slice none 0 0], .int .i64 5]) ∧ Sep w0 w' (RefAt g fs :: M) := by
  obtain ⟨W1, hW1, S1⟩ := hS.boxedF 48 #[.int .i64 0, .bool false, .slice none 0 0]
  obtain ⟨v, es, hes, S⟩ := (S1.pick 1 rfl).openRef
  have hln : es.length = fs.length := by rw [← hes, List.length_map]
  obtain ⟨a, cc, hv, -, -⟩ := (S.ownX 1 rfl).slice
  have c0 := (S.blk 0 rfl).at_ 0 rfl
  obtain ⟨m, hm⟩ : ∃ m, fs.length = m := ⟨_, rfl⟩
  rw [hv, hln, hm] at c0
  rw [hm] at hj
  have HB := Lib.hid (S1.blk 0 rfl)
  have S8 := S1.setRow 0 rfl #[.int .i64 0, .bool false, .slice none 0 0]
  obtain ⟨W9, hW9⟩ : ∃ W9, W1.setRow w.heap.size #[.int .i64 0, .bool false, .slice none 0 0] = W9 := ⟨_, rfl⟩
  rw [hW9] at S8
  have D := Lib.hid (S8.blk 0 rfl)
  have S9 := Lib.hid S8.tail
  clear S S1 S8 hes hln hv hm hS
  by_cases h0 : j < 0
  · have d1 : decide (j < 0) = true := decide_eq_true h0
    clear hj
    go_enter Try.func42, Try.ntmps42
    go_wp2_with (
      refine wpList_store_row rfl 48 (.tmp 4) (.tmp 19) rfl w.heap.size #[.int .i64 0, .bool false, .slice none 0 0] rfl rfl 48 _ HB.out size48 rfl (fl_one _ _ _ _ _) ?_
      rw [hW9])
    exact bodyPost_ret (ret42 _ w.heap.size _ rfl rfl D.out) rfl ⟨rfl, S9.out⟩
  · have d1 : decide (j < 0) = false := decide_eq_false h0
    have h1 : (m : Int) ≤ j := by omega
    have d2 : decide ((m : Int) ≤ j) = true := decide_eq_true h1
    clear hj
    go_enter Try.func42, Try.ntmps42
    go_wp2_with (
      refine wpList_store_row rfl 48 (.tmp 4) (.tmp 19) rfl w.heap.size #[.int .i64 0, .bool false, .slice none 0 0] rfl rfl 48 _ HB.out size48 rfl (fl_one _ _ _ _ _) ?_
      rw [hW9])
    exact bodyPost_ret (ret42 _ w.heap.size _ rfl rfl D.out) rfl ⟨rfl, S9.out⟩
theorem ownsX_rd {e : TypeId} {size n c : Nat} {A : Option Addr} {xs : List Value} (h : ownsX w e size (.slice A n c) n xs) : Reads w w.heap.size size A n xs := by
  refine ⟨h.1, fun hn => ?_⟩
  obtain ⟨b, c', hv, _, _⟩ := h.form hn
  injection hv with e1 e2 e3
  subst e1 e3
  obtain ⟨ad, h1, -, h2⟩ := h.reads.2 hn
  injection h1 with h1
  subst h1
  rcases h.2 with ⟨h3, _⟩ | ⟨g, cap, cur, h3, hg, _⟩
  · cases h3
  · injection h3 with e1 e2 e3
    injection e1 with e1
    injection e1 with e1
    subst e1
    exact ⟨_, rfl, (Array.getElem?_eq_some_iff.1 hg).1, h2⟩
theorem rtake_end {g o p q j m : Nat} {v' v7 : Value} {C : Array Value} {R : Array Value} {n7 : Nat} {xs : List Value} {es : List Ent} {fs : List Fl} {u : Value} {f : Fl} (hm : es.length = m) (hes : es.map (·.2) = fs) (he : es[j]? = some (u, f))
    (S : Sep w0 w (rowX 48 3 v7 n7 xs :: cell o 48 C :: cell p 48 R :: cell g 64 #[v'] :: rowX 48 3 v' q (entC (es.eraseIdx j)) :: (es.map rowE ++ M))) (hq : q = m - 1) : Sep w0 w (BRow u f.b :: RefAt g (fs.eraseIdx j) :: M) := by
  have hj : j < es.length := (List.getElem?_eq_some_iff.1 he).1
  have S1 : Sep w0 w (cell g 64 #[v'] :: rowX 48 3 v' q (entC (es.eraseIdx j)) :: (es.map rowE ++ M)) := S.tail.tail.tail
  have hl : (es.eraseIdx j).length = q := by rw [List.length_eraseIdx_of_lt hj, hm, hq]
  rw [← hl] at S1
  have S2 : Sep w0 w (cell g 64 #[v'] :: rowX 48 3 v' (es.eraseIdx j).length (entC (es.eraseIdx j)) :: ((es.eraseIdx j).map rowE ++ (BRow u f.b :: M))) := by
    refine S1.perm (.cons _ (.cons _ ?_))
    exact ((es_out es j u f he).append_right _).trans List.perm_middle.symm
  exact (Sep.closeRef (by rw [map_erase, hes]) S2 : Sep w0 w (RefAt g (fs.eraseIdx j) :: (BRow u f.b :: M))).swap
set_option maxRecDepth 100000 in
set_option maxHeartbeats 1000000 in
theorem rtake_in (g : Nat) (fs : List Fl) (j : Nat) (f : Fl) (hj : fs[j]? = some f) (hm2 : fs.length ≤ 1000) (hS : Sep w0 w (RefAt g fs :: M)) :
    Calls Try.prog 42 #[.pointer (some ⟨g, 0, none⟩), .int .i64 (j : Int)] w fun en w' => ∃ v, en = .returned (.tuple #[.agg #[.int .i64 f.c, .bool f.d, v], .int .i64 0]) ∧ Sep w0 w' (BRow v f.b :: RefAt g (fs.eraseIdx j) :: M) := by
  obtain ⟨v, es, hes, S⟩ := hS.openRef
  have hl : es.length = fs.length := by rw [← hes, List.length_map]
  have hjf : j < fs.length := (List.getElem?_eq_some_iff.1 hj).1
  have hjl : j < es.length := by omega
  obtain ⟨au, nu, cu, hu⟩ := ent_slice S j hjl
  have he : es[j]? = some (.slice au nu cu, f) := by
    rw [List.getElem?_eq_getElem hjl, ← hu]
    have h2 : (es.map (·.2))[j]? = some f := by rw [hes]; exact hj
    rw [List.getElem?_map, List.getElem?_eq_getElem hjl] at h2
    have h3 : es[j].2 = f := Option.some.inj h2
    rw [← h3]
  obtain ⟨b, cc, hv, hcap, hcm⟩ := (S.ownX 1 rfl).form (by omega)
  obtain ⟨m, hm⟩ : ∃ m, es.length = m := ⟨_, rfl⟩
  have Hone := Lib.hid (es_one S)
  have hg := entC_get es j hjl
  have hE : es[j] = (.slice au nu cu, f) := by rw [List.getElem?_eq_getElem hjl] at he; exact Option.some.inj he
  rw [hE] at hg
  have he2 := Lib.hid (entC_erase es j hjl)
  rw [hm] at S hv hjl hcap
  subst hv
  obtain ⟨r, hr⟩ : ∃ r, m = j + 1 + r := ⟨m - (j + 1), by omega⟩
  obtain ⟨W1, hW1, S1⟩ := S.boxedF 48 #[.int .i64 0, .bool false, .slice none 0 0]
  obtain ⟨W2, hW2, S2⟩ := S1.boxedF 48 #[.int .i64 f.c, .bool f.d, .slice au nu cu]
  obtain ⟨gr, hgr⟩ : ∃ x, w.heap.size = x := ⟨_, rfl⟩
  obtain ⟨gt, hgt⟩ : ∃ x, W1.heap.size = x := ⟨_, rfl⟩
  have ox := S1.ownX 2 rfl
  have f0 : W1.cell? ⟨b, j * 3, none⟩ = some (.int .i64 f.c) := ox.cells rfl _ _ (hg 0 _ rfl)
  have f1 : W1.cell? ⟨b, j * 3 + 1, none⟩ = some (.bool f.d) := ox.cells rfl _ _ (hg 1 _ rfl)
  have f2 : W1.cell? ⟨b, j * 3 + 2, none⟩ = some (.slice au nu cu) := ox.cells rfl _ _ (hg 2 _ rfl)
  have c0 : W1.cell? ⟨g, 0, none⟩ = some (.slice (some ⟨b, 0, none⟩) m cc) := (S1.blk 1 rfl).at_ 0 rfl
  have k0 : W2.cell? ⟨g, 0, none⟩ = some (.slice (some ⟨b, 0, none⟩) m cc) := (S2.blk 2 rfl).at_ 0 rfl
  have RX : Hid (Reads W2 (b + 1) 3 (subA (some ⟨b, 0, none⟩) cc (j + 1)) r ((entC es).drop ((j + 1) * 3))) := Lib.hid (by
    have h := (S2.ownX 3 rfl).reads.cut (k := j + 1) (by omega) hcap
    rw [show m - (j + 1) = r by omega] at h
    exact h)
  have HO : Hid (∀ u ∈ (entC es).drop ((j + 1) * 3), u.oneCell' = true) := Lib.hid fun u hu => Hone.out u (List.mem_of_mem_drop hu)
  have e1 : ∀ w, (Instr.slice 55 (.slice (some ⟨b, 0, none⟩) m cc) (some (.int .i64 ((j : Int) + 1))) none none).run Try.prog w = .ok (.slice (subA (some ⟨b, 0, none⟩) cc (j + 1)) r (cc - (j + 1))) w := fun w => by
    have := slice_lo (some ⟨b, 0, none⟩) m cc (j + 1) (by omega) w
    rwa [show m - (j + 1) = r by omega, Int.natCast_succ] at this
  have e2 := slice_hi (some ⟨b, 0, none⟩) m cc j (by omega)
  have i1 : (j : Int).toNat = j := rfl
  have i2 : (0 : Int) ≤ (j : Int) := by omega
  have i3 : (j : Int) < (m : Int) := by omega
  have i4 : IntKind.i64.wrap ((j : Int) + 1) = (j : Int) + 1 := IntWalk.i64_in _ (by omega)
  have d1 : decide ((j : Int) < 0) = false := decide_eq_false (by omega)
  have d2 : decide ((m : Int) ≤ (j : Int)) = false := decide_eq_false (by omega)
  have d3 : decide (m ≤ j) = false := decide_eq_false (by omega)
  have Hm1 : Hid (0 + r ≤ maxLen) := Lib.hid (by unfold maxLen; omega)
  have Hm2 : Hid ((0 + r) * 40 ≤ 140737488355328) := Lib.hid (by omega)
  have Hm3 : Hid (j + r ≤ maxLen) := Lib.hid (by unfold maxLen; omega)
  have Hm4 : Hid ((j + r) * 40 ≤ 140737488355328) := Lib.hid (by omega)
  have Hq : Hid (j + r = m - 1) := Lib.hid (by omega)
  have Hjm : Hid (j ≤ m) := Lib.hid (by omega)
  obtain ⟨i48, hi48, hz0, hz1, hz2⟩ := info_parts info48
  have Hi := Lib.hid hi48
  have Hz0 := Lib.hid hz0
  have Hz1 := Lib.hid hz1
  have Hz2 := Lib.hid hz2
  have Hm := Lib.hid hm
  have Hes := Lib.hid hes
  have He := Lib.hid he
  have HN := Lib.hid (S2.nilX 48 3)
  have HX := Lib.hid (HN.out.ownX 0 rfl)
  rw [hgr] at HN
  rw [hgt] at HN
  clear hi48 hz0 hz1 hz2 S S1 S2 hm hes he hj hu hl hjf hjl hg hE hr hcap hcm ox hS hm2
  go_enter Try.func42, Try.ntmps42
  go_wp2_with (first
    | (refine wpList_store_row rfl 48 (.tmp 6) (.tmp 26) rfl W1.heap.size #[.int .i64 f.c, .bool f.d, .slice au nu cu] rfl rfl 48 _ (Blk.new _ _ _) size48 rfl (fl_one _ _ _ _ _) ?_
       rw [World.setRow_alloc_new, hW2, hgt]
       clear hW2 f0 f1 f2 c0)
    | (have hq := HN; clear hq; at_builtin
       refine wpList_append_x rfl (.const (.slice none 0 0)) (.tmp 33) 55 rfl 48 i48 _ 3 40 Try.underlying55 Hi.out Hz0.out Hz1.out Hz2.out rfl (Nat.succ_pos 2) (.slice none 0 0) 0 [] rfl HX.out (b + 1) (subA (some ⟨b, 0, none⟩) cc (j + 1)) r (cc - (j + 1)) ((entC es).drop ((j + 1) * 3)) rfl RX.out HO.out Hm1.out Hm2.out ?_
       intro v3 w3 hown3 hg3 hat3
       have S3 := HN.out.pushedX 0 rfl hown3 hg3 hat3
       rw [List.nil_append, Nat.zero_add] at S3
       obtain ⟨a3, c3, rfl, -, -⟩ := (S3.ownX 0 rfl).slice
       have k1 : w3.cell? ⟨g, 0, none⟩ = some (.slice (some ⟨b, 0, none⟩) m cc) := (S3.blk 3 rfl).at_ 0 rfl
       have R3 := Lib.hid (ownsX_rd (S3.ownX 0 rfl))
       have S4 := Lib.hid (S3.cutXc 4 rfl j Hjm.out)
       have O4 := Lib.hid (S4.out.ownX (e := 48) (size := 3) 4 rfl)
       clear hown3 hg3 hat3 S3 k0 HN HX)
    | (at_builtin
       refine wpList_append_x rfl (.tmp 41) (.tmp 42) 55 rfl 48 i48 _ 3 40 Try.underlying55 Hi.out Hz0.out Hz1.out Hz2.out rfl (Nat.succ_pos 2) (.slice (some ⟨b, 0, none⟩) j cc) j ((entC es).take (j * 3)) rfl O4.out w3.heap.size a3 r c3 ((entC es).drop ((j + 1) * 3)) rfl R3.out HO.out Hm3.out Hm4.out ?_
       intro v5 w5 hown5 hg5 hat5
       rw [he2.out] at hown5
       have S5 := S4.out.pushedX 4 rfl hown5 hg5 hat5
       have q0 := (S5.blk 3 rfl).at_ 0 rfl
       have z0 := (S5.blk 3 rfl).frozen 0
       have S6 := S5.put 3 rfl 0 v5
       obtain ⟨a5, c5, hv5, -, -⟩ := (S5.ownX 4 rfl).slice
       subst hv5
       obtain ⟨W6, hW6⟩ : ∃ W6, w5.setCell ⟨g, 0, none⟩ (.slice a5 (j + r) c5) = W6 := ⟨_, rfl⟩
       rw [hW6] at S6
       have t0 : W6.cell? ⟨gt, 0, none⟩ = some (.int .i64 f.c) := (S6.blk 1 rfl).at_ 0 rfl
       have t1 : W6.cell? ⟨gt, 1, none⟩ = some (.bool f.d) := (S6.blk 1 rfl).at_ 1 rfl
       have t2 : W6.cell? ⟨gt, 2, none⟩ = some (.slice au nu cu) := (S6.blk 1 rfl).at_ 2 rfl
       have HB := Lib.hid (S6.blk 2 rfl)
       have S7 := S6.setRow 2 rfl #[.int .i64 f.c, .bool f.d, .slice au nu cu]
       obtain ⟨W7, hW7⟩ : ∃ W7, W6.setRow gr #[.int .i64 f.c, .bool f.d, .slice au nu cu] = W7 := ⟨_, rfl⟩
       rw [hW7] at S7
       have D := Lib.hid (S7.blk 2 rfl)
       have S9 := Lib.hid (rtake_end Hm.out Hes.out He.out S7 Hq.out)
       clear hown5 hg5 hat5 S5 S6 S7 k1)
    | (refine wpList_store_row rfl 48 (.tmp 4) (.tmp 46) rfl gr #[.int .i64 f.c, .bool f.d, .slice au nu cu] rfl rfl 48 _ HB.out size48 rfl (fl_one _ _ _ _ _) ?_
       rw [hW7]))
  exact bodyPost_ret (ret42 _ gr _ rfl rfl D.out) rfl ⟨_, rfl, S9.out⟩
/-- the reference's Take, whatever there is -/
theorem rtake_any {g : Nat} {fs : List Fl} (j : Int) (hm2 : fs.length ≤ 1000) (i : Nat) (hi : L[i]? = some (RefAt g fs)) (hS : Sep w0 w L) :
    Calls Try.prog 42 #[.pointer (some ⟨g, 0, none⟩), .int .i64 j] w fun en w' => ∃ v, en = .returned (.tuple #[.agg #[.int .i64 (takeF fs j).c, .bool (takeF fs j).d, v], .int .i64 (takeE fs j)]) ∧ Sep w0 w' (BRow v (takeF fs j).b :: L.set i (RefAt g (takeS fs j))) := by
  unfold takeF takeE takeS
  by_cases h : inF fs j = true
  · rw [if_pos h, if_pos h, if_pos h]
    obtain ⟨n, rfl, hn⟩ := in_nat h
    rw [Int.toNat_natCast]
    have hg : fs[n]? = some (fs.getD n zeroF) := by rw [getD_mem hn, List.getElem?_eq_getElem hn]
    exact (rtake_in g fs n _ hg hm2 (hS.pick i hi)).mono fun en w' ⟨v, he, h⟩ => ⟨v, he, (h.swap.back_under hi)⟩
  · rw [if_neg h, if_neg h, if_neg h]
    have h2 : ¬ (0 ≤ j ∧ j < (fs.length : Int)) := fun e => h (decide_eq_true e)
    exact (rtake_out g fs j (by omega) (hS.pick i hi)).mono fun en w' ⟨he, h⟩ => ⟨.slice none 0 0, he, (h.back hi).nilRowF 5 1⟩
end
end Go.Proofs.Ytmacmhlimdaemaa.Net
