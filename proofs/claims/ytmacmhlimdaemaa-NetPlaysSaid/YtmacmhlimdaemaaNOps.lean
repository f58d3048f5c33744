/- Send. Take, Lose. with, Take, Lose. Take and Lose, whatever there is. Lose. Double. wakes of the net's law. -/
import Derived.Test.YtmacmhlimdaemaaNBase
import Derived.RegionTactic
import Derived.IntWalk
import Derived.Deep.RegionLaw
import Derived.Deep.RegionHeld3
import Derived.Test.YtmacmhlimdaemaaExtLit
namespace Go.Proofs.Ytmacmhlimdaemaa.Net
open Go.RowKit Go.Proofs.YtmacmhlimdaemaaW.PrintWords Go.Proofs.Ytmacmhlimdaemaa.R Go.Proofs.Ytmacmhlimdaemaa.Pkt
section
variable {w0 w w' : World} {L M : List Asn}
theorem info48 : (Try.prog.info? 48).map (fun i => (i.zero, i.size, i.bytes)) = some (some (.agg #[.int .i64 0, .bool false, .slice none 0 0]), 3, 40) := by kernel_rfl
theorem send_full (g : Nat) (fs : List Fl) (k : Int) (f : Fl) (hf : 256 ≤ fs.length) (A : Option Addr) (n c : Nat) (hS : Sep w0 w (NetAt g fs k :: M)) :
    Calls Try.prog 32 #[.pointer (some ⟨g, 0, none⟩), f.agg (.slice A n c)] w fun en w' => en = .returned (.int .i64 3) ∧ Sep w0 w' (NetAt g fs k :: M) := by
  obtain ⟨v, es, hes, S⟩ := hS.openNet
  obtain ⟨a, cc, hv, -, -⟩ := (S.ownX 1 rfl).slice
  obtain ⟨m, hm⟩ : ∃ m, es.length = m := ⟨_, rfl⟩
  have hm2 : 256 ≤ m := by rw [← hm, ← List.length_map (·.2), hes]; exact hf
  rw [hm] at hv
  have Hv := Lib.hid hv
  obtain ⟨W1, hW1, S1⟩ := S.boxedF 48 #[.int .i64 f.c, .bool f.d, .slice A n c]
  have c0 := (S1.blk 1 rfl).at_ 0 rfl
  rw [hv] at c0
  have hd : decide ((256 : Int) ≤ (m : Int)) = true := decide_eq_true (by omega)
  unfold Fl.agg
  clear S hm hv hS hf
  go_enter Try.func32, Try.ntmps32
  go_wp2_with fail
  go_ret
  exact ⟨rfl, Sep.closeNet hes S1.tail⟩
theorem es_push {g : Nat} {v : Value} {es : List Ent} {fs : List Fl} {k : Int} {u : Value} {f : Fl} {n : Nat} (hn : es.length = n) (hes : es.map (·.2) = fs) (h : Sep w0 w (BRow u f.b :: cell g 80 #[v, .int .i64 k] :: rowX 48 3 v (n + 1) (entC es ++ f.cells u) :: (es.map rowE ++ M))) : Sep w0 w (NetAt g (fs ++ [f]) k :: M) := by
  refine Sep.closeNet (v := v) (es := es ++ [(u, f)]) (by rw [List.map_append, hes]; rfl) ?_
  rw [List.length_append, hn, entC_append, List.map_append, List.append_assoc]
  have he : entC [(u, f)] = f.cells u := by simp [entC]
  rw [he]
  refine h.perm ?_
  refine (List.Perm.swap _ _ _).trans (List.Perm.cons _ ((List.Perm.swap _ _ _).trans (List.Perm.cons _ ?_)))
  exact List.perm_middle.symm
theorem cells_one (f : Fl) (A : Option Addr) (n c : Nat) : ∀ u ∈ f.cells (.slice A n c), u.oneCell' = true := by
  intro u hu
  simp only [Fl.cells, List.mem_cons, List.not_mem_nil, or_false] at hu
  rcases hu with rfl | rfl | rfl <;> rfl
set_option maxRecDepth 100000 in
set_option maxHeartbeats 1000000 in
theorem send_room (g : Nat) (fs : List Fl) (k : Int) (f : Fl) (hf : fs.length < 256) (A : Option Addr) (n c : Nat) (hn : f.b.length = n) (hl : n ≤ 140737488351232) (hC : Kd.C (Kd.int .u8) w A n f.b) (hc : n ≤ c) (hS : Sep w0 w (NetAt g fs k :: M)) :
    Calls Try.prog 32 #[.pointer (some ⟨g, 0, none⟩), f.agg (.slice A n c)] w fun en w' => en = .returned (.int .i64 0) ∧ Sep w0 w' (NetAt g (fs ++ [f]) k :: M) := by
  obtain ⟨v, es, hes, S⟩ := hS.openNet
  obtain ⟨a, cc, hv, -, -⟩ := (S.ownX 1 rfl).slice
  obtain ⟨m, hm⟩ : ∃ m, es.length = m := ⟨_, rfl⟩
  have hm2 : m < 256 := by rw [← hm, ← List.length_map (·.2), hes]; exact hf
  rw [hm] at hv S
  subst hv
  obtain ⟨W1, hW1, S1⟩ := S.boxedF 48 #[.int .i64 f.c, .bool f.d, .slice A n c]
  have hb1 : Below w.heap.size w W1 := by rw [← hW1]; exact (Below.refl _ _).alloc (Nat.le_refl _) _
  have hd : decide ((256 : Int) ≤ (m : Int)) = false := decide_eq_false (by omega)
  have c0 := (S1.blk 1 rfl).at_ 0 rfl
  have ⟨b0, b1, b2⟩ : W1.cell? ⟨w.heap.size, 0, none⟩ = some (.int .i64 f.c) ∧ W1.cell? ⟨w.heap.size, 1, none⟩ = some (.bool f.d) ∧ W1.cell? ⟨w.heap.size, 2, none⟩ = some (.slice A n c) := ⟨(S1.blk 0 rfl).at_ 0 rfl, (S1.blk 0 rfl).at_ 1 rfl, (S1.blk 0 rfl).at_ 2 rfl⟩
  have HC := Lib.hid (Kd.C_below (Kd.C_below hC hb1) (Below.refl W1.heap.size W1).drew)
  obtain ⟨i48, hi48, hz0, hz1, hz2⟩ := info_parts info48
  have Hi := Lib.hid hi48
  have Hz0 := Lib.hid hz0
  have Hz1 := Lib.hid hz1
  have Hz2 := Lib.hid hz2
  have Hn := Lib.hid hn
  have Hl := Lib.hid hl
  have Hc := Lib.hid hc
  have Hm := Lib.hid hm
  have Hes := Lib.hid hes
  have HS := Lib.hid S1.drew
  have Hm1 : Hid (m + 1 ≤ maxLen) := Lib.hid (by unfold maxLen; omega)
  have Hm2 : Hid ((m + 1) * 40 ≤ 140737488355328) := Lib.hid (by omega)
  unfold Fl.agg
  clear hi48 hz0 hz1 hz2 hn hl hc hm hes S S1 hC hb1 hS hf
  go_enter Try.func32, Try.ntmps32
  go_upto_region 5 with (fail)
  go_region_law (first | (go_simp; go_at_call 53; refine (own_out f n Hn.out Hl.out A c HC.out Hc.out HS.out).mono ?_; rintro en w3 ⟨v3, rfl, S3⟩; obtain ⟨a3, c3, rfl, -, -⟩ := own_slice (own_n n Hn.out S3 0 rfl); obtain ⟨W4, hW4, S4⟩ := S3.boxedF 48 #[.int .i64 f.c, .bool f.d, .slice a3 n c3]; have d0 := (S3.blk 2 rfl).at_ 0 rfl; have e0 := (S4.blk 3 rfl).at_ 0 rfl; have HS4 := Lib.hid S4; clear S3 S4) | (refine step_append_x (P := Try.prog) rfl (.tmp 19) (.tmp 22) 55 rfl 48 i48 _ 3 40 Try.underlying55 Hi.out Hz0.out Hz1.out Hz2.out rfl (Nat.succ_pos 2) (.slice a m cc) m (entC es) rfl (HS4.out.ownX 4 rfl) (w3.heap.size + 1) (some ⟨w3.heap.size, 0, none⟩) 1 1 (f.cells (.slice a3 n c3)) rfl (Reads.of_blk (n := 1) (size := 3) (HS4.out.blk 0 rfl) rfl) (cells_one _ _ _ _) Hm1.out Hm2.out ?_; intro v5 w5 hown5 hg5 hat5; obtain ⟨a5, c5, rfl, -, -⟩ := hown5.slice; have S5 := (HS4.out.pushedX 4 rfl hown5 hg5 hat5).tail; have f0 := (S5.blk 2 rfl).at_ 0 rfl; have z0 := (S5.blk 2 rfl).frozen 0; clear hown5 hg5 hat5))
  all_goals
    have S6 := (S5.put 2 rfl 0 (.slice a5 (m + 1) c5)).drop 1
    clear S5 f0 z0 d0 e0 c0 b0 b1 b2
    generalize w5.setCell ⟨g, 0, none⟩ (.slice a5 (m + 1) c5) = w6 at S6 ⊢
    go_wp2_with fail
    go_ret
    exact ⟨rfl, es_push Hm.out Hes.out S6⟩
def sendS (fs : List Fl) (f : Fl) : List Fl := if fs.length < 256 then fs ++ [f] else fs
def sendE (fs : List Fl) : Int := if fs.length < 256 then 0 else 3
/-- Send, whatever there is -/
theorem send_any {g : Nat} {fs : List Fl} {k : Int} (f : Fl) (A : Option Addr) (n c : Nat) (hn : f.b.length = n) (hl : n ≤ 140737488351232) (hC : Kd.C (Kd.int .u8) w A n f.b) (hc : n ≤ c) (i : Nat) (hi : L[i]? = some (NetAt g fs k)) (hS : Sep w0 w L) :
    Calls Try.prog 32 #[.pointer (some ⟨g, 0, none⟩), .agg #[.int .i64 f.c, .bool f.d, .slice A n c]] w fun en w' => en = .returned (.int .i64 (sendE fs)) ∧ Sep w0 w' (L.set i (NetAt g (sendS fs f) k)) := by
  unfold sendE sendS
  by_cases hf : fs.length < 256
  · rw [if_pos hf, if_pos hf]
    exact (send_room g fs k f hf A n c hn hl hC hc (hS.pick i hi)).mono fun en w' ⟨he, h⟩ => ⟨he, h.back hi⟩
  · rw [if_neg hf, if_neg hf]
    exact (send_full g fs k f (by omega) A n c (hS.pick i hi)).mono fun en w' ⟨he, h⟩ => ⟨he, h.back hi⟩
/-- Len -/
theorem len_any {g : Nat} {fs : List Fl} {k : Int} (i : Nat) (hi : L[i]? = some (NetAt g fs k)) (hS : Sep w0 w L) :
    Calls Try.prog 39 #[.pointer (some ⟨g, 0, none⟩)] w fun en w' => en = .returned (.int .i64 (fs.length : Int)) ∧ w = w' := by
  obtain ⟨v, es, hes, S⟩ := (hS.pick i hi).openNet
  obtain ⟨a, cc, hv, -, -⟩ := (S.ownX 1 rfl).slice
  have c0 := (S.blk 0 rfl).at_ 0 rfl
  rw [← hes, List.length_map]
  obtain ⟨m, hm⟩ : ∃ m, es.length = m := ⟨_, rfl⟩
  rw [hm] at hv ⊢
  rw [hv] at c0
  clear S hv hm hes hS hi
  go_enter Try.func39, Try.ntmps39
  go_wp2_with fail
  go_ret
  exact ⟨rfl, rfl⟩
/-- Clashed -/
theorem clashed_any {g : Nat} {fs : List Fl} {k : Int} (i : Nat) (hi : L[i]? = some (NetAt g fs k)) (hS : Sep w0 w L) :
    Calls Try.prog 40 #[.pointer (some ⟨g, 0, none⟩)] w fun en w' => en = .returned (.int .i64 k) ∧ w = w' := by
  obtain ⟨v, es, hes, S⟩ := (hS.pick i hi).openNet
  have c0 := (S.blk 0 rfl).at_ 1 rfl
  clear S hes hS hi
  go_enter Try.func40, Try.ntmps40
  go_wp2_with fail
  go_ret
  exact ⟨rfl, rfl⟩
/-- New -/
theorem new_any (hS : Sep w0 w L) : Calls Try.prog 31 #[] w fun en w' => ∃ g, en = .returned (.pointer (some ⟨g, 0, none⟩)) ∧ Sep w0 w' (NetAt g [] 0 :: L) := by
  obtain ⟨W1, hW1, S1⟩ := hS.boxedF 80 #[.slice none 0 0, .int .i64 0]
  have HS := Lib.hid S1
  clear S1
  go_enter Try.func31, Try.ntmps31
  go_wp2_with fail
  go_ret
  refine ⟨_, rfl, Sep.closeNet (v := .slice none 0 0) (es := []) rfl ?_⟩
  have h := HS.out.nilX 48 3
  exact h.swap
end
end Go.Proofs.Ytmacmhlimdaemaa.Net
namespace Go.Proofs.Ytmacmhlimdaemaa.Net
open Go.RowKit Go.Proofs.YtmacmhlimdaemaaW.PrintWords Go.Proofs.Ytmacmhlimdaemaa.R Go.Proofs.Ytmacmhlimdaemaa.Pkt
section
variable {w0 w w' : World} {L M : List Asn}
theorem _root_.Go.Proofs.Ytmacmhlimdaemaa.ownsX.cut {e : TypeId} {size n cap b : Nat} {xs : List Value} (h : ownsX w e size (.slice (some ⟨b, 0, none⟩) n cap) n xs) {j : Nat} (hj : j ≤ n) : ownsX w e size (.slice (some ⟨b, 0, none⟩) j j) j (xs.take (j * size)) := by
  have hjn : j * size ≤ n * size := Nat.mul_le_mul_right _ hj
  obtain ⟨h1, ⟨h2, _⟩ | ⟨g, c, cur, hv, hg, hnc, hcm, hcs, ht⟩⟩ := h
  · cases h2
  · injection hv with e1 e2 e3
    injection e1 with e1
    injection e1 with e1
    subst e1 e3
    refine ⟨by rw [List.length_take, h1]; omega, .inr ⟨b, j, cur, rfl, hg, Nat.le_refl _, by omega, ?_, ?_⟩⟩
    · exact Nat.le_trans (Nat.mul_le_mul_right _ (by omega)) hcs
    · rw [← ht, List.take_take, Nat.min_eq_left hjn]
theorem _root_.Go.Proofs.Ytmacmhlimdaemaa.Sep.cutX {e : TypeId} {size n cap b : Nat} {xs : List Value} (h : Sep w0 w L) (i : Nat) (hi : L[i]? = some (rowX e size (.slice (some ⟨b, 0, none⟩) n cap) n xs)) (j : Nat) (hj : j ≤ n) :
    Sep w0 w (L.set i (rowX e size (.slice (some ⟨b, 0, none⟩) j j) j (xs.take (j * size)))) := by
  obtain ⟨F, hA, hF, hup⟩ := h.step i hi
  exact hup w _ F (Only.refl F w) ⟨ownsX.cut hA.1 hj, hA.2⟩ fun k hk => .inl hk
theorem _root_.Go.Proofs.Ytmacmhlimdaemaa.ownsX.reads {e : TypeId} {size n cap b : Nat} {xs : List Value} (h : ownsX w e size (.slice (some ⟨b, 0, none⟩) n cap) n xs) : Reads w (b + 1) size (some ⟨b, 0, none⟩) n xs :=
  ⟨h.1, fun _ => ⟨_, rfl, Nat.lt_succ_self _, fun j u hu => by
    have he : (⟨b, 0, none⟩ : Addr).add j = ⟨b, j, none⟩ := by unfold Addr.add; split <;> simp_all
    rw [he]
    exact h.cells rfl j u hu⟩⟩
theorem _root_.Go.Proofs.Ytmacmhlimdaemaa.ownsX.form {e : TypeId} {size n : Nat} {v : Value} {xs : List Value} (h : ownsX w e size v n xs) (hn : 0 < n) : ∃ b c, v = .slice (some ⟨b, 0, none⟩) n c ∧ n ≤ c ∧ c ≤ maxLen := by
  rcases h.2 with ⟨rfl, h0⟩ | ⟨g, cap, cur, rfl, _, h1, h2, _⟩
  · omega
  · exact ⟨g, cap, rfl, h1, h2⟩
theorem es_one {A B : Asn} {es : List Ent} (h : Sep w0 w (A :: B :: (es.map rowE ++ L))) : ∀ u ∈ entC es, u.oneCell' = true := by
  intro u hu
  unfold entC at hu
  obtain ⟨e, he, hu⟩ := List.mem_flatMap.1 hu
  obtain ⟨i, hi, rfl⟩ := List.getElem_of_mem he
  have hr : (A :: B :: (es.map rowE ++ L))[i + 2]? = some (BRow es[i].1 es[i].2.b) := by
    rw [List.getElem?_cons_succ, List.getElem?_cons_succ, List.getElem?_append_left (by simpa using hi), List.getElem?_map, List.getElem?_eq_getElem hi]
    rfl
  obtain ⟨a, c, hv, -, -⟩ := own_slice (h.own (i + 2) hr)
  simp only [Fl.cells, List.mem_cons, List.not_mem_nil, or_false] at hu
  rcases hu with rfl | rfl | rfl
  · rfl
  · rfl
  · rw [hv]; rfl
theorem entC_erase : ∀ (es : List Ent) (j : Nat), j < es.length → (entC es).take (j * 3) ++ (entC es).drop ((j + 1) * 3) = entC (es.eraseIdx j)
  | [], j, h => by simp at h
  | e :: es, 0, _ => by simp [entC, Fl.cells]
  | e :: es, j + 1, h => by
    have ih := entC_erase es j (by simpa using h)
    have hc : entC (e :: es) = e.2.cells e.1 ++ entC es := by simp [entC]
    have h3 : (e.2.cells e.1).length = 3 := rfl
    have hd : entC (e :: es.eraseIdx j) = e.2.cells e.1 ++ entC (es.eraseIdx j) := by simp [entC]
    rw [List.eraseIdx_cons_succ, hc, hd, List.take_append, List.drop_append, h3, List.take_of_length_le (by rw [h3]; omega), List.drop_of_length_le (by rw [h3]; omega), show (j + 1) * 3 - 3 = j * 3 by omega, show (j + 1 + 1) * 3 - 3 = (j + 1) * 3 by omega, List.nil_append, List.append_assoc, ih]
theorem ent_slice {A B : Asn} {es : List Ent} (h : Sep w0 w (A :: B :: (es.map rowE ++ L))) (i : Nat) (hi : i < es.length) : ∃ a n c, es[i].1 = .slice a n c := by
  have hr : (A :: B :: (es.map rowE ++ L))[i + 2]? = some (BRow es[i].1 es[i].2.b) := by
    rw [List.getElem?_cons_succ, List.getElem?_cons_succ, List.getElem?_append_left (by simpa using hi), List.getElem?_map, List.getElem?_eq_getElem hi]
    rfl
  obtain ⟨a, c, hv, -, -⟩ := own_slice (h.own (i + 2) hr)
  exact ⟨a, _, c, hv⟩
/-- Take's inner function -/
theorem take1 (g o p q b m cc j : Nat) (Z : Array Value) (hZ : Z.size = 3) (k : Int) (es : List Ent) (hm : es.length = m) (hj : j < m) (hm2 : m ≤ 1000) (f : Fl) (au : Option Addr) (nu cu : Nat) (he : es[j]? = some (.slice au nu cu, f)) (ho : cc ≠ j + 1)
    (S : Sep w0 w (cell o 48 Z :: cell p 45 #[.pointer (some ⟨g, 0, none⟩)] :: cell q 3 #[.int .i64 (j : Int)] :: cell g 80 #[.slice (some ⟨b, 0, none⟩) m cc, .int .i64 k] :: rowX 48 3 (.slice (some ⟨b, 0, none⟩) m cc) m (entC es) :: (es.map rowE ++ M))) :
    Calls Try.prog 55 #[.pointer (some ⟨b, j * 3, none⟩), .pointer (some ⟨o, 0, none⟩), .pointer (some ⟨p, 0, none⟩), .pointer (some ⟨q, 0, none⟩)] w fun en w' => en = .returned (.int .i64 0) ∧ ∃ v', Sep w0 w' (cell o 48 #[.int .i64 f.c, .bool f.d, .slice au nu cu] :: cell p 45 #[.pointer (some ⟨g, 0, none⟩)] :: cell q 3 #[.int .i64 (j : Int)] :: cell g 80 #[v', .int .i64 k] :: rowX 48 3 v' (m - 1) (entC (es.eraseIdx j)) :: (es.map rowE ++ M)) := by
  have ox := S.ownX 4 rfl
  obtain ⟨_, _, hv, hcap, hcm⟩ := ox.slice
  injection hv with hv1 hv2 hv3
  subst hv3
  clear hv1 hv2
  have hjl : j < es.length := by omega
  have hE : es[j] = (.slice au nu cu, f) := by rw [List.getElem?_eq_getElem hjl] at he; exact Option.some.inj he
  have hg := entC_get es j hjl
  rw [hE] at hg
  have f0 : w.cell? ⟨b, j * 3, none⟩ = some (.int .i64 f.c) := ox.cells rfl _ _ (hg 0 _ rfl)
  have f1 : w.cell? ⟨b, j * 3 + 1, none⟩ = some (.bool f.d) := ox.cells rfl _ _ (hg 1 _ rfl)
  have f2 : w.cell? ⟨b, j * 3 + 2, none⟩ = some (.slice au nu cu) := ox.cells rfl _ _ (hg 2 _ rfl)
  have Hone := Lib.hid (es_one (S.drop 0 |>.drop 0 |>.drop 0))
  obtain ⟨W1, hW1⟩ : ∃ W1, w.setRow o #[.int .i64 f.c, .bool f.d, .slice au nu cu] = W1 := ⟨_, rfl⟩
  have S1 := S.setRow 0 rfl #[.int .i64 f.c, .bool f.d, .slice au nu cu]
  rw [hW1] at S1
  have HB := Lib.hid (S.blk 0 rfl)
  have p0 := (S1.blk 1 rfl).at_ 0 rfl
  have q0 := (S1.blk 2 rfl).at_ 0 rfl
  have g0 := (S1.blk 3 rfl).at_ 0 rfl
  have HS1 := Lib.hid S1
  have HZ := Lib.hid hZ
  have i0 : (0 : Int) ≤ (j : Int) := by omega
  have i1 : (j : Int) ≤ (cc : Int) := by omega
  have i2 : IntKind.i64.wrap ((j : Int) + 1) = (j : Int) + 1 := IntWalk.i64_in _ (by omega)
  have i3 : (j : Int) + 1 ≤ (m : Int) := by omega
  have i4 : (m : Int) ≤ (cc : Int) := by omega
  have i5 : (j : Int) ≤ (m : Int) := by omega
  have i6 : (0 : Int) ≤ (j : Int) + 1 := by omega
  have i7 : ((j : Int) + 1).toNat = j + 1 := by omega
  have i8 : (j : Int) + 1 ≤ (cc : Int) := by omega
  have i9 : ¬ (cc = j + 1) := ho
  clear S S1 ox hE hg hjl
  go_enter Try.func55, Try.ntmps55
  go_upto_region 2 with (
    refine wpList_store_row rfl 48 (.tmp 1) (.tmp 8) rfl o #[.int .i64 f.c, .bool f.d, .slice au nu cu] rfl rfl 48 _ HB.out size48 HZ.out (fl_one _ _ _ _ _) ?_
    rw [hW1])
  have OX := Lib.hid ((HS1.out.cutX 4 rfl j (by omega)).ownX 4 rfl)
  have RX : Hid (Reads W1 (b + 1) 3 (some ⟨b, (j + 1) * 3, none⟩) (m - (j + 1)) ((entC es).drop ((j + 1) * 3))) := Lib.hid (by
    have h := (HS1.out.ownX 4 rfl).reads.cut (k := j + 1) (by omega) hcap
    have he : (⟨b, 0, none⟩ : Addr).add ((j + 1) * 3) = ⟨b, (j + 1) * 3, none⟩ := by unfold Addr.add; split <;> simp_all
    rw [if_neg ho, Option.map_some, he] at h
    exact h)
  have HO : Hid (∀ u ∈ (entC es).drop ((j + 1) * 3), u.oneCell' = true) := Lib.hid fun u hu => Hone.out u (List.mem_of_mem_drop hu)
  have Hm1 : Hid (j + (m - (j + 1)) ≤ maxLen) := Lib.hid (by unfold maxLen; omega)
  have Hm2 : Hid ((j + (m - (j + 1))) * 40 ≤ 140737488355328) := Lib.hid (by omega)
  obtain ⟨i48, hi48, hz0, hz1, hz2⟩ := info_parts info48
  have Hi := Lib.hid hi48
  have Hz0 := Lib.hid hz0
  have Hz1 := Lib.hid hz1
  have Hz2 := Lib.hid hz2
  have Hcm := Lib.hid hcm
  have HSc := Lib.hid (HS1.out.cutX 4 rfl j (by omega)).drew
  have He := Lib.hid (entC_erase es j (by omega))
  clear hi48 hz0 hz1 hz2 hcm hcap f0 f1 f2
  have HN : Hid (j + (m - (j + 1)) = m - 1) := Lib.hid (by omega)
  refine wp_region_held_drew (S := fun w' => w'.cell? ⟨p, 0, none⟩ = some (.pointer (some ⟨g, 0, none⟩)) ∧ w'.cell? ⟨q, 0, none⟩ = some (.int .i64 (j : Int))) (by kernel_rfl) ⟨p0, q0⟩ (fun hHeld => ?_)
  refine wpAnyH_take (i := 0) (oi := { dst := some 9, op := Op.load 45 (Operand.tmp 2), type := 45, pos := "net.go:54", after := #[], guard := none }) (v := ?_) rfl (by kernel_rfl) (by kernel_rfl) (by kernel_rfl) (fun _ _ _ h => h) (Or.inl ⟨by rfl, ?_⟩) hHeld ?_
  rotate_left
  · intro w' hSw
    obtain ⟨hs1, hs2⟩ := hSw
    go_simp
    with_reducible rfl
  try simp only [Act.put, List.setIfInBounds_toArray, List.set_cons_zero, List.set_cons_succ]
  refine wpAnyH_take (i := 1) (oi := { dst := some 10, op := Op.load 45 (Operand.tmp 2), type := 45, pos := "net.go:54", after := #[], guard := none }) (v := ?_) rfl (by kernel_rfl) (by kernel_rfl) (by kernel_rfl) (fun _ _ _ h => h) (Or.inl ⟨by rfl, ?_⟩) hHeld ?_
  rotate_left
  · intro w' hSw
    obtain ⟨hs1, hs2⟩ := hSw
    go_simp
    with_reducible rfl
  try simp only [Act.put, List.setIfInBounds_toArray, List.set_cons_zero, List.set_cons_succ]
  refine wpAnyH_take (i := 2) (oi := { dst := some 11, op := Op.nilCheck (Operand.tmp 10), type := 0, pos := "net.go:54", after := #[{ on := 1, ground := Ground.data }], guard := none }) (v := ?_) rfl (by kernel_rfl) (by kernel_rfl) (by kernel_rfl) (fun _ _ _ h => h) (Or.inl ⟨by rfl, ?_⟩) hHeld ?_
  rotate_left
  · intro w' hSw
    obtain ⟨hs1, hs2⟩ := hSw
    go_simp
    with_reducible rfl
  try simp only [Act.put, List.setIfInBounds_toArray, List.set_cons_zero, List.set_cons_succ]
  refine wpAnyH_take (i := 3) (oi := { dst := some 12, op := Op.fieldAddr 80 (Operand.tmp 11) 0, type := 0, pos := "net.go:54", after := #[{ on := 2, ground := Ground.data }], guard := none }) (v := ?_) rfl (by kernel_rfl) (by kernel_rfl) (by kernel_rfl) (fun _ _ _ h => h) (Or.inl ⟨by rfl, ?_⟩) hHeld ?_
  rotate_left
  · intro w' hSw
    obtain ⟨hs1, hs2⟩ := hSw
    go_simp
    with_reducible rfl
  try simp only [Act.put, List.setIfInBounds_toArray, List.set_cons_zero, List.set_cons_succ]
  refine wpAnyH_take (i := 5) (oi := { dst := some 14, op := Op.load 3 (Operand.tmp 3), type := 3, pos := "net.go:54", after := #[], guard := none }) (v := ?_) rfl (by kernel_rfl) (by kernel_rfl) (by kernel_rfl) (fun _ _ _ h => h) (Or.inl ⟨by rfl, ?_⟩) hHeld ?_
  rotate_left
  · intro w' hSw
    obtain ⟨hs1, hs2⟩ := hSw
    go_simp
    with_reducible rfl
  try simp only [Act.put, List.setIfInBounds_toArray, List.set_cons_zero, List.set_cons_succ]
  refine wpAnyH_take (i := 6) (oi := { dst := some 15, op := Op.load 3 (Operand.tmp 3), type := 3, pos := "net.go:54", after := #[], guard := none }) (v := ?_) rfl (by kernel_rfl) (by kernel_rfl) (by kernel_rfl) (fun _ _ _ h => h) (Or.inl ⟨by rfl, ?_⟩) hHeld ?_
  rotate_left
  · intro w' hSw
    obtain ⟨hs1, hs2⟩ := hSw
    go_simp
    with_reducible rfl
  try simp only [Act.put, List.setIfInBounds_toArray, List.set_cons_zero, List.set_cons_succ]
  refine wpAnyH_take (i := 8) (oi := { dst := some 17, op := Op.load 45 (Operand.tmp 2), type := 45, pos := "net.go:54", after := #[], guard := none }) (v := ?_) rfl (by kernel_rfl) (by kernel_rfl) (by kernel_rfl) (fun _ _ _ h => h) (Or.inl ⟨by rfl, ?_⟩) hHeld ?_
  rotate_left
  · intro w' hSw
    obtain ⟨hs1, hs2⟩ := hSw
    go_simp
    with_reducible rfl
  try simp only [Act.put, List.setIfInBounds_toArray, List.set_cons_zero, List.set_cons_succ]
  refine wpAnyH_take (i := 9) (oi := { dst := some 18, op := Op.nilCheck (Operand.tmp 17), type := 0, pos := "net.go:54", after := #[{ on := 8, ground := Ground.data }], guard := none }) (v := ?_) rfl (by kernel_rfl) (by kernel_rfl) (by kernel_rfl) (fun _ _ _ h => h) (Or.inl ⟨by rfl, ?_⟩) hHeld ?_
  rotate_left
  · intro w' hSw
    obtain ⟨hs1, hs2⟩ := hSw
    go_simp
    with_reducible rfl
  try simp only [Act.put, List.setIfInBounds_toArray, List.set_cons_zero, List.set_cons_succ]
  refine wpAnyH_take (i := 10) (oi := { dst := some 19, op := Op.fieldAddr 80 (Operand.tmp 18) 0, type := 0, pos := "net.go:54", after := #[{ on := 9, ground := Ground.data }], guard := none }) (v := ?_) rfl (by kernel_rfl) (by kernel_rfl) (by kernel_rfl) (fun _ _ _ h => h) (Or.inl ⟨by rfl, ?_⟩) hHeld ?_
  rotate_left
  · intro w' hSw
    obtain ⟨hs1, hs2⟩ := hSw
    go_simp
    with_reducible rfl
  try simp only [Act.put, List.setIfInBounds_toArray, List.set_cons_zero, List.set_cons_succ]
  refine wpAnyH_take (i := 12) (oi := { dst := some 21, op := Op.load 3 (Operand.tmp 3), type := 3, pos := "net.go:54", after := #[], guard := none }) (v := ?_) rfl (by kernel_rfl) (by kernel_rfl) (by kernel_rfl) (fun _ _ _ h => h) (Or.inl ⟨by rfl, ?_⟩) hHeld ?_
  rotate_left
  · intro w' hSw
    obtain ⟨hs1, hs2⟩ := hSw
    go_simp
    with_reducible rfl
  try simp only [Act.put, List.setIfInBounds_toArray, List.set_cons_zero, List.set_cons_succ]
  refine wpAnyH_take (i := 13) (oi := { dst := some 22, op := Op.binOp BinOp.add 3 (Operand.tmp 21) (Operand.const (Value.int IntKind.i64 1)) 3, type := 3, pos := "net.go:54", after := #[{ on := 12, ground := Ground.data }], guard := none }) (v := ?_) rfl (by kernel_rfl) (by kernel_rfl) (by kernel_rfl) (fun _ _ _ h => h) (Or.inl ⟨by rfl, ?_⟩) hHeld ?_
  rotate_left
  · intro w' hSw
    obtain ⟨hs1, hs2⟩ := hSw
    go_simp
    with_reducible rfl
  try simp only [Act.put, List.setIfInBounds_toArray, List.set_cons_zero, List.set_cons_succ]
  refine wpAnyH_ready (rs := [4, 11]) (by kernel_rfl) (by simp) ?_
  refine AllReadyH.cons (o := { dst := some 13, op := Op.load 55 (Operand.tmp 12), type := 55, pos := "net.go:54", after := #[{ on := 3, ground := Ground.data }], guard := none }) rfl ?_ (AllReadyH.cons (o := { dst := some 20, op := Op.load 55 (Operand.tmp 19), type := 55, pos := "net.go:54", after := #[{ on := 10, ground := Ground.data }], guard := none }) rfl ?_ (AllReadyH.nil))
  · intro K hK
    go_simp
    refine hK.out _ _ ⟨p0, q0⟩ (fun hHeld => ?_)
    clear hK K
    try simp only [Act.put, List.setIfInBounds_toArray, List.set_cons_zero, List.set_cons_succ]
    refine wpAnyH_take (i := 7) (oi := { dst := some 16, op := Op.slice 55 (Operand.tmp 13) none (some (Operand.tmp 14)) (some (Operand.tmp 15)), type := 55, pos := "net.go:54", after := #[{ on := 4, ground := Ground.data }, { on := 5, ground := Ground.data }, { on := 6, ground := Ground.data }], guard := none }) (v := ?_) rfl (by kernel_rfl) (by kernel_rfl) (by kernel_rfl) (fun _ _ _ h => h) (Or.inl ⟨by rfl, ?_⟩) hHeld ?_
    rotate_left
    · intro w' hSw
      obtain ⟨hs1, hs2⟩ := hSw
      go_simp
      with_reducible rfl
    try simp only [Act.put, List.setIfInBounds_toArray, List.set_cons_zero, List.set_cons_succ]
    refine wpAnyH_ready (rs := [11]) (by kernel_rfl) (by simp) ?_
    refine AllReadyH.cons (o := { dst := some 20, op := Op.load 55 (Operand.tmp 19), type := 55, pos := "net.go:54", after := #[{ on := 10, ground := Ground.data }], guard := none }) rfl ?_ (AllReadyH.nil)
    · intro K hK
      go_simp
      refine hK.out _ _ ⟨p0, q0⟩ (fun hHeld => ?_)
      clear hK K
      try simp only [Act.put, List.setIfInBounds_toArray, List.set_cons_zero, List.set_cons_succ]
      refine wpAnyH_take (i := 14) (oi := { dst := some 23, op := Op.slice 55 (Operand.tmp 20) (some (Operand.tmp 22)) none none, type := 55, pos := "net.go:54", after := #[{ on := 11, ground := Ground.data }, { on := 13, ground := Ground.data }], guard := none }) (v := ?_) rfl (by kernel_rfl) (by kernel_rfl) (by kernel_rfl) (fun _ _ _ h => h) (Or.inl ⟨by rfl, ?_⟩) hHeld ?_
      rotate_left
      · intro w' hSw
        obtain ⟨hs1, hs2⟩ := hSw
        go_simp
        with_reducible rfl
      try simp only [Act.put, List.setIfInBounds_toArray, List.set_cons_zero, List.set_cons_succ]
      refine wpAnyH_ready (rs := [15]) (by kernel_rfl) (by simp) ?_
      refine AllReadyH.cons (o := { dst := some 24, op := Op.call { callee := Callee.builtin Builtin.append, args := #[Operand.tmp 16, Operand.tmp 23], argTypes := #[55, 55] }, type := 55, pos := "net.go:54", after := #[{ on := 7, ground := Ground.data }, { on := 14, ground := Ground.data }], guard := none }) rfl ?_ (AllReadyH.nil)
      · intro K hK
        refine step_append_x (P := Try.prog) rfl (.tmp 16) (.tmp 23) 55 rfl 48 i48 _ 3 40 Try.underlying55 Hi.out Hz0.out Hz1.out Hz2.out rfl (Nat.succ_pos 2) (.slice (some ⟨b, 0, none⟩) j j) j ((entC es).take (j * 3)) rfl OX.out (b + 1) _ (m - (j + 1)) (cc - (j + 1)) ((entC es).drop ((j + 1) * 3)) rfl RX.out HO.out Hm1.out Hm2.out ?_
        intro v5 w5 hown5 hg5 hat5
        obtain ⟨a5, c5, rfl, -, -⟩ := hown5.slice
        have S5 := HSc.out.pushedX 4 rfl hown5 hg5 hat5
        have S6 := S5.put 3 rfl 0 (.slice a5 (j + (m - (j + 1))) c5)
        have f0 := (S5.blk 3 rfl).at_ 0 rfl
        have z0 := (S5.blk 3 rfl).frozen 0
        have p5 : w5.cell? ⟨p, 0, none⟩ = some (.pointer (some ⟨g, 0, none⟩)) := (S5.blk 1 rfl).at_ 0 rfl
        have q5 : w5.cell? ⟨q, 0, none⟩ = some (.int .i64 (j : Int)) := (S5.blk 2 rfl).at_ 0 rfl
        have p6 : (w5.setCell ⟨g, 0, none⟩ (.slice a5 (j + (m - (j + 1))) c5)).cell? ⟨p, 0, none⟩ = some (.pointer (some ⟨g, 0, none⟩)) := (S6.blk 1 rfl).at_ 0 rfl
        have q6 : (w5.setCell ⟨g, 0, none⟩ (.slice a5 (j + (m - (j + 1))) c5)).cell? ⟨q, 0, none⟩ = some (.int .i64 (j : Int)) := (S6.blk 2 rfl).at_ 0 rfl
        clear hown5 hg5 hat5
        refine hK.out _ _ ⟨p5, q5⟩ (fun hHeld => ?_)
        clear hK K
        try simp only [Act.put, List.setIfInBounds_toArray, List.set_cons_zero, List.set_cons_succ]
        refine wpAnyH_take (i := 16) (oi := { dst := some 25, op := Op.nilCheck (Operand.tmp 9), type := 0, pos := "net.go:54", after := #[{ on := 0, ground := Ground.data }, { on := 0, ground := Ground.phase }, { on := 1, ground := Ground.phase }, { on := 2, ground := Ground.phase }, { on := 3, ground := Ground.phase }, { on := 4, ground := Ground.phase }, { on := 5, ground := Ground.phase }, { on := 6, ground := Ground.phase }, { on := 7, ground := Ground.phase }, { on := 8, ground := Ground.phase }, { on := 9, ground := Ground.phase }, { on := 10, ground := Ground.phase }, { on := 11, ground := Ground.phase }, { on := 12, ground := Ground.phase }, { on := 13, ground := Ground.phase }, { on := 14, ground := Ground.phase }, { on := 15, ground := Ground.phase }], guard := none }) (v := ?_) rfl (by kernel_rfl) (by kernel_rfl) (by kernel_rfl) (fun _ _ _ h => h) (Or.inl ⟨by rfl, ?_⟩) hHeld ?_
        rotate_left
        · intro w' hSw
          obtain ⟨hs1, hs2⟩ := hSw
          go_simp
          with_reducible rfl
        try simp only [Act.put, List.setIfInBounds_toArray, List.set_cons_zero, List.set_cons_succ]
        refine wpAnyH_take (i := 17) (oi := { dst := some 26, op := Op.fieldAddr 80 (Operand.tmp 25) 0, type := 0, pos := "net.go:54", after := #[{ on := 16, ground := Ground.data }, { on := 0, ground := Ground.phase }, { on := 1, ground := Ground.phase }, { on := 2, ground := Ground.phase }, { on := 3, ground := Ground.phase }, { on := 4, ground := Ground.phase }, { on := 5, ground := Ground.phase }, { on := 6, ground := Ground.phase }, { on := 7, ground := Ground.phase }, { on := 8, ground := Ground.phase }, { on := 9, ground := Ground.phase }, { on := 10, ground := Ground.phase }, { on := 11, ground := Ground.phase }, { on := 12, ground := Ground.phase }, { on := 13, ground := Ground.phase }, { on := 14, ground := Ground.phase }, { on := 15, ground := Ground.phase }], guard := none }) (v := ?_) rfl (by kernel_rfl) (by kernel_rfl) (by kernel_rfl) (fun _ _ _ h => h) (Or.inl ⟨by rfl, ?_⟩) hHeld ?_
        rotate_left
        · intro w' hSw
          obtain ⟨hs1, hs2⟩ := hSw
          go_simp
          with_reducible rfl
        try simp only [Act.put, List.setIfInBounds_toArray, List.set_cons_zero, List.set_cons_succ]
        refine wpAnyH_ready (rs := [18]) (by kernel_rfl) (by simp) ?_
        refine AllReadyH.cons (o := { dst := none, op := Op.store 55 (Operand.tmp 26) (Operand.tmp 24), type := 0, pos := "net.go:54", after := #[{ on := 17, ground := Ground.data }, { on := 15, ground := Ground.data }, { on := 15, ground := Ground.chain }, { on := 0, ground := Ground.phase }, { on := 1, ground := Ground.phase }, { on := 2, ground := Ground.phase }, { on := 3, ground := Ground.phase }, { on := 4, ground := Ground.phase }, { on := 5, ground := Ground.phase }, { on := 6, ground := Ground.phase }, { on := 7, ground := Ground.phase }, { on := 8, ground := Ground.phase }, { on := 9, ground := Ground.phase }, { on := 10, ground := Ground.phase }, { on := 11, ground := Ground.phase }, { on := 12, ground := Ground.phase }, { on := 13, ground := Ground.phase }, { on := 14, ground := Ground.phase }, { on := 15, ground := Ground.phase }], guard := none }) rfl ?_ (AllReadyH.nil)
        · intro K hK
          go_simp
          refine hK.out _ _ ⟨p6, q6⟩ (fun hHeld => ?_)
          clear hK K
          try simp only [Act.put, List.setIfInBounds_toArray, List.set_cons_zero, List.set_cons_succ]
          refine wpAnyH_done (by kernel_rfl) ?_ _
          clear S5 f0 z0 p5 q5 p6 q6 p0 q0 g0
          generalize w5.setCell ⟨g, 0, none⟩ (.slice a5 (j + (m - (j + 1))) c5) = w6 at S6 ⊢
          go_wp2_with fail
          go_ret
          refine ⟨rfl, .slice a5 (j + (m - (j + 1))) c5, ?_⟩
          rw [← He.out, ← HN.out]
          exact S6
  · intro K hK
    go_simp
    refine hK.out _ _ ⟨p0, q0⟩ (fun hHeld => ?_)
    clear hK K
    try simp only [Act.put, List.setIfInBounds_toArray, List.set_cons_zero, List.set_cons_succ]
    refine wpAnyH_take (i := 14) (oi := { dst := some 23, op := Op.slice 55 (Operand.tmp 20) (some (Operand.tmp 22)) none none, type := 55, pos := "net.go:54", after := #[{ on := 11, ground := Ground.data }, { on := 13, ground := Ground.data }], guard := none }) (v := ?_) rfl (by kernel_rfl) (by kernel_rfl) (by kernel_rfl) (fun _ _ _ h => h) (Or.inl ⟨by rfl, ?_⟩) hHeld ?_
    rotate_left
    · intro w' hSw
      obtain ⟨hs1, hs2⟩ := hSw
      go_simp
      with_reducible rfl
    try simp only [Act.put, List.setIfInBounds_toArray, List.set_cons_zero, List.set_cons_succ]
    refine wpAnyH_ready (rs := [4]) (by kernel_rfl) (by simp) ?_
    refine AllReadyH.cons (o := { dst := some 13, op := Op.load 55 (Operand.tmp 12), type := 55, pos := "net.go:54", after := #[{ on := 3, ground := Ground.data }], guard := none }) rfl ?_ (AllReadyH.nil)
    · intro K hK
      go_simp
      refine hK.out _ _ ⟨p0, q0⟩ (fun hHeld => ?_)
      clear hK K
      try simp only [Act.put, List.setIfInBounds_toArray, List.set_cons_zero, List.set_cons_succ]
      refine wpAnyH_take (i := 7) (oi := { dst := some 16, op := Op.slice 55 (Operand.tmp 13) none (some (Operand.tmp 14)) (some (Operand.tmp 15)), type := 55, pos := "net.go:54", after := #[{ on := 4, ground := Ground.data }, { on := 5, ground := Ground.data }, { on := 6, ground := Ground.data }], guard := none }) (v := ?_) rfl (by kernel_rfl) (by kernel_rfl) (by kernel_rfl) (fun _ _ _ h => h) (Or.inl ⟨by rfl, ?_⟩) hHeld ?_
      rotate_left
      · intro w' hSw
        obtain ⟨hs1, hs2⟩ := hSw
        go_simp
        with_reducible rfl
      try simp only [Act.put, List.setIfInBounds_toArray, List.set_cons_zero, List.set_cons_succ]
      refine wpAnyH_ready (rs := [15]) (by kernel_rfl) (by simp) ?_
      refine AllReadyH.cons (o := { dst := some 24, op := Op.call { callee := Callee.builtin Builtin.append, args := #[Operand.tmp 16, Operand.tmp 23], argTypes := #[55, 55] }, type := 55, pos := "net.go:54", after := #[{ on := 7, ground := Ground.data }, { on := 14, ground := Ground.data }], guard := none }) rfl ?_ (AllReadyH.nil)
      · intro K hK
        refine step_append_x (P := Try.prog) rfl (.tmp 16) (.tmp 23) 55 rfl 48 i48 _ 3 40 Try.underlying55 Hi.out Hz0.out Hz1.out Hz2.out rfl (Nat.succ_pos 2) (.slice (some ⟨b, 0, none⟩) j j) j ((entC es).take (j * 3)) rfl OX.out (b + 1) _ (m - (j + 1)) (cc - (j + 1)) ((entC es).drop ((j + 1) * 3)) rfl RX.out HO.out Hm1.out Hm2.out ?_
        intro v5 w5 hown5 hg5 hat5
        obtain ⟨a5, c5, rfl, -, -⟩ := hown5.slice
        have S5 := HSc.out.pushedX 4 rfl hown5 hg5 hat5
        have S6 := S5.put 3 rfl 0 (.slice a5 (j + (m - (j + 1))) c5)
        have f0 := (S5.blk 3 rfl).at_ 0 rfl
        have z0 := (S5.blk 3 rfl).frozen 0
        have p5 : w5.cell? ⟨p, 0, none⟩ = some (.pointer (some ⟨g, 0, none⟩)) := (S5.blk 1 rfl).at_ 0 rfl
        have q5 : w5.cell? ⟨q, 0, none⟩ = some (.int .i64 (j : Int)) := (S5.blk 2 rfl).at_ 0 rfl
        have p6 : (w5.setCell ⟨g, 0, none⟩ (.slice a5 (j + (m - (j + 1))) c5)).cell? ⟨p, 0, none⟩ = some (.pointer (some ⟨g, 0, none⟩)) := (S6.blk 1 rfl).at_ 0 rfl
        have q6 : (w5.setCell ⟨g, 0, none⟩ (.slice a5 (j + (m - (j + 1))) c5)).cell? ⟨q, 0, none⟩ = some (.int .i64 (j : Int)) := (S6.blk 2 rfl).at_ 0 rfl
        clear hown5 hg5 hat5
        refine hK.out _ _ ⟨p5, q5⟩ (fun hHeld => ?_)
        clear hK K
        try simp only [Act.put, List.setIfInBounds_toArray, List.set_cons_zero, List.set_cons_succ]
        refine wpAnyH_take (i := 16) (oi := { dst := some 25, op := Op.nilCheck (Operand.tmp 9), type := 0, pos := "net.go:54", after := #[{ on := 0, ground := Ground.data }, { on := 0, ground := Ground.phase }, { on := 1, ground := Ground.phase }, { on := 2, ground := Ground.phase }, { on := 3, ground := Ground.phase }, { on := 4, ground := Ground.phase }, { on := 5, ground := Ground.phase }, { on := 6, ground := Ground.phase }, { on := 7, ground := Ground.phase }, { on := 8, ground := Ground.phase }, { on := 9, ground := Ground.phase }, { on := 10, ground := Ground.phase }, { on := 11, ground := Ground.phase }, { on := 12, ground := Ground.phase }, { on := 13, ground := Ground.phase }, { on := 14, ground := Ground.phase }, { on := 15, ground := Ground.phase }], guard := none }) (v := ?_) rfl (by kernel_rfl) (by kernel_rfl) (by kernel_rfl) (fun _ _ _ h => h) (Or.inl ⟨by rfl, ?_⟩) hHeld ?_
        rotate_left
        · intro w' hSw
          obtain ⟨hs1, hs2⟩ := hSw
          go_simp
          with_reducible rfl
        try simp only [Act.put, List.setIfInBounds_toArray, List.set_cons_zero, List.set_cons_succ]
        refine wpAnyH_take (i := 17) (oi := { dst := some 26, op := Op.fieldAddr 80 (Operand.tmp 25) 0, type := 0, pos := "net.go:54", after := #[{ on := 16, ground := Ground.data }, { on := 0, ground := Ground.phase }, { on := 1, ground := Ground.phase }, { on := 2, ground := Ground.phase }, { on := 3, ground := Ground.phase }, { on := 4, ground := Ground.phase }, { on := 5, ground := Ground.phase }, { on := 6, ground := Ground.phase }, { on := 7, ground := Ground.phase }, { on := 8, ground := Ground.phase }, { on := 9, ground := Ground.phase }, { on := 10, ground := Ground.phase }, { on := 11, ground := Ground.phase }, { on := 12, ground := Ground.phase }, { on := 13, ground := Ground.phase }, { on := 14, ground := Ground.phase }, { on := 15, ground := Ground.phase }], guard := none }) (v := ?_) rfl (by kernel_rfl) (by kernel_rfl) (by kernel_rfl) (fun _ _ _ h => h) (Or.inl ⟨by rfl, ?_⟩) hHeld ?_
        rotate_left
        · intro w' hSw
          obtain ⟨hs1, hs2⟩ := hSw
          go_simp
          with_reducible rfl
        try simp only [Act.put, List.setIfInBounds_toArray, List.set_cons_zero, List.set_cons_succ]
        refine wpAnyH_ready (rs := [18]) (by kernel_rfl) (by simp) ?_
        refine AllReadyH.cons (o := { dst := none, op := Op.store 55 (Operand.tmp 26) (Operand.tmp 24), type := 0, pos := "net.go:54", after := #[{ on := 17, ground := Ground.data }, { on := 15, ground := Ground.data }, { on := 15, ground := Ground.chain }, { on := 0, ground := Ground.phase }, { on := 1, ground := Ground.phase }, { on := 2, ground := Ground.phase }, { on := 3, ground := Ground.phase }, { on := 4, ground := Ground.phase }, { on := 5, ground := Ground.phase }, { on := 6, ground := Ground.phase }, { on := 7, ground := Ground.phase }, { on := 8, ground := Ground.phase }, { on := 9, ground := Ground.phase }, { on := 10, ground := Ground.phase }, { on := 11, ground := Ground.phase }, { on := 12, ground := Ground.phase }, { on := 13, ground := Ground.phase }, { on := 14, ground := Ground.phase }, { on := 15, ground := Ground.phase }], guard := none }) rfl ?_ (AllReadyH.nil)
        · intro K hK
          go_simp
          refine hK.out _ _ ⟨p6, q6⟩ (fun hHeld => ?_)
          clear hK K
          try simp only [Act.put, List.setIfInBounds_toArray, List.set_cons_zero, List.set_cons_succ]
          refine wpAnyH_done (by kernel_rfl) ?_ _
          clear S5 f0 z0 p5 q5 p6 q6 p0 q0 g0
          generalize w5.setCell ⟨g, 0, none⟩ (.slice a5 (j + (m - (j + 1))) c5) = w6 at S6 ⊢
          go_wp2_with fail
          go_ret
          refine ⟨rfl, .slice a5 (j + (m - (j + 1))) c5, ?_⟩
          rw [← He.out, ← HN.out]
          exact S6
/-- Take's inner function, the last one where the row has no room -/
theorem take1e (g o p q b j : Nat) (Z : Array Value) (hZ : Z.size = 3) (k : Int) (es : List Ent) (hm : es.length = j + 1) (hm2 : j + 1 ≤ 1000) (f : Fl) (au : Option Addr) (nu cu : Nat) (he : es[j]? = some (.slice au nu cu, f))
    (S : Sep w0 w (cell o 48 Z :: cell p 45 #[.pointer (some ⟨g, 0, none⟩)] :: cell q 3 #[.int .i64 (j : Int)] :: cell g 80 #[.slice (some ⟨b, 0, none⟩) (j + 1) (j + 1), .int .i64 k] :: rowX 48 3 (.slice (some ⟨b, 0, none⟩) (j + 1) (j + 1)) (j + 1) (entC es) :: (es.map rowE ++ M))) :
    Calls Try.prog 55 #[.pointer (some ⟨b, j * 3, none⟩), .pointer (some ⟨o, 0, none⟩), .pointer (some ⟨p, 0, none⟩), .pointer (some ⟨q, 0, none⟩)] w fun en w' => en = .returned (.int .i64 0) ∧ ∃ v', Sep w0 w' (cell o 48 #[.int .i64 f.c, .bool f.d, .slice au nu cu] :: cell p 45 #[.pointer (some ⟨g, 0, none⟩)] :: cell q 3 #[.int .i64 (j : Int)] :: cell g 80 #[v', .int .i64 k] :: rowX 48 3 v' j (entC (es.eraseIdx j)) :: (es.map rowE ++ M)) := by
  have ox := S.ownX 4 rfl
  obtain ⟨_, _, hv, hcap, hcm⟩ := ox.slice
  injection hv with hv1 hv2 hv3
  subst hv3
  clear hv1 hv2
  have hjl : j < es.length := by omega
  have hE : es[j] = (.slice au nu cu, f) := by rw [List.getElem?_eq_getElem hjl] at he; exact Option.some.inj he
  have hg := entC_get es j hjl
  rw [hE] at hg
  have f0 : w.cell? ⟨b, j * 3, none⟩ = some (.int .i64 f.c) := ox.cells rfl _ _ (hg 0 _ rfl)
  have f1 : w.cell? ⟨b, j * 3 + 1, none⟩ = some (.bool f.d) := ox.cells rfl _ _ (hg 1 _ rfl)
  have f2 : w.cell? ⟨b, j * 3 + 2, none⟩ = some (.slice au nu cu) := ox.cells rfl _ _ (hg 2 _ rfl)
  have Hone := Lib.hid (es_one (S.drop 0 |>.drop 0 |>.drop 0))
  obtain ⟨W1, hW1⟩ : ∃ W1, w.setRow o #[.int .i64 f.c, .bool f.d, .slice au nu cu] = W1 := ⟨_, rfl⟩
  have S1 := S.setRow 0 rfl #[.int .i64 f.c, .bool f.d, .slice au nu cu]
  rw [hW1] at S1
  have HB := Lib.hid (S.blk 0 rfl)
  have p0 := (S1.blk 1 rfl).at_ 0 rfl
  have q0 := (S1.blk 2 rfl).at_ 0 rfl
  have g0 := (S1.blk 3 rfl).at_ 0 rfl
  have HS1 := Lib.hid S1
  have HZ := Lib.hid hZ
  have i0 : (0 : Int) ≤ (j : Int) := by omega
  have i1 : (j : Int) ≤ (j : Int) + 1 := by omega
  have i2 : IntKind.i64.wrap ((j : Int) + 1) = (j : Int) + 1 := IntWalk.i64_in _ (by omega)
  have i6 : (0 : Int) ≤ (j : Int) + 1 := by omega
  have i7 : ((j : Int) + 1).toNat = j + 1 := by omega
  clear S S1 ox hE hg hjl
  go_enter Try.func55, Try.ntmps55
  go_upto_region 2 with (
    refine wpList_store_row rfl 48 (.tmp 1) (.tmp 8) rfl o #[.int .i64 f.c, .bool f.d, .slice au nu cu] rfl rfl 48 _ HB.out size48 HZ.out (fl_one _ _ _ _ _) ?_
    rw [hW1])
  have OX := Lib.hid ((HS1.out.cutX 4 rfl j (by omega)).ownX 4 rfl)
  have RX : Hid (Reads W1.drew (b + 1) 3 (some ⟨b, 0, none⟩) 0 []) := Lib.hid ⟨rfl, fun h => absurd h (Nat.lt_irrefl 0)⟩
  have HO : Hid (∀ u ∈ ([] : List Value), u.oneCell' = true) := Lib.hid (by simp)
  have Hm1 : Hid (j + 0 ≤ maxLen) := Lib.hid (by unfold maxLen; omega)
  have Hm2 : Hid ((j + 0) * 40 ≤ 140737488355328) := Lib.hid (by omega)
  obtain ⟨i48, hi48, hz0, hz1, hz2⟩ := info_parts info48
  have Hi := Lib.hid hi48
  have Hz0 := Lib.hid hz0
  have Hz1 := Lib.hid hz1
  have Hz2 := Lib.hid hz2
  have Hcm := Lib.hid hcm
  have HSc := Lib.hid (HS1.out.cutX 4 rfl j (by omega)).drew
  have He := Lib.hid (entC_erase es j (by omega))
  clear hi48 hz0 hz1 hz2 hcm hcap f0 f1 f2
  have HD : Hid ((entC es).drop ((j + 1) * 3) = []) := Lib.hid (List.drop_of_length_le (by rw [entC_len, hm]; omega))
  refine wp_region_held_drew (S := fun w' => w'.cell? ⟨p, 0, none⟩ = some (.pointer (some ⟨g, 0, none⟩)) ∧ w'.cell? ⟨q, 0, none⟩ = some (.int .i64 (j : Int))) (by kernel_rfl) ⟨p0, q0⟩ (fun hHeld => ?_)
  refine wpAnyH_take (i := 0) (oi := { dst := some 9, op := Op.load 45 (Operand.tmp 2), type := 45, pos := "net.go:54", after := #[], guard := none }) (v := ?_) rfl (by kernel_rfl) (by kernel_rfl) (by kernel_rfl) (fun _ _ _ h => h) (Or.inl ⟨by rfl, ?_⟩) hHeld ?_
  rotate_left
  · intro w' hSw
    obtain ⟨hs1, hs2⟩ := hSw
    go_simp
    with_reducible rfl
  try simp only [Act.put, List.setIfInBounds_toArray, List.set_cons_zero, List.set_cons_succ]
  refine wpAnyH_take (i := 1) (oi := { dst := some 10, op := Op.load 45 (Operand.tmp 2), type := 45, pos := "net.go:54", after := #[], guard := none }) (v := ?_) rfl (by kernel_rfl) (by kernel_rfl) (by kernel_rfl) (fun _ _ _ h => h) (Or.inl ⟨by rfl, ?_⟩) hHeld ?_
  rotate_left
  · intro w' hSw
    obtain ⟨hs1, hs2⟩ := hSw
    go_simp
    with_reducible rfl
  try simp only [Act.put, List.setIfInBounds_toArray, List.set_cons_zero, List.set_cons_succ]
  refine wpAnyH_take (i := 2) (oi := { dst := some 11, op := Op.nilCheck (Operand.tmp 10), type := 0, pos := "net.go:54", after := #[{ on := 1, ground := Ground.data }], guard := none }) (v := ?_) rfl (by kernel_rfl) (by kernel_rfl) (by kernel_rfl) (fun _ _ _ h => h) (Or.inl ⟨by rfl, ?_⟩) hHeld ?_
  rotate_left
  · intro w' hSw
    obtain ⟨hs1, hs2⟩ := hSw
    go_simp
    with_reducible rfl
  try simp only [Act.put, List.setIfInBounds_toArray, List.set_cons_zero, List.set_cons_succ]
  refine wpAnyH_take (i := 3) (oi := { dst := some 12, op := Op.fieldAddr 80 (Operand.tmp 11) 0, type := 0, pos := "net.go:54", after := #[{ on := 2, ground := Ground.data }], guard := none }) (v := ?_) rfl (by kernel_rfl) (by kernel_rfl) (by kernel_rfl) (fun _ _ _ h => h) (Or.inl ⟨by rfl, ?_⟩) hHeld ?_
  rotate_left
  · intro w' hSw
    obtain ⟨hs1, hs2⟩ := hSw
    go_simp
    with_reducible rfl
  try simp only [Act.put, List.setIfInBounds_toArray, List.set_cons_zero, List.set_cons_succ]
  refine wpAnyH_take (i := 5) (oi := { dst := some 14, op := Op.load 3 (Operand.tmp 3), type := 3, pos := "net.go:54", after := #[], guard := none }) (v := ?_) rfl (by kernel_rfl) (by kernel_rfl) (by kernel_rfl) (fun _ _ _ h => h) (Or.inl ⟨by rfl, ?_⟩) hHeld ?_
  rotate_left
  · intro w' hSw
    obtain ⟨hs1, hs2⟩ := hSw
    go_simp
    with_reducible rfl
  try simp only [Act.put, List.setIfInBounds_toArray, List.set_cons_zero, List.set_cons_succ]
  refine wpAnyH_take (i := 6) (oi := { dst := some 15, op := Op.load 3 (Operand.tmp 3), type := 3, pos := "net.go:54", after := #[], guard := none }) (v := ?_) rfl (by kernel_rfl) (by kernel_rfl) (by kernel_rfl) (fun _ _ _ h => h) (Or.inl ⟨by rfl, ?_⟩) hHeld ?_
  rotate_left
  · intro w' hSw
    obtain ⟨hs1, hs2⟩ := hSw
    go_simp
    with_reducible rfl
  try simp only [Act.put, List.setIfInBounds_toArray, List.set_cons_zero, List.set_cons_succ]
  refine wpAnyH_take (i := 8) (oi := { dst := some 17, op := Op.load 45 (Operand.tmp 2), type := 45, pos := "net.go:54", after := #[], guard := none }) (v := ?_) rfl (by kernel_rfl) (by kernel_rfl) (by kernel_rfl) (fun _ _ _ h => h) (Or.inl ⟨by rfl, ?_⟩) hHeld ?_
  rotate_left
  · intro w' hSw
    obtain ⟨hs1, hs2⟩ := hSw
    go_simp
    with_reducible rfl
  try simp only [Act.put, List.setIfInBounds_toArray, List.set_cons_zero, List.set_cons_succ]
  refine wpAnyH_take (i := 9) (oi := { dst := some 18, op := Op.nilCheck (Operand.tmp 17), type := 0, pos := "net.go:54", after := #[{ on := 8, ground := Ground.data }], guard := none }) (v := ?_) rfl (by kernel_rfl) (by kernel_rfl) (by kernel_rfl) (fun _ _ _ h => h) (Or.inl ⟨by rfl, ?_⟩) hHeld ?_
  rotate_left
  · intro w' hSw
    obtain ⟨hs1, hs2⟩ := hSw
    go_simp
    with_reducible rfl
  try simp only [Act.put, List.setIfInBounds_toArray, List.set_cons_zero, List.set_cons_succ]
  refine wpAnyH_take (i := 10) (oi := { dst := some 19, op := Op.fieldAddr 80 (Operand.tmp 18) 0, type := 0, pos := "net.go:54", after := #[{ on := 9, ground := Ground.data }], guard := none }) (v := ?_) rfl (by kernel_rfl) (by kernel_rfl) (by kernel_rfl) (fun _ _ _ h => h) (Or.inl ⟨by rfl, ?_⟩) hHeld ?_
  rotate_left
  · intro w' hSw
    obtain ⟨hs1, hs2⟩ := hSw
    go_simp
    with_reducible rfl
  try simp only [Act.put, List.setIfInBounds_toArray, List.set_cons_zero, List.set_cons_succ]
  refine wpAnyH_take (i := 12) (oi := { dst := some 21, op := Op.load 3 (Operand.tmp 3), type := 3, pos := "net.go:54", after := #[], guard := none }) (v := ?_) rfl (by kernel_rfl) (by kernel_rfl) (by kernel_rfl) (fun _ _ _ h => h) (Or.inl ⟨by rfl, ?_⟩) hHeld ?_
  rotate_left
  · intro w' hSw
    obtain ⟨hs1, hs2⟩ := hSw
    go_simp
    with_reducible rfl
  try simp only [Act.put, List.setIfInBounds_toArray, List.set_cons_zero, List.set_cons_succ]
  refine wpAnyH_take (i := 13) (oi := { dst := some 22, op := Op.binOp BinOp.add 3 (Operand.tmp 21) (Operand.const (Value.int IntKind.i64 1)) 3, type := 3, pos := "net.go:54", after := #[{ on := 12, ground := Ground.data }], guard := none }) (v := ?_) rfl (by kernel_rfl) (by kernel_rfl) (by kernel_rfl) (fun _ _ _ h => h) (Or.inl ⟨by rfl, ?_⟩) hHeld ?_
  rotate_left
  · intro w' hSw
    obtain ⟨hs1, hs2⟩ := hSw
    go_simp
    with_reducible rfl
  try simp only [Act.put, List.setIfInBounds_toArray, List.set_cons_zero, List.set_cons_succ]
  refine wpAnyH_ready (rs := [4, 11]) (by kernel_rfl) (by simp) ?_
  refine AllReadyH.cons (o := { dst := some 13, op := Op.load 55 (Operand.tmp 12), type := 55, pos := "net.go:54", after := #[{ on := 3, ground := Ground.data }], guard := none }) rfl ?_ (AllReadyH.cons (o := { dst := some 20, op := Op.load 55 (Operand.tmp 19), type := 55, pos := "net.go:54", after := #[{ on := 10, ground := Ground.data }], guard := none }) rfl ?_ (AllReadyH.nil))
  · intro K hK
    go_simp
    refine hK.out _ _ ⟨p0, q0⟩ (fun hHeld => ?_)
    clear hK K
    try simp only [Act.put, List.setIfInBounds_toArray, List.set_cons_zero, List.set_cons_succ]
    refine wpAnyH_take (i := 7) (oi := { dst := some 16, op := Op.slice 55 (Operand.tmp 13) none (some (Operand.tmp 14)) (some (Operand.tmp 15)), type := 55, pos := "net.go:54", after := #[{ on := 4, ground := Ground.data }, { on := 5, ground := Ground.data }, { on := 6, ground := Ground.data }], guard := none }) (v := ?_) rfl (by kernel_rfl) (by kernel_rfl) (by kernel_rfl) (fun _ _ _ h => h) (Or.inl ⟨by rfl, ?_⟩) hHeld ?_
    rotate_left
    · intro w' hSw
      obtain ⟨hs1, hs2⟩ := hSw
      go_simp
      with_reducible rfl
    try simp only [Act.put, List.setIfInBounds_toArray, List.set_cons_zero, List.set_cons_succ]
    refine wpAnyH_ready (rs := [11]) (by kernel_rfl) (by simp) ?_
    refine AllReadyH.cons (o := { dst := some 20, op := Op.load 55 (Operand.tmp 19), type := 55, pos := "net.go:54", after := #[{ on := 10, ground := Ground.data }], guard := none }) rfl ?_ (AllReadyH.nil)
    · intro K hK
      go_simp
      refine hK.out _ _ ⟨p0, q0⟩ (fun hHeld => ?_)
      clear hK K
      try simp only [Act.put, List.setIfInBounds_toArray, List.set_cons_zero, List.set_cons_succ]
      refine wpAnyH_take (i := 14) (oi := { dst := some 23, op := Op.slice 55 (Operand.tmp 20) (some (Operand.tmp 22)) none none, type := 55, pos := "net.go:54", after := #[{ on := 11, ground := Ground.data }, { on := 13, ground := Ground.data }], guard := none }) (v := ?_) rfl (by kernel_rfl) (by kernel_rfl) (by kernel_rfl) (fun _ _ _ h => h) (Or.inl ⟨by rfl, ?_⟩) hHeld ?_
      rotate_left
      · intro w' hSw
        obtain ⟨hs1, hs2⟩ := hSw
        go_simp
        with_reducible rfl
      try simp only [Act.put, List.setIfInBounds_toArray, List.set_cons_zero, List.set_cons_succ]
      refine wpAnyH_ready (rs := [15]) (by kernel_rfl) (by simp) ?_
      refine AllReadyH.cons (o := { dst := some 24, op := Op.call { callee := Callee.builtin Builtin.append, args := #[Operand.tmp 16, Operand.tmp 23], argTypes := #[55, 55] }, type := 55, pos := "net.go:54", after := #[{ on := 7, ground := Ground.data }, { on := 14, ground := Ground.data }], guard := none }) rfl ?_ (AllReadyH.nil)
      · intro K hK
        refine step_append_x (P := Try.prog) rfl (.tmp 16) (.tmp 23) 55 rfl 48 i48 _ 3 40 Try.underlying55 Hi.out Hz0.out Hz1.out Hz2.out rfl (Nat.succ_pos 2) (.slice (some ⟨b, 0, none⟩) j j) j ((entC es).take (j * 3)) rfl OX.out (b + 1) _ 0 0 [] rfl RX.out HO.out Hm1.out Hm2.out ?_
        intro v5 w5 hown5 hg5 hat5
        obtain ⟨a5, c5, rfl, -, -⟩ := hown5.slice
        have S5 := HSc.out.pushedX 4 rfl hown5 hg5 hat5
        have S6 := S5.put 3 rfl 0 (.slice a5 (j + 0) c5)
        have f0 := (S5.blk 3 rfl).at_ 0 rfl
        have z0 := (S5.blk 3 rfl).frozen 0
        have p5 : w5.cell? ⟨p, 0, none⟩ = some (.pointer (some ⟨g, 0, none⟩)) := (S5.blk 1 rfl).at_ 0 rfl
        have q5 : w5.cell? ⟨q, 0, none⟩ = some (.int .i64 (j : Int)) := (S5.blk 2 rfl).at_ 0 rfl
        have p6 : (w5.setCell ⟨g, 0, none⟩ (.slice a5 (j + 0) c5)).cell? ⟨p, 0, none⟩ = some (.pointer (some ⟨g, 0, none⟩)) := (S6.blk 1 rfl).at_ 0 rfl
        have q6 : (w5.setCell ⟨g, 0, none⟩ (.slice a5 (j + 0) c5)).cell? ⟨q, 0, none⟩ = some (.int .i64 (j : Int)) := (S6.blk 2 rfl).at_ 0 rfl
        clear hown5 hg5 hat5
        refine hK.out _ _ ⟨p5, q5⟩ (fun hHeld => ?_)
        clear hK K
        try simp only [Act.put, List.setIfInBounds_toArray, List.set_cons_zero, List.set_cons_succ]
        refine wpAnyH_take (i := 16) (oi := { dst := some 25, op := Op.nilCheck (Operand.tmp 9), type := 0, pos := "net.go:54", after := #[{ on := 0, ground := Ground.data }, { on := 0, ground := Ground.phase }, { on := 1, ground := Ground.phase }, { on := 2, ground := Ground.phase }, { on := 3, ground := Ground.phase }, { on := 4, ground := Ground.phase }, { on := 5, ground := Ground.phase }, { on := 6, ground := Ground.phase }, { on := 7, ground := Ground.phase }, { on := 8, ground := Ground.phase }, { on := 9, ground := Ground.phase }, { on := 10, ground := Ground.phase }, { on := 11, ground := Ground.phase }, { on := 12, ground := Ground.phase }, { on := 13, ground := Ground.phase }, { on := 14, ground := Ground.phase }, { on := 15, ground := Ground.phase }], guard := none }) (v := ?_) rfl (by kernel_rfl) (by kernel_rfl) (by kernel_rfl) (fun _ _ _ h => h) (Or.inl ⟨by rfl, ?_⟩) hHeld ?_
        rotate_left
        · intro w' hSw
          obtain ⟨hs1, hs2⟩ := hSw
          go_simp
          with_reducible rfl
        try simp only [Act.put, List.setIfInBounds_toArray, List.set_cons_zero, List.set_cons_succ]
        refine wpAnyH_take (i := 17) (oi := { dst := some 26, op := Op.fieldAddr 80 (Operand.tmp 25) 0, type := 0, pos := "net.go:54", after := #[{ on := 16, ground := Ground.data }, { on := 0, ground := Ground.phase }, { on := 1, ground := Ground.phase }, { on := 2, ground := Ground.phase }, { on := 3, ground := Ground.phase }, { on := 4, ground := Ground.phase }, { on := 5, ground := Ground.phase }, { on := 6, ground := Ground.phase }, { on := 7, ground := Ground.phase }, { on := 8, ground := Ground.phase }, { on := 9, ground := Ground.phase }, { on := 10, ground := Ground.phase }, { on := 11, ground := Ground.phase }, { on := 12, ground := Ground.phase }, { on := 13, ground := Ground.phase }, { on := 14, ground := Ground.phase }, { on := 15, ground := Ground.phase }], guard := none }) (v := ?_) rfl (by kernel_rfl) (by kernel_rfl) (by kernel_rfl) (fun _ _ _ h => h) (Or.inl ⟨by rfl, ?_⟩) hHeld ?_
        rotate_left
        · intro w' hSw
          obtain ⟨hs1, hs2⟩ := hSw
          go_simp
          with_reducible rfl
        try simp only [Act.put, List.setIfInBounds_toArray, List.set_cons_zero, List.set_cons_succ]
        refine wpAnyH_ready (rs := [18]) (by kernel_rfl) (by simp) ?_
        refine AllReadyH.cons (o := { dst := none, op := Op.store 55 (Operand.tmp 26) (Operand.tmp 24), type := 0, pos := "net.go:54", after := #[{ on := 17, ground := Ground.data }, { on := 15, ground := Ground.data }, { on := 15, ground := Ground.chain }, { on := 0, ground := Ground.phase }, { on := 1, ground := Ground.phase }, { on := 2, ground := Ground.phase }, { on := 3, ground := Ground.phase }, { on := 4, ground := Ground.phase }, { on := 5, ground := Ground.phase }, { on := 6, ground := Ground.phase }, { on := 7, ground := Ground.phase }, { on := 8, ground := Ground.phase }, { on := 9, ground := Ground.phase }, { on := 10, ground := Ground.phase }, { on := 11, ground := Ground.phase }, { on := 12, ground := Ground.phase }, { on := 13, ground := Ground.phase }, { on := 14, ground := Ground.phase }, { on := 15, ground := Ground.phase }], guard := none }) rfl ?_ (AllReadyH.nil)
        · intro K hK
          go_simp
          refine hK.out _ _ ⟨p6, q6⟩ (fun hHeld => ?_)
          clear hK K
          try simp only [Act.put, List.setIfInBounds_toArray, List.set_cons_zero, List.set_cons_succ]
          refine wpAnyH_done (by kernel_rfl) ?_ _
          clear S5 f0 z0 p5 q5 p6 q6 p0 q0 g0
          generalize w5.setCell ⟨g, 0, none⟩ (.slice a5 (j + 0) c5) = w6 at S6 ⊢
          go_wp2_with fail
          go_ret
          refine ⟨rfl, .slice a5 (j + 0) c5, ?_⟩
          rw [← He.out, HD.out]
          exact S6
  · intro K hK
    go_simp
    refine hK.out _ _ ⟨p0, q0⟩ (fun hHeld => ?_)
    clear hK K
    try simp only [Act.put, List.setIfInBounds_toArray, List.set_cons_zero, List.set_cons_succ]
    refine wpAnyH_take (i := 14) (oi := { dst := some 23, op := Op.slice 55 (Operand.tmp 20) (some (Operand.tmp 22)) none none, type := 55, pos := "net.go:54", after := #[{ on := 11, ground := Ground.data }, { on := 13, ground := Ground.data }], guard := none }) (v := ?_) rfl (by kernel_rfl) (by kernel_rfl) (by kernel_rfl) (fun _ _ _ h => h) (Or.inl ⟨by rfl, ?_⟩) hHeld ?_
    rotate_left
    · intro w' hSw
      obtain ⟨hs1, hs2⟩ := hSw
      go_simp
      with_reducible rfl
    try simp only [Act.put, List.setIfInBounds_toArray, List.set_cons_zero, List.set_cons_succ]
    refine wpAnyH_ready (rs := [4]) (by kernel_rfl) (by simp) ?_
    refine AllReadyH.cons (o := { dst := some 13, op := Op.load 55 (Operand.tmp 12), type := 55, pos := "net.go:54", after := #[{ on := 3, ground := Ground.data }], guard := none }) rfl ?_ (AllReadyH.nil)
    · intro K hK
      go_simp
      refine hK.out _ _ ⟨p0, q0⟩ (fun hHeld => ?_)
      clear hK K
      try simp only [Act.put, List.setIfInBounds_toArray, List.set_cons_zero, List.set_cons_succ]
      refine wpAnyH_take (i := 7) (oi := { dst := some 16, op := Op.slice 55 (Operand.tmp 13) none (some (Operand.tmp 14)) (some (Operand.tmp 15)), type := 55, pos := "net.go:54", after := #[{ on := 4, ground := Ground.data }, { on := 5, ground := Ground.data }, { on := 6, ground := Ground.data }], guard := none }) (v := ?_) rfl (by kernel_rfl) (by kernel_rfl) (by kernel_rfl) (fun _ _ _ h => h) (Or.inl ⟨by rfl, ?_⟩) hHeld ?_
      rotate_left
      · intro w' hSw
        obtain ⟨hs1, hs2⟩ := hSw
        go_simp
        with_reducible rfl
      try simp only [Act.put, List.setIfInBounds_toArray, List.set_cons_zero, List.set_cons_succ]
      refine wpAnyH_ready (rs := [15]) (by kernel_rfl) (by simp) ?_
      refine AllReadyH.cons (o := { dst := some 24, op := Op.call { callee := Callee.builtin Builtin.append, args := #[Operand.tmp 16, Operand.tmp 23], argTypes := #[55, 55] }, type := 55, pos := "net.go:54", after := #[{ on := 7, ground := Ground.data }, { on := 14, ground := Ground.data }], guard := none }) rfl ?_ (AllReadyH.nil)
      · intro K hK
        refine step_append_x (P := Try.prog) rfl (.tmp 16) (.tmp 23) 55 rfl 48 i48 _ 3 40 Try.underlying55 Hi.out Hz0.out Hz1.out Hz2.out rfl (Nat.succ_pos 2) (.slice (some ⟨b, 0, none⟩) j j) j ((entC es).take (j * 3)) rfl OX.out (b + 1) _ 0 0 [] rfl RX.out HO.out Hm1.out Hm2.out ?_
        intro v5 w5 hown5 hg5 hat5
        obtain ⟨a5, c5, rfl, -, -⟩ := hown5.slice
        have S5 := HSc.out.pushedX 4 rfl hown5 hg5 hat5
        have S6 := S5.put 3 rfl 0 (.slice a5 (j + 0) c5)
        have f0 := (S5.blk 3 rfl).at_ 0 rfl
        have z0 := (S5.blk 3 rfl).frozen 0
        have p5 : w5.cell? ⟨p, 0, none⟩ = some (.pointer (some ⟨g, 0, none⟩)) := (S5.blk 1 rfl).at_ 0 rfl
        have q5 : w5.cell? ⟨q, 0, none⟩ = some (.int .i64 (j : Int)) := (S5.blk 2 rfl).at_ 0 rfl
        have p6 : (w5.setCell ⟨g, 0, none⟩ (.slice a5 (j + 0) c5)).cell? ⟨p, 0, none⟩ = some (.pointer (some ⟨g, 0, none⟩)) := (S6.blk 1 rfl).at_ 0 rfl
        have q6 : (w5.setCell ⟨g, 0, none⟩ (.slice a5 (j + 0) c5)).cell? ⟨q, 0, none⟩ = some (.int .i64 (j : Int)) := (S6.blk 2 rfl).at_ 0 rfl
        clear hown5 hg5 hat5
        refine hK.out _ _ ⟨p5, q5⟩ (fun hHeld => ?_)
        clear hK K
        try simp only [Act.put, List.setIfInBounds_toArray, List.set_cons_zero, List.set_cons_succ]
        refine wpAnyH_take (i := 16) (oi := { dst := some 25, op := Op.nilCheck (Operand.tmp 9), type := 0, pos := "net.go:54", after := #[{ on := 0, ground := Ground.data }, { on := 0, ground := Ground.phase }, { on := 1, ground := Ground.phase }, { on := 2, ground := Ground.phase }, { on := 3, ground := Ground.phase }, { on := 4, ground := Ground.phase }, { on := 5, ground := Ground.phase }, { on := 6, ground := Ground.phase }, { on := 7, ground := Ground.phase }, { on := 8, ground := Ground.phase }, { on := 9, ground := Ground.phase }, { on := 10, ground := Ground.phase }, { on := 11, ground := Ground.phase }, { on := 12, ground := Ground.phase }, { on := 13, ground := Ground.phase }, { on := 14, ground := Ground.phase }, { on := 15, ground := Ground.phase }], guard := none }) (v := ?_) rfl (by kernel_rfl) (by kernel_rfl) (by kernel_rfl) (fun _ _ _ h => h) (Or.inl ⟨by rfl, ?_⟩) hHeld ?_
        rotate_left
        · intro w' hSw
          obtain ⟨hs1, hs2⟩ := hSw
          go_simp
          with_reducible rfl
        try simp only [Act.put, List.setIfInBounds_toArray, List.set_cons_zero, List.set_cons_succ]
        refine wpAnyH_take (i := 17) (oi := { dst := some 26, op := Op.fieldAddr 80 (Operand.tmp 25) 0, type := 0, pos := "net.go:54", after := #[{ on := 16, ground := Ground.data }, { on := 0, ground := Ground.phase }, { on := 1, ground := Ground.phase }, { on := 2, ground := Ground.phase }, { on := 3, ground := Ground.phase }, { on := 4, ground := Ground.phase }, { on := 5, ground := Ground.phase }, { on := 6, ground := Ground.phase }, { on := 7, ground := Ground.phase }, { on := 8, ground := Ground.phase }, { on := 9, ground := Ground.phase }, { on := 10, ground := Ground.phase }, { on := 11, ground := Ground.phase }, { on := 12, ground := Ground.phase }, { on := 13, ground := Ground.phase }, { on := 14, ground := Ground.phase }, { on := 15, ground := Ground.phase }], guard := none }) (v := ?_) rfl (by kernel_rfl) (by kernel_rfl) (by kernel_rfl) (fun _ _ _ h => h) (Or.inl ⟨by rfl, ?_⟩) hHeld ?_
        rotate_left
        · intro w' hSw
          obtain ⟨hs1, hs2⟩ := hSw
          go_simp
          with_reducible rfl
        try simp only [Act.put, List.setIfInBounds_toArray, List.set_cons_zero, List.set_cons_succ]
        refine wpAnyH_ready (rs := [18]) (by kernel_rfl) (by simp) ?_
        refine AllReadyH.cons (o := { dst := none, op := Op.store 55 (Operand.tmp 26) (Operand.tmp 24), type := 0, pos := "net.go:54", after := #[{ on := 17, ground := Ground.data }, { on := 15, ground := Ground.data }, { on := 15, ground := Ground.chain }, { on := 0, ground := Ground.phase }, { on := 1, ground := Ground.phase }, { on := 2, ground := Ground.phase }, { on := 3, ground := Ground.phase }, { on := 4, ground := Ground.phase }, { on := 5, ground := Ground.phase }, { on := 6, ground := Ground.phase }, { on := 7, ground := Ground.phase }, { on := 8, ground := Ground.phase }, { on := 9, ground := Ground.phase }, { on := 10, ground := Ground.phase }, { on := 11, ground := Ground.phase }, { on := 12, ground := Ground.phase }, { on := 13, ground := Ground.phase }, { on := 14, ground := Ground.phase }, { on := 15, ground := Ground.phase }], guard := none }) rfl ?_ (AllReadyH.nil)
        · intro K hK
          go_simp
          refine hK.out _ _ ⟨p6, q6⟩ (fun hHeld => ?_)
          clear hK K
          try simp only [Act.put, List.setIfInBounds_toArray, List.set_cons_zero, List.set_cons_succ]
          refine wpAnyH_done (by kernel_rfl) ?_ _
          clear S5 f0 z0 p5 q5 p6 q6 p0 q0 g0
          generalize w5.setCell ⟨g, 0, none⟩ (.slice a5 (j + 0) c5) = w6 at S6 ⊢
          go_wp2_with fail
          go_ret
          refine ⟨rfl, .slice a5 (j + 0) c5, ?_⟩
          rw [← He.out, HD.out]
          exact S6
end
end Go.Proofs.Ytmacmhlimdaemaa.Net
namespace Go.Proofs.Ytmacmhlimdaemaa.Net
open Go.RowKit Go.Proofs.YtmacmhlimdaemaaW.PrintWords Go.Proofs.Ytmacmhlimdaemaa.R Go.Proofs.Ytmacmhlimdaemaa.Pkt
section
variable {w0 w w' : World} {L M : List Asn}
theorem take1_any (g o p q b m cc j : Nat) (Z : Array Value) (hZ : Z.size = 3) (k : Int) (es : List Ent) (hm : es.length = m) (hj : j < m) (hm2 : m ≤ 1000) (f : Fl) (au : Option Addr) (nu cu : Nat) (he : es[j]? = some (.slice au nu cu, f))
    (S : Sep w0 w (cell o 48 Z :: cell p 45 #[.pointer (some ⟨g, 0, none⟩)] :: cell q 3 #[.int .i64 (j : Int)] :: cell g 80 #[.slice (some ⟨b, 0, none⟩) m cc, .int .i64 k] :: rowX 48 3 (.slice (some ⟨b, 0, none⟩) m cc) m (entC es) :: (es.map rowE ++ M))) :
    Calls Try.prog 55 #[.pointer (some ⟨b, j * 3, none⟩), .pointer (some ⟨o, 0, none⟩), .pointer (some ⟨p, 0, none⟩), .pointer (some ⟨q, 0, none⟩)] w fun en w' => en = .returned (.int .i64 0) ∧ ∃ v', Sep w0 w' (cell o 48 #[.int .i64 f.c, .bool f.d, .slice au nu cu] :: cell p 45 #[.pointer (some ⟨g, 0, none⟩)] :: cell q 3 #[.int .i64 (j : Int)] :: cell g 80 #[v', .int .i64 k] :: rowX 48 3 v' (m - 1) (entC (es.eraseIdx j)) :: (es.map rowE ++ M)) := by
  by_cases ho : cc = j + 1
  · obtain ⟨_, _, hv, hcap, -⟩ := (S.ownX 4 rfl).slice
    injection hv with hv1 hv2 hv3
    obtain rfl : m = j + 1 := by omega
    subst ho
    exact take1e g o p q b j Z hZ k es hm hm2 f au nu cu he S
  · exact take1 g o p q b m cc j Z hZ k es hm hj hm2 f au nu cu he ho S
theorem with_take (g o p q b m cc j : Nat) (Z : Array Value) (hZ : Z.size = 3) (k : Int) (es : List Ent) (hm : es.length = m) (hj : j < m) (hm2 : m ≤ 1000) (f : Fl) (au : Option Addr) (nu cu : Nat) (he : es[j]? = some (.slice au nu cu, f))
    (S : Sep w0 w (cell o 48 Z :: cell p 45 #[.pointer (some ⟨g, 0, none⟩)] :: cell q 3 #[.int .i64 (j : Int)] :: cell g 80 #[.slice (some ⟨b, 0, none⟩) m cc, .int .i64 k] :: rowX 48 3 (.slice (some ⟨b, 0, none⟩) m cc) m (entC es) :: (es.map rowE ++ M))) :
    Calls Try.prog 54 #[.pointer (some ⟨g, 0, none⟩), .int .i64 (j : Int), .func (.func 55) #[] #[.pointer (some ⟨o, 0, none⟩), .pointer (some ⟨p, 0, none⟩), .pointer (some ⟨q, 0, none⟩)]] w fun en w' => en = .returned (.int .i64 0) ∧ ∃ v', Sep w0 w' (cell o 48 #[.int .i64 f.c, .bool f.d, .slice au nu cu] :: cell p 45 #[.pointer (some ⟨g, 0, none⟩)] :: cell q 3 #[.int .i64 (j : Int)] :: cell g 80 #[v', .int .i64 k] :: rowX 48 3 v' (m - 1) (entC (es.eraseIdx j)) :: (es.map rowE ++ M)) := by
  have g0 := (S.blk 3 rfl).at_ 0 rfl
  have i0 : (0 : Int) ≤ (j : Int) := by omega
  have i1 : (j : Int) < (m : Int) := by omega
  have d0 : decide ((j : Int) < 0) = false := decide_eq_false (by omega)
  have d1 : decide ((m : Int) ≤ (j : Int)) = false := decide_eq_false (by omega)
  have HS := Lib.hid (take1_any g o p q b m cc j Z hZ k es hm hj hm2 f au nu cu he S)
  clear S he hm
  go_enter Try.func54, Try.ntmps54
  go_wp2_with fail
  refine HS.out.mono ?_
  rintro en w1 ⟨rfl, v', h⟩
  go_wp2_with fail
  go_ret
  exact ⟨rfl, v', h⟩
end
end Go.Proofs.Ytmacmhlimdaemaa.Net
namespace Go.Proofs.Ytmacmhlimdaemaa.Net
open Go.RowKit Go.Proofs.YtmacmhlimdaemaaW.PrintWords Go.Proofs.Ytmacmhlimdaemaa.R Go.Proofs.Ytmacmhlimdaemaa.Pkt
section
variable {w0 w w' : World} {L M : List Asn}
theorem mid5 (r a b c d e : Asn) (E M : List Asn) : (r :: a :: b :: c :: d :: e :: (E ++ M)).Perm (a :: b :: c :: d :: e :: (E ++ (r :: M))) := (List.perm_middle (l₁ := a :: b :: c :: d :: e :: E)).symm
theorem map_erase {α β : Type} (f : α → β) : ∀ (l : List α) (j : Nat), (l.eraseIdx j).map f = (l.map f).eraseIdx j
  | [], _ => rfl
  | _ :: _, 0 => rfl
  | a :: l, j + 1 => by rw [List.eraseIdx_cons_succ, List.map_cons, List.map_cons, List.eraseIdx_cons_succ, map_erase f l j]
theorem es_out (es : List Ent) (j : Nat) (u : Value) (f : Fl) (he : es[j]? = some (u, f)) : (es.map rowE).Perm (BRow u f.b :: (es.eraseIdx j).map rowE) := by
  have h : (es.map rowE)[j]? = some (BRow u f.b) := by rw [List.getElem?_map, he]; rfl
  have := (perm_pick h).symm
  rwa [← map_erase] at this
theorem take_end {g o p q r j m : Nat} {v' : Value} {C : Array Value} {R : Array Value} {k : Int} {es : List Ent} {fs : List Fl} {u : Value} {f : Fl} (hm : es.length = m) (hes : es.map (·.2) = fs) (he : es[j]? = some (u, f))
    (S : Sep w0 w (cell o 48 C :: cell p 45 #[.pointer (some ⟨g, 0, none⟩)] :: cell q 3 #[.int .i64 (j : Int)] :: cell g 80 #[v', .int .i64 k] :: rowX 48 3 v' (m - 1) (entC (es.eraseIdx j)) :: (es.map rowE ++ (cell r 48 R :: M)))) : Sep w0 w (BRow u f.b :: NetAt g (fs.eraseIdx j) k :: M) := by
  have hj : j < es.length := (List.getElem?_eq_some_iff.1 he).1
  have S1 : Sep w0 w (cell g 80 #[v', .int .i64 k] :: rowX 48 3 v' (m - 1) (entC (es.eraseIdx j)) :: (es.map rowE ++ (cell r 48 R :: M))) := S.tail.tail.tail
  have hl : (es.eraseIdx j).length = m - 1 := by rw [List.length_eraseIdx_of_lt hj, hm]
  rw [← hl] at S1
  have S2 : Sep w0 w (cell g 80 #[v', .int .i64 k] :: rowX 48 3 v' (es.eraseIdx j).length (entC (es.eraseIdx j)) :: ((es.eraseIdx j).map rowE ++ (BRow u f.b :: cell r 48 R :: M))) := by
    refine S1.perm (.cons _ (.cons _ ?_))
    exact ((es_out es j u f he).append_right _).trans List.perm_middle.symm
  have S3 : Sep w0 w (NetAt g (fs.eraseIdx j) k :: (BRow u f.b :: cell r 48 R :: M)) := Sep.closeNet (by rw [map_erase, hes]) S2
  exact (S3.perm (.swap _ _ _)).perm (.cons _ (.cons _ (.refl _))) |>.drop 2
theorem ret33 (tmps : Array Value) (r : Nat) (cs : Array Value) (hc : cs.size = 3) (hp : tmps.getD 4 undef = .pointer (some ⟨r, 0, none⟩)) (D : Blk w r 48 cs) : (results Try.f33 tmps).run Try.prog w = .ok (.tuple #[.agg cs, tmps.getD 5 undef]) w := by
  have hi : (Try.prog.info? 48).map (·.size) = some cs.size := by rw [hc]; exact size48
  rw [results_cell_tmp rfl, hp]
  simp only [asAddr, Sem.run_pure, Result.andThen_ok, run_loadVar_row w r 48 48 cs (0, 0) _ D Try.underlying48 rfl hi]
theorem take_in (g : Nat) (fs : List Fl) (k : Int) (j : Nat) (f : Fl) (hj : fs[j]? = some f) (hm2 : fs.length ≤ 1000) (hS : Sep w0 w (NetAt g fs k :: M)) :
    Calls Try.prog 33 #[.pointer (some ⟨g, 0, none⟩), .int .i64 (j : Int)] w fun en w' => ∃ v, en = .returned (.tuple #[.agg #[.int .i64 f.c, .bool f.d, v], .int .i64 0]) ∧ Sep w0 w' (BRow v f.b :: NetAt g (fs.eraseIdx j) k :: M) := by
  obtain ⟨v, es, hes, S⟩ := hS.openNet
  have hl : es.length = fs.length := by rw [← hes, List.length_map]
  have hjf : j < fs.length := (List.getElem?_eq_some_iff.1 hj).1
  have hjl : j < es.length := by omega
  obtain ⟨au, nu, cu, hu⟩ := ent_slice S j hjl
  have he : es[j]? = some (.slice au nu cu, f) := by
    rw [List.getElem?_eq_getElem hjl, ← hu]
    have h2 : (es.map (·.2))[j]? = some f := by rw [hes]; exact hj
    rw [List.getElem?_map, List.getElem?_eq_getElem hjl] at h2
    have h3 : es[j].2 = f := Option.some.inj h2
    rw [← h3]
  obtain ⟨b, cc, hv, -, -⟩ := (S.ownX 1 rfl).form (by omega)
  obtain ⟨m, hm⟩ : ∃ m, es.length = m := ⟨_, rfl⟩
  rw [hm] at S hv hjl
  subst hv
  obtain ⟨W1, hW1, S1⟩ := S.boxedF 45 #[.pointer (some ⟨g, 0, none⟩)]
  obtain ⟨W2, hW2, S2⟩ := S1.boxedF 3 #[.int .i64 (j : Int)]
  obtain ⟨W3, hW3, S3⟩ := S2.boxedF 48 #[.int .i64 0, .bool false, .slice none 0 0]
  obtain ⟨W4, hW4, S4⟩ := S3.boxedF 48 #[.int .i64 0, .bool false, .slice none 0 0]
  have p0 := (S4.blk 3 rfl).at_ 0 rfl
  have q0 := (S4.blk 2 rfl).at_ 0 rfl
  have S5 := (((S4.pick 1 rfl).perm (mid5 _ _ _ _ _ _ _ _)).pick 2 rfl).pick 1 rfl
  have HW := Lib.hid (with_take g W3.heap.size w.heap.size W1.heap.size b m cc j #[.int .i64 0, .bool false, .slice none 0 0] rfl k es hm hjl (by omega) f au nu cu he S5)
  have Hm := Lib.hid hm
  have Hes := Lib.hid hes
  have He := Lib.hid he
  clear S S1 S2 S3 S4 S5 hm hes he hj hS hu hl
  go_enter Try.func33, Try.ntmps33
  go_wp2_with fail
  refine HW.out.mono ?_
  rintro en w5 ⟨rfl, v', S6⟩
  have o0 := (S6.blk 0 rfl).at_ 0 rfl
  have o1 := (S6.blk 0 rfl).at_ 1 rfl
  have o2 := (S6.blk 0 rfl).at_ 2 rfl
  have S7 := S6.perm (mid5 _ _ _ _ _ _ _ _).symm
  have HB := Lib.hid (S7.blk 0 rfl)
  have S8 := S7.setRow 0 rfl #[.int .i64 f.c, .bool f.d, .slice au nu cu]
  obtain ⟨W9, hW9⟩ : ∃ W9, w5.setRow W2.heap.size #[.int .i64 f.c, .bool f.d, .slice au nu cu] = W9 := ⟨_, rfl⟩
  rw [hW9] at S8
  have D := Lib.hid (S8.blk 0 rfl)
  have S9 := Lib.hid (take_end Hm.out Hes.out He.out (S8.perm (mid5 _ _ _ _ _ _ _ _)))
  clear S6 S7 S8
  go_wp2_with (
    refine wpList_store_row rfl 48 (.tmp 4) (.tmp 12) rfl W2.heap.size #[.int .i64 f.c, .bool f.d, .slice au nu cu] rfl rfl 48 _ HB.out size48 rfl (fl_one _ _ _ _ _) ?_
    rw [hW9])
  exact bodyPost_ret (ret33 _ W2.heap.size _ rfl rfl D.out) rfl ⟨_, rfl, S9.out⟩
theorem with_out (g : Nat) (a : Option Addr) (m cc : Nat) (j : Int) (hj : j < 0 ∨ (m : Int) ≤ j) (fn : Value) (g0 : w.cell? ⟨g, 0, none⟩ = some (.slice a m cc)) :
    Calls Try.prog 54 #[.pointer (some ⟨g, 0, none⟩), .int .i64 j, fn] w fun en w' => en = .returned (.int .i64 5) ∧ w = w' := by
  by_cases h0 : j < 0
  · have d0 : decide (j < 0) = true := decide_eq_true h0
    go_enter Try.func54, Try.ntmps54
    go_wp2_with fail
    go_ret
    exact ⟨rfl, rfl⟩
  · have h1 : (m : Int) ≤ j := by omega
    have d0 : decide (j < 0) = false := decide_eq_false h0
    have d1 : decide ((m : Int) ≤ j) = true := decide_eq_true h1
    clear hj
    go_enter Try.func54, Try.ntmps54
    go_wp2_with fail
    go_ret
    exact ⟨rfl, rfl⟩
theorem take_out (g : Nat) (fs : List Fl) (k : Int) (j : Int) (hj : j < 0 ∨ (fs.length : Int) ≤ j) (hS : Sep w0 w (NetAt g fs k :: M)) :
    Calls Try.prog 33 #[.pointer (some ⟨g, 0, none⟩), .int .i64 j] w fun en w' => en = .returned (.tuple #[.agg #[.int .i64 0, .bool false, .slice none 0 0], .int .i64 5]) ∧ Sep w0 w' (NetAt g fs k :: M) := by
  obtain ⟨v, es, hes, S⟩ := hS.openNet
  have hl : es.length = fs.length := by rw [← hes, List.length_map]
  obtain ⟨a, cc, hv, -, -⟩ := (S.ownX 1 rfl).slice
  obtain ⟨W1, hW1, S1⟩ := hS.boxedF 45 #[.pointer (some ⟨g, 0, none⟩)]
  obtain ⟨W2, hW2, S2⟩ := S1.boxedF 3 #[.int .i64 j]
  obtain ⟨W3, hW3, S3⟩ := S2.boxedF 48 #[.int .i64 0, .bool false, .slice none 0 0]
  obtain ⟨W4, hW4, S4⟩ := S3.boxedF 48 #[.int .i64 0, .bool false, .slice none 0 0]
  obtain ⟨v4, es4, hes4, T⟩ := (S4.pick 4 rfl).openNet
  have hl4 : es4.length = fs.length := by rw [← hes4, List.length_map]
  obtain ⟨a4, cc4, hv4, -, -⟩ := (T.ownX 1 rfl).slice
  have g0 : W4.cell? ⟨g, 0, none⟩ = some (.slice a4 fs.length cc4) := by
    have h := (T.blk 0 rfl).at_ 0 rfl
    rw [hv4, hl4] at h
    exact h
  have HW := Lib.hid (with_out g a4 fs.length cc4 j hj (.func (.func 55) #[] #[.pointer (some ⟨W3.heap.size, 0, none⟩), .pointer (some ⟨w.heap.size, 0, none⟩), .pointer (some ⟨W1.heap.size, 0, none⟩)]) g0)
  have p0 := (S4.blk 3 rfl).at_ 0 rfl
  have q0 := (S4.blk 2 rfl).at_ 0 rfl
  have o0 := (S4.blk 0 rfl).at_ 0 rfl
  have o1 := (S4.blk 0 rfl).at_ 1 rfl
  have o2 := (S4.blk 0 rfl).at_ 2 rfl
  have HB := Lib.hid (S4.blk 1 rfl)
  have S8 := S4.setRow 1 rfl #[.int .i64 0, .bool false, .slice none 0 0]
  obtain ⟨W9, hW9⟩ : ∃ W9, W4.setRow W2.heap.size #[.int .i64 0, .bool false, .slice none 0 0] = W9 := ⟨_, rfl⟩
  rw [hW9] at S8
  have D := Lib.hid (S8.blk 1 rfl)
  have S9 := Lib.hid (S8.drop 0 |>.drop 0 |>.drop 0 |>.drop 0)
  clear S S1 S2 S3 S4 S8 T hes hl hv hes4 hl4 hv4 g0 hj hS
  go_enter Try.func33, Try.ntmps33
  go_wp2_with fail
  refine HW.out.mono ?_
  rintro en w5 ⟨rfl, rfl⟩
  go_wp2_with (
    refine wpList_store_row rfl 48 (.tmp 4) (.tmp 12) rfl W2.heap.size #[.int .i64 0, .bool false, .slice none 0 0] rfl rfl 48 _ HB.out size48 rfl (fl_one _ _ _ _ _) ?_
    rw [hW9])
  exact bodyPost_ret (ret33 _ W2.heap.size _ rfl rfl D.out) rfl ⟨rfl, S9.out⟩
theorem _root_.Go.Proofs.Ytmacmhlimdaemaa.Sep.back_under {A B C : Asn} {i : Nat} (h : Sep w0 w (B :: C :: L.eraseIdx i)) (hi : L[i]? = some A) : Sep w0 w (C :: L.set i B) := by
  obtain ⟨hl, _⟩ := List.getElem?_eq_some_iff.1 hi
  have h1 : (L.set i B)[i]? = some B := List.getElem?_set_self hl
  have h2 := perm_pick h1
  rw [List.eraseIdx_set_eq] at h2
  exact h.swap.perm (.cons _ h2)
def zeroF : Fl := ⟨0, false, []⟩
def inF (fs : List Fl) (j : Int) : Bool := decide (0 ≤ j ∧ j < (fs.length : Int))
def takeF (fs : List Fl) (j : Int) : Fl := if inF fs j = true then fs.getD j.toNat zeroF else zeroF
def takeE (fs : List Fl) (j : Int) : Int := if inF fs j = true then 0 else 5
def takeS (fs : List Fl) (j : Int) : List Fl := if inF fs j = true then fs.eraseIdx j.toNat else fs
/-- Take, whatever there is -/
theorem take_any {g : Nat} {fs : List Fl} {k : Int} (j : Int) (hm2 : fs.length ≤ 1000) (i : Nat) (hi : L[i]? = some (NetAt g fs k)) (hS : Sep w0 w L) :
    Calls Try.prog 33 #[.pointer (some ⟨g, 0, none⟩), .int .i64 j] w fun en w' => ∃ v, en = .returned (.tuple #[.agg #[.int .i64 (takeF fs j).c, .bool (takeF fs j).d, v], .int .i64 (takeE fs j)]) ∧ Sep w0 w' (BRow v (takeF fs j).b :: L.set i (NetAt g (takeS fs j) k)) := by
  unfold takeF takeE takeS
  by_cases h : inF fs j = true
  · rw [if_pos h, if_pos h, if_pos h]
    have h2 := of_decide_eq_true h
    obtain ⟨n, rfl⟩ : ∃ n : Nat, j = n := ⟨j.toNat, by omega⟩
    have hn : n < fs.length := by omega
    rw [Int.toNat_natCast]
    have hg : fs[n]? = some (fs.getD n zeroF) := by rw [List.getD_eq_getElem?_getD, List.getElem?_eq_getElem hn, Option.getD_some]
    exact (take_in g fs k n _ hg hm2 (hS.pick i hi)).mono fun en w' ⟨v, he, h⟩ => ⟨v, he, (h.swap.back_under hi)⟩
  · rw [if_neg h, if_neg h, if_neg h]
    have h2 : ¬ (0 ≤ j ∧ j < (fs.length : Int)) := fun e => h (decide_eq_true e)
    exact (take_out g fs k j (by omega) (hS.pick i hi)).mono fun en w' ⟨he, h⟩ => ⟨.slice none 0 0, he, (h.back hi).nilRowF 5 1⟩
end
end Go.Proofs.Ytmacmhlimdaemaa.Net
namespace Go.Proofs.Ytmacmhlimdaemaa.Net
open Go.RowKit Go.Proofs.YtmacmhlimdaemaaW.PrintWords Go.Proofs.Ytmacmhlimdaemaa.R Go.Proofs.Ytmacmhlimdaemaa.Pkt
section
variable {w0 w w' : World} {L M : List Asn}
theorem lose_any {g : Nat} {fs : List Fl} {k : Int} (j : Int) (hm2 : fs.length ≤ 1000) (i : Nat) (hi : L[i]? = some (NetAt g fs k)) (hS : Sep w0 w L) :
    Calls Try.prog 34 #[.pointer (some ⟨g, 0, none⟩), .int .i64 j] w fun en w' => en = .returned (.int .i64 (takeE fs j)) ∧ Sep w0 w' (L.set i (NetAt g (takeS fs j) k)) := by
  have HT := Lib.hid (take_any j hm2 i hi hS)
  generalize takeF fs j = f at HT
  generalize takeE fs j = e at HT ⊢
  generalize takeS fs j = s at HT ⊢
  clear hS hi
  go_enter Try.func34, Try.ntmps34
  go_wp2_with fail
  refine HT.out.mono ?_
  rintro en w1 ⟨v, rfl, S1⟩
  obtain ⟨a, c, rfl, -, -⟩ := own_slice (own_bytes (i := 0) S1 rfl)
  generalize f.b.length = n at S1 ⊢
  obtain ⟨W2, hW2, S2⟩ := S1.boxedF 48 #[.int .i64 f.c, .bool f.d, .slice a n c]
  clear S1
  go_wp2_with (
    refine wpList_store_row rfl 48 (.tmp 5) (.tmp 11) rfl w1.heap.size #[.int .i64 f.c, .bool f.d, .slice a n c] rfl rfl 48 _ (Blk.new _ _ _) size48 rfl (fl_one _ _ _ _ _) ?_
    rw [World.setRow_alloc_new, hW2]
    clear hW2)
  go_ret
  exact ⟨rfl, S2.tail.tail⟩
end
end Go.Proofs.Ytmacmhlimdaemaa.Net
namespace Go.Proofs.Ytmacmhlimdaemaa.Net
open Go.RowKit Go.Proofs.YtmacmhlimdaemaaW.PrintWords Go.Proofs.Ytmacmhlimdaemaa.R Go.Proofs.Ytmacmhlimdaemaa.Pkt
section
variable {w0 w w' : World} {L M : List Asn}
/-- Double's inner function -/
theorem dbl1 {g : Nat} {fs : List Fl} {k : Int} (p b o : Nat) (f : Fl) (A : Option Addr) (n c : Nat) (f0 : w.cell? ⟨b, o, none⟩ = some (.int .i64 f.c)) (f1 : w.cell? ⟨b, o + 1, none⟩ = some (.bool f.d)) (f2 : w.cell? ⟨b, o + 2, none⟩ = some (.slice A n c)) (p0 : w.cell? ⟨p, 0, none⟩ = some (.pointer (some ⟨g, 0, none⟩)))
    (hn : f.b.length = n) (hl : n ≤ 140737488351232) (hC : Kd.C (Kd.int .u8) w A n f.b) (hc : n ≤ c) (i : Nat) (hi : L[i]? = some (NetAt g fs k)) (hS : Sep w0 w L) :
    Calls Try.prog 56 #[.pointer (some ⟨b, o, none⟩), .pointer (some ⟨p, 0, none⟩)] w fun en w' => en = .returned (.int .i64 (sendE fs)) ∧ Sep w0 w' (L.set i (NetAt g (sendS fs f) k)) := by
  have HS := Lib.hid (send_any f A n c hn hl (Kd.C_below hC (Below.refl w.heap.size w).drew) hc i hi hS.drew)
  clear hn hl hC hc hi hS
  generalize sendE fs = e at HS ⊢
  generalize sendS fs f = s at HS ⊢
  go_enter Try.func56, Try.ntmps56
  go_upto_region 1 with (fail)
  go_region_law (first | (go_simp; go_at_call 32; refine HS.out.mono ?_; rintro en w1 ⟨rfl, S1⟩))
  all_goals
    go_wp2_with fail
    go_ret
    exact ⟨rfl, S1⟩
theorem with_dbl {g : Nat} {fs : List Fl} {k : Int} (p j : Nat) (f : Fl) (hj : fs[j]? = some f) (hm2 : fs.length ≤ 1000) (hl : f.b.length ≤ 140737488351232) (p0 : w.cell? ⟨p, 0, none⟩ = some (.pointer (some ⟨g, 0, none⟩))) (i : Nat) (hi : L[i]? = some (NetAt g fs k)) (hS : Sep w0 w L) :
    Calls Try.prog 54 #[.pointer (some ⟨g, 0, none⟩), .int .i64 (j : Int), .func (.func 56) #[] #[.pointer (some ⟨p, 0, none⟩)]] w fun en w' => en = .returned (.int .i64 (sendE fs)) ∧ Sep w0 w' (L.set i (NetAt g (sendS fs f) k)) := by
  obtain ⟨v, es, hes, S⟩ := (hS.pick i hi).openNet
  have hln : es.length = fs.length := by rw [← hes, List.length_map]
  have hjf : j < fs.length := (List.getElem?_eq_some_iff.1 hj).1
  have hjl : j < es.length := by omega
  have h3 : es[j].2 = f := by
    have h2 : (es.map (·.2))[j]? = some f := by rw [hes]; exact hj
    rw [List.getElem?_map, List.getElem?_eq_getElem hjl] at h2
    exact Option.some.inj h2
  have hr : (cell g 80 #[v, .int .i64 k] :: rowX 48 3 v es.length (entC es) :: (es.map rowE ++ L.eraseIdx i))[j + 2]? = some (BRow es[j].1 es[j].2.b) := by
    rw [List.getElem?_cons_succ, List.getElem?_cons_succ, List.getElem?_append_left (by simpa using hjl), List.getElem?_map, List.getElem?_eq_getElem hjl]
    rfl
  rw [h3] at hr
  obtain ⟨A, c, hu, hc, hC⟩ := reads_bytes (own_bytes S hr)
  obtain ⟨b, cc, hv, -, -⟩ := (S.ownX 1 rfl).form (by omega)
  have ox := S.ownX 1 rfl
  have hg := entC_get es j hjl
  rw [h3, hu] at hg
  have g0 := (S.blk 0 rfl).at_ 0 rfl
  rw [hv] at g0 ox
  have f0 : w.cell? ⟨b, j * 3, none⟩ = some (.int .i64 f.c) := ox.cells rfl _ _ (hg 0 _ rfl)
  have f1 : w.cell? ⟨b, j * 3 + 1, none⟩ = some (.bool f.d) := ox.cells rfl _ _ (hg 1 _ rfl)
  have f2 : w.cell? ⟨b, j * 3 + 2, none⟩ = some (.slice A f.b.length c) := ox.cells rfl _ _ (hg 2 _ rfl)
  have HS := Lib.hid (dbl1 p b (j * 3) f A f.b.length c f0 f1 f2 p0 rfl hl hC hc i hi hS)
  have i0 : (0 : Int) ≤ (j : Int) := by omega
  obtain ⟨m, hm⟩ : ∃ m, es.length = m := ⟨_, rfl⟩
  rw [hm] at g0 hjl
  have i1 : (j : Int) < (m : Int) := by omega
  have d0 : decide ((j : Int) < 0) = false := decide_eq_false (by omega)
  have d1 : decide ((m : Int) ≤ (j : Int)) = false := decide_eq_false (by omega)
  generalize sendE fs = e at HS ⊢
  generalize sendS fs f = s at HS ⊢
  clear S hes hln hjf hj h3 hr hu hC hc ox hg f0 f1 f2 hv hm hi hS p0 hl hm2
  go_enter Try.func54, Try.ntmps54
  go_wp2_with fail
  refine HS.out.mono ?_
  rintro en w1 ⟨rfl, h⟩
  go_wp2_with fail
  go_ret
  exact ⟨rfl, h⟩
def dblE (fs : List Fl) (j : Int) : Int := if 256 ≤ fs.length then 3 else if inF fs j = true then 0 else 5
def dblS (fs : List Fl) (j : Int) : List Fl := if 256 ≤ fs.length then fs else if inF fs j = true then fs ++ [fs.getD j.toNat zeroF] else fs
/-- Double, whatever there is -/
theorem double_any {g : Nat} {fs : List Fl} {k : Int} (j : Int) (hm2 : fs.length ≤ 1000) (hl : ∀ f ∈ fs, f.b.length ≤ 1000000) (i : Nat) (hi : L[i]? = some (NetAt g fs k)) (hS : Sep w0 w L) :
    Calls Try.prog 35 #[.pointer (some ⟨g, 0, none⟩), .int .i64 j] w fun en w' => en = .returned (.int .i64 (dblE fs j)) ∧ Sep w0 w' (L.set i (NetAt g (dblS fs j) k)) := by
  obtain ⟨W1, hW1, S1⟩ := hS.boxedF 45 #[.pointer (some ⟨g, 0, none⟩)]
  have hi1 : (cell w.heap.size 45 #[.pointer (some ⟨g, 0, none⟩)] :: L)[i + 1]? = some (NetAt g fs k) := by rw [List.getElem?_cons_succ]; exact hi
  have p0 := (S1.blk 0 rfl).at_ 0 rfl
  obtain ⟨v, es, hes, S⟩ := (S1.pick (i + 1) hi1).openNet
  have hln : es.length = fs.length := by rw [← hes, List.length_map]
  obtain ⟨a, cc, hv, -, -⟩ := (S.ownX 1 rfl).slice
  have g0 := (S.blk 0 rfl).at_ 0 rfl
  rw [hv, hln] at g0
  obtain ⟨m, hm⟩ : ∃ m, fs.length = m := ⟨_, rfl⟩
  have Hm := Lib.hid hm
  have same : L.set i (NetAt g fs k) = L := by
    obtain ⟨hil, hie⟩ := List.getElem?_eq_some_iff.1 hi
    rw [← hie, List.set_getElem_self]
  have hSt : Hid (Sep w0 W1 (L.set i (NetAt g fs k))) := Lib.hid (same.symm ▸ S1.tail)
  unfold dblE dblS
  by_cases hf : 256 ≤ fs.length
  · rw [if_pos hf, if_pos hf]
    rw [hm] at g0 hf
    have d0 : decide ((256 : Int) ≤ (m : Int)) = true := decide_eq_true (by omega)
    clear S S1 hes hln hv hm same hi1 hi hS hl hm2
    go_enter Try.func35, Try.ntmps35
    go_wp2_with fail
    go_ret
    exact ⟨rfl, hSt.out⟩
  · rw [if_neg hf, if_neg hf]
    have d0 : decide ((256 : Int) ≤ (m : Int)) = false := decide_eq_false (by omega)
    by_cases h : inF fs j = true
    · rw [if_pos h, if_pos h]
      have h2 := of_decide_eq_true h
      obtain ⟨n, rfl⟩ : ∃ n : Nat, j = n := ⟨j.toNat, by omega⟩
      have hn : n < fs.length := by omega
      rw [Int.toNat_natCast]
      have hgd : fs[n]? = some (fs.getD n zeroF) := by rw [List.getD_eq_getElem?_getD, List.getElem?_eq_getElem hn, Option.getD_some]
      have hlb := hl _ (List.mem_of_getElem? hgd)
      have HS := with_dbl w.heap.size n _ hgd hm2 (by omega) p0 (i + 1) hi1 S1
      have he : sendE fs = 0 := by unfold sendE; rw [if_pos (by omega)]
      have hs : sendS fs (fs.getD n zeroF) = fs ++ [fs.getD n zeroF] := by unfold sendS; rw [if_pos (by omega)]
      rw [he, hs] at HS
      have HS' := Lib.hid HS
      rw [hm] at g0
      generalize fs ++ [fs.getD n zeroF] = s at HS' ⊢
      clear S S1 hes hln hv hm same hi1 hi hS hl hm2 HS hlb hgd he hs h h2 hn hf
      go_enter Try.func35, Try.ntmps35
      go_wp2_with fail
      refine HS'.out.mono ?_
      rintro en w2 ⟨rfl, S2⟩
      go_wp2_with fail
      go_ret
      exact ⟨rfl, S2.tail⟩
    · rw [if_neg h, if_neg h]
      have h2 : ¬ (0 ≤ j ∧ j < (fs.length : Int)) := fun e => h (decide_eq_true e)
      have HW := Lib.hid (with_out g a fs.length cc j (by omega) (.func (.func 56) #[] #[.pointer (some ⟨w.heap.size, 0, none⟩)]) g0)
      rw [hm] at g0
      clear S S1 hes hln hv hm same hi1 hi hS hl hm2 h h2 hf
      go_enter Try.func35, Try.ntmps35
      go_wp2_with fail
      refine HW.out.mono ?_
      rintro en w2 ⟨rfl, rfl⟩
      go_wp2_with fail
      go_ret
      exact ⟨rfl, hSt.out⟩
end
end Go.Proofs.Ytmacmhlimdaemaa.Net
namespace Go.Proofs.Ytmacmhlimdaemaa.Net
open Go.RowKit Go.Proofs.YtmacmhlimdaemaaW.PrintWords Go.Proofs.Ytmacmhlimdaemaa.R Go.Proofs.Ytmacmhlimdaemaa.Pkt Go.Proofs.Ytmacmhlimdaemaa.Ext
section
variable {w0 w w' : World} {L M : List Asn}
theorem text_n (l : List Int) (n : Nat) (hn : l.length = n) (h6 : n ≤ 1000) (C : Array Value) (hC : (l.map enB).toArray = C) (hS : Sep w0 w L) : ∃ W, (convert 22 22 (.slice (some ⟨w.heap.size, 0, none⟩) n n)).run Try.prog (w.alloc (.cells C 5)) = .ok (.slice (some ⟨w.heap.size, 0, none⟩) n n) W ∧
    Kd.C (Kd.int .u8) W (some ⟨w.heap.size, 0, none⟩) n l ∧ Sep w0 W L := by
  subst hn hC
  refine ⟨_, Go.Lib.run_convert_bytes_const w 22 5 _ _ _ Try.underlying22 Try.underlying5, ?_, hS.grow ((Below.refl _ _).alloc (Nat.le_refl _) _)⟩
  exact litc_reads w _ 5 l (by omega) (heap_alloc_new _ _)
def fA : Fl := ⟨1, false, [97]⟩
def fB : Fl := ⟨2, true, [98]⟩
end
set_option maxRecDepth 100000 in
theorem wakes_any (w : World) : Calls Try.prog 30 #[] w fun e w' => e = .returned (.bool true) ∧ Below w.heap.size w w' := by
  go_enter Try.func30, Try.ntmps30
  go_wp2_with fail
  refine (new_any (Sep.start w)).mono ?_
  rintro e w1 ⟨g, rfl, S1⟩
  obtain ⟨W2, hc2, C2, S2⟩ := text_n [97] 1 rfl (by decide) #[.int .u8 97] rfl S1
  go_wp2_with fail
  refine (send_any fA _ 1 1 rfl (by decide) C2 (Nat.le_refl _) 0 rfl S2).mono ?_
  rw [show sendE ([] : List Fl) = 0 from rfl]
  rintro e w3 ⟨rfl, S3⟩
  replace S3 : Sep w w3 [NetAt g [fA] 0] := S3
  obtain ⟨W4, hc4, C4, S4⟩ := text_n [98] 1 rfl (by decide) #[.int .u8 98] rfl S3
  go_wp2_with fail
  refine (send_any fB _ 1 1 rfl (by decide) C4 (Nat.le_refl _) 0 rfl S4).mono ?_
  rw [show sendE [fA] = 0 from rfl]
  rintro e w5 ⟨rfl, S5⟩
  replace S5 : Sep w w5 [NetAt g [fA, fB] 0] := S5
  go_wp2_with fail
  refine (double_any 0 (by decide) (by intro f hf; simp only [List.mem_cons, List.not_mem_nil, or_false] at hf; rcases hf with rfl | rfl <;> decide) 0 rfl S5).mono ?_
  rw [show dblE [fA, fB] 0 = 0 from rfl]
  rintro e w6 ⟨rfl, S6⟩
  replace S6 : Sep w w6 [NetAt g [fA, fB, fA] 0] := S6
  go_wp2_with fail
  refine (take_any 1 (by decide) 0 rfl S6).mono ?_
  rw [show takeF [fA, fB, fA] 1 = fB from rfl, show takeE [fA, fB, fA] 1 = 0 from rfl]
  rintro e w7 ⟨v7, rfl, S7⟩
  replace S7 : Sep w w7 [BRow v7 [98], NetAt g [fA, fA] 0] := S7
  obtain ⟨a7, c7, rfl, -, -⟩ := own_slice (own_n 1 rfl S7 0 rfl)
  obtain ⟨W8, hW8, S8⟩ := S7.boxedF 48 #[.int .i64 2, .bool true, .slice a7 1 c7]
  have e8 : (convert 22 9 (.slice a7 1 c7)).run Try.prog W8 = .ok (.string ⟨#[98]⟩) W8 := string_bytes (own_bytes (i := 1) S8 rfl)
  have q0 := (S8.blk 0 rfl).at_ 0 rfl
  have q1 := (S8.blk 0 rfl).at_ 1 rfl
  have q2 := (S8.blk 0 rfl).at_ 2 rfl
  clear S7
  go_wp2_with (
    refine wpList_store_row rfl 48 (.tmp 5) (.tmp 23) rfl w7.heap.size #[.int .i64 2, .bool true, .slice a7 1 c7] rfl rfl 48 _ (Blk.new _ _ _) size48 rfl (fl_one _ _ _ _ _) ?_
    rw [World.setRow_alloc_new, hW8]
    clear hW8)
  refine (len_any 2 rfl S8).mono ?_
  rintro e w9 ⟨rfl, rfl⟩
  go_wp2_with fail
  refine (lose_any 2 (by decide) 2 rfl S8).mono ?_
  rw [show takeE [fA, fA] 2 = 5 from rfl]
  rintro e w10 ⟨rfl, S10⟩
  go_wp2_with fail
  go_ret
  exact ⟨rfl, S10.below⟩
end Go.Proofs.Ytmacmhlimdaemaa.Net
