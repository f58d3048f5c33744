/- The reference's Read. -/
import Derived.Test.YtpgiljjjpijepaaLRef
import Derived.Test.YtpgiljjjpijepaaLStepT
namespace Go.Proofs.Ytpgiljjjpijepaa
open Go.RowKit
def refR (s : LS) (r : RX) (n : Int) : RX := { r with gt := r.gt + readN s n }
theorem RI.read {e : Nat} {s : LS} {r : RX} (n : Int) (h : RI e s r) : RI e (readL s n) (refR s r n) := by
  have hk : readN s n ≤ s.got.length := by unfold readN; omega
  have hgl := congrArg List.length h.got
  rw [List.length_drop] at hgl
  have hgt := h.gt
  refine ⟨⟨h.l.ep, h.l.lo, h.l.sm, h.l.mw, h.l.win, h.l.wait, h.l.wl, h.l.tk⟩, ?_, ?_, h.nx, ?_⟩
  · show s.got.drop (readN s n) = r.inn.drop (r.gt + readN s n)
    rw [h.got, List.drop_drop]
  · show r.gt + readN s n ≤ r.inn.length
    omega
  · show (s.got.drop (readN s n)).length ≤ 1048576
    rw [List.length_drop]
    have := h.gl
    omega
section
variable {w0 w w' : World} {L M : List Asn}
theorem brow_cells {n c g : Nat} {l : List Nat} (h : Sep w0 w L) (i : Nat) (hi : L[i]? = some (BRow (.slice (some ⟨g, 0, none⟩) n c) l)) (hn : l.length = n) : ∀ j u, (l.map enB)[j]? = some u → w.cell? ⟨g, j, none⟩ = some u := by
  have h1 := h.own i hi
  rw [hn] at h1
  exact own_cells h1
set_option maxRecDepth 100000 in
set_option maxHeartbeats 1000000 in
theorem ref_read {e g : Nat} {s : LS} {r : RX} (hI : RI e s r) (n : Int) (hn : -9223372036854775808 ≤ n ∧ n ≤ 9223372036854775807) (hil : r.inn.length ≤ 1000000000) (i : Nat) (hi : L[i]? = some (RefAt g s r)) (hS : Sep w0 w L) :
    Calls Try.prog 30 #[.pointer (some ⟨g, 0, none⟩), .int .i64 n] w fun en w' => ∃ v, en = .returned v ∧ Sep w0 w' (BRow v (readB s n) :: L.set i (RefAt g (readL s n) (refR s r n))) := by
  obtain ⟨va, vi, S⟩ := (hS.pick i hi).openX
  obtain ⟨kk, hkk⟩ : ∃ k, readN s n = k := ⟨_, rfl⟩
  have hgl := congrArg List.length hI.got
  rw [List.length_drop] at hgl
  have hgt := hI.gt
  have hgb := hI.gl
  have hkd : ((kk : Int) = n ∨ (kk = s.got.length ∧ (kk : Int) < n) ∨ (kk = 0 ∧ n ≤ 0)) ∧ kk ≤ s.got.length := by rw [← hkk]; unfold readN; omega
  obtain ⟨gt, hgte⟩ : ∃ gt, r.gt = gt := ⟨_, rfl⟩
  obtain ⟨m, hm⟩ : ∃ m, r.inn.length = m := ⟨_, rfl⟩
  rw [hgte] at S hgl hgt
  rw [hm] at hgl hgt hil
  have hfin : Hid (∀ W vo gt', gt' = gt + kk → Sep w0 W (BRow vo (s.got.take kk) :: cell g 66 (s.rcs va vi gt') :: BRow va r.all :: BRow vi r.inn :: L.eraseIdx i) → Sep w0 W (BRow vo (readB s n) :: L.set i (RefAt g (readL s n) (refR s r n)))) := Lib.hid fun W vo gt' hg h => by
    have h1 : Sep w0 W (cell g 66 (s.rcs va vi gt') :: BRow va r.all :: BRow vi r.inn :: BRow vo (s.got.take kk) :: L.eraseIdx i) := h.ix 4 [1, 2, 3, 0] [] (by decide)
    have h2 : Sep w0 W (RefAt g (readL s n) (refR s r n) :: BRow vo (s.got.take kk) :: L.eraseIdx i) := Sep.closeX (s := readL s n) (r := refR s r n) (va := va) (vi := vi) (by
      have hg2 : (refR s r n).gt = gt' := by unfold refR; rw [hg, hgte, hkk]
      rw [hg2]
      exact h1)
    have h3 : readB s n = s.got.take kk := by unfold readB; rw [hkk]
    rw [h3]
    exact h2.swap.perm (.cons _ (perm_back hi _))
  obtain ⟨IA, c, hv, hc, -⟩ := own_slice (S.own 2 rfl)
  rw [hm] at hv hc
  subst hv
  have HI := Lib.hid hI
  have Hm := Lib.hid hm
  have Hgt := Lib.hid hgte
  have HS := Lib.hid (S.nilB)
  clear S hS hi hm hgte hkk hI
  go_enter Try.func30, Try.ntmps30
  go_wp2_with fail
  go_loopw [5, 6] (fun p5 p6 wr => ∃ k vo, k ≤ kk ∧ p5 = vo ∧ p6 = .int .i64 (k : Int) ∧ Sep w0 wr (BRow vo (s.got.take k) :: cell g 66 (s.rcs va (.slice IA m c) (gt + k)) :: BRow va r.all :: BRow (.slice IA m c) r.inn :: L.eraseIdx i)) (fun _ p6 _ => kk - (intOf p6).toNat)
  case atStart => exact ⟨0, _, Nat.zero_le _, rfl, rfl, HS.out⟩
  case round =>
    obtain ⟨k, vo, hkk2, rfl, rfl, S1⟩ := hrel
    clear HS
    have hlk : (s.got.take k).length = k := by rw [List.length_take]; omega
    obtain ⟨oa, oc, hvo, -, -⟩ := own_slice (S1.own 0 rfl)
    rw [hlk] at hvo
    subst hvo
    have c6 : wr.cell? ⟨g, 6, none⟩ = some (.slice IA m c) := (S1.blk 1 rfl).at_ 6 rfl
    have c7 : wr.cell? ⟨g, 7, none⟩ = some (.int .i64 ((gt : Int) + (k : Int))) := by rw [← Int.natCast_add]; exact (S1.blk 1 rfl).at_ 7 rfl
    by_cases hlt : k < kk
    · have d0 : decide ((k : Int) < n) = true := decide_eq_true (by omega)
      have d1 : decide ((gt : Int) + (k : Int) < (m : Int)) = true := decide_eq_true (by omega)
      obtain ⟨ib, ic, hib, -⟩ := (S1.own 3 rfl).form (by have := Hm.out; omega)
      injection hib with hib h2 h3
      subst hib
      clear h2 h3
      obtain ⟨x, hxi⟩ : ∃ x, r.inn[gt + k]? = some x := ⟨_, List.getElem?_eq_getElem (by have := Hm.out; omega)⟩
      have hx : (r.inn.map enB)[gt + k]? = some (.int .u8 (x : Int)) := by rw [List.getElem?_map, hxi]; rfl
      have hxg : s.got[k]? = some x := by rw [HI.out.got, List.getElem?_drop, Hgt.out]; exact hxi
      have s4 : (0 : Int) ≤ (gt : Int) + (k : Int) := by omega
      have s6 : (gt : Int) + (k : Int) < (m : Int) := by omega
      have s5 : ((gt : Int) + (k : Int)).toNat = gt + k := by omega
      go_upto_region 3 with (fail)
      go_quiet (fail)
      go_upto_region 5 with (fail)
      refine plain_under (fun w => w.cell? ⟨g, 6, none⟩ = some (.slice (some ⟨ib, 0, none⟩) m c) ∧ w.cell? ⟨g, 7, none⟩ = some (.int .i64 ((gt : Int) + (k : Int))) ∧ w.cell? ⟨ib, gt + k, none⟩ = some (.int .u8 (x : Int))) (fun _ => true) (by kernel_rfl) ?_
      have S2 := (S1.drewN nq).drew
      have hSS : (wr.drewN nq).drew.cell? ⟨g, 6, none⟩ = some (.slice (some ⟨ib, 0, none⟩) m c) ∧ (wr.drewN nq).drew.cell? ⟨g, 7, none⟩ = some (.int .i64 ((gt : Int) + (k : Int))) ∧ (wr.drewN nq).drew.cell? ⟨ib, gt + k, none⟩ = some (.int .u8 (x : Int)) := ⟨c6, c7, brow_cells S2 3 rfl Hm.out _ _ hx⟩
      clear S1 c6 c7 d0
      generalize (wr.drewN nq).drew = w5 at hSS S2 ⊢
      simp only [List.size_toArray, List.length_cons, List.length_nil, Nat.reduceAdd, Array.replicate_succ, Array.replicate_zero, List.push_toArray, List.nil_append, List.cons_append]
      refine under_free (i := 0) (v := ?_) rfl (by kernel_rfl) (fun _ _ _ h => h) _ _ _ _ (by kernel_rfl) (by kernel_rfl) (Or.inl ⟨by rfl, ?_⟩) ?_
      rotate_left
      · intro w _
        go_simp
        try with_reducible rfl
      simp only [Act.put, List.setIfInBounds_toArray, List.set_cons_zero, List.set_cons_succ, List.getElem_toArray, List.getElem_cons_zero]
      refine under_free (i := 1) (v := ?_) rfl (by kernel_rfl) (fun _ _ _ h => h) _ _ _ _ (by kernel_rfl) (by kernel_rfl) (Or.inl ⟨by rfl, ?_⟩) ?_
      rotate_left
      · intro w _
        go_simp
        try with_reducible rfl
      simp only [Act.put, List.setIfInBounds_toArray, List.set_cons_zero, List.set_cons_succ, List.getElem_toArray, List.getElem_cons_zero, List.getElem_cons_succ]
      refine under_free (i := 2) (v := ?_) rfl (by kernel_rfl) (fun _ _ _ h => h) _ _ _ _ (by kernel_rfl) (by kernel_rfl) (Or.inl ⟨by rfl, ?_⟩) ?_
      rotate_left
      · intro w _
        go_simp
        try with_reducible rfl
      simp only [Act.put, List.setIfInBounds_toArray, List.set_cons_zero, List.set_cons_succ, List.getElem_toArray, List.getElem_cons_zero, List.getElem_cons_succ]
      refine under_free (i := 3) (v := ?_) rfl (by kernel_rfl) (fun _ _ _ h => h) _ _ _ _ (by kernel_rfl) (by kernel_rfl) (Or.inl ⟨by rfl, ?_⟩) ?_
      rotate_left
      · intro w _
        go_simp
        try with_reducible rfl
      simp only [Act.put, List.setIfInBounds_toArray, List.set_cons_zero, List.set_cons_succ, List.getElem_toArray, List.getElem_cons_zero, List.getElem_cons_succ]
      refine under_take (i := 4) (v := ?_) rfl (by kernel_rfl) (by kernel_rfl) (fun _ _ _ h => h) _ _ _ _ (by kernel_rfl) (by kernel_rfl) (by kernel_rfl) (Or.inl ⟨by rfl, ?_⟩) hSS ?_
      rotate_left
      · intro w hSw
        obtain ⟨q0, q1, q2⟩ := hSw
        go_simp
        try with_reducible rfl
      simp only [Act.put, List.setIfInBounds_toArray, List.set_cons_zero, List.set_cons_succ, List.getElem_toArray, List.getElem_cons_zero, List.getElem_cons_succ]
      refine under_free (i := 5) (v := ?_) rfl (by kernel_rfl) (fun _ _ _ h => h) _ _ _ _ (by kernel_rfl) (by kernel_rfl) (Or.inl ⟨by rfl, ?_⟩) ?_
      rotate_left
      · intro w _
        go_simp
        try with_reducible rfl
      simp only [Act.put, List.setIfInBounds_toArray, List.set_cons_zero, List.set_cons_succ, List.getElem_toArray, List.getElem_cons_zero, List.getElem_cons_succ]
      refine under_free (i := 6) (v := ?_) rfl (by kernel_rfl) (fun _ _ _ h => h) _ _ _ _ (by kernel_rfl) (by kernel_rfl) (Or.inl ⟨by rfl, ?_⟩) ?_
      rotate_left
      · intro w _
        go_simp
        try with_reducible rfl
      simp only [Act.put, List.setIfInBounds_toArray, List.set_cons_zero, List.set_cons_succ, List.getElem_toArray, List.getElem_cons_zero, List.getElem_cons_succ]
      refine under_free (i := 7) (v := ?_) rfl (by kernel_rfl) (fun _ _ _ h => h) _ _ _ _ (by kernel_rfl) (by kernel_rfl) (Or.inl ⟨by rfl, ?_⟩) ?_
      rotate_left
      · intro w _
        go_simp
        try with_reducible rfl
      simp only [Act.put, List.setIfInBounds_toArray, List.set_cons_zero, List.set_cons_succ, List.getElem_toArray, List.getElem_cons_zero, List.getElem_cons_succ]
      refine under_take (i := 8) (v := ?_) rfl (by kernel_rfl) (by kernel_rfl) (fun _ _ _ h => h) _ _ _ _ (by kernel_rfl) (by kernel_rfl) (by kernel_rfl) (Or.inl ⟨by rfl, ?_⟩) hSS ?_
      rotate_left
      · intro w hSw
        obtain ⟨q0, q1, q2⟩ := hSw
        go_simp
        try with_reducible rfl
      simp only [Act.put, List.setIfInBounds_toArray, List.set_cons_zero, List.set_cons_succ, List.getElem_toArray, List.getElem_cons_zero, List.getElem_cons_succ]
      refine under_free (i := 9) (v := ?_) rfl (by kernel_rfl) (fun _ _ _ h => h) _ _ _ _ (by kernel_rfl) (by kernel_rfl) (Or.inl ⟨by rfl, ?_⟩) ?_
      rotate_left
      · intro w _
        go_simp
        try with_reducible rfl
      simp only [Act.put, List.setIfInBounds_toArray, List.set_cons_zero, List.set_cons_succ, List.getElem_toArray, List.getElem_cons_zero, List.getElem_cons_succ]
      refine under_take (i := 10) (v := ?_) rfl (by kernel_rfl) (by kernel_rfl) (fun _ _ _ h => h) _ _ _ _ (by kernel_rfl) (by kernel_rfl) (by kernel_rfl) (Or.inl ⟨by rfl, ?_⟩) hSS ?_
      rotate_left
      · intro w hSw
        obtain ⟨q0, q1, q2⟩ := hSw
        go_simp
        try with_reducible rfl
      simp only [Act.put, List.setIfInBounds_toArray, List.set_cons_zero, List.set_cons_succ, List.getElem_toArray, List.getElem_cons_zero, List.getElem_cons_succ]
      refine under_one (i := 11) (by kernel_rfl) rfl ?_
      intro K hK
      go_simp
      have S3 := S2.boxF 5 #[.int .u8 (x : Int)]
      have hWs : w5.heap.size < (w5.alloc (.cells #[.int .u8 (x : Int)] 5)).heap.size := by simp
      replace hSS : (w5.alloc (.cells #[.int .u8 (x : Int)] 5)).cell? ⟨g, 6, none⟩ = some (.slice (some ⟨ib, 0, none⟩) m c) ∧ (w5.alloc (.cells #[.int .u8 (x : Int)] 5)).cell? ⟨g, 7, none⟩ = some (.int .i64 ((gt : Int) + (k : Int))) ∧ (w5.alloc (.cells #[.int .u8 (x : Int)] 5)).cell? ⟨ib, gt + k, none⟩ = some (.int .u8 (x : Int)) := ⟨(S3.blk 2 rfl).at_ 6 rfl, by rw [← Int.natCast_add]; exact (S3.blk 2 rfl).at_ 7 rfl, brow_cells S3 4 rfl Hm.out _ _ hx⟩
      refine hK _ _ (fun _ => hSS) ?_
      clear hK K S2
      generalize w5.heap.size = nb at S3 hWs ⊢
      generalize w5.alloc (.cells #[.int .u8 (x : Int)] 5) = w6 at S3 hWs hSS ⊢
      simp only [List.setIfInBounds_toArray, List.set_cons_zero, List.set_cons_succ]
      refine under_one (i := 12) (by kernel_rfl) rfl ?_
      intro K hK
      obtain ⟨i5, hi5, hz0, hz1, hz2⟩ := info_parts info5
      have hrd : Reads w6 w6.heap.size 1 (some ⟨nb, 0, none⟩) 1 [.int .u8 (x : Int)] := by
        refine ⟨rfl, fun _ => ⟨_, rfl, hWs, fun j u hj => ?_⟩⟩
        have hb := (S3.blk 0 rfl).cell j
        have he : (⟨nb, 0, none⟩ : Addr).add j = ⟨nb, j, none⟩ := by unfold Addr.add; split <;> simp_all
        rw [he, hb, ← Array.getElem?_toList]
        exact hj
      refine step_append_any _ rfl (.tmp 24) (.tmp 35) 27 rfl 0 5 i5 _ 1 1 Try.underlying27 hi5 hz0 hz1 hz2 rfl (by omega) (.slice oa k oc) k ((s.got.take k).map enB) rfl (by have h := S3.own 1 rfl; rwa [hlk] at h) _ (some ⟨nb, 0, none⟩) 1 1 _ rfl hrd (by intro u hu; rw [List.mem_singleton] at hu; subst hu; rfl) (by unfold maxLen; omega) (by omega) (Nat.zero_le _) ?_
      intro v7 w7 hown hg hat
      have hl2 : (s.got.take (k + 1)).length = k + 1 := by rw [List.length_take]; omega
      have hm2 : (s.got.take (k + 1)).map enB = (s.got.take k).map enB ++ [.int .u8 (x : Int)] := by rw [List.take_add_one, hxg, List.map_append]; rfl
      have hown2 : w7.ownsRow 0 5 1 v7 (s.got.take (k + 1)).length ((s.got.take (k + 1)).map enB) := by rw [hl2, hm2]; exact hown
      have S4 := (S3.pushed 1 rfl hown2 hg hat).tail
      replace hSS : w7.cell? ⟨g, 6, none⟩ = some (.slice (some ⟨ib, 0, none⟩) m c) ∧ w7.cell? ⟨g, 7, none⟩ = some (.int .i64 ((gt : Int) + (k : Int))) ∧ w7.cell? ⟨ib, gt + k, none⟩ = some (.int .u8 (x : Int)) := ⟨(S4.blk 1 rfl).at_ 6 rfl, by rw [← Int.natCast_add]; exact (S4.blk 1 rfl).at_ 7 rfl, brow_cells S4 3 rfl Hm.out _ _ hx⟩
      refine hK _ _ (fun _ => hSS) ?_
      clear hK K hown hown2 hg hat hrd S3 hWs hm2 hi5 hz0 hz1 hz2
      obtain ⟨a7, c7, hv7, -, -⟩ := own_slice (S4.own 0 rfl)
      rw [hl2] at hv7
      subst hv7
      simp only [Act.put, List.setIfInBounds_toArray, List.set_cons_zero, List.set_cons_succ, List.getElem_toArray, List.getElem_cons_zero, List.getElem_cons_succ]
      refine under_free (i := 13) (v := ?_) rfl (by kernel_rfl) (fun _ _ _ h => h) _ _ _ _ (by kernel_rfl) (by kernel_rfl) (Or.inl ⟨by rfl, ?_⟩) ?_
      rotate_left
      · intro w _
        go_simp
        try with_reducible rfl
      simp only [Act.put, List.setIfInBounds_toArray, List.set_cons_zero, List.set_cons_succ, List.getElem_toArray, List.getElem_cons_zero, List.getElem_cons_succ]
      refine under_done (by kernel_rfl) ?_ _
      have S5 := S4.put 1 rfl 7 (.int .i64 ((gt : Int) + (k : Int) + 1))
      have z7 := (S4.blk 1 rfl).frozen 7
      have c7 := hSS.2.1
      have i1 : IntKind.i64.wrap ((gt : Int) + (k : Int) + 1) = (gt : Int) + (k : Int) + 1 := IntWalk.i64_in _ (by omega)
      have H5 := Lib.hid S5
      clear S4 S5 hSS
      go_wp2_with fail
      go_roundw
      case measure => simp [intOf]; omega
      case rel =>
        refine ⟨k + 1, _, hlt, rfl, by go_num, ?_⟩
        have hg : ((gt + (k + 1) : Nat) : Int) = (gt : Int) + (k : Int) + 1 := by omega
        have h := H5.out
        show Sep w0 _ (_ :: cell g 66 #[_, _, _, _, _, _, _, .int .i64 ((gt + (k + 1) : Nat) : Int), _] :: _)
        rw [hg]
        exact h
    · have hke : k = kk := by omega
      subst hke
      have H1 := Lib.hid S1
      clear S1
      by_cases hd : (k : Int) < n
      · have d0 : decide ((k : Int) < n) = true := decide_eq_true hd
        have d1 : decide ((gt : Int) + (k : Int) < (m : Int)) = false := decide_eq_false (by omega)
        clear hlt
        go_upto_region 3 with (fail)
        go_quiet (fail)
        go_wp2_with fail
        go_ret
        exact ⟨_, rfl, hfin.out _ _ _ rfl (H1.out.drewN _)⟩
      · have d0 : decide ((k : Int) < n) = false := decide_eq_false hd
        clear hlt
        go_upto_region 3 with (fail)
        go_quiet (fail)
        go_wp2_with fail
        go_ret
        exact ⟨_, rfl, hfin.out _ _ _ rfl (H1.out.drewN _)⟩
end
end Go.Proofs.Ytpgiljjjpijepaa
