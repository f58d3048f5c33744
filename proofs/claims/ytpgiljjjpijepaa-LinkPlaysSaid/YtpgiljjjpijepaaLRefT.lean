/- The reference's Take. -/
import Derived.Test.YtpgiljjjpijepaaLRefR
namespace Go.Proofs.Ytpgiljjjpijepaa
open Go.RowKit
def refC (s : LS) (r : RX) (o : Nat) (d : List Nat) : RX :=
  if d.length = 0 then r else if s.next < o ∨ d.length ≤ s.next - o then r else if 1048576 < s.got.length + (d.length - (s.next - o)) then r else { r with inn := r.inn ++ d.drop (s.next - o) }
def refT (s : LS) (r : RX) (p : Pk) : RX := if p.e ≠ s.epoch then r else if s.most < p.a then r else refC (confS s p.a) r p.o p.d
theorem RI.conf {e : Nat} {s : LS} {r : RX} (a : Nat) (ha : a ≤ s.most) (h : RI e s r) : RI e (confS s a) r := by
  obtain ⟨f1, f2, f3, f4, -, -⟩ := conf_facts h.l a ha
  exact ⟨f1, by rw [f4]; exact h.got, h.gt, by rw [f3]; exact h.nx, by rw [f4]; exact h.gl⟩
theorem RI.come {e : Nat} {s : LS} {r : RX} (o : Nat) (d : List Nat) (h : RI e s r) : RI e (comeS s o d) (refC s r o d) := by
  unfold comeS refC
  have hl := h.l
  split
  · exact h
  · split
    · exact ⟨⟨hl.ep, hl.lo, hl.sm, hl.mw, hl.win, hl.wait, hl.wl, hl.tk⟩, h.got, h.gt, h.nx, h.gl⟩
    · split
      · exact ⟨⟨hl.ep, hl.lo, hl.sm, hl.mw, hl.win, hl.wait, hl.wl, hl.tk⟩, h.got, h.gt, h.nx, h.gl⟩
      · refine ⟨⟨hl.ep, hl.lo, hl.sm, hl.mw, hl.win, hl.wait, hl.wl, hl.tk⟩, ?_, ?_, ?_, ?_⟩
        · show s.got ++ d.drop (s.next - o) = (r.inn ++ d.drop (s.next - o)).drop r.gt
          rw [List.drop_append_of_le_length h.gt, ← h.got]
        · show r.gt ≤ (r.inn ++ d.drop (s.next - o)).length
          rw [List.length_append]
          have := h.gt
          omega
        · show s.next + (d.length - (s.next - o)) = (r.inn ++ d.drop (s.next - o)).length
          rw [List.length_append, List.length_drop, ← h.nx]
        · show (s.got ++ d.drop (s.next - o)).length ≤ 1048576
          rw [List.length_append, List.length_drop]
          omega
theorem come_full (s : LS) (r : RX) (o : Nat) (d : List Nat) (n k gl : Nat) (hn : d.length = n) (hq : s.next - o = k) (hg : s.got.length = gl) (h0 : ¬ n = 0) (h1 : o ≤ s.next) (h2 : k < n) (h3 : 1048576 < gl + (n - k)) : comeS s o d = { s with owes := true } ∧ refC s r o d = r := by
  subst hn hq hg
  have hc : ¬ (s.next < o ∨ d.length ≤ s.next - o) := by omega
  unfold comeS refC
  rw [if_neg h0, if_neg h0, if_neg hc, if_neg hc, if_pos h3, if_pos h3]
  exact ⟨rfl, rfl⟩
theorem come_fits (s : LS) (r : RX) (o : Nat) (d : List Nat) (n k gl : Nat) (hn : d.length = n) (hq : s.next - o = k) (hg : s.got.length = gl) (h0 : ¬ n = 0) (h1 : o ≤ s.next) (h2 : k < n) (h3 : ¬ 1048576 < gl + (n - k)) : comeS s o d = { s with owes := true, got := s.got ++ d.drop k, next := s.next + (n - k) } ∧ refC s r o d = { r with inn := r.inn ++ d.drop k } := by
  subst hn hq hg
  have hc : ¬ (s.next < o ∨ d.length ≤ s.next - o) := by omega
  unfold comeS refC
  rw [if_neg h0, if_neg h0, if_neg hc, if_neg hc, if_neg h3, if_neg h3]
  exact ⟨rfl, rfl⟩
theorem RI.take {e : Nat} {s : LS} {r : RX} (p : Pk) (h : RI e s r) : RI e (takeS s p) (refT s r p) := by
  unfold takeS refT
  split
  · exact h
  · split
    · exact h
    · exact (h.conf p.a (by omega)).come p.o p.d
section
variable {w0 w w' : World} {L M : List Asn}
set_option maxRecDepth 100000 in
set_option maxHeartbeats 4000000 in
theorem ref_take {e g : Nat} {s : LS} {r : RX} (hI : RI e s r) (p : Pk) (A : Option Addr) (n c : Nat) (ho : p.o < 18446744073709551616) (ha : p.a < 18446744073709551616) (hR : RB w0 A n p.d) (hnc : n ≤ c) (hn6 : n ≤ 1000000)
    (hal : r.all.length ≤ 1000000000) (hil : r.inn.length ≤ 1000000000) (i : Nat) (hi : L[i]? = some (RefAt g s r)) (hS : Sep w0 w L) :
    Calls Try.prog 29 #[.pointer (some ⟨g, 0, none⟩), .agg #[.int .u32 (p.e : Int), .int .u64 (p.o : Int), .int .u64 (p.a : Int), .slice A n c]] w fun en w' => en = .returned (.int .i64 (takeE s p)) ∧ Sep w0 w' (L.set i (RefAt g (takeS s p) (refT s r p))) := by
  obtain ⟨W1, hW1, S0⟩ := (hS.pick i hi).boxedF 32 #[.int .u32 (p.e : Int), .int .u64 (p.o : Int), .int .u64 (p.a : Int), .slice A n c]
  obtain ⟨b, hb⟩ : ∃ b, w.heap.size = b := ⟨_, rfl⟩
  rw [hb] at S0
  obtain ⟨va, vi, S1⟩ := S0.swap.openX
  have S : Sep w0 W1 (cell b 32 #[.int .u32 (p.e : Int), .int .u64 (p.o : Int), .int .u64 (p.a : Int), .slice A n c] :: cell g 66 (s.rcs va vi r.gt) :: BRow va r.all :: BRow vi r.inn :: L.eraseIdx i) := S1.ix 4 [3, 0, 1, 2] [] (by decide)
  clear S0 S1
  have hl := hI.l
  have hmw := hl.mw
  have hlo := hl.lo
  have hsm := hl.sm
  have hdn := hR.1
  obtain ⟨m, hm⟩ : ∃ m, r.inn.length = m := ⟨_, rfl⟩
  have hnx := hI.nx
  have hgt := hI.gt
  have hgl := congrArg List.length hI.got
  rw [List.length_drop] at hgl
  have hgb := hI.gl
  rw [hm] at hil hnx hgt hgl
  obtain ⟨gt, hgte⟩ : ∃ gt, r.gt = gt := ⟨_, rfl⟩
  rw [hgte] at S hgt hgl
  obtain ⟨al, hall⟩ : ∃ al, r.all.length = al := ⟨_, rfl⟩
  rw [hall] at hal hmw
  have c0 : W1.cell? ⟨g, 0, none⟩ = some (.int .u32 (s.epoch : Int)) := (S.blk 1 rfl).at_ 0 rfl
  have c4 : W1.cell? ⟨g, 4, none⟩ = some (.int .i64 (s.most : Int)) := (S.blk 1 rfl).at_ 4 rfl
  have c2 : W1.cell? ⟨g, 2, none⟩ = some (.int .i64 (s.base : Int)) := (S.blk 1 rfl).at_ 2 rfl
  have c3 : W1.cell? ⟨g, 3, none⟩ = some (.int .i64 (s.sent : Int)) := (S.blk 1 rfl).at_ 3 rfl
  have z2 := (S.blk 1 rfl).frozen 2
  have x0 : W1.cell? ⟨b, 0, none⟩ = some (.int .u32 (p.e : Int)) := (S.blk 0 rfl).at_ 0 rfl
  have x2 : W1.cell? ⟨b, 2, none⟩ = some (.int .u64 (p.a : Int)) := (S.blk 0 rfl).at_ 2 rfl
  have hback : Hid (∀ W s' r' va vi, Sep w0 W (cell b 32 #[.int .u32 (p.e : Int), .int .u64 (p.o : Int), .int .u64 (p.a : Int), .slice A n c] :: cell g 66 (s'.rcs va vi r'.gt) :: BRow va r'.all :: BRow vi r'.inn :: L.eraseIdx i) → Sep w0 W (L.set i (RefAt g s' r'))) := Lib.hid fun W s' r' va vi h => h.tail.closeX.back hi
  have HS := Lib.hid S
  clear S hS hi
  unfold takeE takeS refT
  by_cases h1 : p.e ≠ s.epoch
  · rw [if_pos h1, if_pos h1, if_pos h1]
    have e0 : ((p.e : Int) != (s.epoch : Int)) = true := by simp; omega
    have e1 : (p.e != s.epoch) = true := by simp; omega
    clear h1
    go_enter Try.func29, Try.ntmps29
    go_upto_region 1 with (fail)
    go_quiet (fail)
    go_wp2_with fail
    go_ret
    exact ⟨rfl, hback.out _ s r va vi (by rw [hgte]; exact HS.out.drewN _)⟩
  rw [if_neg h1, if_neg h1, if_neg h1]
  have e0 : ((p.e : Int) != (s.epoch : Int)) = false := by simp; omega
  have e1 : (p.e != s.epoch) = false := by simp; omega
  clear h1
  have j1 : IntKind.u64.wrap (s.most : Int) = (s.most : Int) := u64_in (by omega) (by omega)
  by_cases h2 : s.most < p.a
  · rw [if_pos h2, if_pos h2, if_pos h2]
    have d0 : decide ((s.most : Int) < (p.a : Int)) = true := decide_eq_true (by omega)
    have d1 : decide (s.most < p.a) = true := decide_eq_true h2
    clear h2
    go_enter Try.func29, Try.ntmps29
    go_upto_region 1 with (fail)
    go_quiet (fail)
    go_upto_region 3 with (fail)
    go_quiet (fail)
    go_wp2_with fail
    go_ret
    exact ⟨rfl, hback.out _ s r va vi (by rw [hgte]; exact (HS.out.drewN _).drewN _)⟩
  rw [if_neg h2, if_neg h2, if_neg h2]
  have d0 : decide ((s.most : Int) < (p.a : Int)) = false := decide_eq_false (by omega)
  have d1 : decide (s.most < p.a) = false := decide_eq_false h2
  have j2 : IntKind.i64.wrap (p.a : Int) = (p.a : Int) := IntWalk.i64_in _ (by omega)
  have hcf := conf_facts hl p.a (by omega)
  obtain ⟨s2, hs2⟩ : ∃ s2, confS s p.a = s2 := ⟨_, rfl⟩
  rw [hs2] at hcf ⊢
  have hn2 : s2.next = m := by rw [hcf.2.2.1]; exact hnx
  have hg2 : s2.got = s.got := hcf.2.2.2.1
  have hfin : Hid (∀ W s3 r3 va vi, comeS s2 p.o p.d = s3 → refC s2 r p.o p.d = r3 → Sep w0 W (cell b 32 #[.int .u32 (p.e : Int), .int .u64 (p.o : Int), .int .u64 (p.a : Int), .slice A n c] :: cell g 66 (s3.rcs va vi gt) :: BRow va r3.all :: BRow vi r3.inn :: L.eraseIdx i) → Sep w0 W (L.set i (RefAt g (comeS s2 p.o p.d) (refC s2 r p.o p.d)))) := Lib.hid fun W s3 r3 va vi h1 h2 h => by
    rw [h1, h2]
    have hgr : r3.gt = gt := by
      rw [← h2, ← hgte]
      unfold refC
      split
      · rfl
      · split
        · rfl
        · split <;> rfl
    exact hback.out W s3 r3 va vi (by rw [hgr]; exact h)
  by_cases h3 : p.a ≤ s.base
  · have hs3 : s2 = s := by rw [← hs2]; unfold confS; rw [if_neg h2, if_pos h3]
    have d2 : decide ((s.base : Int) < (p.a : Int)) = false := decide_eq_false (by omega)
    have d3 : decide (s.base < p.a) = false := decide_eq_false (by omega)
    have S0 := HS.out
    rw [← hs3] at S0
    clear h2 h3
    go_enter Try.func29, Try.ntmps29
    go_upto_region 1 with (fail)
    go_quiet (fail)
    rename Nat => nq1
    go_upto_region 3 with (fail)
    go_quiet (fail)
    rename Nat => nq2
    go_upto_region 5 with (fail)
    go_quiet (fail)
    have S2 := ((S0.drewN nq1).drewN nq2).drewN nq
    clear c0 c2 c3 c4 z2 x0 x2 HS S0
    go_upto_region 9 with (fail)
    generalize ((W1.drewN nq1).drewN nq2).drewN nq = WC at S2 ⊢
    -- data come: S2 : Sep w0 WC (cell b .. :: cell g 66 (s2.rcs va vi gt) :: BRow va r.all :: BRow vi r.inn :: L.eraseIdx i)
    obtain ⟨IA, ic, hvi, hic, -⟩ := own_slice (S2.own 3 rfl)
    rw [hm] at hvi hic
    subst hvi
    have c6 : WC.cell? ⟨g, 6, none⟩ = some (.slice IA m ic) := (S2.blk 1 rfl).at_ 6 rfl
    have c7 : WC.cell? ⟨g, 7, none⟩ = some (.int .i64 (gt : Int)) := (S2.blk 1 rfl).at_ 7 rfl
    have c8 : WC.cell? ⟨g, 8, none⟩ = some (.bool s2.owes) := (S2.blk 1 rfl).at_ 8 rfl
    have z8 := (S2.blk 1 rfl).frozen 8
    have x1 : WC.cell? ⟨b, 1, none⟩ = some (.int .u64 (p.o : Int)) := (S2.blk 0 rfl).at_ 1 rfl
    have x3 : WC.cell? ⟨b, 3, none⟩ = some (.slice A n c) := (S2.blk 0 rfl).at_ 3 rfl
    by_cases h0 : n = 0
    · have HS := Lib.hid S2
      have hE : Hid (comeS s2 p.o p.d = s2 ∧ refC s2 r p.o p.d = r) := Lib.hid (by unfold comeS refC; rw [hdn, if_pos h0, if_pos h0]; exact ⟨rfl, rfl⟩)
      have e0 : ((n : Int) == 0) = true := by simp; omega
      have e1 : (n == 0) = true := by simp; omega
      clear S2 h0
      go_wp2_with fail
      go_ret
      exact ⟨rfl, hfin.out _ _ _ _ _ hE.out.1 hE.out.2 HS.out⟩
    have e0 : ((n : Int) == 0) = false := by simp; omega
    have e1 : (n == 0) = false := by simp; omega
    have S3 := S2.put 1 rfl 8 (.bool true)
    replace S3 : Sep w0 _ (cell b 32 #[.int .u32 (p.e : Int), .int .u64 (p.o : Int), .int .u64 (p.a : Int), .slice A n c] :: cell g 66 (({ s2 with owes := true } : LS).rcs va (.slice IA m ic) gt) :: BRow va r.all :: BRow (.slice IA m ic) r.inn :: L.eraseIdx i) := S3
    obtain ⟨WD, hWD⟩ : ∃ W, WC.setCell ⟨g, 8, none⟩ (.bool true) = W := ⟨_, rfl⟩
    rw [hWD] at S3
    have d6 : WD.cell? ⟨g, 6, none⟩ = some (.slice IA m ic) := (S3.blk 1 rfl).at_ 6 rfl
    have d7 : WD.cell? ⟨g, 7, none⟩ = some (.int .i64 (gt : Int)) := (S3.blk 1 rfl).at_ 7 rfl
    have u1 : WD.cell? ⟨b, 1, none⟩ = some (.int .u64 (p.o : Int)) := (S3.blk 0 rfl).at_ 1 rfl
    have u3 : WD.cell? ⟨b, 3, none⟩ = some (.slice A n c) := (S3.blk 0 rfl).at_ 3 rfl
    have i0 : IntKind.u64.wrap (m : Int) = (m : Int) := u64_in (by omega) (by omega)
    have HS := Lib.hid S3
    clear S2 S3
    by_cases h1 : m < p.o
    · have d1 : decide ((m : Int) < (p.o : Int)) = true := decide_eq_true (by omega)
      have d2 : decide (m < p.o) = true := decide_eq_true h1
      have hE : Hid (comeS s2 p.o p.d = { s2 with owes := true } ∧ refC s2 r p.o p.d = r) := Lib.hid (by unfold comeS refC; rw [hdn, if_neg h0, if_neg h0, hn2, if_pos (.inl h1), if_pos (.inl h1)]; exact ⟨rfl, rfl⟩)
      clear h0 h1
      go_wp2_with fail
      go_ret
      exact ⟨rfl, hfin.out _ _ _ _ _ hE.out.1 hE.out.2 HS.out⟩
    have d1 : decide ((m : Int) < (p.o : Int)) = false := decide_eq_false (by omega)
    have d2 : decide (m < p.o) = false := decide_eq_false h1
    obtain ⟨q, hqe⟩ : ∃ q, m - p.o = q := ⟨_, rfl⟩
    go_wp2_with fail
    go_loopw [6] (fun p6 wr => ∃ k : Nat, k ≤ n ∧ k ≤ q ∧ p6 = .int .i64 (k : Int) ∧ wr = WD) (fun p6 _ => n - (intOf p6).toNat)
    case atStart => exact ⟨0, Nat.zero_le _, Nat.zero_le _, rfl, rfl⟩
    case round =>
      obtain ⟨k, hkn, hkq, rfl, rfl⟩ := hrel
      clear c6 c7 c8 z8 x1 x3 hWD
      by_cases hlt : k < n
      · have hlt' : (k : Int) < (n : Int) := by omega
        have j5 : IntKind.u64.wrap (k : Int) = (k : Int) := u64_in (by omega) (by omega)
        have j6 : IntKind.u64.wrap ((p.o : Int) + (k : Int)) = (p.o : Int) + (k : Int) := u64_in (by omega) (by omega)
        by_cases hke : k = q
        · subst hke
          have hsum : (p.o : Int) + (k : Int) = (m : Int) := by omega
          obtain ⟨gl, hgle⟩ : ∃ gl, s.got.length = gl := ⟨_, rfl⟩
          have k1 : IntKind.i64.wrap ((m : Int) - (gt : Int)) = (gl : Int) := by rw [IntWalk.i64_in _ (by omega)]; omega
          have k2 : IntKind.i64.wrap ((gl : Int) + (n : Int)) = (gl : Int) + (n : Int) := IntWalk.i64_in _ (by omega)
          have k3 : IntKind.i64.wrap ((gl : Int) + (n : Int) - (k : Int)) = (gl : Int) + (n : Int) - (k : Int) := IntWalk.i64_in _ (by omega)
          have hq2 : s2.next - p.o = k := by rw [hn2]; omega
          have hg3 : s2.got.length = gl := by rw [hg2]; exact hgle
          by_cases hfit : 1048576 < gl + (n - k)
          · have e3 : decide ((gl : Int) + (n : Int) - (k : Int) ≤ 1048576) = false := decide_eq_false (by omega)
            have hE : Hid (comeS s2 p.o p.d = { s2 with owes := true } ∧ refC s2 r p.o p.d = r) := Lib.hid (come_full s2 r p.o p.d n k gl hdn hq2 hg3 h0 (by omega) hlt hfit)
            go_upto_region 19 with (fail)
            go_quiet (fail)
            go_wp2_with fail
            go_ret
            exact ⟨rfl, hfin.out _ _ _ _ _ hE.out.1 hE.out.2 (HS.out.drewN _)⟩
          · have e3 : decide ((gl : Int) + (n : Int) - (k : Int) ≤ 1048576) = true := decide_eq_true (by omega)
            have hE : Hid (comeS s2 p.o p.d = { s2 with owes := true, got := s2.got ++ p.d.drop k, next := s2.next + (n - k) } ∧ refC s2 r p.o p.d = { r with inn := r.inn ++ p.d.drop k }) := Lib.hid (come_fits s2 r p.o p.d n k gl hdn hq2 hg3 h0 (by omega) hlt hfit)
            have sl := part_lo 27 1 Try.underlying27 size5 .i64 A n c k (by omega)
            go_upto_region 19 with (fail)
            go_quiet (fail)
            go_upto_region 20 with (fail)
            refine plain_under (fun w => w.cell? ⟨g, 6, none⟩ = some (.slice IA m ic) ∧ w.cell? ⟨b, 3, none⟩ = some (.slice A n c)) (fun j => decide (j < 12)) (by kernel_rfl) ?_
            have hSS : (wr.drewN nq).drew.cell? ⟨g, 6, none⟩ = some (.slice IA m ic) ∧ (wr.drewN nq).drew.cell? ⟨b, 3, none⟩ = some (.slice A n c) := ⟨d6, u3⟩
            have S5 := (HS.out.drewN nq).drew
            clear d6 d7 u1 u3
            generalize (wr.drewN nq).drew = w5 at hSS S5 ⊢
            simp only [List.size_toArray, List.length_cons, List.length_nil, Nat.reduceAdd, Array.replicate_succ, Array.replicate_zero, List.push_toArray, List.nil_append, List.cons_append]
            refine under_free (i := 0) (v := ?_) rfl (by kernel_rfl) (fun _ _ _ h => h) _ _ _ _ (by kernel_rfl) (by kernel_rfl) (Or.inl ⟨by rfl, ?_⟩) ?_
            rotate_left
            · intro w _
              go_simp
              try with_reducible rfl
            simp only [Act.put, List.setIfInBounds_toArray, List.set_cons_zero, List.set_cons_succ, List.getElem_toArray, List.getElem_cons_zero]
            refine under_free (i := 1) (v := ?_) rfl (by kernel_rfl) (fun _ _ _ h => h) _ _ _ _ (by kernel_rfl) (by kernel_rfl) (Or.inl ⟨by rfl, ?_⟩) ?_
            rotate_left
            · intro w _
              go_simp
              try with_reducible rfl
            simp only [Act.put, List.setIfInBounds_toArray, List.set_cons_zero, List.set_cons_succ, List.getElem_toArray, List.getElem_cons_zero, List.getElem_cons_succ]
            refine under_free (i := 2) (v := ?_) rfl (by kernel_rfl) (fun _ _ _ h => h) _ _ _ _ (by kernel_rfl) (by kernel_rfl) (Or.inl ⟨by rfl, ?_⟩) ?_
            rotate_left
            · intro w _
              go_simp
              try with_reducible rfl
            simp only [Act.put, List.setIfInBounds_toArray, List.set_cons_zero, List.set_cons_succ, List.getElem_toArray, List.getElem_cons_zero, List.getElem_cons_succ]
            refine under_free (i := 3) (v := ?_) rfl (by kernel_rfl) (fun _ _ _ h => h) _ _ _ _ (by kernel_rfl) (by kernel_rfl) (Or.inl ⟨by rfl, ?_⟩) ?_
            rotate_left
            · intro w _
              go_simp
              try with_reducible rfl
            simp only [Act.put, List.setIfInBounds_toArray, List.set_cons_zero, List.set_cons_succ, List.getElem_toArray, List.getElem_cons_zero, List.getElem_cons_succ]
            refine under_take (i := 4) (v := ?_) rfl (by kernel_rfl) (by kernel_rfl) (fun _ _ _ h => h) _ _ _ _ (by kernel_rfl) (by kernel_rfl) (by kernel_rfl) (Or.inl ⟨by rfl, ?_⟩) hSS ?_
            rotate_left
            · intro w hSw
              obtain ⟨q0, q1⟩ := hSw
              go_simp
              try with_reducible rfl
            simp only [Act.put, List.setIfInBounds_toArray, List.set_cons_zero, List.set_cons_succ, List.getElem_toArray, List.getElem_cons_zero, List.getElem_cons_succ]
            refine under_free (i := 5) (v := ?_) rfl (by kernel_rfl) (fun _ _ _ h => h) _ _ _ _ (by kernel_rfl) (by kernel_rfl) (Or.inl ⟨by rfl, ?_⟩) ?_
            rotate_left
            · intro w _
              go_simp
              try with_reducible rfl
            simp only [Act.put, List.setIfInBounds_toArray, List.set_cons_zero, List.set_cons_succ, List.getElem_toArray, List.getElem_cons_zero, List.getElem_cons_succ]
            refine under_take (i := 6) (v := ?_) rfl (by kernel_rfl) (by kernel_rfl) (fun _ _ _ h => h) _ _ _ _ (by kernel_rfl) (by kernel_rfl) (by kernel_rfl) (Or.inl ⟨by rfl, ?_⟩) hSS ?_
            rotate_left
            · intro w hSw
              obtain ⟨q0, q1⟩ := hSw
              go_simp
              try with_reducible rfl
            simp only [Act.put, List.setIfInBounds_toArray, List.set_cons_zero, List.set_cons_succ, List.getElem_toArray, List.getElem_cons_zero, List.getElem_cons_succ]
            refine under_free (i := 7) (v := ?_) rfl (by kernel_rfl) (fun _ _ _ h => h) _ _ _ _ (by kernel_rfl) (by kernel_rfl) (Or.inl ⟨by rfl, ?_⟩) ?_
            rotate_left
            · intro w _
              go_simp
              try with_reducible rfl
            simp only [Act.put, List.setIfInBounds_toArray, List.set_cons_zero, List.set_cons_succ, List.getElem_toArray, List.getElem_cons_zero, List.getElem_cons_succ]
            refine under_free (i := 8) (v := ?_) rfl (by kernel_rfl) (fun _ _ _ h => h) _ _ _ _ (by kernel_rfl) (by kernel_rfl) (Or.inl ⟨by rfl, ?_⟩) ?_
            rotate_left
            · intro w _
              go_simp
              try with_reducible rfl
            simp only [Act.put, List.setIfInBounds_toArray, List.set_cons_zero, List.set_cons_succ, List.getElem_toArray, List.getElem_cons_zero, List.getElem_cons_succ]
            refine under_one (i := 9) (by kernel_rfl) rfl ?_
            intro K hK
            obtain ⟨i5, hi5, hz0, hz1, hz2⟩ := info_parts info5
            have hRk := (hR.below S5.below).drop k (by omega) hnc
            refine step_append_any _ rfl (.tmp 103) (.tmp 107) 27 rfl 0 5 i5 _ 1 1 Try.underlying27 hi5 hz0 hz1 hz2 rfl (by omega) (.slice IA m ic) m (r.inn.map enB) rfl (by have h := S5.own 3 rfl; rwa [hm] at h) _ (subV A c k 1) (n - k) (c - k) ((p.d.drop k).map enB) rfl hRk.2 (enB_one _) (by unfold maxLen; omega) (by omega) (Nat.zero_le _) ?_
            intro v7 w7 hown hg7 hat
            have hl2 : (r.inn ++ p.d.drop k).length = m + (n - k) := by rw [List.length_append, hm, hRk.1]
            have hown2 : w7.ownsRow 0 5 1 v7 (r.inn ++ p.d.drop k).length ((r.inn ++ p.d.drop k).map enB) := by rw [hl2, List.map_append]; exact hown
            have S6 := S5.pushed 3 rfl hown2 hg7 hat
            replace hSS : w7.cell? ⟨g, 6, none⟩ = some (.slice IA m ic) ∧ w7.cell? ⟨b, 3, none⟩ = some (.slice A n c) := ⟨(S6.blk 1 rfl).at_ 6 rfl, (S6.blk 0 rfl).at_ 3 rfl⟩
            refine hK _ _ (fun _ => hSS) ?_
            clear hK K hown hown2 hg7 hat S5
            obtain ⟨a7, c7, hv7, -, -⟩ := own_slice (S6.own 3 rfl)
            rw [hl2] at hv7
            subst hv7
            have z6 := (S6.blk 1 rfl).frozen 6
            have y6 := hSS.1
            simp only [Act.put, List.setIfInBounds_toArray, List.set_cons_zero, List.set_cons_succ, List.getElem_toArray, List.getElem_cons_zero, List.getElem_cons_succ]
            refine under_free (i := 10) (v := ?_) rfl (by kernel_rfl) (fun _ _ _ h => h) _ _ _ _ (by kernel_rfl) (by kernel_rfl) (Or.inl ⟨by rfl, ?_⟩) ?_
            rotate_left
            · intro w _
              go_simp
              try with_reducible rfl
            simp only [Act.put, List.setIfInBounds_toArray, List.set_cons_zero, List.set_cons_succ, List.getElem_toArray, List.getElem_cons_zero, List.getElem_cons_succ]
            refine under_free (i := 11) (v := ?_) rfl (by kernel_rfl) (fun _ _ _ h => h) _ _ _ _ (by kernel_rfl) (by kernel_rfl) (Or.inl ⟨by rfl, ?_⟩) ?_
            rotate_left
            · intro w _
              go_simp
              try with_reducible rfl
            simp only [Act.put, List.setIfInBounds_toArray, List.set_cons_zero, List.set_cons_succ, List.getElem_toArray, List.getElem_cons_zero, List.getElem_cons_succ]
            refine under_one (i := 12) (by kernel_rfl) rfl ?_
            intro K hK
            go_simp
            have S8 := S6.put 1 rfl 6 (.slice a7 (m + (n - k)) c7)
            refine hK _ _ (fun h => by cases h) ?_
            clear hK K S6 z6 y6 hSS
            refine under_done (by kernel_rfl) ?_ _
            go_wp2_with fail
            go_ret
            refine ⟨rfl, hfin.out _ _ _ va (.slice a7 (m + (n - k)) c7) hE.out.1 hE.out.2 ?_⟩
            exact S8
        · have e2 : ((p.o : Int) + (k : Int) != (m : Int)) = true := by simp; omega
          have H1 := Lib.hid HS
          go_wp2_with fail
          go_roundw
          case measure => simp [intOf]; omega
          case rel => exact ⟨k + 1, hlt, by omega, by go_num, trivial⟩
      · have hE : Hid (comeS s2 p.o p.d = { s2 with owes := true } ∧ refC s2 r p.o p.d = r) := Lib.hid (by unfold comeS refC; rw [hdn, if_neg h0, if_neg h0, hn2, hqe, if_pos (.inr (by omega)), if_pos (.inr (by omega))]; exact ⟨rfl, rfl⟩)
        go_wp2_with fail
        go_ret
        exact ⟨rfl, hfin.out _ _ _ _ _ hE.out.1 hE.out.2 HS.out⟩
  · have hs3 : s2 = { s with wait := s.wait.drop (p.a - s.base), base := p.a, sent := max s.sent p.a, ticks := 0 } := by rw [← hs2]; unfold confS; rw [if_neg h2, if_neg h3]
    have d2 : decide ((s.base : Int) < (p.a : Int)) = true := decide_eq_true (by omega)
    have d3 : decide (s.base < p.a) = true := decide_eq_true (by omega)
    clear h2
    go_enter Try.func29, Try.ntmps29
    go_upto_region 1 with (fail)
    go_quiet (fail)
    rename Nat => nq1
    go_upto_region 3 with (fail)
    go_quiet (fail)
    rename Nat => nq2
    go_upto_region 5 with (fail)
    go_quiet (fail)
    have S3a := ((HS.out.drewN nq1).drewN nq2).drewN nq
    clear c0 c4 HS c2 c3 z2 x0 x2
    generalize ((W1.drewN nq1).drewN nq2).drewN nq = W4 at S3a ⊢
    have c2 : W4.cell? ⟨g, 2, none⟩ = some (.int .i64 (s.base : Int)) := (S3a.blk 1 rfl).at_ 2 rfl
    have z2 := (S3a.blk 1 rfl).frozen 2
    have x2 : W4.cell? ⟨b, 2, none⟩ = some (.int .u64 (p.a : Int)) := (S3a.blk 0 rfl).at_ 2 rfl
    have S3 := S3a.put 1 rfl 2 (.int .i64 (p.a : Int))
    clear S3a
    go_upto_region 7 with (fail)
    generalize W4.setCell ⟨g, 2, none⟩ (.int .i64 (p.a : Int)) = W5 at S3 ⊢
    clear c2 z2 x2
    have c2 : W5.cell? ⟨g, 2, none⟩ = some (.int .i64 (p.a : Int)) := (S3.blk 1 rfl).at_ 2 rfl
    have c3 : W5.cell? ⟨g, 3, none⟩ = some (.int .i64 (s.sent : Int)) := (S3.blk 1 rfl).at_ 3 rfl
    have z3 := (S3.blk 1 rfl).frozen 3
    obtain ⟨mx, hmx⟩ : ∃ mx, max s.sent p.a = mx := ⟨_, rfl⟩
    rw [hmx] at hs3
    have HMX := Lib.hid hmx
    clear hmx
    by_cases hm1 : (s.sent : Int) < (p.a : Int)
    · have hmv : mx = p.a := by have := HMX.out; omega
      rw [hmv] at hs3
      have HS3 := Lib.hid hs3
      have HS2' := Lib.hid hs2
      have HCF := Lib.hid hcf
      clear hmv hs3 hs2 hcf h3
      refine plain_under (fun w => w.cell? ⟨g, 2, none⟩ = some (.int .i64 (p.a : Int)) ∧ w.cell? ⟨g, 3, none⟩ = some (.int .i64 (s.sent : Int))) (fun j => decide (j < 12)) (by kernel_rfl) ?_
      have hSS : W5.drew.cell? ⟨g, 2, none⟩ = some (.int .i64 (p.a : Int)) ∧ W5.drew.cell? ⟨g, 3, none⟩ = some (.int .i64 (s.sent : Int)) := ⟨c2, c3⟩
      have S4 := S3.drew
      have z4 : W5.drew.frozen? ⟨g, 3, none⟩ = false := z3
      clear c2 c3 z3 S3
      generalize W5.drew = W6 at hSS S4 z4 ⊢
      simp only [List.size_toArray, List.length_cons, List.length_nil, Nat.reduceAdd, Array.replicate_succ, Array.replicate_zero, List.push_toArray, List.nil_append, List.cons_append]
      refine under_free (i := 0) (v := ?_) rfl (by kernel_rfl) (fun _ _ _ h => h) _ _ _ _ (by kernel_rfl) (by kernel_rfl) (Or.inl ⟨by rfl, ?_⟩) ?_
      rotate_left
      · intro w _
        go_simp
        try with_reducible rfl
      simp only [Act.put, List.setIfInBounds_toArray, List.set_cons_zero, List.set_cons_succ, List.getElem_toArray, List.getElem_cons_zero]
      refine under_free (i := 1) (v := ?_) rfl (by kernel_rfl) (fun _ _ _ h => h) _ _ _ _ (by kernel_rfl) (by kernel_rfl) (Or.inl ⟨by rfl, ?_⟩) ?_
      rotate_left
      · intro w _
        go_simp
        try with_reducible rfl
      simp only [Act.put, List.setIfInBounds_toArray, List.set_cons_zero, List.set_cons_succ, List.getElem_toArray, List.getElem_cons_zero, List.getElem_cons_succ]
      refine under_free (i := 2) (v := ?_) rfl (by kernel_rfl) (fun _ _ _ h => h) _ _ _ _ (by kernel_rfl) (by kernel_rfl) (Or.inl ⟨by rfl, ?_⟩) ?_
      rotate_left
      · intro w _
        go_simp
        try with_reducible rfl
      simp only [Act.put, List.setIfInBounds_toArray, List.set_cons_zero, List.set_cons_succ, List.getElem_toArray, List.getElem_cons_zero, List.getElem_cons_succ]
      refine under_free (i := 3) (v := ?_) rfl (by kernel_rfl) (fun _ _ _ h => h) _ _ _ _ (by kernel_rfl) (by kernel_rfl) (Or.inl ⟨by rfl, ?_⟩) ?_
      rotate_left
      · intro w _
        go_simp
        try with_reducible rfl
      simp only [Act.put, List.setIfInBounds_toArray, List.set_cons_zero, List.set_cons_succ, List.getElem_toArray, List.getElem_cons_zero, List.getElem_cons_succ]
      refine under_take (i := 4) (v := ?_) rfl (by kernel_rfl) (by kernel_rfl) (fun _ _ _ h => h) _ _ _ _ (by kernel_rfl) (by kernel_rfl) (by kernel_rfl) (Or.inl ⟨by rfl, ?_⟩) hSS ?_
      rotate_left
      · intro w hSw
        obtain ⟨q0, q1⟩ := hSw
        go_simp
        try with_reducible rfl
      simp only [Act.put, List.setIfInBounds_toArray, List.set_cons_zero, List.set_cons_succ, List.getElem_toArray, List.getElem_cons_zero, List.getElem_cons_succ]
      refine under_free (i := 5) (v := ?_) rfl (by kernel_rfl) (fun _ _ _ h => h) _ _ _ _ (by kernel_rfl) (by kernel_rfl) (Or.inl ⟨by rfl, ?_⟩) ?_
      rotate_left
      · intro w _
        go_simp
        try with_reducible rfl
      simp only [Act.put, List.setIfInBounds_toArray, List.set_cons_zero, List.set_cons_succ, List.getElem_toArray, List.getElem_cons_zero, List.getElem_cons_succ]
      refine under_free (i := 6) (v := ?_) rfl (by kernel_rfl) (fun _ _ _ h => h) _ _ _ _ (by kernel_rfl) (by kernel_rfl) (Or.inl ⟨by rfl, ?_⟩) ?_
      rotate_left
      · intro w _
        go_simp
        try with_reducible rfl
      simp only [Act.put, List.setIfInBounds_toArray, List.set_cons_zero, List.set_cons_succ, List.getElem_toArray, List.getElem_cons_zero, List.getElem_cons_succ]
      refine under_free (i := 7) (v := ?_) rfl (by kernel_rfl) (fun _ _ _ h => h) _ _ _ _ (by kernel_rfl) (by kernel_rfl) (Or.inl ⟨by rfl, ?_⟩) ?_
      rotate_left
      · intro w _
        go_simp
        try with_reducible rfl
      simp only [Act.put, List.setIfInBounds_toArray, List.set_cons_zero, List.set_cons_succ, List.getElem_toArray, List.getElem_cons_zero, List.getElem_cons_succ]
      refine under_take (i := 8) (v := ?_) rfl (by kernel_rfl) (by kernel_rfl) (fun _ _ _ h => h) _ _ _ _ (by kernel_rfl) (by kernel_rfl) (by kernel_rfl) (Or.inl ⟨by rfl, ?_⟩) hSS ?_
      rotate_left
      · intro w hSw
        obtain ⟨q0, q1⟩ := hSw
        go_simp
        try with_reducible rfl
      simp only [Act.put, List.setIfInBounds_toArray, List.set_cons_zero, List.set_cons_succ, List.getElem_toArray, List.getElem_cons_zero, List.getElem_cons_succ]
      refine under_free (i := 9) (v := ?_) rfl (by kernel_rfl) (fun _ _ _ h => h) _ _ _ _ (by kernel_rfl) (by kernel_rfl) (Or.inl ⟨by rfl, ?_⟩) ?_
      rotate_left
      · intro w _
        go_simp
        try with_reducible rfl
      simp only [Act.put, List.setIfInBounds_toArray, List.set_cons_zero, List.set_cons_succ, List.getElem_toArray, List.getElem_cons_zero, List.getElem_cons_succ]
      refine under_free (i := 10) (v := ?_) rfl (by kernel_rfl) (fun _ _ _ h => h) _ _ _ _ (by kernel_rfl) (by kernel_rfl) (Or.inl ⟨by rfl, ?_⟩) ?_
      rotate_left
      · intro w _
        go_simp
        try with_reducible rfl
      simp only [Act.put, List.setIfInBounds_toArray, List.set_cons_zero, List.set_cons_succ, List.getElem_toArray, List.getElem_cons_zero, List.getElem_cons_succ]
      refine under_free (i := 11) (v := ?_) rfl (by kernel_rfl) (fun _ _ _ h => h) _ _ _ _ (by kernel_rfl) (by kernel_rfl) (Or.inl ⟨by rfl, ?_⟩) ?_
      rotate_left
      · intro w _
        go_simp
        try with_reducible rfl
      simp only [Act.put, List.setIfInBounds_toArray, List.set_cons_zero, List.set_cons_succ, List.getElem_toArray, List.getElem_cons_zero, List.getElem_cons_succ]
      refine under_one (i := 12) (by kernel_rfl) rfl ?_
      intro K hK
      go_simp
      have S5 := S4.put 1 rfl 3 (.int .i64 (p.a : Int))
      refine hK _ _ (fun h => by cases h) ?_
      clear hK K S4 z4 hSS
      refine under_done (by kernel_rfl) ?_ _
      generalize W6.setCell ⟨g, 3, none⟩ (.int .i64 (p.a : Int)) = W7 at S5 ⊢
      have S6 := S5.put 1 rfl 5 (.int .i64 0)
      have z6 := (S5.blk 1 rfl).frozen 5
      have y6 : W7.cell? ⟨g, 5, none⟩ = some (.int .i64 (s.ticks : Int)) := (S5.blk 1 rfl).at_ 5 rfl
      have v3 : (W7.setCell ⟨g, 5, none⟩ (.int .i64 0)).cell? ⟨b, 3, none⟩ = some (.slice A n c) := (S6.blk 0 rfl).at_ 3 rfl
      clear S5
      go_upto_region 9 with (fail)
      generalize W7.setCell ⟨g, 5, none⟩ (.int .i64 0) = WC at S6 v3 ⊢
      have S2 : Sep w0 WC (cell b 32 #[.int .u32 (p.e : Int), .int .u64 (p.o : Int), .int .u64 (p.a : Int), .slice A n c] :: cell g 66 (s2.rcs va vi gt) :: BRow va r.all :: BRow vi r.inn :: L.eraseIdx i) := by rw [HS3.out]; exact S6
      clear S6 v3 z6 y6
      -- data come: S2 : Sep w0 WC (cell b .. :: cell g 66 (s2.rcs va vi gt) :: BRow va r.all :: BRow vi r.inn :: L.eraseIdx i)
      obtain ⟨IA, ic, hvi, hic, -⟩ := own_slice (S2.own 3 rfl)
      rw [hm] at hvi hic
      subst hvi
      have c6 : WC.cell? ⟨g, 6, none⟩ = some (.slice IA m ic) := (S2.blk 1 rfl).at_ 6 rfl
      have c7 : WC.cell? ⟨g, 7, none⟩ = some (.int .i64 (gt : Int)) := (S2.blk 1 rfl).at_ 7 rfl
      have c8 : WC.cell? ⟨g, 8, none⟩ = some (.bool s2.owes) := (S2.blk 1 rfl).at_ 8 rfl
      have z8 := (S2.blk 1 rfl).frozen 8
      have x1 : WC.cell? ⟨b, 1, none⟩ = some (.int .u64 (p.o : Int)) := (S2.blk 0 rfl).at_ 1 rfl
      have x3 : WC.cell? ⟨b, 3, none⟩ = some (.slice A n c) := (S2.blk 0 rfl).at_ 3 rfl
      by_cases h0 : n = 0
      · have HS := Lib.hid S2
        have hE : Hid (comeS s2 p.o p.d = s2 ∧ refC s2 r p.o p.d = r) := Lib.hid (by unfold comeS refC; rw [hdn, if_pos h0, if_pos h0]; exact ⟨rfl, rfl⟩)
        have e0 : ((n : Int) == 0) = true := by simp; omega
        have e1 : (n == 0) = true := by simp; omega
        clear S2 h0
        go_wp2_with fail
        go_ret
        exact ⟨rfl, hfin.out _ _ _ _ _ hE.out.1 hE.out.2 HS.out⟩
      have e0 : ((n : Int) == 0) = false := by simp; omega
      have e1 : (n == 0) = false := by simp; omega
      have S3 := S2.put 1 rfl 8 (.bool true)
      replace S3 : Sep w0 _ (cell b 32 #[.int .u32 (p.e : Int), .int .u64 (p.o : Int), .int .u64 (p.a : Int), .slice A n c] :: cell g 66 (({ s2 with owes := true } : LS).rcs va (.slice IA m ic) gt) :: BRow va r.all :: BRow (.slice IA m ic) r.inn :: L.eraseIdx i) := S3
      obtain ⟨WD, hWD⟩ : ∃ W, WC.setCell ⟨g, 8, none⟩ (.bool true) = W := ⟨_, rfl⟩
      rw [hWD] at S3
      have d6 : WD.cell? ⟨g, 6, none⟩ = some (.slice IA m ic) := (S3.blk 1 rfl).at_ 6 rfl
      have d7 : WD.cell? ⟨g, 7, none⟩ = some (.int .i64 (gt : Int)) := (S3.blk 1 rfl).at_ 7 rfl
      have u1 : WD.cell? ⟨b, 1, none⟩ = some (.int .u64 (p.o : Int)) := (S3.blk 0 rfl).at_ 1 rfl
      have u3 : WD.cell? ⟨b, 3, none⟩ = some (.slice A n c) := (S3.blk 0 rfl).at_ 3 rfl
      have i0 : IntKind.u64.wrap (m : Int) = (m : Int) := u64_in (by omega) (by omega)
      have HS := Lib.hid S3
      clear S2 S3
      by_cases h1 : m < p.o
      · have d1 : decide ((m : Int) < (p.o : Int)) = true := decide_eq_true (by omega)
        have d2 : decide (m < p.o) = true := decide_eq_true h1
        have hE : Hid (comeS s2 p.o p.d = { s2 with owes := true } ∧ refC s2 r p.o p.d = r) := Lib.hid (by unfold comeS refC; rw [hdn, if_neg h0, if_neg h0, hn2, if_pos (.inl h1), if_pos (.inl h1)]; exact ⟨rfl, rfl⟩)
        clear h0 h1
        go_wp2_with fail
        go_ret
        exact ⟨rfl, hfin.out _ _ _ _ _ hE.out.1 hE.out.2 HS.out⟩
      have d1 : decide ((m : Int) < (p.o : Int)) = false := decide_eq_false (by omega)
      have d2 : decide (m < p.o) = false := decide_eq_false h1
      obtain ⟨q, hqe⟩ : ∃ q, m - p.o = q := ⟨_, rfl⟩
      go_wp2_with fail
      go_loopw [6] (fun p6 wr => ∃ k : Nat, k ≤ n ∧ k ≤ q ∧ p6 = .int .i64 (k : Int) ∧ wr = WD) (fun p6 _ => n - (intOf p6).toNat)
      case atStart => exact ⟨0, Nat.zero_le _, Nat.zero_le _, rfl, rfl⟩
      case round =>
        obtain ⟨k, hkn, hkq, rfl, rfl⟩ := hrel
        clear c6 c7 c8 z8 x1 x3 hWD
        by_cases hlt : k < n
        · have hlt' : (k : Int) < (n : Int) := by omega
          have j5 : IntKind.u64.wrap (k : Int) = (k : Int) := u64_in (by omega) (by omega)
          have j6 : IntKind.u64.wrap ((p.o : Int) + (k : Int)) = (p.o : Int) + (k : Int) := u64_in (by omega) (by omega)
          by_cases hke : k = q
          · subst hke
            have hsum : (p.o : Int) + (k : Int) = (m : Int) := by omega
            obtain ⟨gl, hgle⟩ : ∃ gl, s.got.length = gl := ⟨_, rfl⟩
            have k1 : IntKind.i64.wrap ((m : Int) - (gt : Int)) = (gl : Int) := by rw [IntWalk.i64_in _ (by omega)]; omega
            have k2 : IntKind.i64.wrap ((gl : Int) + (n : Int)) = (gl : Int) + (n : Int) := IntWalk.i64_in _ (by omega)
            have k3 : IntKind.i64.wrap ((gl : Int) + (n : Int) - (k : Int)) = (gl : Int) + (n : Int) - (k : Int) := IntWalk.i64_in _ (by omega)
            have hq2 : s2.next - p.o = k := by rw [hn2]; omega
            have hg3 : s2.got.length = gl := by rw [hg2]; exact hgle
            by_cases hfit : 1048576 < gl + (n - k)
            · have e3 : decide ((gl : Int) + (n : Int) - (k : Int) ≤ 1048576) = false := decide_eq_false (by omega)
              have hE : Hid (comeS s2 p.o p.d = { s2 with owes := true } ∧ refC s2 r p.o p.d = r) := Lib.hid (come_full s2 r p.o p.d n k gl hdn hq2 hg3 h0 (by omega) hlt hfit)
              go_upto_region 19 with (fail)
              go_quiet (fail)
              go_wp2_with fail
              go_ret
              exact ⟨rfl, hfin.out _ _ _ _ _ hE.out.1 hE.out.2 (HS.out.drewN _)⟩
            · have e3 : decide ((gl : Int) + (n : Int) - (k : Int) ≤ 1048576) = true := decide_eq_true (by omega)
              have hE : Hid (comeS s2 p.o p.d = { s2 with owes := true, got := s2.got ++ p.d.drop k, next := s2.next + (n - k) } ∧ refC s2 r p.o p.d = { r with inn := r.inn ++ p.d.drop k }) := Lib.hid (come_fits s2 r p.o p.d n k gl hdn hq2 hg3 h0 (by omega) hlt hfit)
              have sl := part_lo 27 1 Try.underlying27 size5 .i64 A n c k (by omega)
              go_upto_region 19 with (fail)
              go_quiet (fail)
              go_upto_region 20 with (fail)
              refine plain_under (fun w => w.cell? ⟨g, 6, none⟩ = some (.slice IA m ic) ∧ w.cell? ⟨b, 3, none⟩ = some (.slice A n c)) (fun j => decide (j < 12)) (by kernel_rfl) ?_
              have hSS : (wr.drewN nq).drew.cell? ⟨g, 6, none⟩ = some (.slice IA m ic) ∧ (wr.drewN nq).drew.cell? ⟨b, 3, none⟩ = some (.slice A n c) := ⟨d6, u3⟩
              have S5 := (HS.out.drewN nq).drew
              clear d6 d7 u1 u3
              generalize (wr.drewN nq).drew = w5 at hSS S5 ⊢
              simp only [List.size_toArray, List.length_cons, List.length_nil, Nat.reduceAdd, Array.replicate_succ, Array.replicate_zero, List.push_toArray, List.nil_append, List.cons_append]
              refine under_free (i := 0) (v := ?_) rfl (by kernel_rfl) (fun _ _ _ h => h) _ _ _ _ (by kernel_rfl) (by kernel_rfl) (Or.inl ⟨by rfl, ?_⟩) ?_
              rotate_left
              · intro w _
                go_simp
                try with_reducible rfl
              simp only [Act.put, List.setIfInBounds_toArray, List.set_cons_zero, List.set_cons_succ, List.getElem_toArray, List.getElem_cons_zero]
              refine under_free (i := 1) (v := ?_) rfl (by kernel_rfl) (fun _ _ _ h => h) _ _ _ _ (by kernel_rfl) (by kernel_rfl) (Or.inl ⟨by rfl, ?_⟩) ?_
              rotate_left
              · intro w _
                go_simp
                try with_reducible rfl
              simp only [Act.put, List.setIfInBounds_toArray, List.set_cons_zero, List.set_cons_succ, List.getElem_toArray, List.getElem_cons_zero, List.getElem_cons_succ]
              refine under_free (i := 2) (v := ?_) rfl (by kernel_rfl) (fun _ _ _ h => h) _ _ _ _ (by kernel_rfl) (by kernel_rfl) (Or.inl ⟨by rfl, ?_⟩) ?_
              rotate_left
              · intro w _
                go_simp
                try with_reducible rfl
              simp only [Act.put, List.setIfInBounds_toArray, List.set_cons_zero, List.set_cons_succ, List.getElem_toArray, List.getElem_cons_zero, List.getElem_cons_succ]
              refine under_free (i := 3) (v := ?_) rfl (by kernel_rfl) (fun _ _ _ h => h) _ _ _ _ (by kernel_rfl) (by kernel_rfl) (Or.inl ⟨by rfl, ?_⟩) ?_
              rotate_left
              · intro w _
                go_simp
                try with_reducible rfl
              simp only [Act.put, List.setIfInBounds_toArray, List.set_cons_zero, List.set_cons_succ, List.getElem_toArray, List.getElem_cons_zero, List.getElem_cons_succ]
              refine under_take (i := 4) (v := ?_) rfl (by kernel_rfl) (by kernel_rfl) (fun _ _ _ h => h) _ _ _ _ (by kernel_rfl) (by kernel_rfl) (by kernel_rfl) (Or.inl ⟨by rfl, ?_⟩) hSS ?_
              rotate_left
              · intro w hSw
                obtain ⟨q0, q1⟩ := hSw
                go_simp
                try with_reducible rfl
              simp only [Act.put, List.setIfInBounds_toArray, List.set_cons_zero, List.set_cons_succ, List.getElem_toArray, List.getElem_cons_zero, List.getElem_cons_succ]
              refine under_free (i := 5) (v := ?_) rfl (by kernel_rfl) (fun _ _ _ h => h) _ _ _ _ (by kernel_rfl) (by kernel_rfl) (Or.inl ⟨by rfl, ?_⟩) ?_
              rotate_left
              · intro w _
                go_simp
                try with_reducible rfl
              simp only [Act.put, List.setIfInBounds_toArray, List.set_cons_zero, List.set_cons_succ, List.getElem_toArray, List.getElem_cons_zero, List.getElem_cons_succ]
              refine under_take (i := 6) (v := ?_) rfl (by kernel_rfl) (by kernel_rfl) (fun _ _ _ h => h) _ _ _ _ (by kernel_rfl) (by kernel_rfl) (by kernel_rfl) (Or.inl ⟨by rfl, ?_⟩) hSS ?_
              rotate_left
              · intro w hSw
                obtain ⟨q0, q1⟩ := hSw
                go_simp
                try with_reducible rfl
              simp only [Act.put, List.setIfInBounds_toArray, List.set_cons_zero, List.set_cons_succ, List.getElem_toArray, List.getElem_cons_zero, List.getElem_cons_succ]
              refine under_free (i := 7) (v := ?_) rfl (by kernel_rfl) (fun _ _ _ h => h) _ _ _ _ (by kernel_rfl) (by kernel_rfl) (Or.inl ⟨by rfl, ?_⟩) ?_
              rotate_left
              · intro w _
                go_simp
                try with_reducible rfl
              simp only [Act.put, List.setIfInBounds_toArray, List.set_cons_zero, List.set_cons_succ, List.getElem_toArray, List.getElem_cons_zero, List.getElem_cons_succ]
              refine under_free (i := 8) (v := ?_) rfl (by kernel_rfl) (fun _ _ _ h => h) _ _ _ _ (by kernel_rfl) (by kernel_rfl) (Or.inl ⟨by rfl, ?_⟩) ?_
              rotate_left
              · intro w _
                go_simp
                try with_reducible rfl
              simp only [Act.put, List.setIfInBounds_toArray, List.set_cons_zero, List.set_cons_succ, List.getElem_toArray, List.getElem_cons_zero, List.getElem_cons_succ]
              refine under_one (i := 9) (by kernel_rfl) rfl ?_
              intro K hK
              obtain ⟨i5, hi5, hz0, hz1, hz2⟩ := info_parts info5
              have hRk := (hR.below S5.below).drop k (by omega) hnc
              refine step_append_any _ rfl (.tmp 103) (.tmp 107) 27 rfl 0 5 i5 _ 1 1 Try.underlying27 hi5 hz0 hz1 hz2 rfl (by omega) (.slice IA m ic) m (r.inn.map enB) rfl (by have h := S5.own 3 rfl; rwa [hm] at h) _ (subV A c k 1) (n - k) (c - k) ((p.d.drop k).map enB) rfl hRk.2 (enB_one _) (by unfold maxLen; omega) (by omega) (Nat.zero_le _) ?_
              intro v7 w7 hown hg7 hat
              have hl2 : (r.inn ++ p.d.drop k).length = m + (n - k) := by rw [List.length_append, hm, hRk.1]
              have hown2 : w7.ownsRow 0 5 1 v7 (r.inn ++ p.d.drop k).length ((r.inn ++ p.d.drop k).map enB) := by rw [hl2, List.map_append]; exact hown
              have S6 := S5.pushed 3 rfl hown2 hg7 hat
              replace hSS : w7.cell? ⟨g, 6, none⟩ = some (.slice IA m ic) ∧ w7.cell? ⟨b, 3, none⟩ = some (.slice A n c) := ⟨(S6.blk 1 rfl).at_ 6 rfl, (S6.blk 0 rfl).at_ 3 rfl⟩
              refine hK _ _ (fun _ => hSS) ?_
              clear hK K hown hown2 hg7 hat S5
              obtain ⟨a7, c7, hv7, -, -⟩ := own_slice (S6.own 3 rfl)
              rw [hl2] at hv7
              subst hv7
              have z6 := (S6.blk 1 rfl).frozen 6
              have y6 := hSS.1
              simp only [Act.put, List.setIfInBounds_toArray, List.set_cons_zero, List.set_cons_succ, List.getElem_toArray, List.getElem_cons_zero, List.getElem_cons_succ]
              refine under_free (i := 10) (v := ?_) rfl (by kernel_rfl) (fun _ _ _ h => h) _ _ _ _ (by kernel_rfl) (by kernel_rfl) (Or.inl ⟨by rfl, ?_⟩) ?_
              rotate_left
              · intro w _
                go_simp
                try with_reducible rfl
              simp only [Act.put, List.setIfInBounds_toArray, List.set_cons_zero, List.set_cons_succ, List.getElem_toArray, List.getElem_cons_zero, List.getElem_cons_succ]
              refine under_free (i := 11) (v := ?_) rfl (by kernel_rfl) (fun _ _ _ h => h) _ _ _ _ (by kernel_rfl) (by kernel_rfl) (Or.inl ⟨by rfl, ?_⟩) ?_
              rotate_left
              · intro w _
                go_simp
                try with_reducible rfl
              simp only [Act.put, List.setIfInBounds_toArray, List.set_cons_zero, List.set_cons_succ, List.getElem_toArray, List.getElem_cons_zero, List.getElem_cons_succ]
              refine under_one (i := 12) (by kernel_rfl) rfl ?_
              intro K hK
              go_simp
              have S8 := S6.put 1 rfl 6 (.slice a7 (m + (n - k)) c7)
              refine hK _ _ (fun h => by cases h) ?_
              clear hK K S6 z6 y6 hSS
              refine under_done (by kernel_rfl) ?_ _
              go_wp2_with fail
              go_ret
              refine ⟨rfl, hfin.out _ _ _ va (.slice a7 (m + (n - k)) c7) hE.out.1 hE.out.2 ?_⟩
              exact S8
          · have e2 : ((p.o : Int) + (k : Int) != (m : Int)) = true := by simp; omega
            have H1 := Lib.hid HS
            go_wp2_with fail
            go_roundw
            case measure => simp [intOf]; omega
            case rel => exact ⟨k + 1, hlt, by omega, by go_num, trivial⟩
        · have hE : Hid (comeS s2 p.o p.d = { s2 with owes := true } ∧ refC s2 r p.o p.d = r) := Lib.hid (by unfold comeS refC; rw [hdn, if_neg h0, if_neg h0, hn2, hqe, if_pos (.inr (by omega)), if_pos (.inr (by omega))]; exact ⟨rfl, rfl⟩)
          go_wp2_with fail
          go_ret
          exact ⟨rfl, hfin.out _ _ _ _ _ hE.out.1 hE.out.2 HS.out⟩
    · have hmv : mx = s.sent := by have := HMX.out; omega
      rw [hmv] at hs3
      have HS3 := Lib.hid hs3
      have HS2' := Lib.hid hs2
      have HCF := Lib.hid hcf
      clear hmv hs3 hs2 hcf h3
      refine plain_under (fun w => w.cell? ⟨g, 2, none⟩ = some (.int .i64 (p.a : Int)) ∧ w.cell? ⟨g, 3, none⟩ = some (.int .i64 (s.sent : Int))) (fun j => decide (j < 12)) (by kernel_rfl) ?_
      have hSS : W5.drew.cell? ⟨g, 2, none⟩ = some (.int .i64 (p.a : Int)) ∧ W5.drew.cell? ⟨g, 3, none⟩ = some (.int .i64 (s.sent : Int)) := ⟨c2, c3⟩
      have S4 := S3.drew
      have z4 : W5.drew.frozen? ⟨g, 3, none⟩ = false := z3
      clear c2 c3 z3 S3
      generalize W5.drew = W6 at hSS S4 z4 ⊢
      simp only [List.size_toArray, List.length_cons, List.length_nil, Nat.reduceAdd, Array.replicate_succ, Array.replicate_zero, List.push_toArray, List.nil_append, List.cons_append]
      refine under_free (i := 0) (v := ?_) rfl (by kernel_rfl) (fun _ _ _ h => h) _ _ _ _ (by kernel_rfl) (by kernel_rfl) (Or.inl ⟨by rfl, ?_⟩) ?_
      rotate_left
      · intro w _
        go_simp
        try with_reducible rfl
      simp only [Act.put, List.setIfInBounds_toArray, List.set_cons_zero, List.set_cons_succ, List.getElem_toArray, List.getElem_cons_zero]
      refine under_free (i := 1) (v := ?_) rfl (by kernel_rfl) (fun _ _ _ h => h) _ _ _ _ (by kernel_rfl) (by kernel_rfl) (Or.inl ⟨by rfl, ?_⟩) ?_
      rotate_left
      · intro w _
        go_simp
        try with_reducible rfl
      simp only [Act.put, List.setIfInBounds_toArray, List.set_cons_zero, List.set_cons_succ, List.getElem_toArray, List.getElem_cons_zero, List.getElem_cons_succ]
      refine under_free (i := 2) (v := ?_) rfl (by kernel_rfl) (fun _ _ _ h => h) _ _ _ _ (by kernel_rfl) (by kernel_rfl) (Or.inl ⟨by rfl, ?_⟩) ?_
      rotate_left
      · intro w _
        go_simp
        try with_reducible rfl
      simp only [Act.put, List.setIfInBounds_toArray, List.set_cons_zero, List.set_cons_succ, List.getElem_toArray, List.getElem_cons_zero, List.getElem_cons_succ]
      refine under_free (i := 3) (v := ?_) rfl (by kernel_rfl) (fun _ _ _ h => h) _ _ _ _ (by kernel_rfl) (by kernel_rfl) (Or.inl ⟨by rfl, ?_⟩) ?_
      rotate_left
      · intro w _
        go_simp
        try with_reducible rfl
      simp only [Act.put, List.setIfInBounds_toArray, List.set_cons_zero, List.set_cons_succ, List.getElem_toArray, List.getElem_cons_zero, List.getElem_cons_succ]
      refine under_take (i := 4) (v := ?_) rfl (by kernel_rfl) (by kernel_rfl) (fun _ _ _ h => h) _ _ _ _ (by kernel_rfl) (by kernel_rfl) (by kernel_rfl) (Or.inl ⟨by rfl, ?_⟩) hSS ?_
      rotate_left
      · intro w hSw
        obtain ⟨q0, q1⟩ := hSw
        go_simp
        try with_reducible rfl
      simp only [Act.put, List.setIfInBounds_toArray, List.set_cons_zero, List.set_cons_succ, List.getElem_toArray, List.getElem_cons_zero, List.getElem_cons_succ]
      refine under_free (i := 5) (v := ?_) rfl (by kernel_rfl) (fun _ _ _ h => h) _ _ _ _ (by kernel_rfl) (by kernel_rfl) (Or.inl ⟨by rfl, ?_⟩) ?_
      rotate_left
      · intro w _
        go_simp
        try with_reducible rfl
      simp only [Act.put, List.setIfInBounds_toArray, List.set_cons_zero, List.set_cons_succ, List.getElem_toArray, List.getElem_cons_zero, List.getElem_cons_succ]
      refine under_free (i := 6) (v := ?_) rfl (by kernel_rfl) (fun _ _ _ h => h) _ _ _ _ (by kernel_rfl) (by kernel_rfl) (Or.inl ⟨by rfl, ?_⟩) ?_
      rotate_left
      · intro w _
        go_simp
        try with_reducible rfl
      simp only [Act.put, List.setIfInBounds_toArray, List.set_cons_zero, List.set_cons_succ, List.getElem_toArray, List.getElem_cons_zero, List.getElem_cons_succ]
      refine under_free (i := 7) (v := ?_) rfl (by kernel_rfl) (fun _ _ _ h => h) _ _ _ _ (by kernel_rfl) (by kernel_rfl) (Or.inl ⟨by rfl, ?_⟩) ?_
      rotate_left
      · intro w _
        go_simp
        try with_reducible rfl
      simp only [Act.put, List.setIfInBounds_toArray, List.set_cons_zero, List.set_cons_succ, List.getElem_toArray, List.getElem_cons_zero, List.getElem_cons_succ]
      refine under_take (i := 8) (v := ?_) rfl (by kernel_rfl) (by kernel_rfl) (fun _ _ _ h => h) _ _ _ _ (by kernel_rfl) (by kernel_rfl) (by kernel_rfl) (Or.inl ⟨by rfl, ?_⟩) hSS ?_
      rotate_left
      · intro w hSw
        obtain ⟨q0, q1⟩ := hSw
        go_simp
        try with_reducible rfl
      simp only [Act.put, List.setIfInBounds_toArray, List.set_cons_zero, List.set_cons_succ, List.getElem_toArray, List.getElem_cons_zero, List.getElem_cons_succ]
      refine under_free (i := 9) (v := ?_) rfl (by kernel_rfl) (fun _ _ _ h => h) _ _ _ _ (by kernel_rfl) (by kernel_rfl) (Or.inl ⟨by rfl, ?_⟩) ?_
      rotate_left
      · intro w _
        go_simp
        try with_reducible rfl
      simp only [Act.put, List.setIfInBounds_toArray, List.set_cons_zero, List.set_cons_succ, List.getElem_toArray, List.getElem_cons_zero, List.getElem_cons_succ]
      refine under_free (i := 10) (v := ?_) rfl (by kernel_rfl) (fun _ _ _ h => h) _ _ _ _ (by kernel_rfl) (by kernel_rfl) (Or.inl ⟨by rfl, ?_⟩) ?_
      rotate_left
      · intro w _
        go_simp
        try with_reducible rfl
      simp only [Act.put, List.setIfInBounds_toArray, List.set_cons_zero, List.set_cons_succ, List.getElem_toArray, List.getElem_cons_zero, List.getElem_cons_succ]
      refine under_free (i := 11) (v := ?_) rfl (by kernel_rfl) (fun _ _ _ h => h) _ _ _ _ (by kernel_rfl) (by kernel_rfl) (Or.inl ⟨by rfl, ?_⟩) ?_
      rotate_left
      · intro w _
        go_simp
        try with_reducible rfl
      simp only [Act.put, List.setIfInBounds_toArray, List.set_cons_zero, List.set_cons_succ, List.getElem_toArray, List.getElem_cons_zero, List.getElem_cons_succ]
      refine under_one (i := 12) (by kernel_rfl) rfl ?_
      intro K hK
      go_simp
      have S5 := S4.put 1 rfl 3 (.int .i64 (s.sent : Int))
      refine hK _ _ (fun h => by cases h) ?_
      clear hK K S4 z4 hSS
      refine under_done (by kernel_rfl) ?_ _
      generalize W6.setCell ⟨g, 3, none⟩ (.int .i64 (s.sent : Int)) = W7 at S5 ⊢
      have S6 := S5.put 1 rfl 5 (.int .i64 0)
      have z6 := (S5.blk 1 rfl).frozen 5
      have y6 : W7.cell? ⟨g, 5, none⟩ = some (.int .i64 (s.ticks : Int)) := (S5.blk 1 rfl).at_ 5 rfl
      have v3 : (W7.setCell ⟨g, 5, none⟩ (.int .i64 0)).cell? ⟨b, 3, none⟩ = some (.slice A n c) := (S6.blk 0 rfl).at_ 3 rfl
      clear S5
      go_upto_region 9 with (fail)
      generalize W7.setCell ⟨g, 5, none⟩ (.int .i64 0) = WC at S6 v3 ⊢
      have S2 : Sep w0 WC (cell b 32 #[.int .u32 (p.e : Int), .int .u64 (p.o : Int), .int .u64 (p.a : Int), .slice A n c] :: cell g 66 (s2.rcs va vi gt) :: BRow va r.all :: BRow vi r.inn :: L.eraseIdx i) := by rw [HS3.out]; exact S6
      clear S6 v3 z6 y6
      -- data come: S2 : Sep w0 WC (cell b .. :: cell g 66 (s2.rcs va vi gt) :: BRow va r.all :: BRow vi r.inn :: L.eraseIdx i)
      obtain ⟨IA, ic, hvi, hic, -⟩ := own_slice (S2.own 3 rfl)
      rw [hm] at hvi hic
      subst hvi
      have c6 : WC.cell? ⟨g, 6, none⟩ = some (.slice IA m ic) := (S2.blk 1 rfl).at_ 6 rfl
      have c7 : WC.cell? ⟨g, 7, none⟩ = some (.int .i64 (gt : Int)) := (S2.blk 1 rfl).at_ 7 rfl
      have c8 : WC.cell? ⟨g, 8, none⟩ = some (.bool s2.owes) := (S2.blk 1 rfl).at_ 8 rfl
      have z8 := (S2.blk 1 rfl).frozen 8
      have x1 : WC.cell? ⟨b, 1, none⟩ = some (.int .u64 (p.o : Int)) := (S2.blk 0 rfl).at_ 1 rfl
      have x3 : WC.cell? ⟨b, 3, none⟩ = some (.slice A n c) := (S2.blk 0 rfl).at_ 3 rfl
      by_cases h0 : n = 0
      · have HS := Lib.hid S2
        have hE : Hid (comeS s2 p.o p.d = s2 ∧ refC s2 r p.o p.d = r) := Lib.hid (by unfold comeS refC; rw [hdn, if_pos h0, if_pos h0]; exact ⟨rfl, rfl⟩)
        have e0 : ((n : Int) == 0) = true := by simp; omega
        have e1 : (n == 0) = true := by simp; omega
        clear S2 h0
        go_wp2_with fail
        go_ret
        exact ⟨rfl, hfin.out _ _ _ _ _ hE.out.1 hE.out.2 HS.out⟩
      have e0 : ((n : Int) == 0) = false := by simp; omega
      have e1 : (n == 0) = false := by simp; omega
      have S3 := S2.put 1 rfl 8 (.bool true)
      replace S3 : Sep w0 _ (cell b 32 #[.int .u32 (p.e : Int), .int .u64 (p.o : Int), .int .u64 (p.a : Int), .slice A n c] :: cell g 66 (({ s2 with owes := true } : LS).rcs va (.slice IA m ic) gt) :: BRow va r.all :: BRow (.slice IA m ic) r.inn :: L.eraseIdx i) := S3
      obtain ⟨WD, hWD⟩ : ∃ W, WC.setCell ⟨g, 8, none⟩ (.bool true) = W := ⟨_, rfl⟩
      rw [hWD] at S3
      have d6 : WD.cell? ⟨g, 6, none⟩ = some (.slice IA m ic) := (S3.blk 1 rfl).at_ 6 rfl
      have d7 : WD.cell? ⟨g, 7, none⟩ = some (.int .i64 (gt : Int)) := (S3.blk 1 rfl).at_ 7 rfl
      have u1 : WD.cell? ⟨b, 1, none⟩ = some (.int .u64 (p.o : Int)) := (S3.blk 0 rfl).at_ 1 rfl
      have u3 : WD.cell? ⟨b, 3, none⟩ = some (.slice A n c) := (S3.blk 0 rfl).at_ 3 rfl
      have i0 : IntKind.u64.wrap (m : Int) = (m : Int) := u64_in (by omega) (by omega)
      have HS := Lib.hid S3
      clear S2 S3
      by_cases h1 : m < p.o
      · have d1 : decide ((m : Int) < (p.o : Int)) = true := decide_eq_true (by omega)
        have d2 : decide (m < p.o) = true := decide_eq_true h1
        have hE : Hid (comeS s2 p.o p.d = { s2 with owes := true } ∧ refC s2 r p.o p.d = r) := Lib.hid (by unfold comeS refC; rw [hdn, if_neg h0, if_neg h0, hn2, if_pos (.inl h1), if_pos (.inl h1)]; exact ⟨rfl, rfl⟩)
        clear h0 h1
        go_wp2_with fail
        go_ret
        exact ⟨rfl, hfin.out _ _ _ _ _ hE.out.1 hE.out.2 HS.out⟩
      have d1 : decide ((m : Int) < (p.o : Int)) = false := decide_eq_false (by omega)
      have d2 : decide (m < p.o) = false := decide_eq_false h1
      obtain ⟨q, hqe⟩ : ∃ q, m - p.o = q := ⟨_, rfl⟩
      go_wp2_with fail
      go_loopw [6] (fun p6 wr => ∃ k : Nat, k ≤ n ∧ k ≤ q ∧ p6 = .int .i64 (k : Int) ∧ wr = WD) (fun p6 _ => n - (intOf p6).toNat)
      case atStart => exact ⟨0, Nat.zero_le _, Nat.zero_le _, rfl, rfl⟩
      case round =>
        obtain ⟨k, hkn, hkq, rfl, rfl⟩ := hrel
        clear c6 c7 c8 z8 x1 x3 hWD
        by_cases hlt : k < n
        · have hlt' : (k : Int) < (n : Int) := by omega
          have j5 : IntKind.u64.wrap (k : Int) = (k : Int) := u64_in (by omega) (by omega)
          have j6 : IntKind.u64.wrap ((p.o : Int) + (k : Int)) = (p.o : Int) + (k : Int) := u64_in (by omega) (by omega)
          by_cases hke : k = q
          · subst hke
            have hsum : (p.o : Int) + (k : Int) = (m : Int) := by omega
            obtain ⟨gl, hgle⟩ : ∃ gl, s.got.length = gl := ⟨_, rfl⟩
            have k1 : IntKind.i64.wrap ((m : Int) - (gt : Int)) = (gl : Int) := by rw [IntWalk.i64_in _ (by omega)]; omega
            have k2 : IntKind.i64.wrap ((gl : Int) + (n : Int)) = (gl : Int) + (n : Int) := IntWalk.i64_in _ (by omega)
            have k3 : IntKind.i64.wrap ((gl : Int) + (n : Int) - (k : Int)) = (gl : Int) + (n : Int) - (k : Int) := IntWalk.i64_in _ (by omega)
            have hq2 : s2.next - p.o = k := by rw [hn2]; omega
            have hg3 : s2.got.length = gl := by rw [hg2]; exact hgle
            by_cases hfit : 1048576 < gl + (n - k)
            · have e3 : decide ((gl : Int) + (n : Int) - (k : Int) ≤ 1048576) = false := decide_eq_false (by omega)
              have hE : Hid (comeS s2 p.o p.d = { s2 with owes := true } ∧ refC s2 r p.o p.d = r) := Lib.hid (come_full s2 r p.o p.d n k gl hdn hq2 hg3 h0 (by omega) hlt hfit)
              go_upto_region 19 with (fail)
              go_quiet (fail)
              go_wp2_with fail
              go_ret
              exact ⟨rfl, hfin.out _ _ _ _ _ hE.out.1 hE.out.2 (HS.out.drewN _)⟩
            · have e3 : decide ((gl : Int) + (n : Int) - (k : Int) ≤ 1048576) = true := decide_eq_true (by omega)
              have hE : Hid (comeS s2 p.o p.d = { s2 with owes := true, got := s2.got ++ p.d.drop k, next := s2.next + (n - k) } ∧ refC s2 r p.o p.d = { r with inn := r.inn ++ p.d.drop k }) := Lib.hid (come_fits s2 r p.o p.d n k gl hdn hq2 hg3 h0 (by omega) hlt hfit)
              have sl := part_lo 27 1 Try.underlying27 size5 .i64 A n c k (by omega)
              go_upto_region 19 with (fail)
              go_quiet (fail)
              go_upto_region 20 with (fail)
              refine plain_under (fun w => w.cell? ⟨g, 6, none⟩ = some (.slice IA m ic) ∧ w.cell? ⟨b, 3, none⟩ = some (.slice A n c)) (fun j => decide (j < 12)) (by kernel_rfl) ?_
              have hSS : (wr.drewN nq).drew.cell? ⟨g, 6, none⟩ = some (.slice IA m ic) ∧ (wr.drewN nq).drew.cell? ⟨b, 3, none⟩ = some (.slice A n c) := ⟨d6, u3⟩
              have S5 := (HS.out.drewN nq).drew
              clear d6 d7 u1 u3
              generalize (wr.drewN nq).drew = w5 at hSS S5 ⊢
              simp only [List.size_toArray, List.length_cons, List.length_nil, Nat.reduceAdd, Array.replicate_succ, Array.replicate_zero, List.push_toArray, List.nil_append, List.cons_append]
              refine under_free (i := 0) (v := ?_) rfl (by kernel_rfl) (fun _ _ _ h => h) _ _ _ _ (by kernel_rfl) (by kernel_rfl) (Or.inl ⟨by rfl, ?_⟩) ?_
              rotate_left
              · intro w _
                go_simp
                try with_reducible rfl
              simp only [Act.put, List.setIfInBounds_toArray, List.set_cons_zero, List.set_cons_succ, List.getElem_toArray, List.getElem_cons_zero]
              refine under_free (i := 1) (v := ?_) rfl (by kernel_rfl) (fun _ _ _ h => h) _ _ _ _ (by kernel_rfl) (by kernel_rfl) (Or.inl ⟨by rfl, ?_⟩) ?_
              rotate_left
              · intro w _
                go_simp
                try with_reducible rfl
              simp only [Act.put, List.setIfInBounds_toArray, List.set_cons_zero, List.set_cons_succ, List.getElem_toArray, List.getElem_cons_zero, List.getElem_cons_succ]
              refine under_free (i := 2) (v := ?_) rfl (by kernel_rfl) (fun _ _ _ h => h) _ _ _ _ (by kernel_rfl) (by kernel_rfl) (Or.inl ⟨by rfl, ?_⟩) ?_
              rotate_left
              · intro w _
                go_simp
                try with_reducible rfl
              simp only [Act.put, List.setIfInBounds_toArray, List.set_cons_zero, List.set_cons_succ, List.getElem_toArray, List.getElem_cons_zero, List.getElem_cons_succ]
              refine under_free (i := 3) (v := ?_) rfl (by kernel_rfl) (fun _ _ _ h => h) _ _ _ _ (by kernel_rfl) (by kernel_rfl) (Or.inl ⟨by rfl, ?_⟩) ?_
              rotate_left
              · intro w _
                go_simp
                try with_reducible rfl
              simp only [Act.put, List.setIfInBounds_toArray, List.set_cons_zero, List.set_cons_succ, List.getElem_toArray, List.getElem_cons_zero, List.getElem_cons_succ]
              refine under_take (i := 4) (v := ?_) rfl (by kernel_rfl) (by kernel_rfl) (fun _ _ _ h => h) _ _ _ _ (by kernel_rfl) (by kernel_rfl) (by kernel_rfl) (Or.inl ⟨by rfl, ?_⟩) hSS ?_
              rotate_left
              · intro w hSw
                obtain ⟨q0, q1⟩ := hSw
                go_simp
                try with_reducible rfl
              simp only [Act.put, List.setIfInBounds_toArray, List.set_cons_zero, List.set_cons_succ, List.getElem_toArray, List.getElem_cons_zero, List.getElem_cons_succ]
              refine under_free (i := 5) (v := ?_) rfl (by kernel_rfl) (fun _ _ _ h => h) _ _ _ _ (by kernel_rfl) (by kernel_rfl) (Or.inl ⟨by rfl, ?_⟩) ?_
              rotate_left
              · intro w _
                go_simp
                try with_reducible rfl
              simp only [Act.put, List.setIfInBounds_toArray, List.set_cons_zero, List.set_cons_succ, List.getElem_toArray, List.getElem_cons_zero, List.getElem_cons_succ]
              refine under_take (i := 6) (v := ?_) rfl (by kernel_rfl) (by kernel_rfl) (fun _ _ _ h => h) _ _ _ _ (by kernel_rfl) (by kernel_rfl) (by kernel_rfl) (Or.inl ⟨by rfl, ?_⟩) hSS ?_
              rotate_left
              · intro w hSw
                obtain ⟨q0, q1⟩ := hSw
                go_simp
                try with_reducible rfl
              simp only [Act.put, List.setIfInBounds_toArray, List.set_cons_zero, List.set_cons_succ, List.getElem_toArray, List.getElem_cons_zero, List.getElem_cons_succ]
              refine under_free (i := 7) (v := ?_) rfl (by kernel_rfl) (fun _ _ _ h => h) _ _ _ _ (by kernel_rfl) (by kernel_rfl) (Or.inl ⟨by rfl, ?_⟩) ?_
              rotate_left
              · intro w _
                go_simp
                try with_reducible rfl
              simp only [Act.put, List.setIfInBounds_toArray, List.set_cons_zero, List.set_cons_succ, List.getElem_toArray, List.getElem_cons_zero, List.getElem_cons_succ]
              refine under_free (i := 8) (v := ?_) rfl (by kernel_rfl) (fun _ _ _ h => h) _ _ _ _ (by kernel_rfl) (by kernel_rfl) (Or.inl ⟨by rfl, ?_⟩) ?_
              rotate_left
              · intro w _
                go_simp
                try with_reducible rfl
              simp only [Act.put, List.setIfInBounds_toArray, List.set_cons_zero, List.set_cons_succ, List.getElem_toArray, List.getElem_cons_zero, List.getElem_cons_succ]
              refine under_one (i := 9) (by kernel_rfl) rfl ?_
              intro K hK
              obtain ⟨i5, hi5, hz0, hz1, hz2⟩ := info_parts info5
              have hRk := (hR.below S5.below).drop k (by omega) hnc
              refine step_append_any _ rfl (.tmp 103) (.tmp 107) 27 rfl 0 5 i5 _ 1 1 Try.underlying27 hi5 hz0 hz1 hz2 rfl (by omega) (.slice IA m ic) m (r.inn.map enB) rfl (by have h := S5.own 3 rfl; rwa [hm] at h) _ (subV A c k 1) (n - k) (c - k) ((p.d.drop k).map enB) rfl hRk.2 (enB_one _) (by unfold maxLen; omega) (by omega) (Nat.zero_le _) ?_
              intro v7 w7 hown hg7 hat
              have hl2 : (r.inn ++ p.d.drop k).length = m + (n - k) := by rw [List.length_append, hm, hRk.1]
              have hown2 : w7.ownsRow 0 5 1 v7 (r.inn ++ p.d.drop k).length ((r.inn ++ p.d.drop k).map enB) := by rw [hl2, List.map_append]; exact hown
              have S6 := S5.pushed 3 rfl hown2 hg7 hat
              replace hSS : w7.cell? ⟨g, 6, none⟩ = some (.slice IA m ic) ∧ w7.cell? ⟨b, 3, none⟩ = some (.slice A n c) := ⟨(S6.blk 1 rfl).at_ 6 rfl, (S6.blk 0 rfl).at_ 3 rfl⟩
              refine hK _ _ (fun _ => hSS) ?_
              clear hK K hown hown2 hg7 hat S5
              obtain ⟨a7, c7, hv7, -, -⟩ := own_slice (S6.own 3 rfl)
              rw [hl2] at hv7
              subst hv7
              have z6 := (S6.blk 1 rfl).frozen 6
              have y6 := hSS.1
              simp only [Act.put, List.setIfInBounds_toArray, List.set_cons_zero, List.set_cons_succ, List.getElem_toArray, List.getElem_cons_zero, List.getElem_cons_succ]
              refine under_free (i := 10) (v := ?_) rfl (by kernel_rfl) (fun _ _ _ h => h) _ _ _ _ (by kernel_rfl) (by kernel_rfl) (Or.inl ⟨by rfl, ?_⟩) ?_
              rotate_left
              · intro w _
                go_simp
                try with_reducible rfl
              simp only [Act.put, List.setIfInBounds_toArray, List.set_cons_zero, List.set_cons_succ, List.getElem_toArray, List.getElem_cons_zero, List.getElem_cons_succ]
              refine under_free (i := 11) (v := ?_) rfl (by kernel_rfl) (fun _ _ _ h => h) _ _ _ _ (by kernel_rfl) (by kernel_rfl) (Or.inl ⟨by rfl, ?_⟩) ?_
              rotate_left
              · intro w _
                go_simp
                try with_reducible rfl
              simp only [Act.put, List.setIfInBounds_toArray, List.set_cons_zero, List.set_cons_succ, List.getElem_toArray, List.getElem_cons_zero, List.getElem_cons_succ]
              refine under_one (i := 12) (by kernel_rfl) rfl ?_
              intro K hK
              go_simp
              have S8 := S6.put 1 rfl 6 (.slice a7 (m + (n - k)) c7)
              refine hK _ _ (fun h => by cases h) ?_
              clear hK K S6 z6 y6 hSS
              refine under_done (by kernel_rfl) ?_ _
              go_wp2_with fail
              go_ret
              refine ⟨rfl, hfin.out _ _ _ va (.slice a7 (m + (n - k)) c7) hE.out.1 hE.out.2 ?_⟩
              exact S8
          · have e2 : ((p.o : Int) + (k : Int) != (m : Int)) = true := by simp; omega
            have H1 := Lib.hid HS
            go_wp2_with fail
            go_roundw
            case measure => simp [intOf]; omega
            case rel => exact ⟨k + 1, hlt, by omega, by go_num, trivial⟩
        · have hE : Hid (comeS s2 p.o p.d = { s2 with owes := true } ∧ refC s2 r p.o p.d = r) := Lib.hid (by unfold comeS refC; rw [hdn, if_neg h0, if_neg h0, hn2, hqe, if_pos (.inr (by omega)), if_pos (.inr (by omega))]; exact ⟨rfl, rfl⟩)
          go_wp2_with fail
          go_ret
          exact ⟨rfl, hfin.out _ _ _ _ _ hE.out.1 hE.out.2 HS.out⟩
end
end Go.Proofs.Ytpgiljjjpijepaa
