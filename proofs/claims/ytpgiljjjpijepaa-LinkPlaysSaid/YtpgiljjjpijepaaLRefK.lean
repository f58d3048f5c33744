/- The reference's Tick. -/
import Derived.Test.YtpgiljjjpijepaaLRefT
namespace Go.Proofs.Ytpgiljjjpijepaa
open Go.RowKit
/-- the link while it tells: the greatest Sent is not noted yet -/
structure On (s1 : LS) (s2 : LS) (ps : List Pk) : Prop where
  e1 : (pieces s1).1 = (pieces s2).1
  e2 : (pieces s1).2 = ps ++ (pieces s2).2
  wait : s2.wait = s1.wait
  base : s2.base = s1.base
  got : s2.got = s1.got
  next : s2.next = s1.next
  ticks : s2.ticks = s1.ticks
  owes : s2.owes = s1.owes
  epoch : s2.epoch = s1.epoch
  most : s2.most = max s1.most s2.sent
  lo : s2.base ≤ s2.sent
  hi : s2.sent ≤ s2.base + s2.wait.length
  win : s2.sent ≤ s2.base + 1024
theorem On.start {s : LS} (h : s.sent ≤ s.most) (h1 : s.base ≤ s.sent) (h2 : s.sent ≤ s.base + s.wait.length) (h3 : s.sent ≤ s.base + 1024) : On s s [] := ⟨rfl, rfl, rfl, rfl, rfl, rfl, rfl, rfl, rfl, by omega, h1, h2, h3⟩
theorem On.more {s1 s2 : LS} {ps : List Pk} (h : On s1 s2 ps) (hk : kOf s2 ≠ 0) : On s1 (pieceS s2) (ps ++ [pieceP s2]) := by
  have h1 := h.e1
  have h2 := h.e2
  rw [pieces_more hk] at h1 h2
  have hm := h.most
  have hkd : kOf s2 = min (min (s2.wait.length - (s2.sent - s2.base)) 256) (1024 - (s2.sent - s2.base)) := rfl
  have hlo := h.lo
  have hhi := h.hi
  have hwin := h.win
  refine ⟨h1, by rw [h2, List.append_assoc]; rfl, h.wait, h.base, h.got, h.next, h.ticks, h.owes, h.epoch, ?_, ?_, ?_, ?_⟩
  · show max s2.most (s2.sent + kOf s2) = max s1.most (s2.sent + kOf s2); omega
  · show s2.base ≤ s2.sent + kOf s2; omega
  · show s2.sent + kOf s2 ≤ s2.base + s2.wait.length; omega
  · show s2.sent + kOf s2 ≤ s2.base + 1024; omega
def sentX (g : Nat) (w : World) : Int := match w.cell? ⟨g, 3, none⟩ with | some v => intOf v | none => 0
section
variable {w0 w w' : World} {L M : List Asn}
theorem sentX_at {g gt : Nat} {s : LS} {va vi : Value} (hS : Sep w0 w L) (i : Nat) (hi : L[i]? = some (cell g 66 (s.rcs va vi gt))) : sentX g w = (s.sent : Int) := by
  have c3 : w.cell? ⟨g, 3, none⟩ = some (.int .i64 (s.sent : Int)) := (hS.blk i hi).at_ 3 rfl
  unfold sentX
  rw [c3]
  rfl
set_option maxRecDepth 100000 in
set_option maxHeartbeats 4000000 in
theorem ref_tick {e g : Nat} {s : LS} {r : RX} (hI : RI e s r) (hal : r.all.length ≤ 1000000000) (hil : r.inn.length ≤ 1000000000) (i : Nat) (hi : L[i]? = some (RefAt g s r)) (hS : Sep w0 w L) :
    Calls Try.prog 28 #[.pointer (some ⟨g, 0, none⟩)] w fun en w' => ∃ v, en = .returned v ∧ Sep w0 w' (PkX v (tickP s) :: L.set i (RefAt g (tickS s) r)) := by
  obtain ⟨va, vi, S⟩ := (hS.pick i hi).openX
  have hback : Hid (∀ W s' v ps, Sep w0 W (PkX v ps :: cell g 66 (s'.rcs va vi r.gt) :: BRow va r.all :: BRow vi r.inn :: L.eraseIdx i) → Sep w0 W (PkX v ps :: L.set i (RefAt g s' r))) := Lib.hid fun W s' v ps h => by
    have h1 : Sep w0 W (cell g 66 (s'.rcs va vi r.gt) :: BRow va r.all :: BRow vi r.inn :: PkX v ps :: L.eraseIdx i) := h.ix 4 [1, 2, 3, 0] [] (by decide)
    have h2 := Sep.closeX h1
    exact h2.swap.perm (.cons _ (perm_back hi _))
  obtain ⟨AA, ac, hva, hac, -⟩ := own_slice (S.own 1 rfl)
  obtain ⟨IA, ic, hvi, hic, -⟩ := own_slice (S.own 2 rfl)
  obtain ⟨al, hall⟩ : ∃ n, r.all.length = n := ⟨_, rfl⟩
  obtain ⟨m, hm⟩ : ∃ n, r.inn.length = n := ⟨_, rfl⟩
  obtain ⟨gt, hgt⟩ : ∃ n, r.gt = n := ⟨_, rfl⟩
  rw [hall] at hva hac hal
  rw [hm] at hvi hic hil
  rw [hgt] at S hback
  subst hva hvi
  have hl := hI.l
  have hlo := hl.lo
  have hsm := hl.sm
  have hmw := hl.mw
  have hwin := hl.win
  have hwl := hl.wlen
  have htk := hl.tk
  rw [hall] at hmw hwl
  have hnx := hI.nx
  rw [hm] at hnx
  have c3 : w.cell? ⟨g, 3, none⟩ = some (.int .i64 (s.sent : Int)) := (S.blk 0 rfl).at_ 3 rfl
  have c2 : w.cell? ⟨g, 2, none⟩ = some (.int .i64 (s.base : Int)) := (S.blk 0 rfl).at_ 2 rfl
  have c5 : w.cell? ⟨g, 5, none⟩ = some (.int .i64 (s.ticks : Int)) := (S.blk 0 rfl).at_ 5 rfl
  have z5 := (S.blk 0 rfl).frozen 5
  have z3 := (S.blk 0 rfl).frozen 3
  have i5 : IntKind.i64.wrap ((s.ticks : Int) + 1) = (s.ticks : Int) + 1 := IntWalk.i64_in _ (by omega)
  obtain ⟨m0, hm0⟩ : ∃ n, s.most = n := ⟨_, rfl⟩
  obtain ⟨s1, hs1⟩ : ∃ s1, lateS s = s1 := ⟨_, rfl⟩
  obtain ⟨a1, a2, a3, a4, a5, a6, a7, -, a9⟩ := late_same s
  rw [hs1] at a1 a2 a3 a4 a5 a6 a7 a9
  have hOn : On s1 s1 [] := On.start (by omega) (by omega) (by rw [a1]; omega) (by omega)
  have HS := Lib.hid S
  have HX := Lib.hid (And.intro hall (And.intro hm (And.intro hgt (And.intro hwl (And.intro hnx hl.wait)))))
  have HT : Hid (∀ s2 ps, pieces s1 = (s2, ps) → tickS s = { s2 with owes := false } ∧ tickP s = told (s2, ps)) := Lib.hid fun s2 ps h => by unfold tickS tickP; rw [hs1, h]; exact ⟨rfl, rfl⟩
  clear S hS hi hall hm hgt
  go_enter Try.func28, Try.ntmps28
  go_upto_region 1 with (fail)
  go_quiet (fail)
  go_upto_if 13 with (fail)
  go_cut [] (fun wx => Sep w0 wx (cell g 66 (s1.rcs (.slice AA al ac) (.slice IA m ic) gt) :: BRow (.slice AA al ac) r.all :: BRow (.slice IA m ic) r.inn :: L.eraseIdx i))
  case first =>
    by_cases hsb : s.sent = s.base
    · have d0 : decide ((s.base : Int) < (s.sent : Int)) = false := decide_eq_false (by omega)
      have d1 : decide (s.base < s.sent) = false := decide_eq_false (by omega)
      have hs1e : s1 = s := by rw [← hs1]; unfold lateS; rw [if_pos hsb]
      have HE := Lib.hid hs1e
      clear hs1 hs1e hOn a1 a2 a3 a4 a5 a6 a7 a9 HT
      go_wp2_with fail
      go_meet
      rw [HE.out]
      exact HS.out.drewN _
    · have d0 : decide ((s.base : Int) < (s.sent : Int)) = true := decide_eq_true (by omega)
      have d1 : decide (s.base < s.sent) = true := decide_eq_true (by omega)
      by_cases ht : 4 < s.ticks + 1
      · have d2 : decide ((4 : Int) < (s.ticks : Int) + 1) = true := decide_eq_true (by omega)
        have hs1e : s1 = { s with sent := s.base, ticks := 0 } := by rw [← hs1]; unfold lateS; rw [if_neg hsb, if_pos ht]
        have HE := Lib.hid hs1e
        clear hs1 hs1e hOn a1 a2 a3 a4 a5 a6 a7 a9 HT
        have S4 := Lib.hid ((((HS.out.drewN nq).put 0 rfl 5 (.int .i64 ((s.ticks : Int) + 1))).put 0 rfl 3 (.int .i64 (s.base : Int))).put 0 rfl 5 (.int .i64 0))
        go_wp2_with fail
        go_meet
        rw [HE.out]
        exact S4.out
      · have d2 : decide ((4 : Int) < (s.ticks : Int) + 1) = false := decide_eq_false (by omega)
        have hs1e : s1 = { s with ticks := s.ticks + 1 } := by rw [← hs1]; unfold lateS; rw [if_neg hsb, if_neg ht]
        have HE := Lib.hid hs1e
        clear hs1 hs1e hOn a1 a2 a3 a4 a5 a6 a7 a9 HT
        have S4 := Lib.hid ((HS.out.drewN nq).put 0 rfl 5 (.int .i64 ((s.ticks : Int) + 1)))
        go_wp2_with fail
        go_meet
        rw [HE.out]
        exact S4.out
  case rest =>
    clear c2 c3 c5 z5 z3 HS i5
    go_wp2_with fail
    go_loopw [3, 4] (fun p3 _ wr => ∃ s2 ps v, p3 = v ∧ (ps = [] → v = .slice none 0 0) ∧ Hid (On s1 s2 ps) ∧ Sep w0 wr (PkX v ps :: cell g 66 (({ s2 with most := m0 } : LS).rcs (.slice AA al ac) (.slice IA m ic) gt) :: BRow (.slice AA al ac) r.all :: BRow (.slice IA m ic) r.inn :: L.eraseIdx i)) (fun _ _ wr => s1.base + 1024 - (sentX g wr).toNat)
    case atStart => exact ⟨s1, [], _, rfl, fun _ => rfl, Lib.hid hOn, by have h := hcut.nilK; have he : ({ s1 with most := m0 } : LS) = s1 := (by rw [← hm0, ← a3]); rw [he]; exact h⟩
    case round =>
      clear hcut hOn
      obtain ⟨s2, ps, v, rfl, hv0, hO, S1⟩ := hrel
      have HSX := Lib.hid (sentX_at S1 1 rfl)
      have hO' := hO.out
      obtain ⟨hall, hm, hgt, hwl, hnx, hwt⟩ := HX.out
      have q1 := hO'.lo
      have q2 := hO'.hi
      have q3 := hO'.win
      have q4 := hO'.base
      have q5 := hO'.wait
      have hal2 : s2.base + s2.wait.length = al := by rw [q5, q4, a1, a2]; exact hwl
      obtain ⟨k, hk⟩ : ∃ k, kOf s2 = k := ⟨_, rfl⟩
      have hk' : min (min (s2.wait.length - (s2.sent - s2.base)) 256) (1024 - (s2.sent - s2.base)) = k := hk
      have c3 : wr.cell? ⟨g, 3, none⟩ = some (.int .i64 (s2.sent : Int)) := (S1.blk 1 rfl).at_ 3 rfl
      have c2 : wr.cell? ⟨g, 2, none⟩ = some (.int .i64 (s2.base : Int)) := (S1.blk 1 rfl).at_ 2 rfl
      have c1 : wr.cell? ⟨g, 1, none⟩ = some (.slice AA al ac) := (S1.blk 1 rfl).at_ 1 rfl
      have i1 : IntKind.i64.wrap ((s2.base : Int) + 1024) = (s2.base : Int) + 1024 := IntWalk.i64_in _ (by omega)
      have i2 : IntKind.i64.wrap ((s2.sent : Int) + 256) = (s2.sent : Int) + 256 := IntWalk.i64_in _ (by omega)
      clear hall hm hgt hwl hnx hwt
      by_cases hk0 : k = 0
      · have hdone : pieces s2 = (s2, []) := pieces_none (by rw [hk]; exact hk0)
        have hp : pieces s1 = (s2, ps) := by
          have e1 := hO'.e1
          have e2 := hO'.e2
          rw [hdone] at e1 e2
          rw [List.append_nil] at e2
          exact Prod.ext e1 e2
        have HT2 := Lib.hid (HT.out s2 ps hp)
        have hmst := hO'.most
        have how := hO'.owes
        have HNX := Lib.hid (show s2.next = m by rw [hO'.next, a5]; exact HX.out.2.2.2.2.1)
        have HD := Lib.hid (And.intro hmst (And.intro q1 (And.intro q2 (And.intro q3 hal2))))
        have hsm2 : s2.sent ≤ max s1.most s2.sent := by omega
        have H1 := Lib.hid S1
        have hcv : kOf s2 = 0 := by rw [hk]; exact hk0
        have HM0 := Lib.hid (And.intro a3 hm0)
        have HOW := Lib.hid (And.intro how a6)
        obtain ⟨so, hso⟩ : ∃ o, s2.owes = o := ⟨_, rfl⟩
        have HSO := Lib.hid hso
        have c8 : wr.cell? ⟨g, 8, none⟩ = some (.bool so) := by rw [← hso]; exact (S1.blk 1 rfl).at_ 8 rfl
        obtain ⟨VA, vc, hv, -, -, -⟩ := S1.pr 0 rfl
        obtain ⟨pn, hpn⟩ : ∃ n, ps.length = n := ⟨_, rfl⟩
        rw [hpn] at hv
        subst hv
        have HV0 := Lib.hid hv0
        have HPN := Lib.hid hpn
        have hguard : (decide ((s2.sent : Int) < (s2.base : Int) + 1024) = false) ∨ (decide ((s2.sent : Int) < (s2.base : Int) + 1024) = true ∧ decide ((s2.sent : Int) < (al : Int)) = false ∧ decide (s2.sent < al) = false) := by
          by_cases hh : (s2.sent : Int) < (s2.base : Int) + 1024
          · exact .inr ⟨decide_eq_true hh, decide_eq_false (by omega), decide_eq_false (by omega)⟩
          · exact .inl (decide_eq_false hh)
        clear q1 q2 q3 q4 q5 hal2 hk hk' hO' hs1 a1 a2 a3 a4 a5 a6 a7 a9 hm0 hl hlo hsm hmw hwin htk hI hdone hp hmst how hsm2 hcv hso S1 hv0 hpn hk0 i2
        rcases hguard with g0 | ⟨g0, g1, g2⟩
        · as_aux_lemma =>
          go_upto_region 7 with (fail)
          go_quiet (fail)
          have S2 := H1.out.drewN nq
          have c8' : (wr.drewN nq).cell? ⟨g, 8, none⟩ = some (.bool so) := c8
          clear c1 c2 c3 c8 H1 HSX
          generalize wr.drewN nq = WE at S2 c8' ⊢
          by_cases hp0 : pn = 0
          · have hps0 : ps = [] := List.eq_nil_of_length_eq_zero (by rw [HPN.out]; exact hp0)
            have hvn := HV0.out hps0
            injection hvn with v1 v2 v3
            subst v1 v3
            clear v2
            subst hp0
            cases so with
            | false =>
              as_aux_lemma =>
              have S7 : Sep w0 WE (PkX (.slice none 0 0) [] :: cell g 66 (({ s2 with most := m0, owes := false } : LS).rcs (.slice AA al ac) (.slice IA m ic) gt) :: BRow (.slice AA al ac) r.all :: BRow (.slice IA m ic) r.inn :: L.eraseIdx i) := by rw [← HSO.out, ← hps0]; exact S2
              clear S2
              have y4 : WE.cell? ⟨g, 4, none⟩ = some (.int .i64 (m0 : Int)) := (S7.blk 1 rfl).at_ 4 rfl
              have y3 : WE.cell? ⟨g, 3, none⟩ = some (.int .i64 (s2.sent : Int)) := (S7.blk 1 rfl).at_ 3 rfl
              have z4 : WE.drew.frozen? ⟨g, 4, none⟩ = false := (S7.blk 1 rfl).frozen 4
              have hSS : WE.drew.cell? ⟨g, 4, none⟩ = some (.int .i64 (m0 : Int)) ∧ WE.drew.cell? ⟨g, 3, none⟩ = some (.int .i64 (s2.sent : Int)) := ⟨y4, y3⟩
              have S8 := S7.drew
              clear y4 y3 S7
              go_upto_region 15 with (fail)
              by_cases hmx : (m0 : Int) < (s2.sent : Int)
              · refine plain_under (fun w => w.cell? ⟨g, 4, none⟩ = some (.int .i64 (m0 : Int)) ∧ w.cell? ⟨g, 3, none⟩ = some (.int .i64 (s2.sent : Int))) (fun j => decide (j < 12)) (by kernel_rfl) ?_
                generalize WE.drew = WG at hSS S8 z4 ⊢
                simp only [List.size_toArray, List.length_cons, List.length_nil, Nat.reduceAdd, Array.replicate_succ, Array.replicate_zero, List.push_toArray, List.nil_append, List.cons_append]
                refine under_free (i := 0) (v := ?_) rfl (by kernel_rfl) (fun _ _ _ h => h) _ _ _ _ (by kernel_rfl) (by kernel_rfl) (Or.inl ⟨by rfl, ?_⟩) ?_
                rotate_left
                · intro w _
                  go_simp
                  try with_reducible rfl
                simp only [Act.put, List.setIfInBounds_toArray, List.set_cons_zero, List.set_cons_succ, List.getElem_toArray, List.getElem_cons_zero]
                refine under_free (i := 1) (v := ?_) rfl (by kernel_rfl) (fun _ _ _ h => h) _ _ _ _ (by kernel_rfl) (by kernel_rfl) (Or.inl ⟨by rfl, ?_⟩) ?_
                rotate_left
                · intro w _
                  go_simp
                  try with_reducible rfl
                simp only [Act.put, List.setIfInBounds_toArray, List.set_cons_zero, List.set_cons_succ, List.getElem_toArray, List.getElem_cons_zero, List.getElem_cons_succ]
                refine under_free (i := 2) (v := ?_) rfl (by kernel_rfl) (fun _ _ _ h => h) _ _ _ _ (by kernel_rfl) (by kernel_rfl) (Or.inl ⟨by rfl, ?_⟩) ?_
                rotate_left
                · intro w _
                  go_simp
                  try with_reducible rfl
                simp only [Act.put, List.setIfInBounds_toArray, List.set_cons_zero, List.set_cons_succ, List.getElem_toArray, List.getElem_cons_zero, List.getElem_cons_succ]
                refine under_free (i := 3) (v := ?_) rfl (by kernel_rfl) (fun _ _ _ h => h) _ _ _ _ (by kernel_rfl) (by kernel_rfl) (Or.inl ⟨by rfl, ?_⟩) ?_
                rotate_left
                · intro w _
                  go_simp
                  try with_reducible rfl
                simp only [Act.put, List.setIfInBounds_toArray, List.set_cons_zero, List.set_cons_succ, List.getElem_toArray, List.getElem_cons_zero, List.getElem_cons_succ]
                refine under_take (i := 4) (v := ?_) rfl (by kernel_rfl) (by kernel_rfl) (fun _ _ _ h => h) _ _ _ _ (by kernel_rfl) (by kernel_rfl) (by kernel_rfl) (Or.inl ⟨by rfl, ?_⟩) hSS ?_
                rotate_left
                · intro w hSw
                  obtain ⟨q0, q1⟩ := hSw
                  go_simp
                  try with_reducible rfl
                simp only [Act.put, List.setIfInBounds_toArray, List.set_cons_zero, List.set_cons_succ, List.getElem_toArray, List.getElem_cons_zero, List.getElem_cons_succ]
                refine under_free (i := 5) (v := ?_) rfl (by kernel_rfl) (fun _ _ _ h => h) _ _ _ _ (by kernel_rfl) (by kernel_rfl) (Or.inl ⟨by rfl, ?_⟩) ?_
                rotate_left
                · intro w _
                  go_simp
                  try with_reducible rfl
                simp only [Act.put, List.setIfInBounds_toArray, List.set_cons_zero, List.set_cons_succ, List.getElem_toArray, List.getElem_cons_zero, List.getElem_cons_succ]
                refine under_free (i := 6) (v := ?_) rfl (by kernel_rfl) (fun _ _ _ h => h) _ _ _ _ (by kernel_rfl) (by kernel_rfl) (Or.inl ⟨by rfl, ?_⟩) ?_
                rotate_left
                · intro w _
                  go_simp
                  try with_reducible rfl
                simp only [Act.put, List.setIfInBounds_toArray, List.set_cons_zero, List.set_cons_succ, List.getElem_toArray, List.getElem_cons_zero, List.getElem_cons_succ]
                refine under_free (i := 7) (v := ?_) rfl (by kernel_rfl) (fun _ _ _ h => h) _ _ _ _ (by kernel_rfl) (by kernel_rfl) (Or.inl ⟨by rfl, ?_⟩) ?_
                rotate_left
                · intro w _
                  go_simp
                  try with_reducible rfl
                simp only [Act.put, List.setIfInBounds_toArray, List.set_cons_zero, List.set_cons_succ, List.getElem_toArray, List.getElem_cons_zero, List.getElem_cons_succ]
                refine under_take (i := 8) (v := ?_) rfl (by kernel_rfl) (by kernel_rfl) (fun _ _ _ h => h) _ _ _ _ (by kernel_rfl) (by kernel_rfl) (by kernel_rfl) (Or.inl ⟨by rfl, ?_⟩) hSS ?_
                rotate_left
                · intro w hSw
                  obtain ⟨q0, q1⟩ := hSw
                  go_simp
                  try with_reducible rfl
                simp only [Act.put, List.setIfInBounds_toArray, List.set_cons_zero, List.set_cons_succ, List.getElem_toArray, List.getElem_cons_zero, List.getElem_cons_succ]
                refine under_free (i := 9) (v := ?_) rfl (by kernel_rfl) (fun _ _ _ h => h) _ _ _ _ (by kernel_rfl) (by kernel_rfl) (Or.inl ⟨by rfl, ?_⟩) ?_
                rotate_left
                · intro w _
                  go_simp
                  try with_reducible rfl
                simp only [Act.put, List.setIfInBounds_toArray, List.set_cons_zero, List.set_cons_succ, List.getElem_toArray, List.getElem_cons_zero, List.getElem_cons_succ]
                refine under_free (i := 10) (v := ?_) rfl (by kernel_rfl) (fun _ _ _ h => h) _ _ _ _ (by kernel_rfl) (by kernel_rfl) (Or.inl ⟨by rfl, ?_⟩) ?_
                rotate_left
                · intro w _
                  go_simp
                  try with_reducible rfl
                simp only [Act.put, List.setIfInBounds_toArray, List.set_cons_zero, List.set_cons_succ, List.getElem_toArray, List.getElem_cons_zero, List.getElem_cons_succ]
                refine under_free (i := 11) (v := ?_) rfl (by kernel_rfl) (fun _ _ _ h => h) _ _ _ _ (by kernel_rfl) (by kernel_rfl) (Or.inl ⟨by rfl, ?_⟩) ?_
                rotate_left
                · intro w _
                  go_simp
                  try with_reducible rfl
                simp only [Act.put, List.setIfInBounds_toArray, List.set_cons_zero, List.set_cons_succ, List.getElem_toArray, List.getElem_cons_zero, List.getElem_cons_succ]
                refine under_one (i := 12) (by kernel_rfl) rfl ?_
                intro K hK
                go_simp
                have S9 := S8.put 1 rfl 4 (.int .i64 (s2.sent : Int))
                refine hK _ _ (fun h => by cases h) ?_
                clear hK K S8 z4 hSS
                refine under_done (by kernel_rfl) ?_ _
                have H9 := Lib.hid S9
                clear S9
                go_wp2_with fail
                go_ret
                refine ⟨_, rfl, ?_⟩
                rw [HT2.out.1, HT2.out.2]
                have hmo : s2.most = s2.sent := by have h1 := HD.out.1; have h2 := HM0.out.1; have h3 := HM0.out.2; omega
                have htd : told (s2, ps) = [] := by unfold told; rw [if_pos hps0, if_neg (by rw [HSO.out]; decide)]
                rw [htd]
                refine hback.out _ { s2 with owes := false } _ _ ?_
                have h := H9.out
                show Sep w0 _ (_ :: cell g 66 #[_, _, _, _, .int .i64 (s2.most : Int), _, _, _, _] :: _)
                rw [hmo]
                exact h
              · refine plain_under (fun w => w.cell? ⟨g, 4, none⟩ = some (.int .i64 (m0 : Int)) ∧ w.cell? ⟨g, 3, none⟩ = some (.int .i64 (s2.sent : Int))) (fun j => decide (j < 12)) (by kernel_rfl) ?_
                generalize WE.drew = WG at hSS S8 z4 ⊢
                simp only [List.size_toArray, List.length_cons, List.length_nil, Nat.reduceAdd, Array.replicate_succ, Array.replicate_zero, List.push_toArray, List.nil_append, List.cons_append]
                refine under_free (i := 0) (v := ?_) rfl (by kernel_rfl) (fun _ _ _ h => h) _ _ _ _ (by kernel_rfl) (by kernel_rfl) (Or.inl ⟨by rfl, ?_⟩) ?_
                rotate_left
                · intro w _
                  go_simp
                  try with_reducible rfl
                simp only [Act.put, List.setIfInBounds_toArray, List.set_cons_zero, List.set_cons_succ, List.getElem_toArray, List.getElem_cons_zero]
                refine under_free (i := 1) (v := ?_) rfl (by kernel_rfl) (fun _ _ _ h => h) _ _ _ _ (by kernel_rfl) (by kernel_rfl) (Or.inl ⟨by rfl, ?_⟩) ?_
                rotate_left
                · intro w _
                  go_simp
                  try with_reducible rfl
                simp only [Act.put, List.setIfInBounds_toArray, List.set_cons_zero, List.set_cons_succ, List.getElem_toArray, List.getElem_cons_zero, List.getElem_cons_succ]
                refine under_free (i := 2) (v := ?_) rfl (by kernel_rfl) (fun _ _ _ h => h) _ _ _ _ (by kernel_rfl) (by kernel_rfl) (Or.inl ⟨by rfl, ?_⟩) ?_
                rotate_left
                · intro w _
                  go_simp
                  try with_reducible rfl
                simp only [Act.put, List.setIfInBounds_toArray, List.set_cons_zero, List.set_cons_succ, List.getElem_toArray, List.getElem_cons_zero, List.getElem_cons_succ]
                refine under_free (i := 3) (v := ?_) rfl (by kernel_rfl) (fun _ _ _ h => h) _ _ _ _ (by kernel_rfl) (by kernel_rfl) (Or.inl ⟨by rfl, ?_⟩) ?_
                rotate_left
                · intro w _
                  go_simp
                  try with_reducible rfl
                simp only [Act.put, List.setIfInBounds_toArray, List.set_cons_zero, List.set_cons_succ, List.getElem_toArray, List.getElem_cons_zero, List.getElem_cons_succ]
                refine under_take (i := 4) (v := ?_) rfl (by kernel_rfl) (by kernel_rfl) (fun _ _ _ h => h) _ _ _ _ (by kernel_rfl) (by kernel_rfl) (by kernel_rfl) (Or.inl ⟨by rfl, ?_⟩) hSS ?_
                rotate_left
                · intro w hSw
                  obtain ⟨q0, q1⟩ := hSw
                  go_simp
                  try with_reducible rfl
                simp only [Act.put, List.setIfInBounds_toArray, List.set_cons_zero, List.set_cons_succ, List.getElem_toArray, List.getElem_cons_zero, List.getElem_cons_succ]
                refine under_free (i := 5) (v := ?_) rfl (by kernel_rfl) (fun _ _ _ h => h) _ _ _ _ (by kernel_rfl) (by kernel_rfl) (Or.inl ⟨by rfl, ?_⟩) ?_
                rotate_left
                · intro w _
                  go_simp
                  try with_reducible rfl
                simp only [Act.put, List.setIfInBounds_toArray, List.set_cons_zero, List.set_cons_succ, List.getElem_toArray, List.getElem_cons_zero, List.getElem_cons_succ]
                refine under_free (i := 6) (v := ?_) rfl (by kernel_rfl) (fun _ _ _ h => h) _ _ _ _ (by kernel_rfl) (by kernel_rfl) (Or.inl ⟨by rfl, ?_⟩) ?_
                rotate_left
                · intro w _
                  go_simp
                  try with_reducible rfl
                simp only [Act.put, List.setIfInBounds_toArray, List.set_cons_zero, List.set_cons_succ, List.getElem_toArray, List.getElem_cons_zero, List.getElem_cons_succ]
                refine under_free (i := 7) (v := ?_) rfl (by kernel_rfl) (fun _ _ _ h => h) _ _ _ _ (by kernel_rfl) (by kernel_rfl) (Or.inl ⟨by rfl, ?_⟩) ?_
                rotate_left
                · intro w _
                  go_simp
                  try with_reducible rfl
                simp only [Act.put, List.setIfInBounds_toArray, List.set_cons_zero, List.set_cons_succ, List.getElem_toArray, List.getElem_cons_zero, List.getElem_cons_succ]
                refine under_take (i := 8) (v := ?_) rfl (by kernel_rfl) (by kernel_rfl) (fun _ _ _ h => h) _ _ _ _ (by kernel_rfl) (by kernel_rfl) (by kernel_rfl) (Or.inl ⟨by rfl, ?_⟩) hSS ?_
                rotate_left
                · intro w hSw
                  obtain ⟨q0, q1⟩ := hSw
                  go_simp
                  try with_reducible rfl
                simp only [Act.put, List.setIfInBounds_toArray, List.set_cons_zero, List.set_cons_succ, List.getElem_toArray, List.getElem_cons_zero, List.getElem_cons_succ]
                refine under_free (i := 9) (v := ?_) rfl (by kernel_rfl) (fun _ _ _ h => h) _ _ _ _ (by kernel_rfl) (by kernel_rfl) (Or.inl ⟨by rfl, ?_⟩) ?_
                rotate_left
                · intro w _
                  go_simp
                  try with_reducible rfl
                simp only [Act.put, List.setIfInBounds_toArray, List.set_cons_zero, List.set_cons_succ, List.getElem_toArray, List.getElem_cons_zero, List.getElem_cons_succ]
                refine under_free (i := 10) (v := ?_) rfl (by kernel_rfl) (fun _ _ _ h => h) _ _ _ _ (by kernel_rfl) (by kernel_rfl) (Or.inl ⟨by rfl, ?_⟩) ?_
                rotate_left
                · intro w _
                  go_simp
                  try with_reducible rfl
                simp only [Act.put, List.setIfInBounds_toArray, List.set_cons_zero, List.set_cons_succ, List.getElem_toArray, List.getElem_cons_zero, List.getElem_cons_succ]
                refine under_free (i := 11) (v := ?_) rfl (by kernel_rfl) (fun _ _ _ h => h) _ _ _ _ (by kernel_rfl) (by kernel_rfl) (Or.inl ⟨by rfl, ?_⟩) ?_
                rotate_left
                · intro w _
                  go_simp
                  try with_reducible rfl
                simp only [Act.put, List.setIfInBounds_toArray, List.set_cons_zero, List.set_cons_succ, List.getElem_toArray, List.getElem_cons_zero, List.getElem_cons_succ]
                refine under_one (i := 12) (by kernel_rfl) rfl ?_
                intro K hK
                go_simp
                have S9 := S8.put 1 rfl 4 (.int .i64 (m0 : Int))
                refine hK _ _ (fun h => by cases h) ?_
                clear hK K S8 z4 hSS
                refine under_done (by kernel_rfl) ?_ _
                have H9 := Lib.hid S9
                clear S9
                go_wp2_with fail
                go_ret
                refine ⟨_, rfl, ?_⟩
                rw [HT2.out.1, HT2.out.2]
                have hmo : s2.most = m0 := by have h1 := HD.out.1; have h2 := HM0.out.1; have h3 := HM0.out.2; omega
                have htd : told (s2, ps) = [] := by unfold told; rw [if_pos hps0, if_neg (by rw [HSO.out]; decide)]
                rw [htd]
                refine hback.out _ { s2 with owes := false } _ _ ?_
                have h := H9.out
                show Sep w0 _ (_ :: cell g 66 #[_, _, _, _, .int .i64 (s2.most : Int), _, _, _, _] :: _)
                rw [hmo]
                exact h
            | true =>
              as_aux_lemma =>
              have S3 : Sep w0 WE (row 32 4 (.slice none 0 0) 0 [] :: cell g 66 (({ s2 with most := m0 } : LS).rcs (.slice AA al ac) (.slice IA m ic) gt) :: BRow (.slice AA al ac) r.all :: BRow (.slice IA m ic) r.inn :: L.eraseIdx i) := S2.tail.nilRowF 32 4
              have facts : ∀ {X : World} {A0 : Asn} {T : List Asn}, Sep w0 X (A0 :: cell g 66 (({ s2 with most := m0 } : LS).rcs (.slice AA al ac) (.slice IA m ic) gt) :: T) → X.cell? ⟨g, 0, none⟩ = some (.int .u32 (s2.epoch : Int)) ∧ X.cell? ⟨g, 3, none⟩ = some (.int .i64 (s2.sent : Int)) ∧ X.cell? ⟨g, 6, none⟩ = some (.slice IA m ic) := fun h => ⟨(h.blk 1 rfl).at_ 0 rfl, (h.blk 1 rfl).at_ 3 rfl, (h.blk 1 rfl).at_ 6 rfl⟩
              have j1 : IntKind.u64.wrap (s2.sent : Int) = (s2.sent : Int) := by have := HD.out.2.2.1; have := HD.out.2.2.2.2; exact u64_in (by omega) (by omega)
              have j2 : IntKind.u64.wrap (m : Int) = (m : Int) := u64_in (by omega) (by omega)
              clear S2
              go_upto_region 12 with (fail)
              have S4 := S3.drew
              have hSS : WE.drew.cell? ⟨g, 0, none⟩ = some (.int .u32 (s2.epoch : Int)) ∧ WE.drew.cell? ⟨g, 3, none⟩ = some (.int .i64 (s2.sent : Int)) ∧ WE.drew.cell? ⟨g, 6, none⟩ = some (.slice IA m ic) := facts S4
              have c8d : WE.drew.cell? ⟨g, 8, none⟩ = some (.bool true) := c8'
              clear S3 c8'
              refine plain_under (fun w => w.cell? ⟨g, 0, none⟩ = some (.int .u32 (s2.epoch : Int)) ∧ w.cell? ⟨g, 3, none⟩ = some (.int .i64 (s2.sent : Int)) ∧ w.cell? ⟨g, 6, none⟩ = some (.slice IA m ic)) (fun _ => true) (by kernel_rfl) ?_
              generalize WE.drew = w5 at hSS S4 c8d ⊢
              simp only [List.size_toArray, List.length_cons, List.length_nil, Nat.reduceAdd, Array.replicate_succ, Array.replicate_zero, List.push_toArray, List.nil_append, List.cons_append]
              refine under_free (i := 0) (v := ?_) rfl (by kernel_rfl) (fun _ _ _ h => h) _ _ _ _ (by kernel_rfl) (by kernel_rfl) (Or.inl ⟨by rfl, ?_⟩) ?_
              rotate_left
              · intro w _
                go_simp
                try with_reducible rfl
              simp only [Act.put, List.setIfInBounds_toArray, List.set_cons_zero, List.set_cons_succ, List.getElem_toArray, List.getElem_cons_zero]
              refine under_free (i := 1) (v := ?_) rfl (by kernel_rfl) (fun _ _ _ h => h) _ _ _ _ (by kernel_rfl) (by kernel_rfl) (Or.inl ⟨by rfl, ?_⟩) ?_
              rotate_left
              · intro w _
                go_simp
                try with_reducible rfl
              simp only [Act.put, List.setIfInBounds_toArray, List.set_cons_zero, List.set_cons_succ, List.getElem_toArray, List.getElem_cons_zero, List.getElem_cons_succ]
              refine under_free (i := 2) (v := ?_) rfl (by kernel_rfl) (fun _ _ _ h => h) _ _ _ _ (by kernel_rfl) (by kernel_rfl) (Or.inl ⟨by rfl, ?_⟩) ?_
              rotate_left
              · intro w _
                go_simp
                try with_reducible rfl
              simp only [Act.put, List.setIfInBounds_toArray, List.set_cons_zero, List.set_cons_succ, List.getElem_toArray, List.getElem_cons_zero, List.getElem_cons_succ]
              refine under_free (i := 3) (v := ?_) rfl (by kernel_rfl) (fun _ _ _ h => h) _ _ _ _ (by kernel_rfl) (by kernel_rfl) (Or.inl ⟨by rfl, ?_⟩) ?_
              rotate_left
              · intro w _
                go_simp
                try with_reducible rfl
              simp only [Act.put, List.setIfInBounds_toArray, List.set_cons_zero, List.set_cons_succ, List.getElem_toArray, List.getElem_cons_zero, List.getElem_cons_succ]
              refine under_take (i := 4) (v := ?_) rfl (by kernel_rfl) (by kernel_rfl) (fun _ _ _ h => h) _ _ _ _ (by kernel_rfl) (by kernel_rfl) (by kernel_rfl) (Or.inl ⟨by rfl, ?_⟩) hSS ?_
              rotate_left
              · intro w hSw
                obtain ⟨q0, q1, q2⟩ := hSw
                go_simp
                try with_reducible rfl
              simp only [Act.put, List.setIfInBounds_toArray, List.set_cons_zero, List.set_cons_succ, List.getElem_toArray, List.getElem_cons_zero, List.getElem_cons_succ]
              refine under_free (i := 5) (v := ?_) rfl (by kernel_rfl) (fun _ _ _ h => h) _ _ _ _ (by kernel_rfl) (by kernel_rfl) (Or.inl ⟨by rfl, ?_⟩) ?_
              rotate_left
              · intro w _
                go_simp
                try with_reducible rfl
              simp only [Act.put, List.setIfInBounds_toArray, List.set_cons_zero, List.set_cons_succ, List.getElem_toArray, List.getElem_cons_zero, List.getElem_cons_succ]
              refine under_free (i := 6) (v := ?_) rfl (by kernel_rfl) (fun _ _ _ h => h) _ _ _ _ (by kernel_rfl) (by kernel_rfl) (Or.inl ⟨by rfl, ?_⟩) ?_
              rotate_left
              · intro w _
                go_simp
                try with_reducible rfl
              simp only [Act.put, List.setIfInBounds_toArray, List.set_cons_zero, List.set_cons_succ, List.getElem_toArray, List.getElem_cons_zero, List.getElem_cons_succ]
              refine under_free (i := 7) (v := ?_) rfl (by kernel_rfl) (fun _ _ _ h => h) _ _ _ _ (by kernel_rfl) (by kernel_rfl) (Or.inl ⟨by rfl, ?_⟩) ?_
              rotate_left
              · intro w _
                go_simp
                try with_reducible rfl
              simp only [Act.put, List.setIfInBounds_toArray, List.set_cons_zero, List.set_cons_succ, List.getElem_toArray, List.getElem_cons_zero, List.getElem_cons_succ]
              refine under_take (i := 8) (v := ?_) rfl (by kernel_rfl) (by kernel_rfl) (fun _ _ _ h => h) _ _ _ _ (by kernel_rfl) (by kernel_rfl) (by kernel_rfl) (Or.inl ⟨by rfl, ?_⟩) hSS ?_
              rotate_left
              · intro w hSw
                obtain ⟨q0, q1, q2⟩ := hSw
                go_simp
                try with_reducible rfl
              simp only [Act.put, List.setIfInBounds_toArray, List.set_cons_zero, List.set_cons_succ, List.getElem_toArray, List.getElem_cons_zero, List.getElem_cons_succ]
              refine under_free (i := 9) (v := ?_) rfl (by kernel_rfl) (fun _ _ _ h => h) _ _ _ _ (by kernel_rfl) (by kernel_rfl) (Or.inl ⟨by rfl, ?_⟩) ?_
              rotate_left
              · intro w _
                go_simp
                try with_reducible rfl
              simp only [Act.put, List.setIfInBounds_toArray, List.set_cons_zero, List.set_cons_succ, List.getElem_toArray, List.getElem_cons_zero, List.getElem_cons_succ]
              refine under_free (i := 10) (v := ?_) rfl (by kernel_rfl) (fun _ _ _ h => h) _ _ _ _ (by kernel_rfl) (by kernel_rfl) (Or.inl ⟨by rfl, ?_⟩) ?_
              rotate_left
              · intro w _
                go_simp
                try with_reducible rfl
              simp only [Act.put, List.setIfInBounds_toArray, List.set_cons_zero, List.set_cons_succ, List.getElem_toArray, List.getElem_cons_zero, List.getElem_cons_succ]
              refine under_free (i := 11) (v := ?_) rfl (by kernel_rfl) (fun _ _ _ h => h) _ _ _ _ (by kernel_rfl) (by kernel_rfl) (Or.inl ⟨by rfl, ?_⟩) ?_
              rotate_left
              · intro w _
                go_simp
                try with_reducible rfl
              simp only [Act.put, List.setIfInBounds_toArray, List.set_cons_zero, List.set_cons_succ, List.getElem_toArray, List.getElem_cons_zero, List.getElem_cons_succ]
              refine under_free (i := 12) (v := ?_) rfl (by kernel_rfl) (fun _ _ _ h => h) _ _ _ _ (by kernel_rfl) (by kernel_rfl) (Or.inl ⟨by rfl, ?_⟩) ?_
              rotate_left
              · intro w _
                go_simp
                try with_reducible rfl
              simp only [Act.put, List.setIfInBounds_toArray, List.set_cons_zero, List.set_cons_succ, List.getElem_toArray, List.getElem_cons_zero, List.getElem_cons_succ]
              refine under_take (i := 13) (v := ?_) rfl (by kernel_rfl) (by kernel_rfl) (fun _ _ _ h => h) _ _ _ _ (by kernel_rfl) (by kernel_rfl) (by kernel_rfl) (Or.inl ⟨by rfl, ?_⟩) hSS ?_
              rotate_left
              · intro w hSw
                obtain ⟨q0, q1, q2⟩ := hSw
                go_simp
                try with_reducible rfl
              simp only [Act.put, List.setIfInBounds_toArray, List.set_cons_zero, List.set_cons_succ, List.getElem_toArray, List.getElem_cons_zero, List.getElem_cons_succ]
              refine under_free (i := 14) (v := ?_) rfl (by kernel_rfl) (fun _ _ _ h => h) _ _ _ _ (by kernel_rfl) (by kernel_rfl) (Or.inl ⟨by rfl, ?_⟩) ?_
              rotate_left
              · intro w _
                go_simp
                try with_reducible rfl
              simp only [Act.put, List.setIfInBounds_toArray, List.set_cons_zero, List.set_cons_succ, List.getElem_toArray, List.getElem_cons_zero, List.getElem_cons_succ]
              refine under_free (i := 15) (v := ?_) rfl (by kernel_rfl) (fun _ _ _ h => h) _ _ _ _ (by kernel_rfl) (by kernel_rfl) (Or.inl ⟨by rfl, ?_⟩) ?_
              rotate_left
              · intro w _
                go_simp
                try with_reducible rfl
              simp only [Act.put, List.setIfInBounds_toArray, List.set_cons_zero, List.set_cons_succ, List.getElem_toArray, List.getElem_cons_zero, List.getElem_cons_succ]
              refine under_free (i := 16) (v := ?_) rfl (by kernel_rfl) (fun _ _ _ h => h) _ _ _ _ (by kernel_rfl) (by kernel_rfl) (Or.inl ⟨by rfl, ?_⟩) ?_
              rotate_left
              · intro w _
                go_simp
                try with_reducible rfl
              simp only [Act.put, List.setIfInBounds_toArray, List.set_cons_zero, List.set_cons_succ, List.getElem_toArray, List.getElem_cons_zero, List.getElem_cons_succ]
              refine under_one (i := 17) (by kernel_rfl) rfl ?_
              intro K hK
              go_simp
              have S8 := S4.boxF 32 #[.int .u32 (s2.epoch : Int), .int .u64 (s2.sent : Int), .int .u64 (m : Int), .slice none 0 0]
              have hWs : w5.heap.size < (w5.alloc (.cells #[.int .u32 (s2.epoch : Int), .int .u64 (s2.sent : Int), .int .u64 (m : Int), .slice none 0 0] 32)).heap.size := by simp
              replace hSS := facts S8.tail
              refine hK _ _ (fun _ => hSS) ?_
              clear hK K S4
              generalize w5.heap.size = nb2 at S8 hWs ⊢
              generalize w5.alloc (.cells #[.int .u32 (s2.epoch : Int), .int .u64 (s2.sent : Int), .int .u64 (m : Int), .slice none 0 0] 32) = w8 at S8 hWs hSS ⊢
              simp only [List.setIfInBounds_toArray, List.set_cons_zero, List.set_cons_succ]
              refine under_one (i := 18) (by kernel_rfl) rfl ?_
              intro K hK
              obtain ⟨i32, hi32, hz0, hz1, hz2⟩ := info_parts info32
              have hrd : Reads w8 w8.heap.size 4 (some ⟨nb2, 0, none⟩) 1 [.int .u32 (s2.epoch : Int), .int .u64 (s2.sent : Int), .int .u64 (m : Int), .slice none 0 0] := by
                refine ⟨rfl, fun _ => ⟨_, rfl, hWs, fun j x hj => ?_⟩⟩
                have hb := (S8.blk 0 rfl).cell j
                have he : (⟨nb2, 0, none⟩ : Addr).add j = ⟨nb2, j, none⟩ := by unfold Addr.add; split <;> simp_all
                rw [he, hb, ← Array.getElem?_toList]
                exact hj
              refine step_append_any _ rfl (.tmp 118) (.tmp 135) 28 rfl 0 32 i32 _ 4 48 Try.underlying28 hi32 hz0 hz1 hz2 rfl (by omega) (.slice none 0 0) 0 [] rfl (S8.own 1 rfl) _ (some ⟨nb2, 0, none⟩) 1 1 _ rfl hrd (by
                intro x hx
                simp only [List.mem_cons, List.not_mem_nil, or_false] at hx
                rcases hx with rfl | rfl | rfl | rfl <;> rfl) (by unfold maxLen; omega) (by omega) (Nat.zero_le _) ?_
              intro v9 w9 hown hg9 hat
              have S10 := (S8.pushed 1 rfl hown hg9 hat).tail
              replace hSS : w9.cell? ⟨g, 0, none⟩ = some (.int .u32 (s2.epoch : Int)) ∧ w9.cell? ⟨g, 3, none⟩ = some (.int .i64 (s2.sent : Int)) ∧ w9.cell? ⟨g, 6, none⟩ = some (.slice IA m ic) := facts S10
              refine hK _ _ (fun _ => hSS) ?_
              clear hK K hown hg9 hat hrd S8 hWs hi32 hz0 hz1 hz2 facts
              obtain ⟨a9, c9, hv9, -, -⟩ := own_slice (S10.own 0 rfl)
              subst hv9
              simp only [Act.put, List.setIfInBounds_toArray, List.set_cons_zero, List.set_cons_succ, List.getElem_toArray, List.getElem_cons_zero, List.getElem_cons_succ]
              refine under_free (i := 19) (v := ?_) rfl (by kernel_rfl) (fun _ _ _ h => h) _ _ _ _ (by kernel_rfl) (by kernel_rfl) (Or.inl ⟨by rfl, ?_⟩) ?_
              rotate_left
              · intro w _
                go_simp
                try with_reducible rfl
              simp only [Act.put, List.setIfInBounds_toArray, List.set_cons_zero, List.set_cons_succ, List.getElem_toArray, List.getElem_cons_zero, List.getElem_cons_succ]
              refine under_done (by kernel_rfl) ?_ _
              have c8 : w9.cell? ⟨g, 8, none⟩ = some (.bool true) := by rw [← HSO.out]; exact (S10.blk 1 rfl).at_ 8 rfl
              have z8 := (S10.blk 1 rfl).frozen 8
              have S11 := S10.put 1 rfl 8 (.bool false)
              have S12 := pk_push (es := []) (ds := []) (ps := []) (p := ⟨s2.epoch, s2.sent, m, []⟩) (u := .slice none 0 0) rfl (fun _ h => by cases h) S11.nilB
              have H12 := Lib.hid S12
              clear S10 S11 S12 hSS c8d
              go_upto_region 15 with (fail)
              have S7 : Sep w0 (w9.setCell ⟨g, 8, none⟩ (.bool false)) (PkX (.slice a9 1 c9) [⟨s2.epoch, s2.sent, m, []⟩] :: cell g 66 (({ s2 with most := m0, owes := false } : LS).rcs (.slice AA al ac) (.slice IA m ic) gt) :: BRow (.slice AA al ac) r.all :: BRow (.slice IA m ic) r.inn :: L.eraseIdx i) := H12.out
              clear H12 c8 z8
              generalize w9.setCell ⟨g, 8, none⟩ (.bool false) = WF at S7 ⊢
              have y4 : WF.cell? ⟨g, 4, none⟩ = some (.int .i64 (m0 : Int)) := (S7.blk 1 rfl).at_ 4 rfl
              have y3 : WF.cell? ⟨g, 3, none⟩ = some (.int .i64 (s2.sent : Int)) := (S7.blk 1 rfl).at_ 3 rfl
              have z4 : WF.drew.frozen? ⟨g, 4, none⟩ = false := (S7.blk 1 rfl).frozen 4
              have hSS : WF.drew.cell? ⟨g, 4, none⟩ = some (.int .i64 (m0 : Int)) ∧ WF.drew.cell? ⟨g, 3, none⟩ = some (.int .i64 (s2.sent : Int)) := ⟨y4, y3⟩
              have S8 := S7.drew
              clear y4 y3 S7
              go_upto_region 15 with (fail)
              by_cases hmx : (m0 : Int) < (s2.sent : Int)
              · refine plain_under (fun w => w.cell? ⟨g, 4, none⟩ = some (.int .i64 (m0 : Int)) ∧ w.cell? ⟨g, 3, none⟩ = some (.int .i64 (s2.sent : Int))) (fun j => decide (j < 12)) (by kernel_rfl) ?_
                generalize WF.drew = WG at hSS S8 z4 ⊢
                simp only [List.size_toArray, List.length_cons, List.length_nil, Nat.reduceAdd, Array.replicate_succ, Array.replicate_zero, List.push_toArray, List.nil_append, List.cons_append]
                refine under_free (i := 0) (v := ?_) rfl (by kernel_rfl) (fun _ _ _ h => h) _ _ _ _ (by kernel_rfl) (by kernel_rfl) (Or.inl ⟨by rfl, ?_⟩) ?_
                rotate_left
                · intro w _
                  go_simp
                  try with_reducible rfl
                simp only [Act.put, List.setIfInBounds_toArray, List.set_cons_zero, List.set_cons_succ, List.getElem_toArray, List.getElem_cons_zero]
                refine under_free (i := 1) (v := ?_) rfl (by kernel_rfl) (fun _ _ _ h => h) _ _ _ _ (by kernel_rfl) (by kernel_rfl) (Or.inl ⟨by rfl, ?_⟩) ?_
                rotate_left
                · intro w _
                  go_simp
                  try with_reducible rfl
                simp only [Act.put, List.setIfInBounds_toArray, List.set_cons_zero, List.set_cons_succ, List.getElem_toArray, List.getElem_cons_zero, List.getElem_cons_succ]
                refine under_free (i := 2) (v := ?_) rfl (by kernel_rfl) (fun _ _ _ h => h) _ _ _ _ (by kernel_rfl) (by kernel_rfl) (Or.inl ⟨by rfl, ?_⟩) ?_
                rotate_left
                · intro w _
                  go_simp
                  try with_reducible rfl
                simp only [Act.put, List.setIfInBounds_toArray, List.set_cons_zero, List.set_cons_succ, List.getElem_toArray, List.getElem_cons_zero, List.getElem_cons_succ]
                refine under_free (i := 3) (v := ?_) rfl (by kernel_rfl) (fun _ _ _ h => h) _ _ _ _ (by kernel_rfl) (by kernel_rfl) (Or.inl ⟨by rfl, ?_⟩) ?_
                rotate_left
                · intro w _
                  go_simp
                  try with_reducible rfl
                simp only [Act.put, List.setIfInBounds_toArray, List.set_cons_zero, List.set_cons_succ, List.getElem_toArray, List.getElem_cons_zero, List.getElem_cons_succ]
                refine under_take (i := 4) (v := ?_) rfl (by kernel_rfl) (by kernel_rfl) (fun _ _ _ h => h) _ _ _ _ (by kernel_rfl) (by kernel_rfl) (by kernel_rfl) (Or.inl ⟨by rfl, ?_⟩) hSS ?_
                rotate_left
                · intro w hSw
                  obtain ⟨q0, q1⟩ := hSw
                  go_simp
                  try with_reducible rfl
                simp only [Act.put, List.setIfInBounds_toArray, List.set_cons_zero, List.set_cons_succ, List.getElem_toArray, List.getElem_cons_zero, List.getElem_cons_succ]
                refine under_free (i := 5) (v := ?_) rfl (by kernel_rfl) (fun _ _ _ h => h) _ _ _ _ (by kernel_rfl) (by kernel_rfl) (Or.inl ⟨by rfl, ?_⟩) ?_
                rotate_left
                · intro w _
                  go_simp
                  try with_reducible rfl
                simp only [Act.put, List.setIfInBounds_toArray, List.set_cons_zero, List.set_cons_succ, List.getElem_toArray, List.getElem_cons_zero, List.getElem_cons_succ]
                refine under_free (i := 6) (v := ?_) rfl (by kernel_rfl) (fun _ _ _ h => h) _ _ _ _ (by kernel_rfl) (by kernel_rfl) (Or.inl ⟨by rfl, ?_⟩) ?_
                rotate_left
                · intro w _
                  go_simp
                  try with_reducible rfl
                simp only [Act.put, List.setIfInBounds_toArray, List.set_cons_zero, List.set_cons_succ, List.getElem_toArray, List.getElem_cons_zero, List.getElem_cons_succ]
                refine under_free (i := 7) (v := ?_) rfl (by kernel_rfl) (fun _ _ _ h => h) _ _ _ _ (by kernel_rfl) (by kernel_rfl) (Or.inl ⟨by rfl, ?_⟩) ?_
                rotate_left
                · intro w _
                  go_simp
                  try with_reducible rfl
                simp only [Act.put, List.setIfInBounds_toArray, List.set_cons_zero, List.set_cons_succ, List.getElem_toArray, List.getElem_cons_zero, List.getElem_cons_succ]
                refine under_take (i := 8) (v := ?_) rfl (by kernel_rfl) (by kernel_rfl) (fun _ _ _ h => h) _ _ _ _ (by kernel_rfl) (by kernel_rfl) (by kernel_rfl) (Or.inl ⟨by rfl, ?_⟩) hSS ?_
                rotate_left
                · intro w hSw
                  obtain ⟨q0, q1⟩ := hSw
                  go_simp
                  try with_reducible rfl
                simp only [Act.put, List.setIfInBounds_toArray, List.set_cons_zero, List.set_cons_succ, List.getElem_toArray, List.getElem_cons_zero, List.getElem_cons_succ]
                refine under_free (i := 9) (v := ?_) rfl (by kernel_rfl) (fun _ _ _ h => h) _ _ _ _ (by kernel_rfl) (by kernel_rfl) (Or.inl ⟨by rfl, ?_⟩) ?_
                rotate_left
                · intro w _
                  go_simp
                  try with_reducible rfl
                simp only [Act.put, List.setIfInBounds_toArray, List.set_cons_zero, List.set_cons_succ, List.getElem_toArray, List.getElem_cons_zero, List.getElem_cons_succ]
                refine under_free (i := 10) (v := ?_) rfl (by kernel_rfl) (fun _ _ _ h => h) _ _ _ _ (by kernel_rfl) (by kernel_rfl) (Or.inl ⟨by rfl, ?_⟩) ?_
                rotate_left
                · intro w _
                  go_simp
                  try with_reducible rfl
                simp only [Act.put, List.setIfInBounds_toArray, List.set_cons_zero, List.set_cons_succ, List.getElem_toArray, List.getElem_cons_zero, List.getElem_cons_succ]
                refine under_free (i := 11) (v := ?_) rfl (by kernel_rfl) (fun _ _ _ h => h) _ _ _ _ (by kernel_rfl) (by kernel_rfl) (Or.inl ⟨by rfl, ?_⟩) ?_
                rotate_left
                · intro w _
                  go_simp
                  try with_reducible rfl
                simp only [Act.put, List.setIfInBounds_toArray, List.set_cons_zero, List.set_cons_succ, List.getElem_toArray, List.getElem_cons_zero, List.getElem_cons_succ]
                refine under_one (i := 12) (by kernel_rfl) rfl ?_
                intro K hK
                go_simp
                have S9 := S8.put 1 rfl 4 (.int .i64 (s2.sent : Int))
                refine hK _ _ (fun h => by cases h) ?_
                clear hK K S8 z4 hSS
                refine under_done (by kernel_rfl) ?_ _
                have H9 := Lib.hid S9
                clear S9
                go_wp2_with fail
                go_ret
                refine ⟨_, rfl, ?_⟩
                rw [HT2.out.1, HT2.out.2]
                have hmo : s2.most = s2.sent := by have h1 := HD.out.1; have h2 := HM0.out.1; have h3 := HM0.out.2; omega
                have htd : told (s2, ps) = [⟨s2.epoch, s2.sent, m, []⟩] := by unfold told; rw [if_pos hps0, if_pos HSO.out, HNX.out]
                rw [htd]
                refine hback.out _ { s2 with owes := false } _ _ ?_
                have h := H9.out
                show Sep w0 _ (_ :: cell g 66 #[_, _, _, _, .int .i64 (s2.most : Int), _, _, _, _] :: _)
                rw [hmo]
                exact h
              · refine plain_under (fun w => w.cell? ⟨g, 4, none⟩ = some (.int .i64 (m0 : Int)) ∧ w.cell? ⟨g, 3, none⟩ = some (.int .i64 (s2.sent : Int))) (fun j => decide (j < 12)) (by kernel_rfl) ?_
                generalize WF.drew = WG at hSS S8 z4 ⊢
                simp only [List.size_toArray, List.length_cons, List.length_nil, Nat.reduceAdd, Array.replicate_succ, Array.replicate_zero, List.push_toArray, List.nil_append, List.cons_append]
                refine under_free (i := 0) (v := ?_) rfl (by kernel_rfl) (fun _ _ _ h => h) _ _ _ _ (by kernel_rfl) (by kernel_rfl) (Or.inl ⟨by rfl, ?_⟩) ?_
                rotate_left
                · intro w _
                  go_simp
                  try with_reducible rfl
                simp only [Act.put, List.setIfInBounds_toArray, List.set_cons_zero, List.set_cons_succ, List.getElem_toArray, List.getElem_cons_zero]
                refine under_free (i := 1) (v := ?_) rfl (by kernel_rfl) (fun _ _ _ h => h) _ _ _ _ (by kernel_rfl) (by kernel_rfl) (Or.inl ⟨by rfl, ?_⟩) ?_
                rotate_left
                · intro w _
                  go_simp
                  try with_reducible rfl
                simp only [Act.put, List.setIfInBounds_toArray, List.set_cons_zero, List.set_cons_succ, List.getElem_toArray, List.getElem_cons_zero, List.getElem_cons_succ]
                refine under_free (i := 2) (v := ?_) rfl (by kernel_rfl) (fun _ _ _ h => h) _ _ _ _ (by kernel_rfl) (by kernel_rfl) (Or.inl ⟨by rfl, ?_⟩) ?_
                rotate_left
                · intro w _
                  go_simp
                  try with_reducible rfl
                simp only [Act.put, List.setIfInBounds_toArray, List.set_cons_zero, List.set_cons_succ, List.getElem_toArray, List.getElem_cons_zero, List.getElem_cons_succ]
                refine under_free (i := 3) (v := ?_) rfl (by kernel_rfl) (fun _ _ _ h => h) _ _ _ _ (by kernel_rfl) (by kernel_rfl) (Or.inl ⟨by rfl, ?_⟩) ?_
                rotate_left
                · intro w _
                  go_simp
                  try with_reducible rfl
                simp only [Act.put, List.setIfInBounds_toArray, List.set_cons_zero, List.set_cons_succ, List.getElem_toArray, List.getElem_cons_zero, List.getElem_cons_succ]
                refine under_take (i := 4) (v := ?_) rfl (by kernel_rfl) (by kernel_rfl) (fun _ _ _ h => h) _ _ _ _ (by kernel_rfl) (by kernel_rfl) (by kernel_rfl) (Or.inl ⟨by rfl, ?_⟩) hSS ?_
                rotate_left
                · intro w hSw
                  obtain ⟨q0, q1⟩ := hSw
                  go_simp
                  try with_reducible rfl
                simp only [Act.put, List.setIfInBounds_toArray, List.set_cons_zero, List.set_cons_succ, List.getElem_toArray, List.getElem_cons_zero, List.getElem_cons_succ]
                refine under_free (i := 5) (v := ?_) rfl (by kernel_rfl) (fun _ _ _ h => h) _ _ _ _ (by kernel_rfl) (by kernel_rfl) (Or.inl ⟨by rfl, ?_⟩) ?_
                rotate_left
                · intro w _
                  go_simp
                  try with_reducible rfl
                simp only [Act.put, List.setIfInBounds_toArray, List.set_cons_zero, List.set_cons_succ, List.getElem_toArray, List.getElem_cons_zero, List.getElem_cons_succ]
                refine under_free (i := 6) (v := ?_) rfl (by kernel_rfl) (fun _ _ _ h => h) _ _ _ _ (by kernel_rfl) (by kernel_rfl) (Or.inl ⟨by rfl, ?_⟩) ?_
                rotate_left
                · intro w _
                  go_simp
                  try with_reducible rfl
                simp only [Act.put, List.setIfInBounds_toArray, List.set_cons_zero, List.set_cons_succ, List.getElem_toArray, List.getElem_cons_zero, List.getElem_cons_succ]
                refine under_free (i := 7) (v := ?_) rfl (by kernel_rfl) (fun _ _ _ h => h) _ _ _ _ (by kernel_rfl) (by kernel_rfl) (Or.inl ⟨by rfl, ?_⟩) ?_
                rotate_left
                · intro w _
                  go_simp
                  try with_reducible rfl
                simp only [Act.put, List.setIfInBounds_toArray, List.set_cons_zero, List.set_cons_succ, List.getElem_toArray, List.getElem_cons_zero, List.getElem_cons_succ]
                refine under_take (i := 8) (v := ?_) rfl (by kernel_rfl) (by kernel_rfl) (fun _ _ _ h => h) _ _ _ _ (by kernel_rfl) (by kernel_rfl) (by kernel_rfl) (Or.inl ⟨by rfl, ?_⟩) hSS ?_
                rotate_left
                · intro w hSw
                  obtain ⟨q0, q1⟩ := hSw
                  go_simp
                  try with_reducible rfl
                simp only [Act.put, List.setIfInBounds_toArray, List.set_cons_zero, List.set_cons_succ, List.getElem_toArray, List.getElem_cons_zero, List.getElem_cons_succ]
                refine under_free (i := 9) (v := ?_) rfl (by kernel_rfl) (fun _ _ _ h => h) _ _ _ _ (by kernel_rfl) (by kernel_rfl) (Or.inl ⟨by rfl, ?_⟩) ?_
                rotate_left
                · intro w _
                  go_simp
                  try with_reducible rfl
                simp only [Act.put, List.setIfInBounds_toArray, List.set_cons_zero, List.set_cons_succ, List.getElem_toArray, List.getElem_cons_zero, List.getElem_cons_succ]
                refine under_free (i := 10) (v := ?_) rfl (by kernel_rfl) (fun _ _ _ h => h) _ _ _ _ (by kernel_rfl) (by kernel_rfl) (Or.inl ⟨by rfl, ?_⟩) ?_
                rotate_left
                · intro w _
                  go_simp
                  try with_reducible rfl
                simp only [Act.put, List.setIfInBounds_toArray, List.set_cons_zero, List.set_cons_succ, List.getElem_toArray, List.getElem_cons_zero, List.getElem_cons_succ]
                refine under_free (i := 11) (v := ?_) rfl (by kernel_rfl) (fun _ _ _ h => h) _ _ _ _ (by kernel_rfl) (by kernel_rfl) (Or.inl ⟨by rfl, ?_⟩) ?_
                rotate_left
                · intro w _
                  go_simp
                  try with_reducible rfl
                simp only [Act.put, List.setIfInBounds_toArray, List.set_cons_zero, List.set_cons_succ, List.getElem_toArray, List.getElem_cons_zero, List.getElem_cons_succ]
                refine under_one (i := 12) (by kernel_rfl) rfl ?_
                intro K hK
                go_simp
                have S9 := S8.put 1 rfl 4 (.int .i64 (m0 : Int))
                refine hK _ _ (fun h => by cases h) ?_
                clear hK K S8 z4 hSS
                refine under_done (by kernel_rfl) ?_ _
                have H9 := Lib.hid S9
                clear S9
                go_wp2_with fail
                go_ret
                refine ⟨_, rfl, ?_⟩
                rw [HT2.out.1, HT2.out.2]
                have hmo : s2.most = m0 := by have h1 := HD.out.1; have h2 := HM0.out.1; have h3 := HM0.out.2; omega
                have htd : told (s2, ps) = [⟨s2.epoch, s2.sent, m, []⟩] := by unfold told; rw [if_pos hps0, if_pos HSO.out, HNX.out]
                rw [htd]
                refine hback.out _ { s2 with owes := false } _ _ ?_
                have h := H9.out
                show Sep w0 _ (_ :: cell g 66 #[_, _, _, _, .int .i64 (s2.most : Int), _, _, _, _] :: _)
                rw [hmo]
                exact h
          · as_aux_lemma =>
            have e1 : ((pn : Int) == 0) = false := by simp; omega
            have e2 : (pn == 0) = false := by simp; omega
            have e3 : (0 : Int) < (pn : Int) := by omega
            have e4 : 0 < pn := by omega
            have z8 := (S2.blk 1 rfl).frozen 8
            have H7 := Lib.hid (S2.put 1 rfl 8 (.bool false))
            clear S2
            go_upto_region 15 with (fail)
            have S7 : Sep w0 (WE.setCell ⟨g, 8, none⟩ (.bool false)) (PkX (.slice VA pn vc) ps :: cell g 66 (({ s2 with most := m0, owes := false } : LS).rcs (.slice AA al ac) (.slice IA m ic) gt) :: BRow (.slice AA al ac) r.all :: BRow (.slice IA m ic) r.inn :: L.eraseIdx i) := H7.out
            clear H7 z8 c8'
            generalize WE.setCell ⟨g, 8, none⟩ (.bool false) = WF at S7 ⊢
            have y4 : WF.cell? ⟨g, 4, none⟩ = some (.int .i64 (m0 : Int)) := (S7.blk 1 rfl).at_ 4 rfl
            have y3 : WF.cell? ⟨g, 3, none⟩ = some (.int .i64 (s2.sent : Int)) := (S7.blk 1 rfl).at_ 3 rfl
            have z4 : WF.drew.frozen? ⟨g, 4, none⟩ = false := (S7.blk 1 rfl).frozen 4
            have hSS : WF.drew.cell? ⟨g, 4, none⟩ = some (.int .i64 (m0 : Int)) ∧ WF.drew.cell? ⟨g, 3, none⟩ = some (.int .i64 (s2.sent : Int)) := ⟨y4, y3⟩
            have S8 := S7.drew
            clear y4 y3 S7
            go_upto_region 15 with (fail)
            by_cases hmx : (m0 : Int) < (s2.sent : Int)
            · refine plain_under (fun w => w.cell? ⟨g, 4, none⟩ = some (.int .i64 (m0 : Int)) ∧ w.cell? ⟨g, 3, none⟩ = some (.int .i64 (s2.sent : Int))) (fun j => decide (j < 12)) (by kernel_rfl) ?_
              generalize WF.drew = WG at hSS S8 z4 ⊢
              simp only [List.size_toArray, List.length_cons, List.length_nil, Nat.reduceAdd, Array.replicate_succ, Array.replicate_zero, List.push_toArray, List.nil_append, List.cons_append]
              refine under_free (i := 0) (v := ?_) rfl (by kernel_rfl) (fun _ _ _ h => h) _ _ _ _ (by kernel_rfl) (by kernel_rfl) (Or.inl ⟨by rfl, ?_⟩) ?_
              rotate_left
              · intro w _
                go_simp
                try with_reducible rfl
              simp only [Act.put, List.setIfInBounds_toArray, List.set_cons_zero, List.set_cons_succ, List.getElem_toArray, List.getElem_cons_zero]
              refine under_free (i := 1) (v := ?_) rfl (by kernel_rfl) (fun _ _ _ h => h) _ _ _ _ (by kernel_rfl) (by kernel_rfl) (Or.inl ⟨by rfl, ?_⟩) ?_
              rotate_left
              · intro w _
                go_simp
                try with_reducible rfl
              simp only [Act.put, List.setIfInBounds_toArray, List.set_cons_zero, List.set_cons_succ, List.getElem_toArray, List.getElem_cons_zero, List.getElem_cons_succ]
              refine under_free (i := 2) (v := ?_) rfl (by kernel_rfl) (fun _ _ _ h => h) _ _ _ _ (by kernel_rfl) (by kernel_rfl) (Or.inl ⟨by rfl, ?_⟩) ?_
              rotate_left
              · intro w _
                go_simp
                try with_reducible rfl
              simp only [Act.put, List.setIfInBounds_toArray, List.set_cons_zero, List.set_cons_succ, List.getElem_toArray, List.getElem_cons_zero, List.getElem_cons_succ]
              refine under_free (i := 3) (v := ?_) rfl (by kernel_rfl) (fun _ _ _ h => h) _ _ _ _ (by kernel_rfl) (by kernel_rfl) (Or.inl ⟨by rfl, ?_⟩) ?_
              rotate_left
              · intro w _
                go_simp
                try with_reducible rfl
              simp only [Act.put, List.setIfInBounds_toArray, List.set_cons_zero, List.set_cons_succ, List.getElem_toArray, List.getElem_cons_zero, List.getElem_cons_succ]
              refine under_take (i := 4) (v := ?_) rfl (by kernel_rfl) (by kernel_rfl) (fun _ _ _ h => h) _ _ _ _ (by kernel_rfl) (by kernel_rfl) (by kernel_rfl) (Or.inl ⟨by rfl, ?_⟩) hSS ?_
              rotate_left
              · intro w hSw
                obtain ⟨q0, q1⟩ := hSw
                go_simp
                try with_reducible rfl
              simp only [Act.put, List.setIfInBounds_toArray, List.set_cons_zero, List.set_cons_succ, List.getElem_toArray, List.getElem_cons_zero, List.getElem_cons_succ]
              refine under_free (i := 5) (v := ?_) rfl (by kernel_rfl) (fun _ _ _ h => h) _ _ _ _ (by kernel_rfl) (by kernel_rfl) (Or.inl ⟨by rfl, ?_⟩) ?_
              rotate_left
              · intro w _
                go_simp
                try with_reducible rfl
              simp only [Act.put, List.setIfInBounds_toArray, List.set_cons_zero, List.set_cons_succ, List.getElem_toArray, List.getElem_cons_zero, List.getElem_cons_succ]
              refine under_free (i := 6) (v := ?_) rfl (by kernel_rfl) (fun _ _ _ h => h) _ _ _ _ (by kernel_rfl) (by kernel_rfl) (Or.inl ⟨by rfl, ?_⟩) ?_
              rotate_left
              · intro w _
                go_simp
                try with_reducible rfl
              simp only [Act.put, List.setIfInBounds_toArray, List.set_cons_zero, List.set_cons_succ, List.getElem_toArray, List.getElem_cons_zero, List.getElem_cons_succ]
              refine under_free (i := 7) (v := ?_) rfl (by kernel_rfl) (fun _ _ _ h => h) _ _ _ _ (by kernel_rfl) (by kernel_rfl) (Or.inl ⟨by rfl, ?_⟩) ?_
              rotate_left
              · intro w _
                go_simp
                try with_reducible rfl
              simp only [Act.put, List.setIfInBounds_toArray, List.set_cons_zero, List.set_cons_succ, List.getElem_toArray, List.getElem_cons_zero, List.getElem_cons_succ]
              refine under_take (i := 8) (v := ?_) rfl (by kernel_rfl) (by kernel_rfl) (fun _ _ _ h => h) _ _ _ _ (by kernel_rfl) (by kernel_rfl) (by kernel_rfl) (Or.inl ⟨by rfl, ?_⟩) hSS ?_
              rotate_left
              · intro w hSw
                obtain ⟨q0, q1⟩ := hSw
                go_simp
                try with_reducible rfl
              simp only [Act.put, List.setIfInBounds_toArray, List.set_cons_zero, List.set_cons_succ, List.getElem_toArray, List.getElem_cons_zero, List.getElem_cons_succ]
              refine under_free (i := 9) (v := ?_) rfl (by kernel_rfl) (fun _ _ _ h => h) _ _ _ _ (by kernel_rfl) (by kernel_rfl) (Or.inl ⟨by rfl, ?_⟩) ?_
              rotate_left
              · intro w _
                go_simp
                try with_reducible rfl
              simp only [Act.put, List.setIfInBounds_toArray, List.set_cons_zero, List.set_cons_succ, List.getElem_toArray, List.getElem_cons_zero, List.getElem_cons_succ]
              refine under_free (i := 10) (v := ?_) rfl (by kernel_rfl) (fun _ _ _ h => h) _ _ _ _ (by kernel_rfl) (by kernel_rfl) (Or.inl ⟨by rfl, ?_⟩) ?_
              rotate_left
              · intro w _
                go_simp
                try with_reducible rfl
              simp only [Act.put, List.setIfInBounds_toArray, List.set_cons_zero, List.set_cons_succ, List.getElem_toArray, List.getElem_cons_zero, List.getElem_cons_succ]
              refine under_free (i := 11) (v := ?_) rfl (by kernel_rfl) (fun _ _ _ h => h) _ _ _ _ (by kernel_rfl) (by kernel_rfl) (Or.inl ⟨by rfl, ?_⟩) ?_
              rotate_left
              · intro w _
                go_simp
                try with_reducible rfl
              simp only [Act.put, List.setIfInBounds_toArray, List.set_cons_zero, List.set_cons_succ, List.getElem_toArray, List.getElem_cons_zero, List.getElem_cons_succ]
              refine under_one (i := 12) (by kernel_rfl) rfl ?_
              intro K hK
              go_simp
              have S9 := S8.put 1 rfl 4 (.int .i64 (s2.sent : Int))
              refine hK _ _ (fun h => by cases h) ?_
              clear hK K S8 z4 hSS
              refine under_done (by kernel_rfl) ?_ _
              have H9 := Lib.hid S9
              clear S9
              go_wp2_with fail
              go_ret
              refine ⟨_, rfl, ?_⟩
              rw [HT2.out.1, HT2.out.2]
              have hmo : s2.most = s2.sent := by have h1 := HD.out.1; have h2 := HM0.out.1; have h3 := HM0.out.2; omega
              have htd : told (s2, ps) = ps := by unfold told; exact if_neg (fun h : ps = [] => hp0 (by rw [← HPN.out, h]; rfl))
              rw [htd]
              refine hback.out _ { s2 with owes := false } _ _ ?_
              have h := H9.out
              show Sep w0 _ (_ :: cell g 66 #[_, _, _, _, .int .i64 (s2.most : Int), _, _, _, _] :: _)
              rw [hmo]
              exact h
            · refine plain_under (fun w => w.cell? ⟨g, 4, none⟩ = some (.int .i64 (m0 : Int)) ∧ w.cell? ⟨g, 3, none⟩ = some (.int .i64 (s2.sent : Int))) (fun j => decide (j < 12)) (by kernel_rfl) ?_
              generalize WF.drew = WG at hSS S8 z4 ⊢
              simp only [List.size_toArray, List.length_cons, List.length_nil, Nat.reduceAdd, Array.replicate_succ, Array.replicate_zero, List.push_toArray, List.nil_append, List.cons_append]
              refine under_free (i := 0) (v := ?_) rfl (by kernel_rfl) (fun _ _ _ h => h) _ _ _ _ (by kernel_rfl) (by kernel_rfl) (Or.inl ⟨by rfl, ?_⟩) ?_
              rotate_left
              · intro w _
                go_simp
                try with_reducible rfl
              simp only [Act.put, List.setIfInBounds_toArray, List.set_cons_zero, List.set_cons_succ, List.getElem_toArray, List.getElem_cons_zero]
              refine under_free (i := 1) (v := ?_) rfl (by kernel_rfl) (fun _ _ _ h => h) _ _ _ _ (by kernel_rfl) (by kernel_rfl) (Or.inl ⟨by rfl, ?_⟩) ?_
              rotate_left
              · intro w _
                go_simp
                try with_reducible rfl
              simp only [Act.put, List.setIfInBounds_toArray, List.set_cons_zero, List.set_cons_succ, List.getElem_toArray, List.getElem_cons_zero, List.getElem_cons_succ]
              refine under_free (i := 2) (v := ?_) rfl (by kernel_rfl) (fun _ _ _ h => h) _ _ _ _ (by kernel_rfl) (by kernel_rfl) (Or.inl ⟨by rfl, ?_⟩) ?_
              rotate_left
              · intro w _
                go_simp
                try with_reducible rfl
              simp only [Act.put, List.setIfInBounds_toArray, List.set_cons_zero, List.set_cons_succ, List.getElem_toArray, List.getElem_cons_zero, List.getElem_cons_succ]
              refine under_free (i := 3) (v := ?_) rfl (by kernel_rfl) (fun _ _ _ h => h) _ _ _ _ (by kernel_rfl) (by kernel_rfl) (Or.inl ⟨by rfl, ?_⟩) ?_
              rotate_left
              · intro w _
                go_simp
                try with_reducible rfl
              simp only [Act.put, List.setIfInBounds_toArray, List.set_cons_zero, List.set_cons_succ, List.getElem_toArray, List.getElem_cons_zero, List.getElem_cons_succ]
              refine under_take (i := 4) (v := ?_) rfl (by kernel_rfl) (by kernel_rfl) (fun _ _ _ h => h) _ _ _ _ (by kernel_rfl) (by kernel_rfl) (by kernel_rfl) (Or.inl ⟨by rfl, ?_⟩) hSS ?_
              rotate_left
              · intro w hSw
                obtain ⟨q0, q1⟩ := hSw
                go_simp
                try with_reducible rfl
              simp only [Act.put, List.setIfInBounds_toArray, List.set_cons_zero, List.set_cons_succ, List.getElem_toArray, List.getElem_cons_zero, List.getElem_cons_succ]
              refine under_free (i := 5) (v := ?_) rfl (by kernel_rfl) (fun _ _ _ h => h) _ _ _ _ (by kernel_rfl) (by kernel_rfl) (Or.inl ⟨by rfl, ?_⟩) ?_
              rotate_left
              · intro w _
                go_simp
                try with_reducible rfl
              simp only [Act.put, List.setIfInBounds_toArray, List.set_cons_zero, List.set_cons_succ, List.getElem_toArray, List.getElem_cons_zero, List.getElem_cons_succ]
              refine under_free (i := 6) (v := ?_) rfl (by kernel_rfl) (fun _ _ _ h => h) _ _ _ _ (by kernel_rfl) (by kernel_rfl) (Or.inl ⟨by rfl, ?_⟩) ?_
              rotate_left
              · intro w _
                go_simp
                try with_reducible rfl
              simp only [Act.put, List.setIfInBounds_toArray, List.set_cons_zero, List.set_cons_succ, List.getElem_toArray, List.getElem_cons_zero, List.getElem_cons_succ]
              refine under_free (i := 7) (v := ?_) rfl (by kernel_rfl) (fun _ _ _ h => h) _ _ _ _ (by kernel_rfl) (by kernel_rfl) (Or.inl ⟨by rfl, ?_⟩) ?_
              rotate_left
              · intro w _
                go_simp
                try with_reducible rfl
              simp only [Act.put, List.setIfInBounds_toArray, List.set_cons_zero, List.set_cons_succ, List.getElem_toArray, List.getElem_cons_zero, List.getElem_cons_succ]
              refine under_take (i := 8) (v := ?_) rfl (by kernel_rfl) (by kernel_rfl) (fun _ _ _ h => h) _ _ _ _ (by kernel_rfl) (by kernel_rfl) (by kernel_rfl) (Or.inl ⟨by rfl, ?_⟩) hSS ?_
              rotate_left
              · intro w hSw
                obtain ⟨q0, q1⟩ := hSw
                go_simp
                try with_reducible rfl
              simp only [Act.put, List.setIfInBounds_toArray, List.set_cons_zero, List.set_cons_succ, List.getElem_toArray, List.getElem_cons_zero, List.getElem_cons_succ]
              refine under_free (i := 9) (v := ?_) rfl (by kernel_rfl) (fun _ _ _ h => h) _ _ _ _ (by kernel_rfl) (by kernel_rfl) (Or.inl ⟨by rfl, ?_⟩) ?_
              rotate_left
              · intro w _
                go_simp
                try with_reducible rfl
              simp only [Act.put, List.setIfInBounds_toArray, List.set_cons_zero, List.set_cons_succ, List.getElem_toArray, List.getElem_cons_zero, List.getElem_cons_succ]
              refine under_free (i := 10) (v := ?_) rfl (by kernel_rfl) (fun _ _ _ h => h) _ _ _ _ (by kernel_rfl) (by kernel_rfl) (Or.inl ⟨by rfl, ?_⟩) ?_
              rotate_left
              · intro w _
                go_simp
                try with_reducible rfl
              simp only [Act.put, List.setIfInBounds_toArray, List.set_cons_zero, List.set_cons_succ, List.getElem_toArray, List.getElem_cons_zero, List.getElem_cons_succ]
              refine under_free (i := 11) (v := ?_) rfl (by kernel_rfl) (fun _ _ _ h => h) _ _ _ _ (by kernel_rfl) (by kernel_rfl) (Or.inl ⟨by rfl, ?_⟩) ?_
              rotate_left
              · intro w _
                go_simp
                try with_reducible rfl
              simp only [Act.put, List.setIfInBounds_toArray, List.set_cons_zero, List.set_cons_succ, List.getElem_toArray, List.getElem_cons_zero, List.getElem_cons_succ]
              refine under_one (i := 12) (by kernel_rfl) rfl ?_
              intro K hK
              go_simp
              have S9 := S8.put 1 rfl 4 (.int .i64 (m0 : Int))
              refine hK _ _ (fun h => by cases h) ?_
              clear hK K S8 z4 hSS
              refine under_done (by kernel_rfl) ?_ _
              have H9 := Lib.hid S9
              clear S9
              go_wp2_with fail
              go_ret
              refine ⟨_, rfl, ?_⟩
              rw [HT2.out.1, HT2.out.2]
              have hmo : s2.most = m0 := by have h1 := HD.out.1; have h2 := HM0.out.1; have h3 := HM0.out.2; omega
              have htd : told (s2, ps) = ps := by unfold told; exact if_neg (fun h : ps = [] => hp0 (by rw [← HPN.out, h]; rfl))
              rw [htd]
              refine hback.out _ { s2 with owes := false } _ _ ?_
              have h := H9.out
              show Sep w0 _ (_ :: cell g 66 #[_, _, _, _, .int .i64 (s2.most : Int), _, _, _, _] :: _)
              rw [hmo]
              exact h
        · as_aux_lemma =>
          go_upto_region 7 with (fail)
          go_quiet (fail)
          have S2 := H1.out.drewN nq
          have c8' : (wr.drewN nq).cell? ⟨g, 8, none⟩ = some (.bool so) := c8
          clear c1 c2 c3 c8 H1 HSX
          generalize wr.drewN nq = WE at S2 c8' ⊢
          by_cases hp0 : pn = 0
          · have hps0 : ps = [] := List.eq_nil_of_length_eq_zero (by rw [HPN.out]; exact hp0)
            have hvn := HV0.out hps0
            injection hvn with v1 v2 v3
            subst v1 v3
            clear v2
            subst hp0
            cases so with
            | false =>
              as_aux_lemma =>
              have S7 : Sep w0 WE (PkX (.slice none 0 0) [] :: cell g 66 (({ s2 with most := m0, owes := false } : LS).rcs (.slice AA al ac) (.slice IA m ic) gt) :: BRow (.slice AA al ac) r.all :: BRow (.slice IA m ic) r.inn :: L.eraseIdx i) := by rw [← HSO.out, ← hps0]; exact S2
              clear S2
              have y4 : WE.cell? ⟨g, 4, none⟩ = some (.int .i64 (m0 : Int)) := (S7.blk 1 rfl).at_ 4 rfl
              have y3 : WE.cell? ⟨g, 3, none⟩ = some (.int .i64 (s2.sent : Int)) := (S7.blk 1 rfl).at_ 3 rfl
              have z4 : WE.drew.frozen? ⟨g, 4, none⟩ = false := (S7.blk 1 rfl).frozen 4
              have hSS : WE.drew.cell? ⟨g, 4, none⟩ = some (.int .i64 (m0 : Int)) ∧ WE.drew.cell? ⟨g, 3, none⟩ = some (.int .i64 (s2.sent : Int)) := ⟨y4, y3⟩
              have S8 := S7.drew
              clear y4 y3 S7
              go_upto_region 15 with (fail)
              by_cases hmx : (m0 : Int) < (s2.sent : Int)
              · refine plain_under (fun w => w.cell? ⟨g, 4, none⟩ = some (.int .i64 (m0 : Int)) ∧ w.cell? ⟨g, 3, none⟩ = some (.int .i64 (s2.sent : Int))) (fun j => decide (j < 12)) (by kernel_rfl) ?_
                generalize WE.drew = WG at hSS S8 z4 ⊢
                simp only [List.size_toArray, List.length_cons, List.length_nil, Nat.reduceAdd, Array.replicate_succ, Array.replicate_zero, List.push_toArray, List.nil_append, List.cons_append]
                refine under_free (i := 0) (v := ?_) rfl (by kernel_rfl) (fun _ _ _ h => h) _ _ _ _ (by kernel_rfl) (by kernel_rfl) (Or.inl ⟨by rfl, ?_⟩) ?_
                rotate_left
                · intro w _
                  go_simp
                  try with_reducible rfl
                simp only [Act.put, List.setIfInBounds_toArray, List.set_cons_zero, List.set_cons_succ, List.getElem_toArray, List.getElem_cons_zero]
                refine under_free (i := 1) (v := ?_) rfl (by kernel_rfl) (fun _ _ _ h => h) _ _ _ _ (by kernel_rfl) (by kernel_rfl) (Or.inl ⟨by rfl, ?_⟩) ?_
                rotate_left
                · intro w _
                  go_simp
                  try with_reducible rfl
                simp only [Act.put, List.setIfInBounds_toArray, List.set_cons_zero, List.set_cons_succ, List.getElem_toArray, List.getElem_cons_zero, List.getElem_cons_succ]
                refine under_free (i := 2) (v := ?_) rfl (by kernel_rfl) (fun _ _ _ h => h) _ _ _ _ (by kernel_rfl) (by kernel_rfl) (Or.inl ⟨by rfl, ?_⟩) ?_
                rotate_left
                · intro w _
                  go_simp
                  try with_reducible rfl
                simp only [Act.put, List.setIfInBounds_toArray, List.set_cons_zero, List.set_cons_succ, List.getElem_toArray, List.getElem_cons_zero, List.getElem_cons_succ]
                refine under_free (i := 3) (v := ?_) rfl (by kernel_rfl) (fun _ _ _ h => h) _ _ _ _ (by kernel_rfl) (by kernel_rfl) (Or.inl ⟨by rfl, ?_⟩) ?_
                rotate_left
                · intro w _
                  go_simp
                  try with_reducible rfl
                simp only [Act.put, List.setIfInBounds_toArray, List.set_cons_zero, List.set_cons_succ, List.getElem_toArray, List.getElem_cons_zero, List.getElem_cons_succ]
                refine under_take (i := 4) (v := ?_) rfl (by kernel_rfl) (by kernel_rfl) (fun _ _ _ h => h) _ _ _ _ (by kernel_rfl) (by kernel_rfl) (by kernel_rfl) (Or.inl ⟨by rfl, ?_⟩) hSS ?_
                rotate_left
                · intro w hSw
                  obtain ⟨q0, q1⟩ := hSw
                  go_simp
                  try with_reducible rfl
                simp only [Act.put, List.setIfInBounds_toArray, List.set_cons_zero, List.set_cons_succ, List.getElem_toArray, List.getElem_cons_zero, List.getElem_cons_succ]
                refine under_free (i := 5) (v := ?_) rfl (by kernel_rfl) (fun _ _ _ h => h) _ _ _ _ (by kernel_rfl) (by kernel_rfl) (Or.inl ⟨by rfl, ?_⟩) ?_
                rotate_left
                · intro w _
                  go_simp
                  try with_reducible rfl
                simp only [Act.put, List.setIfInBounds_toArray, List.set_cons_zero, List.set_cons_succ, List.getElem_toArray, List.getElem_cons_zero, List.getElem_cons_succ]
                refine under_free (i := 6) (v := ?_) rfl (by kernel_rfl) (fun _ _ _ h => h) _ _ _ _ (by kernel_rfl) (by kernel_rfl) (Or.inl ⟨by rfl, ?_⟩) ?_
                rotate_left
                · intro w _
                  go_simp
                  try with_reducible rfl
                simp only [Act.put, List.setIfInBounds_toArray, List.set_cons_zero, List.set_cons_succ, List.getElem_toArray, List.getElem_cons_zero, List.getElem_cons_succ]
                refine under_free (i := 7) (v := ?_) rfl (by kernel_rfl) (fun _ _ _ h => h) _ _ _ _ (by kernel_rfl) (by kernel_rfl) (Or.inl ⟨by rfl, ?_⟩) ?_
                rotate_left
                · intro w _
                  go_simp
                  try with_reducible rfl
                simp only [Act.put, List.setIfInBounds_toArray, List.set_cons_zero, List.set_cons_succ, List.getElem_toArray, List.getElem_cons_zero, List.getElem_cons_succ]
                refine under_take (i := 8) (v := ?_) rfl (by kernel_rfl) (by kernel_rfl) (fun _ _ _ h => h) _ _ _ _ (by kernel_rfl) (by kernel_rfl) (by kernel_rfl) (Or.inl ⟨by rfl, ?_⟩) hSS ?_
                rotate_left
                · intro w hSw
                  obtain ⟨q0, q1⟩ := hSw
                  go_simp
                  try with_reducible rfl
                simp only [Act.put, List.setIfInBounds_toArray, List.set_cons_zero, List.set_cons_succ, List.getElem_toArray, List.getElem_cons_zero, List.getElem_cons_succ]
                refine under_free (i := 9) (v := ?_) rfl (by kernel_rfl) (fun _ _ _ h => h) _ _ _ _ (by kernel_rfl) (by kernel_rfl) (Or.inl ⟨by rfl, ?_⟩) ?_
                rotate_left
                · intro w _
                  go_simp
                  try with_reducible rfl
                simp only [Act.put, List.setIfInBounds_toArray, List.set_cons_zero, List.set_cons_succ, List.getElem_toArray, List.getElem_cons_zero, List.getElem_cons_succ]
                refine under_free (i := 10) (v := ?_) rfl (by kernel_rfl) (fun _ _ _ h => h) _ _ _ _ (by kernel_rfl) (by kernel_rfl) (Or.inl ⟨by rfl, ?_⟩) ?_
                rotate_left
                · intro w _
                  go_simp
                  try with_reducible rfl
                simp only [Act.put, List.setIfInBounds_toArray, List.set_cons_zero, List.set_cons_succ, List.getElem_toArray, List.getElem_cons_zero, List.getElem_cons_succ]
                refine under_free (i := 11) (v := ?_) rfl (by kernel_rfl) (fun _ _ _ h => h) _ _ _ _ (by kernel_rfl) (by kernel_rfl) (Or.inl ⟨by rfl, ?_⟩) ?_
                rotate_left
                · intro w _
                  go_simp
                  try with_reducible rfl
                simp only [Act.put, List.setIfInBounds_toArray, List.set_cons_zero, List.set_cons_succ, List.getElem_toArray, List.getElem_cons_zero, List.getElem_cons_succ]
                refine under_one (i := 12) (by kernel_rfl) rfl ?_
                intro K hK
                go_simp
                have S9 := S8.put 1 rfl 4 (.int .i64 (s2.sent : Int))
                refine hK _ _ (fun h => by cases h) ?_
                clear hK K S8 z4 hSS
                refine under_done (by kernel_rfl) ?_ _
                have H9 := Lib.hid S9
                clear S9
                go_wp2_with fail
                go_ret
                refine ⟨_, rfl, ?_⟩
                rw [HT2.out.1, HT2.out.2]
                have hmo : s2.most = s2.sent := by have h1 := HD.out.1; have h2 := HM0.out.1; have h3 := HM0.out.2; omega
                have htd : told (s2, ps) = [] := by unfold told; rw [if_pos hps0, if_neg (by rw [HSO.out]; decide)]
                rw [htd]
                refine hback.out _ { s2 with owes := false } _ _ ?_
                have h := H9.out
                show Sep w0 _ (_ :: cell g 66 #[_, _, _, _, .int .i64 (s2.most : Int), _, _, _, _] :: _)
                rw [hmo]
                exact h
              · refine plain_under (fun w => w.cell? ⟨g, 4, none⟩ = some (.int .i64 (m0 : Int)) ∧ w.cell? ⟨g, 3, none⟩ = some (.int .i64 (s2.sent : Int))) (fun j => decide (j < 12)) (by kernel_rfl) ?_
                generalize WE.drew = WG at hSS S8 z4 ⊢
                simp only [List.size_toArray, List.length_cons, List.length_nil, Nat.reduceAdd, Array.replicate_succ, Array.replicate_zero, List.push_toArray, List.nil_append, List.cons_append]
                refine under_free (i := 0) (v := ?_) rfl (by kernel_rfl) (fun _ _ _ h => h) _ _ _ _ (by kernel_rfl) (by kernel_rfl) (Or.inl ⟨by rfl, ?_⟩) ?_
                rotate_left
                · intro w _
                  go_simp
                  try with_reducible rfl
                simp only [Act.put, List.setIfInBounds_toArray, List.set_cons_zero, List.set_cons_succ, List.getElem_toArray, List.getElem_cons_zero]
                refine under_free (i := 1) (v := ?_) rfl (by kernel_rfl) (fun _ _ _ h => h) _ _ _ _ (by kernel_rfl) (by kernel_rfl) (Or.inl ⟨by rfl, ?_⟩) ?_
                rotate_left
                · intro w _
                  go_simp
                  try with_reducible rfl
                simp only [Act.put, List.setIfInBounds_toArray, List.set_cons_zero, List.set_cons_succ, List.getElem_toArray, List.getElem_cons_zero, List.getElem_cons_succ]
                refine under_free (i := 2) (v := ?_) rfl (by kernel_rfl) (fun _ _ _ h => h) _ _ _ _ (by kernel_rfl) (by kernel_rfl) (Or.inl ⟨by rfl, ?_⟩) ?_
                rotate_left
                · intro w _
                  go_simp
                  try with_reducible rfl
                simp only [Act.put, List.setIfInBounds_toArray, List.set_cons_zero, List.set_cons_succ, List.getElem_toArray, List.getElem_cons_zero, List.getElem_cons_succ]
                refine under_free (i := 3) (v := ?_) rfl (by kernel_rfl) (fun _ _ _ h => h) _ _ _ _ (by kernel_rfl) (by kernel_rfl) (Or.inl ⟨by rfl, ?_⟩) ?_
                rotate_left
                · intro w _
                  go_simp
                  try with_reducible rfl
                simp only [Act.put, List.setIfInBounds_toArray, List.set_cons_zero, List.set_cons_succ, List.getElem_toArray, List.getElem_cons_zero, List.getElem_cons_succ]
                refine under_take (i := 4) (v := ?_) rfl (by kernel_rfl) (by kernel_rfl) (fun _ _ _ h => h) _ _ _ _ (by kernel_rfl) (by kernel_rfl) (by kernel_rfl) (Or.inl ⟨by rfl, ?_⟩) hSS ?_
                rotate_left
                · intro w hSw
                  obtain ⟨q0, q1⟩ := hSw
                  go_simp
                  try with_reducible rfl
                simp only [Act.put, List.setIfInBounds_toArray, List.set_cons_zero, List.set_cons_succ, List.getElem_toArray, List.getElem_cons_zero, List.getElem_cons_succ]
                refine under_free (i := 5) (v := ?_) rfl (by kernel_rfl) (fun _ _ _ h => h) _ _ _ _ (by kernel_rfl) (by kernel_rfl) (Or.inl ⟨by rfl, ?_⟩) ?_
                rotate_left
                · intro w _
                  go_simp
                  try with_reducible rfl
                simp only [Act.put, List.setIfInBounds_toArray, List.set_cons_zero, List.set_cons_succ, List.getElem_toArray, List.getElem_cons_zero, List.getElem_cons_succ]
                refine under_free (i := 6) (v := ?_) rfl (by kernel_rfl) (fun _ _ _ h => h) _ _ _ _ (by kernel_rfl) (by kernel_rfl) (Or.inl ⟨by rfl, ?_⟩) ?_
                rotate_left
                · intro w _
                  go_simp
                  try with_reducible rfl
                simp only [Act.put, List.setIfInBounds_toArray, List.set_cons_zero, List.set_cons_succ, List.getElem_toArray, List.getElem_cons_zero, List.getElem_cons_succ]
                refine under_free (i := 7) (v := ?_) rfl (by kernel_rfl) (fun _ _ _ h => h) _ _ _ _ (by kernel_rfl) (by kernel_rfl) (Or.inl ⟨by rfl, ?_⟩) ?_
                rotate_left
                · intro w _
                  go_simp
                  try with_reducible rfl
                simp only [Act.put, List.setIfInBounds_toArray, List.set_cons_zero, List.set_cons_succ, List.getElem_toArray, List.getElem_cons_zero, List.getElem_cons_succ]
                refine under_take (i := 8) (v := ?_) rfl (by kernel_rfl) (by kernel_rfl) (fun _ _ _ h => h) _ _ _ _ (by kernel_rfl) (by kernel_rfl) (by kernel_rfl) (Or.inl ⟨by rfl, ?_⟩) hSS ?_
                rotate_left
                · intro w hSw
                  obtain ⟨q0, q1⟩ := hSw
                  go_simp
                  try with_reducible rfl
                simp only [Act.put, List.setIfInBounds_toArray, List.set_cons_zero, List.set_cons_succ, List.getElem_toArray, List.getElem_cons_zero, List.getElem_cons_succ]
                refine under_free (i := 9) (v := ?_) rfl (by kernel_rfl) (fun _ _ _ h => h) _ _ _ _ (by kernel_rfl) (by kernel_rfl) (Or.inl ⟨by rfl, ?_⟩) ?_
                rotate_left
                · intro w _
                  go_simp
                  try with_reducible rfl
                simp only [Act.put, List.setIfInBounds_toArray, List.set_cons_zero, List.set_cons_succ, List.getElem_toArray, List.getElem_cons_zero, List.getElem_cons_succ]
                refine under_free (i := 10) (v := ?_) rfl (by kernel_rfl) (fun _ _ _ h => h) _ _ _ _ (by kernel_rfl) (by kernel_rfl) (Or.inl ⟨by rfl, ?_⟩) ?_
                rotate_left
                · intro w _
                  go_simp
                  try with_reducible rfl
                simp only [Act.put, List.setIfInBounds_toArray, List.set_cons_zero, List.set_cons_succ, List.getElem_toArray, List.getElem_cons_zero, List.getElem_cons_succ]
                refine under_free (i := 11) (v := ?_) rfl (by kernel_rfl) (fun _ _ _ h => h) _ _ _ _ (by kernel_rfl) (by kernel_rfl) (Or.inl ⟨by rfl, ?_⟩) ?_
                rotate_left
                · intro w _
                  go_simp
                  try with_reducible rfl
                simp only [Act.put, List.setIfInBounds_toArray, List.set_cons_zero, List.set_cons_succ, List.getElem_toArray, List.getElem_cons_zero, List.getElem_cons_succ]
                refine under_one (i := 12) (by kernel_rfl) rfl ?_
                intro K hK
                go_simp
                have S9 := S8.put 1 rfl 4 (.int .i64 (m0 : Int))
                refine hK _ _ (fun h => by cases h) ?_
                clear hK K S8 z4 hSS
                refine under_done (by kernel_rfl) ?_ _
                have H9 := Lib.hid S9
                clear S9
                go_wp2_with fail
                go_ret
                refine ⟨_, rfl, ?_⟩
                rw [HT2.out.1, HT2.out.2]
                have hmo : s2.most = m0 := by have h1 := HD.out.1; have h2 := HM0.out.1; have h3 := HM0.out.2; omega
                have htd : told (s2, ps) = [] := by unfold told; rw [if_pos hps0, if_neg (by rw [HSO.out]; decide)]
                rw [htd]
                refine hback.out _ { s2 with owes := false } _ _ ?_
                have h := H9.out
                show Sep w0 _ (_ :: cell g 66 #[_, _, _, _, .int .i64 (s2.most : Int), _, _, _, _] :: _)
                rw [hmo]
                exact h
            | true =>
              as_aux_lemma =>
              have S3 : Sep w0 WE (row 32 4 (.slice none 0 0) 0 [] :: cell g 66 (({ s2 with most := m0 } : LS).rcs (.slice AA al ac) (.slice IA m ic) gt) :: BRow (.slice AA al ac) r.all :: BRow (.slice IA m ic) r.inn :: L.eraseIdx i) := S2.tail.nilRowF 32 4
              have facts : ∀ {X : World} {A0 : Asn} {T : List Asn}, Sep w0 X (A0 :: cell g 66 (({ s2 with most := m0 } : LS).rcs (.slice AA al ac) (.slice IA m ic) gt) :: T) → X.cell? ⟨g, 0, none⟩ = some (.int .u32 (s2.epoch : Int)) ∧ X.cell? ⟨g, 3, none⟩ = some (.int .i64 (s2.sent : Int)) ∧ X.cell? ⟨g, 6, none⟩ = some (.slice IA m ic) := fun h => ⟨(h.blk 1 rfl).at_ 0 rfl, (h.blk 1 rfl).at_ 3 rfl, (h.blk 1 rfl).at_ 6 rfl⟩
              have j1 : IntKind.u64.wrap (s2.sent : Int) = (s2.sent : Int) := by have := HD.out.2.2.1; have := HD.out.2.2.2.2; exact u64_in (by omega) (by omega)
              have j2 : IntKind.u64.wrap (m : Int) = (m : Int) := u64_in (by omega) (by omega)
              clear S2
              go_upto_region 12 with (fail)
              have S4 := S3.drew
              have hSS : WE.drew.cell? ⟨g, 0, none⟩ = some (.int .u32 (s2.epoch : Int)) ∧ WE.drew.cell? ⟨g, 3, none⟩ = some (.int .i64 (s2.sent : Int)) ∧ WE.drew.cell? ⟨g, 6, none⟩ = some (.slice IA m ic) := facts S4
              have c8d : WE.drew.cell? ⟨g, 8, none⟩ = some (.bool true) := c8'
              clear S3 c8'
              refine plain_under (fun w => w.cell? ⟨g, 0, none⟩ = some (.int .u32 (s2.epoch : Int)) ∧ w.cell? ⟨g, 3, none⟩ = some (.int .i64 (s2.sent : Int)) ∧ w.cell? ⟨g, 6, none⟩ = some (.slice IA m ic)) (fun _ => true) (by kernel_rfl) ?_
              generalize WE.drew = w5 at hSS S4 c8d ⊢
              simp only [List.size_toArray, List.length_cons, List.length_nil, Nat.reduceAdd, Array.replicate_succ, Array.replicate_zero, List.push_toArray, List.nil_append, List.cons_append]
              refine under_free (i := 0) (v := ?_) rfl (by kernel_rfl) (fun _ _ _ h => h) _ _ _ _ (by kernel_rfl) (by kernel_rfl) (Or.inl ⟨by rfl, ?_⟩) ?_
              rotate_left
              · intro w _
                go_simp
                try with_reducible rfl
              simp only [Act.put, List.setIfInBounds_toArray, List.set_cons_zero, List.set_cons_succ, List.getElem_toArray, List.getElem_cons_zero]
              refine under_free (i := 1) (v := ?_) rfl (by kernel_rfl) (fun _ _ _ h => h) _ _ _ _ (by kernel_rfl) (by kernel_rfl) (Or.inl ⟨by rfl, ?_⟩) ?_
              rotate_left
              · intro w _
                go_simp
                try with_reducible rfl
              simp only [Act.put, List.setIfInBounds_toArray, List.set_cons_zero, List.set_cons_succ, List.getElem_toArray, List.getElem_cons_zero, List.getElem_cons_succ]
              refine under_free (i := 2) (v := ?_) rfl (by kernel_rfl) (fun _ _ _ h => h) _ _ _ _ (by kernel_rfl) (by kernel_rfl) (Or.inl ⟨by rfl, ?_⟩) ?_
              rotate_left
              · intro w _
                go_simp
                try with_reducible rfl
              simp only [Act.put, List.setIfInBounds_toArray, List.set_cons_zero, List.set_cons_succ, List.getElem_toArray, List.getElem_cons_zero, List.getElem_cons_succ]
              refine under_free (i := 3) (v := ?_) rfl (by kernel_rfl) (fun _ _ _ h => h) _ _ _ _ (by kernel_rfl) (by kernel_rfl) (Or.inl ⟨by rfl, ?_⟩) ?_
              rotate_left
              · intro w _
                go_simp
                try with_reducible rfl
              simp only [Act.put, List.setIfInBounds_toArray, List.set_cons_zero, List.set_cons_succ, List.getElem_toArray, List.getElem_cons_zero, List.getElem_cons_succ]
              refine under_take (i := 4) (v := ?_) rfl (by kernel_rfl) (by kernel_rfl) (fun _ _ _ h => h) _ _ _ _ (by kernel_rfl) (by kernel_rfl) (by kernel_rfl) (Or.inl ⟨by rfl, ?_⟩) hSS ?_
              rotate_left
              · intro w hSw
                obtain ⟨q0, q1, q2⟩ := hSw
                go_simp
                try with_reducible rfl
              simp only [Act.put, List.setIfInBounds_toArray, List.set_cons_zero, List.set_cons_succ, List.getElem_toArray, List.getElem_cons_zero, List.getElem_cons_succ]
              refine under_free (i := 5) (v := ?_) rfl (by kernel_rfl) (fun _ _ _ h => h) _ _ _ _ (by kernel_rfl) (by kernel_rfl) (Or.inl ⟨by rfl, ?_⟩) ?_
              rotate_left
              · intro w _
                go_simp
                try with_reducible rfl
              simp only [Act.put, List.setIfInBounds_toArray, List.set_cons_zero, List.set_cons_succ, List.getElem_toArray, List.getElem_cons_zero, List.getElem_cons_succ]
              refine under_free (i := 6) (v := ?_) rfl (by kernel_rfl) (fun _ _ _ h => h) _ _ _ _ (by kernel_rfl) (by kernel_rfl) (Or.inl ⟨by rfl, ?_⟩) ?_
              rotate_left
              · intro w _
                go_simp
                try with_reducible rfl
              simp only [Act.put, List.setIfInBounds_toArray, List.set_cons_zero, List.set_cons_succ, List.getElem_toArray, List.getElem_cons_zero, List.getElem_cons_succ]
              refine under_free (i := 7) (v := ?_) rfl (by kernel_rfl) (fun _ _ _ h => h) _ _ _ _ (by kernel_rfl) (by kernel_rfl) (Or.inl ⟨by rfl, ?_⟩) ?_
              rotate_left
              · intro w _
                go_simp
                try with_reducible rfl
              simp only [Act.put, List.setIfInBounds_toArray, List.set_cons_zero, List.set_cons_succ, List.getElem_toArray, List.getElem_cons_zero, List.getElem_cons_succ]
              refine under_take (i := 8) (v := ?_) rfl (by kernel_rfl) (by kernel_rfl) (fun _ _ _ h => h) _ _ _ _ (by kernel_rfl) (by kernel_rfl) (by kernel_rfl) (Or.inl ⟨by rfl, ?_⟩) hSS ?_
              rotate_left
              · intro w hSw
                obtain ⟨q0, q1, q2⟩ := hSw
                go_simp
                try with_reducible rfl
              simp only [Act.put, List.setIfInBounds_toArray, List.set_cons_zero, List.set_cons_succ, List.getElem_toArray, List.getElem_cons_zero, List.getElem_cons_succ]
              refine under_free (i := 9) (v := ?_) rfl (by kernel_rfl) (fun _ _ _ h => h) _ _ _ _ (by kernel_rfl) (by kernel_rfl) (Or.inl ⟨by rfl, ?_⟩) ?_
              rotate_left
              · intro w _
                go_simp
                try with_reducible rfl
              simp only [Act.put, List.setIfInBounds_toArray, List.set_cons_zero, List.set_cons_succ, List.getElem_toArray, List.getElem_cons_zero, List.getElem_cons_succ]
              refine under_free (i := 10) (v := ?_) rfl (by kernel_rfl) (fun _ _ _ h => h) _ _ _ _ (by kernel_rfl) (by kernel_rfl) (Or.inl ⟨by rfl, ?_⟩) ?_
              rotate_left
              · intro w _
                go_simp
                try with_reducible rfl
              simp only [Act.put, List.setIfInBounds_toArray, List.set_cons_zero, List.set_cons_succ, List.getElem_toArray, List.getElem_cons_zero, List.getElem_cons_succ]
              refine under_free (i := 11) (v := ?_) rfl (by kernel_rfl) (fun _ _ _ h => h) _ _ _ _ (by kernel_rfl) (by kernel_rfl) (Or.inl ⟨by rfl, ?_⟩) ?_
              rotate_left
              · intro w _
                go_simp
                try with_reducible rfl
              simp only [Act.put, List.setIfInBounds_toArray, List.set_cons_zero, List.set_cons_succ, List.getElem_toArray, List.getElem_cons_zero, List.getElem_cons_succ]
              refine under_free (i := 12) (v := ?_) rfl (by kernel_rfl) (fun _ _ _ h => h) _ _ _ _ (by kernel_rfl) (by kernel_rfl) (Or.inl ⟨by rfl, ?_⟩) ?_
              rotate_left
              · intro w _
                go_simp
                try with_reducible rfl
              simp only [Act.put, List.setIfInBounds_toArray, List.set_cons_zero, List.set_cons_succ, List.getElem_toArray, List.getElem_cons_zero, List.getElem_cons_succ]
              refine under_take (i := 13) (v := ?_) rfl (by kernel_rfl) (by kernel_rfl) (fun _ _ _ h => h) _ _ _ _ (by kernel_rfl) (by kernel_rfl) (by kernel_rfl) (Or.inl ⟨by rfl, ?_⟩) hSS ?_
              rotate_left
              · intro w hSw
                obtain ⟨q0, q1, q2⟩ := hSw
                go_simp
                try with_reducible rfl
              simp only [Act.put, List.setIfInBounds_toArray, List.set_cons_zero, List.set_cons_succ, List.getElem_toArray, List.getElem_cons_zero, List.getElem_cons_succ]
              refine under_free (i := 14) (v := ?_) rfl (by kernel_rfl) (fun _ _ _ h => h) _ _ _ _ (by kernel_rfl) (by kernel_rfl) (Or.inl ⟨by rfl, ?_⟩) ?_
              rotate_left
              · intro w _
                go_simp
                try with_reducible rfl
              simp only [Act.put, List.setIfInBounds_toArray, List.set_cons_zero, List.set_cons_succ, List.getElem_toArray, List.getElem_cons_zero, List.getElem_cons_succ]
              refine under_free (i := 15) (v := ?_) rfl (by kernel_rfl) (fun _ _ _ h => h) _ _ _ _ (by kernel_rfl) (by kernel_rfl) (Or.inl ⟨by rfl, ?_⟩) ?_
              rotate_left
              · intro w _
                go_simp
                try with_reducible rfl
              simp only [Act.put, List.setIfInBounds_toArray, List.set_cons_zero, List.set_cons_succ, List.getElem_toArray, List.getElem_cons_zero, List.getElem_cons_succ]
              refine under_free (i := 16) (v := ?_) rfl (by kernel_rfl) (fun _ _ _ h => h) _ _ _ _ (by kernel_rfl) (by kernel_rfl) (Or.inl ⟨by rfl, ?_⟩) ?_
              rotate_left
              · intro w _
                go_simp
                try with_reducible rfl
              simp only [Act.put, List.setIfInBounds_toArray, List.set_cons_zero, List.set_cons_succ, List.getElem_toArray, List.getElem_cons_zero, List.getElem_cons_succ]
              refine under_one (i := 17) (by kernel_rfl) rfl ?_
              intro K hK
              go_simp
              have S8 := S4.boxF 32 #[.int .u32 (s2.epoch : Int), .int .u64 (s2.sent : Int), .int .u64 (m : Int), .slice none 0 0]
              have hWs : w5.heap.size < (w5.alloc (.cells #[.int .u32 (s2.epoch : Int), .int .u64 (s2.sent : Int), .int .u64 (m : Int), .slice none 0 0] 32)).heap.size := by simp
              replace hSS := facts S8.tail
              refine hK _ _ (fun _ => hSS) ?_
              clear hK K S4
              generalize w5.heap.size = nb2 at S8 hWs ⊢
              generalize w5.alloc (.cells #[.int .u32 (s2.epoch : Int), .int .u64 (s2.sent : Int), .int .u64 (m : Int), .slice none 0 0] 32) = w8 at S8 hWs hSS ⊢
              simp only [List.setIfInBounds_toArray, List.set_cons_zero, List.set_cons_succ]
              refine under_one (i := 18) (by kernel_rfl) rfl ?_
              intro K hK
              obtain ⟨i32, hi32, hz0, hz1, hz2⟩ := info_parts info32
              have hrd : Reads w8 w8.heap.size 4 (some ⟨nb2, 0, none⟩) 1 [.int .u32 (s2.epoch : Int), .int .u64 (s2.sent : Int), .int .u64 (m : Int), .slice none 0 0] := by
                refine ⟨rfl, fun _ => ⟨_, rfl, hWs, fun j x hj => ?_⟩⟩
                have hb := (S8.blk 0 rfl).cell j
                have he : (⟨nb2, 0, none⟩ : Addr).add j = ⟨nb2, j, none⟩ := by unfold Addr.add; split <;> simp_all
                rw [he, hb, ← Array.getElem?_toList]
                exact hj
              refine step_append_any _ rfl (.tmp 118) (.tmp 135) 28 rfl 0 32 i32 _ 4 48 Try.underlying28 hi32 hz0 hz1 hz2 rfl (by omega) (.slice none 0 0) 0 [] rfl (S8.own 1 rfl) _ (some ⟨nb2, 0, none⟩) 1 1 _ rfl hrd (by
                intro x hx
                simp only [List.mem_cons, List.not_mem_nil, or_false] at hx
                rcases hx with rfl | rfl | rfl | rfl <;> rfl) (by unfold maxLen; omega) (by omega) (Nat.zero_le _) ?_
              intro v9 w9 hown hg9 hat
              have S10 := (S8.pushed 1 rfl hown hg9 hat).tail
              replace hSS : w9.cell? ⟨g, 0, none⟩ = some (.int .u32 (s2.epoch : Int)) ∧ w9.cell? ⟨g, 3, none⟩ = some (.int .i64 (s2.sent : Int)) ∧ w9.cell? ⟨g, 6, none⟩ = some (.slice IA m ic) := facts S10
              refine hK _ _ (fun _ => hSS) ?_
              clear hK K hown hg9 hat hrd S8 hWs hi32 hz0 hz1 hz2 facts
              obtain ⟨a9, c9, hv9, -, -⟩ := own_slice (S10.own 0 rfl)
              subst hv9
              simp only [Act.put, List.setIfInBounds_toArray, List.set_cons_zero, List.set_cons_succ, List.getElem_toArray, List.getElem_cons_zero, List.getElem_cons_succ]
              refine under_free (i := 19) (v := ?_) rfl (by kernel_rfl) (fun _ _ _ h => h) _ _ _ _ (by kernel_rfl) (by kernel_rfl) (Or.inl ⟨by rfl, ?_⟩) ?_
              rotate_left
              · intro w _
                go_simp
                try with_reducible rfl
              simp only [Act.put, List.setIfInBounds_toArray, List.set_cons_zero, List.set_cons_succ, List.getElem_toArray, List.getElem_cons_zero, List.getElem_cons_succ]
              refine under_done (by kernel_rfl) ?_ _
              have c8 : w9.cell? ⟨g, 8, none⟩ = some (.bool true) := by rw [← HSO.out]; exact (S10.blk 1 rfl).at_ 8 rfl
              have z8 := (S10.blk 1 rfl).frozen 8
              have S11 := S10.put 1 rfl 8 (.bool false)
              have S12 := pk_push (es := []) (ds := []) (ps := []) (p := ⟨s2.epoch, s2.sent, m, []⟩) (u := .slice none 0 0) rfl (fun _ h => by cases h) S11.nilB
              have H12 := Lib.hid S12
              clear S10 S11 S12 hSS c8d
              go_upto_region 15 with (fail)
              have S7 : Sep w0 (w9.setCell ⟨g, 8, none⟩ (.bool false)) (PkX (.slice a9 1 c9) [⟨s2.epoch, s2.sent, m, []⟩] :: cell g 66 (({ s2 with most := m0, owes := false } : LS).rcs (.slice AA al ac) (.slice IA m ic) gt) :: BRow (.slice AA al ac) r.all :: BRow (.slice IA m ic) r.inn :: L.eraseIdx i) := H12.out
              clear H12 c8 z8
              generalize w9.setCell ⟨g, 8, none⟩ (.bool false) = WF at S7 ⊢
              have y4 : WF.cell? ⟨g, 4, none⟩ = some (.int .i64 (m0 : Int)) := (S7.blk 1 rfl).at_ 4 rfl
              have y3 : WF.cell? ⟨g, 3, none⟩ = some (.int .i64 (s2.sent : Int)) := (S7.blk 1 rfl).at_ 3 rfl
              have z4 : WF.drew.frozen? ⟨g, 4, none⟩ = false := (S7.blk 1 rfl).frozen 4
              have hSS : WF.drew.cell? ⟨g, 4, none⟩ = some (.int .i64 (m0 : Int)) ∧ WF.drew.cell? ⟨g, 3, none⟩ = some (.int .i64 (s2.sent : Int)) := ⟨y4, y3⟩
              have S8 := S7.drew
              clear y4 y3 S7
              go_upto_region 15 with (fail)
              by_cases hmx : (m0 : Int) < (s2.sent : Int)
              · refine plain_under (fun w => w.cell? ⟨g, 4, none⟩ = some (.int .i64 (m0 : Int)) ∧ w.cell? ⟨g, 3, none⟩ = some (.int .i64 (s2.sent : Int))) (fun j => decide (j < 12)) (by kernel_rfl) ?_
                generalize WF.drew = WG at hSS S8 z4 ⊢
                simp only [List.size_toArray, List.length_cons, List.length_nil, Nat.reduceAdd, Array.replicate_succ, Array.replicate_zero, List.push_toArray, List.nil_append, List.cons_append]
                refine under_free (i := 0) (v := ?_) rfl (by kernel_rfl) (fun _ _ _ h => h) _ _ _ _ (by kernel_rfl) (by kernel_rfl) (Or.inl ⟨by rfl, ?_⟩) ?_
                rotate_left
                · intro w _
                  go_simp
                  try with_reducible rfl
                simp only [Act.put, List.setIfInBounds_toArray, List.set_cons_zero, List.set_cons_succ, List.getElem_toArray, List.getElem_cons_zero]
                refine under_free (i := 1) (v := ?_) rfl (by kernel_rfl) (fun _ _ _ h => h) _ _ _ _ (by kernel_rfl) (by kernel_rfl) (Or.inl ⟨by rfl, ?_⟩) ?_
                rotate_left
                · intro w _
                  go_simp
                  try with_reducible rfl
                simp only [Act.put, List.setIfInBounds_toArray, List.set_cons_zero, List.set_cons_succ, List.getElem_toArray, List.getElem_cons_zero, List.getElem_cons_succ]
                refine under_free (i := 2) (v := ?_) rfl (by kernel_rfl) (fun _ _ _ h => h) _ _ _ _ (by kernel_rfl) (by kernel_rfl) (Or.inl ⟨by rfl, ?_⟩) ?_
                rotate_left
                · intro w _
                  go_simp
                  try with_reducible rfl
                simp only [Act.put, List.setIfInBounds_toArray, List.set_cons_zero, List.set_cons_succ, List.getElem_toArray, List.getElem_cons_zero, List.getElem_cons_succ]
                refine under_free (i := 3) (v := ?_) rfl (by kernel_rfl) (fun _ _ _ h => h) _ _ _ _ (by kernel_rfl) (by kernel_rfl) (Or.inl ⟨by rfl, ?_⟩) ?_
                rotate_left
                · intro w _
                  go_simp
                  try with_reducible rfl
                simp only [Act.put, List.setIfInBounds_toArray, List.set_cons_zero, List.set_cons_succ, List.getElem_toArray, List.getElem_cons_zero, List.getElem_cons_succ]
                refine under_take (i := 4) (v := ?_) rfl (by kernel_rfl) (by kernel_rfl) (fun _ _ _ h => h) _ _ _ _ (by kernel_rfl) (by kernel_rfl) (by kernel_rfl) (Or.inl ⟨by rfl, ?_⟩) hSS ?_
                rotate_left
                · intro w hSw
                  obtain ⟨q0, q1⟩ := hSw
                  go_simp
                  try with_reducible rfl
                simp only [Act.put, List.setIfInBounds_toArray, List.set_cons_zero, List.set_cons_succ, List.getElem_toArray, List.getElem_cons_zero, List.getElem_cons_succ]
                refine under_free (i := 5) (v := ?_) rfl (by kernel_rfl) (fun _ _ _ h => h) _ _ _ _ (by kernel_rfl) (by kernel_rfl) (Or.inl ⟨by rfl, ?_⟩) ?_
                rotate_left
                · intro w _
                  go_simp
                  try with_reducible rfl
                simp only [Act.put, List.setIfInBounds_toArray, List.set_cons_zero, List.set_cons_succ, List.getElem_toArray, List.getElem_cons_zero, List.getElem_cons_succ]
                refine under_free (i := 6) (v := ?_) rfl (by kernel_rfl) (fun _ _ _ h => h) _ _ _ _ (by kernel_rfl) (by kernel_rfl) (Or.inl ⟨by rfl, ?_⟩) ?_
                rotate_left
                · intro w _
                  go_simp
                  try with_reducible rfl
                simp only [Act.put, List.setIfInBounds_toArray, List.set_cons_zero, List.set_cons_succ, List.getElem_toArray, List.getElem_cons_zero, List.getElem_cons_succ]
                refine under_free (i := 7) (v := ?_) rfl (by kernel_rfl) (fun _ _ _ h => h) _ _ _ _ (by kernel_rfl) (by kernel_rfl) (Or.inl ⟨by rfl, ?_⟩) ?_
                rotate_left
                · intro w _
                  go_simp
                  try with_reducible rfl
                simp only [Act.put, List.setIfInBounds_toArray, List.set_cons_zero, List.set_cons_succ, List.getElem_toArray, List.getElem_cons_zero, List.getElem_cons_succ]
                refine under_take (i := 8) (v := ?_) rfl (by kernel_rfl) (by kernel_rfl) (fun _ _ _ h => h) _ _ _ _ (by kernel_rfl) (by kernel_rfl) (by kernel_rfl) (Or.inl ⟨by rfl, ?_⟩) hSS ?_
                rotate_left
                · intro w hSw
                  obtain ⟨q0, q1⟩ := hSw
                  go_simp
                  try with_reducible rfl
                simp only [Act.put, List.setIfInBounds_toArray, List.set_cons_zero, List.set_cons_succ, List.getElem_toArray, List.getElem_cons_zero, List.getElem_cons_succ]
                refine under_free (i := 9) (v := ?_) rfl (by kernel_rfl) (fun _ _ _ h => h) _ _ _ _ (by kernel_rfl) (by kernel_rfl) (Or.inl ⟨by rfl, ?_⟩) ?_
                rotate_left
                · intro w _
                  go_simp
                  try with_reducible rfl
                simp only [Act.put, List.setIfInBounds_toArray, List.set_cons_zero, List.set_cons_succ, List.getElem_toArray, List.getElem_cons_zero, List.getElem_cons_succ]
                refine under_free (i := 10) (v := ?_) rfl (by kernel_rfl) (fun _ _ _ h => h) _ _ _ _ (by kernel_rfl) (by kernel_rfl) (Or.inl ⟨by rfl, ?_⟩) ?_
                rotate_left
                · intro w _
                  go_simp
                  try with_reducible rfl
                simp only [Act.put, List.setIfInBounds_toArray, List.set_cons_zero, List.set_cons_succ, List.getElem_toArray, List.getElem_cons_zero, List.getElem_cons_succ]
                refine under_free (i := 11) (v := ?_) rfl (by kernel_rfl) (fun _ _ _ h => h) _ _ _ _ (by kernel_rfl) (by kernel_rfl) (Or.inl ⟨by rfl, ?_⟩) ?_
                rotate_left
                · intro w _
                  go_simp
                  try with_reducible rfl
                simp only [Act.put, List.setIfInBounds_toArray, List.set_cons_zero, List.set_cons_succ, List.getElem_toArray, List.getElem_cons_zero, List.getElem_cons_succ]
                refine under_one (i := 12) (by kernel_rfl) rfl ?_
                intro K hK
                go_simp
                have S9 := S8.put 1 rfl 4 (.int .i64 (s2.sent : Int))
                refine hK _ _ (fun h => by cases h) ?_
                clear hK K S8 z4 hSS
                refine under_done (by kernel_rfl) ?_ _
                have H9 := Lib.hid S9
                clear S9
                go_wp2_with fail
                go_ret
                refine ⟨_, rfl, ?_⟩
                rw [HT2.out.1, HT2.out.2]
                have hmo : s2.most = s2.sent := by have h1 := HD.out.1; have h2 := HM0.out.1; have h3 := HM0.out.2; omega
                have htd : told (s2, ps) = [⟨s2.epoch, s2.sent, m, []⟩] := by unfold told; rw [if_pos hps0, if_pos HSO.out, HNX.out]
                rw [htd]
                refine hback.out _ { s2 with owes := false } _ _ ?_
                have h := H9.out
                show Sep w0 _ (_ :: cell g 66 #[_, _, _, _, .int .i64 (s2.most : Int), _, _, _, _] :: _)
                rw [hmo]
                exact h
              · refine plain_under (fun w => w.cell? ⟨g, 4, none⟩ = some (.int .i64 (m0 : Int)) ∧ w.cell? ⟨g, 3, none⟩ = some (.int .i64 (s2.sent : Int))) (fun j => decide (j < 12)) (by kernel_rfl) ?_
                generalize WF.drew = WG at hSS S8 z4 ⊢
                simp only [List.size_toArray, List.length_cons, List.length_nil, Nat.reduceAdd, Array.replicate_succ, Array.replicate_zero, List.push_toArray, List.nil_append, List.cons_append]
                refine under_free (i := 0) (v := ?_) rfl (by kernel_rfl) (fun _ _ _ h => h) _ _ _ _ (by kernel_rfl) (by kernel_rfl) (Or.inl ⟨by rfl, ?_⟩) ?_
                rotate_left
                · intro w _
                  go_simp
                  try with_reducible rfl
                simp only [Act.put, List.setIfInBounds_toArray, List.set_cons_zero, List.set_cons_succ, List.getElem_toArray, List.getElem_cons_zero]
                refine under_free (i := 1) (v := ?_) rfl (by kernel_rfl) (fun _ _ _ h => h) _ _ _ _ (by kernel_rfl) (by kernel_rfl) (Or.inl ⟨by rfl, ?_⟩) ?_
                rotate_left
                · intro w _
                  go_simp
                  try with_reducible rfl
                simp only [Act.put, List.setIfInBounds_toArray, List.set_cons_zero, List.set_cons_succ, List.getElem_toArray, List.getElem_cons_zero, List.getElem_cons_succ]
                refine under_free (i := 2) (v := ?_) rfl (by kernel_rfl) (fun _ _ _ h => h) _ _ _ _ (by kernel_rfl) (by kernel_rfl) (Or.inl ⟨by rfl, ?_⟩) ?_
                rotate_left
                · intro w _
                  go_simp
                  try with_reducible rfl
                simp only [Act.put, List.setIfInBounds_toArray, List.set_cons_zero, List.set_cons_succ, List.getElem_toArray, List.getElem_cons_zero, List.getElem_cons_succ]
                refine under_free (i := 3) (v := ?_) rfl (by kernel_rfl) (fun _ _ _ h => h) _ _ _ _ (by kernel_rfl) (by kernel_rfl) (Or.inl ⟨by rfl, ?_⟩) ?_
                rotate_left
                · intro w _
                  go_simp
                  try with_reducible rfl
                simp only [Act.put, List.setIfInBounds_toArray, List.set_cons_zero, List.set_cons_succ, List.getElem_toArray, List.getElem_cons_zero, List.getElem_cons_succ]
                refine under_take (i := 4) (v := ?_) rfl (by kernel_rfl) (by kernel_rfl) (fun _ _ _ h => h) _ _ _ _ (by kernel_rfl) (by kernel_rfl) (by kernel_rfl) (Or.inl ⟨by rfl, ?_⟩) hSS ?_
                rotate_left
                · intro w hSw
                  obtain ⟨q0, q1⟩ := hSw
                  go_simp
                  try with_reducible rfl
                simp only [Act.put, List.setIfInBounds_toArray, List.set_cons_zero, List.set_cons_succ, List.getElem_toArray, List.getElem_cons_zero, List.getElem_cons_succ]
                refine under_free (i := 5) (v := ?_) rfl (by kernel_rfl) (fun _ _ _ h => h) _ _ _ _ (by kernel_rfl) (by kernel_rfl) (Or.inl ⟨by rfl, ?_⟩) ?_
                rotate_left
                · intro w _
                  go_simp
                  try with_reducible rfl
                simp only [Act.put, List.setIfInBounds_toArray, List.set_cons_zero, List.set_cons_succ, List.getElem_toArray, List.getElem_cons_zero, List.getElem_cons_succ]
                refine under_free (i := 6) (v := ?_) rfl (by kernel_rfl) (fun _ _ _ h => h) _ _ _ _ (by kernel_rfl) (by kernel_rfl) (Or.inl ⟨by rfl, ?_⟩) ?_
                rotate_left
                · intro w _
                  go_simp
                  try with_reducible rfl
                simp only [Act.put, List.setIfInBounds_toArray, List.set_cons_zero, List.set_cons_succ, List.getElem_toArray, List.getElem_cons_zero, List.getElem_cons_succ]
                refine under_free (i := 7) (v := ?_) rfl (by kernel_rfl) (fun _ _ _ h => h) _ _ _ _ (by kernel_rfl) (by kernel_rfl) (Or.inl ⟨by rfl, ?_⟩) ?_
                rotate_left
                · intro w _
                  go_simp
                  try with_reducible rfl
                simp only [Act.put, List.setIfInBounds_toArray, List.set_cons_zero, List.set_cons_succ, List.getElem_toArray, List.getElem_cons_zero, List.getElem_cons_succ]
                refine under_take (i := 8) (v := ?_) rfl (by kernel_rfl) (by kernel_rfl) (fun _ _ _ h => h) _ _ _ _ (by kernel_rfl) (by kernel_rfl) (by kernel_rfl) (Or.inl ⟨by rfl, ?_⟩) hSS ?_
                rotate_left
                · intro w hSw
                  obtain ⟨q0, q1⟩ := hSw
                  go_simp
                  try with_reducible rfl
                simp only [Act.put, List.setIfInBounds_toArray, List.set_cons_zero, List.set_cons_succ, List.getElem_toArray, List.getElem_cons_zero, List.getElem_cons_succ]
                refine under_free (i := 9) (v := ?_) rfl (by kernel_rfl) (fun _ _ _ h => h) _ _ _ _ (by kernel_rfl) (by kernel_rfl) (Or.inl ⟨by rfl, ?_⟩) ?_
                rotate_left
                · intro w _
                  go_simp
                  try with_reducible rfl
                simp only [Act.put, List.setIfInBounds_toArray, List.set_cons_zero, List.set_cons_succ, List.getElem_toArray, List.getElem_cons_zero, List.getElem_cons_succ]
                refine under_free (i := 10) (v := ?_) rfl (by kernel_rfl) (fun _ _ _ h => h) _ _ _ _ (by kernel_rfl) (by kernel_rfl) (Or.inl ⟨by rfl, ?_⟩) ?_
                rotate_left
                · intro w _
                  go_simp
                  try with_reducible rfl
                simp only [Act.put, List.setIfInBounds_toArray, List.set_cons_zero, List.set_cons_succ, List.getElem_toArray, List.getElem_cons_zero, List.getElem_cons_succ]
                refine under_free (i := 11) (v := ?_) rfl (by kernel_rfl) (fun _ _ _ h => h) _ _ _ _ (by kernel_rfl) (by kernel_rfl) (Or.inl ⟨by rfl, ?_⟩) ?_
                rotate_left
                · intro w _
                  go_simp
                  try with_reducible rfl
                simp only [Act.put, List.setIfInBounds_toArray, List.set_cons_zero, List.set_cons_succ, List.getElem_toArray, List.getElem_cons_zero, List.getElem_cons_succ]
                refine under_one (i := 12) (by kernel_rfl) rfl ?_
                intro K hK
                go_simp
                have S9 := S8.put 1 rfl 4 (.int .i64 (m0 : Int))
                refine hK _ _ (fun h => by cases h) ?_
                clear hK K S8 z4 hSS
                refine under_done (by kernel_rfl) ?_ _
                have H9 := Lib.hid S9
                clear S9
                go_wp2_with fail
                go_ret
                refine ⟨_, rfl, ?_⟩
                rw [HT2.out.1, HT2.out.2]
                have hmo : s2.most = m0 := by have h1 := HD.out.1; have h2 := HM0.out.1; have h3 := HM0.out.2; omega
                have htd : told (s2, ps) = [⟨s2.epoch, s2.sent, m, []⟩] := by unfold told; rw [if_pos hps0, if_pos HSO.out, HNX.out]
                rw [htd]
                refine hback.out _ { s2 with owes := false } _ _ ?_
                have h := H9.out
                show Sep w0 _ (_ :: cell g 66 #[_, _, _, _, .int .i64 (s2.most : Int), _, _, _, _] :: _)
                rw [hmo]
                exact h
          · as_aux_lemma =>
            have e1 : ((pn : Int) == 0) = false := by simp; omega
            have e2 : (pn == 0) = false := by simp; omega
            have e3 : (0 : Int) < (pn : Int) := by omega
            have e4 : 0 < pn := by omega
            have z8 := (S2.blk 1 rfl).frozen 8
            have H7 := Lib.hid (S2.put 1 rfl 8 (.bool false))
            clear S2
            go_upto_region 15 with (fail)
            have S7 : Sep w0 (WE.setCell ⟨g, 8, none⟩ (.bool false)) (PkX (.slice VA pn vc) ps :: cell g 66 (({ s2 with most := m0, owes := false } : LS).rcs (.slice AA al ac) (.slice IA m ic) gt) :: BRow (.slice AA al ac) r.all :: BRow (.slice IA m ic) r.inn :: L.eraseIdx i) := H7.out
            clear H7 z8 c8'
            generalize WE.setCell ⟨g, 8, none⟩ (.bool false) = WF at S7 ⊢
            have y4 : WF.cell? ⟨g, 4, none⟩ = some (.int .i64 (m0 : Int)) := (S7.blk 1 rfl).at_ 4 rfl
            have y3 : WF.cell? ⟨g, 3, none⟩ = some (.int .i64 (s2.sent : Int)) := (S7.blk 1 rfl).at_ 3 rfl
            have z4 : WF.drew.frozen? ⟨g, 4, none⟩ = false := (S7.blk 1 rfl).frozen 4
            have hSS : WF.drew.cell? ⟨g, 4, none⟩ = some (.int .i64 (m0 : Int)) ∧ WF.drew.cell? ⟨g, 3, none⟩ = some (.int .i64 (s2.sent : Int)) := ⟨y4, y3⟩
            have S8 := S7.drew
            clear y4 y3 S7
            go_upto_region 15 with (fail)
            by_cases hmx : (m0 : Int) < (s2.sent : Int)
            · refine plain_under (fun w => w.cell? ⟨g, 4, none⟩ = some (.int .i64 (m0 : Int)) ∧ w.cell? ⟨g, 3, none⟩ = some (.int .i64 (s2.sent : Int))) (fun j => decide (j < 12)) (by kernel_rfl) ?_
              generalize WF.drew = WG at hSS S8 z4 ⊢
              simp only [List.size_toArray, List.length_cons, List.length_nil, Nat.reduceAdd, Array.replicate_succ, Array.replicate_zero, List.push_toArray, List.nil_append, List.cons_append]
              refine under_free (i := 0) (v := ?_) rfl (by kernel_rfl) (fun _ _ _ h => h) _ _ _ _ (by kernel_rfl) (by kernel_rfl) (Or.inl ⟨by rfl, ?_⟩) ?_
              rotate_left
              · intro w _
                go_simp
                try with_reducible rfl
              simp only [Act.put, List.setIfInBounds_toArray, List.set_cons_zero, List.set_cons_succ, List.getElem_toArray, List.getElem_cons_zero]
              refine under_free (i := 1) (v := ?_) rfl (by kernel_rfl) (fun _ _ _ h => h) _ _ _ _ (by kernel_rfl) (by kernel_rfl) (Or.inl ⟨by rfl, ?_⟩) ?_
              rotate_left
              · intro w _
                go_simp
                try with_reducible rfl
              simp only [Act.put, List.setIfInBounds_toArray, List.set_cons_zero, List.set_cons_succ, List.getElem_toArray, List.getElem_cons_zero, List.getElem_cons_succ]
              refine under_free (i := 2) (v := ?_) rfl (by kernel_rfl) (fun _ _ _ h => h) _ _ _ _ (by kernel_rfl) (by kernel_rfl) (Or.inl ⟨by rfl, ?_⟩) ?_
              rotate_left
              · intro w _
                go_simp
                try with_reducible rfl
              simp only [Act.put, List.setIfInBounds_toArray, List.set_cons_zero, List.set_cons_succ, List.getElem_toArray, List.getElem_cons_zero, List.getElem_cons_succ]
              refine under_free (i := 3) (v := ?_) rfl (by kernel_rfl) (fun _ _ _ h => h) _ _ _ _ (by kernel_rfl) (by kernel_rfl) (Or.inl ⟨by rfl, ?_⟩) ?_
              rotate_left
              · intro w _
                go_simp
                try with_reducible rfl
              simp only [Act.put, List.setIfInBounds_toArray, List.set_cons_zero, List.set_cons_succ, List.getElem_toArray, List.getElem_cons_zero, List.getElem_cons_succ]
              refine under_take (i := 4) (v := ?_) rfl (by kernel_rfl) (by kernel_rfl) (fun _ _ _ h => h) _ _ _ _ (by kernel_rfl) (by kernel_rfl) (by kernel_rfl) (Or.inl ⟨by rfl, ?_⟩) hSS ?_
              rotate_left
              · intro w hSw
                obtain ⟨q0, q1⟩ := hSw
                go_simp
                try with_reducible rfl
              simp only [Act.put, List.setIfInBounds_toArray, List.set_cons_zero, List.set_cons_succ, List.getElem_toArray, List.getElem_cons_zero, List.getElem_cons_succ]
              refine under_free (i := 5) (v := ?_) rfl (by kernel_rfl) (fun _ _ _ h => h) _ _ _ _ (by kernel_rfl) (by kernel_rfl) (Or.inl ⟨by rfl, ?_⟩) ?_
              rotate_left
              · intro w _
                go_simp
                try with_reducible rfl
              simp only [Act.put, List.setIfInBounds_toArray, List.set_cons_zero, List.set_cons_succ, List.getElem_toArray, List.getElem_cons_zero, List.getElem_cons_succ]
              refine under_free (i := 6) (v := ?_) rfl (by kernel_rfl) (fun _ _ _ h => h) _ _ _ _ (by kernel_rfl) (by kernel_rfl) (Or.inl ⟨by rfl, ?_⟩) ?_
              rotate_left
              · intro w _
                go_simp
                try with_reducible rfl
              simp only [Act.put, List.setIfInBounds_toArray, List.set_cons_zero, List.set_cons_succ, List.getElem_toArray, List.getElem_cons_zero, List.getElem_cons_succ]
              refine under_free (i := 7) (v := ?_) rfl (by kernel_rfl) (fun _ _ _ h => h) _ _ _ _ (by kernel_rfl) (by kernel_rfl) (Or.inl ⟨by rfl, ?_⟩) ?_
              rotate_left
              · intro w _
                go_simp
                try with_reducible rfl
              simp only [Act.put, List.setIfInBounds_toArray, List.set_cons_zero, List.set_cons_succ, List.getElem_toArray, List.getElem_cons_zero, List.getElem_cons_succ]
              refine under_take (i := 8) (v := ?_) rfl (by kernel_rfl) (by kernel_rfl) (fun _ _ _ h => h) _ _ _ _ (by kernel_rfl) (by kernel_rfl) (by kernel_rfl) (Or.inl ⟨by rfl, ?_⟩) hSS ?_
              rotate_left
              · intro w hSw
                obtain ⟨q0, q1⟩ := hSw
                go_simp
                try with_reducible rfl
              simp only [Act.put, List.setIfInBounds_toArray, List.set_cons_zero, List.set_cons_succ, List.getElem_toArray, List.getElem_cons_zero, List.getElem_cons_succ]
              refine under_free (i := 9) (v := ?_) rfl (by kernel_rfl) (fun _ _ _ h => h) _ _ _ _ (by kernel_rfl) (by kernel_rfl) (Or.inl ⟨by rfl, ?_⟩) ?_
              rotate_left
              · intro w _
                go_simp
                try with_reducible rfl
              simp only [Act.put, List.setIfInBounds_toArray, List.set_cons_zero, List.set_cons_succ, List.getElem_toArray, List.getElem_cons_zero, List.getElem_cons_succ]
              refine under_free (i := 10) (v := ?_) rfl (by kernel_rfl) (fun _ _ _ h => h) _ _ _ _ (by kernel_rfl) (by kernel_rfl) (Or.inl ⟨by rfl, ?_⟩) ?_
              rotate_left
              · intro w _
                go_simp
                try with_reducible rfl
              simp only [Act.put, List.setIfInBounds_toArray, List.set_cons_zero, List.set_cons_succ, List.getElem_toArray, List.getElem_cons_zero, List.getElem_cons_succ]
              refine under_free (i := 11) (v := ?_) rfl (by kernel_rfl) (fun _ _ _ h => h) _ _ _ _ (by kernel_rfl) (by kernel_rfl) (Or.inl ⟨by rfl, ?_⟩) ?_
              rotate_left
              · intro w _
                go_simp
                try with_reducible rfl
              simp only [Act.put, List.setIfInBounds_toArray, List.set_cons_zero, List.set_cons_succ, List.getElem_toArray, List.getElem_cons_zero, List.getElem_cons_succ]
              refine under_one (i := 12) (by kernel_rfl) rfl ?_
              intro K hK
              go_simp
              have S9 := S8.put 1 rfl 4 (.int .i64 (s2.sent : Int))
              refine hK _ _ (fun h => by cases h) ?_
              clear hK K S8 z4 hSS
              refine under_done (by kernel_rfl) ?_ _
              have H9 := Lib.hid S9
              clear S9
              go_wp2_with fail
              go_ret
              refine ⟨_, rfl, ?_⟩
              rw [HT2.out.1, HT2.out.2]
              have hmo : s2.most = s2.sent := by have h1 := HD.out.1; have h2 := HM0.out.1; have h3 := HM0.out.2; omega
              have htd : told (s2, ps) = ps := by unfold told; exact if_neg (fun h : ps = [] => hp0 (by rw [← HPN.out, h]; rfl))
              rw [htd]
              refine hback.out _ { s2 with owes := false } _ _ ?_
              have h := H9.out
              show Sep w0 _ (_ :: cell g 66 #[_, _, _, _, .int .i64 (s2.most : Int), _, _, _, _] :: _)
              rw [hmo]
              exact h
            · refine plain_under (fun w => w.cell? ⟨g, 4, none⟩ = some (.int .i64 (m0 : Int)) ∧ w.cell? ⟨g, 3, none⟩ = some (.int .i64 (s2.sent : Int))) (fun j => decide (j < 12)) (by kernel_rfl) ?_
              generalize WF.drew = WG at hSS S8 z4 ⊢
              simp only [List.size_toArray, List.length_cons, List.length_nil, Nat.reduceAdd, Array.replicate_succ, Array.replicate_zero, List.push_toArray, List.nil_append, List.cons_append]
              refine under_free (i := 0) (v := ?_) rfl (by kernel_rfl) (fun _ _ _ h => h) _ _ _ _ (by kernel_rfl) (by kernel_rfl) (Or.inl ⟨by rfl, ?_⟩) ?_
              rotate_left
              · intro w _
                go_simp
                try with_reducible rfl
              simp only [Act.put, List.setIfInBounds_toArray, List.set_cons_zero, List.set_cons_succ, List.getElem_toArray, List.getElem_cons_zero]
              refine under_free (i := 1) (v := ?_) rfl (by kernel_rfl) (fun _ _ _ h => h) _ _ _ _ (by kernel_rfl) (by kernel_rfl) (Or.inl ⟨by rfl, ?_⟩) ?_
              rotate_left
              · intro w _
                go_simp
                try with_reducible rfl
              simp only [Act.put, List.setIfInBounds_toArray, List.set_cons_zero, List.set_cons_succ, List.getElem_toArray, List.getElem_cons_zero, List.getElem_cons_succ]
              refine under_free (i := 2) (v := ?_) rfl (by kernel_rfl) (fun _ _ _ h => h) _ _ _ _ (by kernel_rfl) (by kernel_rfl) (Or.inl ⟨by rfl, ?_⟩) ?_
              rotate_left
              · intro w _
                go_simp
                try with_reducible rfl
              simp only [Act.put, List.setIfInBounds_toArray, List.set_cons_zero, List.set_cons_succ, List.getElem_toArray, List.getElem_cons_zero, List.getElem_cons_succ]
              refine under_free (i := 3) (v := ?_) rfl (by kernel_rfl) (fun _ _ _ h => h) _ _ _ _ (by kernel_rfl) (by kernel_rfl) (Or.inl ⟨by rfl, ?_⟩) ?_
              rotate_left
              · intro w _
                go_simp
                try with_reducible rfl
              simp only [Act.put, List.setIfInBounds_toArray, List.set_cons_zero, List.set_cons_succ, List.getElem_toArray, List.getElem_cons_zero, List.getElem_cons_succ]
              refine under_take (i := 4) (v := ?_) rfl (by kernel_rfl) (by kernel_rfl) (fun _ _ _ h => h) _ _ _ _ (by kernel_rfl) (by kernel_rfl) (by kernel_rfl) (Or.inl ⟨by rfl, ?_⟩) hSS ?_
              rotate_left
              · intro w hSw
                obtain ⟨q0, q1⟩ := hSw
                go_simp
                try with_reducible rfl
              simp only [Act.put, List.setIfInBounds_toArray, List.set_cons_zero, List.set_cons_succ, List.getElem_toArray, List.getElem_cons_zero, List.getElem_cons_succ]
              refine under_free (i := 5) (v := ?_) rfl (by kernel_rfl) (fun _ _ _ h => h) _ _ _ _ (by kernel_rfl) (by kernel_rfl) (Or.inl ⟨by rfl, ?_⟩) ?_
              rotate_left
              · intro w _
                go_simp
                try with_reducible rfl
              simp only [Act.put, List.setIfInBounds_toArray, List.set_cons_zero, List.set_cons_succ, List.getElem_toArray, List.getElem_cons_zero, List.getElem_cons_succ]
              refine under_free (i := 6) (v := ?_) rfl (by kernel_rfl) (fun _ _ _ h => h) _ _ _ _ (by kernel_rfl) (by kernel_rfl) (Or.inl ⟨by rfl, ?_⟩) ?_
              rotate_left
              · intro w _
                go_simp
                try with_reducible rfl
              simp only [Act.put, List.setIfInBounds_toArray, List.set_cons_zero, List.set_cons_succ, List.getElem_toArray, List.getElem_cons_zero, List.getElem_cons_succ]
              refine under_free (i := 7) (v := ?_) rfl (by kernel_rfl) (fun _ _ _ h => h) _ _ _ _ (by kernel_rfl) (by kernel_rfl) (Or.inl ⟨by rfl, ?_⟩) ?_
              rotate_left
              · intro w _
                go_simp
                try with_reducible rfl
              simp only [Act.put, List.setIfInBounds_toArray, List.set_cons_zero, List.set_cons_succ, List.getElem_toArray, List.getElem_cons_zero, List.getElem_cons_succ]
              refine under_take (i := 8) (v := ?_) rfl (by kernel_rfl) (by kernel_rfl) (fun _ _ _ h => h) _ _ _ _ (by kernel_rfl) (by kernel_rfl) (by kernel_rfl) (Or.inl ⟨by rfl, ?_⟩) hSS ?_
              rotate_left
              · intro w hSw
                obtain ⟨q0, q1⟩ := hSw
                go_simp
                try with_reducible rfl
              simp only [Act.put, List.setIfInBounds_toArray, List.set_cons_zero, List.set_cons_succ, List.getElem_toArray, List.getElem_cons_zero, List.getElem_cons_succ]
              refine under_free (i := 9) (v := ?_) rfl (by kernel_rfl) (fun _ _ _ h => h) _ _ _ _ (by kernel_rfl) (by kernel_rfl) (Or.inl ⟨by rfl, ?_⟩) ?_
              rotate_left
              · intro w _
                go_simp
                try with_reducible rfl
              simp only [Act.put, List.setIfInBounds_toArray, List.set_cons_zero, List.set_cons_succ, List.getElem_toArray, List.getElem_cons_zero, List.getElem_cons_succ]
              refine under_free (i := 10) (v := ?_) rfl (by kernel_rfl) (fun _ _ _ h => h) _ _ _ _ (by kernel_rfl) (by kernel_rfl) (Or.inl ⟨by rfl, ?_⟩) ?_
              rotate_left
              · intro w _
                go_simp
                try with_reducible rfl
              simp only [Act.put, List.setIfInBounds_toArray, List.set_cons_zero, List.set_cons_succ, List.getElem_toArray, List.getElem_cons_zero, List.getElem_cons_succ]
              refine under_free (i := 11) (v := ?_) rfl (by kernel_rfl) (fun _ _ _ h => h) _ _ _ _ (by kernel_rfl) (by kernel_rfl) (Or.inl ⟨by rfl, ?_⟩) ?_
              rotate_left
              · intro w _
                go_simp
                try with_reducible rfl
              simp only [Act.put, List.setIfInBounds_toArray, List.set_cons_zero, List.set_cons_succ, List.getElem_toArray, List.getElem_cons_zero, List.getElem_cons_succ]
              refine under_one (i := 12) (by kernel_rfl) rfl ?_
              intro K hK
              go_simp
              have S9 := S8.put 1 rfl 4 (.int .i64 (m0 : Int))
              refine hK _ _ (fun h => by cases h) ?_
              clear hK K S8 z4 hSS
              refine under_done (by kernel_rfl) ?_ _
              have H9 := Lib.hid S9
              clear S9
              go_wp2_with fail
              go_ret
              refine ⟨_, rfl, ?_⟩
              rw [HT2.out.1, HT2.out.2]
              have hmo : s2.most = m0 := by have h1 := HD.out.1; have h2 := HM0.out.1; have h3 := HM0.out.2; omega
              have htd : told (s2, ps) = ps := by unfold told; exact if_neg (fun h : ps = [] => hp0 (by rw [← HPN.out, h]; rfl))
              rw [htd]
              refine hback.out _ { s2 with owes := false } _ _ ?_
              have h := H9.out
              show Sep w0 _ (_ :: cell g 66 #[_, _, _, _, .int .i64 (s2.most : Int), _, _, _, _] :: _)
              rw [hmo]
              exact h
      · have d0 : decide ((s2.sent : Int) < (s2.base : Int) + 1024) = true := decide_eq_true (by omega)
        have d1 : decide ((s2.sent : Int) < (al : Int)) = true := decide_eq_true (by omega)
        have d2 : decide (s2.sent < al) = true := decide_eq_true (by omega)
        have e0 : (if (s2.base : Int) + 1024 < (if (al : Int) < (s2.sent : Int) + 256 then (al : Int) else (s2.sent : Int) + 256) then (s2.base : Int) + 1024 else if (al : Int) < (s2.sent : Int) + 256 then (al : Int) else (s2.sent : Int) + 256) = (s2.sent : Int) + (k : Int) := by split <;> split <;> omega
        obtain ⟨es, ds, hes, hds, S2⟩ := S1.openK
        obtain ⟨n, hn⟩ : ∃ n, es.length = n := ⟨_, rfl⟩
        obtain ⟨VA, vc, hv, -, -⟩ := own_slice (S2.own 0 rfl)
        rw [hn] at hv S2
        subst hv
        have hone : ∀ u ∈ entP es, u.oneCell' = true := entP_one_of fun e he => by
          obtain ⟨B, c, h1, -⟩ := rb_of S2.tail (hds e he)
          rw [h1]; rfl
        have hnb : n ≤ 3000 := by
          have h1 := pieces_len 1024 s1 (by have := hlo; omega)
          rw [hO'.e2, List.length_append] at h1
          have h2 := congrArg List.length hes
          rw [List.length_map, hn] at h2
          omega
        obtain ⟨U, hU⟩ : ∃ U, ds.map rowD = U := ⟨_, rfl⟩
        rw [hU] at S2
        have S3 := S2.perm (.cons _ (perm_float3 _ _ _ _ _))
        clear S1 S2
        have j1 : IntKind.u64.wrap (s2.sent : Int) = (s2.sent : Int) := u64_in (by omega) (by omega)
        have j2 : IntKind.u64.wrap (m : Int) = (m : Int) := u64_in (by omega) (by omega)
        have hsl : ∀ w, (Instr.slice 27 (.slice AA al ac) (some (.int .i64 (s2.sent : Int))) (some (.int .i64 ((s2.sent : Int) + (k : Int)))) none).run Try.prog w = .ok (.slice (subB AA ac s2.sent) k (ac - s2.sent)) w := by
          intro w
          have h := slice_lh .i64 AA al ac s2.sent (s2.sent + k) (by omega) (by omega) w
          rw [Nat.add_sub_cancel_left, Int.natCast_add] at h
          exact h
        have hdE : (r.all.drop s2.sent).take k = (pieceP s2).d := by
          unfold pieceP
          rw [hk, q5, a1, HX.out.2.2.2.2.2, List.drop_drop, ← a2, ← q4, show s2.base + (s2.sent - s2.base) = s2.sent by omega]
        have hdl : (pieceP s2).d.length = k := by rw [← hdE, List.length_take, List.length_drop, HX.out.1]; omega
        have hnxm : s2.next = m := by rw [hO'.next, a5]; exact HX.out.2.2.2.2.1
        have HD := Lib.hid (And.intro hn (And.intro (show (pieceP s2).cells = fun u => [.int .u32 (s2.epoch : Int), .int .u64 (s2.sent : Int), .int .u64 (m : Int), u] by funext u; unfold Pk.cells pieceP; rw [hnxm]) hdl))
        have HU := Lib.hid hU
        have HDE := Lib.hid (And.intro hdE (And.intro HX.out.1 hac))
        have facts4 : ∀ {X : World} {A0 : Asn} {T : List Asn}, Sep w0 X (A0 :: cell g 66 (({ s2 with most := m0 } : LS).rcs (.slice AA al ac) (.slice IA m ic) gt) :: T) → X.cell? ⟨g, 0, none⟩ = some (.int .u32 (s2.epoch : Int)) ∧ X.cell? ⟨g, 3, none⟩ = some (.int .i64 (s2.sent : Int)) ∧ X.cell? ⟨g, 6, none⟩ = some (.slice IA m ic) ∧ X.cell? ⟨g, 1, none⟩ = some (.slice AA al ac) := fun h => ⟨(h.blk 1 rfl).at_ 0 rfl, (h.blk 1 rfl).at_ 3 rfl, (h.blk 1 rfl).at_ 6 rfl, (h.blk 1 rfl).at_ 1 rfl⟩
        have facts5 : ∀ {X : World} {A0 A1 : Asn} {T : List Asn}, Sep w0 X (A0 :: A1 :: cell g 66 (({ s2 with most := m0 } : LS).rcs (.slice AA al ac) (.slice IA m ic) gt) :: T) → X.cell? ⟨g, 0, none⟩ = some (.int .u32 (s2.epoch : Int)) ∧ X.cell? ⟨g, 3, none⟩ = some (.int .i64 (s2.sent : Int)) ∧ X.cell? ⟨g, 6, none⟩ = some (.slice IA m ic) ∧ X.cell? ⟨g, 1, none⟩ = some (.slice AA al ac) := fun h => facts4 h.tail
        have facts6 : ∀ {X : World} {A0 A1 A2 : Asn} {T : List Asn}, Sep w0 X (A0 :: A1 :: A2 :: cell g 66 (({ s2 with most := m0 } : LS).rcs (.slice AA al ac) (.slice IA m ic) gt) :: T) → X.cell? ⟨g, 0, none⟩ = some (.int .u32 (s2.epoch : Int)) ∧ X.cell? ⟨g, 3, none⟩ = some (.int .i64 (s2.sent : Int)) ∧ X.cell? ⟨g, 6, none⟩ = some (.slice IA m ic) ∧ X.cell? ⟨g, 1, none⟩ = some (.slice AA al ac) := fun h => facts5 h.tail
        clear hn hU hdE hdl hnxm
        have HQ := Lib.hid (And.intro q1 (And.intro q2 (And.intro q3 (And.intro q4 (And.intro q5 (And.intro hal2 (And.intro hk hk')))))))
        clear q1 q2 q3 q4 q5 hal2 hk hk' hO' hs1 a1 a2 a3 a4 a5 a6 a7 a9 hm0 hl hlo hsm hmw hwin htk hI
        go_upto_region 7 with (fail)
        go_quiet (fail)
        go_upto_region 8 with (fail)
        rename Nat => nq1
        go_quiet (fail)
        rename Nat => nq2
        go_upto_region 9 with (fail)
        have S4 := ((S3.drewN nq1).drewN nq2).drew
        have hSS : ((wr.drewN nq1).drewN nq2).drew.cell? ⟨g, 0, none⟩ = some (.int .u32 (s2.epoch : Int)) ∧ ((wr.drewN nq1).drewN nq2).drew.cell? ⟨g, 3, none⟩ = some (.int .i64 (s2.sent : Int)) ∧ ((wr.drewN nq1).drewN nq2).drew.cell? ⟨g, 6, none⟩ = some (.slice IA m ic) ∧ ((wr.drewN nq1).drewN nq2).drew.cell? ⟨g, 1, none⟩ = some (.slice AA al ac) := facts4 S4
        clear S3 c1 c2 c3 d0 d1 d2 e0
        refine plain_under (fun w => w.cell? ⟨g, 0, none⟩ = some (.int .u32 (s2.epoch : Int)) ∧ w.cell? ⟨g, 3, none⟩ = some (.int .i64 (s2.sent : Int)) ∧ w.cell? ⟨g, 6, none⟩ = some (.slice IA m ic) ∧ w.cell? ⟨g, 1, none⟩ = some (.slice AA al ac)) (fun _ => true) (by kernel_rfl) ?_
        generalize ((wr.drewN nq1).drewN nq2).drew = w5 at hSS S4 ⊢
        simp only [List.size_toArray, List.length_cons, List.length_nil, Nat.reduceAdd, Array.replicate_succ, Array.replicate_zero, List.push_toArray, List.nil_append, List.cons_append]
        refine under_free (i := 0) (v := ?_) rfl (by kernel_rfl) (fun _ _ _ h => h) _ _ _ _ (by kernel_rfl) (by kernel_rfl) (Or.inl ⟨by rfl, ?_⟩) ?_
        rotate_left
        · intro w _
          go_simp
          try with_reducible rfl
        simp only [Act.put, List.setIfInBounds_toArray, List.set_cons_zero, List.set_cons_succ, List.getElem_toArray, List.getElem_cons_zero]
        refine under_free (i := 1) (v := ?_) rfl (by kernel_rfl) (fun _ _ _ h => h) _ _ _ _ (by kernel_rfl) (by kernel_rfl) (Or.inl ⟨by rfl, ?_⟩) ?_
        rotate_left
        · intro w _
          go_simp
          try with_reducible rfl
        simp only [Act.put, List.setIfInBounds_toArray, List.set_cons_zero, List.set_cons_succ, List.getElem_toArray, List.getElem_cons_zero, List.getElem_cons_succ]
        refine under_free (i := 2) (v := ?_) rfl (by kernel_rfl) (fun _ _ _ h => h) _ _ _ _ (by kernel_rfl) (by kernel_rfl) (Or.inl ⟨by rfl, ?_⟩) ?_
        rotate_left
        · intro w _
          go_simp
          try with_reducible rfl
        simp only [Act.put, List.setIfInBounds_toArray, List.set_cons_zero, List.set_cons_succ, List.getElem_toArray, List.getElem_cons_zero, List.getElem_cons_succ]
        refine under_free (i := 3) (v := ?_) rfl (by kernel_rfl) (fun _ _ _ h => h) _ _ _ _ (by kernel_rfl) (by kernel_rfl) (Or.inl ⟨by rfl, ?_⟩) ?_
        rotate_left
        · intro w _
          go_simp
          try with_reducible rfl
        simp only [Act.put, List.setIfInBounds_toArray, List.set_cons_zero, List.set_cons_succ, List.getElem_toArray, List.getElem_cons_zero, List.getElem_cons_succ]
        refine under_take (i := 4) (v := ?_) rfl (by kernel_rfl) (by kernel_rfl) (fun _ _ _ h => h) _ _ _ _ (by kernel_rfl) (by kernel_rfl) (by kernel_rfl) (Or.inl ⟨by rfl, ?_⟩) hSS ?_
        rotate_left
        · intro w hSw
          obtain ⟨q0, q1, q2, q3⟩ := hSw
          go_simp
          try with_reducible rfl
        simp only [Act.put, List.setIfInBounds_toArray, List.set_cons_zero, List.set_cons_succ, List.getElem_toArray, List.getElem_cons_zero, List.getElem_cons_succ]
        refine under_free (i := 5) (v := ?_) rfl (by kernel_rfl) (fun _ _ _ h => h) _ _ _ _ (by kernel_rfl) (by kernel_rfl) (Or.inl ⟨by rfl, ?_⟩) ?_
        rotate_left
        · intro w _
          go_simp
          try with_reducible rfl
        simp only [Act.put, List.setIfInBounds_toArray, List.set_cons_zero, List.set_cons_succ, List.getElem_toArray, List.getElem_cons_zero, List.getElem_cons_succ]
        refine under_free (i := 6) (v := ?_) rfl (by kernel_rfl) (fun _ _ _ h => h) _ _ _ _ (by kernel_rfl) (by kernel_rfl) (Or.inl ⟨by rfl, ?_⟩) ?_
        rotate_left
        · intro w _
          go_simp
          try with_reducible rfl
        simp only [Act.put, List.setIfInBounds_toArray, List.set_cons_zero, List.set_cons_succ, List.getElem_toArray, List.getElem_cons_zero, List.getElem_cons_succ]
        refine under_free (i := 7) (v := ?_) rfl (by kernel_rfl) (fun _ _ _ h => h) _ _ _ _ (by kernel_rfl) (by kernel_rfl) (Or.inl ⟨by rfl, ?_⟩) ?_
        rotate_left
        · intro w _
          go_simp
          try with_reducible rfl
        simp only [Act.put, List.setIfInBounds_toArray, List.set_cons_zero, List.set_cons_succ, List.getElem_toArray, List.getElem_cons_zero, List.getElem_cons_succ]
        refine under_take (i := 8) (v := ?_) rfl (by kernel_rfl) (by kernel_rfl) (fun _ _ _ h => h) _ _ _ _ (by kernel_rfl) (by kernel_rfl) (by kernel_rfl) (Or.inl ⟨by rfl, ?_⟩) hSS ?_
        rotate_left
        · intro w hSw
          obtain ⟨q0, q1, q2, q3⟩ := hSw
          go_simp
          try with_reducible rfl
        simp only [Act.put, List.setIfInBounds_toArray, List.set_cons_zero, List.set_cons_succ, List.getElem_toArray, List.getElem_cons_zero, List.getElem_cons_succ]
        refine under_free (i := 9) (v := ?_) rfl (by kernel_rfl) (fun _ _ _ h => h) _ _ _ _ (by kernel_rfl) (by kernel_rfl) (Or.inl ⟨by rfl, ?_⟩) ?_
        rotate_left
        · intro w _
          go_simp
          try with_reducible rfl
        simp only [Act.put, List.setIfInBounds_toArray, List.set_cons_zero, List.set_cons_succ, List.getElem_toArray, List.getElem_cons_zero, List.getElem_cons_succ]
        refine under_free (i := 10) (v := ?_) rfl (by kernel_rfl) (fun _ _ _ h => h) _ _ _ _ (by kernel_rfl) (by kernel_rfl) (Or.inl ⟨by rfl, ?_⟩) ?_
        rotate_left
        · intro w _
          go_simp
          try with_reducible rfl
        simp only [Act.put, List.setIfInBounds_toArray, List.set_cons_zero, List.set_cons_succ, List.getElem_toArray, List.getElem_cons_zero, List.getElem_cons_succ]
        refine under_free (i := 11) (v := ?_) rfl (by kernel_rfl) (fun _ _ _ h => h) _ _ _ _ (by kernel_rfl) (by kernel_rfl) (Or.inl ⟨by rfl, ?_⟩) ?_
        rotate_left
        · intro w _
          go_simp
          try with_reducible rfl
        simp only [Act.put, List.setIfInBounds_toArray, List.set_cons_zero, List.set_cons_succ, List.getElem_toArray, List.getElem_cons_zero, List.getElem_cons_succ]
        refine under_free (i := 12) (v := ?_) rfl (by kernel_rfl) (fun _ _ _ h => h) _ _ _ _ (by kernel_rfl) (by kernel_rfl) (Or.inl ⟨by rfl, ?_⟩) ?_
        rotate_left
        · intro w _
          go_simp
          try with_reducible rfl
        simp only [Act.put, List.setIfInBounds_toArray, List.set_cons_zero, List.set_cons_succ, List.getElem_toArray, List.getElem_cons_zero, List.getElem_cons_succ]
        refine under_take (i := 13) (v := ?_) rfl (by kernel_rfl) (by kernel_rfl) (fun _ _ _ h => h) _ _ _ _ (by kernel_rfl) (by kernel_rfl) (by kernel_rfl) (Or.inl ⟨by rfl, ?_⟩) hSS ?_
        rotate_left
        · intro w hSw
          obtain ⟨q0, q1, q2, q3⟩ := hSw
          go_simp
          try with_reducible rfl
        simp only [Act.put, List.setIfInBounds_toArray, List.set_cons_zero, List.set_cons_succ, List.getElem_toArray, List.getElem_cons_zero, List.getElem_cons_succ]
        refine under_free (i := 14) (v := ?_) rfl (by kernel_rfl) (fun _ _ _ h => h) _ _ _ _ (by kernel_rfl) (by kernel_rfl) (Or.inl ⟨by rfl, ?_⟩) ?_
        rotate_left
        · intro w _
          go_simp
          try with_reducible rfl
        simp only [Act.put, List.setIfInBounds_toArray, List.set_cons_zero, List.set_cons_succ, List.getElem_toArray, List.getElem_cons_zero, List.getElem_cons_succ]
        refine under_free (i := 15) (v := ?_) rfl (by kernel_rfl) (fun _ _ _ h => h) _ _ _ _ (by kernel_rfl) (by kernel_rfl) (Or.inl ⟨by rfl, ?_⟩) ?_
        rotate_left
        · intro w _
          go_simp
          try with_reducible rfl
        simp only [Act.put, List.setIfInBounds_toArray, List.set_cons_zero, List.set_cons_succ, List.getElem_toArray, List.getElem_cons_zero, List.getElem_cons_succ]
        refine under_free (i := 17) (v := ?_) rfl (by kernel_rfl) (fun _ _ _ h => h) _ _ _ _ (by kernel_rfl) (by kernel_rfl) (Or.inl ⟨by rfl, ?_⟩) ?_
        rotate_left
        · intro w _
          go_simp
          try with_reducible rfl
        simp only [Act.put, List.setIfInBounds_toArray, List.set_cons_zero, List.set_cons_succ, List.getElem_toArray, List.getElem_cons_zero, List.getElem_cons_succ]
        refine under_free (i := 18) (v := ?_) rfl (by kernel_rfl) (fun _ _ _ h => h) _ _ _ _ (by kernel_rfl) (by kernel_rfl) (Or.inl ⟨by rfl, ?_⟩) ?_
        rotate_left
        · intro w _
          go_simp
          try with_reducible rfl
        simp only [Act.put, List.setIfInBounds_toArray, List.set_cons_zero, List.set_cons_succ, List.getElem_toArray, List.getElem_cons_zero, List.getElem_cons_succ]
        refine under_free (i := 19) (v := ?_) rfl (by kernel_rfl) (fun _ _ _ h => h) _ _ _ _ (by kernel_rfl) (by kernel_rfl) (Or.inl ⟨by rfl, ?_⟩) ?_
        rotate_left
        · intro w _
          go_simp
          try with_reducible rfl
        simp only [Act.put, List.setIfInBounds_toArray, List.set_cons_zero, List.set_cons_succ, List.getElem_toArray, List.getElem_cons_zero, List.getElem_cons_succ]
        refine under_take (i := 20) (v := ?_) rfl (by kernel_rfl) (by kernel_rfl) (fun _ _ _ h => h) _ _ _ _ (by kernel_rfl) (by kernel_rfl) (by kernel_rfl) (Or.inl ⟨by rfl, ?_⟩) hSS ?_
        rotate_left
        · intro w hSw
          obtain ⟨q0, q1, q2, q3⟩ := hSw
          go_simp
          try with_reducible rfl
        simp only [Act.put, List.setIfInBounds_toArray, List.set_cons_zero, List.set_cons_succ, List.getElem_toArray, List.getElem_cons_zero, List.getElem_cons_succ]
        refine under_free (i := 21) (v := ?_) rfl (by kernel_rfl) (fun _ _ _ h => h) _ _ _ _ (by kernel_rfl) (by kernel_rfl) (Or.inl ⟨by rfl, ?_⟩) ?_
        rotate_left
        · intro w _
          go_simp
          try with_reducible rfl
        simp only [Act.put, List.setIfInBounds_toArray, List.set_cons_zero, List.set_cons_succ, List.getElem_toArray, List.getElem_cons_zero, List.getElem_cons_succ]
        refine under_free (i := 22) (v := ?_) rfl (by kernel_rfl) (fun _ _ _ h => h) _ _ _ _ (by kernel_rfl) (by kernel_rfl) (Or.inl ⟨by rfl, ?_⟩) ?_
        rotate_left
        · intro w _
          go_simp
          try with_reducible rfl
        simp only [Act.put, List.setIfInBounds_toArray, List.set_cons_zero, List.set_cons_succ, List.getElem_toArray, List.getElem_cons_zero, List.getElem_cons_succ]
        refine under_free (i := 23) (v := ?_) rfl (by kernel_rfl) (fun _ _ _ h => h) _ _ _ _ (by kernel_rfl) (by kernel_rfl) (Or.inl ⟨by rfl, ?_⟩) ?_
        rotate_left
        · intro w _
          go_simp
          try with_reducible rfl
        simp only [Act.put, List.setIfInBounds_toArray, List.set_cons_zero, List.set_cons_succ, List.getElem_toArray, List.getElem_cons_zero, List.getElem_cons_succ]
        refine under_take (i := 24) (v := ?_) rfl (by kernel_rfl) (by kernel_rfl) (fun _ _ _ h => h) _ _ _ _ (by kernel_rfl) (by kernel_rfl) (by kernel_rfl) (Or.inl ⟨by rfl, ?_⟩) hSS ?_
        rotate_left
        · intro w hSw
          obtain ⟨q0, q1, q2, q3⟩ := hSw
          go_simp
          try with_reducible rfl
        simp only [Act.put, List.setIfInBounds_toArray, List.set_cons_zero, List.set_cons_succ, List.getElem_toArray, List.getElem_cons_zero, List.getElem_cons_succ]
        refine under_free (i := 25) (v := ?_) rfl (by kernel_rfl) (fun _ _ _ h => h) _ _ _ _ (by kernel_rfl) (by kernel_rfl) (Or.inl ⟨by rfl, ?_⟩) ?_
        rotate_left
        · intro w _
          go_simp
          try with_reducible rfl
        simp only [Act.put, List.setIfInBounds_toArray, List.set_cons_zero, List.set_cons_succ, List.getElem_toArray, List.getElem_cons_zero, List.getElem_cons_succ]
        refine under_free (i := 26) (v := ?_) rfl (by kernel_rfl) (fun _ _ _ h => h) _ _ _ _ (by kernel_rfl) (by kernel_rfl) (Or.inl ⟨by rfl, ?_⟩) ?_
        rotate_left
        · intro w _
          go_simp
          try with_reducible rfl
        simp only [Act.put, List.setIfInBounds_toArray, List.set_cons_zero, List.set_cons_succ, List.getElem_toArray, List.getElem_cons_zero, List.getElem_cons_succ]
        refine under_one (i := 16) (by kernel_rfl) rfl ?_
        intro K hK
        go_simp
        have S5 := S4.boxF 5 #[]
        have hnb5 : w5.heap.size < (w5.alloc (.cells #[] 5)).heap.size := by simp
        replace hSS : (w5.alloc (.cells #[] 5)).cell? ⟨g, 0, none⟩ = some (.int .u32 (s2.epoch : Int)) ∧ (w5.alloc (.cells #[] 5)).cell? ⟨g, 3, none⟩ = some (.int .i64 (s2.sent : Int)) ∧ (w5.alloc (.cells #[] 5)).cell? ⟨g, 6, none⟩ = some (.slice IA m ic) ∧ (w5.alloc (.cells #[] 5)).cell? ⟨g, 1, none⟩ = some (.slice AA al ac) := facts5 S5
        refine hK _ _ (fun _ => hSS) ?_
        clear hK K S4
        generalize w5.heap.size = nb at S5 hnb5 ⊢
        generalize w5.alloc (.cells #[] 5) = w6 at S5 hnb5 hSS ⊢
        have S6 := Sep.closeRow (size := 1) (n := 0) (c := 0) (xs := []) S5 rfl (Nat.le_refl _) (Nat.zero_le _) rfl rfl
        clear S5 hnb5
        simp only [List.setIfInBounds_toArray, List.set_cons_zero, List.set_cons_succ]
        refine under_one (i := 27) (by kernel_rfl) rfl ?_
        intro K hK
        obtain ⟨i5, hi5, hz0, hz1, hz2⟩ := info_parts info5
        obtain ⟨q1, q2, q3, q4, q5, hal2, hk, hk'⟩ := HQ.out
        have hRk := (((RB.of_own HDE.out.2.1 (by have h := S6.own 3 rfl; rw [HDE.out.2.1] at h; exact h)).drop s2.sent (by omega) HDE.out.2.2).take k (by omega))
        rw [HDE.out.1] at hRk
        refine step_append_any _ rfl (.tmp 90) (.tmp 100) 27 rfl 0 5 i5 _ 1 1 Try.underlying27 hi5 hz0 hz1 hz2 rfl (by omega) (.slice (some ⟨nb, 0, none⟩) 0 0) 0 [] rfl (S6.own 0 rfl) _ (subB AA ac s2.sent) k (ac - s2.sent) ((pieceP s2).d.map enB) rfl hRk.2 (enB_one _) (by unfold maxLen; omega) (by omega) (Nat.zero_le _) ?_
        intro v7 w7 hown hg7 hat
        have hown2 : w7.ownsRow 0 5 1 v7 (pieceP s2).d.length ((pieceP s2).d.map enB) := by rw [Nat.zero_add, List.nil_append] at hown; rw [HD.out.2.2]; exact hown
        have S7 := S6.pushed 0 rfl hown2 hg7 hat
        replace hSS : w7.cell? ⟨g, 0, none⟩ = some (.int .u32 (s2.epoch : Int)) ∧ w7.cell? ⟨g, 3, none⟩ = some (.int .i64 (s2.sent : Int)) ∧ w7.cell? ⟨g, 6, none⟩ = some (.slice IA m ic) ∧ w7.cell? ⟨g, 1, none⟩ = some (.slice AA al ac) := facts5 S7
        refine hK _ _ (fun _ => hSS) ?_
        clear hK K hown hown2 hg7 hat S6 hRk hi5 hz0 hz1 hz2 q1 q2 q3 q4 q5 hal2 hk hk'
        obtain ⟨a6, c6, hv7, -, -⟩ := own_slice (S7.own 0 rfl)
        rw [HD.out.2.2] at hv7
        subst hv7
        replace S7 : Sep w0 w7 (BRow (.slice a6 k c6) (pieceP s2).d :: row 32 4 (.slice VA n vc) n (entP es) :: cell g 66 (({ s2 with most := m0 } : LS).rcs (.slice AA al ac) (.slice IA m ic) gt) :: BRow (.slice AA al ac) r.all :: BRow (.slice IA m ic) r.inn :: (U ++ L.eraseIdx i)) := S7
        simp only [Act.put, List.setIfInBounds_toArray, List.set_cons_zero, List.set_cons_succ, List.getElem_toArray, List.getElem_cons_zero, List.getElem_cons_succ]
        refine under_free (i := 28) (v := ?_) rfl (by kernel_rfl) (fun _ _ _ h => h) _ _ _ _ (by kernel_rfl) (by kernel_rfl) (Or.inl ⟨by rfl, ?_⟩) ?_
        rotate_left
        · intro w _
          go_simp
          try with_reducible rfl
        simp only [Act.put, List.setIfInBounds_toArray, List.set_cons_zero, List.set_cons_succ, List.getElem_toArray, List.getElem_cons_zero, List.getElem_cons_succ]
        refine under_one (i := 29) (by kernel_rfl) rfl ?_
        intro K hK
        go_simp
        have S8 := S7.boxF 32 #[.int .u32 (s2.epoch : Int), .int .u64 (s2.sent : Int), .int .u64 (m : Int), .slice a6 k c6]
        have hWs : w7.heap.size < (w7.alloc (.cells #[.int .u32 (s2.epoch : Int), .int .u64 (s2.sent : Int), .int .u64 (m : Int), .slice a6 k c6] 32)).heap.size := by simp
        replace hSS := facts6 S8
        refine hK _ _ (fun _ => hSS) ?_
        clear hK K S7
        generalize w7.heap.size = nb2 at S8 hWs ⊢
        generalize w7.alloc (.cells #[.int .u32 (s2.epoch : Int), .int .u64 (s2.sent : Int), .int .u64 (m : Int), .slice a6 k c6] 32) = w8 at S8 hWs hSS ⊢
        simp only [List.setIfInBounds_toArray, List.set_cons_zero, List.set_cons_succ]
        refine under_one (i := 30) (by kernel_rfl) rfl ?_
        intro K hK
        obtain ⟨i32, hi32, hz0, hz1, hz2⟩ := info_parts info32
        have hrd : Reads w8 w8.heap.size 4 (some ⟨nb2, 0, none⟩) 1 [.int .u32 (s2.epoch : Int), .int .u64 (s2.sent : Int), .int .u64 (m : Int), .slice a6 k c6] := by
          refine ⟨rfl, fun _ => ⟨_, rfl, hWs, fun j x hj => ?_⟩⟩
          have hb := (S8.blk 0 rfl).cell j
          have he : (⟨nb2, 0, none⟩ : Addr).add j = ⟨nb2, j, none⟩ := by unfold Addr.add; split <;> simp_all
          rw [he, hb, ← Array.getElem?_toList]
          exact hj
        refine step_append_any _ rfl (.tmp 74) (.tmp 103) 28 rfl 0 32 i32 _ 4 48 Try.underlying28 hi32 hz0 hz1 hz2 rfl (by omega) (.slice VA n vc) n (entP es) rfl (S8.own 2 rfl) _ (some ⟨nb2, 0, none⟩) 1 1 _ rfl hrd (by
          intro x hx
          simp only [List.mem_cons, List.not_mem_nil, or_false] at hx
          rcases hx with rfl | rfl | rfl | rfl <;> rfl) (by unfold maxLen; omega) (by omega) (Nat.zero_le _) ?_
        intro v9 w9 hown hg9 hat
        have S10 := (S8.pushed 2 rfl hown hg9 hat).tail
        replace hSS : w9.cell? ⟨g, 0, none⟩ = some (.int .u32 (s2.epoch : Int)) ∧ w9.cell? ⟨g, 3, none⟩ = some (.int .i64 (s2.sent : Int)) ∧ w9.cell? ⟨g, 6, none⟩ = some (.slice IA m ic) ∧ w9.cell? ⟨g, 1, none⟩ = some (.slice AA al ac) := facts5 S10
        refine hK _ _ (fun _ => hSS) ?_
        clear hK K hown hg9 hat hrd S8 hWs hi32 hz0 hz1 hz2
        obtain ⟨a9, c9, hv9, -, -⟩ := own_slice (S10.own 1 rfl)
        subst hv9
        simp only [Act.put, List.setIfInBounds_toArray, List.set_cons_zero, List.set_cons_succ, List.getElem_toArray, List.getElem_cons_zero, List.getElem_cons_succ]
        refine under_free (i := 31) (v := ?_) rfl (by kernel_rfl) (fun _ _ _ h => h) _ _ _ _ (by kernel_rfl) (by kernel_rfl) (Or.inl ⟨by rfl, ?_⟩) ?_
        rotate_left
        · intro w _
          go_simp
          try with_reducible rfl
        simp only [Act.put, List.setIfInBounds_toArray, List.set_cons_zero, List.set_cons_succ, List.getElem_toArray, List.getElem_cons_zero, List.getElem_cons_succ]
        refine under_done (by kernel_rfl) ?_ _
        obtain ⟨q1, q2, q3, q4, q5, hal2, hk, hk'⟩ := HQ.out
        have S11 := (S10.put 2 rfl 3 (.int .i64 ((s2.sent : Int) + (k : Int))))
        have z3 := (S10.blk 2 rfl).frozen 3
        have y3 := hSS.2.1
        have H11 := Lib.hid S11
        have HQ3 := Lib.hid (And.intro q1 (And.intro q2 (And.intro q3 (And.intro q4 (And.intro q5 (And.intro hal2 (And.intro hk hk')))))))
        clear S10 S11 hSS q1 q2 q3 q4 q5 hal2 hk hk'
        go_wp2_with fail
        obtain ⟨q1, q2, q3, q4, q5, hal2, hk, hk'⟩ := HQ3.out
        have hP : pieceS s2 = { s2 with sent := s2.sent + k, most := max s2.most (s2.sent + k) } := by unfold pieceS; rw [hk]
        go_roundw
        case measure =>
          have h9 := sentX_at (s := { s2 with sent := s2.sent + k, most := m0 }) (va := .slice AA al ac) (vi := .slice IA m ic) (gt := gt) H11.out 2 rfl
          exact meas_sent _ (s2.sent + k) s2.sent _ _ h9 HSX.out (by omega) (by omega)
        case rel =>
          refine ⟨pieceS s2, ps ++ [pieceP s2], _, rfl, (fun h => by simp at h), Lib.hid (hO.out.more (by rw [hk]; exact hk0)), ?_⟩
          refine pk_push hes hds (?_ : Sep w0 _ (BRow (.slice a6 k c6) (pieceP s2).d :: row 32 4 (.slice a9 (n + 1) c9) (es.length + 1) (entP es ++ (pieceP s2).cells (.slice a6 k c6)) :: (ds.map rowD ++ (cell g 66 (({ pieceS s2 with most := m0 } : LS).rcs (.slice AA al ac) (.slice IA m ic) gt) :: BRow (.slice AA al ac) r.all :: BRow (.slice IA m ic) r.inn :: L.eraseIdx i))))
          rw [hP, HD.out.1, HD.out.2.1, HU.out]
          refine Sep.perm ?_ (List.Perm.cons _ (List.Perm.cons _ (perm_float3 _ _ _ _ _).symm))
          exact H11.out
end
end Go.Proofs.Ytpgiljjjpijepaa
