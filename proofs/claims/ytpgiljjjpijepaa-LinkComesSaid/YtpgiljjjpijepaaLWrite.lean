/- Write, late, Read of a link. -/
import Derived.Test.YtpgiljjjpijepaaLTells
namespace Go.Proofs.Ytpgiljjjpijepaa
open Go.RowKit
section
variable {w0 w w' : World} {L M : List Asn}
def writeE (s : LS) (n : Nat) : Int := if 1048576 < s.wait.length + n then 3 else 0
def writeS (s : LS) (b : List Nat) : LS := if 1048576 < s.wait.length + b.length then s else { s with wait := s.wait ++ b }
theorem write_in (g : Nat) (s : LS) (b : List Nat) (A : Option Addr) (n c : Nat) (hR : RB w A n b) (hlen : s.wait.length + n ≤ 1048576) (hS : Sep w0 w (LinkAt g s :: M)) :
    Calls Try.prog 11 #[.pointer (some ⟨g, 0, none⟩), .slice A n c] w fun en w' => en = .returned (.int .i64 0) ∧ Sep w0 w' (LinkAt g { s with wait := s.wait ++ b } :: M) := by
  obtain ⟨vw, vg, S⟩ := hS.openL
  obtain ⟨B, d, hv, -, -, -⟩ := S.bform 1 rfl
  obtain ⟨m, hm⟩ : ∃ m, s.wait.length = m := ⟨_, rfl⟩
  rw [hm] at hv hlen
  subst hv
  have c0 : w.cell? ⟨g, 0, none⟩ = some (.slice B m d) := (S.blk 0 rfl).at_ 0 rfl
  have z0 := (S.blk 0 rfl).frozen 0
  have d0 : decide ((1048576 : Int) - (m : Int) < (n : Int)) = false := decide_eq_false (by omega)
  have i0 : IntKind.i64.wrap ((1048576 : Int) - (m : Int)) = (1048576 : Int) - (m : Int) := IntWalk.i64_in _ (by omega)
  have O1 : Hid (w.ownsRow 0 5 1 (.slice B m d) m (s.wait.map enB)) := Lib.hid (by have := S.own 1 rfl; rwa [hm] at this)
  have HR := Lib.hid hR
  have HS := Lib.hid S
  have Hm := Lib.hid hm
  obtain ⟨m2, hm2⟩ : ∃ x, (s.wait ++ b).length = x := ⟨_, rfl⟩
  have Hmm := Lib.hid hm2
  have Hm1 : Hid (m + n ≤ maxLen) := Lib.hid (by unfold maxLen; omega)
  have Hm2 : Hid ((m + n) * 1 ≤ 140737488355328) := Lib.hid (by omega)
  obtain ⟨i5, hi5, hz0, hz1, hz2⟩ := info_parts info5
  have Hi := Lib.hid hi5
  have Hz0 := Lib.hid hz0
  have Hz1 := Lib.hid hz1
  have Hz2 := Lib.hid hz2
  clear hi5 hz0 hz1 hz2 hR hS S hm hm2
  go_enter Try.func11, Try.ntmps11
  go_wp2_with (
    at_builtin
    refine wpList_append_any _ rfl (.tmp 24) (.tmp 25) 27 rfl 0 5 i5 _ 1 1 Try.underlying27 Hi.out Hz0.out Hz1.out Hz2.out rfl (by omega) (.slice B m d) m (s.wait.map enB) rfl O1.out _ A n c (b.map enB) rfl HR.out.2 (enB_one b) Hm1.out Hm2.out (Nat.zero_le _) ?_
    intro v1 w1 hown hg hat
    have hown2 : w1.ownsRow 0 5 1 v1 (s.wait ++ b).length ((s.wait ++ b).map enB) := by rw [List.length_append, List.map_append, Hm.out, HR.out.1]; exact hown
    have S2 := HS.out.pushed 1 rfl hown2 hg hat
    have k0 := (S2.blk 0 rfl).at_ 0 rfl
    have z1 := (S2.blk 0 rfl).frozen 0
    have S3 := Lib.hid (S2.put 0 rfl 0 v1)
    obtain ⟨a1, c1, hv1, -, -⟩ := own_slice (S2.own 1 rfl)
    rw [Hmm.out] at hv1
    subst hv1
    clear hown hown2 hg hat S2 c0 z0)
  go_ret
  exact ⟨rfl, Sep.closeL (s := { s with wait := s.wait ++ b }) (vw := .slice a1 m2 c1) (vg := vg) S3.out⟩
theorem write_full (g : Nat) (s : LS) (A : Option Addr) (n c : Nat) (hlen : 1048576 < s.wait.length + n) (hw : s.wait.length ≤ 1048576) (hS : Sep w0 w (LinkAt g s :: M)) :
    Calls Try.prog 11 #[.pointer (some ⟨g, 0, none⟩), .slice A n c] w fun en w' => en = .returned (.int .i64 3) ∧ w = w' := by
  obtain ⟨vw, vg, S⟩ := hS.openL
  obtain ⟨B, d, hv, -, -, -⟩ := S.bform 1 rfl
  obtain ⟨m, hm⟩ : ∃ m, s.wait.length = m := ⟨_, rfl⟩
  rw [hm] at hv hlen hw
  subst hv
  have c0 : w.cell? ⟨g, 0, none⟩ = some (.slice B m d) := (S.blk 0 rfl).at_ 0 rfl
  have d0 : decide ((1048576 : Int) - (m : Int) < (n : Int)) = true := decide_eq_true (by omega)
  have i0 : IntKind.i64.wrap ((1048576 : Int) - (m : Int)) = (1048576 : Int) - (m : Int) := IntWalk.i64_in _ (by omega)
  clear hS S hm
  go_enter Try.func11, Try.ntmps11
  go_wp2_with fail
  go_ret
  exact ⟨rfl, rfl⟩
/-- Write, whatever comes -/
theorem write_any {g : Nat} {s : LS} (b : List Nat) (A : Option Addr) (n c : Nat) (hR : RB w A n b) (hw : s.wait.length ≤ 1048576) (i : Nat) (hi : L[i]? = some (LinkAt g s)) (hS : Sep w0 w L) :
    Calls Try.prog 11 #[.pointer (some ⟨g, 0, none⟩), .slice A n c] w fun en w' => en = .returned (.int .i64 (writeE s n)) ∧ Sep w0 w' (L.set i (LinkAt g (writeS s b))) := by
  unfold writeE writeS
  rw [hR.1]
  by_cases h : 1048576 < s.wait.length + n
  · rw [if_pos h, if_pos h]
    exact (write_full g s A n c h hw (hS.pick i hi)).mono fun en w' ⟨he, h⟩ => ⟨he, by subst h; exact (hS.pick i hi).back hi⟩
  · rw [if_neg h, if_neg h]
    exact (write_in g s b A n c hR (by omega) (hS.pick i hi)).mono fun en w' ⟨he, h⟩ => ⟨he, h.back hi⟩
/-- late: begins anew to send, if it has waited -/
def lateS (s : LS) : LS := if s.sent = s.base then s else if 4 < s.ticks + 1 then { s with sent := s.base, ticks := 0 } else { s with ticks := s.ticks + 1 }
theorem late_any {g : Nat} {s : LS} (ht : s.ticks ≤ 1000) (i : Nat) (hi : L[i]? = some (LinkAt g s)) (hS : Sep w0 w L) :
    Calls Try.prog 33 #[.pointer (some ⟨g, 0, none⟩)] w fun en w' => en = .returned (.tuple #[]) ∧ Sep w0 w' (L.set i (LinkAt g (lateS s))) := by
  obtain ⟨vw, vg, S⟩ := (hS.pick i hi).openL
  have c1 : w.cell? ⟨g, 1, none⟩ = some (.int .u64 (s.base : Int)) := (S.blk 0 rfl).at_ 1 rfl
  have c2 : w.cell? ⟨g, 2, none⟩ = some (.int .u64 (s.sent : Int)) := (S.blk 0 rfl).at_ 2 rfl
  have c4 : w.cell? ⟨g, 4, none⟩ = some (.int .i64 (s.ticks : Int)) := (S.blk 0 rfl).at_ 4 rfl
  have z2 := (S.blk 0 rfl).frozen 2
  have z4 := (S.blk 0 rfl).frozen 4
  have HS := Lib.hid S
  have i0 : IntKind.i64.wrap ((s.ticks : Int) + 1) = (s.ticks : Int) + 1 := IntWalk.i64_in _ (by omega)
  have hfin : Hid (∀ W s', Sep w0 W (cell g 76 (s'.cs vw vg) :: BRow vw s'.wait :: BRow vg s'.got :: L.eraseIdx i) → Sep w0 W (L.set i (LinkAt g s'))) := Lib.hid fun W s' h => h.closeL.back hi
  clear S hS hi
  unfold lateS
  by_cases h0 : s.sent = s.base
  · rw [if_pos h0]
    have e0 : ((s.sent : Int) == (s.base : Int)) = true := by simp [h0]
    clear h0
    go_enter Try.func33, Try.ntmps33
    go_upto_region 0 with (fail)
    go_quiet (fail)
    go_wp2_with fail
    refine bodyPost_ret (results_none rfl _ _ _) rfl ?_
    exact ⟨rfl, hfin.out _ _ (HS.out.drewN _)⟩
  · rw [if_neg h0]
    have e0 : ((s.sent : Int) == (s.base : Int)) = false := by simp; omega
    have S1 := HS.out
    by_cases h1 : 4 < s.ticks + 1
    · rw [if_pos h1]
      have e1 : decide ((4 : Int) < (s.ticks : Int) + 1) = true := decide_eq_true (by omega)
      clear h0 h1 ht
      go_enter Try.func33, Try.ntmps33
      go_upto_region 0 with (fail)
      go_quiet (fail)
      go_wp2_with fail
      go_end0
      exact ⟨rfl, hfin.out _ { s with sent := s.base, ticks := 0 } ((((HS.out.drewN nq).put 0 rfl 4 (.int .i64 ((s.ticks : Int) + 1))).put 0 rfl 2 (.int .u64 (s.base : Int))).put 0 rfl 4 (.int .i64 0))⟩
    · rw [if_neg h1]
      have e1 : decide ((4 : Int) < (s.ticks : Int) + 1) = false := decide_eq_false (by omega)
      clear h0 h1 ht
      go_enter Try.func33, Try.ntmps33
      go_upto_region 0 with (fail)
      go_quiet (fail)
      go_wp2_with fail
      go_end0
      exact ⟨rfl, hfin.out _ { s with ticks := s.ticks + 1 } ((HS.out.drewN nq).put 0 rfl 4 (.int .i64 ((s.ticks : Int) + 1)))⟩
end
end Go.Proofs.Ytpgiljjjpijepaa
