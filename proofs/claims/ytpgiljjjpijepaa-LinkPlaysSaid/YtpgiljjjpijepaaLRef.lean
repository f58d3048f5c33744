/- The reference's link: its state beside the link's; Idle, Write. -/
import Derived.Test.YtpgiljjjpijepaaLPure
namespace Go.Proofs.Ytpgiljjjpijepaa
open Go.RowKit
/-- what the reference keeps besides: all that was written, all that came, how much of it was read -/
structure RX where
  all : List Nat
  inn : List Nat
  gt : Nat
abbrev LS.rcs (s : LS) (va vi : Value) (gt : Nat) : Array Value := #[.int .u32 (s.epoch : Int), va, .int .i64 (s.base : Int), .int .i64 (s.sent : Int), .int .i64 (s.most : Int), .int .i64 (s.ticks : Int), vi, .int .i64 (gt : Int), .bool s.owes]
/-- the reference's link at g is in this state -/
def RefAt (g : Nat) (s : LS) (r : RX) : Asn := exA fun x : Value × Value => bund [cell g 66 (s.rcs x.1 x.2 r.gt), BRow x.1 r.all, BRow x.2 r.inn]
/-- how the two go together -/
structure RI (e : Nat) (s : LS) (r : RX) : Prop where
  l : LInv e s r.all
  got : s.got = r.inn.drop r.gt
  gt : r.gt ≤ r.inn.length
  nx : s.next = r.inn.length
  gl : s.got.length ≤ 1048576
section
variable {w0 w w' : World} {L M : List Asn}
theorem Sep.openX {g : Nat} {s : LS} {r : RX} (h : Sep w0 w (RefAt g s r :: L)) : ∃ va vi, Sep w0 w (cell g 66 (s.rcs va vi r.gt) :: BRow va r.all :: BRow vi r.inn :: L) := by
  obtain ⟨⟨va, vi⟩, h⟩ := h.openE
  exact ⟨va, vi, h.unbund⟩
theorem Sep.closeX {g : Nat} {s : LS} {r : RX} {va vi : Value} (h : Sep w0 w (cell g 66 (s.rcs va vi r.gt) :: BRow va r.all :: BRow vi r.inn :: L)) : Sep w0 w (RefAt g s r :: L) := by
  have h1 : Sep w0 w ([cell g 66 (s.rcs va vi r.gt), BRow va r.all, BRow vi r.inn] ++ L) := h
  exact Sep.closeE (P := fun x : Value × Value => Go.Proofs.Ytpgiljjjpijepaa.bund [cell g 66 (s.rcs x.1 x.2 r.gt), BRow x.1 r.all, BRow x.2 r.inn]) (va, vi) h1.bund
theorem ref_idle {e g : Nat} {s : LS} {r : RX} (hI : RI e s r) (i : Nat) (hi : L[i]? = some (RefAt g s r)) (hS : Sep w0 w L) : Calls Try.prog 32 #[.pointer (some ⟨g, 0, none⟩)] w fun en w' => en = .returned (.bool (s.wait.length == 0 && !s.owes)) ∧ ∃ q, w' = w.drewN q := by
  obtain ⟨va, vi, S⟩ := (hS.pick i hi).openX
  obtain ⟨A, c, hv, -⟩ := S.bform 1 rfl
  obtain ⟨n, hn⟩ : ∃ n, r.all.length = n := ⟨_, rfl⟩
  rw [hn] at hv
  subst hv
  have hw := hI.l.wlen
  rw [hn] at hw
  have c1 : w.cell? ⟨g, 1, none⟩ = some (.slice A n c) := (S.blk 0 rfl).at_ 1 rfl
  have c2 : w.cell? ⟨g, 2, none⟩ = some (.int .i64 (s.base : Int)) := (S.blk 0 rfl).at_ 2 rfl
  have c8 : w.cell? ⟨g, 8, none⟩ = some (.bool s.owes) := (S.blk 0 rfl).at_ 8 rfl
  generalize s.owes = o at c8 ⊢
  obtain ⟨b, hb⟩ : ∃ b, s.base = b := ⟨_, rfl⟩
  rw [hb] at c2 hw
  obtain ⟨m, hm⟩ : ∃ m, s.wait.length = m := ⟨_, rfl⟩
  rw [hm] at hw ⊢
  clear S hS hi hn hI hb hm
  by_cases h0 : m = 0
  · have h1 : ((b : Int) == (n : Int)) = true := by simp; omega
    have h2 : (b == n) = true := by simp; omega
    have h3 : (m == 0) = true := by simp; omega
    rw [h3]
    clear h0 hw h3
    go_enter Try.func32, Try.ntmps32
    go_upto_region 1 with (fail)
    go_quiet (fail)
    go_wp2_with fail
    go_ret
    exact ⟨by cases o <;> rfl, _, rfl⟩
  · have h1 : ((b : Int) == (n : Int)) = false := by simp; omega
    have h2 : (b == n) = false := by simp; omega
    have h3 : (m == 0) = false := by simp; omega
    rw [h3]
    clear h0 hw h3
    go_enter Try.func32, Try.ntmps32
    go_upto_region 1 with (fail)
    go_quiet (fail)
    go_wp2_with fail
    go_ret
    exact ⟨rfl, _, rfl⟩
def refW (s : LS) (r : RX) (b : List Nat) : RX := if writeE s b.length = 0 then { r with all := r.all ++ b } else r
theorem RI.write {e : Nat} {s : LS} {r : RX} (b : List Nat) (h : RI e s r) : RI e (writeS s b) (refW s r b) := by
  unfold writeS refW writeE
  by_cases hb : 1048576 < s.wait.length + b.length
  · rw [if_pos hb, if_pos hb, if_neg (by decide)]
    exact h
  · rw [if_neg hb, if_neg hb, if_pos rfl]
    have hl := h.l
    have hbl : s.base ≤ r.all.length := by have := hl.lo; have := hl.sm; have := hl.mw; omega
    refine ⟨⟨hl.ep, hl.lo, hl.sm, ?_, hl.win, ?_, ?_, hl.tk⟩, h.got, h.gt, h.nx, h.gl⟩
    · show s.most ≤ (r.all ++ b).length
      rw [List.length_append]
      have := hl.mw
      omega
    · show s.wait ++ b = (r.all ++ b).drop s.base
      rw [List.drop_append_of_le_length hbl, ← hl.wait]
    · show (s.wait ++ b).length ≤ 1048576
      rw [List.length_append]
      omega
set_option maxRecDepth 100000 in
theorem ref_write {e g : Nat} {s : LS} {r : RX} (hI : RI e s r) (b : List Nat) (A : Option Addr) (n c : Nat) (hR : RB w A n b) (hn6 : n ≤ 1000000) (hal : r.all.length ≤ 1000000000) (i : Nat) (hi : L[i]? = some (RefAt g s r)) (hS : Sep w0 w L) :
    Calls Try.prog 26 #[.pointer (some ⟨g, 0, none⟩), .slice A n c] w fun en w' => en = .returned (.int .i64 (writeE s n)) ∧ Sep w0 w' (L.set i (RefAt g (writeS s b) (refW s r b))) := by
  obtain ⟨va, vi, S⟩ := (hS.pick i hi).openX
  obtain ⟨B, d, hv, hd, -, -⟩ := S.bform 1 rfl
  obtain ⟨m, hm⟩ : ∃ m, r.all.length = m := ⟨_, rfl⟩
  rw [hm] at hv hal hd
  subst hv
  have hw := hI.l.wlen
  rw [hm] at hw
  have c1 : w.cell? ⟨g, 1, none⟩ = some (.slice B m d) := (S.blk 0 rfl).at_ 1 rfl
  have c2 : w.cell? ⟨g, 2, none⟩ = some (.int .i64 (s.base : Int)) := (S.blk 0 rfl).at_ 2 rfl
  have z1 := (S.blk 0 rfl).frozen 1
  obtain ⟨k, hk⟩ : ∃ k, s.wait.length = k := ⟨_, rfl⟩
  rw [hk] at hw
  have hwl := hI.l.wl
  rw [hk] at hwl
  have hbn := hR.1
  have i0 : IntKind.i64.wrap ((m : Int) - (s.base : Int)) = (k : Int) := by rw [IntWalk.i64_in _ (by omega)]; omega
  have i1 : IntKind.i64.wrap ((k : Int) + (n : Int)) = (k : Int) + (n : Int) := IntWalk.i64_in _ (by omega)
  have hE : writeE s n = if 1048576 < k + n then 3 else 0 := by unfold writeE; rw [hk]
  by_cases hb : 1048576 < k + n
  · have d0 : decide ((1048576 : Int) < (k : Int) + (n : Int)) = true := decide_eq_true (by omega)
    have h1 : writeS s b = s := by unfold writeS; rw [hbn, hk, if_pos hb]
    have h2 : refW s r b = r := by unfold refW; rw [hbn, hE, if_pos hb, if_neg (by decide)]
    rw [hE, h1, h2, if_pos hb]
    have same : L.set i (RefAt g s r) = L := by
      obtain ⟨hil, hie⟩ := List.getElem?_eq_some_iff.1 hi
      rw [← hie, List.set_getElem_self]
    rw [same]
    have HS := Lib.hid hS
    clear S hS hi hm hw hk hR hE h1 h2 hb hI
    go_enter Try.func26, Try.ntmps26
    go_upto_region 1 with (fail)
    go_quiet (fail)
    go_wp2_with fail
    go_ret
    exact ⟨rfl, HS.out.drewN _⟩
  · have d0 : decide ((1048576 : Int) < (k : Int) + (n : Int)) = false := decide_eq_false (by omega)
    have h1 : writeS s b = { s with wait := s.wait ++ b } := by unfold writeS; rw [hbn, hk, if_neg hb]
    have h2 : refW s r b = { r with all := r.all ++ b } := by unfold refW; rw [hbn, hE, if_neg hb, if_pos rfl]
    rw [hE, h1, h2, if_neg hb]
    have HS := Lib.hid S
    have HR := Lib.hid hR
    have Hm := Lib.hid hm
    have hfin : Hid (∀ W s' r' va vi, Sep w0 W (cell g 66 (s'.rcs va vi r'.gt) :: BRow va r'.all :: BRow vi r'.inn :: L.eraseIdx i) → Sep w0 W (L.set i (RefAt g s' r'))) := Lib.hid fun W s' r' va vi h => h.closeX.back hi
    have Hb := Lib.hid (show m + n ≤ 2000000000 by omega)
    clear S hS hi hm hw hk hR hE h1 h2 hb hI hbn
    go_enter Try.func26, Try.ntmps26
    go_upto_region 1 with (fail)
    go_quiet (fail)
    go_wp2_with (
      at_builtin
      obtain ⟨i5, hi5, hz0, hz1, hz2⟩ := info_parts info5
      have S1 := HS.out.drewN nq
      have HR1 := HR.out.below (w' := w.drewN nq) ⟨rfl, rfl, rfl, Nat.le_refl _, fun _ _ => rfl⟩
      refine wpList_append_any _ rfl (.tmp 23) (.tmp 24) 27 rfl 0 5 i5 _ 1 1 Try.underlying27 hi5 hz0 hz1 hz2 rfl (by omega) (.slice B m d) m (r.all.map enB) rfl (by have h := S1.own 1 rfl; rwa [Hm.out] at h) _ A n c (b.map enB) rfl HR1.2 (enB_one b) (by have := Hb.out; unfold maxLen; omega) (by have := Hb.out; omega) (Nat.zero_le _) ?_
      intro v1 w1 hown hg hat
      have hl2 : (r.all ++ b).length = m + n := by rw [List.length_append, Hm.out, HR1.1]
      have hown2 : w1.ownsRow 0 5 1 v1 (r.all ++ b).length ((r.all ++ b).map enB) := by rw [hl2, List.map_append]; exact hown
      have S2 := S1.pushed 1 rfl hown2 hg hat
      have k1 := (S2.blk 0 rfl).at_ 1 rfl
      have y1 := (S2.blk 0 rfl).frozen 1
      have S3 := Lib.hid (S2.put 0 rfl 1 v1)
      obtain ⟨a1, c1', hv1, -, -⟩ := own_slice (S2.own 1 rfl)
      rw [hl2] at hv1
      subst hv1
      clear hown hown2 hg hat S2 c1 z1 S1 HR1 hi5 hz0 hz1 hz2)
    go_ret
    exact ⟨rfl, hfin.out _ { s with wait := s.wait ++ b } { r with all := r.all ++ b } (.slice a1 (m + n) c1') vi S3.out⟩
end
end Go.Proofs.Ytpgiljjjpijepaa
