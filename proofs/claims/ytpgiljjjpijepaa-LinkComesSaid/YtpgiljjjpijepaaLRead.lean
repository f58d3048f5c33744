/- Read of a link. -/
import Derived.Test.YtpgiljjjpijepaaLCome
namespace Go.Proofs.Ytpgiljjjpijepaa
open Go.RowKit
section
variable {w0 w w' : World} {L M : List Asn}
def readN (s : LS) (n : Int) : Nat := (min n (s.got.length : Int)).toNat
def readB (s : LS) (n : Int) : List Nat := s.got.take (readN s n)
def readL (s : LS) (n : Int) : LS := { s with got := s.got.drop (readN s n) }
theorem perm_read (a b c d : Asn) (T : List Asn) : (a :: b :: c :: d :: T).Perm (c :: d :: a :: b :: T) := by
  have h := List.perm_append_comm (l₁ := [a, b]) (l₂ := [c, d])
  exact h.append_right T
theorem perm_back {A : Asn} {i : Nat} (hi : L[i]? = some A) (B : Asn) : (B :: L.eraseIdx i).Perm (L.set i B) := by
  obtain ⟨hl, _⟩ := List.getElem?_eq_some_iff.1 hi
  have h1 : (L.set i B)[i]? = some B := List.getElem?_set_self hl
  have h2 := perm_pick h1
  rwa [List.eraseIdx_set_eq] at h2
theorem read_nil (n : Int) (hn : -9223372036854775808 ≤ n ∧ n ≤ 9223372036854775807) (w : World) : Calls Try.prog 16 #[.pointer none, .int .i64 n] w fun en w' => en = .returned (.slice none 0 0) ∧ w = w' := by
  by_cases h0 : 0 < n
  · have h1 : ¬ n < 0 := by omega
    go_enter Try.func16, Try.ntmps16
    go_wp2_with fail
    refine (peek_nil _).mono ?_
    rintro en w1 ⟨rfl, rfl⟩
    go_wp2_with fail
    go_ret
    exact ⟨rfl, rfl⟩
  · by_cases h1 : n < 0
    · have d1 : decide (n < 1) = true := decide_eq_true (by omega)
      go_enter Try.func16, Try.ntmps16
      go_wp2_with fail
      refine (peek_nil _).mono ?_
      rintro en w1 ⟨rfl, rfl⟩
      go_wp2_with fail
      go_ret
      exact ⟨rfl, rfl⟩
    · obtain rfl : n = 0 := by omega
      go_enter Try.func16, Try.ntmps16
      go_wp2_with fail
      refine (peek_nil _).mono ?_
      rintro en w1 ⟨rfl, rfl⟩
      go_wp2_with fail
      go_ret
      exact ⟨rfl, rfl⟩
set_option maxRecDepth 100000 in
set_option maxHeartbeats 1000000 in
theorem read_any {g : Nat} {s : LS} (n : Int) (hg : s.got.length ≤ 1048576) (i : Nat) (hi : L[i]? = some (LinkAt g s)) (hS : Sep w0 w L) :
    Calls Try.prog 16 #[.pointer (some ⟨g, 0, none⟩), .int .i64 n] w fun en w' => ∃ v, en = .returned v ∧ Sep w0 w' (BRow v (readB s n) :: L.set i (LinkAt g (readL s n))) := by
  have HP := Lib.hid (peek_any i hi hS)
  have same : L.set i (LinkAt g s) = L := by
    obtain ⟨hil, hie⟩ := List.getElem?_eq_some_iff.1 hi
    rw [← hie, List.set_getElem_self]
  obtain ⟨m, hm⟩ : ∃ m, s.got.length = m := ⟨_, rfl⟩
  by_cases h0 : n < 1 ∨ m = 0
  · have hk : readN s n = 0 := by unfold readN; omega
    have hb : Hid (readB s n = []) := Lib.hid (by unfold readB; rw [hk]; rfl)
    have hl : Hid (readL s n = s) := Lib.hid (by unfold readL; rw [hk]; rfl)
    have hfin : Hid (Sep w0 w (BRow (.slice none 0 0) (readB s n) :: L.set i (LinkAt g (readL s n)))) := Lib.hid (by rw [hb.out, hl.out, same]; exact hS.nilB)
    rw [hm] at HP
    clear hb hl hk same hS hi hg hm
    by_cases h1 : (m : Int) < n
    · have hm0 : m = 0 := by omega
      subst hm0
      have h2 : (0 : Int) < n := by omega
      clear h0
      go_enter Try.func16, Try.ntmps16
      go_wp2_with fail
      refine HP.out.mono ?_
      rintro en w1 ⟨rfl, rfl⟩
      go_wp2_with fail
      go_ret
      exact ⟨_, rfl, hfin.out⟩
    · have d1 : decide (n < 1) = true := decide_eq_true (by omega)
      have hn1 : n < 1 := by omega
      clear h0
      go_enter Try.func16, Try.ntmps16
      go_wp2_with fail
      refine HP.out.mono ?_
      rintro en w1 ⟨rfl, rfl⟩
      go_wp2_with fail
      go_ret
      exact ⟨_, rfl, hfin.out⟩
  · obtain ⟨k, hk⟩ : ∃ k, readN s n = k := ⟨_, rfl⟩
    have hkm : 1 ≤ k ∧ k ≤ m := by rw [← hk]; unfold readN; omega
    have hkn : (n < (m : Int) ∧ n = (k : Int)) ∨ (¬ n < (m : Int) ∧ m = k) := by
      have h := hk
      unfold readN at h
      omega
    obtain ⟨vw, vg, S⟩ := (hS.pick i hi).openL
    have hfin : Hid (∀ W s' vg, Sep w0 W (cell g 76 (s'.cs vw vg) :: BRow vw s'.wait :: BRow vg s'.got :: L.eraseIdx i) → Sep w0 W (L.set i (LinkAt g s'))) := Lib.hid fun W s' vg h => h.closeL.back hi
    obtain ⟨B, cg, hv, hcg, -, hR⟩ := S.bform 2 rfl
    rw [hm] at hv hcg hR HP
    subst hv
    have c5 : w.cell? ⟨g, 5, none⟩ = some (.slice B m cg) := (S.blk 0 rfl).at_ 5 rfl
    have hb : Hid (readB s n = s.got.take k) := Lib.hid (by unfold readB; rw [hk])
    have hl : Hid (readL s n = { s with got := s.got.drop k }) := Lib.hid (by unfold readL; rw [hk])
    have e1 := slice_hi .i64 B m cg k (by omega)
    have e2 := slice_lo .i64 B m cg k hkm.2
    obtain ⟨r, hr⟩ : ∃ r, m - k = r := ⟨_, rfl⟩
    rw [hr] at e2
    have hin := Lib.hid hi
    have HC := Lib.hid (clone_any (s.got.take k) k (by rw [hm] at hg; omega) B cg (hR.take k hkm.2) S)
    have hrb : r ≤ 1048576 := by rw [hm] at hg; omega
    have HS := Lib.hid S
    have Hm := Lib.hid hm
    have Hr := Lib.hid hr
    have Hkm := Lib.hid hkm
    have Hcg := Lib.hid hcg
    have d1 : decide ((k : Int) < 1) = false := decide_eq_false (by omega)
    have k1 : (k : Int) ≠ 0 := by omega
    have k2 : ¬ (k : Int) < 1 := by omega
    have hlen : Hid ((s.got.take k).length = k) := Lib.hid (by rw [List.length_take, hm]; omega)
    have hlen2 : Hid ((s.got.drop k).length = r) := Lib.hid (by rw [List.length_drop, hm, hr])
    clear S hS hi hk h0 hr hm hcg hR same hg hkm
    go_enter Try.func16, Try.ntmps16
    go_wp2_with fail
    refine HP.out.mono ?_
    rintro en w1 ⟨rfl, rfl⟩
    go_upto_if 11 with (fail)
    have hif : (if (m : Int) < n then (m : Int) else n) = (k : Int) := by have := Hkm.out; split <;> omega
    rw [hif]
    clear hif hkn
    go_wp2_with fail
    refine HC.out.mono ?_
    rintro en w2 ⟨v2, rfl, S1⟩
    obtain ⟨a2, c2, hv2, -, -⟩ := own_slice (S1.own 0 rfl)
    rw [hlen.out] at hv2
    subst hv2
    have hrb2 := (S1.rb 3 rfl).1
    have c5' : w2.cell? ⟨g, 5, none⟩ = some (.slice B m cg) := (S1.blk 1 rfl).at_ 5 rfl
    have HD := Lib.hid (clone_any (s.got.drop k) r (by omega) (subB B cg k) (cg - k) (by have h := hrb2.drop k Hkm.out.2 Hcg.out; rwa [Hr.out] at h) S1)
    clear c5 hrb2 HC S1
    go_wp2_with fail
    refine HD.out.mono ?_
    rintro en w3 ⟨v3, rfl, S3⟩
    obtain ⟨a3, c3, hv3, -, -⟩ := own_slice (S3.own 0 rfl)
    rw [hlen2.out] at hv3
    subst hv3
    have k5 := (S3.blk 2 rfl).at_ 5 rfl
    have z5 := (S3.blk 2 rfl).frozen 5
    have S4 := Lib.hid (S3.put 2 rfl 5 (.slice a3 r c3))
    clear c5' HD S3
    go_wp2_with fail
    go_ret
    refine ⟨_, rfl, ?_⟩
    rw [hb.out, hl.out]
    have S5 := S4.out.drop 4
    have S6 : Sep w0 _ (BRow (.slice a3 r c3) (s.got.drop k) :: BRow (.slice a2 k c2) (s.got.take k) :: cell g 76 (({ s with got := s.got.drop k } : LS).cs vw (.slice a3 r c3)) :: BRow vw s.wait :: L.eraseIdx i) := S5
    have S7 := S6.perm (perm_read _ _ _ _ _)
    have S8 := Sep.closeL (s := { s with got := s.got.drop k }) (L := BRow (.slice a2 k c2) (s.got.take k) :: L.eraseIdx i) S7
    exact S8.swap.perm (.cons _ (perm_back hin.out _))
end
end Go.Proofs.Ytpgiljjjpijepaa
