/- come, Take, Read of a link. -/
import Derived.Test.YtpgiljjjpijepaaLTake
namespace Go.Proofs.Ytpgiljjjpijepaa
open Go.RowKit
theorem u64_in {x : Int} (h0 : 0 ≤ x) (h1 : x < 18446744073709551616) : IntKind.u64.wrap x = x := by simp [IntKind.wrap, IntKind.signed, IntKind.bits]; omega
section
variable {w0 w w' : World} {L M : List Asn}
def comeS (s : LS) (at_ : Nat) (d : List Nat) : LS :=
  if d.length = 0 then s
  else if s.next < at_ ∨ d.length ≤ s.next - at_ then { s with owes := true }
  else if 1048576 < s.got.length + (d.length - (s.next - at_)) then { s with owes := true }
  else { s with owes := true, got := s.got ++ d.drop (s.next - at_), next := s.next + (d.length - (s.next - at_)) }
set_option maxRecDepth 100000 in
set_option maxHeartbeats 1000000 in
theorem come_any {g : Nat} {s : LS} (i : Nat) (at_ : Nat) (d : List Nat) (A : Option Addr) (n c : Nat) (hat : at_ < 18446744073709551616) (hRA : ∀ W s', Sep w0 W (L.set i (LinkAt g s')) → RB W A n d) (hnc : n ≤ c) (hn6 : n ≤ 1000000) (hnx : s.next ≤ 1000000000000) (hg : s.got.length ≤ 1048576) (hi : L[i]? = some (LinkAt g s)) (hS : Sep w0 w L) :
    Calls Try.prog 36 #[.pointer (some ⟨g, 5, none⟩), .int .u64 (at_ : Int), .slice A n c] w fun en w' => en = .returned (.tuple #[]) ∧ Sep w0 w' (L.set i (LinkAt g (comeS s at_ d))) := by
  obtain ⟨vw, vg, S⟩ := (hS.pick i hi).openL
  have hfin : Hid (∀ W s' vg, Sep w0 W (cell g 76 (s'.cs vw vg) :: BRow vw s'.wait :: BRow vg s'.got :: L.eraseIdx i) → Sep w0 W (L.set i (LinkAt g s'))) := Lib.hid fun W s' vg h => h.closeL.back hi
  obtain ⟨B, cg, hv, hcg, -, -⟩ := S.bform 2 rfl
  obtain ⟨m, hm⟩ : ∃ n, s.got.length = n := ⟨_, rfl⟩
  rw [hm] at hv hcg hg
  subst hv
  have c5 : w.cell? ⟨g, 5, none⟩ = some (.slice B m cg) := (S.blk 0 rfl).at_ 5 rfl
  have c6 : w.cell? ⟨g, 6, none⟩ = some (.int .u64 (s.next : Int)) := (S.blk 0 rfl).at_ 6 rfl
  have c7 : w.cell? ⟨g, 7, none⟩ = some (.bool s.owes) := (S.blk 0 rfl).at_ 7 rfl
  have z5 := (S.blk 0 rfl).frozen 5
  have z6 := (S.blk 0 rfl).frozen 6
  have z7 := (S.blk 0 rfl).frozen 7
  have HS := Lib.hid S
  have S1 := Lib.hid (S.put 0 rfl 7 (.bool true))
  have hR : RB w A n d := hRA w s (hfin.out _ _ _ HS.out)
  have HR2' : RB (w.setCell ⟨g, 7, none⟩ (.bool true)) A n d := hRA _ { s with owes := true } (hfin.out _ { s with owes := true } _ S1.out)
  have hdn := hR.1
  have i0 : IntKind.u64.wrap (n : Int) = (n : Int) := u64_in (by omega) (by omega)
  clear S hS hi
  unfold comeS
  rw [hdn, hm]
  by_cases h0 : n = 0
  · rw [if_pos h0]
    subst h0
    go_enter Try.func36, Try.ntmps36
    go_wp2_with fail
    refine bodyPost_ret (results_none rfl _ _ _) rfl ?_
    exact ⟨rfl, hfin.out _ _ _ HS.out⟩
  rw [if_neg h0]
  have e0 : ((n : Int) == 0) = false := by simp; omega
  have e1 : (n == 0) = false := by simp; omega
  by_cases h1 : s.next < at_
  · rw [if_pos (.inl h1)]
    have d1 : decide ((s.next : Int) < (at_ : Int)) = true := decide_eq_true (by omega)
    have d2 : decide (s.next < at_) = true := decide_eq_true h1
    clear h0 h1
    go_enter Try.func36, Try.ntmps36
    go_wp2_with fail
    refine bodyPost_ret (results_none rfl _ _ _) rfl ?_
    exact ⟨rfl, hfin.out _ { s with owes := true } _ S1.out⟩
  have d1 : decide ((s.next : Int) < (at_ : Int)) = false := decide_eq_false (by omega)
  have d2 : decide (s.next < at_) = false := decide_eq_false h1
  obtain ⟨q, hq⟩ : ∃ q, s.next - at_ = q := ⟨_, rfl⟩
  have i1 : IntKind.u64.wrap ((s.next : Int) - (at_ : Int)) = (q : Int) := by rw [u64_in (by omega) (by omega)]; omega
  rw [hq]
  by_cases h2 : n ≤ q
  · rw [if_pos (.inr h2)]
    have d3 : decide ((n : Int) ≤ (q : Int)) = true := decide_eq_true (by omega)
    have d4 : decide (n ≤ q) = true := decide_eq_true h2
    clear h0 h1 h2
    go_enter Try.func36, Try.ntmps36
    go_wp2_with fail
    refine bodyPost_ret (results_none rfl _ _ _) rfl ?_
    exact ⟨rfl, hfin.out _ { s with owes := true } _ S1.out⟩
  rw [if_neg (by rintro (h | h); exact h1 h; exact h2 h)]
  have d3 : decide ((n : Int) ≤ (q : Int)) = false := decide_eq_false (by omega)
  have d4 : decide (n ≤ q) = false := decide_eq_false h2
  obtain ⟨r, hr⟩ : ∃ r, n - q = r := ⟨_, rfl⟩
  have sl := slice_lo .u64 A n c q (by omega)
  have HR2 : Hid (RB (w.setCell ⟨g, 7, none⟩ (.bool true)) (subB A c q) r (d.drop q)) := Lib.hid (by have h := HR2'.drop q (by omega) hnc; rwa [hr] at h)
  rw [hr] at sl ⊢
  have i2 : IntKind.i64.wrap ((1048576 : Int) - (m : Int)) = (1048576 : Int) - (m : Int) := IntWalk.i64_in _ (by omega)
  by_cases h3 : 1048576 < m + r
  · rw [if_pos h3]
    have d5 : decide ((1048576 : Int) - (m : Int) < (r : Int)) = true := decide_eq_true (by omega)
    clear h0 h1 h2 h3 hr hq
    go_enter Try.func36, Try.ntmps36
    go_wp2_with fail
    refine bodyPost_ret (results_none rfl _ _ _) rfl ?_
    exact ⟨rfl, hfin.out _ { s with owes := true } _ S1.out⟩
  rw [if_neg h3]
  have d5 : decide ((1048576 : Int) - (m : Int) < (r : Int)) = false := decide_eq_false (by omega)
  have i3 : IntKind.u64.wrap (r : Int) = (r : Int) := u64_in (by omega) (by omega)
  have i4 : IntKind.u64.wrap ((s.next : Int) + (r : Int)) = (s.next : Int) + (r : Int) := u64_in (by omega) (by omega)
  have O1 : Hid ((w.setCell ⟨g, 7, none⟩ (.bool true)).ownsRow 0 5 1 (.slice B m cg) m (s.got.map enB)) := Lib.hid (by have := S1.out.own 2 rfl; rwa [hm] at this)
  obtain ⟨m2, hm2⟩ : ∃ x, (s.got ++ d.drop q).length = x := ⟨_, rfl⟩
  have Hmm := Lib.hid hm2
  have Hm := Lib.hid hm
  have Hm1 : Hid (m + r ≤ maxLen) := Lib.hid (by unfold maxLen; omega)
  have Hm2 : Hid ((m + r) * 1 ≤ 140737488355328) := Lib.hid (by omega)
  obtain ⟨i5, hi5, hz0, hz1, hz2⟩ := info_parts info5
  have Hi := Lib.hid hi5
  have Hz0 := Lib.hid hz0
  have Hz1 := Lib.hid hz1
  have Hz2 := Lib.hid hz2
  clear hi5 hz0 hz1 hz2 h0 h1 h2 h3 hr hq hm hm2 hR HR2' hRA
  go_enter Try.func36, Try.ntmps36
  go_wp2_with (
    at_builtin
    refine wpList_append_any _ rfl (.tmp 52) (.tmp 53) 27 rfl 0 5 i5 _ 1 1 Try.underlying27 Hi.out Hz0.out Hz1.out Hz2.out rfl (by omega) (.slice B m cg) m (s.got.map enB) rfl O1.out _ (subB A c q) r (c - q) ((d.drop q).map enB) rfl HR2.out.2 (enB_one _) Hm1.out Hm2.out (Nat.zero_le _) ?_
    intro v1 w1 hown hgr hat1
    have hown2 : w1.ownsRow 0 5 1 v1 (s.got ++ d.drop q).length ((s.got ++ d.drop q).map enB) := by rw [List.length_append, List.map_append, Hm.out, HR2.out.1]; exact hown
    have S2 := S1.out.pushed 2 rfl hown2 hgr hat1
    have k5 := (S2.blk 0 rfl).at_ 5 rfl
    have k6 : w1.cell? ⟨g, 6, none⟩ = some (.int .u64 (s.next : Int)) := (S2.blk 0 rfl).at_ 6 rfl
    have y5 := (S2.blk 0 rfl).frozen 5
    have y6 := (S2.blk 0 rfl).frozen 6
    have S3 := Lib.hid ((S2.put 0 rfl 5 v1).put 0 rfl 6 (.int .u64 ((s.next : Int) + (r : Int))))
    obtain ⟨a1, c1, hv1, -, -⟩ := own_slice (S2.own 2 rfl)
    rw [Hmm.out] at hv1
    subst hv1
    clear hown hown2 hgr hat1 S2 c5 c6 c7 z5 z6 z7)
  go_end0
  exact ⟨rfl, hfin.out _ { s with owes := true, got := s.got ++ d.drop q, next := s.next + r } (.slice a1 m2 c1) S3.out⟩
/-- a packet -/
structure Pk where
  e : Nat
  o : Nat
  a : Nat
  d : List Nat
def takeE (s : LS) (p : Pk) : Int := if p.e ≠ s.epoch then 220 else if s.most < p.a then 221 else 0
def takeS (s : LS) (p : Pk) : LS := if p.e ≠ s.epoch then s else if s.most < p.a then s else comeS (confS s p.a) p.o p.d
theorem conf_next (s : LS) (a : Nat) : (confS s a).next = s.next ∧ (confS s a).got = s.got := by unfold confS; split; exact ⟨rfl, rfl⟩; split; exact ⟨rfl, rfl⟩; exact ⟨rfl, rfl⟩
set_option maxRecDepth 100000 in
set_option maxHeartbeats 1000000 in
theorem take_any {g : Nat} {s : LS} (i : Nat) (p : Pk) (A : Option Addr) (n c : Nat) (ho : p.o < 18446744073709551616) (ha : p.a < 18446744073709551616) (hRA : ∀ W s', Sep w0 W (L.set i (LinkAt g s')) → RB W A n p.d) (hnc : n ≤ c) (hn6 : n ≤ 1000000)
    (hw : s.most ≤ s.base + s.wait.length) (hl : s.wait.length ≤ 1048576) (hnx : s.next ≤ 1000000000000) (hg : s.got.length ≤ 1048576) (hi : L[i]? = some (LinkAt g s)) (hS : Sep w0 w L) :
    Calls Try.prog 13 #[.pointer (some ⟨g, 0, none⟩), .agg #[.int .u32 (p.e : Int), .int .u64 (p.o : Int), .int .u64 (p.a : Int), .slice A n c]] w fun en w' => en = .returned (.int .i64 (takeE s p)) ∧ Sep w0 w' (L.set i (LinkAt g (takeS s p))) := by
  obtain ⟨W1, hW1, S1⟩ := hS.boxedF 32 #[.int .u32 (p.e : Int), .int .u64 (p.o : Int), .int .u64 (p.a : Int), .slice A n c]
  obtain ⟨b, hb⟩ : ∃ b, w.heap.size = b := ⟨_, rfl⟩
  rw [hb] at S1
  have hi1 : (cell b 32 #[.int .u32 (p.e : Int), .int .u64 (p.o : Int), .int .u64 (p.a : Int), .slice A n c] :: L)[i + 1]? = some (LinkAt g s) := by rw [List.getElem?_cons_succ]; exact hi
  have same : L.set i (LinkAt g s) = L := by
    obtain ⟨hil, hie⟩ := List.getElem?_eq_some_iff.1 hi
    rw [← hie, List.set_getElem_self]
  obtain ⟨vw, vg, S⟩ := (S1.pick (i + 1) hi1).openL
  have c8 : W1.cell? ⟨g, 8, none⟩ = some (.int .u32 (s.epoch : Int)) := (S.blk 0 rfl).at_ 8 rfl
  have x0 : W1.cell? ⟨b, 0, none⟩ = some (.int .u32 (p.e : Int)) := (S1.blk 0 rfl).at_ 0 rfl
  have x1 : W1.cell? ⟨b, 1, none⟩ = some (.int .u64 (p.o : Int)) := (S1.blk 0 rfl).at_ 1 rfl
  have x2 : W1.cell? ⟨b, 2, none⟩ = some (.int .u64 (p.a : Int)) := (S1.blk 0 rfl).at_ 2 rfl
  have x3 : W1.cell? ⟨b, 3, none⟩ = some (.slice A n c) := (S1.blk 0 rfl).at_ 3 rfl
  have HS := Lib.hid S1
  have Hsame := Lib.hid same
  have HRA := Lib.hid hRA
  have Hi1 := Lib.hid hi1
  clear S S1 hS hi hi1 same hRA
  unfold takeE takeS
  by_cases h1 : p.e ≠ s.epoch
  · rw [if_pos h1, if_pos h1]
    have e0 : ((p.e : Int) != (s.epoch : Int)) = true := by simp; omega
    have e1 : (p.e != s.epoch) = true := by simp; omega
    clear h1
    go_enter Try.func13, Try.ntmps13
    go_upto_region 3 with (fail)
    go_quiet (fail)
    go_wp2_with fail
    go_ret
    exact ⟨rfl, by rw [Hsame.out]; exact (HS.out.drewN _).tail⟩
  rw [if_neg h1, if_neg h1]
  have e0 : ((p.e : Int) != (s.epoch : Int)) = false := by simp; omega
  have e1 : (p.e != s.epoch) = false := by simp; omega
  clear h1
  obtain ⟨cb, hcb⟩ : ∃ x, confB s p.a = x := ⟨_, rfl⟩
  have Hcb := Lib.hid hcb
  have HK := Lib.hid (fun (w' : World) (b1 : Blk w' b 32 #[.int .u32 (p.e : Int), .int .u64 (p.o : Int), .int .u64 (p.a : Int), .slice A n c]) => show w'.cell? ⟨b, 1, none⟩ = some (.int .u64 (p.o : Int)) ∧ w'.cell? ⟨b, 2, none⟩ = some (.int .u64 (p.a : Int)) ∧ w'.cell? ⟨b, 3, none⟩ = some (.slice A n c) from ⟨b1.at_ 1 rfl, b1.at_ 2 rfl, b1.at_ 3 rfl⟩)
  clear hcb
  go_enter Try.func13, Try.ntmps13
  go_upto_region 3 with (fail)
  go_quiet (fail)
  have HC := Lib.hid (confirm_any p.a ha hw hl (i + 1) Hi1.out (HS.out.drewN (nq + 1)))
  rw [Hcb.out] at HC
  go_upto_region 5 with (fail)
  go_region_held3 (fun w' => w'.cell? ⟨b, 1, none⟩ = some (.int .u64 (p.o : Int)) ∧ w'.cell? ⟨b, 2, none⟩ = some (.int .u64 (p.a : Int)) ∧ w'.cell? ⟨b, 3, none⟩ = some (.slice A n c)) (first | exact HK.out _ (S3.blk 0 rfl) | exact ⟨x1, x2, x3⟩) (first | (go_at_call 35; refine HC.out.mono ?_; rintro en w3 ⟨rfl, S3⟩))
  replace S3 : Sep w0 w3 (cell b 32 #[.int .u32 (p.e : Int), .int .u64 (p.o : Int), .int .u64 (p.a : Int), .slice A n c] :: L.set i (LinkAt g (confS s p.a))) := S3
  clear x0 x1 x2 x3 c8 HC HS
  cases cb with
  | false =>
    have hc := of_decide_eq_false Hcb.out
    have hlt : s.most < p.a := by omega
    have Hc : Hid (confS s p.a = s) := Lib.hid (by unfold confS; rw [if_pos hlt])
    rw [Hc.out] at S3
    clear hc
    go_wp2_with fail
    go_ret
    exact ⟨rfl, S3.tail⟩
  | true =>
    have hc := of_decide_eq_true Hcb.out
    have hlt : ¬ s.most < p.a := by omega
    clear hc
    have hcn := conf_next s p.a
    have hx3 : Hid (∀ W s', Sep w0 W ((cell b 32 #[.int .u32 (p.e : Int), .int .u64 (p.o : Int), .int .u64 (p.a : Int), .slice A n c] :: L.set i (LinkAt g (confS s p.a))).set (i + 1) (LinkAt g s')) → RB W A n p.d) := Lib.hid fun W s' h => by
      rw [List.set_cons_succ, List.set_set] at h
      exact HRA.out W s' h.tail
    have hil : Hid ((cell b 32 #[.int .u32 (p.e : Int), .int .u64 (p.o : Int), .int .u64 (p.a : Int), .slice A n c] :: L.set i (LinkAt g (confS s p.a)))[i + 1]? = some (LinkAt g (confS s p.a))) := Lib.hid (by
      rw [List.getElem?_cons_succ, List.getElem?_set_self]
      have := (List.getElem?_eq_some_iff.1 Hi1.out).1
      simp at this
      omega)
    have HM := Lib.hid (come_any (i + 1) p.o p.d A n c ho hx3.out hnc hn6 (by rw [hcn.1]; exact hnx) (by rw [hcn.2]; exact hg) hil.out S3.drew)
    have x1 := (S3.blk 0 rfl).at_ 1 rfl
    have x3 := (S3.blk 0 rfl).at_ 3 rfl
    have HK2 := Lib.hid (fun (w' : World) (b1 : Blk w' b 32 #[.int .u32 (p.e : Int), .int .u64 (p.o : Int), .int .u64 (p.a : Int), .slice A n c]) => show w'.cell? ⟨b, 1, none⟩ = some (.int .u64 (p.o : Int)) ∧ w'.cell? ⟨b, 3, none⟩ = some (.slice A n c) from ⟨b1.at_ 1 rfl, b1.at_ 3 rfl⟩)
    clear hcn S3
    go_upto_region 7 with (fail)
    go_region_held3 (fun w' => w'.cell? ⟨b, 1, none⟩ = some (.int .u64 (p.o : Int)) ∧ w'.cell? ⟨b, 3, none⟩ = some (.slice A n c)) (first | exact HK2.out _ (S5.blk 0 rfl) | exact ⟨x1, x3⟩) (first | (go_at_call 36; refine HM.out.mono ?_; rintro en w5 ⟨rfl, S5⟩))
    replace S5 : Sep w0 w5 (cell b 32 #[.int .u32 (p.e : Int), .int .u64 (p.o : Int), .int .u64 (p.a : Int), .slice A n c] :: (L.set i (LinkAt g (confS s p.a))).set i (LinkAt g (comeS (confS s p.a) p.o p.d))) := S5
    rw [List.set_set] at S5
    clear x1 x3
    go_wp2_with fail
    go_ret
    exact ⟨rfl, S5.tail⟩
end
end Go.Proofs.Ytpgiljjjpijepaa
