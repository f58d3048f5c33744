/- Parts of slices of bytes; confirm. -/
import Derived.Test.YtpgiljjjpijepaaLWrite
import Derived.Deep.DeepCutAuto
namespace Go.Proofs.Ytpgiljjjpijepaa
open Go.RowKit
/-- where a part of a slice of bytes begins -/
def subB (A : Option Addr) (c l : Nat) : Option Addr := if c = l then A else A.map (·.add (l * 1))
theorem size5 (w : World) : (sizeOf (Try.prog.elem 27)).run Try.prog w = .ok 1 w := by
  have he : Try.prog.elem 27 = 5 := by kernel_rfl
  have hz : (sizeOf 5).run Try.prog w = .ok 1 w := by kernel_rfl
  rw [he, hz]
theorem slice_lo (k : IntKind) (A : Option Addr) (n c l : Nat) (h1 : l ≤ n) (w : World) : (Instr.slice 27 (.slice A n c) (some (.int k (l : Int))) none none).run Try.prog w = .ok (.slice (subB A c l) (n - l) (c - l)) w := by
  rw [run_slice_l w 27 A n c Try.underlying27 k l (by omega) (by omega), size5]
  simp [sliced, subB]
theorem slice_hi (k : IntKind) (A : Option Addr) (n c m : Nat) (h : m ≤ c) (w : World) : (Instr.slice 27 (.slice A n c) none (some (.int k (m : Int))) none).run Try.prog w = .ok (.slice A m c) w := by
  rw [run_slice_h w 27 A n c Try.underlying27 k m (by omega) (by omega), size5]
  have h0 : A.map (·.add 0) = A := by cases A <;> simp [Addr.add]
  simp [sliced, h0]
theorem slice_lh (k : IntKind) (A : Option Addr) (n c l m : Nat) (h1 : l ≤ m) (h : m ≤ c) (w : World) : (Instr.slice 27 (.slice A n c) (some (.int k (l : Int))) (some (.int k (m : Int))) none).run Try.prog w = .ok (.slice (subB A c l) (m - l) (c - l)) w := by
  rw [run_slice_lh w 27 A n c Try.underlying27 k k l m (by omega) (by omega) (by omega), size5]
  simp [sliced, subB]
section
variable {w0 w w' : World} {L M : List Asn}
theorem RB.drop {A : Option Addr} {n c : Nat} {b : List Nat} (h : RB w A n b) (l : Nat) (hl : l ≤ n) (hc : n ≤ c) : RB w (subB A c l) (n - l) (b.drop l) := by
  have h2 := h.2.cut hl hc
  rw [Nat.mul_one] at h2
  refine ⟨by rw [List.length_drop, h.1], ?_⟩
  rw [List.map_drop]
  unfold subB
  rw [Nat.mul_one]
  exact h2
theorem RB.take {A : Option Addr} {n : Nat} {b : List Nat} (h : RB w A n b) (m : Nat) (hm : m ≤ n) : RB w A m (b.take m) := by
  refine ⟨by rw [List.length_take, h.1]; omega, by rw [List.length_map, List.length_take, h.1]; omega, fun hn => ?_⟩
  obtain ⟨ad, e1, e2, e3⟩ := h.2.2 (by omega)
  refine ⟨ad, e1, e2, fun j u hu => e3 j u ?_⟩
  rw [List.map_take, List.getElem?_take] at hu
  split at hu
  · exact hu
  · cases hu
def confB (s : LS) (ack : Nat) : Bool := decide (ack ≤ s.most)
def confS (s : LS) (ack : Nat) : LS := if s.most < ack then s else if ack ≤ s.base then s else { s with wait := s.wait.drop (ack - s.base), base := ack, sent := max s.sent ack, ticks := 0 }
set_option maxRecDepth 100000 in
set_option maxHeartbeats 1000000 in
theorem confirm_any {g : Nat} {s : LS} (ack : Nat) (hack : ack < 18446744073709551616) (hw : s.most ≤ s.base + s.wait.length) (hl : s.wait.length ≤ 1048576) (i : Nat) (hi : L[i]? = some (LinkAt g s)) (hS : Sep w0 w L) :
    Calls Try.prog 35 #[.pointer (some ⟨g, 0, none⟩), .int .u64 (ack : Int)] w fun en w' => en = .returned (.bool (confB s ack)) ∧ Sep w0 w' (L.set i (LinkAt g (confS s ack))) := by
  obtain ⟨vw, vg, S⟩ := (hS.pick i hi).openL
  have hfin : Hid (∀ W s' vw, Sep w0 W (cell g 76 (s'.cs vw vg) :: BRow vw s'.wait :: BRow vg s'.got :: L.eraseIdx i) → Sep w0 W (L.set i (LinkAt g s'))) := Lib.hid fun W s' vw h => h.closeL.back hi
  obtain ⟨A, c, hv, hc, -, hR⟩ := S.bform 1 rfl
  obtain ⟨n, hn⟩ : ∃ n, s.wait.length = n := ⟨_, rfl⟩
  rw [hn] at hv hc hR hw hl
  subst hv
  have c0 : w.cell? ⟨g, 0, none⟩ = some (.slice A n c) := (S.blk 0 rfl).at_ 0 rfl
  have c1 : w.cell? ⟨g, 1, none⟩ = some (.int .u64 (s.base : Int)) := (S.blk 0 rfl).at_ 1 rfl
  have c3 : w.cell? ⟨g, 3, none⟩ = some (.int .u64 (s.most : Int)) := (S.blk 0 rfl).at_ 3 rfl
  have HS := Lib.hid S
  clear S hS hi
  unfold confB confS
  by_cases h1 : s.most < ack
  · rw [if_pos h1, decide_eq_false (show ¬ ack ≤ s.most by omega)]
    have d1 : decide ((s.most : Int) < (ack : Int)) = true := decide_eq_true (by omega)
    have d2 : decide (s.most < ack) = true := decide_eq_true h1
    go_enter Try.func35, Try.ntmps35
    go_wp2_with fail
    go_ret
    exact ⟨rfl, hfin.out _ _ _ HS.out⟩
  rw [if_neg h1, decide_eq_true (show ack ≤ s.most by omega)]
  have d1 : decide ((s.most : Int) < (ack : Int)) = false := decide_eq_false (by omega)
  have d2 : decide (s.most < ack) = false := decide_eq_false h1
  by_cases h2 : ack ≤ s.base
  · rw [if_pos h2]
    have d3 : decide ((s.base : Int) < (ack : Int)) = false := decide_eq_false (by omega)
    have d4 : decide (s.base < ack) = false := decide_eq_false (by omega)
    clear h1 h2
    go_enter Try.func35, Try.ntmps35
    go_wp2_with fail
    go_ret
    exact ⟨rfl, hfin.out _ _ _ HS.out⟩
  rw [if_neg h2]
  have d3 : decide ((s.base : Int) < (ack : Int)) = true := decide_eq_true (by omega)
  have d4 : decide (s.base < ack) = true := decide_eq_true (by omega)
  have i1 : IntKind.u64.wrap ((ack : Int) - (s.base : Int)) = ((ack - s.base : Nat) : Int) := by simp [IntKind.wrap, IntKind.signed, IntKind.bits]; omega
  obtain ⟨l, hl0⟩ : ∃ l, ack - s.base = l := ⟨_, rfl⟩
  rw [hl0] at i1
  have e1 := slice_lo .u64 A n c l (by omega)
  obtain ⟨r, hr⟩ : ∃ r, n - l = r := ⟨_, rfl⟩
  rw [hr] at e1
  have HR : Hid (RB w.drew (subB A c l) r (s.wait.drop l)) := Lib.hid (by
    have h := (hR.below (Below.refl w.heap.size w).drew).drop l (by omega) hc
    rwa [hr] at h)
  have HC := Lib.hid (clone_any (s.wait.drop l) r (by omega) (subB A c l) (c - l) HR.out HS.out.drew)
  have Hr : Hid ((s.wait.drop l).length = r) := Lib.hid HR.out.1
  have Hl0 := Lib.hid hl0
  clear h1 h2 hR hw hl hc hl0 hr hn HR
  go_enter Try.func35, Try.ntmps35
  go_upto_region 4 with (fail)
  go_cut [] (fun wx => ∃ vw, Sep w0 wx (cell g 76 (({ s with wait := s.wait.drop l } : LS).cs vw vg) :: BRow vw (s.wait.drop l) :: BRow vg s.got :: L.eraseIdx i))
  case first =>
    go_region_law (first | (go_simp; go_at_call 37; refine HC.out.mono ?_; rintro en w3 ⟨v3, rfl, S3⟩; obtain ⟨a3, c3', hv3, -, -⟩ := own_slice (S3.own 0 rfl); rw [Hr.out] at hv3; subst hv3; have k0 : w3.cell? ⟨g, 0, none⟩ = some (.slice A n c) := (S3.blk 1 rfl).at_ 0 rfl; have k1 : w3.cell? ⟨g, 1, none⟩ = some (.int .u64 (s.base : Int)) := (S3.blk 1 rfl).at_ 1 rfl; have z0 := (S3.blk 1 rfl).frozen 0))
    all_goals
      have S4 := Lib.hid (S3.put 1 rfl 0 (.slice a3 r c3'))
      go_wp2_with fail
      go_meet
      refine ⟨.slice a3 r c3', ?_⟩
      refine Sep.perm (S4.out.drop 2) ?_
      exact List.Perm.swap _ _ _
  case rest =>
    obtain ⟨vw, S⟩ := hcut
    have c2 : wc.cell? ⟨g, 2, none⟩ = some (.int .u64 (s.sent : Int)) := (S.blk 0 rfl).at_ 2 rfl
    have c1' : wc.cell? ⟨g, 1, none⟩ = some (.int .u64 (s.base : Int)) := (S.blk 0 rfl).at_ 1 rfl
    have c4 : wc.cell? ⟨g, 4, none⟩ = some (.int .i64 (s.ticks : Int)) := (S.blk 0 rfl).at_ 4 rfl
    have z1 := (S.blk 0 rfl).frozen 1
    have z2 := (S.blk 0 rfl).frozen 2
    have z4 := (S.blk 0 rfl).frozen 4
    have HS2 := Lib.hid S
    clear S c0 c1 c3 HC
    by_cases hm : s.sent < ack
    · have hm1 : (s.sent : Int) < (ack : Int) := by omega
      have Hm3 : Hid (max s.sent ack = ack) := Lib.hid (by omega)
      go_wp2_with fail
      go_ret
      refine ⟨rfl, hfin.out _ { s with wait := s.wait.drop (ack - s.base), base := ack, sent := max s.sent ack, ticks := 0 } vw ?_⟩
      rw [Hl0.out, Hm3.out]
      exact (((HS2.out.put 0 rfl 1 (.int .u64 (ack : Int))).put 0 rfl 2 (.int .u64 (ack : Int))).put 0 rfl 4 (.int .i64 0))
    · have hm1 : ¬ (s.sent : Int) < (ack : Int) := by omega
      have hm2 : max s.sent ack = s.sent := by omega
      have Hm2 := Lib.hid hm2
      clear hm2
      go_wp2_with fail
      go_ret
      refine ⟨rfl, hfin.out _ { s with wait := s.wait.drop (ack - s.base), base := ack, sent := max s.sent ack, ticks := 0 } vw ?_⟩
      rw [Hl0.out, Hm2.out]
      exact (((HS2.out.put 0 rfl 1 (.int .u64 (ack : Int))).put 0 rfl 2 (.int .u64 (s.sent : Int))).put 0 rfl 4 (.int .i64 0))
end
end Go.Proofs.Ytpgiljjjpijepaa
