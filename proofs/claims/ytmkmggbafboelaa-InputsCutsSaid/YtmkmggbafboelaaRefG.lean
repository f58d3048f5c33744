/- The walk of the reference's gate: Take. -/
import Derived.Test.YtmkmggbafboelaaRefQ
namespace Go.Proofs.Ytmkmggbafboelaa
open Go.RowKit
theorem xtake_gap (w0 w : World) (g : Nat) (ins : List Ev) (s : Int) (e : Ev) (M : List Asn) (hS : Sep w0 w (YAt g ins :: M)) (hn : ins.length < 1000000) (hs : (ins.length : Int) + 1 < s) (hs2 : s < 4294967296) :
    Calls Try.prog 18 #[.pointer (some ⟨g, 0, none⟩), numV s e] w fun en w' => en = .returned (.tuple #[.bool false, .int .i64 250]) ∧ Sep w0 w' (YAt g ins :: M) := by
  obtain ⟨v, hS⟩ := hS.openR
  obtain ⟨a, c, hv, -, -⟩ := own_slice (hS.own 1 rfl)
  obtain ⟨n, hn'⟩ : ∃ n, ins.length = n := ⟨_, rfl⟩
  rw [hn'] at hv hs hn
  subst hv
  have Hn := Lib.hid hn'
  clear hn'
  go_enter Try.func18, Try.ntmps18
  go_wp2_with fail
  obtain ⟨W, hW, hS⟩ := hS.boxedF 28 (numCs s e).toArray
  have hW' : w.alloc (.cells #[.int .u32 s, .int .u8 e.k, .int .u16 e.x, .int .u16 e.y, .int .u32 e.c] 28) = W := hW
  rw [hW']
  clear hW hW'
  generalize w.heap.size = gx at hS ⊢
  have x0 : W.cell? ⟨gx, 0, none⟩ = some (.int .u32 s) := (hS.blk 0 rfl).at_ 0 rfl
  have y0 : W.cell? ⟨g, 0, none⟩ = some (.slice a n c) := (hS.blk 1 rfl).one
  have s1 : IntKind.i64.wrap s = s := IntWalk.i64_in _ (by omega)
  have s2 : IntKind.i64.wrap ((n : Int) + 1) = (n : Int) + 1 := IntWalk.i64_in _ (by omega)
  have d1 : decide ((n : Int) + 1 < s) = true := decide_eq_true hs
  go_quiet (fail)
  go_wp2_with fail
  go_ret2
  exact ⟨rfl, (hS.drewN nq).tail.closeR⟩
theorem xtake_old (w0 w : World) (g : Nat) (ins : List Ev) (s : Int) (e : Ev) (M : List Asn) (hS : Sep w0 w (YAt g ins :: M)) (hn : ins.length < 1000000) (hs : s ≤ (ins.length : Int)) (hs2 : 0 ≤ s) :
    Calls Try.prog 18 #[.pointer (some ⟨g, 0, none⟩), numV s e] w fun en w' => en = .returned (.tuple #[.bool false, .int .i64 0]) ∧ Sep w0 w' (YAt g ins :: M) := by
  obtain ⟨v, hS⟩ := hS.openR
  obtain ⟨a, c, hv, -, -⟩ := own_slice (hS.own 1 rfl)
  obtain ⟨n, hn'⟩ : ∃ n, ins.length = n := ⟨_, rfl⟩
  rw [hn'] at hv hs hn
  subst hv
  have Hn := Lib.hid hn'
  clear hn'
  go_enter Try.func18, Try.ntmps18
  go_wp2_with fail
  obtain ⟨W, hW, hS⟩ := hS.boxedF 28 (numCs s e).toArray
  have hW' : w.alloc (.cells #[.int .u32 s, .int .u8 e.k, .int .u16 e.x, .int .u16 e.y, .int .u32 e.c] 28) = W := hW
  rw [hW']
  clear hW hW'
  generalize w.heap.size = gx at hS ⊢
  have x0 : W.cell? ⟨gx, 0, none⟩ = some (.int .u32 s) := (hS.blk 0 rfl).at_ 0 rfl
  have y0 : W.cell? ⟨g, 0, none⟩ = some (.slice a n c) := (hS.blk 1 rfl).one
  have s1 : IntKind.i64.wrap s = s := IntWalk.i64_in _ (by omega)
  have s2 : IntKind.i64.wrap ((n : Int) + 1) = (n : Int) + 1 := IntWalk.i64_in _ (by omega)
  have d1 : decide ((n : Int) + 1 < s) = false := decide_eq_false (by omega)
  have d2 : decide (s ≤ (n : Int)) = true := decide_eq_true hs
  go_quiet (fail)
  replace hS := hS.drewN nq
  clear x0 y0
  generalize W.drewN nq = W1 at hS ⊢
  have x0 : W1.cell? ⟨gx, 0, none⟩ = some (.int .u32 s) := (hS.blk 0 rfl).at_ 0 rfl
  have y0 : W1.cell? ⟨g, 0, none⟩ = some (.slice a n c) := (hS.blk 1 rfl).one
  go_wp2_with fail
  go_quiet (fail)
  go_wp2_with fail
  go_ret2
  exact ⟨rfl, (hS.drewN nq).tail.closeR⟩
set_option maxRecDepth 100000 in
theorem xtake_new (w0 w : World) (g : Nat) (ins : List Ev) (e : Ev) (M : List Asn) (hS : Sep w0 w (YAt g ins :: M)) (hn : ins.length < 1000000) :
    Calls Try.prog 18 #[.pointer (some ⟨g, 0, none⟩), numV ((ins.length : Int) + 1) e] w fun en w' => en = .returned (.tuple #[.bool true, .int .i64 0]) ∧ Sep w0 w' (YAt g (ins ++ [e]) :: M) := by
  obtain ⟨s, hs⟩ : ∃ s : Int, (ins.length : Int) + 1 = s := ⟨_, rfl⟩
  rw [hs]
  obtain ⟨i26, hi, hz0, hz1, hz2⟩ := info_parts info26
  have hI := Lib.hid hi
  have Hz0 := Lib.hid hz0
  have Hz1 := Lib.hid hz1
  have Hz2 := Lib.hid hz2
  clear hi hz0 hz1 hz2
  obtain ⟨v, hS⟩ := hS.openR
  obtain ⟨a, c, hv, -, -⟩ := own_slice (hS.own 1 rfl)
  obtain ⟨n, hn'⟩ : ∃ n, ins.length = n := ⟨_, rfl⟩
  rw [hn'] at hv hs hn
  subst hv
  have Hn := Lib.hid hn'
  clear hn'
  go_enter Try.func18, Try.ntmps18
  go_wp2_with fail
  obtain ⟨W, hW, hS⟩ := hS.boxedF 28 (numCs s e).toArray
  have hW' : w.alloc (.cells #[.int .u32 s, .int .u8 e.k, .int .u16 e.x, .int .u16 e.y, .int .u32 e.c] 28) = W := hW
  rw [hW']
  clear hW hW'
  generalize w.heap.size = gx at hS ⊢
  have x0 : W.cell? ⟨gx, 0, none⟩ = some (.int .u32 s) := (hS.blk 0 rfl).at_ 0 rfl
  have y0 : W.cell? ⟨g, 0, none⟩ = some (.slice a n c) := (hS.blk 1 rfl).one
  have s1 : IntKind.i64.wrap s = s := IntWalk.i64_in _ (by omega)
  have s2 : IntKind.i64.wrap ((n : Int) + 1) = (n : Int) + 1 := IntWalk.i64_in _ (by omega)
  have d1 : decide ((n : Int) + 1 < s) = false := decide_eq_false (by omega)
  have d2 : decide (s ≤ (n : Int)) = false := decide_eq_false (by omega)
  clear hs
  go_quiet (fail)
  replace hS := hS.drewN nq
  clear x0 y0
  generalize W.drewN nq = W1 at hS ⊢
  have x0 : W1.cell? ⟨gx, 0, none⟩ = some (.int .u32 s) := (hS.blk 0 rfl).at_ 0 rfl
  have y0 : W1.cell? ⟨g, 0, none⟩ = some (.slice a n c) := (hS.blk 1 rfl).one
  go_wp2_with fail
  go_quiet (fail)
  replace hS := hS.drewN nq
  clear x0 y0
  generalize W1.drewN nq = W2 at hS ⊢
  have x0 : W2.cell? ⟨gx, 0, none⟩ = some (.int .u32 s) := (hS.blk 0 rfl).at_ 0 rfl
  have y0 : W2.cell? ⟨g, 0, none⟩ = some (.slice a n c) := (hS.blk 1 rfl).one
  go_wp2_with fail
  have x1 : W2.cell? ⟨gx, 1, none⟩ = some (.int .u8 e.k) := (hS.blk 0 rfl).at_ 1 rfl
  have x2 : W2.cell? ⟨gx, 2, none⟩ = some (.int .u16 e.x) := (hS.blk 0 rfl).at_ 2 rfl
  have x3 : W2.cell? ⟨gx, 3, none⟩ = some (.int .u16 e.y) := (hS.blk 0 rfl).at_ 3 rfl
  have x4 : W2.cell? ⟨gx, 4, none⟩ = some (.int .u32 e.c) := (hS.blk 0 rfl).at_ 4 rfl
  have c0a : ∀ ob : Obj, (W2.alloc ob).cell? ⟨g, 0, none⟩ = some (.slice a n c) := fun ob => ((hS.blk 1 rfl).alloc ob).one
  have hS2 := (hS.boxF 26 e.cs.toArray).drew
  have hown := hS2.own 3 rfl
  rw [Hn.out] at hown
  have hnew := Reads.of_blk (n := 1) (size := 4) ((Blk.new W2 26 e.cs.toArray).drew) rfl
  have Hown := Lib.hid hown
  have Hm1 : Hid (n + 1 ≤ maxLen) := Lib.hid (by unfold maxLen; omega)
  have Hm2 : Hid ((n + 1) * 12 ≤ 140737488355328) := Lib.hid (by omega)
  have Hnew := Lib.hid hnew
  have HS2 := Lib.hid hS2
  clear hown hnew hS2
  go_region_law
    (first | (refine step_append_any (P := Try.prog) _ rfl (.tmp 29) (.tmp 32) 34 rfl 0 26 i26 _ 4 12 Try.underlying34 hI.out Hz0.out Hz1.out Hz2.out rfl (Nat.succ_pos 3) (.slice a n c) n (evsC ins) rfl Hown.out (W2.heap.size + 1) (some ⟨W2.heap.size, 0, none⟩) 1 1 e.cs rfl Hnew.out (ev_one e) Hm1.out Hm2.out (Nat.zero_le _) ?_; intro v1 w3 hown3 hg3 hat3; obtain ⟨a1, c1', rfl, -, -⟩ := own_slice hown3; have hS3 := (HS2.out.pushed 3 rfl hown3 hg3 hat3).tail; have d0 := (hS3.blk 1 rfl).one; have f0 := (hS3.blk 1 rfl).frozen 0; clear hown3 hg3 hat3))
  all_goals
    have hS4 := hS3.put 1 rfl 0 (.slice a1 (n + 1) c1')
    clear hS3 d0 f0 x0 x1 x2 x3 x4 y0 c0a
    generalize w3.setCell ⟨g, 0, none⟩ (.slice a1 (n + 1) c1') = w4 at hS4 ⊢
    go_wp2_with fail
    go_ret2
    refine ⟨rfl, Sep.closeR (v := .slice a1 (n + 1) c1') ?_⟩
    rw [List.length_append, evsC_snoc, Hn.out]
    exact hS4.tail
theorem xtake_any {w0 w : World} {g : Nat} {ins : List Ev} {L : List Asn} (s : Int) (e : Ev) (h0 : 0 ≤ s) (h2 : s < 4294967296) (hn : ins.length < 1000000) (i : Nat) (hi : L[i]? = some (YAt g ins)) (hS : Sep w0 w L) :
    Calls Try.prog 18 #[.pointer (some ⟨g, 0, none⟩), numV s e] w fun en w' => en = .returned (.tuple #[.bool (takeB ins.length s), .int .i64 (takeE ins.length s)]) ∧ Sep w0 w' (L.set i (YAt g (if takeB ins.length s = true then ins ++ [e] else ins))) := by
  by_cases h : s = (ins.length : Int) + 1
  · subst h
    have hb : takeB ins.length ((ins.length : Int) + 1) = true := decide_eq_true rfl
    unfold takeE
    rw [hb, if_neg (by omega), if_pos rfl]
    exact (xtake_new w0 w g ins e _ (hS.pick i hi) hn).mono fun en w' ⟨he, h⟩ => ⟨he, h.back hi⟩
  · have hb : takeB ins.length s = false := decide_eq_false h
    unfold takeE
    rw [hb]
    simp only [Bool.false_eq_true, if_false]
    by_cases h3 : (ins.length : Int) + 1 < s
    · rw [if_pos h3]
      exact (xtake_gap w0 w g ins s e _ (hS.pick i hi) hn h3 h2).mono fun en w' ⟨he, h⟩ => ⟨he, h.back hi⟩
    · rw [if_neg h3]
      exact (xtake_old w0 w g ins s e _ (hS.pick i hi) hn (by omega) h0).mono fun en w' ⟨he, h⟩ => ⟨he, h.back hi⟩
end Go.Proofs.Ytmkmggbafboelaa
