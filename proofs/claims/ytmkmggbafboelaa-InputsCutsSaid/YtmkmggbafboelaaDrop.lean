/- The walks of the queue's Drop and of the gate's Take. -/
import Derived.Test.YtmkmggbafboelaaPut
namespace Go.Proofs.Ytmkmggbafboelaa
open Go.RowKit
theorem drop_over (w0 w : World) (g : Nat) (all : List Ev) (gone : Nat) (m : Int) (M : List Asn) (hS : Sep w0 w (QAt g all gone :: M)) (hm : (all.length : Int) < m) :
    Calls Try.prog 14 #[.pointer (some ⟨g, 0, none⟩), .int .u32 m] w fun en w' => en = .returned (.int .i64 1) ∧ w = w' := by
  obtain ⟨cs, hq, hS⟩ := hS.openP
  have h80 := (hS.blk 0 rfl).at_ 80 hq.given
  obtain ⟨n, hn⟩ : ∃ n, all.length = n := ⟨_, rfl⟩
  rw [hn] at h80 hm
  clear hn hq
  go_enter Try.func14, Try.ntmps14
  go_wp2_with fail
  go_ret
  exact ⟨rfl, rfl⟩
theorem drop_sep {w0 w : World} {g : Nat} {cs : Array Value} {all : List Ev} {gone m k : Nat} {M : List Asn} (hS : Sep w0 w (cell g 31 cs :: M)) (hq : QRep (cs.setIfInBounds 81 (.int .u32 ((max gone m : Nat) : Int))) all (max gone m)) (hk : max gone m = k) :
    Sep w0 (w.setCell ⟨g, 81, none⟩ (.int .u32 (k : Int))) (QAt g all (max gone m) :: M) := by
  rw [hk] at hq ⊢
  exact (hS.put 0 rfl 81 _).closeP hq
theorem drop_in (w0 w : World) (g : Nat) (all : List Ev) (gone m : Nat) (M : List Asn) (hS : Sep w0 w (QAt g all gone :: M)) (hm : m ≤ all.length) :
    Calls Try.prog 14 #[.pointer (some ⟨g, 0, none⟩), .int .u32 (m : Int)] w fun en w' => en = .returned (.int .i64 0) ∧ Sep w0 w' (QAt g all (max gone m) :: M) := by
  obtain ⟨cs, hq, hS⟩ := hS.openP
  have h80 := (hS.blk 0 rfl).at_ 80 hq.given
  have h81 := (hS.blk 0 rfl).at_ 81 hq.away
  have z81 := (hS.blk 0 rfl).frozen 81
  have HQ := Lib.hid (hq.drop m hm)
  obtain ⟨n, hn⟩ : ∃ n, all.length = n := ⟨_, rfl⟩
  rw [hn] at h80 hm
  have hd : decide ((n : Int) < (m : Int)) = false := decide_eq_false (by omega)
  clear hn hq
  go_enter Try.func14, Try.ntmps14
  go_wp2_with fail
  all_goals
    go_ret
    exact ⟨rfl, drop_sep hS HQ.out (by omega)⟩
theorem drop_any {w0 w : World} {g : Nat} {all : List Ev} {gone : Nat} {L : List Asn} (m : Int) (h0 : 0 ≤ m) (i : Nat) (hi : L[i]? = some (QAt g all gone)) (hS : Sep w0 w L) :
    Calls Try.prog 14 #[.pointer (some ⟨g, 0, none⟩), .int .u32 m] w fun en w' => en = .returned (.int .i64 (dropE all m)) ∧ Sep w0 w' (L.set i (QAt g all (dropS all gone m))) := by
  by_cases h : (all.length : Int) < m
  · unfold dropE dropS
    rw [if_pos h, if_pos h]
    refine (drop_over w0 w g all gone m _ (hS.pick i hi) h).mono fun en w' ⟨he, hw⟩ => ⟨he, hw ▸ ?_⟩
    exact (hS.pick i hi).back hi
  · unfold dropE dropS
    rw [if_neg h, if_neg h]
    obtain ⟨k, rfl⟩ : ∃ k : Nat, m = (k : Int) := ⟨m.toNat, by omega⟩
    exact (drop_in w0 w g all gone k _ (hS.pick i hi) (by omega)).mono fun en w' ⟨he, h⟩ => ⟨he, h.back hi⟩
theorem drop_nil (m : Int) (w : World) : Calls Try.prog 14 #[.pointer none, .int .u32 m] w fun en w' => en = .returned (.int .i64 8) ∧ w = w' := by
  go_enter Try.func14, Try.ntmps14
  go_wp2_with fail
  go_ret
  exact ⟨rfl, rfl⟩
theorem take_nil (s : Int) (e : Ev) (w : World) : Calls Try.prog 12 #[.pointer none, numV s e] w fun en w' => en = .returned (.tuple #[.bool false, .int .i64 8]) ∧ Below w.heap.size w w' := by
  go_enter Try.func12, Try.ntmps12
  go_wp2_with fail
  go_ret2
  exact ⟨rfl, (Below.refl _ _).alloc (Nat.le_refl _) _⟩
theorem take_old (w0 w : World) (g n : Nat) (s : Int) (e : Ev) (M : List Asn) (hS : Sep w0 w (GAt g n :: M)) (hs : s ≤ (n : Int)) :
    Calls Try.prog 12 #[.pointer (some ⟨g, 0, none⟩), numV s e] w fun en w' => en = .returned (.tuple #[.bool false, .int .i64 0]) ∧ Sep w0 w' (GAt g n :: M) := by
  go_enter Try.func12, Try.ntmps12
  go_wp2_with fail
  obtain ⟨W, hW, hS⟩ := hS.boxedF 28 (numCs s e).toArray
  have hW' : w.alloc (.cells #[.int .u32 s, .int .u8 e.k, .int .u16 e.x, .int .u16 e.y, .int .u32 e.c] 28) = W := hW
  rw [hW']
  clear hW hW'
  generalize w.heap.size = gx at hS ⊢
  have x0 : W.cell? ⟨gx, 0, none⟩ = some (.int .u32 s) := (hS.blk 0 rfl).at_ 0 rfl
  have y0 : W.cell? ⟨g, 0, none⟩ = some (.int .u32 (n : Int)) := (hS.blk 1 rfl).one
  have hd : decide (s ≤ (n : Int)) = true := decide_eq_true hs
  go_quiet (fail)
  go_wp2_with fail
  go_ret2
  exact ⟨rfl, (hS.drewN nq).tail⟩
theorem take_gap (w0 w : World) (g n : Nat) (s : Int) (e : Ev) (M : List Asn) (hS : Sep w0 w (GAt g n :: M)) (hs : (n : Int) + 1 < s) (hs2 : s < 4294967296) :
    Calls Try.prog 12 #[.pointer (some ⟨g, 0, none⟩), numV s e] w fun en w' => en = .returned (.tuple #[.bool false, .int .i64 250]) ∧ Sep w0 w' (GAt g n :: M) := by
  go_enter Try.func12, Try.ntmps12
  go_wp2_with fail
  obtain ⟨W, hW, hS⟩ := hS.boxedF 28 (numCs s e).toArray
  have hW' : w.alloc (.cells #[.int .u32 s, .int .u8 e.k, .int .u16 e.x, .int .u16 e.y, .int .u32 e.c] 28) = W := hW
  rw [hW']
  clear hW hW'
  generalize w.heap.size = gx at hS ⊢
  have x0 : W.cell? ⟨gx, 0, none⟩ = some (.int .u32 s) := (hS.blk 0 rfl).at_ 0 rfl
  have y0 : W.cell? ⟨g, 0, none⟩ = some (.int .u32 (n : Int)) := (hS.blk 1 rfl).one
  have hd : decide (s ≤ (n : Int)) = false := decide_eq_false (by omega)
  have hw : IntKind.u32.wrap (s - (n : Int)) = s - (n : Int) := by simp [IntKind.wrap, IntKind.signed, IntKind.bits]; omega
  have hd2 : decide (1 < s - (n : Int)) = true := decide_eq_true (by omega)
  go_quiet (fail)
  replace hS := hS.drewN nq
  clear x0 y0
  generalize W.drewN nq = W1 at hS ⊢
  have x0 : W1.cell? ⟨gx, 0, none⟩ = some (.int .u32 s) := (hS.blk 0 rfl).at_ 0 rfl
  have y0 : W1.cell? ⟨g, 0, none⟩ = some (.int .u32 (n : Int)) := (hS.blk 1 rfl).one
  go_wp2_with fail
  go_quiet (fail)
  replace hS := hS.drewN nq
  clear x0 y0
  generalize W1.drewN nq = W2 at hS ⊢
  have x0 : W2.cell? ⟨gx, 0, none⟩ = some (.int .u32 s) := (hS.blk 0 rfl).at_ 0 rfl
  go_wp2_with fail
  go_ret2
  exact ⟨rfl, hS.tail⟩
theorem take_new (w0 w : World) (g n : Nat) (e : Ev) (M : List Asn) (hS : Sep w0 w (GAt g n :: M)) :
    Calls Try.prog 12 #[.pointer (some ⟨g, 0, none⟩), numV ((n : Int) + 1) e] w fun en w' => en = .returned (.tuple #[.bool true, .int .i64 0]) ∧ Sep w0 w' (GAt g (n + 1) :: M) := by
  obtain ⟨s, hs⟩ : ∃ s : Int, (n : Int) + 1 = s := ⟨_, rfl⟩
  rw [hs]
  have Hs := Lib.hid hs
  go_enter Try.func12, Try.ntmps12
  go_wp2_with fail
  obtain ⟨W, hW, hS⟩ := hS.boxedF 28 (numCs s e).toArray
  have hW' : w.alloc (.cells #[.int .u32 s, .int .u8 e.k, .int .u16 e.x, .int .u16 e.y, .int .u32 e.c] 28) = W := hW
  rw [hW']
  clear hW hW'
  generalize w.heap.size = gx at hS ⊢
  have x0 : W.cell? ⟨gx, 0, none⟩ = some (.int .u32 s) := (hS.blk 0 rfl).at_ 0 rfl
  have y0 : W.cell? ⟨g, 0, none⟩ = some (.int .u32 (n : Int)) := (hS.blk 1 rfl).one
  have hd : decide (s ≤ (n : Int)) = false := decide_eq_false (by omega)
  have hw : IntKind.u32.wrap (s - (n : Int)) = s - (n : Int) := by simp [IntKind.wrap, IntKind.signed, IntKind.bits]; omega
  have hd2 : decide (1 < s - (n : Int)) = false := decide_eq_false (by omega)
  clear hs
  go_quiet (fail)
  replace hS := hS.drewN nq
  clear x0 y0
  generalize W.drewN nq = W1 at hS ⊢
  have x0 : W1.cell? ⟨gx, 0, none⟩ = some (.int .u32 s) := (hS.blk 0 rfl).at_ 0 rfl
  have y0 : W1.cell? ⟨g, 0, none⟩ = some (.int .u32 (n : Int)) := (hS.blk 1 rfl).one
  go_wp2_with fail
  go_quiet (fail)
  replace hS := hS.drewN nq
  clear x0 y0
  generalize W1.drewN nq = W2 at hS ⊢
  have x0 : W2.cell? ⟨gx, 0, none⟩ = some (.int .u32 s) := (hS.blk 0 rfl).at_ 0 rfl
  have y0 := (hS.blk 1 rfl).one
  have z0 := (hS.blk 1 rfl).frozen 0
  go_wp2_with fail
  go_ret2
  refine ⟨rfl, ?_⟩
  have h := (hS.put 1 rfl 0 (.int .u32 s)).tail
  rw [← Hs.out] at h ⊢
  exact h
theorem take_any {w0 w : World} {g n : Nat} {L : List Asn} (s : Int) (e : Ev) (h2 : s < 4294967296) (i : Nat) (hi : L[i]? = some (GAt g n)) (hS : Sep w0 w L) :
    Calls Try.prog 12 #[.pointer (some ⟨g, 0, none⟩), numV s e] w fun en w' => en = .returned (.tuple #[.bool (takeB n s), .int .i64 (takeE n s)]) ∧ Sep w0 w' (L.set i (GAt g (if takeB n s = true then n + 1 else n))) := by
  by_cases h : s = (n : Int) + 1
  · subst h
    have hb : takeB n ((n : Int) + 1) = true := decide_eq_true rfl
    unfold takeE
    rw [hb, if_neg (by omega), if_pos rfl]
    exact (take_new w0 w g n e _ (hS.pick i hi)).mono fun en w' ⟨he, h⟩ => ⟨he, h.back hi⟩
  · have hb : takeB n s = false := decide_eq_false h
    unfold takeE
    rw [hb]
    simp only [Bool.false_eq_true, if_false]
    by_cases h3 : (n : Int) + 1 < s
    · rw [if_pos h3]
      exact (take_gap w0 w g n s e _ (hS.pick i hi) h3 h2).mono fun en w' ⟨he, h⟩ => ⟨he, h.back hi⟩
    · rw [if_neg h3]
      exact (take_old w0 w g n s e _ (hS.pick i hi) (by omega)).mono fun en w' ⟨he, h⟩ => ⟨he, h.back hi⟩
end Go.Proofs.Ytmkmggbafboelaa
