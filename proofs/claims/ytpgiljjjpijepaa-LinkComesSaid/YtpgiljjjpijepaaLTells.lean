/- What a link tells of itself; New; Write. -/
import Derived.Test.YtpgiljjjpijepaaLBase
namespace Go.Proofs.Ytpgiljjjpijepaa
open Go.RowKit
section
variable {w0 w w' : World} {L M : List Asn}
theorem Sep.setAt {A B : Asn} {i : Nat} (h : Sep w0 w (B :: L.eraseIdx i)) (hi : L[i]? = some A) : Sep w0 w (L.set i B) := h.back hi
/-- a link without anything -/
def newL (e : Nat) : LS := ⟨[], 0, 0, 0, 0, [], 0, false, e⟩
theorem new_any (e : Nat) (hS : Sep w0 w L) : Calls Try.prog 10 #[.int .u32 (e : Int)] w fun en w' => ∃ g, en = .returned (.pointer (some ⟨g, 0, none⟩)) ∧ Sep w0 w' (LinkAt g (newL e) :: L) := by
  obtain ⟨W1, hW1, S1⟩ := hS.boxedF 76 ((newL e).cs (.slice none 0 0) (.slice none 0 0))
  have HS := Lib.hid S1
  have hW : w.alloc (.cells #[.slice none 0 0, .int .u64 0, .int .u64 0, .int .u64 0, .int .i64 0, .slice none 0 0, .int .u64 0, .bool false, .int .u32 (e : Int)] 76) = W1 := hW1
  clear S1 hW1
  go_enter Try.func10, Try.ntmps10
  go_wp2_with fail
  go_ret
  refine ⟨_, rfl, Sep.closeL (vw := .slice none 0 0) (vg := .slice none 0 0) ?_⟩
  exact (HS.out.nilB.nilB).perm ((List.Perm.cons _ (List.Perm.swap _ _ _)).trans (List.Perm.swap _ _ _))
theorem epoch_any {g : Nat} {s : LS} (i : Nat) (hi : L[i]? = some (LinkAt g s)) (hS : Sep w0 w L) : Calls Try.prog 31 #[.pointer (some ⟨g, 0, none⟩)] w fun en w' => en = .returned (.int .u32 (s.epoch : Int)) ∧ w = w' := by
  obtain ⟨vw, vg, S⟩ := (hS.pick i hi).openL
  have c8 : w.cell? ⟨g, 8, none⟩ = some (.int .u32 (s.epoch : Int)) := (S.blk 0 rfl).at_ 8 rfl
  clear S hS hi
  go_enter Try.func31, Try.ntmps31
  go_wp2_with fail
  go_ret
  exact ⟨rfl, rfl⟩
theorem peek_any {g : Nat} {s : LS} (i : Nat) (hi : L[i]? = some (LinkAt g s)) (hS : Sep w0 w L) : Calls Try.prog 15 #[.pointer (some ⟨g, 0, none⟩)] w fun en w' => en = .returned (.int .i64 (s.got.length : Int)) ∧ w = w' := by
  obtain ⟨vw, vg, S⟩ := (hS.pick i hi).openL
  obtain ⟨A, c, hv, -⟩ := S.bform 2 rfl
  have c5 : w.cell? ⟨g, 5, none⟩ = some (.slice A s.got.length c) := by rw [← hv]; exact (S.blk 0 rfl).at_ 5 rfl
  generalize s.got.length = n at c5 ⊢
  clear S hS hi hv
  go_enter Try.func15, Try.ntmps15
  go_wp2_with fail
  go_ret
  exact ⟨rfl, rfl⟩
theorem idle_any {g : Nat} {s : LS} (i : Nat) (hi : L[i]? = some (LinkAt g s)) (hS : Sep w0 w L) : Calls Try.prog 14 #[.pointer (some ⟨g, 0, none⟩)] w fun en w' => en = .returned (.bool (s.wait.length == 0 && !s.owes)) ∧ w = w' := by
  obtain ⟨vw, vg, S⟩ := (hS.pick i hi).openL
  obtain ⟨A, c, hv, -⟩ := S.bform 1 rfl
  have c0 : w.cell? ⟨g, 0, none⟩ = some (.slice A s.wait.length c) := by rw [← hv]; exact (S.blk 0 rfl).at_ 0 rfl
  have c7 : w.cell? ⟨g, 7, none⟩ = some (.bool s.owes) := (S.blk 0 rfl).at_ 7 rfl
  generalize s.wait.length = n at c0 ⊢
  generalize s.owes = o at c7 ⊢
  clear S hS hi hv
  cases h0 : (n == 0) with
  | true =>
    have h1 : ((n : Int) == 0) = true := by simpa using h0
    go_enter Try.func14, Try.ntmps14
    go_wp2_with fail
    go_ret
    exact ⟨by cases o <;> rfl, rfl⟩
  | false =>
    have h1 : ((n : Int) == 0) = false := by simpa using h0
    go_enter Try.func14, Try.ntmps14
    go_wp2_with fail
    go_ret
    exact ⟨rfl, rfl⟩
theorem sizes_any {g : Nat} {s : LS} (i : Nat) (hi : L[i]? = some (LinkAt g s)) (hS : Sep w0 w L) : Calls Try.prog 24 #[.pointer (some ⟨g, 0, none⟩)] w fun en w' => en = .returned (.tuple #[.int .i64 (s.wait.length : Int), .int .i64 (s.got.length : Int)]) ∧ ∃ q, w' = w.drewN q := by
  obtain ⟨vw, vg, S⟩ := (hS.pick i hi).openL
  obtain ⟨A, c, hv, -⟩ := S.bform 1 rfl
  obtain ⟨B, d, hu, -⟩ := S.bform 2 rfl
  have c0 : w.cell? ⟨g, 0, none⟩ = some (.slice A s.wait.length c) := by rw [← hv]; exact (S.blk 0 rfl).at_ 0 rfl
  have c5 : w.cell? ⟨g, 5, none⟩ = some (.slice B s.got.length d) := by rw [← hu]; exact (S.blk 0 rfl).at_ 5 rfl
  generalize s.wait.length = n at c0 ⊢
  generalize s.got.length = m at c5 ⊢
  clear S hS hi hv hu
  go_enter Try.func24, Try.ntmps24
  go_upto_region 3 with (fail)
  go_quiet (fail)
  go_wp2_with fail
  go_ret2
  exact ⟨rfl, _, rfl⟩
/-! of nil -/
theorem epoch_nil (w : World) : Calls Try.prog 31 #[.pointer none] w fun en w' => en = .returned (.int .u32 0) ∧ w = w' := by
  go_enter Try.func31, Try.ntmps31
  go_wp2_with fail
  go_ret
  exact ⟨rfl, rfl⟩
theorem peek_nil (w : World) : Calls Try.prog 15 #[.pointer none] w fun en w' => en = .returned (.int .i64 0) ∧ w = w' := by
  go_enter Try.func15, Try.ntmps15
  go_wp2_with fail
  go_ret
  exact ⟨rfl, rfl⟩
theorem idle_nil (w : World) : Calls Try.prog 14 #[.pointer none] w fun en w' => en = .returned (.bool true) ∧ w = w' := by
  go_enter Try.func14, Try.ntmps14
  go_wp2_with fail
  go_ret
  exact ⟨rfl, rfl⟩
theorem sizes_nil (w : World) : Calls Try.prog 24 #[.pointer none] w fun en w' => en = .returned (.tuple #[.int .i64 0, .int .i64 0]) ∧ w = w' := by
  go_enter Try.func24, Try.ntmps24
  go_wp2_with fail
  go_ret2
  exact ⟨rfl, rfl⟩
theorem write_nil (v : Value) (w : World) : Calls Try.prog 11 #[.pointer none, v] w fun en w' => en = .returned (.int .i64 8) ∧ w = w' := by
  go_enter Try.func11, Try.ntmps11
  go_wp2_with fail
  go_ret
  exact ⟨rfl, rfl⟩
end
end Go.Proofs.Ytpgiljjjpijepaa
