/- Calls on no net. -/
import Derived.Test.YtmacmhlimdaemaaNWakes
namespace Go.Proofs.Ytmacmhlimdaemaa.Net
open Go.RowKit Go.Proofs.YtmacmhlimdaemaaW.PrintWords Go.Proofs.Ytmacmhlimdaemaa.R Go.Proofs.Ytmacmhlimdaemaa.Pkt Go.Proofs.Ytmacmhlimdaemaa.Ext
section
variable {w0 w w' : World} {L M : List Asn}
theorem with_nil (j : Int) (fn : Value) (w : World) : Calls Try.prog 54 #[.pointer none, .int .i64 j, fn] w fun en w' => en = .returned (.int .i64 8) ∧ w = w' := by
  go_enter Try.func54, Try.ntmps54
  go_wp2_with fail
  go_ret
  exact ⟨rfl, rfl⟩
theorem len_nil (w : World) : Calls Try.prog 39 #[.pointer none] w fun en w' => en = .returned (.int .i64 0) ∧ w = w' := by
  go_enter Try.func39, Try.ntmps39
  go_wp2_with fail
  go_ret
  exact ⟨rfl, rfl⟩
theorem clashed_nil (w : World) : Calls Try.prog 40 #[.pointer none] w fun en w' => en = .returned (.int .i64 0) ∧ w = w' := by
  go_enter Try.func40, Try.ntmps40
  go_wp2_with fail
  go_ret
  exact ⟨rfl, rfl⟩
theorem send_nil (f : Fl) (A : Option Addr) (n c : Nat) (hS : Sep w0 w L) : Calls Try.prog 32 #[.pointer none, .agg #[.int .i64 f.c, .bool f.d, .slice A n c]] w fun en w' => en = .returned (.int .i64 8) ∧ Sep w0 w' L := by
  obtain ⟨W1, hW1, S1⟩ := hS.boxedF 48 #[.int .i64 f.c, .bool f.d, .slice A n c]
  go_enter Try.func32, Try.ntmps32
  go_wp2_with fail
  go_ret
  exact ⟨rfl, S1.tail⟩
theorem double_nil (j : Int) (hS : Sep w0 w L) : Calls Try.prog 35 #[.pointer none, .int .i64 j] w fun en w' => en = .returned (.int .i64 8) ∧ Sep w0 w' L := by
  obtain ⟨W1, hW1, S1⟩ := hS.boxedF 45 #[.pointer none]
  have p0 := (S1.blk 0 rfl).at_ 0 rfl
  go_enter Try.func35, Try.ntmps35
  go_wp2_with fail
  refine (with_nil _ _ _).mono ?_
  rintro en w2 ⟨rfl, rfl⟩
  go_wp2_with fail
  go_ret
  exact ⟨rfl, S1.tail⟩
theorem take_nil (j : Int) (hS : Sep w0 w L) :
    Calls Try.prog 33 #[.pointer none, .int .i64 j] w fun en w' => en = .returned (.tuple #[.agg #[.int .i64 0, .bool false, .slice none 0 0], .int .i64 8]) ∧ Sep w0 w' L := by
  obtain ⟨W1, hW1, S1⟩ := hS.boxedF 45 #[.pointer none]
  obtain ⟨W2, hW2, S2⟩ := S1.boxedF 3 #[.int .i64 j]
  obtain ⟨W3, hW3, S3⟩ := S2.boxedF 48 #[.int .i64 0, .bool false, .slice none 0 0]
  obtain ⟨W4, hW4, S4⟩ := S3.boxedF 48 #[.int .i64 0, .bool false, .slice none 0 0]
  have p0 := (S4.blk 3 rfl).at_ 0 rfl
  have q0 := (S4.blk 2 rfl).at_ 0 rfl
  have o0 := (S4.blk 0 rfl).at_ 0 rfl
  have o1 := (S4.blk 0 rfl).at_ 1 rfl
  have o2 := (S4.blk 0 rfl).at_ 2 rfl
  have HB := Lib.hid (S4.blk 1 rfl)
  have S8 := S4.setRow 1 rfl #[.int .i64 0, .bool false, .slice none 0 0]
  obtain ⟨W9, hW9⟩ : ∃ W9, W4.setRow W2.heap.size #[.int .i64 0, .bool false, .slice none 0 0] = W9 := ⟨_, rfl⟩
  rw [hW9] at S8
  have D := Lib.hid (S8.blk 1 rfl)
  have S9 := Lib.hid (S8.drop 0 |>.drop 0 |>.drop 0 |>.drop 0)
  clear S1 S2 S3 S4 S8 hS
  go_enter Try.func33, Try.ntmps33
  go_wp2_with fail
  refine (with_nil _ _ _).mono ?_
  rintro en w5 ⟨rfl, rfl⟩
  go_wp2_with (
    refine wpList_store_row rfl 48 (.tmp 4) (.tmp 12) rfl W2.heap.size #[.int .i64 0, .bool false, .slice none 0 0] rfl rfl 48 _ HB.out size48 rfl (fl_one _ _ _ _ _) ?_
    rw [hW9])
  exact bodyPost_ret (ret33 _ W2.heap.size _ rfl rfl D.out) rfl ⟨rfl, S9.out⟩
theorem lose_nil (j : Int) (hS : Sep w0 w L) : Calls Try.prog 34 #[.pointer none, .int .i64 j] w fun en w' => en = .returned (.int .i64 8) ∧ Sep w0 w' L := by
  go_enter Try.func34, Try.ntmps34
  go_wp2_with fail
  refine (take_nil j hS).mono ?_
  rintro en w1 ⟨rfl, S1⟩
  obtain ⟨W2, hW2, S2⟩ := S1.boxedF 48 #[.int .i64 0, .bool false, .slice none 0 0]
  have HB := Lib.hid (S2.blk 0 rfl)
  have S3 := S2.setRow 0 rfl #[.int .i64 0, .bool false, .slice none 0 0]
  obtain ⟨W3, hW3⟩ : ∃ W3, W2.setRow w1.heap.size #[.int .i64 0, .bool false, .slice none 0 0] = W3 := ⟨_, rfl⟩
  rw [hW3] at S3
  clear S2
  go_wp2_with (
    refine wpList_store_row rfl 48 (.tmp 5) (.tmp 11) rfl w1.heap.size #[.int .i64 0, .bool false, .slice none 0 0] rfl rfl 48 _ HB.out size48 rfl (fl_one _ _ _ _ _) ?_
    rw [hW3])
  go_ret
  exact ⟨rfl, S3.tail⟩
theorem spoil_nil (j pl by_ : Int) (hS : Sep w0 w L) : Calls Try.prog 46 #[.pointer none, .int .i64 j, .int .i64 pl, .int .u8 by_] w fun en w' => en = .returned (.int .i64 8) ∧ Sep w0 w' L := by
  obtain ⟨W1, hW1, S1⟩ := hS.boxedF 45 #[.pointer none]
  obtain ⟨W2, hW2, S2⟩ := S1.boxedF 3 #[.int .i64 pl]
  obtain ⟨W3, hW3, S3⟩ := S2.boxedF 5 #[.int .u8 by_]
  have p0 := (S3.blk 2 rfl).at_ 0 rfl
  have S4 := Lib.hid S3.tail.tail.tail
  clear S1 S2 S3 hS
  go_enter Try.func46, Try.ntmps46
  go_wp2_with fail
  refine (with_nil _ _ _).mono ?_
  rintro en w2 ⟨rfl, rfl⟩
  go_wp2_with fail
  go_ret
  exact ⟨rfl, S4.out⟩
theorem flights_nil (w : World) : Calls Try.prog 36 #[.pointer none] w fun en w' => en = .returned (.slice none 0 0) ∧ w = w' := by
  go_enter Try.func36, Try.ntmps36
  go_wp2_with fail
  go_ret
  exact ⟨rfl, rfl⟩
end
end Go.Proofs.Ytmacmhlimdaemaa.Net
