/- The walk of NetNil. -/
import Derived.Test.YtmacmhlimdaemaaNNil
namespace Go.Proofs.Ytmacmhlimdaemaa.Net
open Go.RowKit Go.Proofs.YtmacmhlimdaemaaW.PrintWords Go.Proofs.Ytmacmhlimdaemaa.R Go.Proofs.Ytmacmhlimdaemaa.Pkt Go.Proofs.Ytmacmhlimdaemaa.Ext
set_option maxRecDepth 100000 in
theorem netNil_any (d i pl cl by_ : Int) (dn : Bool) (A : Option Addr) (n c : Nat) (w : World) : Calls Try.prog 17 #[.agg #[.int .i64 d, .int .i64 i, .int .i64 pl, .int .i64 cl, .bool dn, .slice A n c, .int .u8 by_]] w fun e w' => e = .returned (.bool true) ∧ Below w.heap.size w w' := by
  obtain ⟨W1, hW1, S1⟩ := (Sep.start w).boxedF 50 #[.int .i64 d, .int .i64 i, .int .i64 pl, .int .i64 cl, .bool dn, .slice A n c, .int .u8 by_]
  have a1 := (S1.blk 0 rfl).at_ 1 rfl
  have a2 := (S1.blk 0 rfl).at_ 2 rfl
  have a3 := (S1.blk 0 rfl).at_ 3 rfl
  have a4 := (S1.blk 0 rfl).at_ 4 rfl
  have a5 := (S1.blk 0 rfl).at_ 5 rfl
  have a6 := (S1.blk 0 rfl).at_ 6 rfl
  go_enter Try.func17, Try.ntmps17
  go_wp2_with fail
  clear a1 a2 a3 a4 a5 a6
  refine (take_nil i S1).mono ?_
  rintro e w2 ⟨rfl, S2⟩
  obtain ⟨W3, hW3, S3⟩ := S2.boxedF 48 #[.int .i64 0, .bool false, .slice none 0 0]
  have HB := Lib.hid (S3.blk 0 rfl)
  have S4 := S3.setRow 0 rfl #[.int .i64 0, .bool false, .slice none 0 0]
  obtain ⟨W4, hW4⟩ : ∃ W4, W3.setRow w2.heap.size #[.int .i64 0, .bool false, .slice none 0 0] = W4 := ⟨_, rfl⟩
  rw [hW4] at S4
  clear S2 S3
  have a1 := (S4.blk 1 rfl).at_ 1 rfl
  have a2 := (S4.blk 1 rfl).at_ 2 rfl
  have a3 := (S4.blk 1 rfl).at_ 3 rfl
  have a4 := (S4.blk 1 rfl).at_ 4 rfl
  have a5 := (S4.blk 1 rfl).at_ 5 rfl
  have a6 := (S4.blk 1 rfl).at_ 6 rfl
  go_wp2_with (
    refine wpList_store_row rfl 48 (.tmp 4) (.tmp 11) rfl w2.heap.size #[.int .i64 0, .bool false, .slice none 0 0] rfl rfl 48 _ HB.out size48 rfl (fl_one _ _ _ _ _) ?_
    rw [hW4])
  clear a1 a2 a3 a4 a5 a6
  refine (send_nil ⟨cl, dn, []⟩ A n c S4).mono ?_
  rintro e w5 ⟨rfl, S5⟩
  have t2 := (S5.blk 0 rfl).at_ 2 rfl
  have a1 := (S5.blk 1 rfl).at_ 1 rfl
  have a2 := (S5.blk 1 rfl).at_ 2 rfl
  have a3 := (S5.blk 1 rfl).at_ 3 rfl
  have a4 := (S5.blk 1 rfl).at_ 4 rfl
  have a5 := (S5.blk 1 rfl).at_ 5 rfl
  have a6 := (S5.blk 1 rfl).at_ 6 rfl
  go_wp2_with fail
  clear a1 a2 a3 a4 a5 a6
  refine (lose_nil i S5).mono ?_
  rintro e w6 ⟨rfl, S6⟩
  have a1 := (S6.blk 1 rfl).at_ 1 rfl
  have a2 := (S6.blk 1 rfl).at_ 2 rfl
  have a3 := (S6.blk 1 rfl).at_ 3 rfl
  have a4 := (S6.blk 1 rfl).at_ 4 rfl
  have a5 := (S6.blk 1 rfl).at_ 5 rfl
  have a6 := (S6.blk 1 rfl).at_ 6 rfl
  go_wp2_with fail
  clear a1 a2 a3 a4 a5 a6
  refine (double_nil i S6).mono ?_
  rintro e w7 ⟨rfl, S7⟩
  have a1 := (S7.blk 1 rfl).at_ 1 rfl
  have a2 := (S7.blk 1 rfl).at_ 2 rfl
  have a3 := (S7.blk 1 rfl).at_ 3 rfl
  have a4 := (S7.blk 1 rfl).at_ 4 rfl
  have a5 := (S7.blk 1 rfl).at_ 5 rfl
  have a6 := (S7.blk 1 rfl).at_ 6 rfl
  go_wp2_with fail
  clear a1 a2 a3 a4 a5 a6
  refine (spoil_nil i pl by_ S7).mono ?_
  rintro e w8 ⟨rfl, S8⟩
  go_wp2_with fail
  refine (flights_nil _).mono ?_
  rintro e w9 ⟨rfl, rfl⟩
  go_wp2_with fail
  refine (len_nil _).mono ?_
  rintro e w9 ⟨rfl, rfl⟩
  go_wp2_with fail
  refine (clashed_nil _).mono ?_
  rintro e w9 ⟨rfl, rfl⟩
  go_wp2_with fail
  refine (wakes_any _).mono ?_
  rintro e w9 ⟨rfl, hb9⟩
  go_wp2_with fail
  go_ret
  exact ⟨rfl, (S8.grow hb9).below⟩
end Go.Proofs.Ytmacmhlimdaemaa.Net
