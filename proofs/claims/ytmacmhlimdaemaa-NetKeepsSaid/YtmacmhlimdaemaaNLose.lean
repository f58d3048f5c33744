/- Lose. -/
import Derived.Test.YtmacmhlimdaemaaNTakeAny
namespace Go.Proofs.Ytmacmhlimdaemaa.Net
open Go.RowKit Go.Proofs.YtmacmhlimdaemaaW.PrintWords Go.Proofs.Ytmacmhlimdaemaa.R Go.Proofs.Ytmacmhlimdaemaa.Pkt
section
variable {w0 w w' : World} {L M : List Asn}
theorem lose_any {g : Nat} {fs : List Fl} {k : Int} (j : Int) (hm2 : fs.length ≤ 1000) (i : Nat) (hi : L[i]? = some (NetAt g fs k)) (hS : Sep w0 w L) :
    Calls Try.prog 34 #[.pointer (some ⟨g, 0, none⟩), .int .i64 j] w fun en w' => en = .returned (.int .i64 (takeE fs j)) ∧ Sep w0 w' (L.set i (NetAt g (takeS fs j) k)) := by
  have HT := Lib.hid (take_any j hm2 i hi hS)
  generalize takeF fs j = f at HT
  generalize takeE fs j = e at HT ⊢
  generalize takeS fs j = s at HT ⊢
  clear hS hi
  go_enter Try.func34, Try.ntmps34
  go_wp2_with fail
  refine HT.out.mono ?_
  rintro en w1 ⟨v, rfl, S1⟩
  obtain ⟨a, c, rfl, -, -⟩ := own_slice (own_bytes (i := 0) S1 rfl)
  generalize f.b.length = n at S1 ⊢
  obtain ⟨W2, hW2, S2⟩ := S1.boxedF 48 #[.int .i64 f.c, .bool f.d, .slice a n c]
  clear S1
  go_wp2_with (
    refine wpList_store_row rfl 48 (.tmp 5) (.tmp 11) rfl w1.heap.size #[.int .i64 f.c, .bool f.d, .slice a n c] rfl rfl 48 _ (Blk.new _ _ _) size48 rfl (fl_one _ _ _ _ _) ?_
    rw [World.setRow_alloc_new, hW2]
    clear hW2)
  go_ret
  exact ⟨rfl, S2.tail.tail⟩
end
end Go.Proofs.Ytmacmhlimdaemaa.Net
