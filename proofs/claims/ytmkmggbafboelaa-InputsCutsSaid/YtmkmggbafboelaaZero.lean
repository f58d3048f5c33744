/- New queues and gates. -/
import Derived.Test.YtmkmggbafboelaaBase
import Derived.Test.YtmkmggbafboelaaRows
namespace Go.Proofs.Ytmkmggbafboelaa
open Go.RowKit
def Z31 : Array Value := ((List.replicate 16 ([Value.int .u32 0, Value.int .u8 0, Value.int .u16 0, Value.int .u16 0, Value.int .u32 0] : List Value)).flatten ++ [Value.int .u32 0, Value.int .u32 0]).toArray
theorem zero31 (w : World) : (zeroValue 31).run Try.prog w = .ok (.agg Z31) w := by kernel_rfl
theorem zero33 (w : World) : (zeroValue 33).run Try.prog w = .ok (.agg #[.int .u32 0]) w := by kernel_rfl
theorem zrep : QRep Z31 [] 0 := QRep.zero (by kernel_rfl) (by kernel_rfl) (by kernel_rfl)
section
variable {w0 w : World} {L : List Asn}
theorem Sep.newQ (h : Sep w0 w L) : ∃ W, w.alloc (.cells Z31 31) = W ∧ Sep w0 W (QAt w.heap.size [] 0 :: L) := ⟨_, rfl, (h.boxF 31 Z31).closeP zrep⟩
theorem Sep.newG (h : Sep w0 w L) : ∃ W, w.alloc (.cells #[.int .u32 0] 33) = W ∧ Sep w0 W (GAt w.heap.size 0 :: L) := ⟨_, rfl, h.boxF 33 #[.int .u32 0]⟩
theorem Sep.newX (h : Sep w0 w L) : ∃ W, w.alloc (.cells #[.slice none 0 0, .int .i64 0] 52) = W ∧ Sep w0 W (XAt w.heap.size [] 0 :: L) :=
  ⟨_, rfl, Sep.closeR (v := .slice none 0 0) (((h.boxF 52 #[.slice none 0 0, .int .i64 0]).nilRowF 26 4).swap)⟩
theorem Sep.newY (h : Sep w0 w L) : ∃ W, w.alloc (.cells #[.slice none 0 0] 55) = W ∧ Sep w0 W (YAt w.heap.size [] :: L) :=
  ⟨_, rfl, Sep.closeR (v := .slice none 0 0) (((h.boxF 55 #[.slice none 0 0]).nilRowF 26 4).swap)⟩
end
end Go.Proofs.Ytmkmggbafboelaa
