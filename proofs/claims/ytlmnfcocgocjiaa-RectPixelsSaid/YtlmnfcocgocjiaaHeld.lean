/- Rectangles in boxes of the call's own, held through a region whose order is drawn. -/
import Derived.Test.YtlmnfcocgocjiaaSpan
import Derived.Deep.RegionHeld3
import Derived.Deep.DeepCutAuto
namespace Go.Proofs.Ytlmnfcocgocjiaa
open Go.RowKit
abbrev Rc.arr (r : Rc) : Array Value := #[.int .i64 r.x, .int .i64 r.y, .int .i64 r.w, .int .i64 r.h]
/-- the i-th box behind the world w0 holds the i-th rectangle; nothing below has turned -/
structure Boxed1 (w0 : World) (a : Rc) (w : World) : Prop where
  a : Blk w w0.heap.size 23 a.arr
  bel : Below w0.heap.size w0 w
structure Boxed2 (w0 : World) (a b : Rc) (w : World) : Prop where
  a : Blk w w0.heap.size 23 a.arr
  b : Blk w (w0.heap.size + 1) 23 b.arr
  bel : Below w0.heap.size w0 w
structure Boxed3 (w0 : World) (a b c : Rc) (w : World) : Prop where
  a : Blk w w0.heap.size 23 a.arr
  b : Blk w (w0.heap.size + 1) 23 b.arr
  c : Blk w (w0.heap.size + 1 + 1) 23 c.arr
  bel : Below w0.heap.size w0 w
section
variable {w0 w w' : World} {a b c : Rc}
theorem Boxed1.next (h : Boxed1 w0 a w) (k : Below w.heap.size w w') : Boxed1 w0 a w' := ⟨h.a.keep k, below_next h.bel h.bel.size k⟩
theorem Boxed2.next (h : Boxed2 w0 a b w) (k : Below w.heap.size w w') : Boxed2 w0 a b w' := ⟨h.a.keep k, h.b.keep k, below_next h.bel h.bel.size k⟩
theorem Boxed3.next (h : Boxed3 w0 a b c w) (k : Below w.heap.size w w') : Boxed3 w0 a b c w' := ⟨h.a.keep k, h.b.keep k, h.c.keep k, below_next h.bel h.bel.size k⟩
theorem Boxed1.drew (h : Boxed1 w0 a w) : Boxed1 w0 a w.drew := ⟨h.a.drew, h.bel.drew⟩
theorem Boxed2.drew (h : Boxed2 w0 a b w) : Boxed2 w0 a b w.drew := ⟨h.a.drew, h.b.drew, h.bel.drew⟩
theorem Boxed3.drew (h : Boxed3 w0 a b c w) : Boxed3 w0 a b c w.drew := ⟨h.a.drew, h.b.drew, h.c.drew, h.bel.drew⟩
theorem boxed1 (w : World) (a : Rc) : ∃ W, w.alloc (.cells a.arr 23) = W ∧ Boxed1 w a W := by
  obtain ⟨W, e, x, bel, _⟩ := boxes1 w a.arr 23; exact ⟨W, e, x, bel⟩
theorem boxed2 (w : World) (a b : Rc) : ∃ W, (w.alloc (.cells a.arr 23)).alloc (.cells b.arr 23) = W ∧ Boxed2 w a b W := by
  obtain ⟨W, e, x, y, bel, _⟩ := boxes2 w a.arr b.arr 23 23; exact ⟨W, e, x, y, bel⟩
theorem boxed3 (w : World) (a b c : Rc) : ∃ W, ((w.alloc (.cells a.arr 23)).alloc (.cells b.arr 23)).alloc (.cells c.arr 23) = W ∧ Boxed3 w a b c W := by
  obtain ⟨W, e, x, y, z, bel, _⟩ := boxes3 w a.arr b.arr c.arr 23 23 23; exact ⟨W, e, x, y, z, bel⟩
end
/-- a rectangle read out of its box, in whatever world holds it -/
theorem load_rc {ops : Array Oper} {S : World → Prop} {o : Oper} {a : Act} {t : Tmp} {g : Nat} {r : Rc} (hw : Region.wanted o (yielded ops a.tmps) = true) (ho : o.op = .load 23 (.tmp t))
    (hx : a.eval (.tmp t) = .pointer (some ⟨g, 0, none⟩)) (h : ∀ w, S w → Blk w g 23 r.arr) : YieldsIf Try.prog ops S o r.v a := by
  refine .inl ⟨hw, fun w hS => ?_⟩
  have hr : (loadVar 23 ⟨g, 0, none⟩).run Try.prog w = .ok r.v w := run_loadVar_row w g 23 23 r.arr (0, 0) _ (h w hS) Try.underlying23 rfl (by kernel_rfl)
  unfold execOp
  simp only [ho, hx, Instr.loadAt, Instr.sureAddr, Sem.run_bind, Sem.run_pure, Result.andThen_ok, hr]
/-- an operation that comes up and is not wanted -/
theorem skip_op {ops : Array Oper} {S : World → Prop} {o : Oper} {a : Act} (hw : Region.wanted o (yielded ops a.tmps) = false) : YieldsIf Try.prog ops S o undef a := .inr ⟨hw, rfl⟩
/-- an operation whose run hangs on no world -/
theorem pure_op {ops : Array Oper} {S : World → Prop} {o : Oper} {a : Act} {v : Value} (hw : Region.wanted o (yielded ops a.tmps) = true) (h : ∀ w, (execOp a.eval o).run Try.prog w = .ok (.value v) w) : YieldsIf Try.prog ops S o v a := .inl ⟨hw, fun w _ => h w⟩
end Go.Proofs.Ytlmnfcocgocjiaa
