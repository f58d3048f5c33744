/- Two rectangles held against each other: their four numbers are. -/
import Derived.Test.YtlmnfcocgocjiaaAnd
namespace Go.Proofs.Ytlmnfcocgocjiaa
open Go.RowKit
def eqR (a b : Rc) : Bool := a.x == b.x && (a.y == b.y && (a.w == b.w && a.h == b.h))
theorem run_eqR (p q : Rc) (w : World) : (binOp .eql 23 p.v q.v).run Try.prog w = .ok (.bool (eqR p q)) w := by
  unfold eqR
  cases hx : (p.x == q.x) with
  | false => simp [go_sem, hx]
  | true =>
    cases hy : (p.y == q.y) with
    | false => simp [go_sem, hx, hy]
    | true =>
      cases hw : (p.w == q.w) with
      | false => simp [go_sem, hx, hy, hw]
      | true =>
        cases hh : (p.h == q.h) with
        | false => simp [go_sem, hx, hy, hw, hh]
        | true => simp [go_sem, hx, hy, hw, hh]
theorem run_neR (p q : Rc) (w : World) : (binOp .neq 23 p.v q.v).run Try.prog w = .ok (.bool (!eqR p q)) w := by
  unfold eqR
  cases hx : (p.x == q.x) with
  | false => simp [go_sem, hx]
  | true =>
    cases hy : (p.y == q.y) with
    | false => simp [go_sem, hx, hy]
    | true =>
      cases hw : (p.w == q.w) with
      | false => simp [go_sem, hx, hy, hw]
      | true =>
        cases hh : (p.h == q.h) with
        | false => simp [go_sem, hx, hy, hw, hh]
        | true => simp [go_sem, hx, hy, hw, hh]
end Go.Proofs.Ytlmnfcocgocjiaa
