/- rect.span: where two ways begin and end. -/
import Derived.Test.YtlmnfcocgocjiaaLeaves
import Derived.Lib.MinMax
namespace Go.Proofs.Ytlmnfcocgocjiaa
open Go.RowKit
structure Rc where
  x : Int
  y : Int
  w : Int
  h : Int
abbrev Rc.v (r : Rc) : Value := RV r.x r.y r.w r.h
abbrev Rc.good (r : Rc) : Bool := goodB r.x r.y r.w r.h
abbrev Rc.empty (r : Rc) : Bool := emptyB r.x r.y r.w r.h
abbrev Rc.area (r : Rc) : Int := areaV r.x r.y r.w r.h
abbrev Rc.has (r : Rc) (x y : Int) : Bool := hasB r.x r.y r.w r.h x y
def zeroR : Rc := ⟨0, 0, 0, 0⟩
abbrev maxV (a b : Int) : Int := max a b
abbrev minV (a b : Int) : Int := min a b
theorem most_any (a b : Int) (w : World) : Calls Try.prog 27 #[.int .i64 a, .int .i64 b] w fun e w' => e = .returned (.int .i64 (maxV a b)) ∧ w = w' := by
  go_enter Try.func27, Try.ntmps27
  go_wp2
  go_ret
  exact ⟨rfl, rfl⟩
theorem least_any (a b : Int) (w : World) : Calls Try.prog 28 #[.int .i64 a, .int .i64 b] w fun e w' => e = .returned (.int .i64 (minV a b)) ∧ w = w' := by
  go_enter Try.func28, Try.ntmps28
  go_wp2
  go_ret
  exact ⟨rfl, rfl⟩
theorem span_ml (a n b m : Int) (w : World) : Calls Try.prog 26 #[.int .i64 a, .int .i64 n, .int .i64 b, .int .i64 m, .func (.func 27) #[] #[], .func (.func 28) #[] #[]] w fun e w' =>
    e = .returned (.tuple #[.int .i64 (maxV a b), .int .i64 (wrap64 (minV (wrap64 (a + n)) (wrap64 (b + m)) - maxV a b))]) ∧ w = w' := by
  go_enter Try.func26, Try.ntmps26
  go_wp2_with fail
  refine (most_any _ _ _).mono ?_
  rintro e w' ⟨rfl, rfl⟩
  go_wp2_with fail
  refine (least_any _ _ _).mono ?_
  rintro e w' ⟨rfl, rfl⟩
  go_wp2_with fail
  go_ret2
  exact ⟨rfl, rfl⟩
theorem span_lm (a n b m : Int) (w : World) : Calls Try.prog 26 #[.int .i64 a, .int .i64 n, .int .i64 b, .int .i64 m, .func (.func 28) #[] #[], .func (.func 27) #[] #[]] w fun e w' =>
    e = .returned (.tuple #[.int .i64 (minV a b), .int .i64 (wrap64 (maxV (wrap64 (a + n)) (wrap64 (b + m)) - minV a b))]) ∧ w = w' := by
  go_enter Try.func26, Try.ntmps26
  go_wp2_with fail
  refine (least_any _ _ _).mono ?_
  rintro e w' ⟨rfl, rfl⟩
  go_wp2_with fail
  refine (most_any _ _ _).mono ?_
  rintro e w' ⟨rfl, rfl⟩
  go_wp2_with fail
  go_ret2
  exact ⟨rfl, rfl⟩
def andR (a b : Rc) : Rc :=
  if a.empty = true ∨ b.empty = true then zeroR else
  if minV (a.x + a.w) (b.x + b.w) - maxV a.x b.x ≤ 0 ∨ minV (a.y + a.h) (b.y + b.h) - maxV a.y b.y ≤ 0 then zeroR else
  ⟨maxV a.x b.x, maxV a.y b.y, minV (a.x + a.w) (b.x + b.w) - maxV a.x b.x, minV (a.y + a.h) (b.y + b.h) - maxV a.y b.y⟩
end Go.Proofs.Ytlmnfcocgocjiaa
