/- The law's known rectangles. -/
import Derived.Test.YtlmnfcocgocjiaaEq
namespace Go.Proofs.Ytlmnfcocgocjiaa
open Go.RowKit
theorem wakes_any (w : World) : Calls Try.prog 14 #[] w fun e w' => e = .returned (.bool true) ∧ Below w.heap.size w w' := by
  have hnot : ∀ (x : Bool) (w : World), (Op.unary .not (.bool x)).run Try.prog w = .ok (.bool (!x)) w := fun _ _ => rfl
  have e1 : andR ⟨0, 0, 4, 4⟩ ⟨2, 2, 4, 4⟩ = ⟨2, 2, 2, 2⟩ := by kernel_rfl
  have e2 : goodB 1048575 0 1 1 = true := by decide +kernel
  have e3 : goodB 1048576 0 1 1 = false := by decide +kernel
  have e4 : areaV 0 0 3 2 = 6 := by decide +kernel
  have E1 := Lib.hid e1
  have E2 := Lib.hid e2
  have E3 := Lib.hid e3
  have E4 := Lib.hid e4
  clear e1 e2 e3 e4
  go_enter Try.func14, Try.ntmps14
  go_wp2_with fail
  refine (and_any ⟨0, 0, 4, 4⟩ ⟨2, 2, 4, 4⟩ _).mono ?_
  rw [E1.out]
  rintro e w1 ⟨rfl, hb1⟩
  go_wp2_with fail
  refine (good_any _ _ _ _ _).mono ?_
  rw [E2.out]
  rintro e w2 ⟨rfl, hb2⟩
  replace hb2 := below_next hb1 hb1.size hb2
  clear hb1
  go_wp2_with fail
  refine (good_any _ _ _ _ _).mono ?_
  rw [E3.out]
  rintro e w3 ⟨rfl, hb3⟩
  replace hb3 := below_next hb2 hb2.size hb3
  clear hb2
  go_wp2_with fail
  refine (area_any _ _ _ _ _).mono ?_
  rw [E4.out]
  rintro e w4 ⟨rfl, hb4⟩
  replace hb4 := below_next hb3 hb3.size hb4
  clear hb3
  go_wp2_with fail
  go_ret
  exact ⟨rfl, hb4⟩
end Go.Proofs.Ytlmnfcocgocjiaa
