/- The law's known example. -/
import Derived.Test.YtmkmggbafboelaaSame
import Derived.Test.YtmkmggbafboelaaDrop
import Derived.Test.YtmkmggbafboelaaZero
namespace Go.Proofs.Ytmkmggbafboelaa
open Go.RowKit
set_option maxRecDepth 100000 in
theorem keeps_any (w : World) : Calls Try.prog 15 #[] w fun en w' => en = .returned (.bool true) ∧ Below w.heap.size w w' := by
  have hz1 := fun w => zero31 w
  have hz2 := fun w => zero33 w
  have p1 := Lib.hid (show putN [] 0 = 1 by kernel_rfl)
  have p2 := Lib.hid (show putE [] 0 = 0 by kernel_rfl)
  have p3 := Lib.hid (show putN [⟨1, 0, 0, 0⟩] 0 = 2 by kernel_rfl)
  have p4 := Lib.hid (show putE [⟨1, 0, 0, 0⟩] 0 = 0 by kernel_rfl)
  have p5 := Lib.hid (show dropE [⟨1, 0, 0, 0⟩, ⟨2, 0, 0, 0⟩] 1 = 0 by kernel_rfl)
  have p6 := Lib.hid (show takeB 0 1 = true by kernel_rfl)
  have p7 := Lib.hid (show takeE 0 1 = 0 by kernel_rfl)
  go_enter Try.func15, Try.ntmps15
  go_upto_region 3 with (fail)
  obtain ⟨W, hW, hS⟩ := (Sep.start w).newQ
  rw [hW]
  have hsz : w.heap.size + 1 = W.heap.size := by rw [← hW, World.size_alloc]
  rw [hsz]
  clear hW hsz hz1 hz2
  obtain ⟨W1, hW, hS⟩ := hS.newG
  rw [hW]
  clear hW
  generalize e1 : W.heap.size = gg at hS ⊢
  clear e1
  generalize e2 : w.heap.size = gq at hS ⊢
  have H2 := Lib.hid e2
  clear e2
  go_wp2_with fail
  refine (put_any ⟨1, 0, 0, 0⟩ 1 rfl hS (by decide)).mono ?_
  rw [p1.out, p2.out]
  rintro en w2 ⟨rfl, hS⟩
  replace hS : Sep w w2 [GAt gg 0, QAt gq [⟨1, 0, 0, 0⟩] 0] := hS
  go_wp2_with fail
  refine (put_any ⟨2, 0, 0, 0⟩ 1 rfl hS (by decide)).mono ?_
  rw [p3.out, p4.out]
  rintro en w3 ⟨rfl, hS⟩
  replace hS : Sep w w3 [GAt gg 0, QAt gq [⟨1, 0, 0, 0⟩, ⟨2, 0, 0, 0⟩] 0] := hS
  go_wp2_with fail
  refine (drop_any 1 (by decide) 1 rfl hS).mono ?_
  rw [p5.out]
  rintro en w4 ⟨rfl, hS⟩
  replace hS : Sep w w4 [GAt gg 0, QAt gq [⟨1, 0, 0, 0⟩, ⟨2, 0, 0, 0⟩] 1] := hS
  go_wp2_with fail
  refine (rest_any 1 rfl hS (by decide)).mono ?_
  rintro en w5 ⟨v, rfl, hS⟩
  replace hS : Sep w w5 [row 28 5 v 1 (numCs 2 ⟨2, 0, 0, 0⟩), GAt gg 0, QAt gq [⟨1, 0, 0, 0⟩, ⟨2, 0, 0, 0⟩] 1] := hS
  go_wp2_with fail
  refine (take_any 1 ⟨0, 0, 0, 0⟩ (by decide) 1 rfl hS).mono ?_
  rw [p6.out, p7.out]
  rintro en w6 ⟨rfl, hS⟩
  replace hS : Sep w w6 [row 28 5 v 1 (numCs 2 ⟨2, 0, 0, 0⟩), GAt gg 1, QAt gq [⟨1, 0, 0, 0⟩, ⟨2, 0, 0, 0⟩] 1] := hS
  obtain ⟨b, c, rfl, -, hc⟩ := own_cells (hS.own 0 rfl) (by decide)
  have r0 := hc 0 _ rfl
  have r1 := hc 1 _ rfl
  have r2 := hc 2 _ rfl
  have r3 := hc 3 _ rfl
  have r4 := hc 4 _ rfl
  clear hc
  go_wp2_with fail
  refine (last_any 1 rfl hS).mono ?_
  rintro en w7 ⟨rfl, rfl⟩
  go_wp2_with fail
  go_ret
  exact ⟨rfl, H2.out ▸ hS.below⟩
end Go.Proofs.Ytmkmggbafboelaa
