/- The walk of InputsNil. -/
import Derived.Test.YtmkmggbafboelaaKeeps
namespace Go.Proofs.Ytmkmggbafboelaa
open Go.RowKit
set_option maxRecDepth 100000 in
theorem nil_any (e : Ev) (n : Int) (w : World) : Calls Try.prog 7 #[e.v, .int .u32 n] w fun en w' => en = .returned (.bool true) ∧ Below w.heap.size w w' := by
  go_enter Try.func7, Try.ntmps7
  go_wp2_with fail
  obtain ⟨W, hW, hS⟩ := (Sep.start w).boxedF 26 e.cs.toArray
  have hW' : w.alloc (.cells #[.int .u8 e.k, .int .u16 e.x, .int .u16 e.y, .int .u32 e.c] 26) = W := hW
  rw [hW']
  clear hW hW'
  generalize e2 : w.heap.size = gx at hS ⊢
  have H2 := Lib.hid e2
  clear e2
  refine (put_nil e _).mono ?_
  rintro en w1 ⟨rfl, hb⟩
  replace hS := hS.grow hb
  clear hb
  have ⟨x0, x1, x2, x3⟩ := (hS.blk 0 rfl).four
  go_wp2_with fail
  refine (take_nil n e _).mono ?_
  rintro en w2 ⟨rfl, hb⟩
  replace hS := hS.grow hb
  clear hb x0 x1 x2 x3
  go_wp2_with fail
  refine (rest_nil _).mono ?_
  rintro en w3 ⟨rfl, rfl⟩
  go_wp2_with fail
  refine (drop_nil n _).mono ?_
  rintro en w3 ⟨rfl, rfl⟩
  go_wp2_with fail
  refine (len_nil _).mono ?_
  rintro en w3 ⟨rfl, rfl⟩
  go_wp2_with fail
  refine (given_nil _).mono ?_
  rintro en w3 ⟨rfl, rfl⟩
  go_wp2_with fail
  refine (last_nil _).mono ?_
  rintro en w3 ⟨rfl, rfl⟩
  go_wp2_with fail
  refine (keeps_any _).mono ?_
  rintro en w3 ⟨rfl, hb⟩
  replace hS := hS.grow hb
  clear hb
  go_wp2_with fail
  go_ret
  exact ⟨rfl, H2.out ▸ hS.below⟩
end Go.Proofs.Ytmkmggbafboelaa
