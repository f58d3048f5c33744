/- The law's known colours, and its brighter colour. -/
import Derived.Test.YtlgbbckmaceabaaDoorRefOver
namespace Go.Proofs.YtlgbbckmaceabaaDoor
open Go.RowKit
theorem Chans.below {w w' : World} (h : Chans w) (hb : Below w.heap.size w w') : Chans w' := by
  have hlt : 0 < w.heap.size := World.block_lt_of_cell? _ _ h.1
  exact ⟨(hb.cell (p := ⟨0, 0, none⟩) hlt).trans h.1, (hb.cell (p := ⟨0, 1, none⟩) hlt).trans h.2.1, (hb.cell (p := ⟨0, 2, none⟩) hlt).trans h.2.2⟩
theorem wakes_any (w : World) (hC : Chans w) :
    Calls Tryd.prog 11 #[] w fun e w' => e = .returned (.bool true) ∧ Below w.heap.size w w' := by
  go_enter Tryd.func11, Tryd.ntmps11
  go_wp2_with fail
  refine (mul_any 255 7 _ (by decide) (by decide) (by decide) (by decide)).mono ?_
  rw [show mulV 255 7 = 7 by decide]
  rintro e w' ⟨rfl, rfl⟩
  go_wp2_with fail
  refine (mul_any 128 128 _ (by decide) (by decide) (by decide) (by decide)).mono ?_
  rw [show mulV 128 128 = 64 by decide]
  rintro e w' ⟨rfl, rfl⟩
  go_wp2_with fail
  refine (over_any 16777215 0 128 _ hC (by decide) (by decide) (by decide) (by decide) (by decide) (by decide)).mono ?_
  rw [show outV 16777215 0 128 3 = 8421504 by decide]
  rintro e w1 ⟨rfl, hb1⟩
  go_wp2_with fail
  refine (over_any 4214880 1056816 255 _ (hC.below hb1) (by decide) (by decide) (by decide) (by decide) (by decide) (by decide)).mono ?_
  rw [show outV 4214880 1056816 255 3 = 4214880 by decide]
  rintro e w2 ⟨rfl, hb2⟩
  go_wp2_with fail
  go_ret
  exact ⟨rfl, hb1.trans (hb2.mono hb1.size)⟩
theorem tells_any (d s a b : Int) (w : World) (hC : Chans w) (hs : 0 ≤ s) (hs' : s < 4294967296) (hd : 0 ≤ d) (hd' : d < 4294967296) (ha : 0 ≤ a) (ha' : a ≤ 255) (hb : 0 ≤ b) (hb' : b ≤ 255) :
    Calls Tryd.prog 3 #[.int .u32 d, .int .u32 s, .int .u8 a, .int .u8 b] w fun e w' => e = .returned (.bool true) ∧ Below w.heap.size w w' := by
  go_enter Tryd.func3, Tryd.ntmps3
  go_wp2_with fail
  refine (mul_any a b _ ha ha' hb hb').mono ?_
  rintro e w' ⟨rfl, rfl⟩
  go_wp2_with fail
  refine (refmul_any a b _ ha ha' hb hb').mono ?_
  rintro e w' ⟨rfl, rfl⟩
  go_wp2_with fail
  refine (over_any s d a _ hC hs hs' hd hd' ha ha').mono ?_
  rintro e w1 ⟨rfl, hb1⟩
  go_wp2_with fail
  refine (refover_any s d a _ hs hs' hd hd' ha ha').mono ?_
  rintro e w2 ⟨rfl, hb2⟩
  have hb2 := hb1.trans (hb2.mono hb1.size)
  clear hb1
  go_wp2_with fail
  refine (wakes_any _ (hC.below hb2)).mono ?_
  rintro e w3 ⟨rfl, hb3⟩
  have hb3 := hb2.trans (hb3.mono hb2.size)
  clear hb2
  go_wp2_with fail
  go_ret
  exact ⟨rfl, hb3⟩
end Go.Proofs.YtlgbbckmaceabaaDoor
