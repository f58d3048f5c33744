import Derived.Test.YtmacmhlimdaemaaSums
namespace Go.Proofs.Ytmacmhlimdaemaa
open Go.RowKit Go.Proofs.Ytmacmhlimdaemaa.Crc
/-- a constant text as bytes: the world behind the conversion -/
theorem text_bytes (l : List Nat) (C : Array Value) (hC : (l.map encB).toArray = C) (n : Nat) (hn : l.length = n) (w : World) : ∃ W, Reads W W.heap.size 1 (some ⟨w.heap.size, 0, none⟩) n (l.map encB) ∧ Below w.heap.size w W ∧
    (convert 22 22 (.slice (some ⟨w.heap.size, 0, none⟩) n n)).run Try.prog (w.alloc (.cells C 5)) = .ok (.slice (some ⟨w.heap.size, 0, none⟩) n n) W := by
  subst hC
  subst hn
  obtain ⟨W, hW, hrd, hB⟩ := const_bytes l w
  have hc := conv_const l l.length l.length w
  rw [hW] at hc
  exact ⟨W, hrd, hB, hc⟩
/-- a row of bytes that was laid just now -/
theorem laid_bytes (l : List Nat) (C : Array Value) (hC : (l.map encB).toArray = C) (n : Nat) (hn : l.length = n) (w : World) : ∃ W, w.alloc (.cells C 5) = W ∧ Reads W W.heap.size 1 (some ⟨w.heap.size, 0, none⟩) n (l.map encB) ∧ Below w.heap.size w W := by
  subst hC
  exact ⟨_, rfl, Reads.of_row (heap_alloc_new w _) (by rw [World.size_alloc]; omega) hn, (Below.refl _ _).alloc (Nat.le_refl _) _⟩
theorem sum_0 : sum [0] = 3523407757 := by kernel_rfl
theorem sum_a : sum [97] = 3904355907 := by kernel_rfl
theorem sum_abc : sum [97, 98, 99] = 891568578 := by kernel_rfl
theorem crcKnown_any (w : World) : Calls Try.prog 6 #[] w fun e w' => e = .returned (.bool true) ∧ Below w.heap.size w w' := by
  go_enter Try.func6, Try.ntmps6
  go_wp2_with fail
  refine (sums_any _).mono ?_
  rintro e w1 ⟨rfl, hb1⟩
  go_wp2_with fail
  obtain ⟨W1, hW1, hr1, hB1⟩ := laid_bytes [0] #[.int .u8 0] rfl 1 rfl w1
  rw [hW1]
  clear hW1
  refine (sum_known [0] _ sum_0 _ _ _ _ hr1 (by decide) (by decide)).mono ?_
  rintro e w2 ⟨rfl, hb2⟩
  obtain ⟨W2, hr2, hB2, hc2⟩ := text_bytes [97] #[.int .u8 97] rfl 1 rfl w2
  go_wp2_with fail
  refine (sum_known [97] _ sum_a _ _ _ _ hr2 (by decide) (by decide)).mono ?_
  rintro e w3 ⟨rfl, hb3⟩
  obtain ⟨W3, hr3, hB3, hc3⟩ := text_bytes [97, 98, 99] #[.int .u8 97, .int .u8 98, .int .u8 99] rfl 3 rfl w3
  go_wp2_with fail
  refine (sum_known [97, 98, 99] _ sum_abc _ _ _ _ hr3 (by decide) (by decide)).mono ?_
  rintro e w4 ⟨rfl, hb4⟩
  go_wp2_with fail
  go_ret
  have c1 := hb1
  have c2 := below_next c1 c1.size hB1
  have c3 := below_next c2 c2.size hb2
  have c4 := below_next c3 c3.size hB2
  have c5 := below_next c4 c4.size hb3
  have c6 := below_next c5 c5.size hB3
  exact ⟨rfl, below_next c6 c6.size hb4⟩
end Go.Proofs.Ytmacmhlimdaemaa
