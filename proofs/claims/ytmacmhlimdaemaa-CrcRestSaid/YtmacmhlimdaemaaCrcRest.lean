import Derived.Test.YtmacmhlimdaemaaStr
namespace Go.Proofs.Ytmacmhlimdaemaa
open Go.RowKit Go.Proofs.Ytmacmhlimdaemaa.Crc
theorem crcRest_any (A : Option Addr) (n c : Nat) (l : List Nat) (w : World) (hr : Reads w w.heap.size 1 A n (l.map encB)) (hl : ∀ c ∈ l, c < 256) (hn : n ≤ maxLen) :
    Calls Try.prog 7 #[.slice A n c] w fun e w' => e = .returned (.bool true) ∧ Below w.heap.size w w' := by
  by_cases hbig : (n : Int) > 5000
  · have hbig' : (5000 : Int) < (n : Int) := hbig
    go_enter Try.func7, Try.ntmps7
    go_wp2_with fail
    go_ret
    exact ⟨rfl, Below.refl _ _⟩
  · have hsm : decide ((5000 : Int) < (n : Int)) = false := decide_eq_false hbig
    have Hb := Lib.hid hbig
    clear hbig
    obtain ⟨i0, hi0, hz0, hz1, hz2⟩ := info_parts byte_info
    have hH := Lib.hid hi0
    have Hz0 := Lib.hid hz0
    have Hz1 := Lib.hid hz1
    have Hz2 := Lib.hid hz2
    clear hi0 hz0 hz1 hz2
    have hslt := sum_lt l hl
    go_enter Try.func7, Try.ntmps7
    go_wp2_with fail
    refine (sum_any _ _ _ l _ hr hl hn).mono ?_
    rintro e w1 ⟨rfl, hb1⟩
    obtain ⟨s, hs⟩ : ∃ s, sum l = s := ⟨_, rfl⟩
    rw [hs] at hslt ⊢
    have Hs := Lib.hid hs
    clear hs
    have hr1 := hr.below hb1
    have ha := Reads.alloc hr1 hb1.size (.cells #[] 5)
    have hrow : ∀ W : World, (W.alloc (.cells #[.int .u8 ((s : Int) % 256), .int .u8 ((s : Int) / 256 % 256), .int .u8 ((s : Int) / 65536 % 256), .int .u8 ((s : Int) / 16777216)] 5)).heap[W.heap.size]? = some (.cells ([s % 256, s / 256 % 256, s / 65536 % 256, s / 16777216].map encB).toArray 5 (0, 0)) := fun W => by
      rw [heap_alloc_new]
      simp [encB]
    have Hrow := Lib.hid hrow
    clear hrow
    go_wp2_with (first
      | (at_builtin
         refine wpList_append_any _ rfl (.tmp 9) (.tmp 10) _ rfl w.heap.size 5 i0 _ 1 1 Try.underlying22 hH.out Hz0.out Hz1.out Hz2.out rfl (by omega) (.slice (some ⟨w1.heap.size, 0, none⟩) 0 0) 0 [] rfl
           ⟨rfl, .inr ⟨_, 0, #[], rfl, hb1.size, heap_alloc_new _ _, Nat.le_refl _, Nat.zero_le _, rfl, rfl⟩⟩ w.heap.size A n c (l.map encB) rfl ha encB_one (by simp only [maxLen]; have := Hb.out; omega) (by have := Hb.out; omega) (by rw [World.size_alloc]; exact Nat.le_succ_of_le hb1.size) ?_
         intro v1 w2 hown1 hg1 hat1
         obtain ⟨A1, c1, rfl⟩ := own_form hown1
         have hown1' : w2.ownsRow w.heap.size 5 1 (.slice A1 n c1) n (l.map encB) := by simpa using hown1
         have hB2 : Below w.heap.size w w2 := (hb1.alloc hb1.size _).grown hg1 (by rw [World.size_alloc]; exact Nat.le_succ_of_le hb1.size) (by simp [Value.ownBlock]; exact hb1.size)
         have hsz2 := hB2.size)
      | (at_builtin
         refine wpList_append_any _ rfl (.tmp 11) (.tmp 23) _ rfl w.heap.size 5 i0 _ 1 1 Try.underlying22 hH.out Hz0.out Hz1.out Hz2.out rfl (by omega) (.slice A1 n c1) n (l.map encB) rfl
           (hown1'.alloc _) (w2.heap.size + 1) (some ⟨w2.heap.size, 0, none⟩) 4 4 ([s % 256, s / 256 % 256, s / 65536 % 256, s / 16777216].map encB) rfl (Reads.of_row (Hrow.out _) (Nat.lt_succ_self _) rfl) encB_one (by simp only [maxLen]; have := Hb.out; omega) (by have := Hb.out; omega) (by rw [World.size_alloc]; exact Nat.le_succ_of_le hsz2) ?_
         intro v2 w3 hown2 hg2 hat2
         obtain ⟨A2, c2, rfl⟩ := own_form hown2))
    have hB3 : Below w.heap.size w w3 := (hB2.alloc hsz2 _).grown hg2 (by rw [World.size_alloc]; exact Nat.le_succ_of_le hsz2) (own_ge hown1')
    have hr3 : Reads w3 w3.heap.size 1 A2 (n + 4) ((l ++ [s % 256, s / 256 % 256, s / 65536 % 256, s / 16777216]).map encB) := by
      rw [List.map_append]
      exact Reads.of_own hown2
    have hl3 : ∀ c ∈ l ++ [s % 256, s / 256 % 256, s / 65536 % 256, s / 16777216], c < 256 := by
      intro c hc
      rcases List.mem_append.1 hc with h | h
      · exact hl c h
      · simp at h; omega
    have hrest : sum (l ++ [s % 256, s / 256 % 256, s / 65536 % 256, s / 16777216]) = 558161692 := by
      have := rest l hl s Hs.out.symm
      rwa [show s / 16777216 % 256 = s / 16777216 from Nat.mod_eq_of_lt (by omega)] at this
    refine (sum_known _ _ hrest _ _ _ _ hr3 hl3 (by simp only [maxLen]; have := Hb.out; omega)).mono ?_
    rintro e w4 ⟨rfl, hb4⟩
    go_wp2_with fail
    refine (sums_any _).mono ?_
    rintro e w5 ⟨rfl, hb5⟩
    go_wp2_with fail
    go_ret
    have c4 := below_next hB3 hB3.size hb4
    exact ⟨rfl, below_next c4 c4.size hb5⟩
end Go.Proofs.Ytmacmhlimdaemaa
