import Derived.Test.YtmacmhlimdaemaaStr
import Derived.Test.YtmacmhlimdaemaaRefSum
namespace Go.Proofs.Ytmacmhlimdaemaa
open Go.RowKit Go.Proofs.Ytmacmhlimdaemaa.Crc
theorem crcSums_any (A : Option Addr) (n c : Nat) (l : List Nat) (w : World) (hr : Reads w w.heap.size 1 A n (l.map encB)) (hl : ∀ c ∈ l, c < 256) (hn : n ≤ maxLen) :
    Calls Try.prog 3 #[.slice A n c] w fun e w' => e = .returned (.bool true) ∧ Below w.heap.size w w' := by
  by_cases hbig : (n : Int) > 20000
  · have hbig' : (20000 : Int) < (n : Int) := hbig
    go_enter Try.func3, Try.ntmps3
    go_wp2_with fail
    go_ret
    exact ⟨rfl, Below.refl _ _⟩
  · have hsm : decide ((20000 : Int) < (n : Int)) = false := decide_eq_false hbig
    have Hb := Lib.hid hbig
    clear hbig
    obtain ⟨i0, hi0, hz0, hz1, hz2⟩ := info_parts byte_info
    have hH := Lib.hid hi0
    have Hz0 := Lib.hid hz0
    have Hz1 := Lib.hid hz1
    have Hz2 := Lib.hid hz2
    clear hi0 hz0 hz1 hz2
    go_enter Try.func3, Try.ntmps3
    go_wp2_with (
        at_builtin
        refine wpList_append_any _ rfl (.tmp 7) (.tmp 8) _ rfl w.heap.size 5 i0 _ 1 1 Try.underlying22 hH.out Hz0.out Hz1.out Hz2.out rfl (by omega) (.slice none 0 0) 0 [] rfl
          ⟨by simp, .inl ⟨rfl, rfl⟩⟩ w.heap.size A n c (l.map encB) rfl hr encB_one (by simp only [maxLen]; have := Hb.out; omega) (by have := Hb.out; omega) (Nat.le_refl _) ?_
        intro v1 w1 hown1 hg1 hat1
        obtain ⟨A1, c1, rfl⟩ := own_form hown1)
    have hB1 : Below w.heap.size w w1 := (Below.refl _ _).grown hg1 (Nat.le_refl _) (by simp [Value.ownBlock])
    have hr1 : Reads w1 w1.heap.size 1 A1 n (l.map encB) := by
      have := hown1
      simp only [Nat.zero_add, List.nil_append] at this
      exact Reads.of_own this
    refine (sum_any _ _ _ l _ hr1 hl hn).mono ?_
    rintro e w2 ⟨rfl, hb2⟩
    have hB2 := below_next hB1 hB1.size hb2
    have hr2 := hr.below hB2
    have hr3 := (hr1.below hb2)
    go_wp2_with fail
    refine (refSum_any _ _ _ l _ (hr2.more hB2.size) hl hn).mono ?_
    rintro e w3 ⟨rfl, rfl⟩
    have hs1 := str_conv (c := c1) hr3
    have hs2 := str_conv (c := c) hr2
    go_wp2_with fail
    refine (sums_any _).mono ?_
    rintro e w4 ⟨rfl, hb4⟩
    go_wp2_with fail
    go_ret
    exact ⟨rfl, below_next hB2 hB2.size hb4⟩
end Go.Proofs.Ytmacmhlimdaemaa
