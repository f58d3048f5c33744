/- A text of this claim, written by a program: Go functions as Lean functions, and the proof that the program's code does what they say (and, in a law's row, that the law returns true for every input, if its plain statement holds). No condition beyond the row's own. -/
import Derived.Test.YtmacmhlimdaemaaRx0
import Derived.Test.YtmacmhlimdaemaaRx2
import Derived.Test.YtmacmhlimdaemaaRx4
import Derived.Test.YtmacmhlimdaemaaRx6
import Derived.Test.YtmacmhlimdaemaaRx7
namespace Go.Proofs.Ytmacmhlimdaemaa.R
open Go.RowKit Go.Proofs.YtmacmhlimdaemaaW.PrintWords Go.Proofs.YtmacmhlimdaemaaW.PrintLast Go.Proofs.YtmacmhlimdaemaaW.PrintMore
attribute [local go_sem] max2_int min2_int max_two min_two max_three min_three max_four min_four   -- for this text's walks alone
set_option linter.unusedVariables false
set_option linter.unusedSimpArgs false

/-! ### vignettelaw21_PacketBack: function 10 -/
mutual
def vignettelaw21_PacketBack.j0 : Nat → Int → Int → List Int → Bool → Option (Bool)
  | 0, _, _, _, _ => none
  | k + 1, x1, x2, x7, x65 => if x65 = true then (some false) else (if (wrap64 (8 * (x7.length : Int))) = 0 then (none) else (if (Int.tmod x1 (wrap64 (8 * (x7.length : Int)))) < 0 then (vignettelaw21_PacketBack.j1 k x2 x7 (wrap64 (8 * (x7.length : Int))) (wrap64 ((Int.tmod x1 (wrap64 (8 * (x7.length : Int)))) + (wrap64 (8 * (x7.length : Int)))))) else (vignettelaw21_PacketBack.j1 k x2 x7 (wrap64 (8 * (x7.length : Int))) (Int.tmod x1 (wrap64 (8 * (x7.length : Int)))))))
def vignettelaw21_PacketBack.j1 : Nat → Int → List Int → Int → Int → Option (Bool)
  | 0, _, _, _, _ => none
  | k + 1, x2, x7, x11, x12 => if ([] : List Int).length + x7.length < 140737488355328 then (vignettelaw21_PacketBack.l0 k x2 x7 x11 x12 (([] : List Int) ++ x7) 0) else (none)
def vignettelaw21_PacketBack.l0 : Nat → Int → List Int → Int → Int → List Int → Int → Option (Bool)
  | 0, _, _, _, _, _, _ => none
  | k + 1, x2, x7, x11, x12, x13, x14 => if x14 < 32 then (vignettelaw21_PacketBack.j3 k x2 x7 x11 x12 x13 x14 (decide ((wrap64 (x12 + x14)) < x11))) else (vignettelaw21_PacketBack.j3 k x2 x7 x11 x12 x13 x14 false)
def vignettelaw21_PacketBack.j3 : Nat → Int → List Int → Int → Int → List Int → Int → Bool → Option (Bool)
  | 0, _, _, _, _, _, _, _ => none
  | k + 1, x2, x7, x11, x12, x13, x14, x88 => if x88 = true then (if 0 ≤ x14 then (if (Go.bits .and .u32 (shr .u32 x2 x14) 1) = 1 then (if 0 ≤ (wrap64 (Int.tdiv (wrap64 (x12 + x14)) 8)) then (if (wrap64 (Int.tdiv (wrap64 (x12 + x14)) 8)) < (x13.length : Int) then (if 0 ≤ (Int.tmod (wrap64 (x12 + x14)) 8) then (vignettelaw21_PacketBack.l0 k x2 x7 x11 x12 (x13.set ((wrap64 (Int.tdiv (wrap64 (x12 + x14)) 8)) : Int).toNat (Go.bits .xor .u8 (rd x13 (wrap64 (Int.tdiv (wrap64 (x12 + x14)) 8))) (shl .u8 1 (Int.tmod (wrap64 (x12 + x14)) 8)))) (wrap64 (x14 + 1))) else (none)) else (none)) else (none)) else (vignettelaw21_PacketBack.l0 k x2 x7 x11 x12 x13 (wrap64 (x14 + 1)))) else (none)) else ((packet_Read.f k x13).bind fun bt324 => (if (strOfNums x13).toList = (strOfNums x7).toList then (if bt324.2.2.2.2 = 0 then ((vignettelaw21_writes.f k).bind fun t332 => (some t332)) else (some false)) else (if x12 > 0 then (vignettelaw21_PacketBack.j4 k bt324.2.2.2.2 (decide (x12 < 32)) bt324.1 bt324.2.1 bt324.2.2.1 bt324.2.2.2.1) else (vignettelaw21_PacketBack.j4 k bt324.2.2.2.2 false bt324.1 bt324.2.1 bt324.2.2.1 bt324.2.2.2.1))))
def vignettelaw21_PacketBack.j4 : Nat → Int → Bool → Int → Int → Int → List Int → Option (Bool)
  | 0, _, _, _, _, _, _ => none
  | k + 1, x16, x135, x332000, x332001, x332002, x332003 => if x135 = true then ((vignettelaw21_writes.f k).bind fun t333 => (some t333)) else (if x16 = 210 then (if (x332003.length : Int) = 0 then ((vignettelaw21_writes.f k).bind fun t334 => (some t334)) else (some false)) else (some false))
end
def vignettelaw21_PacketBack.f (k : Nat) (a0_0 : Int) (a0_1 : Int) (a0_2 : Int) (l0_3 : List Int) (a1 : Int) (a2 : Int) : Option (Bool) := if (l0_3.length : Int) > 2000 then (some true) else ((packet_Write.f k a0_0 a0_1 a0_2 l0_3).bind fun bt305 => (if (l0_3.length : Int) > 256 then (if bt305.2 = 2 then (if (bt305.1.length : Int) = 0 then ((vignettelaw21_writes.f k).bind fun t309 => (some t309)) else (some false)) else (some false)) else ((packet_Read.f k bt305.1).bind fun bt310 => (if bt305.2 = 0 then (if bt310.2.2.2.2 = 0 then ((vignetteref21_Same.f a0_0 a0_1 a0_2 l0_3 bt310.1 bt310.2.1 bt310.2.2.1 bt310.2.2.2.1).bind fun t318 => (if t318 = true then (vignettelaw21_PacketBack.j0 k a1 a2 bt305.1 ((bt305.1.length : Int) != (wrap64 (24 + (l0_3.length : Int))))) else (vignettelaw21_PacketBack.j0 k a1 a2 bt305.1 true))) else (vignettelaw21_PacketBack.j0 k a1 a2 bt305.1 true)) else (vignettelaw21_PacketBack.j0 k a1 a2 bt305.1 true)))))
theorem vignettelaw21_PacketBack.mono_l : ∀ k, (∀ y0 y1 y2 y3, LeO (vignettelaw21_PacketBack.j0 k y0 y1 y2 y3) (vignettelaw21_PacketBack.j0 (k + 1) y0 y1 y2 y3)) ∧ (∀ y0 y1 y2 y3, LeO (vignettelaw21_PacketBack.j1 k y0 y1 y2 y3) (vignettelaw21_PacketBack.j1 (k + 1) y0 y1 y2 y3)) ∧ (∀ y0 y1 y2 y3 y4 y5, LeO (vignettelaw21_PacketBack.l0 k y0 y1 y2 y3 y4 y5) (vignettelaw21_PacketBack.l0 (k + 1) y0 y1 y2 y3 y4 y5)) ∧ (∀ y0 y1 y2 y3 y4 y5 y6, LeO (vignettelaw21_PacketBack.j3 k y0 y1 y2 y3 y4 y5 y6) (vignettelaw21_PacketBack.j3 (k + 1) y0 y1 y2 y3 y4 y5 y6)) ∧ (∀ y0 y1 y2 y3 y4 y5, LeO (vignettelaw21_PacketBack.j4 k y0 y1 y2 y3 y4 y5) (vignettelaw21_PacketBack.j4 (k + 1) y0 y1 y2 y3 y4 y5))
  | 0 => ⟨fun _ _ _ _ r h => by simp [vignettelaw21_PacketBack.j0] at h, fun _ _ _ _ r h => by simp [vignettelaw21_PacketBack.j1] at h, fun _ _ _ _ _ _ r h => by simp [vignettelaw21_PacketBack.l0] at h, fun _ _ _ _ _ _ _ r h => by simp [vignettelaw21_PacketBack.j3] at h, fun _ _ _ _ _ _ r h => by simp [vignettelaw21_PacketBack.j4] at h⟩
  | k + 1 => by
    obtain ⟨ih0, ih1, ih2, ih3, ih4⟩ := vignettelaw21_PacketBack.mono_l k
    refine ⟨?_, ?_, ?_, ?_, ?_⟩
    · intro y0 y1 y2 y3
      unfold vignettelaw21_PacketBack.j0
      repeat' first
      | (with_reducible exact ih0 _ _ _ _)
      | (with_reducible exact ih1 _ _ _ _)
      | (with_reducible exact ih2 _ _ _ _ _ _)
      | (with_reducible exact ih3 _ _ _ _ _ _ _)
      | (with_reducible exact ih4 _ _ _ _ _ _)
      | (with_reducible exact packet_Read.mono _ _)
      | (with_reducible exact packet_Write.mono _ _ _ _ _)
      | (with_reducible exact vignettelaw21_writes.mono _)
      | (with_reducible exact LeO.refl _)
      | (with_reducible exact LeO.none _)
      | (with_reducible refine LeO.ite ?_ ?_)
      | (with_reducible refine LeO.bind ?_ (fun _ => ?_))
      | exact ih0 _ _ _ _
      | exact ih1 _ _ _ _
      | exact ih2 _ _ _ _ _ _
      | exact ih3 _ _ _ _ _ _ _
      | exact ih4 _ _ _ _ _ _
      | exact packet_Read.mono _ _
      | exact packet_Write.mono _ _ _ _ _
      | exact vignettelaw21_writes.mono _
      | exact LeO.none _
      | refine LeO.ite ?_ ?_
      | refine LeO.bind ?_ (fun _ => ?_)
    · intro y0 y1 y2 y3
      unfold vignettelaw21_PacketBack.j1
      repeat' first
      | (with_reducible exact ih0 _ _ _ _)
      | (with_reducible exact ih1 _ _ _ _)
      | (with_reducible exact ih2 _ _ _ _ _ _)
      | (with_reducible exact ih3 _ _ _ _ _ _ _)
      | (with_reducible exact ih4 _ _ _ _ _ _)
      | (with_reducible exact packet_Read.mono _ _)
      | (with_reducible exact packet_Write.mono _ _ _ _ _)
      | (with_reducible exact vignettelaw21_writes.mono _)
      | (with_reducible exact LeO.refl _)
      | (with_reducible exact LeO.none _)
      | (with_reducible refine LeO.ite ?_ ?_)
      | (with_reducible refine LeO.bind ?_ (fun _ => ?_))
      | exact ih0 _ _ _ _
      | exact ih1 _ _ _ _
      | exact ih2 _ _ _ _ _ _
      | exact ih3 _ _ _ _ _ _ _
      | exact ih4 _ _ _ _ _ _
      | exact packet_Read.mono _ _
      | exact packet_Write.mono _ _ _ _ _
      | exact vignettelaw21_writes.mono _
      | exact LeO.none _
      | refine LeO.ite ?_ ?_
      | refine LeO.bind ?_ (fun _ => ?_)
    · intro y0 y1 y2 y3 y4 y5
      unfold vignettelaw21_PacketBack.l0
      repeat' first
      | (with_reducible exact ih0 _ _ _ _)
      | (with_reducible exact ih1 _ _ _ _)
      | (with_reducible exact ih2 _ _ _ _ _ _)
      | (with_reducible exact ih3 _ _ _ _ _ _ _)
      | (with_reducible exact ih4 _ _ _ _ _ _)
      | (with_reducible exact packet_Read.mono _ _)
      | (with_reducible exact packet_Write.mono _ _ _ _ _)
      | (with_reducible exact vignettelaw21_writes.mono _)
      | (with_reducible exact LeO.refl _)
      | (with_reducible exact LeO.none _)
      | (with_reducible refine LeO.ite ?_ ?_)
      | (with_reducible refine LeO.bind ?_ (fun _ => ?_))
      | exact ih0 _ _ _ _
      | exact ih1 _ _ _ _
      | exact ih2 _ _ _ _ _ _
      | exact ih3 _ _ _ _ _ _ _
      | exact ih4 _ _ _ _ _ _
      | exact packet_Read.mono _ _
      | exact packet_Write.mono _ _ _ _ _
      | exact vignettelaw21_writes.mono _
      | exact LeO.none _
      | refine LeO.ite ?_ ?_
      | refine LeO.bind ?_ (fun _ => ?_)
    · intro y0 y1 y2 y3 y4 y5 y6
      unfold vignettelaw21_PacketBack.j3
      repeat' first
      | (with_reducible exact ih0 _ _ _ _)
      | (with_reducible exact ih1 _ _ _ _)
      | (with_reducible exact ih2 _ _ _ _ _ _)
      | (with_reducible exact ih3 _ _ _ _ _ _ _)
      | (with_reducible exact ih4 _ _ _ _ _ _)
      | (with_reducible exact packet_Read.mono _ _)
      | (with_reducible exact packet_Write.mono _ _ _ _ _)
      | (with_reducible exact vignettelaw21_writes.mono _)
      | (with_reducible exact LeO.refl _)
      | (with_reducible exact LeO.none _)
      | (with_reducible refine LeO.ite ?_ ?_)
      | (with_reducible refine LeO.bind ?_ (fun _ => ?_))
      | exact ih0 _ _ _ _
      | exact ih1 _ _ _ _
      | exact ih2 _ _ _ _ _ _
      | exact ih3 _ _ _ _ _ _ _
      | exact ih4 _ _ _ _ _ _
      | exact packet_Read.mono _ _
      | exact packet_Write.mono _ _ _ _ _
      | exact vignettelaw21_writes.mono _
      | exact LeO.none _
      | refine LeO.ite ?_ ?_
      | refine LeO.bind ?_ (fun _ => ?_)
    · intro y0 y1 y2 y3 y4 y5
      unfold vignettelaw21_PacketBack.j4
      repeat' first
      | (with_reducible exact ih0 _ _ _ _)
      | (with_reducible exact ih1 _ _ _ _)
      | (with_reducible exact ih2 _ _ _ _ _ _)
      | (with_reducible exact ih3 _ _ _ _ _ _ _)
      | (with_reducible exact ih4 _ _ _ _ _ _)
      | (with_reducible exact packet_Read.mono _ _)
      | (with_reducible exact packet_Write.mono _ _ _ _ _)
      | (with_reducible exact vignettelaw21_writes.mono _)
      | (with_reducible exact LeO.refl _)
      | (with_reducible exact LeO.none _)
      | (with_reducible refine LeO.ite ?_ ?_)
      | (with_reducible refine LeO.bind ?_ (fun _ => ?_))
      | exact ih0 _ _ _ _
      | exact ih1 _ _ _ _
      | exact ih2 _ _ _ _ _ _
      | exact ih3 _ _ _ _ _ _ _
      | exact ih4 _ _ _ _ _ _
      | exact packet_Read.mono _ _
      | exact packet_Write.mono _ _ _ _ _
      | exact vignettelaw21_writes.mono _
      | exact LeO.none _
      | refine LeO.ite ?_ ?_
      | refine LeO.bind ?_ (fun _ => ?_)
theorem vignettelaw21_PacketBack.mono : ∀ a0 a1 a2 a3 a4 a5 k, LeO (vignettelaw21_PacketBack.f k a0 a1 a2 a3 a4 a5) (vignettelaw21_PacketBack.f (k + 1) a0 a1 a2 a3 a4 a5) := by
  intro a0 a1 a2 a3 a4 a5 k
  obtain ⟨ih0, ih1, ih2, ih3, ih4⟩ := vignettelaw21_PacketBack.mono_l k
  unfold vignettelaw21_PacketBack.f
  repeat' first
      | (with_reducible exact ih0 _ _ _ _)
      | (with_reducible exact ih1 _ _ _ _)
      | (with_reducible exact ih2 _ _ _ _ _ _)
      | (with_reducible exact ih3 _ _ _ _ _ _ _)
      | (with_reducible exact ih4 _ _ _ _ _ _)
      | (with_reducible exact packet_Read.mono _ _)
      | (with_reducible exact packet_Write.mono _ _ _ _ _)
      | (with_reducible exact vignettelaw21_writes.mono _)
      | (with_reducible exact LeO.refl _)
      | (with_reducible exact LeO.none _)
      | (with_reducible refine LeO.ite ?_ ?_)
      | (with_reducible refine LeO.bind ?_ (fun _ => ?_))
      | exact ih0 _ _ _ _
      | exact ih1 _ _ _ _
      | exact ih2 _ _ _ _ _ _
      | exact ih3 _ _ _ _ _ _ _
      | exact ih4 _ _ _ _ _ _
      | exact packet_Read.mono _ _
      | exact packet_Write.mono _ _ _ _ _
      | exact vignettelaw21_writes.mono _
      | exact LeO.none _
      | refine LeO.ite ?_ ?_
      | refine LeO.bind ?_ (fun _ => ?_)
def vignettelaw21_PacketBack.T19 : Bool × List (List Nat × List Nat) := (true, [([], []), ([], []), ([], []), ([1, 2], [1, 2]), ([3], [3]), ([], []), ([], []), ([], []), ([6, 7], [6, 7]), ([8], [8]), ([5, 9], [5, 9]), ([10], [10]), ([], []), ([], []), ([12, 13], [12, 13]), ([14], [14]), ([15], [15]), ([11, 16], [11, 16]), ([0, 4, 0, 1, 2, 3, 4, 5, 6, 7, 8, 9, 10, 11, 12, 13, 14, 15, 16, 17], [0, 4]), ([18, 17, 0, 1, 2, 3, 4, 5, 6, 7, 8, 9, 10, 11, 12, 13, 14, 15, 16, 17], [17, 18])])
def vignettelaw21_PacketBack.B19 : List Nat := [0, 0, 0, 6, 14, 0, 0, 0, 192, 448, 992, 2016, 0, 0, 12288, 28672, 61440, 131040, 262143, 524287]
theorem vignettelaw21_PacketBack.tab19 : rtab .any (opsOf Try.f10 19) = vignettelaw21_PacketBack.T19 := by kernel_rfl
theorem vignettelaw21_PacketBack.bits19 : waitsOk vignettelaw21_PacketBack.T19.2 vignettelaw21_PacketBack.B19 = true := by kernel_rfl
set_option maxHeartbeats 8000000 in
set_option maxRecDepth 100000 in
theorem vignettelaw21_PacketBack.calls (k : Nat) (a0_0 : Int) (a0_1 : Int) (a0_2 : Int) (A0_3 : Option Addr) (c0_3 : Nat) (l0_3 : List Int) (a1 : Int) (a2 : Int) (r : Bool) (w : World) (hr0_3 : Kd.C (Kd.int .u8) w A0_3 l0_3.length l0_3) (hc0_3 : l0_3.length ≤ c0_3) (h : vignettelaw21_PacketBack.f k a0_0 a0_1 a0_2 l0_3 a1 a2 = some r) :
    Calls Try.prog 10 #[.agg #[.int .u32 a0_0, .int .u64 a0_1, .int .u64 a0_2, .slice A0_3 l0_3.length c0_3], .int .i64 a1, .int .u32 a2] w fun e w' => e = .returned (.bool r) ∧ Below w.heap.size w w' := by
  have hu32 := Try.underlying32
  have HR0_3 := Aside0.mk hr0_3
  have HC0_3 := Aside0.mk hc0_3
  clear hr0_3 hc0_3
  have HB := Aside0.mk (Below.refl w.heap.size w)
  have H : (if (l0_3.length : Int) > 2000 then (some true) else ((packet_Write.f k a0_0 a0_1 a0_2 l0_3).bind fun bt305 => (if (l0_3.length : Int) > 256 then (if bt305.2 = 2 then (if (bt305.1.length : Int) = 0 then ((vignettelaw21_writes.f k).bind fun t309 => (some t309)) else (some false)) else (some false)) else ((packet_Read.f k bt305.1).bind fun bt310 => (if bt305.2 = 0 then (if bt310.2.2.2.2 = 0 then ((vignetteref21_Same.f a0_0 a0_1 a0_2 l0_3 bt310.1 bt310.2.1 bt310.2.2.1 bt310.2.2.2.1).bind fun t318 => (if t318 = true then (vignettelaw21_PacketBack.j0 k a1 a2 bt305.1 ((bt305.1.length : Int) != (wrap64 (24 + (l0_3.length : Int))))) else (vignettelaw21_PacketBack.j0 k a1 a2 bt305.1 true))) else (vignettelaw21_PacketBack.j0 k a1 a2 bt305.1 true)) else (vignettelaw21_PacketBack.j0 k a1 a2 bt305.1 true)))))) = some r := h
  clear h
  by_cases c4 : (l0_3.length : Int) > 2000
  · rw [if_pos c4] at H
    have c4b0 : decide (2000 < (l0_3.length : Int)) = true := decide_eq_true c4
    have c4b1 : decide (2000 < l0_3.length) = true := decide_eq_true (by omega)
    clear c4
    obtain rfl := Option.some.inj H
    go_enter Try.func10, Try.ntmps10
    go_wp2_with (first | ((with_reducible refine gate_dst (N := 3) rfl ?_); (try (refine gate_guard (by rfl) ?_; dsimp only)); refine box_event ?hg (N := 3) ?hd (cs := #[.int .u32 a0_0, .int .u64 a0_1, .int .u64 a0_2, .slice A0_3 l0_3.length c0_3]) (t := 32) ?hr ?_; (case hd => rfl); (case hg => rfl); (case hr => first | (go_simp; done) | (go_simp; rfl)); intro gb304 hg w5 hbox hb; have n0_ := Aside0.mk (below_step (by repeat (first | (with_reducible first | exact HB.out | apply below_alloc | apply pw_below_drewN | apply below_drew1) | exact HB.out)) hb); have n1_ := Aside0.mk (hbox); have n2_ := Aside0.mk ((by rw [hg]; exact (below_size (by repeat (first | (with_reducible first | exact HB.out | apply below_alloc | apply pw_below_drewN | apply below_drew1) | exact HB.out))) : w.heap.size ≤ gb304)); have n3_ := Aside0.mk ((by rw [hg]; exact (below_size (by repeat (first | (with_reducible first | exact HB.out | apply below_alloc | apply pw_below_drewN | apply below_drew1) | exact HB.out))) : w.heap.size ≤ gb304)); clear HB; have HB := n0_; have BK304 := n1_; have GW304 := n2_; have GE304 := n3_; clear n0_ n1_ n2_ n3_; clear hb hbox hg; have hcz6_0 : w5.cell? ⟨gb304, 0, none⟩ = some (.int .u32 a0_0) := (blk_cell BK304.out 0).trans rfl; have hcz6_1 : w5.cell? ⟨gb304, 1, none⟩ = some (.int .u64 a0_1) := (blk_cell BK304.out 1).trans rfl; have hcz6_2 : w5.cell? ⟨gb304, 2, none⟩ = some (.int .u64 a0_2) := (blk_cell BK304.out 2).trans rfl; have hcz6_3 : w5.cell? ⟨gb304, 3, none⟩ = some (.slice A0_3 l0_3.length c0_3) := (blk_cell BK304.out 3).trans rfl; have hfz6_0 := blk_frozen BK304.out 0; have hfz6_1 := blk_frozen BK304.out 1; have hfz6_2 := blk_frozen BK304.out 2; have hfz6_3 := blk_frozen BK304.out 3))
    go_ret
    exact ⟨by first | rfl | (simp [errW_none, errW_some] <;> rfl) | (simp [*, errW_none, errW_some] <;> rfl), by repeat (first | (with_reducible first | exact HB.out | apply below_alloc | apply pw_below_drewN | apply below_drew1 | refine below_set ?_ GE304.out) | exact HB.out)⟩
  · rw [if_neg c4] at H
    have c4b0 : decide (2000 < (l0_3.length : Int)) = false := decide_eq_false c4
    have c4b1 : decide (2000 < l0_3.length) = false := decide_eq_false (by omega)
    clear c4
    replace H := Option.bind_eq_some_iff.mp H
    obtain ⟨⟨t305, t308⟩, A70, H⟩ := H
    replace H : (if (l0_3.length : Int) > 256 then (if t308 = 2 then (if (t305.length : Int) = 0 then ((vignettelaw21_writes.f k).bind fun t309 => (some t309)) else (some false)) else (some false)) else ((packet_Read.f k t305).bind fun bt310 => (if t308 = 0 then (if bt310.2.2.2.2 = 0 then ((vignetteref21_Same.f a0_0 a0_1 a0_2 l0_3 bt310.1 bt310.2.1 bt310.2.2.1 bt310.2.2.2.1).bind fun t318 => (if t318 = true then (vignettelaw21_PacketBack.j0 k a1 a2 t305 ((t305.length : Int) != (wrap64 (24 + (l0_3.length : Int))))) else (vignettelaw21_PacketBack.j0 k a1 a2 t305 true))) else (vignettelaw21_PacketBack.j0 k a1 a2 t305 true)) else (vignettelaw21_PacketBack.j0 k a1 a2 t305 true)))) = some r := H
    have A7 := Aside0.mk A70
    clear A70
    by_cases c8 : (l0_3.length : Int) > 256
    · rw [if_pos c8] at H
      have c8b0 : decide (256 < (l0_3.length : Int)) = true := decide_eq_true c8
      have c8b1 : decide (256 < l0_3.length) = true := decide_eq_true (by omega)
      clear c8
      by_cases c9 : t308 = 2
      · rw [if_pos c9] at H
        have c9b0 : (t308 == 2) = true := beq_iff_eq.mpr c9
        have c9b1 : (t308 != 2) = false := bne_eq_false_iff_eq.mpr c9
        clear c9
        by_cases c10 : (t305.length : Int) = 0
        · rw [if_pos c10] at H
          have c10b0 : ((t305.length : Int) == 0) = true := beq_iff_eq.mpr c10
          have c10b1 : ((t305.length : Int) != 0) = false := bne_eq_false_iff_eq.mpr c10
          clear c10
          replace H := Option.bind_eq_some_iff.mp H
          obtain ⟨t309, A110, H⟩ := H
          replace H : (some t309) = some r := H
          have A11 := Aside0.mk A110
          clear A110
          obtain rfl := Option.some.inj H
          go_enter Try.func10, Try.ntmps10
          go_wp2_with (first | ((with_reducible refine gate_dst (N := 3) rfl ?_); (try (refine gate_guard (by rfl) ?_; dsimp only)); refine box_event ?hg (N := 3) ?hd (cs := #[.int .u32 a0_0, .int .u64 a0_1, .int .u64 a0_2, .slice A0_3 l0_3.length c0_3]) (t := 32) ?hr ?_; (case hd => rfl); (case hg => rfl); (case hr => first | (go_simp; done) | (go_simp; rfl)); intro gb304 hg w12 hbox hb; have n0_ := Aside0.mk (below_step (by repeat (first | (with_reducible first | exact HB.out | apply below_alloc | apply pw_below_drewN | apply below_drew1) | exact HB.out)) hb); have n1_ := Aside0.mk (hbox); have n2_ := Aside0.mk ((by rw [hg]; exact (below_size (by repeat (first | (with_reducible first | exact HB.out | apply below_alloc | apply pw_below_drewN | apply below_drew1) | exact HB.out))) : w.heap.size ≤ gb304)); have n3_ := Aside0.mk ((by rw [hg]; exact (below_size (by repeat (first | (with_reducible first | exact HB.out | apply below_alloc | apply pw_below_drewN | apply below_drew1) | exact HB.out))) : w.heap.size ≤ gb304)); clear HB; have HB := n0_; have BK304 := n1_; have GW304 := n2_; have GE304 := n3_; clear n0_ n1_ n2_ n3_; clear hb hbox hg; have hcz13_0 : w12.cell? ⟨gb304, 0, none⟩ = some (.int .u32 a0_0) := (blk_cell BK304.out 0).trans rfl; have hcz13_1 : w12.cell? ⟨gb304, 1, none⟩ = some (.int .u64 a0_1) := (blk_cell BK304.out 1).trans rfl; have hcz13_2 : w12.cell? ⟨gb304, 2, none⟩ = some (.int .u64 a0_2) := (blk_cell BK304.out 2).trans rfl; have hcz13_3 : w12.cell? ⟨gb304, 3, none⟩ = some (.slice A0_3 l0_3.length c0_3) := (blk_cell BK304.out 3).trans rfl; have hfz13_0 := blk_frozen BK304.out 0; have hfz13_1 := blk_frozen BK304.out 1; have hfz13_2 := blk_frozen BK304.out 2; have hfz13_3 := blk_frozen BK304.out 3) | ((with_reducible refine gate_callee (f := 22) rfl ?_); refine goesL_ (some 23) rfl rfl Try.func22 (by kernel_rfl) rfl #[.agg #[.int .u32 a0_0, .int .u64 a0_1, .int .u64 a0_2, .slice A0_3 l0_3.length c0_3]] rfl (by (try simp only [List.map_toArray, List.map_cons, List.map_nil]); first | done | rfl | (simp only [List.length_drop, List.length_take]; rfl)) ?_; (with_reducible refine (packet_Write.calls k a0_0 a0_1 a0_2 _ _ l0_3 t305 t308 _ ?side1 ?side2 A7.out).mono ?_); (case side1 => repeat (first | exact (Kd.C_below HR0_3.out HB.out) | (with_reducible refine Kd.C_alloc ?_ _) | (with_reducible refine Kd.C_drewN ?_ _) | (with_reducible refine Kd.C_drew ?_))); (case side2 => exact HC0_3.out); rintro e w14 ⟨v306, rfl, ho0, hb⟩; refine ⟨_, rfl, ?_⟩; have n0_ := Aside0.mk (Kd.R_lower ho0 (below_size (by repeat (first | (with_reducible first | exact HB.out | apply below_alloc | apply pw_below_drewN | apply below_drew1 | refine below_set ?_ GE304.out) | exact HB.out)))); have n1_ := Aside0.mk (blk_below (g := gb304) (o := .cells #[.int .u32 a0_0, .int .u64 a0_1, .int .u64 a0_2, .slice A0_3 l0_3.length c0_3] 32 (0, 0)) (by (with_reducible repeat (first | refine blk_drewN ?_ _ | refine blk_drew ?_ | refine blk_alloc ?_ _)); exact BK304.out) hb); have n2_ := Aside0.mk (below_step (by repeat (first | (with_reducible first | exact HB.out | apply below_alloc | apply pw_below_drewN | apply below_drew1 | refine below_set ?_ GE304.out) | exact HB.out)) hb); clear BK304; clear HB; have HO307 := n0_; have BK304 := n1_; have HB := n2_; clear n0_ n1_ n2_; (try clear hb); (try clear hb2); (try clear hk); (try clear hi); (try clear ho0); have hcz15_0 : w14.cell? ⟨gb304, 0, none⟩ = some (.int .u32 a0_0) := (blk_cell BK304.out 0).trans rfl; have hcz15_1 : w14.cell? ⟨gb304, 1, none⟩ = some (.int .u64 a0_1) := (blk_cell BK304.out 1).trans rfl; have hcz15_2 : w14.cell? ⟨gb304, 2, none⟩ = some (.int .u64 a0_2) := (blk_cell BK304.out 2).trans rfl; have hcz15_3 : w14.cell? ⟨gb304, 3, none⟩ = some (.slice A0_3 l0_3.length c0_3) := (blk_cell BK304.out 3).trans rfl; have hfz15_0 := blk_frozen BK304.out 0; have hfz15_1 := blk_frozen BK304.out 1; have hfz15_2 := blk_frozen BK304.out 2; have hfz15_3 := blk_frozen BK304.out 3; obtain ⟨Ao16, co16, eo16⟩ := Kd.R_slice HO307.out; subst eo16) | (go_at_call 25; (with_reducible refine (vignettelaw21_writes.calls k  t309 _ A11.out).mono ?_); rintro e w17 ⟨rfl, hb⟩; have n0_ := Aside0.mk (Kd.R_below (by (with_reducible repeat (first | apply Kd.R_alloc | apply Kd.R_drewN | apply Kd.R_drew)); exact HO307.out) hb); have n1_ := Aside0.mk (blk_below (g := gb304) (o := .cells #[.int .u32 a0_0, .int .u64 a0_1, .int .u64 a0_2, .slice A0_3 l0_3.length c0_3] 32 (0, 0)) (by (with_reducible repeat (first | refine blk_drewN ?_ _ | refine blk_drew ?_ | refine blk_alloc ?_ _)); exact BK304.out) hb); have n2_ := Aside0.mk (below_step (by repeat (first | (with_reducible first | exact HB.out | apply below_alloc | apply pw_below_drewN | apply below_drew1 | refine below_set ?_ GE304.out) | exact HB.out)) hb); clear HO307; clear BK304; clear HB; have HO307 := n0_; have BK304 := n1_; have HB := n2_; clear n0_ n1_ n2_; (try clear hb); (try clear hb2); (try clear hk); (try clear hi)))
          go_ret
          exact ⟨by first | rfl | (simp [errW_none, errW_some] <;> rfl) | (simp [*, errW_none, errW_some] <;> rfl), by repeat (first | (with_reducible first | exact HB.out | apply below_alloc | apply pw_below_drewN | apply below_drew1 | refine below_set ?_ GE304.out) | exact HB.out)⟩
        · rw [if_neg c10] at H
          have c10b0 : ((t305.length : Int) == 0) = false := beq_eq_false_iff_ne.mpr c10
          have c10b1 : ((t305.length : Int) != 0) = true := bne_iff_ne.mpr c10
          have c10b2 : ¬ (t305 = []) := fun h_ => c10 (by rw [h_]; rfl)
          obtain rfl := Option.some.inj H
          go_enter Try.func10, Try.ntmps10
          go_wp2_with (first | ((with_reducible refine gate_dst (N := 3) rfl ?_); (try (refine gate_guard (by rfl) ?_; dsimp only)); refine box_event ?hg (N := 3) ?hd (cs := #[.int .u32 a0_0, .int .u64 a0_1, .int .u64 a0_2, .slice A0_3 l0_3.length c0_3]) (t := 32) ?hr ?_; (case hd => rfl); (case hg => rfl); (case hr => first | (go_simp; done) | (go_simp; rfl)); intro gb304 hg w18 hbox hb; have n0_ := Aside0.mk (below_step (by repeat (first | (with_reducible first | exact HB.out | apply below_alloc | apply pw_below_drewN | apply below_drew1) | exact HB.out)) hb); have n1_ := Aside0.mk (hbox); have n2_ := Aside0.mk ((by rw [hg]; exact (below_size (by repeat (first | (with_reducible first | exact HB.out | apply below_alloc | apply pw_below_drewN | apply below_drew1) | exact HB.out))) : w.heap.size ≤ gb304)); have n3_ := Aside0.mk ((by rw [hg]; exact (below_size (by repeat (first | (with_reducible first | exact HB.out | apply below_alloc | apply pw_below_drewN | apply below_drew1) | exact HB.out))) : w.heap.size ≤ gb304)); clear HB; have HB := n0_; have BK304 := n1_; have GW304 := n2_; have GE304 := n3_; clear n0_ n1_ n2_ n3_; clear hb hbox hg; have hcz19_0 : w18.cell? ⟨gb304, 0, none⟩ = some (.int .u32 a0_0) := (blk_cell BK304.out 0).trans rfl; have hcz19_1 : w18.cell? ⟨gb304, 1, none⟩ = some (.int .u64 a0_1) := (blk_cell BK304.out 1).trans rfl; have hcz19_2 : w18.cell? ⟨gb304, 2, none⟩ = some (.int .u64 a0_2) := (blk_cell BK304.out 2).trans rfl; have hcz19_3 : w18.cell? ⟨gb304, 3, none⟩ = some (.slice A0_3 l0_3.length c0_3) := (blk_cell BK304.out 3).trans rfl; have hfz19_0 := blk_frozen BK304.out 0; have hfz19_1 := blk_frozen BK304.out 1; have hfz19_2 := blk_frozen BK304.out 2; have hfz19_3 := blk_frozen BK304.out 3) | ((with_reducible refine gate_callee (f := 22) rfl ?_); refine goesL_ (some 23) rfl rfl Try.func22 (by kernel_rfl) rfl #[.agg #[.int .u32 a0_0, .int .u64 a0_1, .int .u64 a0_2, .slice A0_3 l0_3.length c0_3]] rfl (by (try simp only [List.map_toArray, List.map_cons, List.map_nil]); first | done | rfl | (simp only [List.length_drop, List.length_take]; rfl)) ?_; (with_reducible refine (packet_Write.calls k a0_0 a0_1 a0_2 _ _ l0_3 t305 t308 _ ?side1 ?side2 A7.out).mono ?_); (case side1 => repeat (first | exact (Kd.C_below HR0_3.out HB.out) | (with_reducible refine Kd.C_alloc ?_ _) | (with_reducible refine Kd.C_drewN ?_ _) | (with_reducible refine Kd.C_drew ?_))); (case side2 => exact HC0_3.out); rintro e w20 ⟨v306, rfl, ho0, hb⟩; refine ⟨_, rfl, ?_⟩; have n0_ := Aside0.mk (Kd.R_lower ho0 (below_size (by repeat (first | (with_reducible first | exact HB.out | apply below_alloc | apply pw_below_drewN | apply below_drew1 | refine below_set ?_ GE304.out) | exact HB.out)))); have n1_ := Aside0.mk (blk_below (g := gb304) (o := .cells #[.int .u32 a0_0, .int .u64 a0_1, .int .u64 a0_2, .slice A0_3 l0_3.length c0_3] 32 (0, 0)) (by (with_reducible repeat (first | refine blk_drewN ?_ _ | refine blk_drew ?_ | refine blk_alloc ?_ _)); exact BK304.out) hb); have n2_ := Aside0.mk (below_step (by repeat (first | (with_reducible first | exact HB.out | apply below_alloc | apply pw_below_drewN | apply below_drew1 | refine below_set ?_ GE304.out) | exact HB.out)) hb); clear BK304; clear HB; have HO307 := n0_; have BK304 := n1_; have HB := n2_; clear n0_ n1_ n2_; (try clear hb); (try clear hb2); (try clear hk); (try clear hi); (try clear ho0); have hcz21_0 : w20.cell? ⟨gb304, 0, none⟩ = some (.int .u32 a0_0) := (blk_cell BK304.out 0).trans rfl; have hcz21_1 : w20.cell? ⟨gb304, 1, none⟩ = some (.int .u64 a0_1) := (blk_cell BK304.out 1).trans rfl; have hcz21_2 : w20.cell? ⟨gb304, 2, none⟩ = some (.int .u64 a0_2) := (blk_cell BK304.out 2).trans rfl; have hcz21_3 : w20.cell? ⟨gb304, 3, none⟩ = some (.slice A0_3 l0_3.length c0_3) := (blk_cell BK304.out 3).trans rfl; have hfz21_0 := blk_frozen BK304.out 0; have hfz21_1 := blk_frozen BK304.out 1; have hfz21_2 := blk_frozen BK304.out 2; have hfz21_3 := blk_frozen BK304.out 3; obtain ⟨Ao22, co22, eo22⟩ := Kd.R_slice HO307.out; subst eo22))
          go_ret
          exact ⟨by first | rfl | (simp [errW_none, errW_some] <;> rfl) | (simp [*, errW_none, errW_some] <;> rfl), by repeat (first | (with_reducible first | exact HB.out | apply below_alloc | apply pw_below_drewN | apply below_drew1 | refine below_set ?_ GE304.out) | exact HB.out)⟩
      · rw [if_neg c9] at H
        have c9b0 : (t308 == 2) = false := beq_eq_false_iff_ne.mpr c9
        have c9b1 : (t308 != 2) = true := bne_iff_ne.mpr c9
        obtain rfl := Option.some.inj H
        go_enter Try.func10, Try.ntmps10
        go_wp2_with (first | ((with_reducible refine gate_dst (N := 3) rfl ?_); (try (refine gate_guard (by rfl) ?_; dsimp only)); refine box_event ?hg (N := 3) ?hd (cs := #[.int .u32 a0_0, .int .u64 a0_1, .int .u64 a0_2, .slice A0_3 l0_3.length c0_3]) (t := 32) ?hr ?_; (case hd => rfl); (case hg => rfl); (case hr => first | (go_simp; done) | (go_simp; rfl)); intro gb304 hg w23 hbox hb; have n0_ := Aside0.mk (below_step (by repeat (first | (with_reducible first | exact HB.out | apply below_alloc | apply pw_below_drewN | apply below_drew1) | exact HB.out)) hb); have n1_ := Aside0.mk (hbox); have n2_ := Aside0.mk ((by rw [hg]; exact (below_size (by repeat (first | (with_reducible first | exact HB.out | apply below_alloc | apply pw_below_drewN | apply below_drew1) | exact HB.out))) : w.heap.size ≤ gb304)); have n3_ := Aside0.mk ((by rw [hg]; exact (below_size (by repeat (first | (with_reducible first | exact HB.out | apply below_alloc | apply pw_below_drewN | apply below_drew1) | exact HB.out))) : w.heap.size ≤ gb304)); clear HB; have HB := n0_; have BK304 := n1_; have GW304 := n2_; have GE304 := n3_; clear n0_ n1_ n2_ n3_; clear hb hbox hg; have hcz24_0 : w23.cell? ⟨gb304, 0, none⟩ = some (.int .u32 a0_0) := (blk_cell BK304.out 0).trans rfl; have hcz24_1 : w23.cell? ⟨gb304, 1, none⟩ = some (.int .u64 a0_1) := (blk_cell BK304.out 1).trans rfl; have hcz24_2 : w23.cell? ⟨gb304, 2, none⟩ = some (.int .u64 a0_2) := (blk_cell BK304.out 2).trans rfl; have hcz24_3 : w23.cell? ⟨gb304, 3, none⟩ = some (.slice A0_3 l0_3.length c0_3) := (blk_cell BK304.out 3).trans rfl; have hfz24_0 := blk_frozen BK304.out 0; have hfz24_1 := blk_frozen BK304.out 1; have hfz24_2 := blk_frozen BK304.out 2; have hfz24_3 := blk_frozen BK304.out 3) | ((with_reducible refine gate_callee (f := 22) rfl ?_); refine goesL_ (some 23) rfl rfl Try.func22 (by kernel_rfl) rfl #[.agg #[.int .u32 a0_0, .int .u64 a0_1, .int .u64 a0_2, .slice A0_3 l0_3.length c0_3]] rfl (by (try simp only [List.map_toArray, List.map_cons, List.map_nil]); first | done | rfl | (simp only [List.length_drop, List.length_take]; rfl)) ?_; (with_reducible refine (packet_Write.calls k a0_0 a0_1 a0_2 _ _ l0_3 t305 t308 _ ?side1 ?side2 A7.out).mono ?_); (case side1 => repeat (first | exact (Kd.C_below HR0_3.out HB.out) | (with_reducible refine Kd.C_alloc ?_ _) | (with_reducible refine Kd.C_drewN ?_ _) | (with_reducible refine Kd.C_drew ?_))); (case side2 => exact HC0_3.out); rintro e w25 ⟨v306, rfl, ho0, hb⟩; refine ⟨_, rfl, ?_⟩; have n0_ := Aside0.mk (Kd.R_lower ho0 (below_size (by repeat (first | (with_reducible first | exact HB.out | apply below_alloc | apply pw_below_drewN | apply below_drew1 | refine below_set ?_ GE304.out) | exact HB.out)))); have n1_ := Aside0.mk (blk_below (g := gb304) (o := .cells #[.int .u32 a0_0, .int .u64 a0_1, .int .u64 a0_2, .slice A0_3 l0_3.length c0_3] 32 (0, 0)) (by (with_reducible repeat (first | refine blk_drewN ?_ _ | refine blk_drew ?_ | refine blk_alloc ?_ _)); exact BK304.out) hb); have n2_ := Aside0.mk (below_step (by repeat (first | (with_reducible first | exact HB.out | apply below_alloc | apply pw_below_drewN | apply below_drew1 | refine below_set ?_ GE304.out) | exact HB.out)) hb); clear BK304; clear HB; have HO307 := n0_; have BK304 := n1_; have HB := n2_; clear n0_ n1_ n2_; (try clear hb); (try clear hb2); (try clear hk); (try clear hi); (try clear ho0); have hcz26_0 : w25.cell? ⟨gb304, 0, none⟩ = some (.int .u32 a0_0) := (blk_cell BK304.out 0).trans rfl; have hcz26_1 : w25.cell? ⟨gb304, 1, none⟩ = some (.int .u64 a0_1) := (blk_cell BK304.out 1).trans rfl; have hcz26_2 : w25.cell? ⟨gb304, 2, none⟩ = some (.int .u64 a0_2) := (blk_cell BK304.out 2).trans rfl; have hcz26_3 : w25.cell? ⟨gb304, 3, none⟩ = some (.slice A0_3 l0_3.length c0_3) := (blk_cell BK304.out 3).trans rfl; have hfz26_0 := blk_frozen BK304.out 0; have hfz26_1 := blk_frozen BK304.out 1; have hfz26_2 := blk_frozen BK304.out 2; have hfz26_3 := blk_frozen BK304.out 3))
        go_ret
        exact ⟨by first | rfl | (simp [errW_none, errW_some] <;> rfl) | (simp [*, errW_none, errW_some] <;> rfl), by repeat (first | (with_reducible first | exact HB.out | apply below_alloc | apply pw_below_drewN | apply below_drew1 | refine below_set ?_ GE304.out) | exact HB.out)⟩
    · rw [if_neg c8] at H
      have c8b0 : decide (256 < (l0_3.length : Int)) = false := decide_eq_false c8
      have c8b1 : decide (256 < l0_3.length) = false := decide_eq_false (by omega)
      clear c8
      replace H := Option.bind_eq_some_iff.mp H
      obtain ⟨⟨t310, t311, t312, t313, t316⟩, A270, H⟩ := H
      replace H : (if t308 = 0 then (if t316 = 0 then ((vignetteref21_Same.f a0_0 a0_1 a0_2 l0_3 t310 t311 t312 t313).bind fun t318 => (if t318 = true then (vignettelaw21_PacketBack.j0 k a1 a2 t305 ((t305.length : Int) != (wrap64 (24 + (l0_3.length : Int))))) else (vignettelaw21_PacketBack.j0 k a1 a2 t305 true))) else (vignettelaw21_PacketBack.j0 k a1 a2 t305 true)) else (vignettelaw21_PacketBack.j0 k a1 a2 t305 true)) = some r := H
      have A27 := Aside0.mk A270
      clear A270
      have HC28 := Aside0.mk H
      clear H
      go_enter Try.func10, Try.ntmps10
      go_upto_region 7 with (first | ((with_reducible refine gate_dst (N := 3) rfl ?_); (try (refine gate_guard (by rfl) ?_; dsimp only)); refine box_event ?hg (N := 3) ?hd (cs := #[.int .u32 a0_0, .int .u64 a0_1, .int .u64 a0_2, .slice A0_3 l0_3.length c0_3]) (t := 32) ?hr ?_; (case hd => rfl); (case hg => rfl); (case hr => first | (go_simp; done) | (go_simp; rfl)); intro gb304 hg w29 hbox hb; have n0_ := Aside0.mk (below_step (by repeat (first | (with_reducible first | exact HB.out | apply below_alloc | apply pw_below_drewN | apply below_drew1) | exact HB.out)) hb); have n1_ := Aside0.mk (hbox); have n2_ := Aside0.mk ((by rw [hg]; exact (below_size (by repeat (first | (with_reducible first | exact HB.out | apply below_alloc | apply pw_below_drewN | apply below_drew1) | exact HB.out))) : w.heap.size ≤ gb304)); have n3_ := Aside0.mk ((by rw [hg]; exact (below_size (by repeat (first | (with_reducible first | exact HB.out | apply below_alloc | apply pw_below_drewN | apply below_drew1) | exact HB.out))) : w.heap.size ≤ gb304)); clear HB; have HB := n0_; have BK304 := n1_; have GW304 := n2_; have GE304 := n3_; clear n0_ n1_ n2_ n3_; clear hb hbox hg; have hcz30_0 : w29.cell? ⟨gb304, 0, none⟩ = some (.int .u32 a0_0) := (blk_cell BK304.out 0).trans rfl; have hcz30_1 : w29.cell? ⟨gb304, 1, none⟩ = some (.int .u64 a0_1) := (blk_cell BK304.out 1).trans rfl; have hcz30_2 : w29.cell? ⟨gb304, 2, none⟩ = some (.int .u64 a0_2) := (blk_cell BK304.out 2).trans rfl; have hcz30_3 : w29.cell? ⟨gb304, 3, none⟩ = some (.slice A0_3 l0_3.length c0_3) := (blk_cell BK304.out 3).trans rfl; have hfz30_0 := blk_frozen BK304.out 0; have hfz30_1 := blk_frozen BK304.out 1; have hfz30_2 := blk_frozen BK304.out 2; have hfz30_3 := blk_frozen BK304.out 3) | ((with_reducible refine gate_callee (f := 22) rfl ?_); refine goesL_ (some 23) rfl rfl Try.func22 (by kernel_rfl) rfl #[.agg #[.int .u32 a0_0, .int .u64 a0_1, .int .u64 a0_2, .slice A0_3 l0_3.length c0_3]] rfl (by (try simp only [List.map_toArray, List.map_cons, List.map_nil]); first | done | rfl | (simp only [List.length_drop, List.length_take]; rfl)) ?_; (with_reducible refine (packet_Write.calls k a0_0 a0_1 a0_2 _ _ l0_3 t305 t308 _ ?side1 ?side2 A7.out).mono ?_); (case side1 => repeat (first | exact (Kd.C_below HR0_3.out HB.out) | (with_reducible refine Kd.C_alloc ?_ _) | (with_reducible refine Kd.C_drewN ?_ _) | (with_reducible refine Kd.C_drew ?_))); (case side2 => exact HC0_3.out); rintro e w31 ⟨v306, rfl, ho0, hb⟩; refine ⟨_, rfl, ?_⟩; have n0_ := Aside0.mk (Kd.R_lower ho0 (below_size (by repeat (first | (with_reducible first | exact HB.out | apply below_alloc | apply pw_below_drewN | apply below_drew1 | refine below_set ?_ GE304.out) | exact HB.out)))); have n1_ := Aside0.mk (blk_below (g := gb304) (o := .cells #[.int .u32 a0_0, .int .u64 a0_1, .int .u64 a0_2, .slice A0_3 l0_3.length c0_3] 32 (0, 0)) (by (with_reducible repeat (first | refine blk_drewN ?_ _ | refine blk_drew ?_ | refine blk_alloc ?_ _)); exact BK304.out) hb); have n2_ := Aside0.mk (below_step (by repeat (first | (with_reducible first | exact HB.out | apply below_alloc | apply pw_below_drewN | apply below_drew1 | refine below_set ?_ GE304.out) | exact HB.out)) hb); clear BK304; clear HB; have HO307 := n0_; have BK304 := n1_; have HB := n2_; clear n0_ n1_ n2_; (try clear hb); (try clear hb2); (try clear hk); (try clear hi); (try clear ho0); have hcz32_0 : w31.cell? ⟨gb304, 0, none⟩ = some (.int .u32 a0_0) := (blk_cell BK304.out 0).trans rfl; have hcz32_1 : w31.cell? ⟨gb304, 1, none⟩ = some (.int .u64 a0_1) := (blk_cell BK304.out 1).trans rfl; have hcz32_2 : w31.cell? ⟨gb304, 2, none⟩ = some (.int .u64 a0_2) := (blk_cell BK304.out 2).trans rfl; have hcz32_3 : w31.cell? ⟨gb304, 3, none⟩ = some (.slice A0_3 l0_3.length c0_3) := (blk_cell BK304.out 3).trans rfl; have hfz32_0 := blk_frozen BK304.out 0; have hfz32_1 := blk_frozen BK304.out 1; have hfz32_2 := blk_frozen BK304.out 2; have hfz32_3 := blk_frozen BK304.out 3; obtain ⟨Ao33, co33, eo33⟩ := Kd.R_slice HO307.out; subst eo33) | ((with_reducible refine gate_callee (f := 26) rfl ?_); refine goesL_ (some 42) rfl rfl Try.func26 (by kernel_rfl) rfl #[.slice Ao33 t305.length co33] rfl (by (try simp only [List.map_toArray, List.map_cons, List.map_nil]); first | done | rfl | (simp only [List.length_drop, List.length_take]; rfl)) ?_; (with_reducible refine (packet_Read.calls k _ _ t305 t310 t311 t312 t313 t316 _ ?side1 ?side2 A27.out).mono ?_); (case side1 => repeat (first | exact (Kd.R_reads' HO307.out).2.2 | (with_reducible refine Kd.C_alloc ?_ _) | (with_reducible refine Kd.C_drewN ?_ _) | (with_reducible refine Kd.C_drew ?_))); (case side2 => exact (Kd.R_reads' HO307.out).2.1); rintro e w34 ⟨v314, rfl, ho0, hb⟩; refine ⟨_, rfl, ?_⟩; have n0_ := Aside0.mk (Kd.R_elder' (by (with_reducible repeat (first | apply Kd.R_alloc | apply Kd.R_drewN | apply Kd.R_drew)); exact HO307.out) (Kd.R_base ho0) hb); have n1_ := Aside0.mk (Kd.R_lower (Kd.R_new' ho0 (Kd.R_lt (by (with_reducible repeat (first | apply Kd.R_alloc | apply Kd.R_drewN | apply Kd.R_drew)); exact HO307.out))) (below_size (by repeat (first | (with_reducible first | exact HB.out | apply below_alloc | apply pw_below_drewN | apply below_drew1 | refine below_set ?_ GE304.out) | exact HB.out)))); have n2_ := Aside0.mk (blk_below (g := gb304) (o := .cells #[.int .u32 a0_0, .int .u64 a0_1, .int .u64 a0_2, .slice A0_3 l0_3.length c0_3] 32 (0, 0)) (by (with_reducible repeat (first | refine blk_drewN ?_ _ | refine blk_drew ?_ | refine blk_alloc ?_ _)); exact BK304.out) hb); have n3_ := Aside0.mk (below_step (by repeat (first | (with_reducible first | exact HB.out | apply below_alloc | apply pw_below_drewN | apply below_drew1 | refine below_set ?_ GE304.out) | exact HB.out)) hb); clear HO307; clear BK304; clear HB; have HO307 := n0_; have HO315 := n1_; have BK304 := n2_; have HB := n3_; clear n0_ n1_ n2_ n3_; (try clear hb); (try clear hb2); (try clear hk); (try clear hi); (try clear ho0)) | ((with_reducible refine gate_dst (N := 9) rfl ?_); (try (refine gate_guard (by rfl) ?_; dsimp only)); refine box_event ?hg (N := 9) ?hd (cs := #[.int .u32 0, .int .u64 0, .int .u64 0, .slice none 0 0]) (t := 32) ?hr ?_; (case hd => rfl); (case hg => rfl); (case hr => first | (go_simp; done) | (go_simp; rfl)); intro gb317 hg w35 hbox hb; have n0_ := Aside0.mk (Kd.R_below (by (with_reducible repeat (first | apply Kd.R_alloc | apply Kd.R_drewN | apply Kd.R_drew)); exact HO307.out) hb); have n1_ := Aside0.mk (Kd.R_below (by (with_reducible repeat (first | apply Kd.R_alloc | apply Kd.R_drewN | apply Kd.R_drew)); exact HO315.out) hb); have n2_ := Aside0.mk (blk_below (g := gb304) (o := .cells #[.int .u32 a0_0, .int .u64 a0_1, .int .u64 a0_2, .slice A0_3 l0_3.length c0_3] 32 (0, 0)) (by (with_reducible repeat (first | refine blk_drewN ?_ _ | refine blk_drew ?_ | refine blk_alloc ?_ _)); exact BK304.out) hb); have n3_ := Aside0.mk (below_step (by repeat (first | (with_reducible first | exact HB.out | apply below_alloc | apply pw_below_drewN | apply below_drew1 | refine below_set ?_ GE304.out) | exact HB.out)) hb); have n4_ := Aside0.mk (hbox); have n5_ := Aside0.mk ((by rw [hg]; exact (below_size (by repeat (first | (with_reducible first | exact HB.out | apply below_alloc | apply pw_below_drewN | apply below_drew1 | refine below_set ?_ GE304.out) | exact HB.out))) : w.heap.size ≤ gb317)); have n6_ := Aside0.mk ((by rw [hg]; exact (below_size (by repeat (first | (with_reducible first | exact HB.out | apply below_alloc | apply pw_below_drewN | apply below_drew1 | refine below_set ?_ GE304.out) | exact HB.out))) : w.heap.size ≤ gb317)); have n7_ := Aside0.mk ((by rw [hg]; exact Nat.ne_of_lt (blk_lt (g := gb304) (o := .cells #[.int .u32 a0_0, .int .u64 a0_1, .int .u64 a0_2, .slice A0_3 l0_3.length c0_3] 32 (0, 0)) (by (with_reducible repeat (first | refine blk_drewN ?_ _ | refine blk_drew ?_ | refine blk_alloc ?_ _)); exact BK304.out)) : gb304 ≠ gb317)); have n8_ := Aside0.mk ((by rw [hg]; exact Nat.ne_of_gt (blk_lt (g := gb304) (o := .cells #[.int .u32 a0_0, .int .u64 a0_1, .int .u64 a0_2, .slice A0_3 l0_3.length c0_3] 32 (0, 0)) (by (with_reducible repeat (first | refine blk_drewN ?_ _ | refine blk_drew ?_ | refine blk_alloc ?_ _)); exact BK304.out)) : gb317 ≠ gb304)); clear HO307; clear HO315; clear BK304; clear HB; have HO307 := n0_; have HO315 := n1_; have BK304 := n2_; have HB := n3_; have BK317 := n4_; have GW317 := n5_; have GE317 := n6_; have NB304_317 := n7_; have NB317_304 := n8_; clear n0_ n1_ n2_ n3_ n4_ n5_ n6_ n7_ n8_; clear hb hbox hg; have hnb36 := NB317_304.out; have hnc36 := NB304_317.out; have hcz37_0 : w35.cell? ⟨gb317, 0, none⟩ = some (.int .u32 0) := (blk_cell BK317.out 0).trans rfl; have hcz37_1 : w35.cell? ⟨gb317, 1, none⟩ = some (.int .u64 0) := (blk_cell BK317.out 1).trans rfl; have hcz37_2 : w35.cell? ⟨gb317, 2, none⟩ = some (.int .u64 0) := (blk_cell BK317.out 2).trans rfl; have hcz37_3 : w35.cell? ⟨gb317, 3, none⟩ = some (.slice none 0 0) := (blk_cell BK317.out 3).trans rfl; have hfz37_0 := blk_frozen BK317.out 0; have hfz37_1 := blk_frozen BK317.out 1; have hfz37_2 := blk_frozen BK317.out 2; have hfz37_3 := blk_frozen BK317.out 3; obtain ⟨Ao38, co38, eo38⟩ := Kd.R_slice HO315.out; subst eo38))
      (try simp only [Act.put, List.setIfInBounds_toArray, List.set_cons_zero, List.set_cons_succ])
      go_cut [65] (fun v65 wc => ∃ (kq : Nat) (x65_27 : Bool), v65 = .bool x65_27 ∧ Aside0 (vignettelaw21_PacketBack.j0 kq a1 a2 t305 x65_27 = some r) ∧ Aside0 (kq ≤ k) ∧ Aside0 (Kd.R (Kd.int .u8) 5 wc w.heap.size (fun k_ => some k_ ≠ ((.slice Ao38 t313.length co38) : Value).ownBlock) (.slice Ao33 t305.length co33) t305) ∧ Aside0 (Kd.R (Kd.int .u8) 5 wc w.heap.size (fun k_ => some k_ ≠ ((.slice Ao33 t305.length co33) : Value).ownBlock) (.slice Ao38 t313.length co38) t313) ∧ Aside0 (wc.heap[gb304]? = some (.cells #[.int .u32 a0_0, .int .u64 a0_1, .int .u64 a0_2, (.slice A0_3 l0_3.length c0_3)] 32 (0, 0))) ∧ Aside0 (wc.heap[gb317]? = some (.cells #[.int .u32 t310, .int .u64 t311, .int .u64 t312, (.slice Ao38 t313.length co38)] 32 (0, 0))) ∧ Aside0 (Below w.heap.size w wc))
      case first =>
        have H := HC28.out
        clear HC28
        by_cases c39 : t308 = 0
        · rw [if_pos c39] at H
          have c39b0 : (t308 == 0) = true := beq_iff_eq.mpr c39
          have c39b1 : (t308 != 0) = false := bne_eq_false_iff_eq.mpr c39
          clear c39
          (first | rw [c39b0] | (simp only [i64_w, i32_w]; rw [c39b0]) | skip)
          by_cases c40 : t316 = 0
          · rw [if_pos c40] at H
            have c40b0 : (t316 == 0) = true := beq_iff_eq.mpr c40
            have c40b1 : (t316 != 0) = false := bne_eq_false_iff_eq.mpr c40
            clear c40
            replace H := Option.bind_eq_some_iff.mp H
            obtain ⟨t318, A410, H⟩ := H
            replace H : (if t318 = true then (vignettelaw21_PacketBack.j0 k a1 a2 t305 ((t305.length : Int) != (wrap64 (24 + (l0_3.length : Int))))) else (vignettelaw21_PacketBack.j0 k a1 a2 t305 true)) = some r := H
            have A41 := Aside0.mk A410
            clear A410
            by_cases c42 : t318 = true
            · subst c42
              have H1 : (vignettelaw21_PacketBack.j0 k a1 a2 t305 ((t305.length : Int) != (wrap64 (24 + (l0_3.length : Int))))) = some r := by rw [if_pos rfl] at H; exact H
              clear H
              have H := H1
              clear H1
              have H' := Aside0.mk H
              clear H
              have hnb43 := NB304_317.out
              have hnc43 := NB317_304.out
              have hcz44_0 : w35.cell? ⟨gb304, 0, none⟩ = some (.int .u32 a0_0) := (blk_cell BK304.out 0).trans rfl
              have hcz44_1 : w35.cell? ⟨gb304, 1, none⟩ = some (.int .u64 a0_1) := (blk_cell BK304.out 1).trans rfl
              have hcz44_2 : w35.cell? ⟨gb304, 2, none⟩ = some (.int .u64 a0_2) := (blk_cell BK304.out 2).trans rfl
              have hcz44_3 : w35.cell? ⟨gb304, 3, none⟩ = some (.slice A0_3 l0_3.length c0_3) := (blk_cell BK304.out 3).trans rfl
              have hfz44_0 := blk_frozen BK304.out 0
              have hfz44_1 := blk_frozen BK304.out 1
              have hfz44_2 := blk_frozen BK304.out 2
              have hfz44_3 := blk_frozen BK304.out 3
              have hcz45_0 : w35.cell? ⟨gb317, 0, none⟩ = some (.int .u32 0) := (blk_cell BK317.out 0).trans rfl
              have hcz45_1 : w35.cell? ⟨gb317, 1, none⟩ = some (.int .u64 0) := (blk_cell BK317.out 1).trans rfl
              have hcz45_2 : w35.cell? ⟨gb317, 2, none⟩ = some (.int .u64 0) := (blk_cell BK317.out 2).trans rfl
              have hcz45_3 : w35.cell? ⟨gb317, 3, none⟩ = some (.slice none 0 0) := (blk_cell BK317.out 3).trans rfl
              have hfz45_0 := blk_frozen BK317.out 0
              have hfz45_1 := blk_frozen BK317.out 1
              have hfz45_2 := blk_frozen BK317.out 2
              have hfz45_3 := blk_frozen BK317.out 3
              go_wp2_with (first | (go_at_call 24; (with_reducible refine (vignetteref21_Same.calls a0_0 a0_1 a0_2 _ _ l0_3 t310 t311 t312 _ _ t313 true _ ?side1 ?side2 ?side3 ?side4 A41.out).mono ?_); (case side1 => exact Kd.C_below HR0_3.out (by repeat (first | (with_reducible first | exact HB.out | apply below_alloc | apply pw_below_drewN | apply below_drew1 | refine below_set ?_ GE304.out | refine below_set ?_ GE317.out) | exact HB.out))); (case side2 => exact HC0_3.out); (case side3 => refine (Kd.R_reads' (e := 5) (base := w.heap.size) (ok := fun k_ => (True ∧ some k_ ≠ (.slice Ao33 t305.length co33 : Value).ownBlock)) (n := t313.length) (c := co38) ?_).2.2; exact (by (with_reducible repeat (first | apply Kd.R_alloc | apply Kd.R_drewN | apply Kd.R_drew)); exact (Kd.R_mono (Kd.R_far (p := ⟨gb317, 3, none⟩) (Kd.R_far (p := ⟨gb317, 2, none⟩) (Kd.R_far (p := ⟨gb317, 1, none⟩) (Kd.R_far (p := ⟨gb317, 0, none⟩) (Kd.R_types HO315.out BK317.out (by decide)) (fun _ hk => hk.2) (.int .u32 t310)) (fun _ hk => hk.2) (.int .u64 t311)) (fun _ hk => hk.2) (.int .u64 t312)) (fun _ hk => hk.2) (.slice Ao38 t313.length co38)) (fun _ h_ => h_.1)))); (case side4 => exact (Kd.R_reads' HO315.out).2.1); rintro e w46 ⟨rfl, hb⟩; have n0_ := Aside0.mk (Kd.R_below (by (with_reducible repeat (first | apply Kd.R_alloc | apply Kd.R_drewN | apply Kd.R_drew)); exact (Kd.R_mono (Kd.R_far (p := ⟨gb317, 3, none⟩) (Kd.R_far (p := ⟨gb317, 2, none⟩) (Kd.R_far (p := ⟨gb317, 1, none⟩) (Kd.R_far (p := ⟨gb317, 0, none⟩) (Kd.R_types HO307.out BK317.out (by decide)) (fun _ hk => hk.2) (.int .u32 t310)) (fun _ hk => hk.2) (.int .u64 t311)) (fun _ hk => hk.2) (.int .u64 t312)) (fun _ hk => hk.2) (.slice Ao38 t313.length co38)) (fun _ h_ => h_.1))) hb); have n1_ := Aside0.mk (Kd.R_below (by (with_reducible repeat (first | apply Kd.R_alloc | apply Kd.R_drewN | apply Kd.R_drew)); exact (Kd.R_mono (Kd.R_far (p := ⟨gb317, 3, none⟩) (Kd.R_far (p := ⟨gb317, 2, none⟩) (Kd.R_far (p := ⟨gb317, 1, none⟩) (Kd.R_far (p := ⟨gb317, 0, none⟩) (Kd.R_types HO315.out BK317.out (by decide)) (fun _ hk => hk.2) (.int .u32 t310)) (fun _ hk => hk.2) (.int .u64 t311)) (fun _ hk => hk.2) (.int .u64 t312)) (fun _ hk => hk.2) (.slice Ao38 t313.length co38)) (fun _ h_ => h_.1))) hb); have n2_ := Aside0.mk (blk_below (g := gb304) (o := .cells #[.int .u32 a0_0, .int .u64 a0_1, .int .u64 a0_2, .slice A0_3 l0_3.length c0_3] 32 (0, 0)) (by (with_reducible repeat (first | refine blk_drewN ?_ _ | refine blk_drew ?_ | refine blk_alloc ?_ _)); refine blk_far ?_ NB304_317.out _; (with_reducible repeat (first | refine blk_drewN ?_ _ | refine blk_drew ?_ | refine blk_alloc ?_ _)); refine blk_far ?_ NB304_317.out _; (with_reducible repeat (first | refine blk_drewN ?_ _ | refine blk_drew ?_ | refine blk_alloc ?_ _)); refine blk_far ?_ NB304_317.out _; (with_reducible repeat (first | refine blk_drewN ?_ _ | refine blk_drew ?_ | refine blk_alloc ?_ _)); refine blk_far ?_ NB304_317.out _; (with_reducible repeat (first | refine blk_drewN ?_ _ | refine blk_drew ?_ | refine blk_alloc ?_ _)); exact BK304.out) hb); have n3_ := Aside0.mk (blk_below (g := gb317) (o := .cells #[.int .u32 t310, .int .u64 t311, .int .u64 t312, .slice Ao38 t313.length co38] 32 (0, 0)) (by (with_reducible repeat (first | refine blk_drewN ?_ _ | refine blk_drew ?_ | refine blk_alloc ?_ _)); refine blk_put (cs := #[.int .u32 t310, .int .u64 t311, .int .u64 t312, .slice none 0 0]) ?_ 3 _ rfl; (with_reducible repeat (first | refine blk_drewN ?_ _ | refine blk_drew ?_ | refine blk_alloc ?_ _)); refine blk_put (cs := #[.int .u32 t310, .int .u64 t311, .int .u64 0, .slice none 0 0]) ?_ 2 _ rfl; (with_reducible repeat (first | refine blk_drewN ?_ _ | refine blk_drew ?_ | refine blk_alloc ?_ _)); refine blk_put (cs := #[.int .u32 t310, .int .u64 0, .int .u64 0, .slice none 0 0]) ?_ 1 _ rfl; (with_reducible repeat (first | refine blk_drewN ?_ _ | refine blk_drew ?_ | refine blk_alloc ?_ _)); refine blk_put (cs := #[.int .u32 0, .int .u64 0, .int .u64 0, .slice none 0 0]) ?_ 0 _ rfl; (with_reducible repeat (first | refine blk_drewN ?_ _ | refine blk_drew ?_ | refine blk_alloc ?_ _)); exact BK317.out) hb); have n4_ := Aside0.mk (below_step (by repeat (first | (with_reducible first | exact HB.out | apply below_alloc | apply pw_below_drewN | apply below_drew1 | refine below_set ?_ GE304.out | refine below_set ?_ GE317.out) | exact HB.out)) hb); clear HO307; clear HO315; clear BK304; clear BK317; clear HB; have HO307 := n0_; have HO315 := n1_; have BK304 := n2_; have BK317 := n3_; have HB := n4_; clear n0_ n1_ n2_ n3_ n4_; (try clear hb); (try clear hb2); (try clear hk); (try clear hi); have hcz47_0 : w46.cell? ⟨gb304, 0, none⟩ = some (.int .u32 a0_0) := (blk_cell BK304.out 0).trans rfl; have hcz47_1 : w46.cell? ⟨gb304, 1, none⟩ = some (.int .u64 a0_1) := (blk_cell BK304.out 1).trans rfl; have hcz47_2 : w46.cell? ⟨gb304, 2, none⟩ = some (.int .u64 a0_2) := (blk_cell BK304.out 2).trans rfl; have hcz47_3 : w46.cell? ⟨gb304, 3, none⟩ = some (.slice A0_3 l0_3.length c0_3) := (blk_cell BK304.out 3).trans rfl; have hfz47_0 := blk_frozen BK304.out 0; have hfz47_1 := blk_frozen BK304.out 1; have hfz47_2 := blk_frozen BK304.out 2; have hfz47_3 := blk_frozen BK304.out 3))
              go_meet
              case rel => exact ⟨_, (((t305.length : Int) != (wrap64 (24 + (l0_3.length : Int))))), (by first | rfl | (simp; done) | (simp [*]; done)), H', ⟨by first | omega | exact Nat.le_refl _⟩, ⟨by (with_reducible repeat (first | apply Kd.R_alloc | apply Kd.R_drewN | apply Kd.R_drew)); exact Kd.R_mono HO307.out (fun _ hk => hk.2)⟩, ⟨by (with_reducible repeat (first | apply Kd.R_alloc | apply Kd.R_drewN | apply Kd.R_drew)); exact Kd.R_mono HO315.out (fun _ hk => hk.2)⟩, ⟨by (with_reducible repeat (first | refine blk_drewN ?_ _ | refine blk_drew ?_ | refine blk_alloc ?_ _)); exact BK304.out⟩, ⟨by (with_reducible repeat (first | refine blk_drewN ?_ _ | refine blk_drew ?_ | refine blk_alloc ?_ _)); exact BK317.out⟩, ⟨by repeat (first | (with_reducible first | exact HB.out | apply below_alloc | apply pw_below_drewN | apply below_drew1 | refine below_set ?_ GE304.out | refine below_set ?_ GE317.out) | exact HB.out)⟩⟩
            · replace c42 := Bool.eq_false_iff.mpr c42
              subst c42
              have H1 : (vignettelaw21_PacketBack.j0 k a1 a2 t305 true) = some r := by rw [if_neg (show ¬ (false = true) by decide)] at H; exact H
              clear H
              have H := H1
              clear H1
              have H' := Aside0.mk H
              clear H
              have hnb48 := NB304_317.out
              have hnc48 := NB317_304.out
              have hcz49_0 : w35.cell? ⟨gb304, 0, none⟩ = some (.int .u32 a0_0) := (blk_cell BK304.out 0).trans rfl
              have hcz49_1 : w35.cell? ⟨gb304, 1, none⟩ = some (.int .u64 a0_1) := (blk_cell BK304.out 1).trans rfl
              have hcz49_2 : w35.cell? ⟨gb304, 2, none⟩ = some (.int .u64 a0_2) := (blk_cell BK304.out 2).trans rfl
              have hcz49_3 : w35.cell? ⟨gb304, 3, none⟩ = some (.slice A0_3 l0_3.length c0_3) := (blk_cell BK304.out 3).trans rfl
              have hfz49_0 := blk_frozen BK304.out 0
              have hfz49_1 := blk_frozen BK304.out 1
              have hfz49_2 := blk_frozen BK304.out 2
              have hfz49_3 := blk_frozen BK304.out 3
              have hcz50_0 : w35.cell? ⟨gb317, 0, none⟩ = some (.int .u32 0) := (blk_cell BK317.out 0).trans rfl
              have hcz50_1 : w35.cell? ⟨gb317, 1, none⟩ = some (.int .u64 0) := (blk_cell BK317.out 1).trans rfl
              have hcz50_2 : w35.cell? ⟨gb317, 2, none⟩ = some (.int .u64 0) := (blk_cell BK317.out 2).trans rfl
              have hcz50_3 : w35.cell? ⟨gb317, 3, none⟩ = some (.slice none 0 0) := (blk_cell BK317.out 3).trans rfl
              have hfz50_0 := blk_frozen BK317.out 0
              have hfz50_1 := blk_frozen BK317.out 1
              have hfz50_2 := blk_frozen BK317.out 2
              have hfz50_3 := blk_frozen BK317.out 3
              go_wp2_with (first | (go_at_call 24; (with_reducible refine (vignetteref21_Same.calls a0_0 a0_1 a0_2 _ _ l0_3 t310 t311 t312 _ _ t313 false _ ?side1 ?side2 ?side3 ?side4 A41.out).mono ?_); (case side1 => exact Kd.C_below HR0_3.out (by repeat (first | (with_reducible first | exact HB.out | apply below_alloc | apply pw_below_drewN | apply below_drew1 | refine below_set ?_ GE304.out | refine below_set ?_ GE317.out) | exact HB.out))); (case side2 => exact HC0_3.out); (case side3 => refine (Kd.R_reads' (e := 5) (base := w.heap.size) (ok := fun k_ => (True ∧ some k_ ≠ (.slice Ao33 t305.length co33 : Value).ownBlock)) (n := t313.length) (c := co38) ?_).2.2; exact (by (with_reducible repeat (first | apply Kd.R_alloc | apply Kd.R_drewN | apply Kd.R_drew)); exact (Kd.R_mono (Kd.R_far (p := ⟨gb317, 3, none⟩) (Kd.R_far (p := ⟨gb317, 2, none⟩) (Kd.R_far (p := ⟨gb317, 1, none⟩) (Kd.R_far (p := ⟨gb317, 0, none⟩) (Kd.R_types HO315.out BK317.out (by decide)) (fun _ hk => hk.2) (.int .u32 t310)) (fun _ hk => hk.2) (.int .u64 t311)) (fun _ hk => hk.2) (.int .u64 t312)) (fun _ hk => hk.2) (.slice Ao38 t313.length co38)) (fun _ h_ => h_.1)))); (case side4 => exact (Kd.R_reads' HO315.out).2.1); rintro e w51 ⟨rfl, hb⟩; have n0_ := Aside0.mk (Kd.R_below (by (with_reducible repeat (first | apply Kd.R_alloc | apply Kd.R_drewN | apply Kd.R_drew)); exact (Kd.R_mono (Kd.R_far (p := ⟨gb317, 3, none⟩) (Kd.R_far (p := ⟨gb317, 2, none⟩) (Kd.R_far (p := ⟨gb317, 1, none⟩) (Kd.R_far (p := ⟨gb317, 0, none⟩) (Kd.R_types HO307.out BK317.out (by decide)) (fun _ hk => hk.2) (.int .u32 t310)) (fun _ hk => hk.2) (.int .u64 t311)) (fun _ hk => hk.2) (.int .u64 t312)) (fun _ hk => hk.2) (.slice Ao38 t313.length co38)) (fun _ h_ => h_.1))) hb); have n1_ := Aside0.mk (Kd.R_below (by (with_reducible repeat (first | apply Kd.R_alloc | apply Kd.R_drewN | apply Kd.R_drew)); exact (Kd.R_mono (Kd.R_far (p := ⟨gb317, 3, none⟩) (Kd.R_far (p := ⟨gb317, 2, none⟩) (Kd.R_far (p := ⟨gb317, 1, none⟩) (Kd.R_far (p := ⟨gb317, 0, none⟩) (Kd.R_types HO315.out BK317.out (by decide)) (fun _ hk => hk.2) (.int .u32 t310)) (fun _ hk => hk.2) (.int .u64 t311)) (fun _ hk => hk.2) (.int .u64 t312)) (fun _ hk => hk.2) (.slice Ao38 t313.length co38)) (fun _ h_ => h_.1))) hb); have n2_ := Aside0.mk (blk_below (g := gb304) (o := .cells #[.int .u32 a0_0, .int .u64 a0_1, .int .u64 a0_2, .slice A0_3 l0_3.length c0_3] 32 (0, 0)) (by (with_reducible repeat (first | refine blk_drewN ?_ _ | refine blk_drew ?_ | refine blk_alloc ?_ _)); refine blk_far ?_ NB304_317.out _; (with_reducible repeat (first | refine blk_drewN ?_ _ | refine blk_drew ?_ | refine blk_alloc ?_ _)); refine blk_far ?_ NB304_317.out _; (with_reducible repeat (first | refine blk_drewN ?_ _ | refine blk_drew ?_ | refine blk_alloc ?_ _)); refine blk_far ?_ NB304_317.out _; (with_reducible repeat (first | refine blk_drewN ?_ _ | refine blk_drew ?_ | refine blk_alloc ?_ _)); refine blk_far ?_ NB304_317.out _; (with_reducible repeat (first | refine blk_drewN ?_ _ | refine blk_drew ?_ | refine blk_alloc ?_ _)); exact BK304.out) hb); have n3_ := Aside0.mk (blk_below (g := gb317) (o := .cells #[.int .u32 t310, .int .u64 t311, .int .u64 t312, .slice Ao38 t313.length co38] 32 (0, 0)) (by (with_reducible repeat (first | refine blk_drewN ?_ _ | refine blk_drew ?_ | refine blk_alloc ?_ _)); refine blk_put (cs := #[.int .u32 t310, .int .u64 t311, .int .u64 t312, .slice none 0 0]) ?_ 3 _ rfl; (with_reducible repeat (first | refine blk_drewN ?_ _ | refine blk_drew ?_ | refine blk_alloc ?_ _)); refine blk_put (cs := #[.int .u32 t310, .int .u64 t311, .int .u64 0, .slice none 0 0]) ?_ 2 _ rfl; (with_reducible repeat (first | refine blk_drewN ?_ _ | refine blk_drew ?_ | refine blk_alloc ?_ _)); refine blk_put (cs := #[.int .u32 t310, .int .u64 0, .int .u64 0, .slice none 0 0]) ?_ 1 _ rfl; (with_reducible repeat (first | refine blk_drewN ?_ _ | refine blk_drew ?_ | refine blk_alloc ?_ _)); refine blk_put (cs := #[.int .u32 0, .int .u64 0, .int .u64 0, .slice none 0 0]) ?_ 0 _ rfl; (with_reducible repeat (first | refine blk_drewN ?_ _ | refine blk_drew ?_ | refine blk_alloc ?_ _)); exact BK317.out) hb); have n4_ := Aside0.mk (below_step (by repeat (first | (with_reducible first | exact HB.out | apply below_alloc | apply pw_below_drewN | apply below_drew1 | refine below_set ?_ GE304.out | refine below_set ?_ GE317.out) | exact HB.out)) hb); clear HO307; clear HO315; clear BK304; clear BK317; clear HB; have HO307 := n0_; have HO315 := n1_; have BK304 := n2_; have BK317 := n3_; have HB := n4_; clear n0_ n1_ n2_ n3_ n4_; (try clear hb); (try clear hb2); (try clear hk); (try clear hi)))
              go_meet
              case rel => exact ⟨_, (true), (by first | rfl | (simp; done) | (simp [*]; done)), H', ⟨by first | omega | exact Nat.le_refl _⟩, ⟨by (with_reducible repeat (first | apply Kd.R_alloc | apply Kd.R_drewN | apply Kd.R_drew)); exact Kd.R_mono HO307.out (fun _ hk => hk.2)⟩, ⟨by (with_reducible repeat (first | apply Kd.R_alloc | apply Kd.R_drewN | apply Kd.R_drew)); exact Kd.R_mono HO315.out (fun _ hk => hk.2)⟩, ⟨by (with_reducible repeat (first | refine blk_drewN ?_ _ | refine blk_drew ?_ | refine blk_alloc ?_ _)); exact BK304.out⟩, ⟨by (with_reducible repeat (first | refine blk_drewN ?_ _ | refine blk_drew ?_ | refine blk_alloc ?_ _)); exact BK317.out⟩, ⟨by repeat (first | (with_reducible first | exact HB.out | apply below_alloc | apply pw_below_drewN | apply below_drew1 | refine below_set ?_ GE304.out | refine below_set ?_ GE317.out) | exact HB.out)⟩⟩
          · rw [if_neg c40] at H
            have c40b0 : (t316 == 0) = false := beq_eq_false_iff_ne.mpr c40
            have c40b1 : (t316 != 0) = true := bne_iff_ne.mpr c40
            have H' := Aside0.mk H
            clear H
            go_wp2
            go_meet
            case rel => exact ⟨_, (true), (by first | rfl | (simp; done) | (simp [*]; done)), H', ⟨by first | omega | exact Nat.le_refl _⟩, ⟨by (with_reducible repeat (first | apply Kd.R_alloc | apply Kd.R_drewN | apply Kd.R_drew)); exact Kd.R_mono (Kd.R_far (p := ⟨gb317, 3, none⟩) (Kd.R_far (p := ⟨gb317, 2, none⟩) (Kd.R_far (p := ⟨gb317, 1, none⟩) (Kd.R_far (p := ⟨gb317, 0, none⟩) (Kd.R_types HO307.out BK317.out (by decide)) (fun _ hk => hk.2) (.int .u32 t310)) (fun _ hk => hk.2) (.int .u64 t311)) (fun _ hk => hk.2) (.int .u64 t312)) (fun _ hk => hk.2) (.slice Ao38 t313.length co38)) (fun _ hk => hk.1.2)⟩, ⟨by (with_reducible repeat (first | apply Kd.R_alloc | apply Kd.R_drewN | apply Kd.R_drew)); exact Kd.R_mono (Kd.R_far (p := ⟨gb317, 3, none⟩) (Kd.R_far (p := ⟨gb317, 2, none⟩) (Kd.R_far (p := ⟨gb317, 1, none⟩) (Kd.R_far (p := ⟨gb317, 0, none⟩) (Kd.R_types HO315.out BK317.out (by decide)) (fun _ hk => hk.2) (.int .u32 t310)) (fun _ hk => hk.2) (.int .u64 t311)) (fun _ hk => hk.2) (.int .u64 t312)) (fun _ hk => hk.2) (.slice Ao38 t313.length co38)) (fun _ hk => hk.1.2)⟩, ⟨by (with_reducible repeat (first | refine blk_drewN ?_ _ | refine blk_drew ?_ | refine blk_alloc ?_ _)); refine blk_far ?_ NB304_317.out _; (with_reducible repeat (first | refine blk_drewN ?_ _ | refine blk_drew ?_ | refine blk_alloc ?_ _)); refine blk_far ?_ NB304_317.out _; (with_reducible repeat (first | refine blk_drewN ?_ _ | refine blk_drew ?_ | refine blk_alloc ?_ _)); refine blk_far ?_ NB304_317.out _; (with_reducible repeat (first | refine blk_drewN ?_ _ | refine blk_drew ?_ | refine blk_alloc ?_ _)); refine blk_far ?_ NB304_317.out _; (with_reducible repeat (first | refine blk_drewN ?_ _ | refine blk_drew ?_ | refine blk_alloc ?_ _)); exact BK304.out⟩, ⟨by (with_reducible repeat (first | refine blk_drewN ?_ _ | refine blk_drew ?_ | refine blk_alloc ?_ _)); refine blk_put (cs := #[.int .u32 t310, .int .u64 t311, .int .u64 t312, .slice none 0 0]) ?_ 3 _ rfl; (with_reducible repeat (first | refine blk_drewN ?_ _ | refine blk_drew ?_ | refine blk_alloc ?_ _)); refine blk_put (cs := #[.int .u32 t310, .int .u64 t311, .int .u64 0, .slice none 0 0]) ?_ 2 _ rfl; (with_reducible repeat (first | refine blk_drewN ?_ _ | refine blk_drew ?_ | refine blk_alloc ?_ _)); refine blk_put (cs := #[.int .u32 t310, .int .u64 0, .int .u64 0, .slice none 0 0]) ?_ 1 _ rfl; (with_reducible repeat (first | refine blk_drewN ?_ _ | refine blk_drew ?_ | refine blk_alloc ?_ _)); refine blk_put (cs := #[.int .u32 0, .int .u64 0, .int .u64 0, .slice none 0 0]) ?_ 0 _ rfl; (with_reducible repeat (first | refine blk_drewN ?_ _ | refine blk_drew ?_ | refine blk_alloc ?_ _)); exact BK317.out⟩, ⟨by repeat (first | (with_reducible first | exact HB.out | apply below_alloc | apply pw_below_drewN | apply below_drew1 | refine below_set ?_ GE304.out | refine below_set ?_ GE317.out) | exact HB.out)⟩⟩
        · rw [if_neg c39] at H
          have c39b0 : (t308 == 0) = false := beq_eq_false_iff_ne.mpr c39
          have c39b1 : (t308 != 0) = true := bne_iff_ne.mpr c39
          (first | rw [c39b0] | (simp only [i64_w, i32_w]; rw [c39b0]) | skip)
          have H' := Aside0.mk H
          clear H
          go_wp2
          go_meet
          case rel => exact ⟨_, (true), (by first | rfl | (simp; done) | (simp [*]; done)), H', ⟨by first | omega | exact Nat.le_refl _⟩, ⟨by (with_reducible repeat (first | apply Kd.R_alloc | apply Kd.R_drewN | apply Kd.R_drew)); exact Kd.R_mono (Kd.R_far (p := ⟨gb317, 3, none⟩) (Kd.R_far (p := ⟨gb317, 2, none⟩) (Kd.R_far (p := ⟨gb317, 1, none⟩) (Kd.R_far (p := ⟨gb317, 0, none⟩) (Kd.R_types HO307.out BK317.out (by decide)) (fun _ hk => hk.2) (.int .u32 t310)) (fun _ hk => hk.2) (.int .u64 t311)) (fun _ hk => hk.2) (.int .u64 t312)) (fun _ hk => hk.2) (.slice Ao38 t313.length co38)) (fun _ hk => hk.1.2)⟩, ⟨by (with_reducible repeat (first | apply Kd.R_alloc | apply Kd.R_drewN | apply Kd.R_drew)); exact Kd.R_mono (Kd.R_far (p := ⟨gb317, 3, none⟩) (Kd.R_far (p := ⟨gb317, 2, none⟩) (Kd.R_far (p := ⟨gb317, 1, none⟩) (Kd.R_far (p := ⟨gb317, 0, none⟩) (Kd.R_types HO315.out BK317.out (by decide)) (fun _ hk => hk.2) (.int .u32 t310)) (fun _ hk => hk.2) (.int .u64 t311)) (fun _ hk => hk.2) (.int .u64 t312)) (fun _ hk => hk.2) (.slice Ao38 t313.length co38)) (fun _ hk => hk.1.2)⟩, ⟨by (with_reducible repeat (first | refine blk_drewN ?_ _ | refine blk_drew ?_ | refine blk_alloc ?_ _)); refine blk_far ?_ NB304_317.out _; (with_reducible repeat (first | refine blk_drewN ?_ _ | refine blk_drew ?_ | refine blk_alloc ?_ _)); refine blk_far ?_ NB304_317.out _; (with_reducible repeat (first | refine blk_drewN ?_ _ | refine blk_drew ?_ | refine blk_alloc ?_ _)); refine blk_far ?_ NB304_317.out _; (with_reducible repeat (first | refine blk_drewN ?_ _ | refine blk_drew ?_ | refine blk_alloc ?_ _)); refine blk_far ?_ NB304_317.out _; (with_reducible repeat (first | refine blk_drewN ?_ _ | refine blk_drew ?_ | refine blk_alloc ?_ _)); exact BK304.out⟩, ⟨by (with_reducible repeat (first | refine blk_drewN ?_ _ | refine blk_drew ?_ | refine blk_alloc ?_ _)); refine blk_put (cs := #[.int .u32 t310, .int .u64 t311, .int .u64 t312, .slice none 0 0]) ?_ 3 _ rfl; (with_reducible repeat (first | refine blk_drewN ?_ _ | refine blk_drew ?_ | refine blk_alloc ?_ _)); refine blk_put (cs := #[.int .u32 t310, .int .u64 t311, .int .u64 0, .slice none 0 0]) ?_ 2 _ rfl; (with_reducible repeat (first | refine blk_drewN ?_ _ | refine blk_drew ?_ | refine blk_alloc ?_ _)); refine blk_put (cs := #[.int .u32 t310, .int .u64 0, .int .u64 0, .slice none 0 0]) ?_ 1 _ rfl; (with_reducible repeat (first | refine blk_drewN ?_ _ | refine blk_drew ?_ | refine blk_alloc ?_ _)); refine blk_put (cs := #[.int .u32 0, .int .u64 0, .int .u64 0, .slice none 0 0]) ?_ 0 _ rfl; (with_reducible repeat (first | refine blk_drewN ?_ _ | refine blk_drew ?_ | refine blk_alloc ?_ _)); exact BK317.out⟩, ⟨by repeat (first | (with_reducible first | exact HB.out | apply below_alloc | apply pw_below_drewN | apply below_drew1 | refine below_set ?_ GE304.out | refine below_set ?_ GE317.out) | exact HB.out)⟩⟩
      case rest =>
        clear HC28
        try clear c1
        try clear c2
        try clear p2
        try clear c3
        try clear c4
        try clear c4b0
        try clear c4b1
        try clear p6
        try clear c8
        try clear c8b0
        try clear c8b1
        try clear c9
        try clear c9b0
        try clear c9b1
        try clear c10
        try clear c10b0
        try clear c10b1
        try clear c10b2
        try clear c22
        try clear c26
        try clear c36
        try clear c39
        try clear c39b0
        try clear c39b1
        try clear c40
        try clear c40b0
        try clear c40b1
        try clear c42
        try clear c43
        try clear c48
        try clear hcz13_0
        try clear hcz13_1
        try clear hcz13_2
        try clear hcz13_3
        try clear hcz15_0
        try clear hcz15_1
        try clear hcz15_2
        try clear hcz15_3
        try clear hcz19_0
        try clear hcz19_1
        try clear hcz19_2
        try clear hcz19_3
        try clear hcz21_0
        try clear hcz21_1
        try clear hcz21_2
        try clear hcz21_3
        try clear hcz24_0
        try clear hcz24_1
        try clear hcz24_2
        try clear hcz24_3
        try clear hcz26_0
        try clear hcz26_1
        try clear hcz26_2
        try clear hcz26_3
        try clear hcz30_0
        try clear hcz30_1
        try clear hcz30_2
        try clear hcz30_3
        try clear hcz32_0
        try clear hcz32_1
        try clear hcz32_2
        try clear hcz32_3
        try clear hcz37_0
        try clear hcz37_1
        try clear hcz37_2
        try clear hcz37_3
        try clear hcz44_0
        try clear hcz44_1
        try clear hcz44_2
        try clear hcz44_3
        try clear hcz45_0
        try clear hcz45_1
        try clear hcz45_2
        try clear hcz45_3
        try clear hcz47_0
        try clear hcz47_1
        try clear hcz47_2
        try clear hcz47_3
        try clear hcz49_0
        try clear hcz49_1
        try clear hcz49_2
        try clear hcz49_3
        try clear hcz50_0
        try clear hcz50_1
        try clear hcz50_2
        try clear hcz50_3
        try clear hcz6_0
        try clear hcz6_1
        try clear hcz6_2
        try clear hcz6_3
        try clear hfz13_0
        try clear hfz13_1
        try clear hfz13_2
        try clear hfz13_3
        try clear hfz15_0
        try clear hfz15_1
        try clear hfz15_2
        try clear hfz15_3
        try clear hfz19_0
        try clear hfz19_1
        try clear hfz19_2
        try clear hfz19_3
        try clear hfz21_0
        try clear hfz21_1
        try clear hfz21_2
        try clear hfz21_3
        try clear hfz24_0
        try clear hfz24_1
        try clear hfz24_2
        try clear hfz24_3
        try clear hfz26_0
        try clear hfz26_1
        try clear hfz26_2
        try clear hfz26_3
        try clear hfz30_0
        try clear hfz30_1
        try clear hfz30_2
        try clear hfz30_3
        try clear hfz32_0
        try clear hfz32_1
        try clear hfz32_2
        try clear hfz32_3
        try clear hfz37_0
        try clear hfz37_1
        try clear hfz37_2
        try clear hfz37_3
        try clear hfz44_0
        try clear hfz44_1
        try clear hfz44_2
        try clear hfz44_3
        try clear hfz45_0
        try clear hfz45_1
        try clear hfz45_2
        try clear hfz45_3
        try clear hfz47_0
        try clear hfz47_1
        try clear hfz47_2
        try clear hfz47_3
        try clear hfz49_0
        try clear hfz49_1
        try clear hfz49_2
        try clear hfz49_3
        try clear hfz50_0
        try clear hfz50_1
        try clear hfz50_2
        try clear hfz50_3
        try clear hfz6_0
        try clear hfz6_1
        try clear hfz6_2
        try clear hfz6_3
        obtain ⟨kq, x65_27, rfl, HA, HJ27, HO_7, HO_318003, BK304, BK317, HB⟩ := hcut
        cases kq with
        | zero => exact absurd HA.out (by simp [vignettelaw21_PacketBack.j0])
        | succ kj27 =>
          have H := HA.out
          clear HA
          simp only [vignettelaw21_PacketBack.j0] at H
          by_cases c52 : x65_27 = true
          · subst c52
            have H1 : (some false) = some r := by rw [if_pos rfl] at H; exact H
            clear H
            have H := H1
            clear H1
            obtain rfl := Option.some.inj H
            go_wp2
            go_ret
            exact ⟨by first | rfl | (simp [errW_none, errW_some] <;> rfl) | (simp [*, errW_none, errW_some] <;> rfl), by repeat (first | (with_reducible first | exact HB.out | apply below_alloc | apply pw_below_drewN | apply below_drew1 | refine below_set ?_ GE304.out | refine below_set ?_ GE317.out) | exact HB.out)⟩
          · replace c52 := Bool.eq_false_iff.mpr c52
            subst c52
            have H1 : (if (wrap64 (8 * (t305.length : Int))) = 0 then (none) else (if (Int.tmod a1 (wrap64 (8 * (t305.length : Int)))) < 0 then (vignettelaw21_PacketBack.j1 kj27 a2 t305 (wrap64 (8 * (t305.length : Int))) (wrap64 ((Int.tmod a1 (wrap64 (8 * (t305.length : Int)))) + (wrap64 (8 * (t305.length : Int)))))) else (vignettelaw21_PacketBack.j1 kj27 a2 t305 (wrap64 (8 * (t305.length : Int))) (Int.tmod a1 (wrap64 (8 * (t305.length : Int))))))) = some r := by rw [if_neg (show ¬ (false = true) by decide)] at H; exact H
            clear H
            have H := H1
            clear H1
            by_cases c53 : (wrap64 (8 * (t305.length : Int))) = 0
            · rw [if_pos c53] at H
              exact absurd H (by simp)
            · rw [if_neg c53] at H
              have c53b0 : ((wrap64 (8 * (t305.length : Int))) == 0) = false := beq_eq_false_iff_ne.mpr c53
              have c53b1 : ((wrap64 (8 * (t305.length : Int))) != 0) = true := bne_iff_ne.mpr c53
              have HC54 := Aside0.mk H
              clear H
              go_upto_if 73 with (fail)
              go_cut [12] (fun v12 wc => ∃ (kq : Nat) (x12_53 : Int), v12 = .int .i64 x12_53 ∧ Aside0 (vignettelaw21_PacketBack.j1 kq a2 t305 (wrap64 (8 * (t305.length : Int))) x12_53 = some r) ∧ Aside0 (kq ≤ kj27) ∧ Aside0 (Kd.R (Kd.int .u8) 5 wc w.heap.size (fun k_ => some k_ ≠ ((.slice Ao38 t313.length co38) : Value).ownBlock) (.slice Ao33 t305.length co33) t305) ∧ Aside0 (Kd.R (Kd.int .u8) 5 wc w.heap.size (fun k_ => some k_ ≠ ((.slice Ao33 t305.length co33) : Value).ownBlock) (.slice Ao38 t313.length co38) t313) ∧ Aside0 (wc.heap[gb304]? = some (.cells #[.int .u32 a0_0, .int .u64 a0_1, .int .u64 a0_2, (.slice A0_3 l0_3.length c0_3)] 32 (0, 0))) ∧ Aside0 (wc.heap[gb317]? = some (.cells #[.int .u32 t310, .int .u64 t311, .int .u64 t312, (.slice Ao38 t313.length co38)] 32 (0, 0))) ∧ Aside0 (Below w.heap.size w wc))
              case first =>
                have H := HC54.out
                clear HC54
                by_cases c55 : (Int.tmod a1 (wrap64 (8 * (t305.length : Int)))) < 0
                · rw [if_pos c55] at H
                  have c55b0 : decide ((Int.tmod a1 (wrap64 (8 * (t305.length : Int)))) < 0) = true := decide_eq_true c55
                  clear c55
                  (first | rw [c55b0] | (simp only [i64_w, i32_w]; rw [c55b0]) | skip)
                  have H' := Aside0.mk H
                  clear H
                  go_wp2
                  go_meet
                  case rel => exact ⟨_, (wrap64 ((Int.tmod a1 (wrap64 (8 * (t305.length : Int)))) + (wrap64 (8 * (t305.length : Int))))), (by first | rfl | (simp; done) | (simp [*]; done)), H', ⟨by have := HJ27.out; first | omega | exact Nat.le_refl _⟩, ⟨by (with_reducible repeat (first | apply Kd.R_alloc | apply Kd.R_drewN | apply Kd.R_drew)); exact HO_7.out⟩, ⟨by (with_reducible repeat (first | apply Kd.R_alloc | apply Kd.R_drewN | apply Kd.R_drew)); exact HO_318003.out⟩, ⟨by (with_reducible repeat (first | refine blk_drewN ?_ _ | refine blk_drew ?_ | refine blk_alloc ?_ _)); exact BK304.out⟩, ⟨by (with_reducible repeat (first | refine blk_drewN ?_ _ | refine blk_drew ?_ | refine blk_alloc ?_ _)); exact BK317.out⟩, ⟨by repeat (first | (with_reducible first | exact HB.out | apply below_alloc | apply pw_below_drewN | apply below_drew1 | refine below_set ?_ GE304.out | refine below_set ?_ GE317.out) | exact HB.out)⟩⟩
                · rw [if_neg c55] at H
                  have c55b0 : decide ((Int.tmod a1 (wrap64 (8 * (t305.length : Int)))) < 0) = false := decide_eq_false c55
                  clear c55
                  (first | rw [c55b0] | (simp only [i64_w, i32_w]; rw [c55b0]) | skip)
                  have H' := Aside0.mk H
                  clear H
                  go_wp2
                  go_meet
                  case rel => exact ⟨_, (Int.tmod a1 (wrap64 (8 * (t305.length : Int)))), (by first | rfl | (simp; done) | (simp [*]; done)), H', ⟨by have := HJ27.out; first | omega | exact Nat.le_refl _⟩, ⟨by (with_reducible repeat (first | apply Kd.R_alloc | apply Kd.R_drewN | apply Kd.R_drew)); exact HO_7.out⟩, ⟨by (with_reducible repeat (first | apply Kd.R_alloc | apply Kd.R_drewN | apply Kd.R_drew)); exact HO_318003.out⟩, ⟨by (with_reducible repeat (first | refine blk_drewN ?_ _ | refine blk_drew ?_ | refine blk_alloc ?_ _)); exact BK304.out⟩, ⟨by (with_reducible repeat (first | refine blk_drewN ?_ _ | refine blk_drew ?_ | refine blk_alloc ?_ _)); exact BK317.out⟩, ⟨by repeat (first | (with_reducible first | exact HB.out | apply below_alloc | apply pw_below_drewN | apply below_drew1 | refine below_set ?_ GE304.out | refine below_set ?_ GE317.out) | exact HB.out)⟩⟩
              case rest =>
                clear HC54
                try clear c1
                try clear c2
                try clear p2
                try clear c3
                try clear c4
                try clear c4b0
                try clear c4b1
                try clear c5
                try clear p6
                try clear c8
                try clear c8b0
                try clear c8b1
                try clear c9
                try clear c9b0
                try clear c9b1
                try clear c10
                try clear c10b0
                try clear c10b1
                try clear c10b2
                try clear c22
                try clear c26
                try clear c36
                try clear c39
                try clear c39b0
                try clear c39b1
                try clear c40
                try clear c40b0
                try clear c40b1
                try clear c42
                try clear c43
                try clear c48
                try clear c52
                try clear c53
                try clear c53b0
                try clear c53b1
                try clear c55
                try clear c55b0
                try clear hcz13_0
                try clear hcz13_1
                try clear hcz13_2
                try clear hcz13_3
                try clear hcz15_0
                try clear hcz15_1
                try clear hcz15_2
                try clear hcz15_3
                try clear hcz19_0
                try clear hcz19_1
                try clear hcz19_2
                try clear hcz19_3
                try clear hcz21_0
                try clear hcz21_1
                try clear hcz21_2
                try clear hcz21_3
                try clear hcz24_0
                try clear hcz24_1
                try clear hcz24_2
                try clear hcz24_3
                try clear hcz26_0
                try clear hcz26_1
                try clear hcz26_2
                try clear hcz26_3
                try clear hcz30_0
                try clear hcz30_1
                try clear hcz30_2
                try clear hcz30_3
                try clear hcz32_0
                try clear hcz32_1
                try clear hcz32_2
                try clear hcz32_3
                try clear hcz37_0
                try clear hcz37_1
                try clear hcz37_2
                try clear hcz37_3
                try clear hcz44_0
                try clear hcz44_1
                try clear hcz44_2
                try clear hcz44_3
                try clear hcz45_0
                try clear hcz45_1
                try clear hcz45_2
                try clear hcz45_3
                try clear hcz47_0
                try clear hcz47_1
                try clear hcz47_2
                try clear hcz47_3
                try clear hcz49_0
                try clear hcz49_1
                try clear hcz49_2
                try clear hcz49_3
                try clear hcz50_0
                try clear hcz50_1
                try clear hcz50_2
                try clear hcz50_3
                try clear hcz6_0
                try clear hcz6_1
                try clear hcz6_2
                try clear hcz6_3
                try clear hfz13_0
                try clear hfz13_1
                try clear hfz13_2
                try clear hfz13_3
                try clear hfz15_0
                try clear hfz15_1
                try clear hfz15_2
                try clear hfz15_3
                try clear hfz19_0
                try clear hfz19_1
                try clear hfz19_2
                try clear hfz19_3
                try clear hfz21_0
                try clear hfz21_1
                try clear hfz21_2
                try clear hfz21_3
                try clear hfz24_0
                try clear hfz24_1
                try clear hfz24_2
                try clear hfz24_3
                try clear hfz26_0
                try clear hfz26_1
                try clear hfz26_2
                try clear hfz26_3
                try clear hfz30_0
                try clear hfz30_1
                try clear hfz30_2
                try clear hfz30_3
                try clear hfz32_0
                try clear hfz32_1
                try clear hfz32_2
                try clear hfz32_3
                try clear hfz37_0
                try clear hfz37_1
                try clear hfz37_2
                try clear hfz37_3
                try clear hfz44_0
                try clear hfz44_1
                try clear hfz44_2
                try clear hfz44_3
                try clear hfz45_0
                try clear hfz45_1
                try clear hfz45_2
                try clear hfz45_3
                try clear hfz47_0
                try clear hfz47_1
                try clear hfz47_2
                try clear hfz47_3
                try clear hfz49_0
                try clear hfz49_1
                try clear hfz49_2
                try clear hfz49_3
                try clear hfz50_0
                try clear hfz50_1
                try clear hfz50_2
                try clear hfz50_3
                try clear hfz6_0
                try clear hfz6_1
                try clear hfz6_2
                try clear hfz6_3
                try clear p2
                try clear p6
                obtain ⟨kq, x12_53, rfl, HA, HJ53, HO_7, HO_318003, BK304, BK317, HB⟩ := hcut
                cases kq with
                | zero => exact absurd HA.out (by simp [vignettelaw21_PacketBack.j1])
                | succ kj53 =>
                  have H := HA.out
                  clear HA
                  simp only [vignettelaw21_PacketBack.j1] at H
                  by_cases c56 : ([] : List Int).length + t305.length < 140737488355328
                  · rw [if_pos c56] at H
                    have LMc56 := Aside0.mk c56
                    clear c56
                    obtain ⟨y319, hy319⟩ : ∃ y_ : List Int, y_ = (([] : List Int) ++ t305) := ⟨_, rfl⟩
                    replace H : (vignettelaw21_PacketBack.l0 kj53 a2 t305 (wrap64 (8 * (t305.length : Int))) x12_53 y319 0) = some r := by first | (rw [hy319]; with_reducible exact H) | (have H2_ := (Option.bind_some _ _).symm.trans H; rw [hy319]; with_reducible exact H2_) | (have H2_ := (Option.bind_some _ _).symm.trans H; with_reducible exact H2_) | with_reducible exact H | (rw [hy319]; exact H) | exact H
                    have Ny319 := Aside0.mk hy319
                    clear hy319
                    have H' := Aside0.mk H
                    clear H
                    go_wp2_with (first | ((with_reducible refine gate_builtin (b := .append) (xs := #[.tmp 77, .tmp 78]) rfl ?_); (try (refine gate_guard (by rfl) ?_; dsimp only)); at_builtin; refine Kd.R_append_rows (Kd.int .u8) (w0 := w) w.heap.size rfl (.tmp 77) (.tmp 78) 22 5 (.int .u8 0) 1 rfl Try.underlying22 info5 rfl (by decide) (by omega) (.slice none 0 0) ([] : List Int) t305 _ _ _ (fun k_ => some k_ ≠ (.slice Ao33 t305.length co33 : Value).ownBlock ∧ some k_ ≠ (.slice Ao38 t313.length co38 : Value).ownBlock) (fun _ => False) rfl rfl ?aO ?aR (fun _ _ h => h) (fun _ h => h.elim) ?aF ?aB ?aS ?aL ?_; (case aR => repeat (first | exact (Kd.R_reads' HO_7.out).2.2 | (with_reducible refine Kd.C_alloc ?_ _) | (with_reducible refine Kd.C_drewN ?_ _) | (with_reducible refine Kd.C_drew ?_))); (case aB => exact (by repeat (first | (with_reducible first | exact HB.out | apply below_alloc | apply pw_below_drewN | apply below_drew1 | refine below_set ?_ GE304.out | refine below_set ?_ GE317.out) | exact HB.out))); (case aF => exact (fun k_ hk => ⟨Kd.fresh' (Kd.R_lt (by (with_reducible repeat (first | apply Kd.R_alloc | apply Kd.R_drewN | apply Kd.R_drew)); exact HO_7.out)) k_ hk, Kd.fresh' (Kd.R_lt (by (with_reducible repeat (first | apply Kd.R_alloc | apply Kd.R_drewN | apply Kd.R_drew)); exact HO_318003.out)) k_ hk⟩)); (case aO => exact ((Kd.R_nil _ _ _ _ (fun k_ => some k_ ≠ (.slice Ao33 t305.length co33 : Value).ownBlock ∧ some k_ ≠ (.slice Ao38 t313.length co38 : Value).ownBlock)))); (case aS => exact (below_size (by repeat (first | (with_reducible first | exact HB.out | apply below_alloc | apply pw_below_drewN | apply below_drew1 | refine below_set ?_ GE304.out | refine below_set ?_ GE317.out) | exact HB.out)))); (case aL => have := LMc56.out; omega); intro v320 w57 ho hb hg hat; rw [← Ny319.out] at ho; have n0_ := Aside0.mk (Kd.R_after (Kd.R_apart_nil (by (with_reducible repeat (first | apply Kd.R_alloc | apply Kd.R_drewN | apply Kd.R_drew)); exact HO_7.out)) hg hat); have n1_ := Aside0.mk (Kd.R_after (Kd.R_apart_nil (by (with_reducible repeat (first | apply Kd.R_alloc | apply Kd.R_drewN | apply Kd.R_drew)); exact HO_318003.out)) hg hat); have n2_ := Aside0.mk (blk_grown (g := gb304) (o := .cells #[.int .u32 a0_0, .int .u64 a0_1, .int .u64 a0_2, .slice A0_3 l0_3.length c0_3] 32 (0, 0)) (by (with_reducible repeat (first | refine blk_drewN ?_ _ | refine blk_drew ?_ | refine blk_alloc ?_ _)); exact BK304.out) hg (by simp [Value.ownBlock])); have n3_ := Aside0.mk (blk_grown (g := gb317) (o := .cells #[.int .u32 t310, .int .u64 t311, .int .u64 t312, .slice Ao38 t313.length co38] 32 (0, 0)) (by (with_reducible repeat (first | refine blk_drewN ?_ _ | refine blk_drew ?_ | refine blk_alloc ?_ _)); exact BK317.out) hg (by simp [Value.ownBlock])); have n4_ := Aside0.mk (hb); have n5_ := Aside0.mk (ho); clear HO_7; clear HO_318003; clear BK304; clear BK317; clear HB; have HO_7 := n0_; have HO_318003 := n1_; have BK304 := n2_; have BK317 := n3_; have HB := n4_; have HO321 := n5_; clear n0_ n1_ n2_ n3_ n4_ n5_; clear ho hb hg hat))
                    go_loopg [14] kj53 (fun kq v14 w' => ∃ (x13_3 : List Int) (x14_3 : Int), v14 = .int .i64 x14_3 ∧ Aside0 (vignettelaw21_PacketBack.l0 kq a2 t305 (wrap64 (8 * (t305.length : Int))) x12_53 x13_3 x14_3 = some r) ∧ Aside0 (kq ≤ kj53) ∧ Aside0 (Kd.R (Kd.int .u8) 5 w' w.heap.size (fun k_ => some k_ ≠ (v320 : Value).ownBlock ∧ some k_ ≠ ((.slice Ao38 t313.length co38) : Value).ownBlock) (.slice Ao33 t305.length co33) t305) ∧ Aside0 (Kd.R (Kd.int .u8) 5 w' w.heap.size (fun k_ => some k_ ≠ ((.slice Ao33 t305.length co33) : Value).ownBlock ∧ some k_ ≠ ((.slice Ao38 t313.length co38) : Value).ownBlock) v320 x13_3) ∧ Aside0 (Kd.R (Kd.int .u8) 5 w' w.heap.size (fun k_ => some k_ ≠ ((.slice Ao33 t305.length co33) : Value).ownBlock ∧ some k_ ≠ (v320 : Value).ownBlock) (.slice Ao38 t313.length co38) t313) ∧ Aside0 (w'.heap[gb304]? = some (.cells #[.int .u32 a0_0, .int .u64 a0_1, .int .u64 a0_2, (.slice A0_3 l0_3.length c0_3)] 32 (0, 0))) ∧ Aside0 (w'.heap[gb317]? = some (.cells #[.int .u32 t310, .int .u64 t311, .int .u64 t312, (.slice Ao38 t313.length co38)] 32 (0, 0))) ∧ Aside0 (Below w.heap.size w w'))
                    case atStart => exact ⟨(y319), (0), (by first | rfl | (simp; done) | (simp [*]; done)), H', ⟨Nat.le_refl _⟩, ⟨by (with_reducible repeat (first | apply Kd.R_alloc | apply Kd.R_drewN | apply Kd.R_drew)); exact Kd.R_mono HO_7.out (fun _ hk => ⟨hk.2, hk.1⟩)⟩, ⟨by (with_reducible repeat (first | apply Kd.R_alloc | apply Kd.R_drewN | apply Kd.R_drew)); exact HO321.out⟩, ⟨by (with_reducible repeat (first | apply Kd.R_alloc | apply Kd.R_drewN | apply Kd.R_drew)); exact HO_318003.out⟩, ⟨by (with_reducible repeat (first | refine blk_drewN ?_ _ | refine blk_drew ?_ | refine blk_alloc ?_ _)); exact BK304.out⟩, ⟨by (with_reducible repeat (first | refine blk_drewN ?_ _ | refine blk_drew ?_ | refine blk_alloc ?_ _)); exact BK317.out⟩, ⟨by repeat (first | (with_reducible first | exact HB.out | apply below_alloc | apply pw_below_drewN | apply below_drew1 | refine below_set ?_ GE304.out | refine below_set ?_ GE317.out) | exact HB.out)⟩⟩
                    case round =>
                      clear H'
                      try clear c1
                      try clear c2
                      try clear p2
                      try clear c3
                      try clear c4
                      try clear c4b0
                      try clear c4b1
                      try clear c5
                      try clear p6
                      try clear c8
                      try clear c8b0
                      try clear c8b1
                      try clear c9
                      try clear c9b0
                      try clear c9b1
                      try clear c10
                      try clear c10b0
                      try clear c10b1
                      try clear c10b2
                      try clear c22
                      try clear c26
                      try clear c36
                      try clear c39
                      try clear c39b0
                      try clear c39b1
                      try clear c40
                      try clear c40b0
                      try clear c40b1
                      try clear c42
                      try clear c43
                      try clear c48
                      try clear c52
                      try clear c53
                      try clear c53b0
                      try clear c53b1
                      try clear c55
                      try clear c55b0
                      try clear c56
                      try clear hcz13_0
                      try clear hcz13_1
                      try clear hcz13_2
                      try clear hcz13_3
                      try clear hcz15_0
                      try clear hcz15_1
                      try clear hcz15_2
                      try clear hcz15_3
                      try clear hcz19_0
                      try clear hcz19_1
                      try clear hcz19_2
                      try clear hcz19_3
                      try clear hcz21_0
                      try clear hcz21_1
                      try clear hcz21_2
                      try clear hcz21_3
                      try clear hcz24_0
                      try clear hcz24_1
                      try clear hcz24_2
                      try clear hcz24_3
                      try clear hcz26_0
                      try clear hcz26_1
                      try clear hcz26_2
                      try clear hcz26_3
                      try clear hcz30_0
                      try clear hcz30_1
                      try clear hcz30_2
                      try clear hcz30_3
                      try clear hcz32_0
                      try clear hcz32_1
                      try clear hcz32_2
                      try clear hcz32_3
                      try clear hcz37_0
                      try clear hcz37_1
                      try clear hcz37_2
                      try clear hcz37_3
                      try clear hcz44_0
                      try clear hcz44_1
                      try clear hcz44_2
                      try clear hcz44_3
                      try clear hcz45_0
                      try clear hcz45_1
                      try clear hcz45_2
                      try clear hcz45_3
                      try clear hcz47_0
                      try clear hcz47_1
                      try clear hcz47_2
                      try clear hcz47_3
                      try clear hcz49_0
                      try clear hcz49_1
                      try clear hcz49_2
                      try clear hcz49_3
                      try clear hcz50_0
                      try clear hcz50_1
                      try clear hcz50_2
                      try clear hcz50_3
                      try clear hcz6_0
                      try clear hcz6_1
                      try clear hcz6_2
                      try clear hcz6_3
                      try clear hfz13_0
                      try clear hfz13_1
                      try clear hfz13_2
                      try clear hfz13_3
                      try clear hfz15_0
                      try clear hfz15_1
                      try clear hfz15_2
                      try clear hfz15_3
                      try clear hfz19_0
                      try clear hfz19_1
                      try clear hfz19_2
                      try clear hfz19_3
                      try clear hfz21_0
                      try clear hfz21_1
                      try clear hfz21_2
                      try clear hfz21_3
                      try clear hfz24_0
                      try clear hfz24_1
                      try clear hfz24_2
                      try clear hfz24_3
                      try clear hfz26_0
                      try clear hfz26_1
                      try clear hfz26_2
                      try clear hfz26_3
                      try clear hfz30_0
                      try clear hfz30_1
                      try clear hfz30_2
                      try clear hfz30_3
                      try clear hfz32_0
                      try clear hfz32_1
                      try clear hfz32_2
                      try clear hfz32_3
                      try clear hfz37_0
                      try clear hfz37_1
                      try clear hfz37_2
                      try clear hfz37_3
                      try clear hfz44_0
                      try clear hfz44_1
                      try clear hfz44_2
                      try clear hfz44_3
                      try clear hfz45_0
                      try clear hfz45_1
                      try clear hfz45_2
                      try clear hfz45_3
                      try clear hfz47_0
                      try clear hfz47_1
                      try clear hfz47_2
                      try clear hfz47_3
                      try clear hfz49_0
                      try clear hfz49_1
                      try clear hfz49_2
                      try clear hfz49_3
                      try clear hfz50_0
                      try clear hfz50_1
                      try clear hfz50_2
                      try clear hfz50_3
                      try clear hfz6_0
                      try clear hfz6_1
                      try clear hfz6_2
                      try clear hfz6_3
                      try clear p2
                      try clear p6
                      obtain ⟨x13_3, x14_3, rfl, HA, HK3, HO_7, HO_13, HO_318003, BK304, BK317, HB⟩ := hrel
                      cases gk with
                      | zero => exact absurd HA.out (by simp [vignettelaw21_PacketBack.l0])
                      | succ k3 =>
                        have H := HA.out
                        clear HA
                        simp only [vignettelaw21_PacketBack.l0] at H
                        have HC58 := Aside0.mk H
                        clear H
                        go_upto_region 16 with (fail)
                        go_cut [88] (fun v88 wc => ∃ (kq : Nat) (x88_57 : Bool), v88 = .bool x88_57 ∧ Aside0 (vignettelaw21_PacketBack.j3 kq a2 t305 (wrap64 (8 * (t305.length : Int))) x12_53 x13_3 x14_3 x88_57 = some r) ∧ Aside0 (kq ≤ k3) ∧ Aside0 (Kd.R (Kd.int .u8) 5 wc w.heap.size (fun k_ => some k_ ≠ (v320 : Value).ownBlock ∧ some k_ ≠ ((.slice Ao38 t313.length co38) : Value).ownBlock) (.slice Ao33 t305.length co33) t305) ∧ Aside0 (Kd.R (Kd.int .u8) 5 wc w.heap.size (fun k_ => some k_ ≠ ((.slice Ao33 t305.length co33) : Value).ownBlock ∧ some k_ ≠ ((.slice Ao38 t313.length co38) : Value).ownBlock) v320 x13_3) ∧ Aside0 (Kd.R (Kd.int .u8) 5 wc w.heap.size (fun k_ => some k_ ≠ ((.slice Ao33 t305.length co33) : Value).ownBlock ∧ some k_ ≠ (v320 : Value).ownBlock) (.slice Ao38 t313.length co38) t313) ∧ Aside0 (wc.heap[gb304]? = some (.cells #[.int .u32 a0_0, .int .u64 a0_1, .int .u64 a0_2, (.slice A0_3 l0_3.length c0_3)] 32 (0, 0))) ∧ Aside0 (wc.heap[gb317]? = some (.cells #[.int .u32 t310, .int .u64 t311, .int .u64 t312, (.slice Ao38 t313.length co38)] 32 (0, 0))) ∧ Aside0 (Below w.heap.size w wc))
                        case first =>
                          have H := HC58.out
                          clear HC58
                          by_cases c59 : x14_3 < 32
                          · rw [if_pos c59] at H
                            have c59b0 : decide (x14_3 < 32) = true := decide_eq_true c59
                            clear c59
                            (first | rw [c59b0] | (simp only [i64_w, i32_w]; rw [c59b0]) | skip)
                            have H' := Aside0.mk H
                            clear H
                            go_wp2
                            go_meet
                            case rel => exact ⟨_, (decide ((wrap64 (x12_53 + x14_3)) < (wrap64 (8 * (t305.length : Int))))), (by first | rfl | (simp; done) | (simp [*]; done)), H', ⟨by have := HJ27.out; have := HJ53.out; have := HK3.out; first | omega | exact Nat.le_refl _⟩, ⟨by (with_reducible repeat (first | apply Kd.R_alloc | apply Kd.R_drewN | apply Kd.R_drew)); exact HO_7.out⟩, ⟨by (with_reducible repeat (first | apply Kd.R_alloc | apply Kd.R_drewN | apply Kd.R_drew)); exact HO_13.out⟩, ⟨by (with_reducible repeat (first | apply Kd.R_alloc | apply Kd.R_drewN | apply Kd.R_drew)); exact HO_318003.out⟩, ⟨by (with_reducible repeat (first | refine blk_drewN ?_ _ | refine blk_drew ?_ | refine blk_alloc ?_ _)); exact BK304.out⟩, ⟨by (with_reducible repeat (first | refine blk_drewN ?_ _ | refine blk_drew ?_ | refine blk_alloc ?_ _)); exact BK317.out⟩, ⟨by repeat (first | (with_reducible first | exact HB.out | apply below_alloc | apply pw_below_drewN | apply below_drew1 | refine below_set ?_ GE304.out | refine below_set ?_ GE317.out) | exact HB.out)⟩⟩
                          · rw [if_neg c59] at H
                            have c59b0 : decide (x14_3 < 32) = false := decide_eq_false c59
                            clear c59
                            (first | rw [c59b0] | (simp only [i64_w, i32_w]; rw [c59b0]) | skip)
                            have H' := Aside0.mk H
                            clear H
                            go_wp2
                            go_meet
                            case rel => exact ⟨_, (false), (by first | rfl | (simp; done) | (simp [*]; done)), H', ⟨by have := HJ27.out; have := HJ53.out; have := HK3.out; first | omega | exact Nat.le_refl _⟩, ⟨by (with_reducible repeat (first | apply Kd.R_alloc | apply Kd.R_drewN | apply Kd.R_drew)); exact HO_7.out⟩, ⟨by (with_reducible repeat (first | apply Kd.R_alloc | apply Kd.R_drewN | apply Kd.R_drew)); exact HO_13.out⟩, ⟨by (with_reducible repeat (first | apply Kd.R_alloc | apply Kd.R_drewN | apply Kd.R_drew)); exact HO_318003.out⟩, ⟨by (with_reducible repeat (first | refine blk_drewN ?_ _ | refine blk_drew ?_ | refine blk_alloc ?_ _)); exact BK304.out⟩, ⟨by (with_reducible repeat (first | refine blk_drewN ?_ _ | refine blk_drew ?_ | refine blk_alloc ?_ _)); exact BK317.out⟩, ⟨by repeat (first | (with_reducible first | exact HB.out | apply below_alloc | apply pw_below_drewN | apply below_drew1 | refine below_set ?_ GE304.out | refine below_set ?_ GE317.out) | exact HB.out)⟩⟩
                        case rest =>
                          clear HC58
                          try clear c1
                          try clear c2
                          try clear p2
                          try clear c3
                          try clear c4
                          try clear c4b0
                          try clear c4b1
                          try clear c5
                          try clear p6
                          try clear c8
                          try clear c8b0
                          try clear c8b1
                          try clear c9
                          try clear c9b0
                          try clear c9b1
                          try clear c10
                          try clear c10b0
                          try clear c10b1
                          try clear c10b2
                          try clear c22
                          try clear c26
                          try clear c36
                          try clear c39
                          try clear c39b0
                          try clear c39b1
                          try clear c40
                          try clear c40b0
                          try clear c40b1
                          try clear c42
                          try clear c43
                          try clear c48
                          try clear c52
                          try clear c53
                          try clear c53b0
                          try clear c53b1
                          try clear c55
                          try clear c55b0
                          try clear c56
                          try clear c59
                          try clear c59b0
                          try clear hcz13_0
                          try clear hcz13_1
                          try clear hcz13_2
                          try clear hcz13_3
                          try clear hcz15_0
                          try clear hcz15_1
                          try clear hcz15_2
                          try clear hcz15_3
                          try clear hcz19_0
                          try clear hcz19_1
                          try clear hcz19_2
                          try clear hcz19_3
                          try clear hcz21_0
                          try clear hcz21_1
                          try clear hcz21_2
                          try clear hcz21_3
                          try clear hcz24_0
                          try clear hcz24_1
                          try clear hcz24_2
                          try clear hcz24_3
                          try clear hcz26_0
                          try clear hcz26_1
                          try clear hcz26_2
                          try clear hcz26_3
                          try clear hcz30_0
                          try clear hcz30_1
                          try clear hcz30_2
                          try clear hcz30_3
                          try clear hcz32_0
                          try clear hcz32_1
                          try clear hcz32_2
                          try clear hcz32_3
                          try clear hcz37_0
                          try clear hcz37_1
                          try clear hcz37_2
                          try clear hcz37_3
                          try clear hcz44_0
                          try clear hcz44_1
                          try clear hcz44_2
                          try clear hcz44_3
                          try clear hcz45_0
                          try clear hcz45_1
                          try clear hcz45_2
                          try clear hcz45_3
                          try clear hcz47_0
                          try clear hcz47_1
                          try clear hcz47_2
                          try clear hcz47_3
                          try clear hcz49_0
                          try clear hcz49_1
                          try clear hcz49_2
                          try clear hcz49_3
                          try clear hcz50_0
                          try clear hcz50_1
                          try clear hcz50_2
                          try clear hcz50_3
                          try clear hcz6_0
                          try clear hcz6_1
                          try clear hcz6_2
                          try clear hcz6_3
                          try clear hfz13_0
                          try clear hfz13_1
                          try clear hfz13_2
                          try clear hfz13_3
                          try clear hfz15_0
                          try clear hfz15_1
                          try clear hfz15_2
                          try clear hfz15_3
                          try clear hfz19_0
                          try clear hfz19_1
                          try clear hfz19_2
                          try clear hfz19_3
                          try clear hfz21_0
                          try clear hfz21_1
                          try clear hfz21_2
                          try clear hfz21_3
                          try clear hfz24_0
                          try clear hfz24_1
                          try clear hfz24_2
                          try clear hfz24_3
                          try clear hfz26_0
                          try clear hfz26_1
                          try clear hfz26_2
                          try clear hfz26_3
                          try clear hfz30_0
                          try clear hfz30_1
                          try clear hfz30_2
                          try clear hfz30_3
                          try clear hfz32_0
                          try clear hfz32_1
                          try clear hfz32_2
                          try clear hfz32_3
                          try clear hfz37_0
                          try clear hfz37_1
                          try clear hfz37_2
                          try clear hfz37_3
                          try clear hfz44_0
                          try clear hfz44_1
                          try clear hfz44_2
                          try clear hfz44_3
                          try clear hfz45_0
                          try clear hfz45_1
                          try clear hfz45_2
                          try clear hfz45_3
                          try clear hfz47_0
                          try clear hfz47_1
                          try clear hfz47_2
                          try clear hfz47_3
                          try clear hfz49_0
                          try clear hfz49_1
                          try clear hfz49_2
                          try clear hfz49_3
                          try clear hfz50_0
                          try clear hfz50_1
                          try clear hfz50_2
                          try clear hfz50_3
                          try clear hfz6_0
                          try clear hfz6_1
                          try clear hfz6_2
                          try clear hfz6_3
                          try clear p2
                          try clear p6
                          obtain ⟨kq, x88_57, rfl, HA, HJ57, HO_7, HO_13, HO_318003, BK304, BK317, HB⟩ := hcut
                          cases kq with
                          | zero => exact absurd HA.out (by simp [vignettelaw21_PacketBack.j3])
                          | succ kj57 =>
                            have H := HA.out
                            clear HA
                            simp only [vignettelaw21_PacketBack.j3] at H
                            by_cases c60 : x88_57 = true
                            · subst c60
                              have H1 : (if 0 ≤ x14_3 then (if (Go.bits .and .u32 (shr .u32 a2 x14_3) 1) = 1 then (if 0 ≤ (wrap64 (Int.tdiv (wrap64 (x12_53 + x14_3)) 8)) then (if (wrap64 (Int.tdiv (wrap64 (x12_53 + x14_3)) 8)) < (x13_3.length : Int) then (if 0 ≤ (Int.tmod (wrap64 (x12_53 + x14_3)) 8) then (vignettelaw21_PacketBack.l0 kj57 a2 t305 (wrap64 (8 * (t305.length : Int))) x12_53 (x13_3.set ((wrap64 (Int.tdiv (wrap64 (x12_53 + x14_3)) 8)) : Int).toNat (Go.bits .xor .u8 (rd x13_3 (wrap64 (Int.tdiv (wrap64 (x12_53 + x14_3)) 8))) (shl .u8 1 (Int.tmod (wrap64 (x12_53 + x14_3)) 8)))) (wrap64 (x14_3 + 1))) else (none)) else (none)) else (none)) else (vignettelaw21_PacketBack.l0 kj57 a2 t305 (wrap64 (8 * (t305.length : Int))) x12_53 x13_3 (wrap64 (x14_3 + 1)))) else (none)) = some r := by rw [if_pos rfl] at H; exact H
                              clear H
                              have H := H1
                              clear H1
                              by_cases c61 : 0 ≤ x14_3
                              · rw [if_pos c61] at H
                                have c61b0 := eq_true c61
                                have c61b1 : decide (0 ≤ x14_3) = true := decide_eq_true c61
                                clear c61
                                obtain ⟨ji62, hji62⟩ : ∃ j_ : Int, (shr .u32 a2 x14_3) = j_ := ⟨_, rfl⟩
                                replace H : (if (Go.bits .and .u32 (ji62) 1) = 1 then (if 0 ≤ (wrap64 (Int.tdiv (wrap64 (x12_53 + x14_3)) 8)) then (if (wrap64 (Int.tdiv (wrap64 (x12_53 + x14_3)) 8)) < (x13_3.length : Int) then (if 0 ≤ (Int.tmod (wrap64 (x12_53 + x14_3)) 8) then (vignettelaw21_PacketBack.l0 kj57 a2 t305 (wrap64 (8 * (t305.length : Int))) x12_53 (x13_3.set ((wrap64 (Int.tdiv (wrap64 (x12_53 + x14_3)) 8)) : Int).toNat (Go.bits .xor .u8 (rd x13_3 (wrap64 (Int.tdiv (wrap64 (x12_53 + x14_3)) 8))) (shl .u8 1 (Int.tmod (wrap64 (x12_53 + x14_3)) 8)))) (wrap64 (x14_3 + 1))) else (none)) else (none)) else (none)) else (vignettelaw21_PacketBack.l0 kj57 a2 t305 (wrap64 (8 * (t305.length : Int))) x12_53 x13_3 (wrap64 (x14_3 + 1)))) = some r := by first | (rw [hji62] at H; exact H) | (simp only [hji62] at H ⊢; exact H)
                                have hji62_ : (a2 / 2 ^ min x14_3.toNat 32) = ji62 := hji62
                                have hji62z : x14_3 ≤ 32 → (a2 / 2 ^ x14_3.toNat) = ji62 := shr_small hji62
                                by_cases c63 : (Go.bits .and .u32 (ji62) 1) = 1
                                · rw [if_pos c63] at H
                                  have c63b0 : ((Go.bits .and .u32 (ji62) 1) == 1) = true := beq_iff_eq.mpr c63
                                  have c63b1 : ((Go.bits .and .u32 (ji62) 1) != 1) = false := bne_eq_false_iff_eq.mpr c63
                                  clear c63
                                  obtain ⟨ji64, hji64⟩ : ∃ j_ : Int, (wrap64 (Int.tdiv (wrap64 (x12_53 + x14_3)) 8)) = j_ := ⟨_, rfl⟩
                                  replace H : (if 0 ≤ (ji64) then (if (ji64) < (x13_3.length : Int) then (if 0 ≤ (Int.tmod (wrap64 (x12_53 + x14_3)) 8) then (vignettelaw21_PacketBack.l0 kj57 a2 t305 (wrap64 (8 * (t305.length : Int))) x12_53 (x13_3.set ((ji64) : Int).toNat (Go.bits .xor .u8 (rd x13_3 (ji64)) (shl .u8 1 (Int.tmod (wrap64 (x12_53 + x14_3)) 8)))) (wrap64 (x14_3 + 1))) else (none)) else (none)) else (none)) = some r := by first | (rw [hji64] at H; exact H) | (simp only [hji64] at H ⊢; exact H)
                                  have hji64w : (IntKind.i64.wrap (Int.tdiv (wrap64 (x12_53 + x14_3)) 8)) = ji64 := (i64_w _).trans hji64
                                  by_cases c65 : 0 ≤ (ji64)
                                  · rw [if_pos c65] at H
                                    have c65b0 : decide (0 ≤ (ji64)) = true := decide_eq_true c65
                                    clear c65
                                    by_cases c66 : (ji64) < (x13_3.length : Int)
                                    · rw [if_pos c66] at H
                                      have c66b0 : decide ((ji64) < (x13_3.length : Int)) = true := decide_eq_true c66
                                      clear c66
                                      obtain ⟨ji67, hji67⟩ : ∃ j_ : Int, (Int.tmod (wrap64 (x12_53 + x14_3)) 8) = j_ := ⟨_, rfl⟩
                                      replace H : (if 0 ≤ (ji67) then (vignettelaw21_PacketBack.l0 kj57 a2 t305 (wrap64 (8 * (t305.length : Int))) x12_53 (x13_3.set ((ji64) : Int).toNat (Go.bits .xor .u8 (rd x13_3 (ji64)) (shl .u8 1 (ji67)))) (wrap64 (x14_3 + 1))) else (none)) = some r := by first | (rw [hji67] at H; exact H) | (simp only [hji67] at H ⊢; exact H)
                                      by_cases c68 : 0 ≤ (ji67)
                                      · rw [if_pos c68] at H
                                        have c68b0 := eq_true c68
                                        have c68b1 : decide (0 ≤ (ji67)) = true := decide_eq_true c68
                                        clear c68
                                        obtain ⟨ji69, hji69⟩ : ∃ j_ : Int, (shl .u8 1 (ji67)) = j_ := ⟨_, rfl⟩
                                        replace H : (vignettelaw21_PacketBack.l0 kj57 a2 t305 (wrap64 (8 * (t305.length : Int))) x12_53 (x13_3.set ((ji64) : Int).toNat (Go.bits .xor .u8 (rd x13_3 (ji64)) (ji69))) (wrap64 (x14_3 + 1))) = some r := by first | (rw [hji69] at H; exact H) | (simp only [hji69] at H ⊢; exact H)
                                        have hji69_ : (IntKind.u8.wrap (1 * 2 ^ min (ji67).toNat 8)) = ji69 := hji69
                                        have hji69z : (ji67) ≤ 8 → (IntKind.u8.wrap (1 * 2 ^ (ji67).toNat)) = ji69 := shl_small hji69
                                        have hji69u : (IntKind.u8.wrap (2 ^ min (ji67).toNat 8)) = ji69 := by have h_ := hji69_; rw [Int.one_mul] at h_; exact h_
                                        have hji69v : (ji67) ≤ 8 → (IntKind.u8.wrap (2 ^ (ji67).toNat)) = ji69 := fun hle_ => by have h_ := hji69z hle_; rw [Int.one_mul] at h_; exact h_
                                        obtain ⟨y323, hy323⟩ : ∃ y_ : List Int, y_ = (x13_3.set ((ji64) : Int).toNat (Go.bits .xor .u8 (rd x13_3 (ji64)) (ji69))) := ⟨_, rfl⟩
                                        replace H : (vignettelaw21_PacketBack.l0 kj57 a2 t305 (wrap64 (8 * (t305.length : Int))) x12_53 y323 (wrap64 (x14_3 + 1))) = some r := by first | (rw [hy323]; with_reducible exact H) | (have H2_ := (Option.bind_some _ _).symm.trans H; rw [hy323]; with_reducible exact H2_) | (have H2_ := (Option.bind_some _ _).symm.trans H; with_reducible exact H2_) | with_reducible exact H | (rw [hy323]; exact H) | exact H
                                        have Ny323 := Aside0.mk hy323
                                        clear hy323
                                        have H' := Aside0.mk H
                                        clear H
                                        try go_wp2
                                        have n0_ := Aside0.mk (Kd.R_drew HO_7.out)
                                        have n1_ := Aside0.mk (Kd.R_drew HO_13.out)
                                        have n2_ := Aside0.mk (Kd.R_drew HO_318003.out)
                                        have n3_ := Aside0.mk (blk_drew BK304.out)
                                        have n4_ := Aside0.mk (blk_drew BK317.out)
                                        have n5_ := Aside0.mk (below_drew1 HB.out)
                                        clear HO_7
                                        clear HO_13
                                        clear HO_318003
                                        clear BK304
                                        clear BK317
                                        clear HB
                                        have HO_7 := n0_
                                        have HO_13 := n1_
                                        have HO_318003 := n2_
                                        have BK304 := n3_
                                        have BK317 := n4_
                                        have HB := n5_
                                        clear n0_ n1_ n2_ n3_ n4_ n5_
                                        obtain ⟨Ao72, co72, eo72⟩ := Kd.R_slice HO_13.out
                                        (first | subst eo72 | (injection eo72 with f1_ f2_ f3_; have f4_ := f1_.symm; have f5_ := f3_.symm; clear f1_ f2_ f3_; subst f4_; subst f5_))
                                        have p322 : 0 ≤ ((ji64) : Int) := of_decide_eq_true (by first | (with_reducible assumption) | assumption)
                                        have q322 : (ji64) < (x13_3.length : Int) := of_decide_eq_true (by first | (with_reducible assumption) | assumption)
                                        obtain ⟨ad322, e322, hx322_0⟩ := Kd.at_int (Kd.R_reads' HO_13.out).2.2 (ji64) p322 q322
                                        cases e322
                                        replace p322 := eq_true p322
                                        replace q322 := eq_true q322
                                        have p70 : 0 ≤ ((ji64) : Int) := of_decide_eq_true (by first | (with_reducible assumption) | assumption)
                                        have q70 : ((ji64) : Int) < ((x13_3.length : Int) : Int) := of_decide_eq_true (by first | (with_reducible assumption) | assumption)
                                        obtain ⟨go70, co70, eo70, gb70, gl70, cl70, HG70⟩ := Kd.R_form HO_13.out (by omega)
                                        (first | cases eo70 | (injection eo70 with ea_ en_ ec_; (first | subst ea_ | (injection ea_ with ea_; subst ea_)); subst ec_; clear en_))
                                        have GB70 := Aside0.mk gb70
                                        have GG70 := Aside0.mk HG70
                                        clear gb70 gl70 HG70
                                        (first | simp only [add_plain] at hx322_0 | skip)
                                        obtain ⟨hx70_0, hf70_0⟩ := Kd.R_celln 0 HO_13.out ((ji64) : Int) p70 q70
                                        replace p70 := eq_true p70
                                        replace q70 := eq_true q70
                                        have HP73 := Kd.R_putn HO_13.out ((ji64) : Int) (Go.bits .xor .u8 (rd x13_3 (ji64)) (ji69))
                                        rw [← Ny323.out] at HP73
                                        have HQ73 := Aside0.mk HP73
                                        clear HP73
                                        refine start_ (n := 20) (S := fun w' => w'.cell? ⟨go70, ((ji64)).toNat, none⟩ = some (.int .u8 (rd x13_3 (ji64)))) (ds := [19]) #[false, false, false, false, false, false, false, false, false, false, false, false, false, false, false, false, false, false, false, false] (by kernel_rfl) rfl rfl (hx322_0) (fun hHeld => ?_); refine with_tabW vignettelaw21_PacketBack.tab19 vignettelaw21_PacketBack.bits19 (fun HT_ HW_ => ?_)
                                        generalize wc.drew = w71 at HO_7 HO_13 HO_318003 BK304 BK317 HB GG70 HQ73 hf70_0 hx322_0 hx70_0 hHeld ⊢
                                        refine pure_ (i := 0) (N := some 96) (v := ?_) (a' := ?_) #[true, false, false, false, false, false, false, false, false, false, false, false, false, false, false, false, false, false, false, false] rfl rfl (any_of HT_.out (by kernel_rfl)) (fun _ _ _ h => h) (Or.inl ⟨by rfl, ?_⟩) ?_ ?_
                                        rotate_left
                                        · intro w'
                                          go_simp
                                          with_reducible rfl
                                        rotate_left
                                        · simp only [Act.put, List.setIfInBounds_toArray, List.set_cons_zero, List.set_cons_succ, i64_w, i32_w, Ext.u32_w, Ext.u8_w]
                                          rfl
                                        refine pure_ (i := 1) (N := some 97) (v := ?_) (a' := ?_) #[true, true, false, false, false, false, false, false, false, false, false, false, false, false, false, false, false, false, false, false] rfl rfl (any_of HT_.out (by kernel_rfl)) (fun _ _ _ h => h) (Or.inl ⟨by rfl, ?_⟩) ?_ ?_
                                        rotate_left
                                        · intro w'
                                          go_simp
                                          with_reducible rfl
                                        rotate_left
                                        · simp only [Act.put, List.setIfInBounds_toArray, List.set_cons_zero, List.set_cons_succ, i64_w, i32_w, Ext.u32_w, Ext.u8_w]
                                          rfl
                                        refine pure_ (i := 2) (N := some 98) (v := ?_) (a' := ?_) #[true, true, true, false, false, false, false, false, false, false, false, false, false, false, false, false, false, false, false, false] rfl rfl (any_of HT_.out (by kernel_rfl)) (fun _ _ _ h => h) (Or.inl ⟨by rfl, ?_⟩) ?_ ?_
                                        rotate_left
                                        · intro w'
                                          go_simp
                                          with_reducible rfl
                                        rotate_left
                                        · simp only [Act.put, List.setIfInBounds_toArray, List.set_cons_zero, List.set_cons_succ, i64_w, i32_w, Ext.u32_w, Ext.u8_w]
                                          rfl
                                        refine pure_ (i := 3) (N := some 99) (v := ?_) (a' := ?_) #[true, true, true, true, false, false, false, false, false, false, false, false, false, false, false, false, false, false, false, false] rfl rfl (any_of HT_.out (by kernel_rfl)) (fun _ _ _ h => h) (Or.inl ⟨by rfl, ?_⟩) ?_ ?_
                                        rotate_left
                                        · intro w'
                                          go_simp
                                          with_reducible rfl
                                        rotate_left
                                        · simp only [Act.put, List.setIfInBounds_toArray, List.set_cons_zero, List.set_cons_succ, i64_w, i32_w, Ext.u32_w, Ext.u8_w]
                                          rfl
                                        refine pure_ (i := 4) (N := some 100) (v := ?_) (a' := ?_) #[true, true, true, true, true, false, false, false, false, false, false, false, false, false, false, false, false, false, false, false] rfl rfl (any_of HT_.out (by kernel_rfl)) (fun _ _ _ h => h) (Or.inl ⟨by rfl, ?_⟩) ?_ ?_
                                        rotate_left
                                        · intro w'
                                          go_simp
                                          with_reducible rfl
                                        rotate_left
                                        · simp only [Act.put, List.setIfInBounds_toArray, List.set_cons_zero, List.set_cons_succ, i64_w, i32_w, Ext.u32_w, Ext.u8_w]
                                          rfl
                                        refine pure_ (i := 5) (N := some 101) (v := ?_) (a' := ?_) #[true, true, true, true, true, true, false, false, false, false, false, false, false, false, false, false, false, false, false, false] rfl rfl (any_of HT_.out (by kernel_rfl)) (fun _ _ _ h => h) (Or.inl ⟨by rfl, ?_⟩) ?_ ?_
                                        rotate_left
                                        · intro w'
                                          go_simp
                                          with_reducible rfl
                                        rotate_left
                                        · simp only [Act.put, List.setIfInBounds_toArray, List.set_cons_zero, List.set_cons_succ, i64_w, i32_w, Ext.u32_w, Ext.u8_w]
                                          rfl
                                        refine pure_ (i := 6) (N := some 102) (v := ?_) (a' := ?_) #[true, true, true, true, true, true, true, false, false, false, false, false, false, false, false, false, false, false, false, false] rfl rfl (any_of HT_.out (by kernel_rfl)) (fun _ _ _ h => h) (Or.inl ⟨by rfl, ?_⟩) ?_ ?_
                                        rotate_left
                                        · intro w'
                                          go_simp
                                          with_reducible rfl
                                        rotate_left
                                        · simp only [Act.put, List.setIfInBounds_toArray, List.set_cons_zero, List.set_cons_succ, i64_w, i32_w, Ext.u32_w, Ext.u8_w]
                                          rfl
                                        refine pure_ (i := 7) (N := some 103) (v := ?_) (a' := ?_) #[true, true, true, true, true, true, true, true, false, false, false, false, false, false, false, false, false, false, false, false] rfl rfl (any_of HT_.out (by kernel_rfl)) (fun _ _ _ h => h) (Or.inl ⟨by rfl, ?_⟩) ?_ ?_
                                        rotate_left
                                        · intro w'
                                          go_simp
                                          with_reducible rfl
                                        rotate_left
                                        · simp only [Act.put, List.setIfInBounds_toArray, List.set_cons_zero, List.set_cons_succ, i64_w, i32_w, Ext.u32_w, Ext.u8_w]
                                          rfl
                                        refine pure_ (i := 8) (N := some 104) (v := ?_) (a' := ?_) #[true, true, true, true, true, true, true, true, true, false, false, false, false, false, false, false, false, false, false, false] rfl rfl (any_of HT_.out (by kernel_rfl)) (fun _ _ _ h => h) (Or.inl ⟨by rfl, ?_⟩) ?_ ?_
                                        rotate_left
                                        · intro w'
                                          go_simp
                                          with_reducible rfl
                                        rotate_left
                                        · simp only [Act.put, List.setIfInBounds_toArray, List.set_cons_zero, List.set_cons_succ, i64_w, i32_w, Ext.u32_w, Ext.u8_w]
                                          rfl
                                        refine pure_ (i := 9) (N := some 105) (v := ?_) (a' := ?_) #[true, true, true, true, true, true, true, true, true, true, false, false, false, false, false, false, false, false, false, false] rfl rfl (any_of HT_.out (by kernel_rfl)) (fun _ _ _ h => h) (Or.inl ⟨by rfl, ?_⟩) ?_ ?_
                                        rotate_left
                                        · intro w'
                                          go_simp
                                          with_reducible rfl
                                        rotate_left
                                        · simp only [Act.put, List.setIfInBounds_toArray, List.set_cons_zero, List.set_cons_succ, i64_w, i32_w, Ext.u32_w, Ext.u8_w]
                                          rfl
                                        refine pure_ (i := 10) (N := some 106) (v := ?_) (a' := ?_) #[true, true, true, true, true, true, true, true, true, true, true, false, false, false, false, false, false, false, false, false] rfl rfl (any_of HT_.out (by kernel_rfl)) (fun _ _ _ h => h) (Or.inl ⟨by rfl, ?_⟩) ?_ ?_
                                        rotate_left
                                        · intro w'
                                          go_simp
                                          with_reducible rfl
                                        rotate_left
                                        · simp only [Act.put, List.setIfInBounds_toArray, List.set_cons_zero, List.set_cons_succ, i64_w, i32_w, Ext.u32_w, Ext.u8_w]
                                          rfl
                                        refine pure_ (i := 12) (N := some 108) (v := ?_) (a' := ?_) #[true, true, true, true, true, true, true, true, true, true, true, false, true, false, false, false, false, false, false, false] rfl rfl (any_of HT_.out (by kernel_rfl)) (fun _ _ _ h => h) (Or.inl ⟨by rfl, ?_⟩) ?_ ?_
                                        rotate_left
                                        · intro w'
                                          go_simp
                                          with_reducible rfl
                                        rotate_left
                                        · simp only [Act.put, List.setIfInBounds_toArray, List.set_cons_zero, List.set_cons_succ, i64_w, i32_w, Ext.u32_w, Ext.u8_w]
                                          rfl
                                        refine pure_ (i := 13) (N := some 109) (v := ?_) (a' := ?_) #[true, true, true, true, true, true, true, true, true, true, true, false, true, true, false, false, false, false, false, false] rfl rfl (any_of HT_.out (by kernel_rfl)) (fun _ _ _ h => h) (Or.inl ⟨by rfl, ?_⟩) ?_ ?_
                                        rotate_left
                                        · intro w'
                                          go_simp
                                          with_reducible rfl
                                        rotate_left
                                        · simp only [Act.put, List.setIfInBounds_toArray, List.set_cons_zero, List.set_cons_succ, i64_w, i32_w, Ext.u32_w, Ext.u8_w]
                                          rfl
                                        refine pure_ (i := 14) (N := some 110) (v := ?_) (a' := ?_) #[true, true, true, true, true, true, true, true, true, true, true, false, true, true, true, false, false, false, false, false] rfl rfl (any_of HT_.out (by kernel_rfl)) (fun _ _ _ h => h) (Or.inl ⟨by rfl, ?_⟩) ?_ ?_
                                        rotate_left
                                        · intro w'
                                          go_simp
                                          with_reducible rfl
                                        rotate_left
                                        · simp only [Act.put, List.setIfInBounds_toArray, List.set_cons_zero, List.set_cons_succ, i64_w, i32_w, Ext.u32_w, Ext.u8_w]
                                          rfl
                                        refine pure_ (i := 15) (N := some 111) (v := ?_) (a' := ?_) #[true, true, true, true, true, true, true, true, true, true, true, false, true, true, true, true, false, false, false, false] rfl rfl (any_of HT_.out (by kernel_rfl)) (fun _ _ _ h => h) (Or.inl ⟨by rfl, ?_⟩) ?_ ?_
                                        rotate_left
                                        · intro w'
                                          go_simp
                                          with_reducible rfl
                                        rotate_left
                                        · simp only [Act.put, List.setIfInBounds_toArray, List.set_cons_zero, List.set_cons_succ, i64_w, i32_w, Ext.u32_w, Ext.u8_w]
                                          rfl
                                        refine pure_ (i := 16) (N := some 112) (v := ?_) (a' := ?_) #[true, true, true, true, true, true, true, true, true, true, true, false, true, true, true, true, true, false, false, false] rfl rfl (any_of HT_.out (by kernel_rfl)) (fun _ _ _ h => h) (Or.inl ⟨by rfl, ?_⟩) ?_ ?_
                                        rotate_left
                                        · intro w'
                                          go_simp
                                          with_reducible rfl
                                        rotate_left
                                        · simp only [Act.put, List.setIfInBounds_toArray, List.set_cons_zero, List.set_cons_succ, i64_w, i32_w, Ext.u32_w, Ext.u8_w]
                                          rfl
                                        refine take_ (i := 11) (N := some 107) (v := ?_) (a' := ?_) #[true, true, true, true, true, true, true, true, true, true, true, true, true, true, true, true, true, false, false, false] rfl rfl (take_ofW HT_.out HW_.out (by kernel_rfl)) (fun _ _ _ h => h) (Or.inl ⟨by rfl, ?_⟩) hHeld ?_ ?_
                                        rotate_left
                                        · intro w' s0
                                          go_simp
                                          with_reducible rfl
                                        rotate_left
                                        · simp only [Act.put, List.setIfInBounds_toArray, List.set_cons_zero, List.set_cons_succ, i64_w, i32_w, Ext.u32_w, Ext.u8_w]
                                          rfl
                                        refine pure_ (i := 17) (N := some 113) (v := ?_) (a' := ?_) #[true, true, true, true, true, true, true, true, true, true, true, true, true, true, true, true, true, true, false, false] rfl rfl (any_of HT_.out (by kernel_rfl)) (fun _ _ _ h => h) (Or.inl ⟨by rfl, ?_⟩) ?_ ?_
                                        rotate_left
                                        · intro w'
                                          go_simp
                                          with_reducible rfl
                                        rotate_left
                                        · simp only [Act.put, List.setIfInBounds_toArray, List.set_cons_zero, List.set_cons_succ, i64_w, i32_w, Ext.u32_w, Ext.u8_w]
                                          rfl
                                        refine pure_ (i := 18) (N := some 114) (v := ?_) (a' := ?_) #[true, true, true, true, true, true, true, true, true, true, true, true, true, true, true, true, true, true, true, false] rfl rfl (any_of HT_.out (by kernel_rfl)) (fun _ _ _ h => h) (Or.inl ⟨by rfl, ?_⟩) ?_ ?_
                                        rotate_left
                                        · intro w'
                                          go_simp
                                          with_reducible rfl
                                        rotate_left
                                        · simp only [Act.put, List.setIfInBounds_toArray, List.set_cons_zero, List.set_cons_succ, i64_w, i32_w, Ext.u32_w, Ext.u8_w]
                                          rfl
                                        refine last_ (i := 19) (N := none) #[true, true, true, true, true, true, true, true, true, true, true, true, true, true, true, true, true, true, true, true] rfl rfl (one_of HT_.out (by kernel_rfl)) (by decide) (fun K hK => ?_)
                                        refine skip_ (w1 := ?_) (by rfl) rfl ?_ ?_
                                        rotate_left
                                        · go_simp
                                          rfl
                                        refine hK.out _ _ ?_
                                        clear hK K
                                        refine done_ (done_of HT_.out (by kernel_rfl)) ?_
                                        try go_wp2
                                        go_roundg kj57
                                        case measure => have := HJ27.out; have := HJ53.out; have := HK3.out; have := HJ57.out; omega
                                        case rel => exact ⟨(y323), (wrap64 (x14_3 + 1)), (by first | rfl | (simp; done) | (simp [*]; done)), H', ⟨by have := HJ27.out; have := HJ53.out; have := HK3.out; have := HJ57.out; omega⟩, ⟨by (with_reducible repeat (first | apply Kd.R_alloc | apply Kd.R_drewN | apply Kd.R_drew)); exact Kd.R_mono (Kd.R_far (p := ⟨go70, ((ji64) : Int).toNat, none⟩) (Kd.R_mono HO_7.out (fun k_ hk => (⟨hk, fun e_ => hk.1 (by rw [e_]; rfl)⟩ : _ ∧ k_ ≠ go70))) (fun _ hk => hk.2) (.int .u8 (Go.bits .xor .u8 (rd x13_3 (ji64)) (ji69)))) (fun _ hk => ⟨hk.1.1, hk.1.2⟩)⟩, ⟨by (with_reducible repeat (first | apply Kd.R_alloc | apply Kd.R_drewN | apply Kd.R_drew)); exact HQ73.out⟩, ⟨by (with_reducible repeat (first | apply Kd.R_alloc | apply Kd.R_drewN | apply Kd.R_drew)); exact Kd.R_mono (Kd.R_far (p := ⟨go70, ((ji64) : Int).toNat, none⟩) (Kd.R_mono HO_318003.out (fun k_ hk => (⟨hk, fun e_ => hk.2 (by rw [e_]; rfl)⟩ : _ ∧ k_ ≠ go70))) (fun _ hk => hk.2) (.int .u8 (Go.bits .xor .u8 (rd x13_3 (ji64)) (ji69)))) (fun _ hk => ⟨hk.1.1, hk.1.2⟩)⟩, ⟨by (with_reducible repeat (first | refine blk_drewN ?_ _ | refine blk_drew ?_ | refine blk_alloc ?_ _)); refine blk_far ?_ (by have h_ := Kd.R_ne HO_13.out BK304.out (by decide); intro e_; exact h_ (by rw [e_]; rfl)) _; (with_reducible repeat (first | refine blk_drewN ?_ _ | refine blk_drew ?_ | refine blk_alloc ?_ _)); exact BK304.out⟩, ⟨by (with_reducible repeat (first | refine blk_drewN ?_ _ | refine blk_drew ?_ | refine blk_alloc ?_ _)); refine blk_far ?_ (by have h_ := Kd.R_ne HO_13.out BK317.out (by decide); intro e_; exact h_ (by rw [e_]; rfl)) _; (with_reducible repeat (first | refine blk_drewN ?_ _ | refine blk_drew ?_ | refine blk_alloc ?_ _)); exact BK317.out⟩, ⟨by repeat (first | (with_reducible first | exact HB.out | apply below_alloc | apply pw_below_drewN | apply below_drew1 | refine below_set ?_ GB70.out | refine below_set ?_ GE304.out | refine below_set ?_ GE317.out) | exact HB.out)⟩⟩
                                      · rw [if_neg c68] at H
                                        exact absurd H (by simp)
                                    · rw [if_neg c66] at H
                                      exact absurd H (by simp)
                                  · rw [if_neg c65] at H
                                    exact absurd H (by simp)
                                · rw [if_neg c63] at H
                                  have c63b0 : ((Go.bits .and .u32 (ji62) 1) == 1) = false := beq_eq_false_iff_ne.mpr c63
                                  have c63b1 : ((Go.bits .and .u32 (ji62) 1) != 1) = true := bne_iff_ne.mpr c63
                                  have H' := Aside0.mk H
                                  clear H
                                  go_wp2
                                  go_roundg kj57
                                  case measure => have := HJ27.out; have := HJ53.out; have := HK3.out; have := HJ57.out; omega
                                  case rel => exact ⟨(x13_3), (wrap64 (x14_3 + 1)), (by first | rfl | (simp; done) | (simp [*]; done)), H', ⟨by have := HJ27.out; have := HJ53.out; have := HK3.out; have := HJ57.out; omega⟩, ⟨by (with_reducible repeat (first | apply Kd.R_alloc | apply Kd.R_drewN | apply Kd.R_drew)); exact HO_7.out⟩, ⟨by (with_reducible repeat (first | apply Kd.R_alloc | apply Kd.R_drewN | apply Kd.R_drew)); exact HO_13.out⟩, ⟨by (with_reducible repeat (first | apply Kd.R_alloc | apply Kd.R_drewN | apply Kd.R_drew)); exact HO_318003.out⟩, ⟨by (with_reducible repeat (first | refine blk_drewN ?_ _ | refine blk_drew ?_ | refine blk_alloc ?_ _)); exact BK304.out⟩, ⟨by (with_reducible repeat (first | refine blk_drewN ?_ _ | refine blk_drew ?_ | refine blk_alloc ?_ _)); exact BK317.out⟩, ⟨by repeat (first | (with_reducible first | exact HB.out | apply below_alloc | apply pw_below_drewN | apply below_drew1 | refine below_set ?_ GE304.out | refine below_set ?_ GE317.out) | exact HB.out)⟩⟩
                              · rw [if_neg c61] at H
                                exact absurd H (by simp)
                            · replace c60 := Bool.eq_false_iff.mpr c60
                              subst c60
                              have H1 : ((packet_Read.f kj57 x13_3).bind fun bt324 => (if (strOfNums x13_3).toList = (strOfNums t305).toList then (if bt324.2.2.2.2 = 0 then ((vignettelaw21_writes.f kj57).bind fun t332 => (some t332)) else (some false)) else (if x12_53 > 0 then (vignettelaw21_PacketBack.j4 kj57 bt324.2.2.2.2 (decide (x12_53 < 32)) bt324.1 bt324.2.1 bt324.2.2.1 bt324.2.2.2.1) else (vignettelaw21_PacketBack.j4 kj57 bt324.2.2.2.2 false bt324.1 bt324.2.1 bt324.2.2.1 bt324.2.2.2.1)))) = some r := by rw [if_neg (show ¬ (false = true) by decide)] at H; exact H
                              clear H
                              have H := H1
                              clear H1
                              replace H := Option.bind_eq_some_iff.mp H
                              obtain ⟨⟨t324, t325, t326, t327, t330⟩, A740, H⟩ := H
                              replace H : (if (strOfNums x13_3).toList = (strOfNums t305).toList then (if t330 = 0 then ((vignettelaw21_writes.f kj57).bind fun t332 => (some t332)) else (some false)) else (if x12_53 > 0 then (vignettelaw21_PacketBack.j4 kj57 t330 (decide (x12_53 < 32)) t324 t325 t326 t327) else (vignettelaw21_PacketBack.j4 kj57 t330 false t324 t325 t326 t327))) = some r := H
                              have A74 := Aside0.mk A740
                              clear A740
                              by_cases c75 : (strOfNums x13_3).toList = (strOfNums t305).toList
                              · rw [if_pos c75] at H
                                have c75b0 : ((strOfNums x13_3).toList == (strOfNums t305).toList) = true := beq_iff_eq.mpr c75
                                have c75b1 : ((strOfNums x13_3).toList != (strOfNums t305).toList) = false := bne_eq_false_iff_eq.mpr c75
                                clear c75
                                by_cases c76 : t330 = 0
                                · rw [if_pos c76] at H
                                  have c76b0 : (t330 == 0) = true := beq_iff_eq.mpr c76
                                  have c76b1 : (t330 != 0) = false := bne_eq_false_iff_eq.mpr c76
                                  clear c76
                                  replace H := Option.bind_eq_some_iff.mp H
                                  obtain ⟨t332, A770, H⟩ := H
                                  replace H : (some t332) = some r := H
                                  have A77 := Aside0.mk A770
                                  clear A770
                                  obtain rfl := Option.some.inj H
                                  obtain ⟨Ao78, co78, eo78⟩ := Kd.R_slice HO_13.out
                                  subst eo78
                                  go_wp2_with (first | ((with_reducible refine gate_callee (f := 26) rfl ?_); refine goesL_ (some 117) rfl rfl Try.func26 (by kernel_rfl) rfl #[.slice Ao78 x13_3.length co78] rfl (by (try simp only [List.map_toArray, List.map_cons, List.map_nil]); first | done | rfl | (simp only [List.length_drop, List.length_take]; rfl)) ?_; (with_reducible refine (packet_Read.calls kj57 _ _ x13_3 t324 t325 t326 t327 t330 _ ?side1 ?side2 A74.out).mono ?_); (case side1 => repeat (first | exact (Kd.R_reads' HO_13.out).2.2 | (with_reducible refine Kd.C_alloc ?_ _) | (with_reducible refine Kd.C_drewN ?_ _) | (with_reducible refine Kd.C_drew ?_))); (case side2 => exact (Kd.R_reads' HO_13.out).2.1); rintro e w79 ⟨v328, rfl, ho0, hb⟩; refine ⟨_, rfl, ?_⟩; have n0_ := Aside0.mk (Kd.R_elder' (by (with_reducible repeat (first | apply Kd.R_alloc | apply Kd.R_drewN | apply Kd.R_drew)); exact HO_7.out) (Kd.R_base ho0) hb); have n1_ := Aside0.mk (Kd.R_elder' (by (with_reducible repeat (first | apply Kd.R_alloc | apply Kd.R_drewN | apply Kd.R_drew)); exact HO_13.out) (Kd.R_base ho0) hb); have n2_ := Aside0.mk (Kd.R_elder' (by (with_reducible repeat (first | apply Kd.R_alloc | apply Kd.R_drewN | apply Kd.R_drew)); exact HO_318003.out) (Kd.R_base ho0) hb); have n3_ := Aside0.mk (Kd.R_lower (Kd.R_new' (Kd.R_new' (Kd.R_new' ho0 (Kd.R_lt (by (with_reducible repeat (first | apply Kd.R_alloc | apply Kd.R_drewN | apply Kd.R_drew)); exact HO_7.out))) (Kd.R_lt (by (with_reducible repeat (first | apply Kd.R_alloc | apply Kd.R_drewN | apply Kd.R_drew)); exact HO_13.out))) (Kd.R_lt (by (with_reducible repeat (first | apply Kd.R_alloc | apply Kd.R_drewN | apply Kd.R_drew)); exact HO_318003.out))) (below_size (by repeat (first | (with_reducible first | exact HB.out | apply below_alloc | apply pw_below_drewN | apply below_drew1 | refine below_set ?_ GE304.out | refine below_set ?_ GE317.out) | exact HB.out)))); have n4_ := Aside0.mk (blk_below (g := gb304) (o := .cells #[.int .u32 a0_0, .int .u64 a0_1, .int .u64 a0_2, .slice A0_3 l0_3.length c0_3] 32 (0, 0)) (by (with_reducible repeat (first | refine blk_drewN ?_ _ | refine blk_drew ?_ | refine blk_alloc ?_ _)); exact BK304.out) hb); have n5_ := Aside0.mk (blk_below (g := gb317) (o := .cells #[.int .u32 t310, .int .u64 t311, .int .u64 t312, .slice Ao38 t313.length co38] 32 (0, 0)) (by (with_reducible repeat (first | refine blk_drewN ?_ _ | refine blk_drew ?_ | refine blk_alloc ?_ _)); exact BK317.out) hb); have n6_ := Aside0.mk (below_step (by repeat (first | (with_reducible first | exact HB.out | apply below_alloc | apply pw_below_drewN | apply below_drew1 | refine below_set ?_ GE304.out | refine below_set ?_ GE317.out) | exact HB.out)) hb); clear HO_7; clear HO_13; clear HO_318003; clear BK304; clear BK317; clear HB; have HO_7 := n0_; have HO_13 := n1_; have HO_318003 := n2_; have HO329 := n3_; have BK304 := n4_; have BK317 := n5_; have HB := n6_; clear n0_ n1_ n2_ n3_ n4_ n5_ n6_; (try clear hb); (try clear hb2); (try clear hk); (try clear hi); (try clear ho0)) | ((with_reducible refine gate_dst (N := 15) rfl ?_); (try (refine gate_guard (by rfl) ?_; dsimp only)); refine box_event ?hg (N := 15) ?hd (cs := #[.int .u32 0, .int .u64 0, .int .u64 0, .slice none 0 0]) (t := 32) ?hr ?_; (case hd => rfl); (case hg => rfl); (case hr => first | (go_simp; done) | (go_simp; rfl)); intro gb331 hg w80 hbox hb; have n0_ := Aside0.mk (Kd.R_below (by (with_reducible repeat (first | apply Kd.R_alloc | apply Kd.R_drewN | apply Kd.R_drew)); exact HO_7.out) hb); have n1_ := Aside0.mk (Kd.R_below (by (with_reducible repeat (first | apply Kd.R_alloc | apply Kd.R_drewN | apply Kd.R_drew)); exact HO_13.out) hb); have n2_ := Aside0.mk (Kd.R_below (by (with_reducible repeat (first | apply Kd.R_alloc | apply Kd.R_drewN | apply Kd.R_drew)); exact HO_318003.out) hb); have n3_ := Aside0.mk (Kd.R_below (by (with_reducible repeat (first | apply Kd.R_alloc | apply Kd.R_drewN | apply Kd.R_drew)); exact HO329.out) hb); have n4_ := Aside0.mk (blk_below (g := gb304) (o := .cells #[.int .u32 a0_0, .int .u64 a0_1, .int .u64 a0_2, .slice A0_3 l0_3.length c0_3] 32 (0, 0)) (by (with_reducible repeat (first | refine blk_drewN ?_ _ | refine blk_drew ?_ | refine blk_alloc ?_ _)); exact BK304.out) hb); have n5_ := Aside0.mk (blk_below (g := gb317) (o := .cells #[.int .u32 t310, .int .u64 t311, .int .u64 t312, .slice Ao38 t313.length co38] 32 (0, 0)) (by (with_reducible repeat (first | refine blk_drewN ?_ _ | refine blk_drew ?_ | refine blk_alloc ?_ _)); exact BK317.out) hb); have n6_ := Aside0.mk (below_step (by repeat (first | (with_reducible first | exact HB.out | apply below_alloc | apply pw_below_drewN | apply below_drew1 | refine below_set ?_ GE304.out | refine below_set ?_ GE317.out) | exact HB.out)) hb); have n7_ := Aside0.mk (hbox); have n8_ := Aside0.mk ((by rw [hg]; exact (below_size (by repeat (first | (with_reducible first | exact HB.out | apply below_alloc | apply pw_below_drewN | apply below_drew1 | refine below_set ?_ GE304.out | refine below_set ?_ GE317.out) | exact HB.out))) : w.heap.size ≤ gb331)); have n9_ := Aside0.mk ((by rw [hg]; exact (below_size (by repeat (first | (with_reducible first | exact HB.out | apply below_alloc | apply pw_below_drewN | apply below_drew1 | refine below_set ?_ GE304.out | refine below_set ?_ GE317.out) | exact HB.out))) : w.heap.size ≤ gb331)); have n10_ := Aside0.mk ((by rw [hg]; exact Nat.ne_of_lt (blk_lt (g := gb304) (o := .cells #[.int .u32 a0_0, .int .u64 a0_1, .int .u64 a0_2, .slice A0_3 l0_3.length c0_3] 32 (0, 0)) (by (with_reducible repeat (first | refine blk_drewN ?_ _ | refine blk_drew ?_ | refine blk_alloc ?_ _)); exact BK304.out)) : gb304 ≠ gb331)); have n11_ := Aside0.mk ((by rw [hg]; exact Nat.ne_of_gt (blk_lt (g := gb304) (o := .cells #[.int .u32 a0_0, .int .u64 a0_1, .int .u64 a0_2, .slice A0_3 l0_3.length c0_3] 32 (0, 0)) (by (with_reducible repeat (first | refine blk_drewN ?_ _ | refine blk_drew ?_ | refine blk_alloc ?_ _)); exact BK304.out)) : gb331 ≠ gb304)); have n12_ := Aside0.mk ((by rw [hg]; exact Nat.ne_of_lt (blk_lt (g := gb317) (o := .cells #[.int .u32 t310, .int .u64 t311, .int .u64 t312, .slice Ao38 t313.length co38] 32 (0, 0)) (by (with_reducible repeat (first | refine blk_drewN ?_ _ | refine blk_drew ?_ | refine blk_alloc ?_ _)); exact BK317.out)) : gb317 ≠ gb331)); have n13_ := Aside0.mk ((by rw [hg]; exact Nat.ne_of_gt (blk_lt (g := gb317) (o := .cells #[.int .u32 t310, .int .u64 t311, .int .u64 t312, .slice Ao38 t313.length co38] 32 (0, 0)) (by (with_reducible repeat (first | refine blk_drewN ?_ _ | refine blk_drew ?_ | refine blk_alloc ?_ _)); exact BK317.out)) : gb331 ≠ gb317)); clear HO_7; clear HO_13; clear HO_318003; clear HO329; clear BK304; clear BK317; clear HB; have HO_7 := n0_; have HO_13 := n1_; have HO_318003 := n2_; have HO329 := n3_; have BK304 := n4_; have BK317 := n5_; have HB := n6_; have BK331 := n7_; have GW331 := n8_; have GE331 := n9_; have NB304_331 := n10_; have NB331_304 := n11_; have NB317_331 := n12_; have NB331_317 := n13_; clear n0_ n1_ n2_ n3_ n4_ n5_ n6_ n7_ n8_ n9_ n10_ n11_ n12_ n13_; clear hb hbox hg; have hnb81 := NB331_304.out; have hnc81 := NB304_331.out; have hnb82 := NB331_317.out; have hnc82 := NB317_331.out; have hcz83_0 : w80.cell? ⟨gb331, 0, none⟩ = some (.int .u32 0) := (blk_cell BK331.out 0).trans rfl; have hcz83_1 : w80.cell? ⟨gb331, 1, none⟩ = some (.int .u64 0) := (blk_cell BK331.out 1).trans rfl; have hcz83_2 : w80.cell? ⟨gb331, 2, none⟩ = some (.int .u64 0) := (blk_cell BK331.out 2).trans rfl; have hcz83_3 : w80.cell? ⟨gb331, 3, none⟩ = some (.slice none 0 0) := (blk_cell BK331.out 3).trans rfl; have hfz83_0 := blk_frozen BK331.out 0; have hfz83_1 := blk_frozen BK331.out 1; have hfz83_2 := blk_frozen BK331.out 2; have hfz83_3 := blk_frozen BK331.out 3; obtain ⟨Ao84, co84, eo84⟩ := Kd.R_slice HO329.out; subst eo84; have hcv85 := own_string (P := Try.prog) Try.underlying22 Try.underlying5 Try.underlying9 (Kd.own_of_R (Kd.R_far (p := ⟨gb331, 3, none⟩) (Kd.R_far (p := ⟨gb331, 2, none⟩) (Kd.R_far (p := ⟨gb331, 1, none⟩) (Kd.R_far (p := ⟨gb331, 0, none⟩) (Kd.R_types HO_13.out BK331.out (by decide)) (fun _ hk => hk.2) (.int .u32 t324)) (fun _ hk => hk.2) (.int .u64 t325)) (fun _ hk => hk.2) (.int .u64 t326)) (fun _ hk => hk.2) (.slice Ao84 t327.length co84))); have hcv86 := own_string (P := Try.prog) Try.underlying22 Try.underlying5 Try.underlying9 (Kd.own_of_R (Kd.R_far (p := ⟨gb331, 3, none⟩) (Kd.R_far (p := ⟨gb331, 2, none⟩) (Kd.R_far (p := ⟨gb331, 1, none⟩) (Kd.R_far (p := ⟨gb331, 0, none⟩) (Kd.R_types HO_7.out BK331.out (by decide)) (fun _ hk => hk.2) (.int .u32 t324)) (fun _ hk => hk.2) (.int .u64 t325)) (fun _ hk => hk.2) (.int .u64 t326)) (fun _ hk => hk.2) (.slice Ao84 t327.length co84)))) | (go_at_call 25; (with_reducible refine (vignettelaw21_writes.calls kj57  t332 _ A77.out).mono ?_); rintro e w87 ⟨rfl, hb⟩; have n0_ := Aside0.mk (Kd.R_below (by (with_reducible repeat (first | apply Kd.R_alloc | apply Kd.R_drewN | apply Kd.R_drew)); exact (Kd.R_mono (Kd.R_far (p := ⟨gb331, 3, none⟩) (Kd.R_far (p := ⟨gb331, 2, none⟩) (Kd.R_far (p := ⟨gb331, 1, none⟩) (Kd.R_far (p := ⟨gb331, 0, none⟩) (Kd.R_types HO_7.out BK331.out (by decide)) (fun _ hk => hk.2) (.int .u32 t324)) (fun _ hk => hk.2) (.int .u64 t325)) (fun _ hk => hk.2) (.int .u64 t326)) (fun _ hk => hk.2) (.slice Ao84 t327.length co84)) (fun _ h_ => h_.1))) hb); have n1_ := Aside0.mk (Kd.R_below (by (with_reducible repeat (first | apply Kd.R_alloc | apply Kd.R_drewN | apply Kd.R_drew)); exact (Kd.R_mono (Kd.R_far (p := ⟨gb331, 3, none⟩) (Kd.R_far (p := ⟨gb331, 2, none⟩) (Kd.R_far (p := ⟨gb331, 1, none⟩) (Kd.R_far (p := ⟨gb331, 0, none⟩) (Kd.R_types HO_13.out BK331.out (by decide)) (fun _ hk => hk.2) (.int .u32 t324)) (fun _ hk => hk.2) (.int .u64 t325)) (fun _ hk => hk.2) (.int .u64 t326)) (fun _ hk => hk.2) (.slice Ao84 t327.length co84)) (fun _ h_ => h_.1))) hb); have n2_ := Aside0.mk (Kd.R_below (by (with_reducible repeat (first | apply Kd.R_alloc | apply Kd.R_drewN | apply Kd.R_drew)); exact (Kd.R_mono (Kd.R_far (p := ⟨gb331, 3, none⟩) (Kd.R_far (p := ⟨gb331, 2, none⟩) (Kd.R_far (p := ⟨gb331, 1, none⟩) (Kd.R_far (p := ⟨gb331, 0, none⟩) (Kd.R_types HO_318003.out BK331.out (by decide)) (fun _ hk => hk.2) (.int .u32 t324)) (fun _ hk => hk.2) (.int .u64 t325)) (fun _ hk => hk.2) (.int .u64 t326)) (fun _ hk => hk.2) (.slice Ao84 t327.length co84)) (fun _ h_ => h_.1))) hb); have n3_ := Aside0.mk (Kd.R_below (by (with_reducible repeat (first | apply Kd.R_alloc | apply Kd.R_drewN | apply Kd.R_drew)); exact (Kd.R_mono (Kd.R_far (p := ⟨gb331, 3, none⟩) (Kd.R_far (p := ⟨gb331, 2, none⟩) (Kd.R_far (p := ⟨gb331, 1, none⟩) (Kd.R_far (p := ⟨gb331, 0, none⟩) (Kd.R_types HO329.out BK331.out (by decide)) (fun _ hk => hk.2) (.int .u32 t324)) (fun _ hk => hk.2) (.int .u64 t325)) (fun _ hk => hk.2) (.int .u64 t326)) (fun _ hk => hk.2) (.slice Ao84 t327.length co84)) (fun _ h_ => h_.1))) hb); have n4_ := Aside0.mk (blk_below (g := gb304) (o := .cells #[.int .u32 a0_0, .int .u64 a0_1, .int .u64 a0_2, .slice A0_3 l0_3.length c0_3] 32 (0, 0)) (by (with_reducible repeat (first | refine blk_drewN ?_ _ | refine blk_drew ?_ | refine blk_alloc ?_ _)); refine blk_far ?_ NB304_331.out _; (with_reducible repeat (first | refine blk_drewN ?_ _ | refine blk_drew ?_ | refine blk_alloc ?_ _)); refine blk_far ?_ NB304_331.out _; (with_reducible repeat (first | refine blk_drewN ?_ _ | refine blk_drew ?_ | refine blk_alloc ?_ _)); refine blk_far ?_ NB304_331.out _; (with_reducible repeat (first | refine blk_drewN ?_ _ | refine blk_drew ?_ | refine blk_alloc ?_ _)); refine blk_far ?_ NB304_331.out _; (with_reducible repeat (first | refine blk_drewN ?_ _ | refine blk_drew ?_ | refine blk_alloc ?_ _)); exact BK304.out) hb); have n5_ := Aside0.mk (blk_below (g := gb317) (o := .cells #[.int .u32 t310, .int .u64 t311, .int .u64 t312, .slice Ao38 t313.length co38] 32 (0, 0)) (by (with_reducible repeat (first | refine blk_drewN ?_ _ | refine blk_drew ?_ | refine blk_alloc ?_ _)); refine blk_far ?_ NB317_331.out _; (with_reducible repeat (first | refine blk_drewN ?_ _ | refine blk_drew ?_ | refine blk_alloc ?_ _)); refine blk_far ?_ NB317_331.out _; (with_reducible repeat (first | refine blk_drewN ?_ _ | refine blk_drew ?_ | refine blk_alloc ?_ _)); refine blk_far ?_ NB317_331.out _; (with_reducible repeat (first | refine blk_drewN ?_ _ | refine blk_drew ?_ | refine blk_alloc ?_ _)); refine blk_far ?_ NB317_331.out _; (with_reducible repeat (first | refine blk_drewN ?_ _ | refine blk_drew ?_ | refine blk_alloc ?_ _)); exact BK317.out) hb); have n6_ := Aside0.mk (blk_below (g := gb331) (o := .cells #[.int .u32 t324, .int .u64 t325, .int .u64 t326, .slice Ao84 t327.length co84] 32 (0, 0)) (by (with_reducible repeat (first | refine blk_drewN ?_ _ | refine blk_drew ?_ | refine blk_alloc ?_ _)); refine blk_put (cs := #[.int .u32 t324, .int .u64 t325, .int .u64 t326, .slice none 0 0]) ?_ 3 _ rfl; (with_reducible repeat (first | refine blk_drewN ?_ _ | refine blk_drew ?_ | refine blk_alloc ?_ _)); refine blk_put (cs := #[.int .u32 t324, .int .u64 t325, .int .u64 0, .slice none 0 0]) ?_ 2 _ rfl; (with_reducible repeat (first | refine blk_drewN ?_ _ | refine blk_drew ?_ | refine blk_alloc ?_ _)); refine blk_put (cs := #[.int .u32 t324, .int .u64 0, .int .u64 0, .slice none 0 0]) ?_ 1 _ rfl; (with_reducible repeat (first | refine blk_drewN ?_ _ | refine blk_drew ?_ | refine blk_alloc ?_ _)); refine blk_put (cs := #[.int .u32 0, .int .u64 0, .int .u64 0, .slice none 0 0]) ?_ 0 _ rfl; (with_reducible repeat (first | refine blk_drewN ?_ _ | refine blk_drew ?_ | refine blk_alloc ?_ _)); exact BK331.out) hb); have n7_ := Aside0.mk (below_step (by repeat (first | (with_reducible first | exact HB.out | apply below_alloc | apply pw_below_drewN | apply below_drew1 | refine below_set ?_ GE304.out | refine below_set ?_ GE317.out | refine below_set ?_ GE331.out) | exact HB.out)) hb); clear HO_7; clear HO_13; clear HO_318003; clear HO329; clear BK304; clear BK317; clear BK331; clear HB; have HO_7 := n0_; have HO_13 := n1_; have HO_318003 := n2_; have HO329 := n3_; have BK304 := n4_; have BK317 := n5_; have BK331 := n6_; have HB := n7_; clear n0_ n1_ n2_ n3_ n4_ n5_ n6_ n7_; (try clear hb); (try clear hb2); (try clear hk); (try clear hi)))
                                  go_ret
                                  exact ⟨by first | rfl | (simp [errW_none, errW_some] <;> rfl) | (simp [*, errW_none, errW_some] <;> rfl), by repeat (first | (with_reducible first | exact HB.out | apply below_alloc | apply pw_below_drewN | apply below_drew1 | refine below_set ?_ GE304.out | refine below_set ?_ GE317.out | refine below_set ?_ GE331.out) | exact HB.out)⟩
                                · rw [if_neg c76] at H
                                  have c76b0 : (t330 == 0) = false := beq_eq_false_iff_ne.mpr c76
                                  have c76b1 : (t330 != 0) = true := bne_iff_ne.mpr c76
                                  obtain rfl := Option.some.inj H
                                  obtain ⟨Ao88, co88, eo88⟩ := Kd.R_slice HO_13.out
                                  subst eo88
                                  go_wp2_with (first | ((with_reducible refine gate_callee (f := 26) rfl ?_); refine goesL_ (some 117) rfl rfl Try.func26 (by kernel_rfl) rfl #[.slice Ao88 x13_3.length co88] rfl (by (try simp only [List.map_toArray, List.map_cons, List.map_nil]); first | done | rfl | (simp only [List.length_drop, List.length_take]; rfl)) ?_; (with_reducible refine (packet_Read.calls kj57 _ _ x13_3 t324 t325 t326 t327 t330 _ ?side1 ?side2 A74.out).mono ?_); (case side1 => repeat (first | exact (Kd.R_reads' HO_13.out).2.2 | (with_reducible refine Kd.C_alloc ?_ _) | (with_reducible refine Kd.C_drewN ?_ _) | (with_reducible refine Kd.C_drew ?_))); (case side2 => exact (Kd.R_reads' HO_13.out).2.1); rintro e w89 ⟨v328, rfl, ho0, hb⟩; refine ⟨_, rfl, ?_⟩; have n0_ := Aside0.mk (Kd.R_elder' (by (with_reducible repeat (first | apply Kd.R_alloc | apply Kd.R_drewN | apply Kd.R_drew)); exact HO_7.out) (Kd.R_base ho0) hb); have n1_ := Aside0.mk (Kd.R_elder' (by (with_reducible repeat (first | apply Kd.R_alloc | apply Kd.R_drewN | apply Kd.R_drew)); exact HO_13.out) (Kd.R_base ho0) hb); have n2_ := Aside0.mk (Kd.R_elder' (by (with_reducible repeat (first | apply Kd.R_alloc | apply Kd.R_drewN | apply Kd.R_drew)); exact HO_318003.out) (Kd.R_base ho0) hb); have n3_ := Aside0.mk (Kd.R_lower (Kd.R_new' (Kd.R_new' (Kd.R_new' ho0 (Kd.R_lt (by (with_reducible repeat (first | apply Kd.R_alloc | apply Kd.R_drewN | apply Kd.R_drew)); exact HO_7.out))) (Kd.R_lt (by (with_reducible repeat (first | apply Kd.R_alloc | apply Kd.R_drewN | apply Kd.R_drew)); exact HO_13.out))) (Kd.R_lt (by (with_reducible repeat (first | apply Kd.R_alloc | apply Kd.R_drewN | apply Kd.R_drew)); exact HO_318003.out))) (below_size (by repeat (first | (with_reducible first | exact HB.out | apply below_alloc | apply pw_below_drewN | apply below_drew1 | refine below_set ?_ GE304.out | refine below_set ?_ GE317.out) | exact HB.out)))); have n4_ := Aside0.mk (blk_below (g := gb304) (o := .cells #[.int .u32 a0_0, .int .u64 a0_1, .int .u64 a0_2, .slice A0_3 l0_3.length c0_3] 32 (0, 0)) (by (with_reducible repeat (first | refine blk_drewN ?_ _ | refine blk_drew ?_ | refine blk_alloc ?_ _)); exact BK304.out) hb); have n5_ := Aside0.mk (blk_below (g := gb317) (o := .cells #[.int .u32 t310, .int .u64 t311, .int .u64 t312, .slice Ao38 t313.length co38] 32 (0, 0)) (by (with_reducible repeat (first | refine blk_drewN ?_ _ | refine blk_drew ?_ | refine blk_alloc ?_ _)); exact BK317.out) hb); have n6_ := Aside0.mk (below_step (by repeat (first | (with_reducible first | exact HB.out | apply below_alloc | apply pw_below_drewN | apply below_drew1 | refine below_set ?_ GE304.out | refine below_set ?_ GE317.out) | exact HB.out)) hb); clear HO_7; clear HO_13; clear HO_318003; clear BK304; clear BK317; clear HB; have HO_7 := n0_; have HO_13 := n1_; have HO_318003 := n2_; have HO329 := n3_; have BK304 := n4_; have BK317 := n5_; have HB := n6_; clear n0_ n1_ n2_ n3_ n4_ n5_ n6_; (try clear hb); (try clear hb2); (try clear hk); (try clear hi); (try clear ho0)) | ((with_reducible refine gate_dst (N := 15) rfl ?_); (try (refine gate_guard (by rfl) ?_; dsimp only)); refine box_event ?hg (N := 15) ?hd (cs := #[.int .u32 0, .int .u64 0, .int .u64 0, .slice none 0 0]) (t := 32) ?hr ?_; (case hd => rfl); (case hg => rfl); (case hr => first | (go_simp; done) | (go_simp; rfl)); intro gb331 hg w90 hbox hb; have n0_ := Aside0.mk (Kd.R_below (by (with_reducible repeat (first | apply Kd.R_alloc | apply Kd.R_drewN | apply Kd.R_drew)); exact HO_7.out) hb); have n1_ := Aside0.mk (Kd.R_below (by (with_reducible repeat (first | apply Kd.R_alloc | apply Kd.R_drewN | apply Kd.R_drew)); exact HO_13.out) hb); have n2_ := Aside0.mk (Kd.R_below (by (with_reducible repeat (first | apply Kd.R_alloc | apply Kd.R_drewN | apply Kd.R_drew)); exact HO_318003.out) hb); have n3_ := Aside0.mk (Kd.R_below (by (with_reducible repeat (first | apply Kd.R_alloc | apply Kd.R_drewN | apply Kd.R_drew)); exact HO329.out) hb); have n4_ := Aside0.mk (blk_below (g := gb304) (o := .cells #[.int .u32 a0_0, .int .u64 a0_1, .int .u64 a0_2, .slice A0_3 l0_3.length c0_3] 32 (0, 0)) (by (with_reducible repeat (first | refine blk_drewN ?_ _ | refine blk_drew ?_ | refine blk_alloc ?_ _)); exact BK304.out) hb); have n5_ := Aside0.mk (blk_below (g := gb317) (o := .cells #[.int .u32 t310, .int .u64 t311, .int .u64 t312, .slice Ao38 t313.length co38] 32 (0, 0)) (by (with_reducible repeat (first | refine blk_drewN ?_ _ | refine blk_drew ?_ | refine blk_alloc ?_ _)); exact BK317.out) hb); have n6_ := Aside0.mk (below_step (by repeat (first | (with_reducible first | exact HB.out | apply below_alloc | apply pw_below_drewN | apply below_drew1 | refine below_set ?_ GE304.out | refine below_set ?_ GE317.out) | exact HB.out)) hb); have n7_ := Aside0.mk (hbox); have n8_ := Aside0.mk ((by rw [hg]; exact (below_size (by repeat (first | (with_reducible first | exact HB.out | apply below_alloc | apply pw_below_drewN | apply below_drew1 | refine below_set ?_ GE304.out | refine below_set ?_ GE317.out) | exact HB.out))) : w.heap.size ≤ gb331)); have n9_ := Aside0.mk ((by rw [hg]; exact (below_size (by repeat (first | (with_reducible first | exact HB.out | apply below_alloc | apply pw_below_drewN | apply below_drew1 | refine below_set ?_ GE304.out | refine below_set ?_ GE317.out) | exact HB.out))) : w.heap.size ≤ gb331)); have n10_ := Aside0.mk ((by rw [hg]; exact Nat.ne_of_lt (blk_lt (g := gb304) (o := .cells #[.int .u32 a0_0, .int .u64 a0_1, .int .u64 a0_2, .slice A0_3 l0_3.length c0_3] 32 (0, 0)) (by (with_reducible repeat (first | refine blk_drewN ?_ _ | refine blk_drew ?_ | refine blk_alloc ?_ _)); exact BK304.out)) : gb304 ≠ gb331)); have n11_ := Aside0.mk ((by rw [hg]; exact Nat.ne_of_gt (blk_lt (g := gb304) (o := .cells #[.int .u32 a0_0, .int .u64 a0_1, .int .u64 a0_2, .slice A0_3 l0_3.length c0_3] 32 (0, 0)) (by (with_reducible repeat (first | refine blk_drewN ?_ _ | refine blk_drew ?_ | refine blk_alloc ?_ _)); exact BK304.out)) : gb331 ≠ gb304)); have n12_ := Aside0.mk ((by rw [hg]; exact Nat.ne_of_lt (blk_lt (g := gb317) (o := .cells #[.int .u32 t310, .int .u64 t311, .int .u64 t312, .slice Ao38 t313.length co38] 32 (0, 0)) (by (with_reducible repeat (first | refine blk_drewN ?_ _ | refine blk_drew ?_ | refine blk_alloc ?_ _)); exact BK317.out)) : gb317 ≠ gb331)); have n13_ := Aside0.mk ((by rw [hg]; exact Nat.ne_of_gt (blk_lt (g := gb317) (o := .cells #[.int .u32 t310, .int .u64 t311, .int .u64 t312, .slice Ao38 t313.length co38] 32 (0, 0)) (by (with_reducible repeat (first | refine blk_drewN ?_ _ | refine blk_drew ?_ | refine blk_alloc ?_ _)); exact BK317.out)) : gb331 ≠ gb317)); clear HO_7; clear HO_13; clear HO_318003; clear HO329; clear BK304; clear BK317; clear HB; have HO_7 := n0_; have HO_13 := n1_; have HO_318003 := n2_; have HO329 := n3_; have BK304 := n4_; have BK317 := n5_; have HB := n6_; have BK331 := n7_; have GW331 := n8_; have GE331 := n9_; have NB304_331 := n10_; have NB331_304 := n11_; have NB317_331 := n12_; have NB331_317 := n13_; clear n0_ n1_ n2_ n3_ n4_ n5_ n6_ n7_ n8_ n9_ n10_ n11_ n12_ n13_; clear hb hbox hg; have hnb91 := NB331_304.out; have hnc91 := NB304_331.out; have hnb92 := NB331_317.out; have hnc92 := NB317_331.out; have hcz93_0 : w90.cell? ⟨gb331, 0, none⟩ = some (.int .u32 0) := (blk_cell BK331.out 0).trans rfl; have hcz93_1 : w90.cell? ⟨gb331, 1, none⟩ = some (.int .u64 0) := (blk_cell BK331.out 1).trans rfl; have hcz93_2 : w90.cell? ⟨gb331, 2, none⟩ = some (.int .u64 0) := (blk_cell BK331.out 2).trans rfl; have hcz93_3 : w90.cell? ⟨gb331, 3, none⟩ = some (.slice none 0 0) := (blk_cell BK331.out 3).trans rfl; have hfz93_0 := blk_frozen BK331.out 0; have hfz93_1 := blk_frozen BK331.out 1; have hfz93_2 := blk_frozen BK331.out 2; have hfz93_3 := blk_frozen BK331.out 3; obtain ⟨Ao94, co94, eo94⟩ := Kd.R_slice HO329.out; subst eo94; have hcv95 := own_string (P := Try.prog) Try.underlying22 Try.underlying5 Try.underlying9 (Kd.own_of_R (Kd.R_far (p := ⟨gb331, 3, none⟩) (Kd.R_far (p := ⟨gb331, 2, none⟩) (Kd.R_far (p := ⟨gb331, 1, none⟩) (Kd.R_far (p := ⟨gb331, 0, none⟩) (Kd.R_types HO_13.out BK331.out (by decide)) (fun _ hk => hk.2) (.int .u32 t324)) (fun _ hk => hk.2) (.int .u64 t325)) (fun _ hk => hk.2) (.int .u64 t326)) (fun _ hk => hk.2) (.slice Ao94 t327.length co94))); have hcv96 := own_string (P := Try.prog) Try.underlying22 Try.underlying5 Try.underlying9 (Kd.own_of_R (Kd.R_far (p := ⟨gb331, 3, none⟩) (Kd.R_far (p := ⟨gb331, 2, none⟩) (Kd.R_far (p := ⟨gb331, 1, none⟩) (Kd.R_far (p := ⟨gb331, 0, none⟩) (Kd.R_types HO_7.out BK331.out (by decide)) (fun _ hk => hk.2) (.int .u32 t324)) (fun _ hk => hk.2) (.int .u64 t325)) (fun _ hk => hk.2) (.int .u64 t326)) (fun _ hk => hk.2) (.slice Ao94 t327.length co94)))))
                                  go_ret
                                  exact ⟨by first | rfl | (simp [errW_none, errW_some] <;> rfl) | (simp [*, errW_none, errW_some] <;> rfl), by repeat (first | (with_reducible first | exact HB.out | apply below_alloc | apply pw_below_drewN | apply below_drew1 | refine below_set ?_ GE304.out | refine below_set ?_ GE317.out | refine below_set ?_ GE331.out) | exact HB.out)⟩
                              · rw [if_neg c75] at H
                                have c75b0 : ((strOfNums x13_3).toList == (strOfNums t305).toList) = false := beq_eq_false_iff_ne.mpr c75
                                have c75b1 : ((strOfNums x13_3).toList != (strOfNums t305).toList) = true := bne_iff_ne.mpr c75
                                have HC97 := Aside0.mk H
                                clear H
                                obtain ⟨Ao98, co98, eo98⟩ := Kd.R_slice HO_13.out
                                subst eo98
                                go_upto_region 23 with (first | ((with_reducible refine gate_callee (f := 26) rfl ?_); refine goesL_ (some 117) rfl rfl Try.func26 (by kernel_rfl) rfl #[.slice Ao98 x13_3.length co98] rfl (by (try simp only [List.map_toArray, List.map_cons, List.map_nil]); first | done | rfl | (simp only [List.length_drop, List.length_take]; rfl)) ?_; (with_reducible refine (packet_Read.calls kj57 _ _ x13_3 t324 t325 t326 t327 t330 _ ?side1 ?side2 A74.out).mono ?_); (case side1 => repeat (first | exact (Kd.R_reads' HO_13.out).2.2 | (with_reducible refine Kd.C_alloc ?_ _) | (with_reducible refine Kd.C_drewN ?_ _) | (with_reducible refine Kd.C_drew ?_))); (case side2 => exact (Kd.R_reads' HO_13.out).2.1); rintro e w99 ⟨v328, rfl, ho0, hb⟩; refine ⟨_, rfl, ?_⟩; have n0_ := Aside0.mk (Kd.R_elder' (by (with_reducible repeat (first | apply Kd.R_alloc | apply Kd.R_drewN | apply Kd.R_drew)); exact HO_7.out) (Kd.R_base ho0) hb); have n1_ := Aside0.mk (Kd.R_elder' (by (with_reducible repeat (first | apply Kd.R_alloc | apply Kd.R_drewN | apply Kd.R_drew)); exact HO_13.out) (Kd.R_base ho0) hb); have n2_ := Aside0.mk (Kd.R_elder' (by (with_reducible repeat (first | apply Kd.R_alloc | apply Kd.R_drewN | apply Kd.R_drew)); exact HO_318003.out) (Kd.R_base ho0) hb); have n3_ := Aside0.mk (Kd.R_lower (Kd.R_new' (Kd.R_new' (Kd.R_new' ho0 (Kd.R_lt (by (with_reducible repeat (first | apply Kd.R_alloc | apply Kd.R_drewN | apply Kd.R_drew)); exact HO_7.out))) (Kd.R_lt (by (with_reducible repeat (first | apply Kd.R_alloc | apply Kd.R_drewN | apply Kd.R_drew)); exact HO_13.out))) (Kd.R_lt (by (with_reducible repeat (first | apply Kd.R_alloc | apply Kd.R_drewN | apply Kd.R_drew)); exact HO_318003.out))) (below_size (by repeat (first | (with_reducible first | exact HB.out | apply below_alloc | apply pw_below_drewN | apply below_drew1 | refine below_set ?_ GE304.out | refine below_set ?_ GE317.out) | exact HB.out)))); have n4_ := Aside0.mk (blk_below (g := gb304) (o := .cells #[.int .u32 a0_0, .int .u64 a0_1, .int .u64 a0_2, .slice A0_3 l0_3.length c0_3] 32 (0, 0)) (by (with_reducible repeat (first | refine blk_drewN ?_ _ | refine blk_drew ?_ | refine blk_alloc ?_ _)); exact BK304.out) hb); have n5_ := Aside0.mk (blk_below (g := gb317) (o := .cells #[.int .u32 t310, .int .u64 t311, .int .u64 t312, .slice Ao38 t313.length co38] 32 (0, 0)) (by (with_reducible repeat (first | refine blk_drewN ?_ _ | refine blk_drew ?_ | refine blk_alloc ?_ _)); exact BK317.out) hb); have n6_ := Aside0.mk (below_step (by repeat (first | (with_reducible first | exact HB.out | apply below_alloc | apply pw_below_drewN | apply below_drew1 | refine below_set ?_ GE304.out | refine below_set ?_ GE317.out) | exact HB.out)) hb); clear HO_7; clear HO_13; clear HO_318003; clear BK304; clear BK317; clear HB; have HO_7 := n0_; have HO_13 := n1_; have HO_318003 := n2_; have HO329 := n3_; have BK304 := n4_; have BK317 := n5_; have HB := n6_; clear n0_ n1_ n2_ n3_ n4_ n5_ n6_; (try clear hb); (try clear hb2); (try clear hk); (try clear hi); (try clear ho0)) | ((with_reducible refine gate_dst (N := 15) rfl ?_); (try (refine gate_guard (by rfl) ?_; dsimp only)); refine box_event ?hg (N := 15) ?hd (cs := #[.int .u32 0, .int .u64 0, .int .u64 0, .slice none 0 0]) (t := 32) ?hr ?_; (case hd => rfl); (case hg => rfl); (case hr => first | (go_simp; done) | (go_simp; rfl)); intro gb331 hg w100 hbox hb; have n0_ := Aside0.mk (Kd.R_below (by (with_reducible repeat (first | apply Kd.R_alloc | apply Kd.R_drewN | apply Kd.R_drew)); exact HO_7.out) hb); have n1_ := Aside0.mk (Kd.R_below (by (with_reducible repeat (first | apply Kd.R_alloc | apply Kd.R_drewN | apply Kd.R_drew)); exact HO_13.out) hb); have n2_ := Aside0.mk (Kd.R_below (by (with_reducible repeat (first | apply Kd.R_alloc | apply Kd.R_drewN | apply Kd.R_drew)); exact HO_318003.out) hb); have n3_ := Aside0.mk (Kd.R_below (by (with_reducible repeat (first | apply Kd.R_alloc | apply Kd.R_drewN | apply Kd.R_drew)); exact HO329.out) hb); have n4_ := Aside0.mk (blk_below (g := gb304) (o := .cells #[.int .u32 a0_0, .int .u64 a0_1, .int .u64 a0_2, .slice A0_3 l0_3.length c0_3] 32 (0, 0)) (by (with_reducible repeat (first | refine blk_drewN ?_ _ | refine blk_drew ?_ | refine blk_alloc ?_ _)); exact BK304.out) hb); have n5_ := Aside0.mk (blk_below (g := gb317) (o := .cells #[.int .u32 t310, .int .u64 t311, .int .u64 t312, .slice Ao38 t313.length co38] 32 (0, 0)) (by (with_reducible repeat (first | refine blk_drewN ?_ _ | refine blk_drew ?_ | refine blk_alloc ?_ _)); exact BK317.out) hb); have n6_ := Aside0.mk (below_step (by repeat (first | (with_reducible first | exact HB.out | apply below_alloc | apply pw_below_drewN | apply below_drew1 | refine below_set ?_ GE304.out | refine below_set ?_ GE317.out) | exact HB.out)) hb); have n7_ := Aside0.mk (hbox); have n8_ := Aside0.mk ((by rw [hg]; exact (below_size (by repeat (first | (with_reducible first | exact HB.out | apply below_alloc | apply pw_below_drewN | apply below_drew1 | refine below_set ?_ GE304.out | refine below_set ?_ GE317.out) | exact HB.out))) : w.heap.size ≤ gb331)); have n9_ := Aside0.mk ((by rw [hg]; exact (below_size (by repeat (first | (with_reducible first | exact HB.out | apply below_alloc | apply pw_below_drewN | apply below_drew1 | refine below_set ?_ GE304.out | refine below_set ?_ GE317.out) | exact HB.out))) : w.heap.size ≤ gb331)); have n10_ := Aside0.mk ((by rw [hg]; exact Nat.ne_of_lt (blk_lt (g := gb304) (o := .cells #[.int .u32 a0_0, .int .u64 a0_1, .int .u64 a0_2, .slice A0_3 l0_3.length c0_3] 32 (0, 0)) (by (with_reducible repeat (first | refine blk_drewN ?_ _ | refine blk_drew ?_ | refine blk_alloc ?_ _)); exact BK304.out)) : gb304 ≠ gb331)); have n11_ := Aside0.mk ((by rw [hg]; exact Nat.ne_of_gt (blk_lt (g := gb304) (o := .cells #[.int .u32 a0_0, .int .u64 a0_1, .int .u64 a0_2, .slice A0_3 l0_3.length c0_3] 32 (0, 0)) (by (with_reducible repeat (first | refine blk_drewN ?_ _ | refine blk_drew ?_ | refine blk_alloc ?_ _)); exact BK304.out)) : gb331 ≠ gb304)); have n12_ := Aside0.mk ((by rw [hg]; exact Nat.ne_of_lt (blk_lt (g := gb317) (o := .cells #[.int .u32 t310, .int .u64 t311, .int .u64 t312, .slice Ao38 t313.length co38] 32 (0, 0)) (by (with_reducible repeat (first | refine blk_drewN ?_ _ | refine blk_drew ?_ | refine blk_alloc ?_ _)); exact BK317.out)) : gb317 ≠ gb331)); have n13_ := Aside0.mk ((by rw [hg]; exact Nat.ne_of_gt (blk_lt (g := gb317) (o := .cells #[.int .u32 t310, .int .u64 t311, .int .u64 t312, .slice Ao38 t313.length co38] 32 (0, 0)) (by (with_reducible repeat (first | refine blk_drewN ?_ _ | refine blk_drew ?_ | refine blk_alloc ?_ _)); exact BK317.out)) : gb331 ≠ gb317)); clear HO_7; clear HO_13; clear HO_318003; clear HO329; clear BK304; clear BK317; clear HB; have HO_7 := n0_; have HO_13 := n1_; have HO_318003 := n2_; have HO329 := n3_; have BK304 := n4_; have BK317 := n5_; have HB := n6_; have BK331 := n7_; have GW331 := n8_; have GE331 := n9_; have NB304_331 := n10_; have NB331_304 := n11_; have NB317_331 := n12_; have NB331_317 := n13_; clear n0_ n1_ n2_ n3_ n4_ n5_ n6_ n7_ n8_ n9_ n10_ n11_ n12_ n13_; clear hb hbox hg; have hnb101 := NB331_304.out; have hnc101 := NB304_331.out; have hnb102 := NB331_317.out; have hnc102 := NB317_331.out; have hcz103_0 : w100.cell? ⟨gb331, 0, none⟩ = some (.int .u32 0) := (blk_cell BK331.out 0).trans rfl; have hcz103_1 : w100.cell? ⟨gb331, 1, none⟩ = some (.int .u64 0) := (blk_cell BK331.out 1).trans rfl; have hcz103_2 : w100.cell? ⟨gb331, 2, none⟩ = some (.int .u64 0) := (blk_cell BK331.out 2).trans rfl; have hcz103_3 : w100.cell? ⟨gb331, 3, none⟩ = some (.slice none 0 0) := (blk_cell BK331.out 3).trans rfl; have hfz103_0 := blk_frozen BK331.out 0; have hfz103_1 := blk_frozen BK331.out 1; have hfz103_2 := blk_frozen BK331.out 2; have hfz103_3 := blk_frozen BK331.out 3; obtain ⟨Ao104, co104, eo104⟩ := Kd.R_slice HO329.out; subst eo104; have hcv105 := own_string (P := Try.prog) Try.underlying22 Try.underlying5 Try.underlying9 (Kd.own_of_R (Kd.R_far (p := ⟨gb331, 3, none⟩) (Kd.R_far (p := ⟨gb331, 2, none⟩) (Kd.R_far (p := ⟨gb331, 1, none⟩) (Kd.R_far (p := ⟨gb331, 0, none⟩) (Kd.R_types HO_13.out BK331.out (by decide)) (fun _ hk => hk.2) (.int .u32 t324)) (fun _ hk => hk.2) (.int .u64 t325)) (fun _ hk => hk.2) (.int .u64 t326)) (fun _ hk => hk.2) (.slice Ao104 t327.length co104))); have hcv106 := own_string (P := Try.prog) Try.underlying22 Try.underlying5 Try.underlying9 (Kd.own_of_R (Kd.R_far (p := ⟨gb331, 3, none⟩) (Kd.R_far (p := ⟨gb331, 2, none⟩) (Kd.R_far (p := ⟨gb331, 1, none⟩) (Kd.R_far (p := ⟨gb331, 0, none⟩) (Kd.R_types HO_7.out BK331.out (by decide)) (fun _ hk => hk.2) (.int .u32 t324)) (fun _ hk => hk.2) (.int .u64 t325)) (fun _ hk => hk.2) (.int .u64 t326)) (fun _ hk => hk.2) (.slice Ao104 t327.length co104)))))
                                (try simp only [Act.put, List.setIfInBounds_toArray, List.set_cons_zero, List.set_cons_succ])
                                go_cut [135] (fun v135 wc => ∃ (kq : Nat) (x135_96 : Bool), v135 = .bool x135_96 ∧ Aside0 (vignettelaw21_PacketBack.j4 kq t330 x135_96 t324 t325 t326 t327 = some r) ∧ Aside0 (kq ≤ kj57) ∧ Aside0 (Kd.R (Kd.int .u8) 5 wc w.heap.size (fun k_ => some k_ ≠ ((.slice Ao104 t327.length co104) : Value).ownBlock) (.slice Ao38 t313.length co38) t313) ∧ Aside0 (Kd.R (Kd.int .u8) 5 wc w.heap.size (fun k_ => some k_ ≠ ((.slice Ao38 t313.length co38) : Value).ownBlock) (.slice Ao104 t327.length co104) t327) ∧ Aside0 (wc.heap[gb304]? = some (.cells #[.int .u32 a0_0, .int .u64 a0_1, .int .u64 a0_2, (.slice A0_3 l0_3.length c0_3)] 32 (0, 0))) ∧ Aside0 (wc.heap[gb317]? = some (.cells #[.int .u32 t310, .int .u64 t311, .int .u64 t312, (.slice Ao38 t313.length co38)] 32 (0, 0))) ∧ Aside0 (wc.heap[gb331]? = some (.cells #[.int .u32 t324, .int .u64 t325, .int .u64 t326, (.slice Ao104 t327.length co104)] 32 (0, 0))) ∧ Aside0 (Below w.heap.size w wc))
                                case first =>
                                  have H := HC97.out
                                  clear HC97
                                  by_cases c107 : x12_53 > 0
                                  · rw [if_pos c107] at H
                                    have c107b0 : decide (0 < x12_53) = true := decide_eq_true c107
                                    clear c107
                                    (first | rw [c107b0] | (simp only [i64_w, i32_w]; rw [c107b0]) | skip)
                                    have H' := Aside0.mk H
                                    clear H
                                    go_wp2
                                    go_meet
                                    case rel => exact ⟨_, (decide (x12_53 < 32)), (by first | rfl | (simp; done) | (simp [*]; done)), H', ⟨by have := HJ27.out; have := HJ53.out; have := HK3.out; have := HJ57.out; first | omega | exact Nat.le_refl _⟩, ⟨by (with_reducible repeat (first | apply Kd.R_alloc | apply Kd.R_drewN | apply Kd.R_drew)); exact Kd.R_mono (Kd.R_far (p := ⟨gb331, 3, none⟩) (Kd.R_far (p := ⟨gb331, 2, none⟩) (Kd.R_far (p := ⟨gb331, 1, none⟩) (Kd.R_far (p := ⟨gb331, 0, none⟩) (Kd.R_types HO_318003.out BK331.out (by decide)) (fun _ hk => hk.2) (.int .u32 t324)) (fun _ hk => hk.2) (.int .u64 t325)) (fun _ hk => hk.2) (.int .u64 t326)) (fun _ hk => hk.2) (.slice Ao104 t327.length co104)) (fun _ hk => hk.1.2)⟩, ⟨by (with_reducible repeat (first | apply Kd.R_alloc | apply Kd.R_drewN | apply Kd.R_drew)); exact Kd.R_mono (Kd.R_far (p := ⟨gb331, 3, none⟩) (Kd.R_far (p := ⟨gb331, 2, none⟩) (Kd.R_far (p := ⟨gb331, 1, none⟩) (Kd.R_far (p := ⟨gb331, 0, none⟩) (Kd.R_types HO329.out BK331.out (by decide)) (fun _ hk => hk.2) (.int .u32 t324)) (fun _ hk => hk.2) (.int .u64 t325)) (fun _ hk => hk.2) (.int .u64 t326)) (fun _ hk => hk.2) (.slice Ao104 t327.length co104)) (fun _ hk => hk.1.2)⟩, ⟨by (with_reducible repeat (first | refine blk_drewN ?_ _ | refine blk_drew ?_ | refine blk_alloc ?_ _)); refine blk_far ?_ NB304_331.out _; (with_reducible repeat (first | refine blk_drewN ?_ _ | refine blk_drew ?_ | refine blk_alloc ?_ _)); refine blk_far ?_ NB304_331.out _; (with_reducible repeat (first | refine blk_drewN ?_ _ | refine blk_drew ?_ | refine blk_alloc ?_ _)); refine blk_far ?_ NB304_331.out _; (with_reducible repeat (first | refine blk_drewN ?_ _ | refine blk_drew ?_ | refine blk_alloc ?_ _)); refine blk_far ?_ NB304_331.out _; (with_reducible repeat (first | refine blk_drewN ?_ _ | refine blk_drew ?_ | refine blk_alloc ?_ _)); exact BK304.out⟩, ⟨by (with_reducible repeat (first | refine blk_drewN ?_ _ | refine blk_drew ?_ | refine blk_alloc ?_ _)); refine blk_far ?_ NB317_331.out _; (with_reducible repeat (first | refine blk_drewN ?_ _ | refine blk_drew ?_ | refine blk_alloc ?_ _)); refine blk_far ?_ NB317_331.out _; (with_reducible repeat (first | refine blk_drewN ?_ _ | refine blk_drew ?_ | refine blk_alloc ?_ _)); refine blk_far ?_ NB317_331.out _; (with_reducible repeat (first | refine blk_drewN ?_ _ | refine blk_drew ?_ | refine blk_alloc ?_ _)); refine blk_far ?_ NB317_331.out _; (with_reducible repeat (first | refine blk_drewN ?_ _ | refine blk_drew ?_ | refine blk_alloc ?_ _)); exact BK317.out⟩, ⟨by (with_reducible repeat (first | refine blk_drewN ?_ _ | refine blk_drew ?_ | refine blk_alloc ?_ _)); refine blk_put (cs := #[.int .u32 t324, .int .u64 t325, .int .u64 t326, .slice none 0 0]) ?_ 3 _ rfl; (with_reducible repeat (first | refine blk_drewN ?_ _ | refine blk_drew ?_ | refine blk_alloc ?_ _)); refine blk_put (cs := #[.int .u32 t324, .int .u64 t325, .int .u64 0, .slice none 0 0]) ?_ 2 _ rfl; (with_reducible repeat (first | refine blk_drewN ?_ _ | refine blk_drew ?_ | refine blk_alloc ?_ _)); refine blk_put (cs := #[.int .u32 t324, .int .u64 0, .int .u64 0, .slice none 0 0]) ?_ 1 _ rfl; (with_reducible repeat (first | refine blk_drewN ?_ _ | refine blk_drew ?_ | refine blk_alloc ?_ _)); refine blk_put (cs := #[.int .u32 0, .int .u64 0, .int .u64 0, .slice none 0 0]) ?_ 0 _ rfl; (with_reducible repeat (first | refine blk_drewN ?_ _ | refine blk_drew ?_ | refine blk_alloc ?_ _)); exact BK331.out⟩, ⟨by repeat (first | (with_reducible first | exact HB.out | apply below_alloc | apply pw_below_drewN | apply below_drew1 | refine below_set ?_ GE304.out | refine below_set ?_ GE317.out | refine below_set ?_ GE331.out) | exact HB.out)⟩⟩
                                  · rw [if_neg c107] at H
                                    have c107b0 : decide (0 < x12_53) = false := decide_eq_false c107
                                    clear c107
                                    (first | rw [c107b0] | (simp only [i64_w, i32_w]; rw [c107b0]) | skip)
                                    have H' := Aside0.mk H
                                    clear H
                                    go_wp2
                                    go_meet
                                    case rel => exact ⟨_, (false), (by first | rfl | (simp; done) | (simp [*]; done)), H', ⟨by have := HJ27.out; have := HJ53.out; have := HK3.out; have := HJ57.out; first | omega | exact Nat.le_refl _⟩, ⟨by (with_reducible repeat (first | apply Kd.R_alloc | apply Kd.R_drewN | apply Kd.R_drew)); exact Kd.R_mono (Kd.R_far (p := ⟨gb331, 3, none⟩) (Kd.R_far (p := ⟨gb331, 2, none⟩) (Kd.R_far (p := ⟨gb331, 1, none⟩) (Kd.R_far (p := ⟨gb331, 0, none⟩) (Kd.R_types HO_318003.out BK331.out (by decide)) (fun _ hk => hk.2) (.int .u32 t324)) (fun _ hk => hk.2) (.int .u64 t325)) (fun _ hk => hk.2) (.int .u64 t326)) (fun _ hk => hk.2) (.slice Ao104 t327.length co104)) (fun _ hk => hk.1.2)⟩, ⟨by (with_reducible repeat (first | apply Kd.R_alloc | apply Kd.R_drewN | apply Kd.R_drew)); exact Kd.R_mono (Kd.R_far (p := ⟨gb331, 3, none⟩) (Kd.R_far (p := ⟨gb331, 2, none⟩) (Kd.R_far (p := ⟨gb331, 1, none⟩) (Kd.R_far (p := ⟨gb331, 0, none⟩) (Kd.R_types HO329.out BK331.out (by decide)) (fun _ hk => hk.2) (.int .u32 t324)) (fun _ hk => hk.2) (.int .u64 t325)) (fun _ hk => hk.2) (.int .u64 t326)) (fun _ hk => hk.2) (.slice Ao104 t327.length co104)) (fun _ hk => hk.1.2)⟩, ⟨by (with_reducible repeat (first | refine blk_drewN ?_ _ | refine blk_drew ?_ | refine blk_alloc ?_ _)); refine blk_far ?_ NB304_331.out _; (with_reducible repeat (first | refine blk_drewN ?_ _ | refine blk_drew ?_ | refine blk_alloc ?_ _)); refine blk_far ?_ NB304_331.out _; (with_reducible repeat (first | refine blk_drewN ?_ _ | refine blk_drew ?_ | refine blk_alloc ?_ _)); refine blk_far ?_ NB304_331.out _; (with_reducible repeat (first | refine blk_drewN ?_ _ | refine blk_drew ?_ | refine blk_alloc ?_ _)); refine blk_far ?_ NB304_331.out _; (with_reducible repeat (first | refine blk_drewN ?_ _ | refine blk_drew ?_ | refine blk_alloc ?_ _)); exact BK304.out⟩, ⟨by (with_reducible repeat (first | refine blk_drewN ?_ _ | refine blk_drew ?_ | refine blk_alloc ?_ _)); refine blk_far ?_ NB317_331.out _; (with_reducible repeat (first | refine blk_drewN ?_ _ | refine blk_drew ?_ | refine blk_alloc ?_ _)); refine blk_far ?_ NB317_331.out _; (with_reducible repeat (first | refine blk_drewN ?_ _ | refine blk_drew ?_ | refine blk_alloc ?_ _)); refine blk_far ?_ NB317_331.out _; (with_reducible repeat (first | refine blk_drewN ?_ _ | refine blk_drew ?_ | refine blk_alloc ?_ _)); refine blk_far ?_ NB317_331.out _; (with_reducible repeat (first | refine blk_drewN ?_ _ | refine blk_drew ?_ | refine blk_alloc ?_ _)); exact BK317.out⟩, ⟨by (with_reducible repeat (first | refine blk_drewN ?_ _ | refine blk_drew ?_ | refine blk_alloc ?_ _)); refine blk_put (cs := #[.int .u32 t324, .int .u64 t325, .int .u64 t326, .slice none 0 0]) ?_ 3 _ rfl; (with_reducible repeat (first | refine blk_drewN ?_ _ | refine blk_drew ?_ | refine blk_alloc ?_ _)); refine blk_put (cs := #[.int .u32 t324, .int .u64 t325, .int .u64 0, .slice none 0 0]) ?_ 2 _ rfl; (with_reducible repeat (first | refine blk_drewN ?_ _ | refine blk_drew ?_ | refine blk_alloc ?_ _)); refine blk_put (cs := #[.int .u32 t324, .int .u64 0, .int .u64 0, .slice none 0 0]) ?_ 1 _ rfl; (with_reducible repeat (first | refine blk_drewN ?_ _ | refine blk_drew ?_ | refine blk_alloc ?_ _)); refine blk_put (cs := #[.int .u32 0, .int .u64 0, .int .u64 0, .slice none 0 0]) ?_ 0 _ rfl; (with_reducible repeat (first | refine blk_drewN ?_ _ | refine blk_drew ?_ | refine blk_alloc ?_ _)); exact BK331.out⟩, ⟨by repeat (first | (with_reducible first | exact HB.out | apply below_alloc | apply pw_below_drewN | apply below_drew1 | refine below_set ?_ GE304.out | refine below_set ?_ GE317.out | refine below_set ?_ GE331.out) | exact HB.out)⟩⟩
                                case rest =>
                                  clear HC97
                                  try clear c1
                                  try clear hcv1
                                  try clear c2
                                  try clear p2
                                  try clear c3
                                  try clear p3
                                  try clear q3
                                  try clear hx3
                                  try clear c4
                                  try clear c4b0
                                  try clear c4b1
                                  try clear c5
                                  try clear c6
                                  try clear p6
                                  try clear c7
                                  try clear p7
                                  try clear q7
                                  try clear hx7
                                  try clear hf7
                                  try clear c8
                                  try clear c8b0
                                  try clear c8b1
                                  try clear hcv8
                                  try clear c9
                                  try clear c9b0
                                  try clear c9b1
                                  try clear hcv9
                                  try clear c10
                                  try clear c10b0
                                  try clear c10b1
                                  try clear c10b2
                                  try clear hcv10
                                  try clear c22
                                  try clear c26
                                  try clear p32
                                  try clear q32
                                  try clear hx32
                                  try clear c36
                                  try clear c39
                                  try clear c39b0
                                  try clear c39b1
                                  try clear c40
                                  try clear c40b0
                                  try clear c40b1
                                  try clear c42
                                  try clear c43
                                  try clear c48
                                  try clear c52
                                  try clear c53
                                  try clear c53b0
                                  try clear c53b1
                                  try clear c55
                                  try clear c55b0
                                  try clear c56
                                  try clear c59
                                  try clear c59b0
                                  try clear c60
                                  try clear c61
                                  try clear c61b0
                                  try clear c61b1
                                  try clear c63
                                  try clear c63b0
                                  try clear c63b1
                                  try clear p64
                                  try clear c65
                                  try clear c65b0
                                  try clear c66
                                  try clear c66b0
                                  try clear c68
                                  try clear c68b0
                                  try clear c68b1
                                  try clear p70
                                  try clear q70
                                  try clear hx70
                                  try clear hf70
                                  try clear c75
                                  try clear c75b0
                                  try clear c75b1
                                  try clear c76
                                  try clear c76b0
                                  try clear c76b1
                                  try clear c81
                                  try clear c82
                                  try clear hcv85
                                  try clear hcv86
                                  try clear c91
                                  try clear c92
                                  try clear hcv95
                                  try clear hcv96
                                  try clear c101
                                  try clear c102
                                  try clear hcv105
                                  try clear hcv106
                                  try clear c107
                                  try clear c107b0
                                  try clear hcz103_0
                                  try clear hcz103_1
                                  try clear hcz103_2
                                  try clear hcz103_3
                                  try clear hcz13_0
                                  try clear hcz13_1
                                  try clear hcz13_2
                                  try clear hcz13_3
                                  try clear hcz15_0
                                  try clear hcz15_1
                                  try clear hcz15_2
                                  try clear hcz15_3
                                  try clear hcz19_0
                                  try clear hcz19_1
                                  try clear hcz19_2
                                  try clear hcz19_3
                                  try clear hcz21_0
                                  try clear hcz21_1
                                  try clear hcz21_2
                                  try clear hcz21_3
                                  try clear hcz24_0
                                  try clear hcz24_1
                                  try clear hcz24_2
                                  try clear hcz24_3
                                  try clear hcz26_0
                                  try clear hcz26_1
                                  try clear hcz26_2
                                  try clear hcz26_3
                                  try clear hcz30_0
                                  try clear hcz30_1
                                  try clear hcz30_2
                                  try clear hcz30_3
                                  try clear hcz32_0
                                  try clear hcz32_1
                                  try clear hcz32_2
                                  try clear hcz32_3
                                  try clear hcz37_0
                                  try clear hcz37_1
                                  try clear hcz37_2
                                  try clear hcz37_3
                                  try clear hcz44_0
                                  try clear hcz44_1
                                  try clear hcz44_2
                                  try clear hcz44_3
                                  try clear hcz45_0
                                  try clear hcz45_1
                                  try clear hcz45_2
                                  try clear hcz45_3
                                  try clear hcz47_0
                                  try clear hcz47_1
                                  try clear hcz47_2
                                  try clear hcz47_3
                                  try clear hcz49_0
                                  try clear hcz49_1
                                  try clear hcz49_2
                                  try clear hcz49_3
                                  try clear hcz50_0
                                  try clear hcz50_1
                                  try clear hcz50_2
                                  try clear hcz50_3
                                  try clear hcz6_0
                                  try clear hcz6_1
                                  try clear hcz6_2
                                  try clear hcz6_3
                                  try clear hcz83_0
                                  try clear hcz83_1
                                  try clear hcz83_2
                                  try clear hcz83_3
                                  try clear hcz93_0
                                  try clear hcz93_1
                                  try clear hcz93_2
                                  try clear hcz93_3
                                  try clear hfz103_0
                                  try clear hfz103_1
                                  try clear hfz103_2
                                  try clear hfz103_3
                                  try clear hfz13_0
                                  try clear hfz13_1
                                  try clear hfz13_2
                                  try clear hfz13_3
                                  try clear hfz15_0
                                  try clear hfz15_1
                                  try clear hfz15_2
                                  try clear hfz15_3
                                  try clear hfz19_0
                                  try clear hfz19_1
                                  try clear hfz19_2
                                  try clear hfz19_3
                                  try clear hfz21_0
                                  try clear hfz21_1
                                  try clear hfz21_2
                                  try clear hfz21_3
                                  try clear hfz24_0
                                  try clear hfz24_1
                                  try clear hfz24_2
                                  try clear hfz24_3
                                  try clear hfz26_0
                                  try clear hfz26_1
                                  try clear hfz26_2
                                  try clear hfz26_3
                                  try clear hfz30_0
                                  try clear hfz30_1
                                  try clear hfz30_2
                                  try clear hfz30_3
                                  try clear hfz32_0
                                  try clear hfz32_1
                                  try clear hfz32_2
                                  try clear hfz32_3
                                  try clear hfz37_0
                                  try clear hfz37_1
                                  try clear hfz37_2
                                  try clear hfz37_3
                                  try clear hfz44_0
                                  try clear hfz44_1
                                  try clear hfz44_2
                                  try clear hfz44_3
                                  try clear hfz45_0
                                  try clear hfz45_1
                                  try clear hfz45_2
                                  try clear hfz45_3
                                  try clear hfz47_0
                                  try clear hfz47_1
                                  try clear hfz47_2
                                  try clear hfz47_3
                                  try clear hfz49_0
                                  try clear hfz49_1
                                  try clear hfz49_2
                                  try clear hfz49_3
                                  try clear hfz50_0
                                  try clear hfz50_1
                                  try clear hfz50_2
                                  try clear hfz50_3
                                  try clear hfz6_0
                                  try clear hfz6_1
                                  try clear hfz6_2
                                  try clear hfz6_3
                                  try clear hfz83_0
                                  try clear hfz83_1
                                  try clear hfz83_2
                                  try clear hfz83_3
                                  try clear hfz93_0
                                  try clear hfz93_1
                                  try clear hfz93_2
                                  try clear hfz93_3
                                  try clear hx322_0
                                  try clear hx70_0
                                  try clear p2
                                  try clear p322
                                  try clear p6
                                  try clear p70
                                  try clear q322
                                  try clear q70
                                  obtain ⟨kq, x135_96, rfl, HA, HJ96, HO_318003, HO_332003, BK304, BK317, BK331, HB⟩ := hcut
                                  cases kq with
                                  | zero => exact absurd HA.out (by simp [vignettelaw21_PacketBack.j4])
                                  | succ kj96 =>
                                    have H := HA.out
                                    clear HA
                                    simp only [vignettelaw21_PacketBack.j4] at H
                                    by_cases c108 : x135_96 = true
                                    · subst c108
                                      have H1 : ((vignettelaw21_writes.f kj96).bind fun t333 => (some t333)) = some r := by rw [if_pos rfl] at H; exact H
                                      clear H
                                      have H := H1
                                      clear H1
                                      replace H := Option.bind_eq_some_iff.mp H
                                      obtain ⟨t333, A1090, H⟩ := H
                                      replace H : (some t333) = some r := H
                                      have A109 := Aside0.mk A1090
                                      clear A1090
                                      obtain rfl := Option.some.inj H
                                      go_wp2_with (first | ((with_reducible refine gate_callee (f := 25) rfl ?_); refine goesL_ (some 136) rfl rfl Try.func25 (by kernel_rfl) rfl #[] rfl (by (try simp only [List.map_toArray, List.map_cons, List.map_nil]); first | done | rfl | (simp only [List.length_drop, List.length_take]; rfl)) ?_; (with_reducible refine (vignettelaw21_writes.calls kj96  t333 _ A109.out).mono ?_); rintro e w110 ⟨rfl, hb⟩; refine ⟨_, rfl, ?_⟩; have n0_ := Aside0.mk (Kd.R_below (by (with_reducible repeat (first | apply Kd.R_alloc | apply Kd.R_drewN | apply Kd.R_drew)); exact HO_318003.out) hb); have n1_ := Aside0.mk (Kd.R_below (by (with_reducible repeat (first | apply Kd.R_alloc | apply Kd.R_drewN | apply Kd.R_drew)); exact HO_332003.out) hb); have n2_ := Aside0.mk (blk_below (g := gb304) (o := .cells #[.int .u32 a0_0, .int .u64 a0_1, .int .u64 a0_2, .slice A0_3 l0_3.length c0_3] 32 (0, 0)) (by (with_reducible repeat (first | refine blk_drewN ?_ _ | refine blk_drew ?_ | refine blk_alloc ?_ _)); exact BK304.out) hb); have n3_ := Aside0.mk (blk_below (g := gb317) (o := .cells #[.int .u32 t310, .int .u64 t311, .int .u64 t312, .slice Ao38 t313.length co38] 32 (0, 0)) (by (with_reducible repeat (first | refine blk_drewN ?_ _ | refine blk_drew ?_ | refine blk_alloc ?_ _)); exact BK317.out) hb); have n4_ := Aside0.mk (blk_below (g := gb331) (o := .cells #[.int .u32 t324, .int .u64 t325, .int .u64 t326, .slice Ao104 t327.length co104] 32 (0, 0)) (by (with_reducible repeat (first | refine blk_drewN ?_ _ | refine blk_drew ?_ | refine blk_alloc ?_ _)); exact BK331.out) hb); have n5_ := Aside0.mk (below_step (by repeat (first | (with_reducible first | exact HB.out | apply below_alloc | apply pw_below_drewN | apply below_drew1 | refine below_set ?_ GE304.out | refine below_set ?_ GE317.out | refine below_set ?_ GE331.out) | exact HB.out)) hb); clear HO_318003; clear HO_332003; clear BK304; clear BK317; clear BK331; clear HB; have HO_318003 := n0_; have HO_332003 := n1_; have BK304 := n2_; have BK317 := n3_; have BK331 := n4_; have HB := n5_; clear n0_ n1_ n2_ n3_ n4_ n5_; (try clear hb); (try clear hb2); (try clear hk); (try clear hi)))
                                      go_ret
                                      exact ⟨by first | rfl | (simp [errW_none, errW_some] <;> rfl) | (simp [*, errW_none, errW_some] <;> rfl), by repeat (first | (with_reducible first | exact HB.out | apply below_alloc | apply pw_below_drewN | apply below_drew1 | refine below_set ?_ GE304.out | refine below_set ?_ GE317.out | refine below_set ?_ GE331.out) | exact HB.out)⟩
                                    · replace c108 := Bool.eq_false_iff.mpr c108
                                      subst c108
                                      have H1 : (if t330 = 210 then (if (t327.length : Int) = 0 then ((vignettelaw21_writes.f kj96).bind fun t334 => (some t334)) else (some false)) else (some false)) = some r := by rw [if_neg (show ¬ (false = true) by decide)] at H; exact H
                                      clear H
                                      have H := H1
                                      clear H1
                                      by_cases c111 : t330 = 210
                                      · rw [if_pos c111] at H
                                        have c111b0 : (t330 == 210) = true := beq_iff_eq.mpr c111
                                        have c111b1 : (t330 != 210) = false := bne_eq_false_iff_eq.mpr c111
                                        clear c111
                                        by_cases c112 : (t327.length : Int) = 0
                                        · rw [if_pos c112] at H
                                          have c112b0 : ((t327.length : Int) == 0) = true := beq_iff_eq.mpr c112
                                          have c112b1 : ((t327.length : Int) != 0) = false := bne_eq_false_iff_eq.mpr c112
                                          clear c112
                                          replace H := Option.bind_eq_some_iff.mp H
                                          obtain ⟨t334, A1130, H⟩ := H
                                          replace H : (some t334) = some r := H
                                          have A113 := Aside0.mk A1130
                                          clear A1130
                                          obtain rfl := Option.some.inj H
                                          have hnb114 := NB331_304.out
                                          have hnc114 := NB304_331.out
                                          have hnb115 := NB331_317.out
                                          have hnc115 := NB317_331.out
                                          have hcz116_0 : wc.cell? ⟨gb331, 0, none⟩ = some (.int .u32 t324) := (blk_cell BK331.out 0).trans rfl
                                          have hcz116_1 : wc.cell? ⟨gb331, 1, none⟩ = some (.int .u64 t325) := (blk_cell BK331.out 1).trans rfl
                                          have hcz116_2 : wc.cell? ⟨gb331, 2, none⟩ = some (.int .u64 t326) := (blk_cell BK331.out 2).trans rfl
                                          have hcz116_3 : wc.cell? ⟨gb331, 3, none⟩ = some (.slice Ao104 t327.length co104) := (blk_cell BK331.out 3).trans rfl
                                          have hfz116_0 := blk_frozen BK331.out 0
                                          have hfz116_1 := blk_frozen BK331.out 1
                                          have hfz116_2 := blk_frozen BK331.out 2
                                          have hfz116_3 := blk_frozen BK331.out 3
                                          go_wp2_with (first | (go_at_call 25; (with_reducible refine (vignettelaw21_writes.calls kj96  t334 _ A113.out).mono ?_); rintro e w117 ⟨rfl, hb⟩; have n0_ := Aside0.mk (Kd.R_below (by (with_reducible repeat (first | apply Kd.R_alloc | apply Kd.R_drewN | apply Kd.R_drew)); exact HO_318003.out) hb); have n1_ := Aside0.mk (Kd.R_below (by (with_reducible repeat (first | apply Kd.R_alloc | apply Kd.R_drewN | apply Kd.R_drew)); exact HO_332003.out) hb); have n2_ := Aside0.mk (blk_below (g := gb304) (o := .cells #[.int .u32 a0_0, .int .u64 a0_1, .int .u64 a0_2, .slice A0_3 l0_3.length c0_3] 32 (0, 0)) (by (with_reducible repeat (first | refine blk_drewN ?_ _ | refine blk_drew ?_ | refine blk_alloc ?_ _)); exact BK304.out) hb); have n3_ := Aside0.mk (blk_below (g := gb317) (o := .cells #[.int .u32 t310, .int .u64 t311, .int .u64 t312, .slice Ao38 t313.length co38] 32 (0, 0)) (by (with_reducible repeat (first | refine blk_drewN ?_ _ | refine blk_drew ?_ | refine blk_alloc ?_ _)); exact BK317.out) hb); have n4_ := Aside0.mk (blk_below (g := gb331) (o := .cells #[.int .u32 t324, .int .u64 t325, .int .u64 t326, .slice Ao104 t327.length co104] 32 (0, 0)) (by (with_reducible repeat (first | refine blk_drewN ?_ _ | refine blk_drew ?_ | refine blk_alloc ?_ _)); exact BK331.out) hb); have n5_ := Aside0.mk (below_step (by repeat (first | (with_reducible first | exact HB.out | apply below_alloc | apply pw_below_drewN | apply below_drew1 | refine below_set ?_ GE304.out | refine below_set ?_ GE317.out | refine below_set ?_ GE331.out) | exact HB.out)) hb); clear HO_318003; clear HO_332003; clear BK304; clear BK317; clear BK331; clear HB; have HO_318003 := n0_; have HO_332003 := n1_; have BK304 := n2_; have BK317 := n3_; have BK331 := n4_; have HB := n5_; clear n0_ n1_ n2_ n3_ n4_ n5_; (try clear hb); (try clear hb2); (try clear hk); (try clear hi)))
                                          go_ret
                                          exact ⟨by first | rfl | (simp [errW_none, errW_some] <;> rfl) | (simp [*, errW_none, errW_some] <;> rfl), by repeat (first | (with_reducible first | exact HB.out | apply below_alloc | apply pw_below_drewN | apply below_drew1 | refine below_set ?_ GE304.out | refine below_set ?_ GE317.out | refine below_set ?_ GE331.out) | exact HB.out)⟩
                                        · rw [if_neg c112] at H
                                          have c112b0 : ((t327.length : Int) == 0) = false := beq_eq_false_iff_ne.mpr c112
                                          have c112b1 : ((t327.length : Int) != 0) = true := bne_iff_ne.mpr c112
                                          have c112b2 : ¬ (t327 = []) := fun h_ => c112 (by rw [h_]; rfl)
                                          obtain rfl := Option.some.inj H
                                          have hnb118 := NB331_304.out
                                          have hnc118 := NB304_331.out
                                          have hnb119 := NB331_317.out
                                          have hnc119 := NB317_331.out
                                          have hcz120_0 : wc.cell? ⟨gb331, 0, none⟩ = some (.int .u32 t324) := (blk_cell BK331.out 0).trans rfl
                                          have hcz120_1 : wc.cell? ⟨gb331, 1, none⟩ = some (.int .u64 t325) := (blk_cell BK331.out 1).trans rfl
                                          have hcz120_2 : wc.cell? ⟨gb331, 2, none⟩ = some (.int .u64 t326) := (blk_cell BK331.out 2).trans rfl
                                          have hcz120_3 : wc.cell? ⟨gb331, 3, none⟩ = some (.slice Ao104 t327.length co104) := (blk_cell BK331.out 3).trans rfl
                                          have hfz120_0 := blk_frozen BK331.out 0
                                          have hfz120_1 := blk_frozen BK331.out 1
                                          have hfz120_2 := blk_frozen BK331.out 2
                                          have hfz120_3 := blk_frozen BK331.out 3
                                          go_wp2
                                          go_ret
                                          exact ⟨by first | rfl | (simp [errW_none, errW_some] <;> rfl) | (simp [*, errW_none, errW_some] <;> rfl), by repeat (first | (with_reducible first | exact HB.out | apply below_alloc | apply pw_below_drewN | apply below_drew1 | refine below_set ?_ GE304.out | refine below_set ?_ GE317.out | refine below_set ?_ GE331.out) | exact HB.out)⟩
                                      · rw [if_neg c111] at H
                                        have c111b0 : (t330 == 210) = false := beq_eq_false_iff_ne.mpr c111
                                        have c111b1 : (t330 != 210) = true := bne_iff_ne.mpr c111
                                        obtain rfl := Option.some.inj H
                                        go_wp2
                                        go_ret
                                        exact ⟨by first | rfl | (simp [errW_none, errW_some] <;> rfl) | (simp [*, errW_none, errW_some] <;> rfl), by repeat (first | (with_reducible first | exact HB.out | apply below_alloc | apply pw_below_drewN | apply below_drew1 | refine below_set ?_ GE304.out | refine below_set ?_ GE317.out | refine below_set ?_ GE331.out) | exact HB.out)⟩
                  · rw [if_neg c56] at H
                    exact absurd H (by simp)

end Go.Proofs.Ytmacmhlimdaemaa.R
