/- The walk of RectShifts. -/
import Derived.Test.YtlmnfcocgocjiaaPlainShift
import Derived.Test.YtlmnfcocgocjiaaWakes
import Derived.Test.YtlmnfcocgocjiaaHeld
import Derived.Laws.CopyOwn
namespace Go.Proofs.Ytlmnfcocgocjiaa
open Go.RowKit
structure HeldRS (g : Nat) (r s : Rc) (w0 w : World) : Prop where
  r : Blk w w0.heap.size 23 r.arr
  s : Blk w g 23 s.arr
  bel : Below w0.heap.size w0 w
theorem HeldRS.next {g : Nat} {r s : Rc} {w0 w w' : World} (h : HeldRS g r s w0 w) (k : Below w.heap.size w w') : HeldRS g r s w0 w' := ⟨h.r.keep k, h.s.keep k, below_next h.bel h.bel.size k⟩
theorem HeldRS.drew {g : Nat} {r s : Rc} {w0 w : World} (h : HeldRS g r s w0 w) : HeldRS g r s w0 w.drew := ⟨h.r.drew, h.s.drew, h.bel.drew⟩
theorem Blk.setRow {w : World} {g : Nat} {t : TypeId} {cs cs' : Array Value} (h : Blk w g t cs) : Blk (w.setRow g cs') g t cs' := setRow_heap w g cs cs' t (0, 0) h
theorem size23 : (Try.prog.info? 23).map (·.size) = some 4 := by kernel_rfl
set_option maxRecDepth 100000 in
set_option maxHeartbeats 4000000 in
theorem shifts_in (r s : Rc) (dx dy x y : Int) (w : World) (hS : Shifted r dx dy s) (hx0 : -1099511627776 ≤ x) (hx1 : x ≤ 1099511627776) (hy0 : -1099511627776 ≤ y) (hy1 : y ≤ 1099511627776)
    (hs : shiftR r dx dy = s) (hz : eqR s zeroR = false) :
    Calls Try.prog 5 #[r.v, .int .i64 dx, .int .i64 dy, .int .i64 x, .int .i64 y] w fun e w' => e = .returned (.bool true) ∧ Below w.heap.size w w' := by
  have hdx0 := hS.x0
  have hdx1 := hS.x1
  have hdy0 := hS.y0
  have hdy1 := hS.y1
  have f1 : decide (x < -1099511627776) = false := decide_eq_false (by omega)
  have f2 : decide (1099511627776 < x) = false := decide_eq_false (by omega)
  have f3 : decide (y < -1099511627776) = false := decide_eq_false (by omega)
  have f4 : decide (1099511627776 < y) = false := decide_eq_false (by omega)
  have qz : ∀ w, (binOp .eql 23 s.v (.agg #[.int .i64 0, .int .i64 0, .int .i64 0, .int .i64 0])).run Try.prog w = .ok (.bool false) w := fun w => (run_eqR s zeroR w).trans (by rw [hz])
  have qr : ∀ w, (binOp .eql 23 r.v r.v).run Try.prog w = .ok (.bool true) w := fun w => by rw [run_eqR, eqR_self]
  have hwx : IntKind.wrap .i64 (-dx) = -dx := by simp [IntKind.wrap, IntKind.signed, IntKind.bits]; omega
  have hwy : IntKind.wrap .i64 (-dy) = -dy := by simp [IntKind.wrap, IntKind.signed, IntKind.bits]; omega
  have hwxx : IntKind.wrap .i64 (x + dx) = x + dx := by simp [IntKind.wrap, IntKind.signed, IntKind.bits]; omega
  have hwyy : IntKind.wrap .i64 (y + dy) = y + dy := by simp [IntKind.wrap, IntKind.signed, IntKind.bits]; omega
  have Hs := Lib.hid hs
  have HS := Lib.hid hS
  clear hs hz hS
  go_enter Try.func5, Try.ntmps5
  go_wp2_with fail
  obtain ⟨W, hW, hR⟩ := boxed1 w r
  rw [hW]
  clear hW
  have ⟨r0, r1, r2, r3⟩ := hR.a.four
  go_upto_region 3 with (fail)
  go_wp2_with fail
  refine (shift_any r dx dy _).mono ?_
  rw [Hs.out]
  rintro e w2 ⟨rfl, hb2⟩
  go_wp2_with fail
  have hnot : 0 = 0 := rfl
  obtain ⟨W2, hW2, hs2, hb3, _⟩ := boxes1 w2 s.arr 23
  have hW2' : w2.alloc (.cells #[.int .i64 s.x, .int .i64 s.y, .int .i64 s.w, .int .i64 s.h] 23) = W2 := hW2
  rw [hW2']
  have hHeld : HeldRS w2.heap.size r s w W2 := ⟨(hR.a.keep hb2).keep hb3, hs2, below_next (below_next hR.bel hR.bel.size hb2) (Nat.le_trans hR.bel.size hb2.size) hb3⟩
  clear hW2 hW2' hR hb2 hb3 hs2 r0 r1 r2 r3 hnot
  generalize w2.heap.size = g2 at hHeld ⊢
  refine wp_region_held_drew (S := HeldRS g2 r s w) (by kernel_rfl) hHeld.drew (fun _ => ?_)
  replace hHeld := hHeld.drew
  refine wpAnyH_take (i := 0) (oi := { dst := some 35, op := Op.load 23 (Operand.tmp 11), type := 23, pos := "outright.go:36", after := #[], guard := none }) rfl (by kernel_rfl) (by kernel_rfl) (by kernel_rfl) (fun _ _ _ h => h) (load_rc (t := 11) (r := s) rfl rfl rfl (fun _ h => h.s)) hHeld ?_
  try simp only [Act.put, List.setIfInBounds_toArray, List.set_cons_zero, List.set_cons_succ]
  refine wpAnyH_ready (rs := [1]) (by kernel_rfl) (by simp) ?_
  refine AllReadyH.cons (o := { dst := some 36, op := Op.call { callee := Callee.value (Operand.func 15), args := #[Operand.tmp 35], argTypes := #[23] }, type := 4, pos := "outright.go:36", after := #[{ on := 0, ground := Ground.data }], guard := none }) rfl (fun K hK => ?_) AllReadyH.nil
  go_simp
  go_at_call 15
  refine (good_any s.x s.y s.w s.h _).mono ?_
  rw [show goodB s.x s.y s.w s.h = true from HS.out.good]
  rintro e w1 ⟨rfl, hb1⟩
  replace hHeld := hHeld.next hb1
  refine hK.out _ _ hHeld (fun _ => ?_)
  clear hK K
  try simp only [Act.put, List.setIfInBounds_toArray, List.set_cons_zero, List.set_cons_succ]
  refine wpAnyH_take (i := 2) (oi := { dst := some 37, op := Op.move (Operand.tmp 36), type := 4, pos := "outright.go:36", after := #[{ on := 1, ground := Ground.data }, { on := 1, ground := Ground.chain }], guard := none }) (v := ?_) rfl (by kernel_rfl) (by kernel_rfl) (by kernel_rfl) (fun _ _ _ h => h) (Or.inl ⟨by rfl, ?_⟩) hHeld ?_
  rotate_left
  · (intro w hSw; clear hSw; go_simp); with_reducible rfl
  try simp only [Act.put, List.setIfInBounds_toArray, List.set_cons_zero, List.set_cons_succ]
  refine wpAnyH_take (i := 3) (oi := { dst := some 38, op := Op.load 23 (Operand.tmp 11), type := 23, pos := "outright.go:36", after := #[{ on := 2, ground := Ground.guard }], guard := some (2, true) }) rfl (by kernel_rfl) (by kernel_rfl) (by kernel_rfl) (fun _ _ _ h => h) (load_rc (t := 11) (r := s) rfl rfl rfl (fun _ h => h.s)) hHeld ?_
  try simp only [Act.put, List.setIfInBounds_toArray, List.set_cons_zero, List.set_cons_succ]
  refine wpAnyH_take (i := 4) (oi := { dst := some 39, op := Op.move (Operand.tmp 1), type := 3, pos := "outright.go:36", after := #[{ on := 2, ground := Ground.guard }], guard := some (2, true) }) (v := ?_) rfl (by kernel_rfl) (by kernel_rfl) (by kernel_rfl) (fun _ _ _ h => h) (Or.inl ⟨by rfl, ?_⟩) hHeld ?_
  rotate_left
  · (intro w hSw; clear hSw; go_simp); with_reducible rfl
  try simp only [Act.put, List.setIfInBounds_toArray, List.set_cons_zero, List.set_cons_succ]
  refine wpAnyH_take (i := 5) (oi := { dst := some 40, op := Op.unOp UnOp.neg 3 (Operand.tmp 39), type := 3, pos := "outright.go:36", after := #[{ on := 4, ground := Ground.data }, { on := 2, ground := Ground.guard }], guard := some (2, true) }) (v := ?_) rfl (by kernel_rfl) (by kernel_rfl) (by kernel_rfl) (fun _ _ _ h => h) (Or.inl ⟨by rfl, ?_⟩) hHeld ?_
  rotate_left
  · (intro w hSw; clear hSw; go_simp); with_reducible rfl
  try simp only [Act.put, List.setIfInBounds_toArray, List.set_cons_zero, List.set_cons_succ]
  refine wpAnyH_take (i := 6) (oi := { dst := some 41, op := Op.move (Operand.tmp 2), type := 3, pos := "outright.go:36", after := #[{ on := 2, ground := Ground.guard }], guard := some (2, true) }) (v := ?_) rfl (by kernel_rfl) (by kernel_rfl) (by kernel_rfl) (fun _ _ _ h => h) (Or.inl ⟨by rfl, ?_⟩) hHeld ?_
  rotate_left
  · (intro w hSw; clear hSw; go_simp); with_reducible rfl
  try simp only [Act.put, List.setIfInBounds_toArray, List.set_cons_zero, List.set_cons_succ]
  refine wpAnyH_take (i := 7) (oi := { dst := some 42, op := Op.unOp UnOp.neg 3 (Operand.tmp 41), type := 3, pos := "outright.go:36", after := #[{ on := 6, ground := Ground.data }, { on := 2, ground := Ground.guard }], guard := some (2, true) }) (v := ?_) rfl (by kernel_rfl) (by kernel_rfl) (by kernel_rfl) (fun _ _ _ h => h) (Or.inl ⟨by rfl, ?_⟩) hHeld ?_
  rotate_left
  · (intro w hSw; clear hSw; go_simp); with_reducible rfl
  try simp only [Act.put, List.setIfInBounds_toArray, List.set_cons_zero, List.set_cons_succ]
  refine wpAnyH_take (i := 9) (oi := { dst := some 44, op := Op.load 23 (Operand.tmp 5), type := 23, pos := "outright.go:36", after := #[{ on := 2, ground := Ground.guard }], guard := some (2, true) }) rfl (by kernel_rfl) (by kernel_rfl) (by kernel_rfl) (fun _ _ _ h => h) (load_rc (t := 5) (r := r) rfl rfl rfl (fun _ h => h.r)) hHeld ?_
  try simp only [Act.put, List.setIfInBounds_toArray, List.set_cons_zero, List.set_cons_succ]
  refine wpAnyH_ready (rs := [8]) (by kernel_rfl) (by simp) ?_
  refine AllReadyH.cons (o := { dst := some 43, op := Op.call { callee := Callee.value (Operand.func 20), args := #[Operand.tmp 38, Operand.tmp 40, Operand.tmp 42], argTypes := #[23, 3, 3] }, type := 23, pos := "outright.go:36", after := #[{ on := 3, ground := Ground.data }, { on := 5, ground := Ground.data }, { on := 7, ground := Ground.data }, { on := 2, ground := Ground.chain }, { on := 2, ground := Ground.guard }], guard := some (2, true) }) rfl (fun K hK => ?_) AllReadyH.nil
  go_simp
  go_at_call 20
  refine (shift_any s (-dx) (-dy) _).mono ?_
  rw [HS.out.back]
  rintro e w1 ⟨rfl, hb1⟩
  replace hHeld := hHeld.next hb1
  refine hK.out _ _ hHeld (fun _ => ?_)
  clear hK K
  try simp only [Act.put, List.setIfInBounds_toArray, List.set_cons_zero, List.set_cons_succ]
  refine wpAnyH_take (i := 10) (oi := { dst := some 45, op := Op.binOp BinOp.eql 23 (Operand.tmp 43) (Operand.tmp 44) 23, type := 4, pos := "outright.go:36", after := #[{ on := 8, ground := Ground.data }, { on := 9, ground := Ground.data }, { on := 2, ground := Ground.guard }], guard := some (2, true) }) (v := ?_) rfl (by kernel_rfl) (by kernel_rfl) (by kernel_rfl) (fun _ _ _ h => h) (Or.inl ⟨by rfl, ?_⟩) hHeld ?_
  rotate_left
  · (intro w hSw; clear hSw; go_simp); with_reducible rfl
  try simp only [Act.put, List.setIfInBounds_toArray, List.set_cons_zero, List.set_cons_succ]
  refine wpAnyH_take (i := 11) (oi := { dst := some 46, op := Op.pick (Operand.tmp 37) (Operand.tmp 45) (Operand.const (Value.bool false)), type := 4, pos := "outright.go:36", after := #[{ on := 2, ground := Ground.data }, { on := 10, ground := Ground.data }], guard := none }) (v := ?_) rfl (by kernel_rfl) (by kernel_rfl) (by kernel_rfl) (fun _ _ _ h => h) (Or.inl ⟨by rfl, ?_⟩) hHeld ?_
  rotate_left
  · (intro w hSw; clear hSw; go_simp); with_reducible rfl
  try simp only [Act.put, List.setIfInBounds_toArray, List.set_cons_zero, List.set_cons_succ]
  refine wpAnyH_take (i := 12) (oi := { dst := some 47, op := Op.move (Operand.tmp 46), type := 4, pos := "outright.go:36", after := #[{ on := 11, ground := Ground.data }, { on := 8, ground := Ground.chain }], guard := none }) (v := ?_) rfl (by kernel_rfl) (by kernel_rfl) (by kernel_rfl) (fun _ _ _ h => h) (Or.inl ⟨by rfl, ?_⟩) hHeld ?_
  rotate_left
  · (intro w hSw; clear hSw; go_simp); with_reducible rfl
  try simp only [Act.put, List.setIfInBounds_toArray, List.set_cons_zero, List.set_cons_succ]
  refine wpAnyH_take (i := 13) (oi := { dst := some 48, op := Op.load 23 (Operand.tmp 11), type := 23, pos := "outright.go:36", after := #[{ on := 12, ground := Ground.guard }], guard := some (12, true) }) rfl (by kernel_rfl) (by kernel_rfl) (by kernel_rfl) (fun _ _ _ h => h) (load_rc (t := 11) (r := s) rfl rfl rfl (fun _ h => h.s)) hHeld ?_
  try simp only [Act.put, List.setIfInBounds_toArray, List.set_cons_zero, List.set_cons_succ]
  refine wpAnyH_take (i := 14) (oi := { dst := some 49, op := Op.move (Operand.tmp 3), type := 3, pos := "outright.go:36", after := #[{ on := 12, ground := Ground.guard }], guard := some (12, true) }) (v := ?_) rfl (by kernel_rfl) (by kernel_rfl) (by kernel_rfl) (fun _ _ _ h => h) (Or.inl ⟨by rfl, ?_⟩) hHeld ?_
  rotate_left
  · (intro w hSw; clear hSw; go_simp); with_reducible rfl
  try simp only [Act.put, List.setIfInBounds_toArray, List.set_cons_zero, List.set_cons_succ]
  refine wpAnyH_take (i := 15) (oi := { dst := some 50, op := Op.move (Operand.tmp 1), type := 3, pos := "outright.go:36", after := #[{ on := 12, ground := Ground.guard }], guard := some (12, true) }) (v := ?_) rfl (by kernel_rfl) (by kernel_rfl) (by kernel_rfl) (fun _ _ _ h => h) (Or.inl ⟨by rfl, ?_⟩) hHeld ?_
  rotate_left
  · (intro w hSw; clear hSw; go_simp); with_reducible rfl
  try simp only [Act.put, List.setIfInBounds_toArray, List.set_cons_zero, List.set_cons_succ]
  refine wpAnyH_take (i := 16) (oi := { dst := some 51, op := Op.binOp BinOp.add 3 (Operand.tmp 49) (Operand.tmp 50) 3, type := 3, pos := "outright.go:36", after := #[{ on := 14, ground := Ground.data }, { on := 15, ground := Ground.data }, { on := 12, ground := Ground.guard }], guard := some (12, true) }) (v := ?_) rfl (by kernel_rfl) (by kernel_rfl) (by kernel_rfl) (fun _ _ _ h => h) (Or.inl ⟨by rfl, ?_⟩) hHeld ?_
  rotate_left
  · (intro w hSw; clear hSw; go_simp); with_reducible rfl
  try simp only [Act.put, List.setIfInBounds_toArray, List.set_cons_zero, List.set_cons_succ]
  refine wpAnyH_take (i := 17) (oi := { dst := some 52, op := Op.move (Operand.tmp 4), type := 3, pos := "outright.go:36", after := #[{ on := 12, ground := Ground.guard }], guard := some (12, true) }) (v := ?_) rfl (by kernel_rfl) (by kernel_rfl) (by kernel_rfl) (fun _ _ _ h => h) (Or.inl ⟨by rfl, ?_⟩) hHeld ?_
  rotate_left
  · (intro w hSw; clear hSw; go_simp); with_reducible rfl
  try simp only [Act.put, List.setIfInBounds_toArray, List.set_cons_zero, List.set_cons_succ]
  refine wpAnyH_take (i := 18) (oi := { dst := some 53, op := Op.move (Operand.tmp 2), type := 3, pos := "outright.go:36", after := #[{ on := 12, ground := Ground.guard }], guard := some (12, true) }) (v := ?_) rfl (by kernel_rfl) (by kernel_rfl) (by kernel_rfl) (fun _ _ _ h => h) (Or.inl ⟨by rfl, ?_⟩) hHeld ?_
  rotate_left
  · (intro w hSw; clear hSw; go_simp); with_reducible rfl
  try simp only [Act.put, List.setIfInBounds_toArray, List.set_cons_zero, List.set_cons_succ]
  refine wpAnyH_take (i := 19) (oi := { dst := some 54, op := Op.binOp BinOp.add 3 (Operand.tmp 52) (Operand.tmp 53) 3, type := 3, pos := "outright.go:36", after := #[{ on := 17, ground := Ground.data }, { on := 18, ground := Ground.data }, { on := 12, ground := Ground.guard }], guard := some (12, true) }) (v := ?_) rfl (by kernel_rfl) (by kernel_rfl) (by kernel_rfl) (fun _ _ _ h => h) (Or.inl ⟨by rfl, ?_⟩) hHeld ?_
  rotate_left
  · (intro w hSw; clear hSw; go_simp); with_reducible rfl
  try simp only [Act.put, List.setIfInBounds_toArray, List.set_cons_zero, List.set_cons_succ]
  refine wpAnyH_take (i := 21) (oi := { dst := some 56, op := Op.load 23 (Operand.tmp 5), type := 23, pos := "outright.go:36", after := #[{ on := 12, ground := Ground.guard }], guard := some (12, true) }) rfl (by kernel_rfl) (by kernel_rfl) (by kernel_rfl) (fun _ _ _ h => h) (load_rc (t := 5) (r := r) rfl rfl rfl (fun _ h => h.r)) hHeld ?_
  try simp only [Act.put, List.setIfInBounds_toArray, List.set_cons_zero, List.set_cons_succ]
  refine wpAnyH_take (i := 22) (oi := { dst := some 57, op := Op.move (Operand.tmp 3), type := 3, pos := "outright.go:36", after := #[{ on := 12, ground := Ground.guard }], guard := some (12, true) }) (v := ?_) rfl (by kernel_rfl) (by kernel_rfl) (by kernel_rfl) (fun _ _ _ h => h) (Or.inl ⟨by rfl, ?_⟩) hHeld ?_
  rotate_left
  · (intro w hSw; clear hSw; go_simp); with_reducible rfl
  try simp only [Act.put, List.setIfInBounds_toArray, List.set_cons_zero, List.set_cons_succ]
  refine wpAnyH_take (i := 23) (oi := { dst := some 58, op := Op.move (Operand.tmp 4), type := 3, pos := "outright.go:36", after := #[{ on := 12, ground := Ground.guard }], guard := some (12, true) }) (v := ?_) rfl (by kernel_rfl) (by kernel_rfl) (by kernel_rfl) (fun _ _ _ h => h) (Or.inl ⟨by rfl, ?_⟩) hHeld ?_
  rotate_left
  · (intro w hSw; clear hSw; go_simp); with_reducible rfl
  try simp only [Act.put, List.setIfInBounds_toArray, List.set_cons_zero, List.set_cons_succ]
  refine wpAnyH_ready (rs := [20]) (by kernel_rfl) (by simp) ?_
  refine AllReadyH.cons (o := { dst := some 55, op := Op.call { callee := Callee.value (Operand.func 13), args := #[Operand.tmp 48, Operand.tmp 51, Operand.tmp 54], argTypes := #[23, 3, 3] }, type := 4, pos := "outright.go:36", after := #[{ on := 13, ground := Ground.data }, { on := 16, ground := Ground.data }, { on := 19, ground := Ground.data }, { on := 12, ground := Ground.chain }, { on := 12, ground := Ground.guard }], guard := some (12, true) }) rfl (fun K hK => ?_) AllReadyH.nil
  go_simp
  go_at_call 13
  refine (has_any s.x s.y s.w s.h (x + dx) (y + dy) _).mono ?_
  rw [show hasB s.x s.y s.w s.h (x + dx) (y + dy) = r.has x y from HS.out.has x y]
  rintro e w1 ⟨rfl, hb1⟩
  replace hHeld := hHeld.next hb1
  refine hK.out _ _ hHeld (fun _ => ?_)
  clear hK K
  try simp only [Act.put, List.setIfInBounds_toArray, List.set_cons_zero, List.set_cons_succ]
  refine wpAnyH_ready (rs := [24]) (by kernel_rfl) (by simp) ?_
  refine AllReadyH.cons (o := { dst := some 59, op := Op.call { callee := Callee.value (Operand.func 13), args := #[Operand.tmp 56, Operand.tmp 57, Operand.tmp 58], argTypes := #[23, 3, 3] }, type := 4, pos := "outright.go:36", after := #[{ on := 21, ground := Ground.data }, { on := 22, ground := Ground.data }, { on := 23, ground := Ground.data }, { on := 20, ground := Ground.chain }, { on := 12, ground := Ground.guard }], guard := some (12, true) }) rfl (fun K hK => ?_) AllReadyH.nil
  go_simp
  go_at_call 13
  refine (has_any r.x r.y r.w r.h x y _).mono ?_
  rintro e w1 ⟨rfl, hb1⟩
  replace hHeld := hHeld.next hb1
  refine hK.out _ _ hHeld (fun _ => ?_)
  clear hK K
  try simp only [Act.put, List.setIfInBounds_toArray, List.set_cons_zero, List.set_cons_succ]
  refine wpAnyH_take (i := 25) (oi := { dst := some 60, op := Op.binOp BinOp.eql 4 (Operand.tmp 55) (Operand.tmp 59) 4, type := 4, pos := "outright.go:36", after := #[{ on := 20, ground := Ground.data }, { on := 24, ground := Ground.data }, { on := 12, ground := Ground.guard }], guard := some (12, true) }) (v := ?_) rfl (by kernel_rfl) (by kernel_rfl) (by kernel_rfl) (fun _ _ _ h => h) (Or.inl ⟨by rfl, ?_⟩) hHeld ?_
  rotate_left
  · (intro w hSw; clear hSw; go_simp); with_reducible rfl
  try simp only [Act.put, List.setIfInBounds_toArray, List.set_cons_zero, List.set_cons_succ]
  refine wpAnyH_take (i := 26) (oi := { dst := some 61, op := Op.pick (Operand.tmp 47) (Operand.tmp 60) (Operand.const (Value.bool false)), type := 4, pos := "outright.go:36", after := #[{ on := 12, ground := Ground.data }, { on := 25, ground := Ground.data }], guard := none }) (v := ?_) rfl (by kernel_rfl) (by kernel_rfl) (by kernel_rfl) (fun _ _ _ h => h) (Or.inl ⟨by rfl, ?_⟩) hHeld ?_
  rotate_left
  · (intro w hSw; clear hSw; go_simp); with_reducible rfl
  try simp only [Act.put, List.setIfInBounds_toArray, List.set_cons_zero, List.set_cons_succ]
  refine wpAnyH_take (i := 27) (oi := { dst := some 62, op := Op.move (Operand.tmp 61), type := 4, pos := "outright.go:36", after := #[{ on := 26, ground := Ground.data }, { on := 24, ground := Ground.chain }], guard := none }) (v := ?_) rfl (by kernel_rfl) (by kernel_rfl) (by kernel_rfl) (fun _ _ _ h => h) (Or.inl ⟨by rfl, ?_⟩) hHeld ?_
  rotate_left
  · (intro w hSw; clear hSw; go_simp); with_reducible rfl
  try simp only [Act.put, List.setIfInBounds_toArray, List.set_cons_zero, List.set_cons_succ]
  refine wpAnyH_take (i := 28) (oi := { dst := some 63, op := Op.load 23 (Operand.tmp 11), type := 23, pos := "outright.go:36", after := #[{ on := 27, ground := Ground.guard }], guard := some (27, true) }) rfl (by kernel_rfl) (by kernel_rfl) (by kernel_rfl) (fun _ _ _ h => h) (load_rc (t := 11) (r := s) rfl rfl rfl (fun _ h => h.s)) hHeld ?_
  try simp only [Act.put, List.setIfInBounds_toArray, List.set_cons_zero, List.set_cons_succ]
  refine wpAnyH_take (i := 30) (oi := { dst := some 65, op := Op.load 23 (Operand.tmp 5), type := 23, pos := "outright.go:36", after := #[{ on := 27, ground := Ground.guard }], guard := some (27, true) }) rfl (by kernel_rfl) (by kernel_rfl) (by kernel_rfl) (fun _ _ _ h => h) (load_rc (t := 5) (r := r) rfl rfl rfl (fun _ h => h.r)) hHeld ?_
  try simp only [Act.put, List.setIfInBounds_toArray, List.set_cons_zero, List.set_cons_succ]
  refine wpAnyH_ready (rs := [29]) (by kernel_rfl) (by simp) ?_
  refine AllReadyH.cons (o := { dst := some 64, op := Op.call { callee := Callee.value (Operand.func 12), args := #[Operand.tmp 63], argTypes := #[23] }, type := 3, pos := "outright.go:36", after := #[{ on := 28, ground := Ground.data }, { on := 27, ground := Ground.chain }, { on := 27, ground := Ground.guard }], guard := some (27, true) }) rfl (fun K hK => ?_) AllReadyH.nil
  go_simp
  go_at_call 12
  refine (area_any s.x s.y s.w s.h _).mono ?_
  rw [show areaV s.x s.y s.w s.h = r.area from HS.out.area]
  rintro e w1 ⟨rfl, hb1⟩
  replace hHeld := hHeld.next hb1
  refine hK.out _ _ hHeld (fun _ => ?_)
  clear hK K
  try simp only [Act.put, List.setIfInBounds_toArray, List.set_cons_zero, List.set_cons_succ]
  refine wpAnyH_ready (rs := [31]) (by kernel_rfl) (by simp) ?_
  refine AllReadyH.cons (o := { dst := some 66, op := Op.call { callee := Callee.value (Operand.func 12), args := #[Operand.tmp 65], argTypes := #[23] }, type := 3, pos := "outright.go:36", after := #[{ on := 30, ground := Ground.data }, { on := 29, ground := Ground.chain }, { on := 27, ground := Ground.guard }], guard := some (27, true) }) rfl (fun K hK => ?_) AllReadyH.nil
  go_simp
  go_at_call 12
  refine (area_any r.x r.y r.w r.h _).mono ?_
  rintro e w1 ⟨rfl, hb1⟩
  replace hHeld := hHeld.next hb1
  refine hK.out _ _ hHeld (fun _ => ?_)
  clear hK K
  try simp only [Act.put, List.setIfInBounds_toArray, List.set_cons_zero, List.set_cons_succ]
  refine wpAnyH_take (i := 32) (oi := { dst := some 67, op := Op.binOp BinOp.eql 3 (Operand.tmp 64) (Operand.tmp 66) 3, type := 4, pos := "outright.go:36", after := #[{ on := 29, ground := Ground.data }, { on := 31, ground := Ground.data }, { on := 27, ground := Ground.guard }], guard := some (27, true) }) (v := ?_) rfl (by kernel_rfl) (by kernel_rfl) (by kernel_rfl) (fun _ _ _ h => h) (Or.inl ⟨by rfl, ?_⟩) hHeld ?_
  rotate_left
  · (intro w hSw; clear hSw; go_simp); with_reducible rfl
  try simp only [Act.put, List.setIfInBounds_toArray, List.set_cons_zero, List.set_cons_succ]
  refine wpAnyH_take (i := 33) (oi := { dst := some 68, op := Op.pick (Operand.tmp 62) (Operand.tmp 67) (Operand.const (Value.bool false)), type := 4, pos := "outright.go:36", after := #[{ on := 27, ground := Ground.data }, { on := 32, ground := Ground.data }], guard := none }) (v := ?_) rfl (by kernel_rfl) (by kernel_rfl) (by kernel_rfl) (fun _ _ _ h => h) (Or.inl ⟨by rfl, ?_⟩) hHeld ?_
  rotate_left
  · (intro w hSw; clear hSw; go_simp); with_reducible rfl
  try simp only [Act.put, List.setIfInBounds_toArray, List.set_cons_zero, List.set_cons_succ]
  refine wpAnyH_take (i := 34) (oi := { dst := some 69, op := Op.move (Operand.tmp 68), type := 4, pos := "outright.go:36", after := #[{ on := 33, ground := Ground.data }, { on := 31, ground := Ground.chain }], guard := none }) (v := ?_) rfl (by kernel_rfl) (by kernel_rfl) (by kernel_rfl) (fun _ _ _ h => h) (Or.inl ⟨by rfl, ?_⟩) hHeld ?_
  rotate_left
  · (intro w hSw; clear hSw; go_simp); with_reducible rfl
  try simp only [Act.put, List.setIfInBounds_toArray, List.set_cons_zero, List.set_cons_succ]
  refine wpAnyH_ready (rs := [35]) (by kernel_rfl) (by simp) ?_
  refine AllReadyH.cons (o := { dst := some 70, op := Op.call { callee := Callee.value (Operand.func 14), args := #[], argTypes := #[] }, type := 4, pos := "outright.go:36", after := #[{ on := 34, ground := Ground.chain }, { on := 34, ground := Ground.guard }], guard := some (34, true) }) rfl (fun K hK => ?_) AllReadyH.nil
  go_simp
  go_at_call 14
  refine (wakes_any _).mono ?_
  rintro e w1 ⟨rfl, hb1⟩
  replace hHeld := hHeld.next hb1
  refine hK.out _ _ hHeld (fun _ => ?_)
  clear hK K
  try simp only [Act.put, List.setIfInBounds_toArray, List.set_cons_zero, List.set_cons_succ]
  refine wpAnyH_take (i := 36) (oi := { dst := some 71, op := Op.pick (Operand.tmp 69) (Operand.tmp 70) (Operand.const (Value.bool false)), type := 4, pos := "outright.go:36", after := #[{ on := 34, ground := Ground.data }, { on := 35, ground := Ground.data }], guard := none }) (v := ?_) rfl (by kernel_rfl) (by kernel_rfl) (by kernel_rfl) (fun _ _ _ h => h) (Or.inl ⟨by rfl, ?_⟩) hHeld ?_
  rotate_left
  · (intro w hSw; clear hSw; go_simp); with_reducible rfl
  try simp only [Act.put, List.setIfInBounds_toArray, List.set_cons_zero, List.set_cons_succ]
  refine wpAnyH_take (i := 37) (oi := { dst := some 10, op := Op.assign (Operand.tmp 71), type := 4, pos := "outright.go:36", after := #[{ on := 36, ground := Ground.data }, { on := 35, ground := Ground.chain }, { on := 0, ground := Ground.phase }, { on := 1, ground := Ground.phase }, { on := 2, ground := Ground.phase }, { on := 3, ground := Ground.phase }, { on := 4, ground := Ground.phase }, { on := 5, ground := Ground.phase }, { on := 6, ground := Ground.phase }, { on := 7, ground := Ground.phase }, { on := 8, ground := Ground.phase }, { on := 9, ground := Ground.phase }, { on := 10, ground := Ground.phase }, { on := 11, ground := Ground.phase }, { on := 12, ground := Ground.phase }, { on := 13, ground := Ground.phase }, { on := 14, ground := Ground.phase }, { on := 15, ground := Ground.phase }, { on := 16, ground := Ground.phase }, { on := 17, ground := Ground.phase }, { on := 18, ground := Ground.phase }, { on := 19, ground := Ground.phase }, { on := 20, ground := Ground.phase }, { on := 21, ground := Ground.phase }, { on := 22, ground := Ground.phase }, { on := 23, ground := Ground.phase }, { on := 24, ground := Ground.phase }, { on := 25, ground := Ground.phase }, { on := 26, ground := Ground.phase }, { on := 27, ground := Ground.phase }, { on := 28, ground := Ground.phase }, { on := 29, ground := Ground.phase }, { on := 30, ground := Ground.phase }, { on := 31, ground := Ground.phase }, { on := 32, ground := Ground.phase }, { on := 33, ground := Ground.phase }, { on := 34, ground := Ground.phase }, { on := 35, ground := Ground.phase }, { on := 36, ground := Ground.phase }], guard := none }) (v := ?_) rfl (by kernel_rfl) (by kernel_rfl) (by kernel_rfl) (fun _ _ _ h => h) (Or.inl ⟨by rfl, ?_⟩) hHeld ?_
  rotate_left
  · (intro w hSw; clear hSw; go_simp); with_reducible rfl
  try simp only [Act.put, List.setIfInBounds_toArray, List.set_cons_zero, List.set_cons_succ]
  refine wpAnyH_done (by kernel_rfl) ?_ _
  go_wp2_with fail
  go_ret
  exact ⟨rfl, hHeld.bel⟩
theorem shifts_far (r : Rc) (dx dy x y : Int) (w : World) (h : x < -1099511627776 ∨ 1099511627776 < x ∨ y < -1099511627776 ∨ 1099511627776 < y) :
    Calls Try.prog 5 #[r.v, .int .i64 dx, .int .i64 dy, .int .i64 x, .int .i64 y] w fun e w' => e = .returned (.bool true) ∧ Below w.heap.size w w' := by
  have hc : x < -1099511627776 ∨ (-1099511627776 ≤ x ∧ 1099511627776 < x) ∨ (-1099511627776 ≤ x ∧ x ≤ 1099511627776 ∧ y < -1099511627776) ∨ (-1099511627776 ≤ x ∧ x ≤ 1099511627776 ∧ -1099511627776 ≤ y ∧ 1099511627776 < y) := by omega
  clear h
  rcases hc with h1 | ⟨g1, h1⟩ | ⟨g1, g2, h1⟩ | ⟨g1, g2, g3, h1⟩
  · go_enter Try.func5, Try.ntmps5
    go_wp2_with fail
    obtain ⟨W, hW, hR⟩ := boxed1 w r
    rw [hW]
    refine (wakes_any _).mono ?_
    rintro e w2 ⟨rfl, hb2⟩
    go_wp2_with fail
    go_ret
    exact ⟨rfl, below_next hR.bel hR.bel.size hb2⟩
  · have f1 : decide (x < -1099511627776) = false := decide_eq_false (by omega)
    clear g1
    go_enter Try.func5, Try.ntmps5
    go_wp2_with fail
    obtain ⟨W, hW, hR⟩ := boxed1 w r
    rw [hW]
    refine (wakes_any _).mono ?_
    rintro e w2 ⟨rfl, hb2⟩
    go_wp2_with fail
    go_ret
    exact ⟨rfl, below_next hR.bel hR.bel.size hb2⟩
  · have f1 : decide (x < -1099511627776) = false := decide_eq_false (by omega)
    have f2 : decide (1099511627776 < x) = false := decide_eq_false (by omega)
    clear g1 g2
    go_enter Try.func5, Try.ntmps5
    go_wp2_with fail
    obtain ⟨W, hW, hR⟩ := boxed1 w r
    rw [hW]
    refine (wakes_any _).mono ?_
    rintro e w2 ⟨rfl, hb2⟩
    go_wp2_with fail
    go_ret
    exact ⟨rfl, below_next hR.bel hR.bel.size hb2⟩
  · have f1 : decide (x < -1099511627776) = false := decide_eq_false (by omega)
    have f2 : decide (1099511627776 < x) = false := decide_eq_false (by omega)
    have f3 : decide (y < -1099511627776) = false := decide_eq_false (by omega)
    clear g1 g2 g3
    go_enter Try.func5, Try.ntmps5
    go_wp2_with fail
    obtain ⟨W, hW, hR⟩ := boxed1 w r
    rw [hW]
    refine (wakes_any _).mono ?_
    rintro e w2 ⟨rfl, hb2⟩
    go_wp2_with fail
    go_ret
    exact ⟨rfl, below_next hR.bel hR.bel.size hb2⟩
theorem shifts_none (r s : Rc) (dx dy x y : Int) (w : World) (hx0 : -1099511627776 ≤ x) (hx1 : x ≤ 1099511627776) (hy0 : -1099511627776 ≤ y) (hy1 : y ≤ 1099511627776)
    (hs : shiftR r dx dy = s) (hz : eqR s zeroR = true) :
    Calls Try.prog 5 #[r.v, .int .i64 dx, .int .i64 dy, .int .i64 x, .int .i64 y] w fun e w' => e = .returned (.bool true) ∧ Below w.heap.size w w' := by
  have f1 : decide (x < -1099511627776) = false := decide_eq_false (by omega)
  have f2 : decide (1099511627776 < x) = false := decide_eq_false (by omega)
  have f3 : decide (y < -1099511627776) = false := decide_eq_false (by omega)
  have f4 : decide (1099511627776 < y) = false := decide_eq_false (by omega)
  have qz : ∀ w, (binOp .eql 23 s.v (.agg #[.int .i64 0, .int .i64 0, .int .i64 0, .int .i64 0])).run Try.prog w = .ok (.bool true) w := fun w => (run_eqR s zeroR w).trans (by rw [hz])
  have Hs := Lib.hid hs
  clear hs hz hx0 hx1 hy0 hy1
  go_enter Try.func5, Try.ntmps5
  go_wp2_with fail
  obtain ⟨W, hW, hR⟩ := boxed1 w r
  rw [hW]
  clear hW
  have ⟨r0, r1, r2, r3⟩ := hR.a.four
  go_wp2_with fail
  refine (shift_any r dx dy _).mono ?_
  rw [Hs.out]
  rintro e w2 ⟨rfl, hb2⟩
  go_wp2_with fail
  obtain ⟨W2, hW2, hs2, hb3, _⟩ := boxes1 w2 s.arr 23
  have hW2' : w2.alloc (.cells #[.int .i64 s.x, .int .i64 s.y, .int .i64 s.w, .int .i64 s.h] 23) = W2 := hW2
  rw [hW2']
  refine (wakes_any _).mono ?_
  rintro e w3 ⟨rfl, hb4⟩
  go_wp2_with fail
  go_ret
  have c1 := below_next hR.bel hR.bel.size hb2
  have c2 := below_next c1 c1.size hb3
  exact ⟨rfl, below_next c2 c2.size hb4⟩
theorem shifts_any (r : Rc) (dx dy x y : Int) (w : World) :
    Calls Try.prog 5 #[r.v, .int .i64 dx, .int .i64 dy, .int .i64 x, .int .i64 y] w fun e w' => e = .returned (.bool true) ∧ Below w.heap.size w w' := by
  by_cases h : x < -1099511627776 ∨ 1099511627776 < x ∨ y < -1099511627776 ∨ 1099511627776 < y
  · exact shifts_far r dx dy x y w h
  · cases hz : eqR (shiftR r dx dy) zeroR with
    | true => exact shifts_none r _ dx dy x y w (by omega) (by omega) (by omega) (by omega) rfl hz
    | false => exact shifts_in r _ dx dy x y w (shifted (fun e => by rw [e, eqR_self] at hz; cases hz)) (by omega) (by omega) (by omega) (by omega) rfl hz
end Go.Proofs.Ytlmnfcocgocjiaa
