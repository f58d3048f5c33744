/- The walk of RectLeast: Or is the least, and hangs on no order. -/
import Derived.Test.YtlmnfcocgocjiaaPlainOr
import Derived.Test.YtlmnfcocgocjiaaWakes
import Derived.Test.YtlmnfcocgocjiaaHeld
import Derived.Test.YtlmnfcocgocjiaaSep
namespace Go.Proofs.Ytlmnfcocgocjiaa
open Go.RowKit
theorem arr_one (r : Rc) : r.arr.all (·.oneCell') = true := by cases r; kernel_rfl
theorem size23 : (Try.prog.info? 23).map (·.size) = some 4 := by kernel_rfl
/-- is one of them empty, or what has both, nothing? -/
def lessB (a b c : Rc) : Bool := a.empty || b.empty || c.empty || eqR (orR (orR a b) c) zeroR || eqR (orR a (orR b c)) zeroR || eqR (orR a b) zeroR || eqR (orR b c) zeroR
theorem less_eq {a b c : Rc} (h : lessB a b c = false) : eqR (orR (orR a b) c) (orR a (orR b c)) = true := by
  unfold lessB at h
  simp only [Bool.or_eq_false_iff] at h
  rw [or_assoc h.1.1.1.1.1.1 h.1.1.1.1.1.2 h.1.1.1.1.2, eqR_self]
set_option maxRecDepth 100000 in
set_option maxHeartbeats 4000000 in
theorem least3_any (a b c : Rc) (w : World) : Calls Try.prog 7 #[a.v, b.v, c.v] w fun e w' => e = .returned (.bool true) ∧ Below w.heap.size w w' := by
  have hnot : ∀ (x : Bool) (w : World), (Op.unary .not (.bool x)).run Try.prog w = .ok (.bool (!x)) w := fun _ _ => rfl
  go_enter Try.func7, Try.ntmps7
  go_wp2_with fail
  obtain ⟨W, hW, hX⟩ : ∃ W, ((w.alloc (.cells a.arr 23)).alloc (.cells b.arr 23)).alloc (.cells c.arr 23) = W ∧ Sep w W [cell w.heap.size 23 a.arr, cell (w.heap.size + 1) 23 b.arr, cell (w.heap.size + 1 + 1) 23 c.arr] := ⟨_, rfl, by have h := (((Sep.start w).box 23 a.arr).box 23 b.arr).box 23 c.arr; simpa only [World.size_alloc, List.nil_append, List.cons_append] using h⟩
  rw [hW]
  clear hW
  generalize e5 : w.heap.size + 1 + 1 = g5 at hX ⊢
  generalize e4 : w.heap.size + 1 = g4 at hX ⊢
  clear e4 e5
  generalize e3 : w.heap.size = g3 at hX ⊢
  have H3 := Lib.hid e3
  clear e3
  refine (or_any a b _).mono ?_
  rintro e w1 ⟨rfl, hb1⟩
  replace hX := hX.grow hb1
  clear hb1
  go_upto_region 2 with (fail)
  obtain ⟨w2, hW, hX⟩ := hX.boxed 23 (orR a b).arr
  rw [hW]
  clear hW
  generalize w1.heap.size = g7 at hX ⊢
  replace hX : Sep w w2 [cell g3 23 a.arr, cell g4 23 b.arr, cell g5 23 c.arr, cell g7 23 (orR a b).arr] := hX
  go_cut [31] (fun s31 wx => s31 = .bool false ∧ Sep w wx [cell g3 23 a.arr, cell g4 23 b.arr, cell g5 23 c.arr, cell g7 23 (orR a b).arr])
  case first =>
    have hC : eqR (orR a b) zeroR = true ∨ (eqR (orR a b) zeroR = false ∧ (inR a c = false ∨ (inR a c = true ∧ (inR b c = false ∨ (inR b c = true ∧ inR (orR a b) c = true))))) := by
      cases e0 : eqR (orR a b) zeroR with
      | true => exact .inl rfl
      | false =>
        refine .inr ⟨rfl, ?_⟩
        cases e1 : inR a c with
        | false => exact .inl rfl
        | true =>
          refine .inr ⟨rfl, ?_⟩
          cases e2 : inR b c with
          | false => exact .inl rfl
          | true => exact .inr ⟨rfl, or_least e1 e2⟩
    rcases hC with h0 | ⟨h0, h1 | ⟨h1, h2 | ⟨h2, h3⟩⟩⟩
    · have qn : ∀ w, (binOp .neq 23 (orR a b).v (.agg #[.int .i64 0, .int .i64 0, .int .i64 0, .int .i64 0])).run Try.prog w = .ok (.bool false) w := fun w => (run_neR (orR a b) (zeroR) w).trans (by rw [h0]; rfl)
      clear h0
      have ⟨a0, a1, a2, a3⟩ := (hX.blk 0 rfl).four
      have ⟨b0, b1, b2, b3⟩ := (hX.blk 1 rfl).four
      have ⟨c0, c1, c2, c3⟩ := (hX.blk 2 rfl).four
      have ⟨o0, o1, o2, o3⟩ := (hX.blk 3 rfl).four
      go_wp2_with fail
      clear a0 a1 a2 a3 b0 b1 b2 b3 c0 c1 c2 c3 o0 o1 o2 o3
      go_meet
      exact ⟨rfl, hX⟩
    · have qn : ∀ w, (binOp .neq 23 (orR a b).v (.agg #[.int .i64 0, .int .i64 0, .int .i64 0, .int .i64 0])).run Try.prog w = .ok (.bool true) w := fun w => (run_neR (orR a b) (zeroR) w).trans (by rw [h0]; rfl)
      clear h0
      have I1 := Lib.hid h1
      clear h1
      have ⟨a0, a1, a2, a3⟩ := (hX.blk 0 rfl).four
      have ⟨b0, b1, b2, b3⟩ := (hX.blk 1 rfl).four
      have ⟨c0, c1, c2, c3⟩ := (hX.blk 2 rfl).four
      have ⟨o0, o1, o2, o3⟩ := (hX.blk 3 rfl).four
      go_wp2_with fail
      refine (in_any a c _).mono ?_
      rw [I1.out]
      rintro e w1 ⟨rfl, hb1⟩
      replace hX := hX.grow hb1
      clear hb1
      clear a0 a1 a2 a3 b0 b1 b2 b3 c0 c1 c2 c3 o0 o1 o2 o3
      have ⟨a0, a1, a2, a3⟩ := (hX.blk 0 rfl).four
      have ⟨b0, b1, b2, b3⟩ := (hX.blk 1 rfl).four
      have ⟨c0, c1, c2, c3⟩ := (hX.blk 2 rfl).four
      have ⟨o0, o1, o2, o3⟩ := (hX.blk 3 rfl).four
      go_wp2_with fail
      clear a0 a1 a2 a3 b0 b1 b2 b3 c0 c1 c2 c3 o0 o1 o2 o3
      go_meet
      exact ⟨rfl, hX⟩
    · have qn : ∀ w, (binOp .neq 23 (orR a b).v (.agg #[.int .i64 0, .int .i64 0, .int .i64 0, .int .i64 0])).run Try.prog w = .ok (.bool true) w := fun w => (run_neR (orR a b) (zeroR) w).trans (by rw [h0]; rfl)
      clear h0
      have I1 := Lib.hid h1
      clear h1
      have I2 := Lib.hid h2
      clear h2
      have ⟨a0, a1, a2, a3⟩ := (hX.blk 0 rfl).four
      have ⟨b0, b1, b2, b3⟩ := (hX.blk 1 rfl).four
      have ⟨c0, c1, c2, c3⟩ := (hX.blk 2 rfl).four
      have ⟨o0, o1, o2, o3⟩ := (hX.blk 3 rfl).four
      go_wp2_with fail
      refine (in_any a c _).mono ?_
      rw [I1.out]
      rintro e w1 ⟨rfl, hb1⟩
      replace hX := hX.grow hb1
      clear hb1
      clear a0 a1 a2 a3 b0 b1 b2 b3 c0 c1 c2 c3 o0 o1 o2 o3
      have ⟨a0, a1, a2, a3⟩ := (hX.blk 0 rfl).four
      have ⟨b0, b1, b2, b3⟩ := (hX.blk 1 rfl).four
      have ⟨c0, c1, c2, c3⟩ := (hX.blk 2 rfl).four
      have ⟨o0, o1, o2, o3⟩ := (hX.blk 3 rfl).four
      go_wp2_with fail
      refine (in_any b c _).mono ?_
      rw [I2.out]
      rintro e w1 ⟨rfl, hb1⟩
      replace hX := hX.grow hb1
      clear hb1
      clear a0 a1 a2 a3 b0 b1 b2 b3 c0 c1 c2 c3 o0 o1 o2 o3
      have ⟨a0, a1, a2, a3⟩ := (hX.blk 0 rfl).four
      have ⟨b0, b1, b2, b3⟩ := (hX.blk 1 rfl).four
      have ⟨c0, c1, c2, c3⟩ := (hX.blk 2 rfl).four
      have ⟨o0, o1, o2, o3⟩ := (hX.blk 3 rfl).four
      go_wp2_with fail
      clear a0 a1 a2 a3 b0 b1 b2 b3 c0 c1 c2 c3 o0 o1 o2 o3
      go_meet
      exact ⟨rfl, hX⟩
    · have qn : ∀ w, (binOp .neq 23 (orR a b).v (.agg #[.int .i64 0, .int .i64 0, .int .i64 0, .int .i64 0])).run Try.prog w = .ok (.bool true) w := fun w => (run_neR (orR a b) (zeroR) w).trans (by rw [h0]; rfl)
      clear h0
      have I1 := Lib.hid h1
      clear h1
      have I2 := Lib.hid h2
      clear h2
      have I3 := Lib.hid h3
      clear h3
      have ⟨a0, a1, a2, a3⟩ := (hX.blk 0 rfl).four
      have ⟨b0, b1, b2, b3⟩ := (hX.blk 1 rfl).four
      have ⟨c0, c1, c2, c3⟩ := (hX.blk 2 rfl).four
      have ⟨o0, o1, o2, o3⟩ := (hX.blk 3 rfl).four
      go_wp2_with fail
      refine (in_any a c _).mono ?_
      rw [I1.out]
      rintro e w1 ⟨rfl, hb1⟩
      replace hX := hX.grow hb1
      clear hb1
      clear a0 a1 a2 a3 b0 b1 b2 b3 c0 c1 c2 c3 o0 o1 o2 o3
      have ⟨a0, a1, a2, a3⟩ := (hX.blk 0 rfl).four
      have ⟨b0, b1, b2, b3⟩ := (hX.blk 1 rfl).four
      have ⟨c0, c1, c2, c3⟩ := (hX.blk 2 rfl).four
      have ⟨o0, o1, o2, o3⟩ := (hX.blk 3 rfl).four
      go_wp2_with fail
      refine (in_any b c _).mono ?_
      rw [I2.out]
      rintro e w1 ⟨rfl, hb1⟩
      replace hX := hX.grow hb1
      clear hb1
      clear a0 a1 a2 a3 b0 b1 b2 b3 c0 c1 c2 c3 o0 o1 o2 o3
      have ⟨a0, a1, a2, a3⟩ := (hX.blk 0 rfl).four
      have ⟨b0, b1, b2, b3⟩ := (hX.blk 1 rfl).four
      have ⟨c0, c1, c2, c3⟩ := (hX.blk 2 rfl).four
      have ⟨o0, o1, o2, o3⟩ := (hX.blk 3 rfl).four
      go_wp2_with fail
      refine (in_any (orR a b) c _).mono ?_
      rw [I3.out]
      rintro e w1 ⟨rfl, hb1⟩
      replace hX := hX.grow hb1
      clear hb1
      clear a0 a1 a2 a3 b0 b1 b2 b3 c0 c1 c2 c3 o0 o1 o2 o3
      have ⟨a0, a1, a2, a3⟩ := (hX.blk 0 rfl).four
      have ⟨b0, b1, b2, b3⟩ := (hX.blk 1 rfl).four
      have ⟨c0, c1, c2, c3⟩ := (hX.blk 2 rfl).four
      have ⟨o0, o1, o2, o3⟩ := (hX.blk 3 rfl).four
      go_wp2_with fail
      clear a0 a1 a2 a3 b0 b1 b2 b3 c0 c1 c2 c3 o0 o1 o2 o3
      go_meet
      exact ⟨rfl, hX⟩
  case rest =>
    clear hX
    obtain ⟨rfl, hX⟩ := hcut
    go_upto_region 4 with (fail)
    go_cut [8, 9] (fun s8 s9 wx => ∃ g8 g9, s8 = .pointer (some ⟨g8, 0, none⟩) ∧ s9 = .pointer (some ⟨g9, 0, none⟩) ∧ Sep w wx [cell g3 23 a.arr, cell g4 23 b.arr, cell g5 23 c.arr, cell g7 23 (orR a b).arr, cell g8 23 (orR (orR a b) c).arr, cell g9 23 (orR a (orR b c)).arr])
    case first =>
      refine wp_region_held_drew (S := fun w' => Sep w w' [cell g3 23 a.arr, cell g4 23 b.arr, cell g5 23 c.arr, cell g7 23 (orR a b).arr]) (by kernel_rfl) hX.drew (fun hHeld => ?_)
      replace hX := hHeld
      clear hHeld
      generalize wc.drew = v0 at hX ⊢
      refine wpAnyH_take (i := 0) (oi := { dst := some 32, op := Op.load 23 (Operand.tmp 7), type := 23, pos := "outright.go:45", after := #[], guard := none }) rfl (by kernel_rfl) (by kernel_rfl) (by kernel_rfl) (fun _ _ _ h => h) (load_rc (t := 7) (r := orR a b) rfl rfl rfl (fun _ h => h.blk 3 rfl)) (hX.take 4) ?_
      try simp only [Act.put, List.setIfInBounds_toArray, List.set_cons_zero, List.set_cons_succ]
      refine wpAnyH_take (i := 1) (oi := { dst := some 33, op := Op.load 23 (Operand.tmp 5), type := 23, pos := "outright.go:45", after := #[], guard := none }) rfl (by kernel_rfl) (by kernel_rfl) (by kernel_rfl) (fun _ _ _ h => h) (load_rc (t := 5) (r := c) rfl rfl rfl (fun _ h => h.blk 2 rfl)) (hX.take 4) ?_
      try simp only [Act.put, List.setIfInBounds_toArray, List.set_cons_zero, List.set_cons_succ]
      refine wpAnyH_take (i := 3) (oi := { dst := some 35, op := Op.load 23 (Operand.tmp 3), type := 23, pos := "outright.go:45", after := #[], guard := none }) rfl (by kernel_rfl) (by kernel_rfl) (by kernel_rfl) (fun _ _ _ h => h) (load_rc (t := 3) (r := a) rfl rfl rfl (fun _ h => h.blk 0 rfl)) (hX.take 4) ?_
      try simp only [Act.put, List.setIfInBounds_toArray, List.set_cons_zero, List.set_cons_succ]
      refine wpAnyH_take (i := 4) (oi := { dst := some 36, op := Op.load 23 (Operand.tmp 4), type := 23, pos := "outright.go:45", after := #[], guard := none }) rfl (by kernel_rfl) (by kernel_rfl) (by kernel_rfl) (fun _ _ _ h => h) (load_rc (t := 4) (r := b) rfl rfl rfl (fun _ h => h.blk 1 rfl)) (hX.take 4) ?_
      try simp only [Act.put, List.setIfInBounds_toArray, List.set_cons_zero, List.set_cons_succ]
      refine wpAnyH_take (i := 5) (oi := { dst := some 37, op := Op.load 23 (Operand.tmp 5), type := 23, pos := "outright.go:45", after := #[], guard := none }) rfl (by kernel_rfl) (by kernel_rfl) (by kernel_rfl) (fun _ _ _ h => h) (load_rc (t := 5) (r := c) rfl rfl rfl (fun _ h => h.blk 2 rfl)) (hX.take 4) ?_
      try simp only [Act.put, List.setIfInBounds_toArray, List.set_cons_zero, List.set_cons_succ]
      refine wpAnyH_ready (rs := [2, 8, 9]) (by kernel_rfl) (by simp) ?_
      refine AllReadyH.cons (o := { dst := some 34, op := Op.call { callee := Callee.value (Operand.func 23), args := #[Operand.tmp 32, Operand.tmp 33], argTypes := #[23, 23] }, type := 23, pos := "outright.go:45", after := #[{ on := 0, ground := Ground.data }, { on := 1, ground := Ground.data }], guard := none }) rfl ?_ (AllReadyH.cons (o := { dst := some 8, op := Op.alloc 23, type := 0, pos := "outright.go:45", after := #[], guard := none }) rfl ?_ (AllReadyH.cons (o := { dst := some 9, op := Op.alloc 23, type := 0, pos := "outright.go:45", after := #[], guard := none }) rfl ?_ (AllReadyH.nil)))
      · intro K hK
        go_simp
        go_at_call 23
        refine (or_any (orR a b) c _).mono ?_
        rintro e v1 ⟨rfl, hb1⟩
        replace hX := hX.grow hb1
        clear hb1
        refine hK.out _ _ (hX.take 4) (fun _ => ?_)
        clear hK K
        try simp only [Act.put, List.setIfInBounds_toArray, List.set_cons_zero, List.set_cons_succ]
        refine wpAnyH_ready (rs := [6, 8, 9]) (by kernel_rfl) (by simp) ?_
        refine AllReadyH.cons (o := { dst := some 38, op := Op.call { callee := Callee.value (Operand.func 23), args := #[Operand.tmp 36, Operand.tmp 37], argTypes := #[23, 23] }, type := 23, pos := "outright.go:45", after := #[{ on := 4, ground := Ground.data }, { on := 5, ground := Ground.data }, { on := 2, ground := Ground.chain }], guard := none }) rfl ?_ (AllReadyH.cons (o := { dst := some 8, op := Op.alloc 23, type := 0, pos := "outright.go:45", after := #[], guard := none }) rfl ?_ (AllReadyH.cons (o := { dst := some 9, op := Op.alloc 23, type := 0, pos := "outright.go:45", after := #[], guard := none }) rfl ?_ (AllReadyH.nil)))
        · intro K hK
          go_simp
          go_at_call 23
          refine (or_any b c _).mono ?_
          rintro e v2 ⟨rfl, hb1⟩
          replace hX := hX.grow hb1
          clear hb1
          refine hK.out _ _ (hX.take 4) (fun _ => ?_)
          clear hK K
          try simp only [Act.put, List.setIfInBounds_toArray, List.set_cons_zero, List.set_cons_succ]
          refine wpAnyH_ready (rs := [7, 8, 9]) (by kernel_rfl) (by simp) ?_
          refine AllReadyH.cons (o := { dst := some 39, op := Op.call { callee := Callee.value (Operand.func 23), args := #[Operand.tmp 35, Operand.tmp 38], argTypes := #[23, 23] }, type := 23, pos := "outright.go:45", after := #[{ on := 3, ground := Ground.data }, { on := 6, ground := Ground.data }, { on := 6, ground := Ground.chain }], guard := none }) rfl ?_ (AllReadyH.cons (o := { dst := some 8, op := Op.alloc 23, type := 0, pos := "outright.go:45", after := #[], guard := none }) rfl ?_ (AllReadyH.cons (o := { dst := some 9, op := Op.alloc 23, type := 0, pos := "outright.go:45", after := #[], guard := none }) rfl ?_ (AllReadyH.nil)))
          · intro K hK
            go_simp
            go_at_call 23
            refine (or_any a (orR b c) _).mono ?_
            rintro e v3 ⟨rfl, hb1⟩
            replace hX := hX.grow hb1
            clear hb1
            refine hK.out _ _ (hX.take 4) (fun _ => ?_)
            clear hK K
            try simp only [Act.put, List.setIfInBounds_toArray, List.set_cons_zero, List.set_cons_succ]
            refine wpAnyH_ready (rs := [8, 9]) (by kernel_rfl) (by simp) ?_
            refine AllReadyH.cons (o := { dst := some 8, op := Op.alloc 23, type := 0, pos := "outright.go:45", after := #[], guard := none }) rfl ?_ (AllReadyH.cons (o := { dst := some 9, op := Op.alloc 23, type := 0, pos := "outright.go:45", after := #[], guard := none }) rfl ?_ (AllReadyH.nil))
            · intro K hK
              go_simp
              obtain ⟨v4, hW, hX⟩ := hX.boxed 23 #[.int .i64 0, .int .i64 0, .int .i64 0, .int .i64 0]
              rw [hW]
              clear hW
              generalize v3.heap.size = g8 at hX ⊢
              refine hK.out _ _ (hX.take 4) (fun _ => ?_)
              clear hK K
              try simp only [Act.put, List.setIfInBounds_toArray, List.set_cons_zero, List.set_cons_succ]
              refine wpAnyH_ready (rs := [9]) (by kernel_rfl) (by simp) ?_
              refine AllReadyH.cons (o := { dst := some 9, op := Op.alloc 23, type := 0, pos := "outright.go:45", after := #[], guard := none }) rfl ?_ (AllReadyH.nil)
              · intro K hK
                go_simp
                obtain ⟨v5, hW, hX⟩ := hX.boxed 23 #[.int .i64 0, .int .i64 0, .int .i64 0, .int .i64 0]
                rw [hW]
                clear hW
                generalize v4.heap.size = g9 at hX ⊢
                refine hK.out _ _ (hX.take 4) (fun _ => ?_)
                clear hK K
                try simp only [Act.put, List.setIfInBounds_toArray, List.set_cons_zero, List.set_cons_succ]
                refine wpAnyH_ready (rs := [10]) (by kernel_rfl) (by simp) ?_
                refine AllReadyH.cons (o := { dst := none, op := Op.store 23 (Operand.tmp 8) (Operand.tmp 34), type := 0, pos := "outright.go:45", after := #[{ on := 8, ground := Ground.data }, { on := 2, ground := Ground.data }, { on := 7, ground := Ground.chain }, { on := 0, ground := Ground.phase }, { on := 1, ground := Ground.phase }, { on := 2, ground := Ground.phase }, { on := 3, ground := Ground.textOnly Departure.lateStores }, { on := 4, ground := Ground.textOnly Departure.lateStores }, { on := 5, ground := Ground.textOnly Departure.lateStores }, { on := 6, ground := Ground.textOnly Departure.lateStoresUnsure }, { on := 7, ground := Ground.textOnly Departure.lateStoresUnsure }, { on := 8, ground := Ground.phase }, { on := 9, ground := Ground.phase }], guard := none }) rfl ?_ (AllReadyH.nil)
                · intro K hK
                  rw [if_pos (by rfl)]
                  refine wp_store_row 23 (.tmp 8) (.tmp 34) rfl g8 (orR (orR a b) c).arr (by rfl) (by rfl) 23 _ (hX.blk 4 rfl) size23 rfl (arr_one _) ?_
                  replace hX := hX.setRow 4 rfl (orR (orR a b) c).arr
                  generalize v5.setRow g8 (orR (orR a b) c).arr = v6 at hX ⊢
                  refine hK.out _ _ (hX.take 4) (fun _ => ?_)
                  clear hK K
                  try simp only [Act.put]
                  refine wpAnyH_ready (rs := [11]) (by kernel_rfl) (by simp) ?_
                  refine AllReadyH.cons (o := { dst := none, op := Op.store 23 (Operand.tmp 9) (Operand.tmp 39), type := 0, pos := "outright.go:45", after := #[{ on := 9, ground := Ground.data }, { on := 7, ground := Ground.data }, { on := 10, ground := Ground.chain }, { on := 0, ground := Ground.phase }, { on := 1, ground := Ground.phase }, { on := 2, ground := Ground.phase }, { on := 3, ground := Ground.phase }, { on := 4, ground := Ground.phase }, { on := 5, ground := Ground.phase }, { on := 6, ground := Ground.phase }, { on := 7, ground := Ground.phase }, { on := 8, ground := Ground.phase }, { on := 9, ground := Ground.phase }, { on := 10, ground := Ground.phase }], guard := none }) rfl ?_ (AllReadyH.nil)
                  · intro K hK
                    rw [if_pos (by rfl)]
                    refine wp_store_row 23 (.tmp 9) (.tmp 39) rfl g9 (orR a (orR b c)).arr (by rfl) (by rfl) 23 _ (hX.blk 5 rfl) size23 rfl (arr_one _) ?_
                    replace hX := hX.setRow 5 rfl (orR a (orR b c)).arr
                    generalize v6.setRow g9 (orR a (orR b c)).arr = v7 at hX ⊢
                    refine hK.out _ _ (hX.take 4) (fun _ => ?_)
                    clear hK K
                    try simp only [Act.put]
                    refine wpAnyH_done (by kernel_rfl) ?_ _
                    go_wp2_with fail
                    go_meet
                    exact ⟨g8, g9, rfl, rfl, hX⟩
            · intro K hK
              go_simp
              obtain ⟨v4, hW, hX⟩ := hX.boxed 23 #[.int .i64 0, .int .i64 0, .int .i64 0, .int .i64 0]
              rw [hW]
              clear hW
              generalize v3.heap.size = g9 at hX ⊢
              refine hK.out _ _ (hX.take 4) (fun _ => ?_)
              clear hK K
              try simp only [Act.put, List.setIfInBounds_toArray, List.set_cons_zero, List.set_cons_succ]
              refine wpAnyH_ready (rs := [8]) (by kernel_rfl) (by simp) ?_
              refine AllReadyH.cons (o := { dst := some 8, op := Op.alloc 23, type := 0, pos := "outright.go:45", after := #[], guard := none }) rfl ?_ (AllReadyH.nil)
              · intro K hK
                go_simp
                obtain ⟨v5, hW, hX⟩ := hX.boxed 23 #[.int .i64 0, .int .i64 0, .int .i64 0, .int .i64 0]
                rw [hW]
                clear hW
                generalize v4.heap.size = g8 at hX ⊢
                refine hK.out _ _ (hX.take 4) (fun _ => ?_)
                clear hK K
                try simp only [Act.put, List.setIfInBounds_toArray, List.set_cons_zero, List.set_cons_succ]
                refine wpAnyH_ready (rs := [10]) (by kernel_rfl) (by simp) ?_
                refine AllReadyH.cons (o := { dst := none, op := Op.store 23 (Operand.tmp 8) (Operand.tmp 34), type := 0, pos := "outright.go:45", after := #[{ on := 8, ground := Ground.data }, { on := 2, ground := Ground.data }, { on := 7, ground := Ground.chain }, { on := 0, ground := Ground.phase }, { on := 1, ground := Ground.phase }, { on := 2, ground := Ground.phase }, { on := 3, ground := Ground.textOnly Departure.lateStores }, { on := 4, ground := Ground.textOnly Departure.lateStores }, { on := 5, ground := Ground.textOnly Departure.lateStores }, { on := 6, ground := Ground.textOnly Departure.lateStoresUnsure }, { on := 7, ground := Ground.textOnly Departure.lateStoresUnsure }, { on := 8, ground := Ground.phase }, { on := 9, ground := Ground.phase }], guard := none }) rfl ?_ (AllReadyH.nil)
                · intro K hK
                  rw [if_pos (by rfl)]
                  refine wp_store_row 23 (.tmp 8) (.tmp 34) rfl g8 (orR (orR a b) c).arr (by rfl) (by rfl) 23 _ (hX.blk 5 rfl) size23 rfl (arr_one _) ?_
                  replace hX := hX.setRow 5 rfl (orR (orR a b) c).arr
                  generalize v5.setRow g8 (orR (orR a b) c).arr = v6 at hX ⊢
                  refine hK.out _ _ (hX.take 4) (fun _ => ?_)
                  clear hK K
                  try simp only [Act.put]
                  refine wpAnyH_ready (rs := [11]) (by kernel_rfl) (by simp) ?_
                  refine AllReadyH.cons (o := { dst := none, op := Op.store 23 (Operand.tmp 9) (Operand.tmp 39), type := 0, pos := "outright.go:45", after := #[{ on := 9, ground := Ground.data }, { on := 7, ground := Ground.data }, { on := 10, ground := Ground.chain }, { on := 0, ground := Ground.phase }, { on := 1, ground := Ground.phase }, { on := 2, ground := Ground.phase }, { on := 3, ground := Ground.phase }, { on := 4, ground := Ground.phase }, { on := 5, ground := Ground.phase }, { on := 6, ground := Ground.phase }, { on := 7, ground := Ground.phase }, { on := 8, ground := Ground.phase }, { on := 9, ground := Ground.phase }, { on := 10, ground := Ground.phase }], guard := none }) rfl ?_ (AllReadyH.nil)
                  · intro K hK
                    rw [if_pos (by rfl)]
                    refine wp_store_row 23 (.tmp 9) (.tmp 39) rfl g9 (orR a (orR b c)).arr (by rfl) (by rfl) 23 _ (hX.blk 4 rfl) size23 rfl (arr_one _) ?_
                    replace hX := hX.setRow 4 rfl (orR a (orR b c)).arr
                    generalize v6.setRow g9 (orR a (orR b c)).arr = v7 at hX ⊢
                    refine hK.out _ _ (hX.take 4) (fun _ => ?_)
                    clear hK K
                    try simp only [Act.put]
                    refine wpAnyH_done (by kernel_rfl) ?_ _
                    go_wp2_with fail
                    go_meet
                    exact ⟨g8, g9, rfl, rfl, hX.perm (.cons _ (.cons _ (.cons _ (.cons _ (.swap _ _ _)))))⟩
          · intro K hK
            go_simp
            obtain ⟨v3, hW, hX⟩ := hX.boxed 23 #[.int .i64 0, .int .i64 0, .int .i64 0, .int .i64 0]
            rw [hW]
            clear hW
            generalize v2.heap.size = g8 at hX ⊢
            refine hK.out _ _ (hX.take 4) (fun _ => ?_)
            clear hK K
            try simp only [Act.put, List.setIfInBounds_toArray, List.set_cons_zero, List.set_cons_succ]
            refine wpAnyH_ready (rs := [7, 9]) (by kernel_rfl) (by simp) ?_
            refine AllReadyH.cons (o := { dst := some 39, op := Op.call { callee := Callee.value (Operand.func 23), args := #[Operand.tmp 35, Operand.tmp 38], argTypes := #[23, 23] }, type := 23, pos := "outright.go:45", after := #[{ on := 3, ground := Ground.data }, { on := 6, ground := Ground.data }, { on := 6, ground := Ground.chain }], guard := none }) rfl ?_ (AllReadyH.cons (o := { dst := some 9, op := Op.alloc 23, type := 0, pos := "outright.go:45", after := #[], guard := none }) rfl ?_ (AllReadyH.nil))
            · intro K hK
              go_simp
              go_at_call 23
              refine (or_any a (orR b c) _).mono ?_
              rintro e v4 ⟨rfl, hb1⟩
              replace hX := hX.grow hb1
              clear hb1
              refine hK.out _ _ (hX.take 4) (fun _ => ?_)
              clear hK K
              try simp only [Act.put, List.setIfInBounds_toArray, List.set_cons_zero, List.set_cons_succ]
              refine wpAnyH_ready (rs := [9]) (by kernel_rfl) (by simp) ?_
              refine AllReadyH.cons (o := { dst := some 9, op := Op.alloc 23, type := 0, pos := "outright.go:45", after := #[], guard := none }) rfl ?_ (AllReadyH.nil)
              · intro K hK
                go_simp
                obtain ⟨v5, hW, hX⟩ := hX.boxed 23 #[.int .i64 0, .int .i64 0, .int .i64 0, .int .i64 0]
                rw [hW]
                clear hW
                generalize v4.heap.size = g9 at hX ⊢
                refine hK.out _ _ (hX.take 4) (fun _ => ?_)
                clear hK K
                try simp only [Act.put, List.setIfInBounds_toArray, List.set_cons_zero, List.set_cons_succ]
                refine wpAnyH_ready (rs := [10]) (by kernel_rfl) (by simp) ?_
                refine AllReadyH.cons (o := { dst := none, op := Op.store 23 (Operand.tmp 8) (Operand.tmp 34), type := 0, pos := "outright.go:45", after := #[{ on := 8, ground := Ground.data }, { on := 2, ground := Ground.data }, { on := 7, ground := Ground.chain }, { on := 0, ground := Ground.phase }, { on := 1, ground := Ground.phase }, { on := 2, ground := Ground.phase }, { on := 3, ground := Ground.textOnly Departure.lateStores }, { on := 4, ground := Ground.textOnly Departure.lateStores }, { on := 5, ground := Ground.textOnly Departure.lateStores }, { on := 6, ground := Ground.textOnly Departure.lateStoresUnsure }, { on := 7, ground := Ground.textOnly Departure.lateStoresUnsure }, { on := 8, ground := Ground.phase }, { on := 9, ground := Ground.phase }], guard := none }) rfl ?_ (AllReadyH.nil)
                · intro K hK
                  rw [if_pos (by rfl)]
                  refine wp_store_row 23 (.tmp 8) (.tmp 34) rfl g8 (orR (orR a b) c).arr (by rfl) (by rfl) 23 _ (hX.blk 4 rfl) size23 rfl (arr_one _) ?_
                  replace hX := hX.setRow 4 rfl (orR (orR a b) c).arr
                  generalize v5.setRow g8 (orR (orR a b) c).arr = v6 at hX ⊢
                  refine hK.out _ _ (hX.take 4) (fun _ => ?_)
                  clear hK K
                  try simp only [Act.put]
                  refine wpAnyH_ready (rs := [11]) (by kernel_rfl) (by simp) ?_
                  refine AllReadyH.cons (o := { dst := none, op := Op.store 23 (Operand.tmp 9) (Operand.tmp 39), type := 0, pos := "outright.go:45", after := #[{ on := 9, ground := Ground.data }, { on := 7, ground := Ground.data }, { on := 10, ground := Ground.chain }, { on := 0, ground := Ground.phase }, { on := 1, ground := Ground.phase }, { on := 2, ground := Ground.phase }, { on := 3, ground := Ground.phase }, { on := 4, ground := Ground.phase }, { on := 5, ground := Ground.phase }, { on := 6, ground := Ground.phase }, { on := 7, ground := Ground.phase }, { on := 8, ground := Ground.phase }, { on := 9, ground := Ground.phase }, { on := 10, ground := Ground.phase }], guard := none }) rfl ?_ (AllReadyH.nil)
                  · intro K hK
                    rw [if_pos (by rfl)]
                    refine wp_store_row 23 (.tmp 9) (.tmp 39) rfl g9 (orR a (orR b c)).arr (by rfl) (by rfl) 23 _ (hX.blk 5 rfl) size23 rfl (arr_one _) ?_
                    replace hX := hX.setRow 5 rfl (orR a (orR b c)).arr
                    generalize v6.setRow g9 (orR a (orR b c)).arr = v7 at hX ⊢
                    refine hK.out _ _ (hX.take 4) (fun _ => ?_)
                    clear hK K
                    try simp only [Act.put]
                    refine wpAnyH_done (by kernel_rfl) ?_ _
                    go_wp2_with fail
                    go_meet
                    exact ⟨g8, g9, rfl, rfl, hX⟩
            · intro K hK
              go_simp
              obtain ⟨v4, hW, hX⟩ := hX.boxed 23 #[.int .i64 0, .int .i64 0, .int .i64 0, .int .i64 0]
              rw [hW]
              clear hW
              generalize v3.heap.size = g9 at hX ⊢
              refine hK.out _ _ (hX.take 4) (fun _ => ?_)
              clear hK K
              try simp only [Act.put, List.setIfInBounds_toArray, List.set_cons_zero, List.set_cons_succ]
              refine wpAnyH_ready (rs := [7]) (by kernel_rfl) (by simp) ?_
              refine AllReadyH.cons (o := { dst := some 39, op := Op.call { callee := Callee.value (Operand.func 23), args := #[Operand.tmp 35, Operand.tmp 38], argTypes := #[23, 23] }, type := 23, pos := "outright.go:45", after := #[{ on := 3, ground := Ground.data }, { on := 6, ground := Ground.data }, { on := 6, ground := Ground.chain }], guard := none }) rfl ?_ (AllReadyH.nil)
              · intro K hK
                go_simp
                go_at_call 23
                refine (or_any a (orR b c) _).mono ?_
                rintro e v5 ⟨rfl, hb1⟩
                replace hX := hX.grow hb1
                clear hb1
                refine hK.out _ _ (hX.take 4) (fun _ => ?_)
                clear hK K
                try simp only [Act.put, List.setIfInBounds_toArray, List.set_cons_zero, List.set_cons_succ]
                refine wpAnyH_ready (rs := [10]) (by kernel_rfl) (by simp) ?_
                refine AllReadyH.cons (o := { dst := none, op := Op.store 23 (Operand.tmp 8) (Operand.tmp 34), type := 0, pos := "outright.go:45", after := #[{ on := 8, ground := Ground.data }, { on := 2, ground := Ground.data }, { on := 7, ground := Ground.chain }, { on := 0, ground := Ground.phase }, { on := 1, ground := Ground.phase }, { on := 2, ground := Ground.phase }, { on := 3, ground := Ground.textOnly Departure.lateStores }, { on := 4, ground := Ground.textOnly Departure.lateStores }, { on := 5, ground := Ground.textOnly Departure.lateStores }, { on := 6, ground := Ground.textOnly Departure.lateStoresUnsure }, { on := 7, ground := Ground.textOnly Departure.lateStoresUnsure }, { on := 8, ground := Ground.phase }, { on := 9, ground := Ground.phase }], guard := none }) rfl ?_ (AllReadyH.nil)
                · intro K hK
                  rw [if_pos (by rfl)]
                  refine wp_store_row 23 (.tmp 8) (.tmp 34) rfl g8 (orR (orR a b) c).arr (by rfl) (by rfl) 23 _ (hX.blk 4 rfl) size23 rfl (arr_one _) ?_
                  replace hX := hX.setRow 4 rfl (orR (orR a b) c).arr
                  generalize v5.setRow g8 (orR (orR a b) c).arr = v6 at hX ⊢
                  refine hK.out _ _ (hX.take 4) (fun _ => ?_)
                  clear hK K
                  try simp only [Act.put]
                  refine wpAnyH_ready (rs := [11]) (by kernel_rfl) (by simp) ?_
                  refine AllReadyH.cons (o := { dst := none, op := Op.store 23 (Operand.tmp 9) (Operand.tmp 39), type := 0, pos := "outright.go:45", after := #[{ on := 9, ground := Ground.data }, { on := 7, ground := Ground.data }, { on := 10, ground := Ground.chain }, { on := 0, ground := Ground.phase }, { on := 1, ground := Ground.phase }, { on := 2, ground := Ground.phase }, { on := 3, ground := Ground.phase }, { on := 4, ground := Ground.phase }, { on := 5, ground := Ground.phase }, { on := 6, ground := Ground.phase }, { on := 7, ground := Ground.phase }, { on := 8, ground := Ground.phase }, { on := 9, ground := Ground.phase }, { on := 10, ground := Ground.phase }], guard := none }) rfl ?_ (AllReadyH.nil)
                  · intro K hK
                    rw [if_pos (by rfl)]
                    refine wp_store_row 23 (.tmp 9) (.tmp 39) rfl g9 (orR a (orR b c)).arr (by rfl) (by rfl) 23 _ (hX.blk 5 rfl) size23 rfl (arr_one _) ?_
                    replace hX := hX.setRow 5 rfl (orR a (orR b c)).arr
                    generalize v6.setRow g9 (orR a (orR b c)).arr = v7 at hX ⊢
                    refine hK.out _ _ (hX.take 4) (fun _ => ?_)
                    clear hK K
                    try simp only [Act.put]
                    refine wpAnyH_done (by kernel_rfl) ?_ _
                    go_wp2_with fail
                    go_meet
                    exact ⟨g8, g9, rfl, rfl, hX⟩
          · intro K hK
            go_simp
            obtain ⟨v3, hW, hX⟩ := hX.boxed 23 #[.int .i64 0, .int .i64 0, .int .i64 0, .int .i64 0]
            rw [hW]
            clear hW
            generalize v2.heap.size = g9 at hX ⊢
            refine hK.out _ _ (hX.take 4) (fun _ => ?_)
            clear hK K
            try simp only [Act.put, List.setIfInBounds_toArray, List.set_cons_zero, List.set_cons_succ]
            refine wpAnyH_ready (rs := [7, 8]) (by kernel_rfl) (by simp) ?_
            refine AllReadyH.cons (o := { dst := some 39, op := Op.call { callee := Callee.value (Operand.func 23), args := #[Operand.tmp 35, Operand.tmp 38], argTypes := #[23, 23] }, type := 23, pos := "outright.go:45", after := #[{ on := 3, ground := Ground.data }, { on := 6, ground := Ground.data }, { on := 6, ground := Ground.chain }], guard := none }) rfl ?_ (AllReadyH.cons (o := { dst := some 8, op := Op.alloc 23, type := 0, pos := "outright.go:45", after := #[], guard := none }) rfl ?_ (AllReadyH.nil))
            · intro K hK
              go_simp
              go_at_call 23
              refine (or_any a (orR b c) _).mono ?_
              rintro e v4 ⟨rfl, hb1⟩
              replace hX := hX.grow hb1
              clear hb1
              refine hK.out _ _ (hX.take 4) (fun _ => ?_)
              clear hK K
              try simp only [Act.put, List.setIfInBounds_toArray, List.set_cons_zero, List.set_cons_succ]
              refine wpAnyH_ready (rs := [8]) (by kernel_rfl) (by simp) ?_
              refine AllReadyH.cons (o := { dst := some 8, op := Op.alloc 23, type := 0, pos := "outright.go:45", after := #[], guard := none }) rfl ?_ (AllReadyH.nil)
              · intro K hK
                go_simp
                obtain ⟨v5, hW, hX⟩ := hX.boxed 23 #[.int .i64 0, .int .i64 0, .int .i64 0, .int .i64 0]
                rw [hW]
                clear hW
                generalize v4.heap.size = g8 at hX ⊢
                refine hK.out _ _ (hX.take 4) (fun _ => ?_)
                clear hK K
                try simp only [Act.put, List.setIfInBounds_toArray, List.set_cons_zero, List.set_cons_succ]
                refine wpAnyH_ready (rs := [10]) (by kernel_rfl) (by simp) ?_
                refine AllReadyH.cons (o := { dst := none, op := Op.store 23 (Operand.tmp 8) (Operand.tmp 34), type := 0, pos := "outright.go:45", after := #[{ on := 8, ground := Ground.data }, { on := 2, ground := Ground.data }, { on := 7, ground := Ground.chain }, { on := 0, ground := Ground.phase }, { on := 1, ground := Ground.phase }, { on := 2, ground := Ground.phase }, { on := 3, ground := Ground.textOnly Departure.lateStores }, { on := 4, ground := Ground.textOnly Departure.lateStores }, { on := 5, ground := Ground.textOnly Departure.lateStores }, { on := 6, ground := Ground.textOnly Departure.lateStoresUnsure }, { on := 7, ground := Ground.textOnly Departure.lateStoresUnsure }, { on := 8, ground := Ground.phase }, { on := 9, ground := Ground.phase }], guard := none }) rfl ?_ (AllReadyH.nil)
                · intro K hK
                  rw [if_pos (by rfl)]
                  refine wp_store_row 23 (.tmp 8) (.tmp 34) rfl g8 (orR (orR a b) c).arr (by rfl) (by rfl) 23 _ (hX.blk 5 rfl) size23 rfl (arr_one _) ?_
                  replace hX := hX.setRow 5 rfl (orR (orR a b) c).arr
                  generalize v5.setRow g8 (orR (orR a b) c).arr = v6 at hX ⊢
                  refine hK.out _ _ (hX.take 4) (fun _ => ?_)
                  clear hK K
                  try simp only [Act.put]
                  refine wpAnyH_ready (rs := [11]) (by kernel_rfl) (by simp) ?_
                  refine AllReadyH.cons (o := { dst := none, op := Op.store 23 (Operand.tmp 9) (Operand.tmp 39), type := 0, pos := "outright.go:45", after := #[{ on := 9, ground := Ground.data }, { on := 7, ground := Ground.data }, { on := 10, ground := Ground.chain }, { on := 0, ground := Ground.phase }, { on := 1, ground := Ground.phase }, { on := 2, ground := Ground.phase }, { on := 3, ground := Ground.phase }, { on := 4, ground := Ground.phase }, { on := 5, ground := Ground.phase }, { on := 6, ground := Ground.phase }, { on := 7, ground := Ground.phase }, { on := 8, ground := Ground.phase }, { on := 9, ground := Ground.phase }, { on := 10, ground := Ground.phase }], guard := none }) rfl ?_ (AllReadyH.nil)
                  · intro K hK
                    rw [if_pos (by rfl)]
                    refine wp_store_row 23 (.tmp 9) (.tmp 39) rfl g9 (orR a (orR b c)).arr (by rfl) (by rfl) 23 _ (hX.blk 4 rfl) size23 rfl (arr_one _) ?_
                    replace hX := hX.setRow 4 rfl (orR a (orR b c)).arr
                    generalize v6.setRow g9 (orR a (orR b c)).arr = v7 at hX ⊢
                    refine hK.out _ _ (hX.take 4) (fun _ => ?_)
                    clear hK K
                    try simp only [Act.put]
                    refine wpAnyH_done (by kernel_rfl) ?_ _
                    go_wp2_with fail
                    go_meet
                    exact ⟨g8, g9, rfl, rfl, hX.perm (.cons _ (.cons _ (.cons _ (.cons _ (.swap _ _ _)))))⟩
            · intro K hK
              go_simp
              obtain ⟨v4, hW, hX⟩ := hX.boxed 23 #[.int .i64 0, .int .i64 0, .int .i64 0, .int .i64 0]
              rw [hW]
              clear hW
              generalize v3.heap.size = g8 at hX ⊢
              refine hK.out _ _ (hX.take 4) (fun _ => ?_)
              clear hK K
              try simp only [Act.put, List.setIfInBounds_toArray, List.set_cons_zero, List.set_cons_succ]
              refine wpAnyH_ready (rs := [7]) (by kernel_rfl) (by simp) ?_
              refine AllReadyH.cons (o := { dst := some 39, op := Op.call { callee := Callee.value (Operand.func 23), args := #[Operand.tmp 35, Operand.tmp 38], argTypes := #[23, 23] }, type := 23, pos := "outright.go:45", after := #[{ on := 3, ground := Ground.data }, { on := 6, ground := Ground.data }, { on := 6, ground := Ground.chain }], guard := none }) rfl ?_ (AllReadyH.nil)
              · intro K hK
                go_simp
                go_at_call 23
                refine (or_any a (orR b c) _).mono ?_
                rintro e v5 ⟨rfl, hb1⟩
                replace hX := hX.grow hb1
                clear hb1
                refine hK.out _ _ (hX.take 4) (fun _ => ?_)
                clear hK K
                try simp only [Act.put, List.setIfInBounds_toArray, List.set_cons_zero, List.set_cons_succ]
                refine wpAnyH_ready (rs := [10]) (by kernel_rfl) (by simp) ?_
                refine AllReadyH.cons (o := { dst := none, op := Op.store 23 (Operand.tmp 8) (Operand.tmp 34), type := 0, pos := "outright.go:45", after := #[{ on := 8, ground := Ground.data }, { on := 2, ground := Ground.data }, { on := 7, ground := Ground.chain }, { on := 0, ground := Ground.phase }, { on := 1, ground := Ground.phase }, { on := 2, ground := Ground.phase }, { on := 3, ground := Ground.textOnly Departure.lateStores }, { on := 4, ground := Ground.textOnly Departure.lateStores }, { on := 5, ground := Ground.textOnly Departure.lateStores }, { on := 6, ground := Ground.textOnly Departure.lateStoresUnsure }, { on := 7, ground := Ground.textOnly Departure.lateStoresUnsure }, { on := 8, ground := Ground.phase }, { on := 9, ground := Ground.phase }], guard := none }) rfl ?_ (AllReadyH.nil)
                · intro K hK
                  rw [if_pos (by rfl)]
                  refine wp_store_row 23 (.tmp 8) (.tmp 34) rfl g8 (orR (orR a b) c).arr (by rfl) (by rfl) 23 _ (hX.blk 5 rfl) size23 rfl (arr_one _) ?_
                  replace hX := hX.setRow 5 rfl (orR (orR a b) c).arr
                  generalize v5.setRow g8 (orR (orR a b) c).arr = v6 at hX ⊢
                  refine hK.out _ _ (hX.take 4) (fun _ => ?_)
                  clear hK K
                  try simp only [Act.put]
                  refine wpAnyH_ready (rs := [11]) (by kernel_rfl) (by simp) ?_
                  refine AllReadyH.cons (o := { dst := none, op := Op.store 23 (Operand.tmp 9) (Operand.tmp 39), type := 0, pos := "outright.go:45", after := #[{ on := 9, ground := Ground.data }, { on := 7, ground := Ground.data }, { on := 10, ground := Ground.chain }, { on := 0, ground := Ground.phase }, { on := 1, ground := Ground.phase }, { on := 2, ground := Ground.phase }, { on := 3, ground := Ground.phase }, { on := 4, ground := Ground.phase }, { on := 5, ground := Ground.phase }, { on := 6, ground := Ground.phase }, { on := 7, ground := Ground.phase }, { on := 8, ground := Ground.phase }, { on := 9, ground := Ground.phase }, { on := 10, ground := Ground.phase }], guard := none }) rfl ?_ (AllReadyH.nil)
                  · intro K hK
                    rw [if_pos (by rfl)]
                    refine wp_store_row 23 (.tmp 9) (.tmp 39) rfl g9 (orR a (orR b c)).arr (by rfl) (by rfl) 23 _ (hX.blk 4 rfl) size23 rfl (arr_one _) ?_
                    replace hX := hX.setRow 4 rfl (orR a (orR b c)).arr
                    generalize v6.setRow g9 (orR a (orR b c)).arr = v7 at hX ⊢
                    refine hK.out _ _ (hX.take 4) (fun _ => ?_)
                    clear hK K
                    try simp only [Act.put]
                    refine wpAnyH_done (by kernel_rfl) ?_ _
                    go_wp2_with fail
                    go_meet
                    exact ⟨g8, g9, rfl, rfl, hX.perm (.cons _ (.cons _ (.cons _ (.cons _ (.swap _ _ _)))))⟩
        · intro K hK
          go_simp
          obtain ⟨v2, hW, hX⟩ := hX.boxed 23 #[.int .i64 0, .int .i64 0, .int .i64 0, .int .i64 0]
          rw [hW]
          clear hW
          generalize v1.heap.size = g8 at hX ⊢
          refine hK.out _ _ (hX.take 4) (fun _ => ?_)
          clear hK K
          try simp only [Act.put, List.setIfInBounds_toArray, List.set_cons_zero, List.set_cons_succ]
          refine wpAnyH_ready (rs := [6, 9]) (by kernel_rfl) (by simp) ?_
          refine AllReadyH.cons (o := { dst := some 38, op := Op.call { callee := Callee.value (Operand.func 23), args := #[Operand.tmp 36, Operand.tmp 37], argTypes := #[23, 23] }, type := 23, pos := "outright.go:45", after := #[{ on := 4, ground := Ground.data }, { on := 5, ground := Ground.data }, { on := 2, ground := Ground.chain }], guard := none }) rfl ?_ (AllReadyH.cons (o := { dst := some 9, op := Op.alloc 23, type := 0, pos := "outright.go:45", after := #[], guard := none }) rfl ?_ (AllReadyH.nil))
          · intro K hK
            go_simp
            go_at_call 23
            refine (or_any b c _).mono ?_
            rintro e v3 ⟨rfl, hb1⟩
            replace hX := hX.grow hb1
            clear hb1
            refine hK.out _ _ (hX.take 4) (fun _ => ?_)
            clear hK K
            try simp only [Act.put, List.setIfInBounds_toArray, List.set_cons_zero, List.set_cons_succ]
            refine wpAnyH_ready (rs := [7, 9]) (by kernel_rfl) (by simp) ?_
            refine AllReadyH.cons (o := { dst := some 39, op := Op.call { callee := Callee.value (Operand.func 23), args := #[Operand.tmp 35, Operand.tmp 38], argTypes := #[23, 23] }, type := 23, pos := "outright.go:45", after := #[{ on := 3, ground := Ground.data }, { on := 6, ground := Ground.data }, { on := 6, ground := Ground.chain }], guard := none }) rfl ?_ (AllReadyH.cons (o := { dst := some 9, op := Op.alloc 23, type := 0, pos := "outright.go:45", after := #[], guard := none }) rfl ?_ (AllReadyH.nil))
            · intro K hK
              go_simp
              go_at_call 23
              refine (or_any a (orR b c) _).mono ?_
              rintro e v4 ⟨rfl, hb1⟩
              replace hX := hX.grow hb1
              clear hb1
              refine hK.out _ _ (hX.take 4) (fun _ => ?_)
              clear hK K
              try simp only [Act.put, List.setIfInBounds_toArray, List.set_cons_zero, List.set_cons_succ]
              refine wpAnyH_ready (rs := [9]) (by kernel_rfl) (by simp) ?_
              refine AllReadyH.cons (o := { dst := some 9, op := Op.alloc 23, type := 0, pos := "outright.go:45", after := #[], guard := none }) rfl ?_ (AllReadyH.nil)
              · intro K hK
                go_simp
                obtain ⟨v5, hW, hX⟩ := hX.boxed 23 #[.int .i64 0, .int .i64 0, .int .i64 0, .int .i64 0]
                rw [hW]
                clear hW
                generalize v4.heap.size = g9 at hX ⊢
                refine hK.out _ _ (hX.take 4) (fun _ => ?_)
                clear hK K
                try simp only [Act.put, List.setIfInBounds_toArray, List.set_cons_zero, List.set_cons_succ]
                refine wpAnyH_ready (rs := [10]) (by kernel_rfl) (by simp) ?_
                refine AllReadyH.cons (o := { dst := none, op := Op.store 23 (Operand.tmp 8) (Operand.tmp 34), type := 0, pos := "outright.go:45", after := #[{ on := 8, ground := Ground.data }, { on := 2, ground := Ground.data }, { on := 7, ground := Ground.chain }, { on := 0, ground := Ground.phase }, { on := 1, ground := Ground.phase }, { on := 2, ground := Ground.phase }, { on := 3, ground := Ground.textOnly Departure.lateStores }, { on := 4, ground := Ground.textOnly Departure.lateStores }, { on := 5, ground := Ground.textOnly Departure.lateStores }, { on := 6, ground := Ground.textOnly Departure.lateStoresUnsure }, { on := 7, ground := Ground.textOnly Departure.lateStoresUnsure }, { on := 8, ground := Ground.phase }, { on := 9, ground := Ground.phase }], guard := none }) rfl ?_ (AllReadyH.nil)
                · intro K hK
                  rw [if_pos (by rfl)]
                  refine wp_store_row 23 (.tmp 8) (.tmp 34) rfl g8 (orR (orR a b) c).arr (by rfl) (by rfl) 23 _ (hX.blk 4 rfl) size23 rfl (arr_one _) ?_
                  replace hX := hX.setRow 4 rfl (orR (orR a b) c).arr
                  generalize v5.setRow g8 (orR (orR a b) c).arr = v6 at hX ⊢
                  refine hK.out _ _ (hX.take 4) (fun _ => ?_)
                  clear hK K
                  try simp only [Act.put]
                  refine wpAnyH_ready (rs := [11]) (by kernel_rfl) (by simp) ?_
                  refine AllReadyH.cons (o := { dst := none, op := Op.store 23 (Operand.tmp 9) (Operand.tmp 39), type := 0, pos := "outright.go:45", after := #[{ on := 9, ground := Ground.data }, { on := 7, ground := Ground.data }, { on := 10, ground := Ground.chain }, { on := 0, ground := Ground.phase }, { on := 1, ground := Ground.phase }, { on := 2, ground := Ground.phase }, { on := 3, ground := Ground.phase }, { on := 4, ground := Ground.phase }, { on := 5, ground := Ground.phase }, { on := 6, ground := Ground.phase }, { on := 7, ground := Ground.phase }, { on := 8, ground := Ground.phase }, { on := 9, ground := Ground.phase }, { on := 10, ground := Ground.phase }], guard := none }) rfl ?_ (AllReadyH.nil)
                  · intro K hK
                    rw [if_pos (by rfl)]
                    refine wp_store_row 23 (.tmp 9) (.tmp 39) rfl g9 (orR a (orR b c)).arr (by rfl) (by rfl) 23 _ (hX.blk 5 rfl) size23 rfl (arr_one _) ?_
                    replace hX := hX.setRow 5 rfl (orR a (orR b c)).arr
                    generalize v6.setRow g9 (orR a (orR b c)).arr = v7 at hX ⊢
                    refine hK.out _ _ (hX.take 4) (fun _ => ?_)
                    clear hK K
                    try simp only [Act.put]
                    refine wpAnyH_done (by kernel_rfl) ?_ _
                    go_wp2_with fail
                    go_meet
                    exact ⟨g8, g9, rfl, rfl, hX⟩
            · intro K hK
              go_simp
              obtain ⟨v4, hW, hX⟩ := hX.boxed 23 #[.int .i64 0, .int .i64 0, .int .i64 0, .int .i64 0]
              rw [hW]
              clear hW
              generalize v3.heap.size = g9 at hX ⊢
              refine hK.out _ _ (hX.take 4) (fun _ => ?_)
              clear hK K
              try simp only [Act.put, List.setIfInBounds_toArray, List.set_cons_zero, List.set_cons_succ]
              refine wpAnyH_ready (rs := [7]) (by kernel_rfl) (by simp) ?_
              refine AllReadyH.cons (o := { dst := some 39, op := Op.call { callee := Callee.value (Operand.func 23), args := #[Operand.tmp 35, Operand.tmp 38], argTypes := #[23, 23] }, type := 23, pos := "outright.go:45", after := #[{ on := 3, ground := Ground.data }, { on := 6, ground := Ground.data }, { on := 6, ground := Ground.chain }], guard := none }) rfl ?_ (AllReadyH.nil)
              · intro K hK
                go_simp
                go_at_call 23
                refine (or_any a (orR b c) _).mono ?_
                rintro e v5 ⟨rfl, hb1⟩
                replace hX := hX.grow hb1
                clear hb1
                refine hK.out _ _ (hX.take 4) (fun _ => ?_)
                clear hK K
                try simp only [Act.put, List.setIfInBounds_toArray, List.set_cons_zero, List.set_cons_succ]
                refine wpAnyH_ready (rs := [10]) (by kernel_rfl) (by simp) ?_
                refine AllReadyH.cons (o := { dst := none, op := Op.store 23 (Operand.tmp 8) (Operand.tmp 34), type := 0, pos := "outright.go:45", after := #[{ on := 8, ground := Ground.data }, { on := 2, ground := Ground.data }, { on := 7, ground := Ground.chain }, { on := 0, ground := Ground.phase }, { on := 1, ground := Ground.phase }, { on := 2, ground := Ground.phase }, { on := 3, ground := Ground.textOnly Departure.lateStores }, { on := 4, ground := Ground.textOnly Departure.lateStores }, { on := 5, ground := Ground.textOnly Departure.lateStores }, { on := 6, ground := Ground.textOnly Departure.lateStoresUnsure }, { on := 7, ground := Ground.textOnly Departure.lateStoresUnsure }, { on := 8, ground := Ground.phase }, { on := 9, ground := Ground.phase }], guard := none }) rfl ?_ (AllReadyH.nil)
                · intro K hK
                  rw [if_pos (by rfl)]
                  refine wp_store_row 23 (.tmp 8) (.tmp 34) rfl g8 (orR (orR a b) c).arr (by rfl) (by rfl) 23 _ (hX.blk 4 rfl) size23 rfl (arr_one _) ?_
                  replace hX := hX.setRow 4 rfl (orR (orR a b) c).arr
                  generalize v5.setRow g8 (orR (orR a b) c).arr = v6 at hX ⊢
                  refine hK.out _ _ (hX.take 4) (fun _ => ?_)
                  clear hK K
                  try simp only [Act.put]
                  refine wpAnyH_ready (rs := [11]) (by kernel_rfl) (by simp) ?_
                  refine AllReadyH.cons (o := { dst := none, op := Op.store 23 (Operand.tmp 9) (Operand.tmp 39), type := 0, pos := "outright.go:45", after := #[{ on := 9, ground := Ground.data }, { on := 7, ground := Ground.data }, { on := 10, ground := Ground.chain }, { on := 0, ground := Ground.phase }, { on := 1, ground := Ground.phase }, { on := 2, ground := Ground.phase }, { on := 3, ground := Ground.phase }, { on := 4, ground := Ground.phase }, { on := 5, ground := Ground.phase }, { on := 6, ground := Ground.phase }, { on := 7, ground := Ground.phase }, { on := 8, ground := Ground.phase }, { on := 9, ground := Ground.phase }, { on := 10, ground := Ground.phase }], guard := none }) rfl ?_ (AllReadyH.nil)
                  · intro K hK
                    rw [if_pos (by rfl)]
                    refine wp_store_row 23 (.tmp 9) (.tmp 39) rfl g9 (orR a (orR b c)).arr (by rfl) (by rfl) 23 _ (hX.blk 5 rfl) size23 rfl (arr_one _) ?_
                    replace hX := hX.setRow 5 rfl (orR a (orR b c)).arr
                    generalize v6.setRow g9 (orR a (orR b c)).arr = v7 at hX ⊢
                    refine hK.out _ _ (hX.take 4) (fun _ => ?_)
                    clear hK K
                    try simp only [Act.put]
                    refine wpAnyH_done (by kernel_rfl) ?_ _
                    go_wp2_with fail
                    go_meet
                    exact ⟨g8, g9, rfl, rfl, hX⟩
          · intro K hK
            go_simp
            obtain ⟨v3, hW, hX⟩ := hX.boxed 23 #[.int .i64 0, .int .i64 0, .int .i64 0, .int .i64 0]
            rw [hW]
            clear hW
            generalize v2.heap.size = g9 at hX ⊢
            refine hK.out _ _ (hX.take 4) (fun _ => ?_)
            clear hK K
            try simp only [Act.put, List.setIfInBounds_toArray, List.set_cons_zero, List.set_cons_succ]
            refine wpAnyH_ready (rs := [6]) (by kernel_rfl) (by simp) ?_
            refine AllReadyH.cons (o := { dst := some 38, op := Op.call { callee := Callee.value (Operand.func 23), args := #[Operand.tmp 36, Operand.tmp 37], argTypes := #[23, 23] }, type := 23, pos := "outright.go:45", after := #[{ on := 4, ground := Ground.data }, { on := 5, ground := Ground.data }, { on := 2, ground := Ground.chain }], guard := none }) rfl ?_ (AllReadyH.nil)
            · intro K hK
              go_simp
              go_at_call 23
              refine (or_any b c _).mono ?_
              rintro e v4 ⟨rfl, hb1⟩
              replace hX := hX.grow hb1
              clear hb1
              refine hK.out _ _ (hX.take 4) (fun _ => ?_)
              clear hK K
              try simp only [Act.put, List.setIfInBounds_toArray, List.set_cons_zero, List.set_cons_succ]
              refine wpAnyH_ready (rs := [7]) (by kernel_rfl) (by simp) ?_
              refine AllReadyH.cons (o := { dst := some 39, op := Op.call { callee := Callee.value (Operand.func 23), args := #[Operand.tmp 35, Operand.tmp 38], argTypes := #[23, 23] }, type := 23, pos := "outright.go:45", after := #[{ on := 3, ground := Ground.data }, { on := 6, ground := Ground.data }, { on := 6, ground := Ground.chain }], guard := none }) rfl ?_ (AllReadyH.nil)
              · intro K hK
                go_simp
                go_at_call 23
                refine (or_any a (orR b c) _).mono ?_
                rintro e v5 ⟨rfl, hb1⟩
                replace hX := hX.grow hb1
                clear hb1
                refine hK.out _ _ (hX.take 4) (fun _ => ?_)
                clear hK K
                try simp only [Act.put, List.setIfInBounds_toArray, List.set_cons_zero, List.set_cons_succ]
                refine wpAnyH_ready (rs := [10]) (by kernel_rfl) (by simp) ?_
                refine AllReadyH.cons (o := { dst := none, op := Op.store 23 (Operand.tmp 8) (Operand.tmp 34), type := 0, pos := "outright.go:45", after := #[{ on := 8, ground := Ground.data }, { on := 2, ground := Ground.data }, { on := 7, ground := Ground.chain }, { on := 0, ground := Ground.phase }, { on := 1, ground := Ground.phase }, { on := 2, ground := Ground.phase }, { on := 3, ground := Ground.textOnly Departure.lateStores }, { on := 4, ground := Ground.textOnly Departure.lateStores }, { on := 5, ground := Ground.textOnly Departure.lateStores }, { on := 6, ground := Ground.textOnly Departure.lateStoresUnsure }, { on := 7, ground := Ground.textOnly Departure.lateStoresUnsure }, { on := 8, ground := Ground.phase }, { on := 9, ground := Ground.phase }], guard := none }) rfl ?_ (AllReadyH.nil)
                · intro K hK
                  rw [if_pos (by rfl)]
                  refine wp_store_row 23 (.tmp 8) (.tmp 34) rfl g8 (orR (orR a b) c).arr (by rfl) (by rfl) 23 _ (hX.blk 4 rfl) size23 rfl (arr_one _) ?_
                  replace hX := hX.setRow 4 rfl (orR (orR a b) c).arr
                  generalize v5.setRow g8 (orR (orR a b) c).arr = v6 at hX ⊢
                  refine hK.out _ _ (hX.take 4) (fun _ => ?_)
                  clear hK K
                  try simp only [Act.put]
                  refine wpAnyH_ready (rs := [11]) (by kernel_rfl) (by simp) ?_
                  refine AllReadyH.cons (o := { dst := none, op := Op.store 23 (Operand.tmp 9) (Operand.tmp 39), type := 0, pos := "outright.go:45", after := #[{ on := 9, ground := Ground.data }, { on := 7, ground := Ground.data }, { on := 10, ground := Ground.chain }, { on := 0, ground := Ground.phase }, { on := 1, ground := Ground.phase }, { on := 2, ground := Ground.phase }, { on := 3, ground := Ground.phase }, { on := 4, ground := Ground.phase }, { on := 5, ground := Ground.phase }, { on := 6, ground := Ground.phase }, { on := 7, ground := Ground.phase }, { on := 8, ground := Ground.phase }, { on := 9, ground := Ground.phase }, { on := 10, ground := Ground.phase }], guard := none }) rfl ?_ (AllReadyH.nil)
                  · intro K hK
                    rw [if_pos (by rfl)]
                    refine wp_store_row 23 (.tmp 9) (.tmp 39) rfl g9 (orR a (orR b c)).arr (by rfl) (by rfl) 23 _ (hX.blk 5 rfl) size23 rfl (arr_one _) ?_
                    replace hX := hX.setRow 5 rfl (orR a (orR b c)).arr
                    generalize v6.setRow g9 (orR a (orR b c)).arr = v7 at hX ⊢
                    refine hK.out _ _ (hX.take 4) (fun _ => ?_)
                    clear hK K
                    try simp only [Act.put]
                    refine wpAnyH_done (by kernel_rfl) ?_ _
                    go_wp2_with fail
                    go_meet
                    exact ⟨g8, g9, rfl, rfl, hX⟩
        · intro K hK
          go_simp
          obtain ⟨v2, hW, hX⟩ := hX.boxed 23 #[.int .i64 0, .int .i64 0, .int .i64 0, .int .i64 0]
          rw [hW]
          clear hW
          generalize v1.heap.size = g9 at hX ⊢
          refine hK.out _ _ (hX.take 4) (fun _ => ?_)
          clear hK K
          try simp only [Act.put, List.setIfInBounds_toArray, List.set_cons_zero, List.set_cons_succ]
          refine wpAnyH_ready (rs := [6, 8]) (by kernel_rfl) (by simp) ?_
          refine AllReadyH.cons (o := { dst := some 38, op := Op.call { callee := Callee.value (Operand.func 23), args := #[Operand.tmp 36, Operand.tmp 37], argTypes := #[23, 23] }, type := 23, pos := "outright.go:45", after := #[{ on := 4, ground := Ground.data }, { on := 5, ground := Ground.data }, { on := 2, ground := Ground.chain }], guard := none }) rfl ?_ (AllReadyH.cons (o := { dst := some 8, op := Op.alloc 23, type := 0, pos := "outright.go:45", after := #[], guard := none }) rfl ?_ (AllReadyH.nil))
          · intro K hK
            go_simp
            go_at_call 23
            refine (or_any b c _).mono ?_
            rintro e v3 ⟨rfl, hb1⟩
            replace hX := hX.grow hb1
            clear hb1
            refine hK.out _ _ (hX.take 4) (fun _ => ?_)
            clear hK K
            try simp only [Act.put, List.setIfInBounds_toArray, List.set_cons_zero, List.set_cons_succ]
            refine wpAnyH_ready (rs := [7, 8]) (by kernel_rfl) (by simp) ?_
            refine AllReadyH.cons (o := { dst := some 39, op := Op.call { callee := Callee.value (Operand.func 23), args := #[Operand.tmp 35, Operand.tmp 38], argTypes := #[23, 23] }, type := 23, pos := "outright.go:45", after := #[{ on := 3, ground := Ground.data }, { on := 6, ground := Ground.data }, { on := 6, ground := Ground.chain }], guard := none }) rfl ?_ (AllReadyH.cons (o := { dst := some 8, op := Op.alloc 23, type := 0, pos := "outright.go:45", after := #[], guard := none }) rfl ?_ (AllReadyH.nil))
            · intro K hK
              go_simp
              go_at_call 23
              refine (or_any a (orR b c) _).mono ?_
              rintro e v4 ⟨rfl, hb1⟩
              replace hX := hX.grow hb1
              clear hb1
              refine hK.out _ _ (hX.take 4) (fun _ => ?_)
              clear hK K
              try simp only [Act.put, List.setIfInBounds_toArray, List.set_cons_zero, List.set_cons_succ]
              refine wpAnyH_ready (rs := [8]) (by kernel_rfl) (by simp) ?_
              refine AllReadyH.cons (o := { dst := some 8, op := Op.alloc 23, type := 0, pos := "outright.go:45", after := #[], guard := none }) rfl ?_ (AllReadyH.nil)
              · intro K hK
                go_simp
                obtain ⟨v5, hW, hX⟩ := hX.boxed 23 #[.int .i64 0, .int .i64 0, .int .i64 0, .int .i64 0]
                rw [hW]
                clear hW
                generalize v4.heap.size = g8 at hX ⊢
                refine hK.out _ _ (hX.take 4) (fun _ => ?_)
                clear hK K
                try simp only [Act.put, List.setIfInBounds_toArray, List.set_cons_zero, List.set_cons_succ]
                refine wpAnyH_ready (rs := [10]) (by kernel_rfl) (by simp) ?_
                refine AllReadyH.cons (o := { dst := none, op := Op.store 23 (Operand.tmp 8) (Operand.tmp 34), type := 0, pos := "outright.go:45", after := #[{ on := 8, ground := Ground.data }, { on := 2, ground := Ground.data }, { on := 7, ground := Ground.chain }, { on := 0, ground := Ground.phase }, { on := 1, ground := Ground.phase }, { on := 2, ground := Ground.phase }, { on := 3, ground := Ground.textOnly Departure.lateStores }, { on := 4, ground := Ground.textOnly Departure.lateStores }, { on := 5, ground := Ground.textOnly Departure.lateStores }, { on := 6, ground := Ground.textOnly Departure.lateStoresUnsure }, { on := 7, ground := Ground.textOnly Departure.lateStoresUnsure }, { on := 8, ground := Ground.phase }, { on := 9, ground := Ground.phase }], guard := none }) rfl ?_ (AllReadyH.nil)
                · intro K hK
                  rw [if_pos (by rfl)]
                  refine wp_store_row 23 (.tmp 8) (.tmp 34) rfl g8 (orR (orR a b) c).arr (by rfl) (by rfl) 23 _ (hX.blk 5 rfl) size23 rfl (arr_one _) ?_
                  replace hX := hX.setRow 5 rfl (orR (orR a b) c).arr
                  generalize v5.setRow g8 (orR (orR a b) c).arr = v6 at hX ⊢
                  refine hK.out _ _ (hX.take 4) (fun _ => ?_)
                  clear hK K
                  try simp only [Act.put]
                  refine wpAnyH_ready (rs := [11]) (by kernel_rfl) (by simp) ?_
                  refine AllReadyH.cons (o := { dst := none, op := Op.store 23 (Operand.tmp 9) (Operand.tmp 39), type := 0, pos := "outright.go:45", after := #[{ on := 9, ground := Ground.data }, { on := 7, ground := Ground.data }, { on := 10, ground := Ground.chain }, { on := 0, ground := Ground.phase }, { on := 1, ground := Ground.phase }, { on := 2, ground := Ground.phase }, { on := 3, ground := Ground.phase }, { on := 4, ground := Ground.phase }, { on := 5, ground := Ground.phase }, { on := 6, ground := Ground.phase }, { on := 7, ground := Ground.phase }, { on := 8, ground := Ground.phase }, { on := 9, ground := Ground.phase }, { on := 10, ground := Ground.phase }], guard := none }) rfl ?_ (AllReadyH.nil)
                  · intro K hK
                    rw [if_pos (by rfl)]
                    refine wp_store_row 23 (.tmp 9) (.tmp 39) rfl g9 (orR a (orR b c)).arr (by rfl) (by rfl) 23 _ (hX.blk 4 rfl) size23 rfl (arr_one _) ?_
                    replace hX := hX.setRow 4 rfl (orR a (orR b c)).arr
                    generalize v6.setRow g9 (orR a (orR b c)).arr = v7 at hX ⊢
                    refine hK.out _ _ (hX.take 4) (fun _ => ?_)
                    clear hK K
                    try simp only [Act.put]
                    refine wpAnyH_done (by kernel_rfl) ?_ _
                    go_wp2_with fail
                    go_meet
                    exact ⟨g8, g9, rfl, rfl, hX.perm (.cons _ (.cons _ (.cons _ (.cons _ (.swap _ _ _)))))⟩
            · intro K hK
              go_simp
              obtain ⟨v4, hW, hX⟩ := hX.boxed 23 #[.int .i64 0, .int .i64 0, .int .i64 0, .int .i64 0]
              rw [hW]
              clear hW
              generalize v3.heap.size = g8 at hX ⊢
              refine hK.out _ _ (hX.take 4) (fun _ => ?_)
              clear hK K
              try simp only [Act.put, List.setIfInBounds_toArray, List.set_cons_zero, List.set_cons_succ]
              refine wpAnyH_ready (rs := [7]) (by kernel_rfl) (by simp) ?_
              refine AllReadyH.cons (o := { dst := some 39, op := Op.call { callee := Callee.value (Operand.func 23), args := #[Operand.tmp 35, Operand.tmp 38], argTypes := #[23, 23] }, type := 23, pos := "outright.go:45", after := #[{ on := 3, ground := Ground.data }, { on := 6, ground := Ground.data }, { on := 6, ground := Ground.chain }], guard := none }) rfl ?_ (AllReadyH.nil)
              · intro K hK
                go_simp
                go_at_call 23
                refine (or_any a (orR b c) _).mono ?_
                rintro e v5 ⟨rfl, hb1⟩
                replace hX := hX.grow hb1
                clear hb1
                refine hK.out _ _ (hX.take 4) (fun _ => ?_)
                clear hK K
                try simp only [Act.put, List.setIfInBounds_toArray, List.set_cons_zero, List.set_cons_succ]
                refine wpAnyH_ready (rs := [10]) (by kernel_rfl) (by simp) ?_
                refine AllReadyH.cons (o := { dst := none, op := Op.store 23 (Operand.tmp 8) (Operand.tmp 34), type := 0, pos := "outright.go:45", after := #[{ on := 8, ground := Ground.data }, { on := 2, ground := Ground.data }, { on := 7, ground := Ground.chain }, { on := 0, ground := Ground.phase }, { on := 1, ground := Ground.phase }, { on := 2, ground := Ground.phase }, { on := 3, ground := Ground.textOnly Departure.lateStores }, { on := 4, ground := Ground.textOnly Departure.lateStores }, { on := 5, ground := Ground.textOnly Departure.lateStores }, { on := 6, ground := Ground.textOnly Departure.lateStoresUnsure }, { on := 7, ground := Ground.textOnly Departure.lateStoresUnsure }, { on := 8, ground := Ground.phase }, { on := 9, ground := Ground.phase }], guard := none }) rfl ?_ (AllReadyH.nil)
                · intro K hK
                  rw [if_pos (by rfl)]
                  refine wp_store_row 23 (.tmp 8) (.tmp 34) rfl g8 (orR (orR a b) c).arr (by rfl) (by rfl) 23 _ (hX.blk 5 rfl) size23 rfl (arr_one _) ?_
                  replace hX := hX.setRow 5 rfl (orR (orR a b) c).arr
                  generalize v5.setRow g8 (orR (orR a b) c).arr = v6 at hX ⊢
                  refine hK.out _ _ (hX.take 4) (fun _ => ?_)
                  clear hK K
                  try simp only [Act.put]
                  refine wpAnyH_ready (rs := [11]) (by kernel_rfl) (by simp) ?_
                  refine AllReadyH.cons (o := { dst := none, op := Op.store 23 (Operand.tmp 9) (Operand.tmp 39), type := 0, pos := "outright.go:45", after := #[{ on := 9, ground := Ground.data }, { on := 7, ground := Ground.data }, { on := 10, ground := Ground.chain }, { on := 0, ground := Ground.phase }, { on := 1, ground := Ground.phase }, { on := 2, ground := Ground.phase }, { on := 3, ground := Ground.phase }, { on := 4, ground := Ground.phase }, { on := 5, ground := Ground.phase }, { on := 6, ground := Ground.phase }, { on := 7, ground := Ground.phase }, { on := 8, ground := Ground.phase }, { on := 9, ground := Ground.phase }, { on := 10, ground := Ground.phase }], guard := none }) rfl ?_ (AllReadyH.nil)
                  · intro K hK
                    rw [if_pos (by rfl)]
                    refine wp_store_row 23 (.tmp 9) (.tmp 39) rfl g9 (orR a (orR b c)).arr (by rfl) (by rfl) 23 _ (hX.blk 4 rfl) size23 rfl (arr_one _) ?_
                    replace hX := hX.setRow 4 rfl (orR a (orR b c)).arr
                    generalize v6.setRow g9 (orR a (orR b c)).arr = v7 at hX ⊢
                    refine hK.out _ _ (hX.take 4) (fun _ => ?_)
                    clear hK K
                    try simp only [Act.put]
                    refine wpAnyH_done (by kernel_rfl) ?_ _
                    go_wp2_with fail
                    go_meet
                    exact ⟨g8, g9, rfl, rfl, hX.perm (.cons _ (.cons _ (.cons _ (.cons _ (.swap _ _ _)))))⟩
          · intro K hK
            go_simp
            obtain ⟨v3, hW, hX⟩ := hX.boxed 23 #[.int .i64 0, .int .i64 0, .int .i64 0, .int .i64 0]
            rw [hW]
            clear hW
            generalize v2.heap.size = g8 at hX ⊢
            refine hK.out _ _ (hX.take 4) (fun _ => ?_)
            clear hK K
            try simp only [Act.put, List.setIfInBounds_toArray, List.set_cons_zero, List.set_cons_succ]
            refine wpAnyH_ready (rs := [6]) (by kernel_rfl) (by simp) ?_
            refine AllReadyH.cons (o := { dst := some 38, op := Op.call { callee := Callee.value (Operand.func 23), args := #[Operand.tmp 36, Operand.tmp 37], argTypes := #[23, 23] }, type := 23, pos := "outright.go:45", after := #[{ on := 4, ground := Ground.data }, { on := 5, ground := Ground.data }, { on := 2, ground := Ground.chain }], guard := none }) rfl ?_ (AllReadyH.nil)
            · intro K hK
              go_simp
              go_at_call 23
              refine (or_any b c _).mono ?_
              rintro e v4 ⟨rfl, hb1⟩
              replace hX := hX.grow hb1
              clear hb1
              refine hK.out _ _ (hX.take 4) (fun _ => ?_)
              clear hK K
              try simp only [Act.put, List.setIfInBounds_toArray, List.set_cons_zero, List.set_cons_succ]
              refine wpAnyH_ready (rs := [7]) (by kernel_rfl) (by simp) ?_
              refine AllReadyH.cons (o := { dst := some 39, op := Op.call { callee := Callee.value (Operand.func 23), args := #[Operand.tmp 35, Operand.tmp 38], argTypes := #[23, 23] }, type := 23, pos := "outright.go:45", after := #[{ on := 3, ground := Ground.data }, { on := 6, ground := Ground.data }, { on := 6, ground := Ground.chain }], guard := none }) rfl ?_ (AllReadyH.nil)
              · intro K hK
                go_simp
                go_at_call 23
                refine (or_any a (orR b c) _).mono ?_
                rintro e v5 ⟨rfl, hb1⟩
                replace hX := hX.grow hb1
                clear hb1
                refine hK.out _ _ (hX.take 4) (fun _ => ?_)
                clear hK K
                try simp only [Act.put, List.setIfInBounds_toArray, List.set_cons_zero, List.set_cons_succ]
                refine wpAnyH_ready (rs := [10]) (by kernel_rfl) (by simp) ?_
                refine AllReadyH.cons (o := { dst := none, op := Op.store 23 (Operand.tmp 8) (Operand.tmp 34), type := 0, pos := "outright.go:45", after := #[{ on := 8, ground := Ground.data }, { on := 2, ground := Ground.data }, { on := 7, ground := Ground.chain }, { on := 0, ground := Ground.phase }, { on := 1, ground := Ground.phase }, { on := 2, ground := Ground.phase }, { on := 3, ground := Ground.textOnly Departure.lateStores }, { on := 4, ground := Ground.textOnly Departure.lateStores }, { on := 5, ground := Ground.textOnly Departure.lateStores }, { on := 6, ground := Ground.textOnly Departure.lateStoresUnsure }, { on := 7, ground := Ground.textOnly Departure.lateStoresUnsure }, { on := 8, ground := Ground.phase }, { on := 9, ground := Ground.phase }], guard := none }) rfl ?_ (AllReadyH.nil)
                · intro K hK
                  rw [if_pos (by rfl)]
                  refine wp_store_row 23 (.tmp 8) (.tmp 34) rfl g8 (orR (orR a b) c).arr (by rfl) (by rfl) 23 _ (hX.blk 5 rfl) size23 rfl (arr_one _) ?_
                  replace hX := hX.setRow 5 rfl (orR (orR a b) c).arr
                  generalize v5.setRow g8 (orR (orR a b) c).arr = v6 at hX ⊢
                  refine hK.out _ _ (hX.take 4) (fun _ => ?_)
                  clear hK K
                  try simp only [Act.put]
                  refine wpAnyH_ready (rs := [11]) (by kernel_rfl) (by simp) ?_
                  refine AllReadyH.cons (o := { dst := none, op := Op.store 23 (Operand.tmp 9) (Operand.tmp 39), type := 0, pos := "outright.go:45", after := #[{ on := 9, ground := Ground.data }, { on := 7, ground := Ground.data }, { on := 10, ground := Ground.chain }, { on := 0, ground := Ground.phase }, { on := 1, ground := Ground.phase }, { on := 2, ground := Ground.phase }, { on := 3, ground := Ground.phase }, { on := 4, ground := Ground.phase }, { on := 5, ground := Ground.phase }, { on := 6, ground := Ground.phase }, { on := 7, ground := Ground.phase }, { on := 8, ground := Ground.phase }, { on := 9, ground := Ground.phase }, { on := 10, ground := Ground.phase }], guard := none }) rfl ?_ (AllReadyH.nil)
                  · intro K hK
                    rw [if_pos (by rfl)]
                    refine wp_store_row 23 (.tmp 9) (.tmp 39) rfl g9 (orR a (orR b c)).arr (by rfl) (by rfl) 23 _ (hX.blk 4 rfl) size23 rfl (arr_one _) ?_
                    replace hX := hX.setRow 4 rfl (orR a (orR b c)).arr
                    generalize v6.setRow g9 (orR a (orR b c)).arr = v7 at hX ⊢
                    refine hK.out _ _ (hX.take 4) (fun _ => ?_)
                    clear hK K
                    try simp only [Act.put]
                    refine wpAnyH_done (by kernel_rfl) ?_ _
                    go_wp2_with fail
                    go_meet
                    exact ⟨g8, g9, rfl, rfl, hX.perm (.cons _ (.cons _ (.cons _ (.cons _ (.swap _ _ _)))))⟩
      · intro K hK
        go_simp
        obtain ⟨v1, hW, hX⟩ := hX.boxed 23 #[.int .i64 0, .int .i64 0, .int .i64 0, .int .i64 0]
        rw [hW]
        clear hW
        generalize v0.heap.size = g8 at hX ⊢
        refine hK.out _ _ (hX.take 4) (fun _ => ?_)
        clear hK K
        try simp only [Act.put, List.setIfInBounds_toArray, List.set_cons_zero, List.set_cons_succ]
        refine wpAnyH_ready (rs := [2, 9]) (by kernel_rfl) (by simp) ?_
        refine AllReadyH.cons (o := { dst := some 34, op := Op.call { callee := Callee.value (Operand.func 23), args := #[Operand.tmp 32, Operand.tmp 33], argTypes := #[23, 23] }, type := 23, pos := "outright.go:45", after := #[{ on := 0, ground := Ground.data }, { on := 1, ground := Ground.data }], guard := none }) rfl ?_ (AllReadyH.cons (o := { dst := some 9, op := Op.alloc 23, type := 0, pos := "outright.go:45", after := #[], guard := none }) rfl ?_ (AllReadyH.nil))
        · intro K hK
          go_simp
          go_at_call 23
          refine (or_any (orR a b) c _).mono ?_
          rintro e v2 ⟨rfl, hb1⟩
          replace hX := hX.grow hb1
          clear hb1
          refine hK.out _ _ (hX.take 4) (fun _ => ?_)
          clear hK K
          try simp only [Act.put, List.setIfInBounds_toArray, List.set_cons_zero, List.set_cons_succ]
          refine wpAnyH_ready (rs := [6, 9]) (by kernel_rfl) (by simp) ?_
          refine AllReadyH.cons (o := { dst := some 38, op := Op.call { callee := Callee.value (Operand.func 23), args := #[Operand.tmp 36, Operand.tmp 37], argTypes := #[23, 23] }, type := 23, pos := "outright.go:45", after := #[{ on := 4, ground := Ground.data }, { on := 5, ground := Ground.data }, { on := 2, ground := Ground.chain }], guard := none }) rfl ?_ (AllReadyH.cons (o := { dst := some 9, op := Op.alloc 23, type := 0, pos := "outright.go:45", after := #[], guard := none }) rfl ?_ (AllReadyH.nil))
          · intro K hK
            go_simp
            go_at_call 23
            refine (or_any b c _).mono ?_
            rintro e v3 ⟨rfl, hb1⟩
            replace hX := hX.grow hb1
            clear hb1
            refine hK.out _ _ (hX.take 4) (fun _ => ?_)
            clear hK K
            try simp only [Act.put, List.setIfInBounds_toArray, List.set_cons_zero, List.set_cons_succ]
            refine wpAnyH_ready (rs := [7, 9]) (by kernel_rfl) (by simp) ?_
            refine AllReadyH.cons (o := { dst := some 39, op := Op.call { callee := Callee.value (Operand.func 23), args := #[Operand.tmp 35, Operand.tmp 38], argTypes := #[23, 23] }, type := 23, pos := "outright.go:45", after := #[{ on := 3, ground := Ground.data }, { on := 6, ground := Ground.data }, { on := 6, ground := Ground.chain }], guard := none }) rfl ?_ (AllReadyH.cons (o := { dst := some 9, op := Op.alloc 23, type := 0, pos := "outright.go:45", after := #[], guard := none }) rfl ?_ (AllReadyH.nil))
            · intro K hK
              go_simp
              go_at_call 23
              refine (or_any a (orR b c) _).mono ?_
              rintro e v4 ⟨rfl, hb1⟩
              replace hX := hX.grow hb1
              clear hb1
              refine hK.out _ _ (hX.take 4) (fun _ => ?_)
              clear hK K
              try simp only [Act.put, List.setIfInBounds_toArray, List.set_cons_zero, List.set_cons_succ]
              refine wpAnyH_ready (rs := [9]) (by kernel_rfl) (by simp) ?_
              refine AllReadyH.cons (o := { dst := some 9, op := Op.alloc 23, type := 0, pos := "outright.go:45", after := #[], guard := none }) rfl ?_ (AllReadyH.nil)
              · intro K hK
                go_simp
                obtain ⟨v5, hW, hX⟩ := hX.boxed 23 #[.int .i64 0, .int .i64 0, .int .i64 0, .int .i64 0]
                rw [hW]
                clear hW
                generalize v4.heap.size = g9 at hX ⊢
                refine hK.out _ _ (hX.take 4) (fun _ => ?_)
                clear hK K
                try simp only [Act.put, List.setIfInBounds_toArray, List.set_cons_zero, List.set_cons_succ]
                refine wpAnyH_ready (rs := [10]) (by kernel_rfl) (by simp) ?_
                refine AllReadyH.cons (o := { dst := none, op := Op.store 23 (Operand.tmp 8) (Operand.tmp 34), type := 0, pos := "outright.go:45", after := #[{ on := 8, ground := Ground.data }, { on := 2, ground := Ground.data }, { on := 7, ground := Ground.chain }, { on := 0, ground := Ground.phase }, { on := 1, ground := Ground.phase }, { on := 2, ground := Ground.phase }, { on := 3, ground := Ground.textOnly Departure.lateStores }, { on := 4, ground := Ground.textOnly Departure.lateStores }, { on := 5, ground := Ground.textOnly Departure.lateStores }, { on := 6, ground := Ground.textOnly Departure.lateStoresUnsure }, { on := 7, ground := Ground.textOnly Departure.lateStoresUnsure }, { on := 8, ground := Ground.phase }, { on := 9, ground := Ground.phase }], guard := none }) rfl ?_ (AllReadyH.nil)
                · intro K hK
                  rw [if_pos (by rfl)]
                  refine wp_store_row 23 (.tmp 8) (.tmp 34) rfl g8 (orR (orR a b) c).arr (by rfl) (by rfl) 23 _ (hX.blk 4 rfl) size23 rfl (arr_one _) ?_
                  replace hX := hX.setRow 4 rfl (orR (orR a b) c).arr
                  generalize v5.setRow g8 (orR (orR a b) c).arr = v6 at hX ⊢
                  refine hK.out _ _ (hX.take 4) (fun _ => ?_)
                  clear hK K
                  try simp only [Act.put]
                  refine wpAnyH_ready (rs := [11]) (by kernel_rfl) (by simp) ?_
                  refine AllReadyH.cons (o := { dst := none, op := Op.store 23 (Operand.tmp 9) (Operand.tmp 39), type := 0, pos := "outright.go:45", after := #[{ on := 9, ground := Ground.data }, { on := 7, ground := Ground.data }, { on := 10, ground := Ground.chain }, { on := 0, ground := Ground.phase }, { on := 1, ground := Ground.phase }, { on := 2, ground := Ground.phase }, { on := 3, ground := Ground.phase }, { on := 4, ground := Ground.phase }, { on := 5, ground := Ground.phase }, { on := 6, ground := Ground.phase }, { on := 7, ground := Ground.phase }, { on := 8, ground := Ground.phase }, { on := 9, ground := Ground.phase }, { on := 10, ground := Ground.phase }], guard := none }) rfl ?_ (AllReadyH.nil)
                  · intro K hK
                    rw [if_pos (by rfl)]
                    refine wp_store_row 23 (.tmp 9) (.tmp 39) rfl g9 (orR a (orR b c)).arr (by rfl) (by rfl) 23 _ (hX.blk 5 rfl) size23 rfl (arr_one _) ?_
                    replace hX := hX.setRow 5 rfl (orR a (orR b c)).arr
                    generalize v6.setRow g9 (orR a (orR b c)).arr = v7 at hX ⊢
                    refine hK.out _ _ (hX.take 4) (fun _ => ?_)
                    clear hK K
                    try simp only [Act.put]
                    refine wpAnyH_done (by kernel_rfl) ?_ _
                    go_wp2_with fail
                    go_meet
                    exact ⟨g8, g9, rfl, rfl, hX⟩
            · intro K hK
              go_simp
              obtain ⟨v4, hW, hX⟩ := hX.boxed 23 #[.int .i64 0, .int .i64 0, .int .i64 0, .int .i64 0]
              rw [hW]
              clear hW
              generalize v3.heap.size = g9 at hX ⊢
              refine hK.out _ _ (hX.take 4) (fun _ => ?_)
              clear hK K
              try simp only [Act.put, List.setIfInBounds_toArray, List.set_cons_zero, List.set_cons_succ]
              refine wpAnyH_ready (rs := [7]) (by kernel_rfl) (by simp) ?_
              refine AllReadyH.cons (o := { dst := some 39, op := Op.call { callee := Callee.value (Operand.func 23), args := #[Operand.tmp 35, Operand.tmp 38], argTypes := #[23, 23] }, type := 23, pos := "outright.go:45", after := #[{ on := 3, ground := Ground.data }, { on := 6, ground := Ground.data }, { on := 6, ground := Ground.chain }], guard := none }) rfl ?_ (AllReadyH.nil)
              · intro K hK
                go_simp
                go_at_call 23
                refine (or_any a (orR b c) _).mono ?_
                rintro e v5 ⟨rfl, hb1⟩
                replace hX := hX.grow hb1
                clear hb1
                refine hK.out _ _ (hX.take 4) (fun _ => ?_)
                clear hK K
                try simp only [Act.put, List.setIfInBounds_toArray, List.set_cons_zero, List.set_cons_succ]
                refine wpAnyH_ready (rs := [10]) (by kernel_rfl) (by simp) ?_
                refine AllReadyH.cons (o := { dst := none, op := Op.store 23 (Operand.tmp 8) (Operand.tmp 34), type := 0, pos := "outright.go:45", after := #[{ on := 8, ground := Ground.data }, { on := 2, ground := Ground.data }, { on := 7, ground := Ground.chain }, { on := 0, ground := Ground.phase }, { on := 1, ground := Ground.phase }, { on := 2, ground := Ground.phase }, { on := 3, ground := Ground.textOnly Departure.lateStores }, { on := 4, ground := Ground.textOnly Departure.lateStores }, { on := 5, ground := Ground.textOnly Departure.lateStores }, { on := 6, ground := Ground.textOnly Departure.lateStoresUnsure }, { on := 7, ground := Ground.textOnly Departure.lateStoresUnsure }, { on := 8, ground := Ground.phase }, { on := 9, ground := Ground.phase }], guard := none }) rfl ?_ (AllReadyH.nil)
                · intro K hK
                  rw [if_pos (by rfl)]
                  refine wp_store_row 23 (.tmp 8) (.tmp 34) rfl g8 (orR (orR a b) c).arr (by rfl) (by rfl) 23 _ (hX.blk 4 rfl) size23 rfl (arr_one _) ?_
                  replace hX := hX.setRow 4 rfl (orR (orR a b) c).arr
                  generalize v5.setRow g8 (orR (orR a b) c).arr = v6 at hX ⊢
                  refine hK.out _ _ (hX.take 4) (fun _ => ?_)
                  clear hK K
                  try simp only [Act.put]
                  refine wpAnyH_ready (rs := [11]) (by kernel_rfl) (by simp) ?_
                  refine AllReadyH.cons (o := { dst := none, op := Op.store 23 (Operand.tmp 9) (Operand.tmp 39), type := 0, pos := "outright.go:45", after := #[{ on := 9, ground := Ground.data }, { on := 7, ground := Ground.data }, { on := 10, ground := Ground.chain }, { on := 0, ground := Ground.phase }, { on := 1, ground := Ground.phase }, { on := 2, ground := Ground.phase }, { on := 3, ground := Ground.phase }, { on := 4, ground := Ground.phase }, { on := 5, ground := Ground.phase }, { on := 6, ground := Ground.phase }, { on := 7, ground := Ground.phase }, { on := 8, ground := Ground.phase }, { on := 9, ground := Ground.phase }, { on := 10, ground := Ground.phase }], guard := none }) rfl ?_ (AllReadyH.nil)
                  · intro K hK
                    rw [if_pos (by rfl)]
                    refine wp_store_row 23 (.tmp 9) (.tmp 39) rfl g9 (orR a (orR b c)).arr (by rfl) (by rfl) 23 _ (hX.blk 5 rfl) size23 rfl (arr_one _) ?_
                    replace hX := hX.setRow 5 rfl (orR a (orR b c)).arr
                    generalize v6.setRow g9 (orR a (orR b c)).arr = v7 at hX ⊢
                    refine hK.out _ _ (hX.take 4) (fun _ => ?_)
                    clear hK K
                    try simp only [Act.put]
                    refine wpAnyH_done (by kernel_rfl) ?_ _
                    go_wp2_with fail
                    go_meet
                    exact ⟨g8, g9, rfl, rfl, hX⟩
          · intro K hK
            go_simp
            obtain ⟨v3, hW, hX⟩ := hX.boxed 23 #[.int .i64 0, .int .i64 0, .int .i64 0, .int .i64 0]
            rw [hW]
            clear hW
            generalize v2.heap.size = g9 at hX ⊢
            refine hK.out _ _ (hX.take 4) (fun _ => ?_)
            clear hK K
            try simp only [Act.put, List.setIfInBounds_toArray, List.set_cons_zero, List.set_cons_succ]
            refine wpAnyH_ready (rs := [6]) (by kernel_rfl) (by simp) ?_
            refine AllReadyH.cons (o := { dst := some 38, op := Op.call { callee := Callee.value (Operand.func 23), args := #[Operand.tmp 36, Operand.tmp 37], argTypes := #[23, 23] }, type := 23, pos := "outright.go:45", after := #[{ on := 4, ground := Ground.data }, { on := 5, ground := Ground.data }, { on := 2, ground := Ground.chain }], guard := none }) rfl ?_ (AllReadyH.nil)
            · intro K hK
              go_simp
              go_at_call 23
              refine (or_any b c _).mono ?_
              rintro e v4 ⟨rfl, hb1⟩
              replace hX := hX.grow hb1
              clear hb1
              refine hK.out _ _ (hX.take 4) (fun _ => ?_)
              clear hK K
              try simp only [Act.put, List.setIfInBounds_toArray, List.set_cons_zero, List.set_cons_succ]
              refine wpAnyH_ready (rs := [7]) (by kernel_rfl) (by simp) ?_
              refine AllReadyH.cons (o := { dst := some 39, op := Op.call { callee := Callee.value (Operand.func 23), args := #[Operand.tmp 35, Operand.tmp 38], argTypes := #[23, 23] }, type := 23, pos := "outright.go:45", after := #[{ on := 3, ground := Ground.data }, { on := 6, ground := Ground.data }, { on := 6, ground := Ground.chain }], guard := none }) rfl ?_ (AllReadyH.nil)
              · intro K hK
                go_simp
                go_at_call 23
                refine (or_any a (orR b c) _).mono ?_
                rintro e v5 ⟨rfl, hb1⟩
                replace hX := hX.grow hb1
                clear hb1
                refine hK.out _ _ (hX.take 4) (fun _ => ?_)
                clear hK K
                try simp only [Act.put, List.setIfInBounds_toArray, List.set_cons_zero, List.set_cons_succ]
                refine wpAnyH_ready (rs := [10]) (by kernel_rfl) (by simp) ?_
                refine AllReadyH.cons (o := { dst := none, op := Op.store 23 (Operand.tmp 8) (Operand.tmp 34), type := 0, pos := "outright.go:45", after := #[{ on := 8, ground := Ground.data }, { on := 2, ground := Ground.data }, { on := 7, ground := Ground.chain }, { on := 0, ground := Ground.phase }, { on := 1, ground := Ground.phase }, { on := 2, ground := Ground.phase }, { on := 3, ground := Ground.textOnly Departure.lateStores }, { on := 4, ground := Ground.textOnly Departure.lateStores }, { on := 5, ground := Ground.textOnly Departure.lateStores }, { on := 6, ground := Ground.textOnly Departure.lateStoresUnsure }, { on := 7, ground := Ground.textOnly Departure.lateStoresUnsure }, { on := 8, ground := Ground.phase }, { on := 9, ground := Ground.phase }], guard := none }) rfl ?_ (AllReadyH.nil)
                · intro K hK
                  rw [if_pos (by rfl)]
                  refine wp_store_row 23 (.tmp 8) (.tmp 34) rfl g8 (orR (orR a b) c).arr (by rfl) (by rfl) 23 _ (hX.blk 4 rfl) size23 rfl (arr_one _) ?_
                  replace hX := hX.setRow 4 rfl (orR (orR a b) c).arr
                  generalize v5.setRow g8 (orR (orR a b) c).arr = v6 at hX ⊢
                  refine hK.out _ _ (hX.take 4) (fun _ => ?_)
                  clear hK K
                  try simp only [Act.put]
                  refine wpAnyH_ready (rs := [11]) (by kernel_rfl) (by simp) ?_
                  refine AllReadyH.cons (o := { dst := none, op := Op.store 23 (Operand.tmp 9) (Operand.tmp 39), type := 0, pos := "outright.go:45", after := #[{ on := 9, ground := Ground.data }, { on := 7, ground := Ground.data }, { on := 10, ground := Ground.chain }, { on := 0, ground := Ground.phase }, { on := 1, ground := Ground.phase }, { on := 2, ground := Ground.phase }, { on := 3, ground := Ground.phase }, { on := 4, ground := Ground.phase }, { on := 5, ground := Ground.phase }, { on := 6, ground := Ground.phase }, { on := 7, ground := Ground.phase }, { on := 8, ground := Ground.phase }, { on := 9, ground := Ground.phase }, { on := 10, ground := Ground.phase }], guard := none }) rfl ?_ (AllReadyH.nil)
                  · intro K hK
                    rw [if_pos (by rfl)]
                    refine wp_store_row 23 (.tmp 9) (.tmp 39) rfl g9 (orR a (orR b c)).arr (by rfl) (by rfl) 23 _ (hX.blk 5 rfl) size23 rfl (arr_one _) ?_
                    replace hX := hX.setRow 5 rfl (orR a (orR b c)).arr
                    generalize v6.setRow g9 (orR a (orR b c)).arr = v7 at hX ⊢
                    refine hK.out _ _ (hX.take 4) (fun _ => ?_)
                    clear hK K
                    try simp only [Act.put]
                    refine wpAnyH_done (by kernel_rfl) ?_ _
                    go_wp2_with fail
                    go_meet
                    exact ⟨g8, g9, rfl, rfl, hX⟩
        · intro K hK
          go_simp
          obtain ⟨v2, hW, hX⟩ := hX.boxed 23 #[.int .i64 0, .int .i64 0, .int .i64 0, .int .i64 0]
          rw [hW]
          clear hW
          generalize v1.heap.size = g9 at hX ⊢
          refine hK.out _ _ (hX.take 4) (fun _ => ?_)
          clear hK K
          try simp only [Act.put, List.setIfInBounds_toArray, List.set_cons_zero, List.set_cons_succ]
          refine wpAnyH_ready (rs := [2]) (by kernel_rfl) (by simp) ?_
          refine AllReadyH.cons (o := { dst := some 34, op := Op.call { callee := Callee.value (Operand.func 23), args := #[Operand.tmp 32, Operand.tmp 33], argTypes := #[23, 23] }, type := 23, pos := "outright.go:45", after := #[{ on := 0, ground := Ground.data }, { on := 1, ground := Ground.data }], guard := none }) rfl ?_ (AllReadyH.nil)
          · intro K hK
            go_simp
            go_at_call 23
            refine (or_any (orR a b) c _).mono ?_
            rintro e v3 ⟨rfl, hb1⟩
            replace hX := hX.grow hb1
            clear hb1
            refine hK.out _ _ (hX.take 4) (fun _ => ?_)
            clear hK K
            try simp only [Act.put, List.setIfInBounds_toArray, List.set_cons_zero, List.set_cons_succ]
            refine wpAnyH_ready (rs := [6]) (by kernel_rfl) (by simp) ?_
            refine AllReadyH.cons (o := { dst := some 38, op := Op.call { callee := Callee.value (Operand.func 23), args := #[Operand.tmp 36, Operand.tmp 37], argTypes := #[23, 23] }, type := 23, pos := "outright.go:45", after := #[{ on := 4, ground := Ground.data }, { on := 5, ground := Ground.data }, { on := 2, ground := Ground.chain }], guard := none }) rfl ?_ (AllReadyH.nil)
            · intro K hK
              go_simp
              go_at_call 23
              refine (or_any b c _).mono ?_
              rintro e v4 ⟨rfl, hb1⟩
              replace hX := hX.grow hb1
              clear hb1
              refine hK.out _ _ (hX.take 4) (fun _ => ?_)
              clear hK K
              try simp only [Act.put, List.setIfInBounds_toArray, List.set_cons_zero, List.set_cons_succ]
              refine wpAnyH_ready (rs := [7]) (by kernel_rfl) (by simp) ?_
              refine AllReadyH.cons (o := { dst := some 39, op := Op.call { callee := Callee.value (Operand.func 23), args := #[Operand.tmp 35, Operand.tmp 38], argTypes := #[23, 23] }, type := 23, pos := "outright.go:45", after := #[{ on := 3, ground := Ground.data }, { on := 6, ground := Ground.data }, { on := 6, ground := Ground.chain }], guard := none }) rfl ?_ (AllReadyH.nil)
              · intro K hK
                go_simp
                go_at_call 23
                refine (or_any a (orR b c) _).mono ?_
                rintro e v5 ⟨rfl, hb1⟩
                replace hX := hX.grow hb1
                clear hb1
                refine hK.out _ _ (hX.take 4) (fun _ => ?_)
                clear hK K
                try simp only [Act.put, List.setIfInBounds_toArray, List.set_cons_zero, List.set_cons_succ]
                refine wpAnyH_ready (rs := [10]) (by kernel_rfl) (by simp) ?_
                refine AllReadyH.cons (o := { dst := none, op := Op.store 23 (Operand.tmp 8) (Operand.tmp 34), type := 0, pos := "outright.go:45", after := #[{ on := 8, ground := Ground.data }, { on := 2, ground := Ground.data }, { on := 7, ground := Ground.chain }, { on := 0, ground := Ground.phase }, { on := 1, ground := Ground.phase }, { on := 2, ground := Ground.phase }, { on := 3, ground := Ground.textOnly Departure.lateStores }, { on := 4, ground := Ground.textOnly Departure.lateStores }, { on := 5, ground := Ground.textOnly Departure.lateStores }, { on := 6, ground := Ground.textOnly Departure.lateStoresUnsure }, { on := 7, ground := Ground.textOnly Departure.lateStoresUnsure }, { on := 8, ground := Ground.phase }, { on := 9, ground := Ground.phase }], guard := none }) rfl ?_ (AllReadyH.nil)
                · intro K hK
                  rw [if_pos (by rfl)]
                  refine wp_store_row 23 (.tmp 8) (.tmp 34) rfl g8 (orR (orR a b) c).arr (by rfl) (by rfl) 23 _ (hX.blk 4 rfl) size23 rfl (arr_one _) ?_
                  replace hX := hX.setRow 4 rfl (orR (orR a b) c).arr
                  generalize v5.setRow g8 (orR (orR a b) c).arr = v6 at hX ⊢
                  refine hK.out _ _ (hX.take 4) (fun _ => ?_)
                  clear hK K
                  try simp only [Act.put]
                  refine wpAnyH_ready (rs := [11]) (by kernel_rfl) (by simp) ?_
                  refine AllReadyH.cons (o := { dst := none, op := Op.store 23 (Operand.tmp 9) (Operand.tmp 39), type := 0, pos := "outright.go:45", after := #[{ on := 9, ground := Ground.data }, { on := 7, ground := Ground.data }, { on := 10, ground := Ground.chain }, { on := 0, ground := Ground.phase }, { on := 1, ground := Ground.phase }, { on := 2, ground := Ground.phase }, { on := 3, ground := Ground.phase }, { on := 4, ground := Ground.phase }, { on := 5, ground := Ground.phase }, { on := 6, ground := Ground.phase }, { on := 7, ground := Ground.phase }, { on := 8, ground := Ground.phase }, { on := 9, ground := Ground.phase }, { on := 10, ground := Ground.phase }], guard := none }) rfl ?_ (AllReadyH.nil)
                  · intro K hK
                    rw [if_pos (by rfl)]
                    refine wp_store_row 23 (.tmp 9) (.tmp 39) rfl g9 (orR a (orR b c)).arr (by rfl) (by rfl) 23 _ (hX.blk 5 rfl) size23 rfl (arr_one _) ?_
                    replace hX := hX.setRow 5 rfl (orR a (orR b c)).arr
                    generalize v6.setRow g9 (orR a (orR b c)).arr = v7 at hX ⊢
                    refine hK.out _ _ (hX.take 4) (fun _ => ?_)
                    clear hK K
                    try simp only [Act.put]
                    refine wpAnyH_done (by kernel_rfl) ?_ _
                    go_wp2_with fail
                    go_meet
                    exact ⟨g8, g9, rfl, rfl, hX⟩
      · intro K hK
        go_simp
        obtain ⟨v1, hW, hX⟩ := hX.boxed 23 #[.int .i64 0, .int .i64 0, .int .i64 0, .int .i64 0]
        rw [hW]
        clear hW
        generalize v0.heap.size = g9 at hX ⊢
        refine hK.out _ _ (hX.take 4) (fun _ => ?_)
        clear hK K
        try simp only [Act.put, List.setIfInBounds_toArray, List.set_cons_zero, List.set_cons_succ]
        refine wpAnyH_ready (rs := [2, 8]) (by kernel_rfl) (by simp) ?_
        refine AllReadyH.cons (o := { dst := some 34, op := Op.call { callee := Callee.value (Operand.func 23), args := #[Operand.tmp 32, Operand.tmp 33], argTypes := #[23, 23] }, type := 23, pos := "outright.go:45", after := #[{ on := 0, ground := Ground.data }, { on := 1, ground := Ground.data }], guard := none }) rfl ?_ (AllReadyH.cons (o := { dst := some 8, op := Op.alloc 23, type := 0, pos := "outright.go:45", after := #[], guard := none }) rfl ?_ (AllReadyH.nil))
        · intro K hK
          go_simp
          go_at_call 23
          refine (or_any (orR a b) c _).mono ?_
          rintro e v2 ⟨rfl, hb1⟩
          replace hX := hX.grow hb1
          clear hb1
          refine hK.out _ _ (hX.take 4) (fun _ => ?_)
          clear hK K
          try simp only [Act.put, List.setIfInBounds_toArray, List.set_cons_zero, List.set_cons_succ]
          refine wpAnyH_ready (rs := [6, 8]) (by kernel_rfl) (by simp) ?_
          refine AllReadyH.cons (o := { dst := some 38, op := Op.call { callee := Callee.value (Operand.func 23), args := #[Operand.tmp 36, Operand.tmp 37], argTypes := #[23, 23] }, type := 23, pos := "outright.go:45", after := #[{ on := 4, ground := Ground.data }, { on := 5, ground := Ground.data }, { on := 2, ground := Ground.chain }], guard := none }) rfl ?_ (AllReadyH.cons (o := { dst := some 8, op := Op.alloc 23, type := 0, pos := "outright.go:45", after := #[], guard := none }) rfl ?_ (AllReadyH.nil))
          · intro K hK
            go_simp
            go_at_call 23
            refine (or_any b c _).mono ?_
            rintro e v3 ⟨rfl, hb1⟩
            replace hX := hX.grow hb1
            clear hb1
            refine hK.out _ _ (hX.take 4) (fun _ => ?_)
            clear hK K
            try simp only [Act.put, List.setIfInBounds_toArray, List.set_cons_zero, List.set_cons_succ]
            refine wpAnyH_ready (rs := [7, 8]) (by kernel_rfl) (by simp) ?_
            refine AllReadyH.cons (o := { dst := some 39, op := Op.call { callee := Callee.value (Operand.func 23), args := #[Operand.tmp 35, Operand.tmp 38], argTypes := #[23, 23] }, type := 23, pos := "outright.go:45", after := #[{ on := 3, ground := Ground.data }, { on := 6, ground := Ground.data }, { on := 6, ground := Ground.chain }], guard := none }) rfl ?_ (AllReadyH.cons (o := { dst := some 8, op := Op.alloc 23, type := 0, pos := "outright.go:45", after := #[], guard := none }) rfl ?_ (AllReadyH.nil))
            · intro K hK
              go_simp
              go_at_call 23
              refine (or_any a (orR b c) _).mono ?_
              rintro e v4 ⟨rfl, hb1⟩
              replace hX := hX.grow hb1
              clear hb1
              refine hK.out _ _ (hX.take 4) (fun _ => ?_)
              clear hK K
              try simp only [Act.put, List.setIfInBounds_toArray, List.set_cons_zero, List.set_cons_succ]
              refine wpAnyH_ready (rs := [8]) (by kernel_rfl) (by simp) ?_
              refine AllReadyH.cons (o := { dst := some 8, op := Op.alloc 23, type := 0, pos := "outright.go:45", after := #[], guard := none }) rfl ?_ (AllReadyH.nil)
              · intro K hK
                go_simp
                obtain ⟨v5, hW, hX⟩ := hX.boxed 23 #[.int .i64 0, .int .i64 0, .int .i64 0, .int .i64 0]
                rw [hW]
                clear hW
                generalize v4.heap.size = g8 at hX ⊢
                refine hK.out _ _ (hX.take 4) (fun _ => ?_)
                clear hK K
                try simp only [Act.put, List.setIfInBounds_toArray, List.set_cons_zero, List.set_cons_succ]
                refine wpAnyH_ready (rs := [10]) (by kernel_rfl) (by simp) ?_
                refine AllReadyH.cons (o := { dst := none, op := Op.store 23 (Operand.tmp 8) (Operand.tmp 34), type := 0, pos := "outright.go:45", after := #[{ on := 8, ground := Ground.data }, { on := 2, ground := Ground.data }, { on := 7, ground := Ground.chain }, { on := 0, ground := Ground.phase }, { on := 1, ground := Ground.phase }, { on := 2, ground := Ground.phase }, { on := 3, ground := Ground.textOnly Departure.lateStores }, { on := 4, ground := Ground.textOnly Departure.lateStores }, { on := 5, ground := Ground.textOnly Departure.lateStores }, { on := 6, ground := Ground.textOnly Departure.lateStoresUnsure }, { on := 7, ground := Ground.textOnly Departure.lateStoresUnsure }, { on := 8, ground := Ground.phase }, { on := 9, ground := Ground.phase }], guard := none }) rfl ?_ (AllReadyH.nil)
                · intro K hK
                  rw [if_pos (by rfl)]
                  refine wp_store_row 23 (.tmp 8) (.tmp 34) rfl g8 (orR (orR a b) c).arr (by rfl) (by rfl) 23 _ (hX.blk 5 rfl) size23 rfl (arr_one _) ?_
                  replace hX := hX.setRow 5 rfl (orR (orR a b) c).arr
                  generalize v5.setRow g8 (orR (orR a b) c).arr = v6 at hX ⊢
                  refine hK.out _ _ (hX.take 4) (fun _ => ?_)
                  clear hK K
                  try simp only [Act.put]
                  refine wpAnyH_ready (rs := [11]) (by kernel_rfl) (by simp) ?_
                  refine AllReadyH.cons (o := { dst := none, op := Op.store 23 (Operand.tmp 9) (Operand.tmp 39), type := 0, pos := "outright.go:45", after := #[{ on := 9, ground := Ground.data }, { on := 7, ground := Ground.data }, { on := 10, ground := Ground.chain }, { on := 0, ground := Ground.phase }, { on := 1, ground := Ground.phase }, { on := 2, ground := Ground.phase }, { on := 3, ground := Ground.phase }, { on := 4, ground := Ground.phase }, { on := 5, ground := Ground.phase }, { on := 6, ground := Ground.phase }, { on := 7, ground := Ground.phase }, { on := 8, ground := Ground.phase }, { on := 9, ground := Ground.phase }, { on := 10, ground := Ground.phase }], guard := none }) rfl ?_ (AllReadyH.nil)
                  · intro K hK
                    rw [if_pos (by rfl)]
                    refine wp_store_row 23 (.tmp 9) (.tmp 39) rfl g9 (orR a (orR b c)).arr (by rfl) (by rfl) 23 _ (hX.blk 4 rfl) size23 rfl (arr_one _) ?_
                    replace hX := hX.setRow 4 rfl (orR a (orR b c)).arr
                    generalize v6.setRow g9 (orR a (orR b c)).arr = v7 at hX ⊢
                    refine hK.out _ _ (hX.take 4) (fun _ => ?_)
                    clear hK K
                    try simp only [Act.put]
                    refine wpAnyH_done (by kernel_rfl) ?_ _
                    go_wp2_with fail
                    go_meet
                    exact ⟨g8, g9, rfl, rfl, hX.perm (.cons _ (.cons _ (.cons _ (.cons _ (.swap _ _ _)))))⟩
            · intro K hK
              go_simp
              obtain ⟨v4, hW, hX⟩ := hX.boxed 23 #[.int .i64 0, .int .i64 0, .int .i64 0, .int .i64 0]
              rw [hW]
              clear hW
              generalize v3.heap.size = g8 at hX ⊢
              refine hK.out _ _ (hX.take 4) (fun _ => ?_)
              clear hK K
              try simp only [Act.put, List.setIfInBounds_toArray, List.set_cons_zero, List.set_cons_succ]
              refine wpAnyH_ready (rs := [7]) (by kernel_rfl) (by simp) ?_
              refine AllReadyH.cons (o := { dst := some 39, op := Op.call { callee := Callee.value (Operand.func 23), args := #[Operand.tmp 35, Operand.tmp 38], argTypes := #[23, 23] }, type := 23, pos := "outright.go:45", after := #[{ on := 3, ground := Ground.data }, { on := 6, ground := Ground.data }, { on := 6, ground := Ground.chain }], guard := none }) rfl ?_ (AllReadyH.nil)
              · intro K hK
                go_simp
                go_at_call 23
                refine (or_any a (orR b c) _).mono ?_
                rintro e v5 ⟨rfl, hb1⟩
                replace hX := hX.grow hb1
                clear hb1
                refine hK.out _ _ (hX.take 4) (fun _ => ?_)
                clear hK K
                try simp only [Act.put, List.setIfInBounds_toArray, List.set_cons_zero, List.set_cons_succ]
                refine wpAnyH_ready (rs := [10]) (by kernel_rfl) (by simp) ?_
                refine AllReadyH.cons (o := { dst := none, op := Op.store 23 (Operand.tmp 8) (Operand.tmp 34), type := 0, pos := "outright.go:45", after := #[{ on := 8, ground := Ground.data }, { on := 2, ground := Ground.data }, { on := 7, ground := Ground.chain }, { on := 0, ground := Ground.phase }, { on := 1, ground := Ground.phase }, { on := 2, ground := Ground.phase }, { on := 3, ground := Ground.textOnly Departure.lateStores }, { on := 4, ground := Ground.textOnly Departure.lateStores }, { on := 5, ground := Ground.textOnly Departure.lateStores }, { on := 6, ground := Ground.textOnly Departure.lateStoresUnsure }, { on := 7, ground := Ground.textOnly Departure.lateStoresUnsure }, { on := 8, ground := Ground.phase }, { on := 9, ground := Ground.phase }], guard := none }) rfl ?_ (AllReadyH.nil)
                · intro K hK
                  rw [if_pos (by rfl)]
                  refine wp_store_row 23 (.tmp 8) (.tmp 34) rfl g8 (orR (orR a b) c).arr (by rfl) (by rfl) 23 _ (hX.blk 5 rfl) size23 rfl (arr_one _) ?_
                  replace hX := hX.setRow 5 rfl (orR (orR a b) c).arr
                  generalize v5.setRow g8 (orR (orR a b) c).arr = v6 at hX ⊢
                  refine hK.out _ _ (hX.take 4) (fun _ => ?_)
                  clear hK K
                  try simp only [Act.put]
                  refine wpAnyH_ready (rs := [11]) (by kernel_rfl) (by simp) ?_
                  refine AllReadyH.cons (o := { dst := none, op := Op.store 23 (Operand.tmp 9) (Operand.tmp 39), type := 0, pos := "outright.go:45", after := #[{ on := 9, ground := Ground.data }, { on := 7, ground := Ground.data }, { on := 10, ground := Ground.chain }, { on := 0, ground := Ground.phase }, { on := 1, ground := Ground.phase }, { on := 2, ground := Ground.phase }, { on := 3, ground := Ground.phase }, { on := 4, ground := Ground.phase }, { on := 5, ground := Ground.phase }, { on := 6, ground := Ground.phase }, { on := 7, ground := Ground.phase }, { on := 8, ground := Ground.phase }, { on := 9, ground := Ground.phase }, { on := 10, ground := Ground.phase }], guard := none }) rfl ?_ (AllReadyH.nil)
                  · intro K hK
                    rw [if_pos (by rfl)]
                    refine wp_store_row 23 (.tmp 9) (.tmp 39) rfl g9 (orR a (orR b c)).arr (by rfl) (by rfl) 23 _ (hX.blk 4 rfl) size23 rfl (arr_one _) ?_
                    replace hX := hX.setRow 4 rfl (orR a (orR b c)).arr
                    generalize v6.setRow g9 (orR a (orR b c)).arr = v7 at hX ⊢
                    refine hK.out _ _ (hX.take 4) (fun _ => ?_)
                    clear hK K
                    try simp only [Act.put]
                    refine wpAnyH_done (by kernel_rfl) ?_ _
                    go_wp2_with fail
                    go_meet
                    exact ⟨g8, g9, rfl, rfl, hX.perm (.cons _ (.cons _ (.cons _ (.cons _ (.swap _ _ _)))))⟩
          · intro K hK
            go_simp
            obtain ⟨v3, hW, hX⟩ := hX.boxed 23 #[.int .i64 0, .int .i64 0, .int .i64 0, .int .i64 0]
            rw [hW]
            clear hW
            generalize v2.heap.size = g8 at hX ⊢
            refine hK.out _ _ (hX.take 4) (fun _ => ?_)
            clear hK K
            try simp only [Act.put, List.setIfInBounds_toArray, List.set_cons_zero, List.set_cons_succ]
            refine wpAnyH_ready (rs := [6]) (by kernel_rfl) (by simp) ?_
            refine AllReadyH.cons (o := { dst := some 38, op := Op.call { callee := Callee.value (Operand.func 23), args := #[Operand.tmp 36, Operand.tmp 37], argTypes := #[23, 23] }, type := 23, pos := "outright.go:45", after := #[{ on := 4, ground := Ground.data }, { on := 5, ground := Ground.data }, { on := 2, ground := Ground.chain }], guard := none }) rfl ?_ (AllReadyH.nil)
            · intro K hK
              go_simp
              go_at_call 23
              refine (or_any b c _).mono ?_
              rintro e v4 ⟨rfl, hb1⟩
              replace hX := hX.grow hb1
              clear hb1
              refine hK.out _ _ (hX.take 4) (fun _ => ?_)
              clear hK K
              try simp only [Act.put, List.setIfInBounds_toArray, List.set_cons_zero, List.set_cons_succ]
              refine wpAnyH_ready (rs := [7]) (by kernel_rfl) (by simp) ?_
              refine AllReadyH.cons (o := { dst := some 39, op := Op.call { callee := Callee.value (Operand.func 23), args := #[Operand.tmp 35, Operand.tmp 38], argTypes := #[23, 23] }, type := 23, pos := "outright.go:45", after := #[{ on := 3, ground := Ground.data }, { on := 6, ground := Ground.data }, { on := 6, ground := Ground.chain }], guard := none }) rfl ?_ (AllReadyH.nil)
              · intro K hK
                go_simp
                go_at_call 23
                refine (or_any a (orR b c) _).mono ?_
                rintro e v5 ⟨rfl, hb1⟩
                replace hX := hX.grow hb1
                clear hb1
                refine hK.out _ _ (hX.take 4) (fun _ => ?_)
                clear hK K
                try simp only [Act.put, List.setIfInBounds_toArray, List.set_cons_zero, List.set_cons_succ]
                refine wpAnyH_ready (rs := [10]) (by kernel_rfl) (by simp) ?_
                refine AllReadyH.cons (o := { dst := none, op := Op.store 23 (Operand.tmp 8) (Operand.tmp 34), type := 0, pos := "outright.go:45", after := #[{ on := 8, ground := Ground.data }, { on := 2, ground := Ground.data }, { on := 7, ground := Ground.chain }, { on := 0, ground := Ground.phase }, { on := 1, ground := Ground.phase }, { on := 2, ground := Ground.phase }, { on := 3, ground := Ground.textOnly Departure.lateStores }, { on := 4, ground := Ground.textOnly Departure.lateStores }, { on := 5, ground := Ground.textOnly Departure.lateStores }, { on := 6, ground := Ground.textOnly Departure.lateStoresUnsure }, { on := 7, ground := Ground.textOnly Departure.lateStoresUnsure }, { on := 8, ground := Ground.phase }, { on := 9, ground := Ground.phase }], guard := none }) rfl ?_ (AllReadyH.nil)
                · intro K hK
                  rw [if_pos (by rfl)]
                  refine wp_store_row 23 (.tmp 8) (.tmp 34) rfl g8 (orR (orR a b) c).arr (by rfl) (by rfl) 23 _ (hX.blk 5 rfl) size23 rfl (arr_one _) ?_
                  replace hX := hX.setRow 5 rfl (orR (orR a b) c).arr
                  generalize v5.setRow g8 (orR (orR a b) c).arr = v6 at hX ⊢
                  refine hK.out _ _ (hX.take 4) (fun _ => ?_)
                  clear hK K
                  try simp only [Act.put]
                  refine wpAnyH_ready (rs := [11]) (by kernel_rfl) (by simp) ?_
                  refine AllReadyH.cons (o := { dst := none, op := Op.store 23 (Operand.tmp 9) (Operand.tmp 39), type := 0, pos := "outright.go:45", after := #[{ on := 9, ground := Ground.data }, { on := 7, ground := Ground.data }, { on := 10, ground := Ground.chain }, { on := 0, ground := Ground.phase }, { on := 1, ground := Ground.phase }, { on := 2, ground := Ground.phase }, { on := 3, ground := Ground.phase }, { on := 4, ground := Ground.phase }, { on := 5, ground := Ground.phase }, { on := 6, ground := Ground.phase }, { on := 7, ground := Ground.phase }, { on := 8, ground := Ground.phase }, { on := 9, ground := Ground.phase }, { on := 10, ground := Ground.phase }], guard := none }) rfl ?_ (AllReadyH.nil)
                  · intro K hK
                    rw [if_pos (by rfl)]
                    refine wp_store_row 23 (.tmp 9) (.tmp 39) rfl g9 (orR a (orR b c)).arr (by rfl) (by rfl) 23 _ (hX.blk 4 rfl) size23 rfl (arr_one _) ?_
                    replace hX := hX.setRow 4 rfl (orR a (orR b c)).arr
                    generalize v6.setRow g9 (orR a (orR b c)).arr = v7 at hX ⊢
                    refine hK.out _ _ (hX.take 4) (fun _ => ?_)
                    clear hK K
                    try simp only [Act.put]
                    refine wpAnyH_done (by kernel_rfl) ?_ _
                    go_wp2_with fail
                    go_meet
                    exact ⟨g8, g9, rfl, rfl, hX.perm (.cons _ (.cons _ (.cons _ (.cons _ (.swap _ _ _)))))⟩
        · intro K hK
          go_simp
          obtain ⟨v2, hW, hX⟩ := hX.boxed 23 #[.int .i64 0, .int .i64 0, .int .i64 0, .int .i64 0]
          rw [hW]
          clear hW
          generalize v1.heap.size = g8 at hX ⊢
          refine hK.out _ _ (hX.take 4) (fun _ => ?_)
          clear hK K
          try simp only [Act.put, List.setIfInBounds_toArray, List.set_cons_zero, List.set_cons_succ]
          refine wpAnyH_ready (rs := [2]) (by kernel_rfl) (by simp) ?_
          refine AllReadyH.cons (o := { dst := some 34, op := Op.call { callee := Callee.value (Operand.func 23), args := #[Operand.tmp 32, Operand.tmp 33], argTypes := #[23, 23] }, type := 23, pos := "outright.go:45", after := #[{ on := 0, ground := Ground.data }, { on := 1, ground := Ground.data }], guard := none }) rfl ?_ (AllReadyH.nil)
          · intro K hK
            go_simp
            go_at_call 23
            refine (or_any (orR a b) c _).mono ?_
            rintro e v3 ⟨rfl, hb1⟩
            replace hX := hX.grow hb1
            clear hb1
            refine hK.out _ _ (hX.take 4) (fun _ => ?_)
            clear hK K
            try simp only [Act.put, List.setIfInBounds_toArray, List.set_cons_zero, List.set_cons_succ]
            refine wpAnyH_ready (rs := [6]) (by kernel_rfl) (by simp) ?_
            refine AllReadyH.cons (o := { dst := some 38, op := Op.call { callee := Callee.value (Operand.func 23), args := #[Operand.tmp 36, Operand.tmp 37], argTypes := #[23, 23] }, type := 23, pos := "outright.go:45", after := #[{ on := 4, ground := Ground.data }, { on := 5, ground := Ground.data }, { on := 2, ground := Ground.chain }], guard := none }) rfl ?_ (AllReadyH.nil)
            · intro K hK
              go_simp
              go_at_call 23
              refine (or_any b c _).mono ?_
              rintro e v4 ⟨rfl, hb1⟩
              replace hX := hX.grow hb1
              clear hb1
              refine hK.out _ _ (hX.take 4) (fun _ => ?_)
              clear hK K
              try simp only [Act.put, List.setIfInBounds_toArray, List.set_cons_zero, List.set_cons_succ]
              refine wpAnyH_ready (rs := [7]) (by kernel_rfl) (by simp) ?_
              refine AllReadyH.cons (o := { dst := some 39, op := Op.call { callee := Callee.value (Operand.func 23), args := #[Operand.tmp 35, Operand.tmp 38], argTypes := #[23, 23] }, type := 23, pos := "outright.go:45", after := #[{ on := 3, ground := Ground.data }, { on := 6, ground := Ground.data }, { on := 6, ground := Ground.chain }], guard := none }) rfl ?_ (AllReadyH.nil)
              · intro K hK
                go_simp
                go_at_call 23
                refine (or_any a (orR b c) _).mono ?_
                rintro e v5 ⟨rfl, hb1⟩
                replace hX := hX.grow hb1
                clear hb1
                refine hK.out _ _ (hX.take 4) (fun _ => ?_)
                clear hK K
                try simp only [Act.put, List.setIfInBounds_toArray, List.set_cons_zero, List.set_cons_succ]
                refine wpAnyH_ready (rs := [10]) (by kernel_rfl) (by simp) ?_
                refine AllReadyH.cons (o := { dst := none, op := Op.store 23 (Operand.tmp 8) (Operand.tmp 34), type := 0, pos := "outright.go:45", after := #[{ on := 8, ground := Ground.data }, { on := 2, ground := Ground.data }, { on := 7, ground := Ground.chain }, { on := 0, ground := Ground.phase }, { on := 1, ground := Ground.phase }, { on := 2, ground := Ground.phase }, { on := 3, ground := Ground.textOnly Departure.lateStores }, { on := 4, ground := Ground.textOnly Departure.lateStores }, { on := 5, ground := Ground.textOnly Departure.lateStores }, { on := 6, ground := Ground.textOnly Departure.lateStoresUnsure }, { on := 7, ground := Ground.textOnly Departure.lateStoresUnsure }, { on := 8, ground := Ground.phase }, { on := 9, ground := Ground.phase }], guard := none }) rfl ?_ (AllReadyH.nil)
                · intro K hK
                  rw [if_pos (by rfl)]
                  refine wp_store_row 23 (.tmp 8) (.tmp 34) rfl g8 (orR (orR a b) c).arr (by rfl) (by rfl) 23 _ (hX.blk 5 rfl) size23 rfl (arr_one _) ?_
                  replace hX := hX.setRow 5 rfl (orR (orR a b) c).arr
                  generalize v5.setRow g8 (orR (orR a b) c).arr = v6 at hX ⊢
                  refine hK.out _ _ (hX.take 4) (fun _ => ?_)
                  clear hK K
                  try simp only [Act.put]
                  refine wpAnyH_ready (rs := [11]) (by kernel_rfl) (by simp) ?_
                  refine AllReadyH.cons (o := { dst := none, op := Op.store 23 (Operand.tmp 9) (Operand.tmp 39), type := 0, pos := "outright.go:45", after := #[{ on := 9, ground := Ground.data }, { on := 7, ground := Ground.data }, { on := 10, ground := Ground.chain }, { on := 0, ground := Ground.phase }, { on := 1, ground := Ground.phase }, { on := 2, ground := Ground.phase }, { on := 3, ground := Ground.phase }, { on := 4, ground := Ground.phase }, { on := 5, ground := Ground.phase }, { on := 6, ground := Ground.phase }, { on := 7, ground := Ground.phase }, { on := 8, ground := Ground.phase }, { on := 9, ground := Ground.phase }, { on := 10, ground := Ground.phase }], guard := none }) rfl ?_ (AllReadyH.nil)
                  · intro K hK
                    rw [if_pos (by rfl)]
                    refine wp_store_row 23 (.tmp 9) (.tmp 39) rfl g9 (orR a (orR b c)).arr (by rfl) (by rfl) 23 _ (hX.blk 4 rfl) size23 rfl (arr_one _) ?_
                    replace hX := hX.setRow 4 rfl (orR a (orR b c)).arr
                    generalize v6.setRow g9 (orR a (orR b c)).arr = v7 at hX ⊢
                    refine hK.out _ _ (hX.take 4) (fun _ => ?_)
                    clear hK K
                    try simp only [Act.put]
                    refine wpAnyH_done (by kernel_rfl) ?_ _
                    go_wp2_with fail
                    go_meet
                    exact ⟨g8, g9, rfl, rfl, hX.perm (.cons _ (.cons _ (.cons _ (.cons _ (.swap _ _ _)))))⟩
    case rest =>
      clear hX
      obtain ⟨g8, g9, rfl, rfl, hX⟩ := hcut
      go_upto_region 5 with (fail)
      go_cut [71] (fun s71 wx => s71 = .bool (lessB a b c) ∧ Sep w wx [cell g3 23 a.arr, cell g4 23 b.arr, cell g5 23 c.arr, cell g7 23 (orR a b).arr, cell g8 23 (orR (orR a b) c).arr, cell g9 23 (orR a (orR b c)).arr])
      case first =>
        cases h0 : a.empty with
        | true =>
          have hl : Hid (lessB a b c = true) := Lib.hid (by simp only [lessB, h0]; rfl)
          have E0 : Hid (emptyB a.x a.y a.w a.h = true) := h0
          clear h0
          have ⟨a0, a1, a2, a3⟩ := (hX.blk 0 rfl).four
          have ⟨b0, b1, b2, b3⟩ := (hX.blk 1 rfl).four
          have ⟨c0, c1, c2, c3⟩ := (hX.blk 2 rfl).four
          have ⟨o0, o1, o2, o3⟩ := (hX.blk 3 rfl).four
          have ⟨x0, x1, x2, x3⟩ := (hX.blk 4 rfl).four
          have ⟨y0, y1, y2, y3⟩ := (hX.blk 5 rfl).four
          go_wp2_with fail
          refine (empty_any a.x a.y a.w a.h _).mono ?_
          rw [E0.out]
          rintro e w1 ⟨rfl, hb1⟩
          replace hX := hX.grow hb1
          clear hb1
          clear a0 a1 a2 a3 b0 b1 b2 b3 c0 c1 c2 c3 o0 o1 o2 o3 x0 x1 x2 x3 y0 y1 y2 y3
          have ⟨a0, a1, a2, a3⟩ := (hX.blk 0 rfl).four
          have ⟨b0, b1, b2, b3⟩ := (hX.blk 1 rfl).four
          have ⟨c0, c1, c2, c3⟩ := (hX.blk 2 rfl).four
          have ⟨o0, o1, o2, o3⟩ := (hX.blk 3 rfl).four
          have ⟨x0, x1, x2, x3⟩ := (hX.blk 4 rfl).four
          have ⟨y0, y1, y2, y3⟩ := (hX.blk 5 rfl).four
          go_wp2_with fail
          clear a0 a1 a2 a3 b0 b1 b2 b3 c0 c1 c2 c3 o0 o1 o2 o3 x0 x1 x2 x3 y0 y1 y2 y3
          go_meet
          exact ⟨by rw [hl.out], hX⟩
        | false =>
          cases h1 : b.empty with
          | true =>
            have hl : Hid (lessB a b c = true) := Lib.hid (by simp only [lessB, h0, h1]; rfl)
            have E0 : Hid (emptyB a.x a.y a.w a.h = false) := h0
            have E1 : Hid (emptyB b.x b.y b.w b.h = true) := h1
            clear h0 h1
            have ⟨a0, a1, a2, a3⟩ := (hX.blk 0 rfl).four
            have ⟨b0, b1, b2, b3⟩ := (hX.blk 1 rfl).four
            have ⟨c0, c1, c2, c3⟩ := (hX.blk 2 rfl).four
            have ⟨o0, o1, o2, o3⟩ := (hX.blk 3 rfl).four
            have ⟨x0, x1, x2, x3⟩ := (hX.blk 4 rfl).four
            have ⟨y0, y1, y2, y3⟩ := (hX.blk 5 rfl).four
            go_wp2_with fail
            refine (empty_any a.x a.y a.w a.h _).mono ?_
            rw [E0.out]
            rintro e w1 ⟨rfl, hb1⟩
            replace hX := hX.grow hb1
            clear hb1
            clear a0 a1 a2 a3 b0 b1 b2 b3 c0 c1 c2 c3 o0 o1 o2 o3 x0 x1 x2 x3 y0 y1 y2 y3
            have ⟨a0, a1, a2, a3⟩ := (hX.blk 0 rfl).four
            have ⟨b0, b1, b2, b3⟩ := (hX.blk 1 rfl).four
            have ⟨c0, c1, c2, c3⟩ := (hX.blk 2 rfl).four
            have ⟨o0, o1, o2, o3⟩ := (hX.blk 3 rfl).four
            have ⟨x0, x1, x2, x3⟩ := (hX.blk 4 rfl).four
            have ⟨y0, y1, y2, y3⟩ := (hX.blk 5 rfl).four
            go_wp2_with fail
            refine (empty_any b.x b.y b.w b.h _).mono ?_
            rw [E1.out]
            rintro e w1 ⟨rfl, hb1⟩
            replace hX := hX.grow hb1
            clear hb1
            clear a0 a1 a2 a3 b0 b1 b2 b3 c0 c1 c2 c3 o0 o1 o2 o3 x0 x1 x2 x3 y0 y1 y2 y3
            have ⟨a0, a1, a2, a3⟩ := (hX.blk 0 rfl).four
            have ⟨b0, b1, b2, b3⟩ := (hX.blk 1 rfl).four
            have ⟨c0, c1, c2, c3⟩ := (hX.blk 2 rfl).four
            have ⟨o0, o1, o2, o3⟩ := (hX.blk 3 rfl).four
            have ⟨x0, x1, x2, x3⟩ := (hX.blk 4 rfl).four
            have ⟨y0, y1, y2, y3⟩ := (hX.blk 5 rfl).four
            go_wp2_with fail
            clear a0 a1 a2 a3 b0 b1 b2 b3 c0 c1 c2 c3 o0 o1 o2 o3 x0 x1 x2 x3 y0 y1 y2 y3
            go_meet
            exact ⟨by rw [hl.out], hX⟩
          | false =>
            cases h2 : c.empty with
            | true =>
              have hl : Hid (lessB a b c = true) := Lib.hid (by simp only [lessB, h0, h1, h2]; rfl)
              have E0 : Hid (emptyB a.x a.y a.w a.h = false) := h0
              have E1 : Hid (emptyB b.x b.y b.w b.h = false) := h1
              have E2 : Hid (emptyB c.x c.y c.w c.h = true) := h2
              clear h0 h1 h2
              have ⟨a0, a1, a2, a3⟩ := (hX.blk 0 rfl).four
              have ⟨b0, b1, b2, b3⟩ := (hX.blk 1 rfl).four
              have ⟨c0, c1, c2, c3⟩ := (hX.blk 2 rfl).four
              have ⟨o0, o1, o2, o3⟩ := (hX.blk 3 rfl).four
              have ⟨x0, x1, x2, x3⟩ := (hX.blk 4 rfl).four
              have ⟨y0, y1, y2, y3⟩ := (hX.blk 5 rfl).four
              go_wp2_with fail
              refine (empty_any a.x a.y a.w a.h _).mono ?_
              rw [E0.out]
              rintro e w1 ⟨rfl, hb1⟩
              replace hX := hX.grow hb1
              clear hb1
              clear a0 a1 a2 a3 b0 b1 b2 b3 c0 c1 c2 c3 o0 o1 o2 o3 x0 x1 x2 x3 y0 y1 y2 y3
              have ⟨a0, a1, a2, a3⟩ := (hX.blk 0 rfl).four
              have ⟨b0, b1, b2, b3⟩ := (hX.blk 1 rfl).four
              have ⟨c0, c1, c2, c3⟩ := (hX.blk 2 rfl).four
              have ⟨o0, o1, o2, o3⟩ := (hX.blk 3 rfl).four
              have ⟨x0, x1, x2, x3⟩ := (hX.blk 4 rfl).four
              have ⟨y0, y1, y2, y3⟩ := (hX.blk 5 rfl).four
              go_wp2_with fail
              refine (empty_any b.x b.y b.w b.h _).mono ?_
              rw [E1.out]
              rintro e w1 ⟨rfl, hb1⟩
              replace hX := hX.grow hb1
              clear hb1
              clear a0 a1 a2 a3 b0 b1 b2 b3 c0 c1 c2 c3 o0 o1 o2 o3 x0 x1 x2 x3 y0 y1 y2 y3
              have ⟨a0, a1, a2, a3⟩ := (hX.blk 0 rfl).four
              have ⟨b0, b1, b2, b3⟩ := (hX.blk 1 rfl).four
              have ⟨c0, c1, c2, c3⟩ := (hX.blk 2 rfl).four
              have ⟨o0, o1, o2, o3⟩ := (hX.blk 3 rfl).four
              have ⟨x0, x1, x2, x3⟩ := (hX.blk 4 rfl).four
              have ⟨y0, y1, y2, y3⟩ := (hX.blk 5 rfl).four
              go_wp2_with fail
              refine (empty_any c.x c.y c.w c.h _).mono ?_
              rw [E2.out]
              rintro e w1 ⟨rfl, hb1⟩
              replace hX := hX.grow hb1
              clear hb1
              clear a0 a1 a2 a3 b0 b1 b2 b3 c0 c1 c2 c3 o0 o1 o2 o3 x0 x1 x2 x3 y0 y1 y2 y3
              have ⟨a0, a1, a2, a3⟩ := (hX.blk 0 rfl).four
              have ⟨b0, b1, b2, b3⟩ := (hX.blk 1 rfl).four
              have ⟨c0, c1, c2, c3⟩ := (hX.blk 2 rfl).four
              have ⟨o0, o1, o2, o3⟩ := (hX.blk 3 rfl).four
              have ⟨x0, x1, x2, x3⟩ := (hX.blk 4 rfl).four
              have ⟨y0, y1, y2, y3⟩ := (hX.blk 5 rfl).four
              go_wp2_with fail
              clear a0 a1 a2 a3 b0 b1 b2 b3 c0 c1 c2 c3 o0 o1 o2 o3 x0 x1 x2 x3 y0 y1 y2 y3
              go_meet
              exact ⟨by rw [hl.out], hX⟩
            | false =>
              cases h3 : eqR (orR (orR a b) c) zeroR with
              | true =>
                have hl : Hid (lessB a b c = true) := Lib.hid (by simp only [lessB, h0, h1, h2, h3]; rfl)
                have E0 : Hid (emptyB a.x a.y a.w a.h = false) := h0
                have E1 : Hid (emptyB b.x b.y b.w b.h = false) := h1
                have E2 : Hid (emptyB c.x c.y c.w c.h = false) := h2
                have q3 : ∀ w, (binOp .eql 23 (orR (orR a b) c).v (.agg #[.int .i64 0, .int .i64 0, .int .i64 0, .int .i64 0])).run Try.prog w = .ok (.bool true) w := fun w => (run_eqR (orR (orR a b) c) (zeroR) w).trans (by rw [h3])
                clear h0 h1 h2 h3
                have ⟨a0, a1, a2, a3⟩ := (hX.blk 0 rfl).four
                have ⟨b0, b1, b2, b3⟩ := (hX.blk 1 rfl).four
                have ⟨c0, c1, c2, c3⟩ := (hX.blk 2 rfl).four
                have ⟨o0, o1, o2, o3⟩ := (hX.blk 3 rfl).four
                have ⟨x0, x1, x2, x3⟩ := (hX.blk 4 rfl).four
                have ⟨y0, y1, y2, y3⟩ := (hX.blk 5 rfl).four
                go_wp2_with fail
                refine (empty_any a.x a.y a.w a.h _).mono ?_
                rw [E0.out]
                rintro e w1 ⟨rfl, hb1⟩
                replace hX := hX.grow hb1
                clear hb1
                clear a0 a1 a2 a3 b0 b1 b2 b3 c0 c1 c2 c3 o0 o1 o2 o3 x0 x1 x2 x3 y0 y1 y2 y3
                have ⟨a0, a1, a2, a3⟩ := (hX.blk 0 rfl).four
                have ⟨b0, b1, b2, b3⟩ := (hX.blk 1 rfl).four
                have ⟨c0, c1, c2, c3⟩ := (hX.blk 2 rfl).four
                have ⟨o0, o1, o2, o3⟩ := (hX.blk 3 rfl).four
                have ⟨x0, x1, x2, x3⟩ := (hX.blk 4 rfl).four
                have ⟨y0, y1, y2, y3⟩ := (hX.blk 5 rfl).four
                go_wp2_with fail
                refine (empty_any b.x b.y b.w b.h _).mono ?_
                rw [E1.out]
                rintro e w1 ⟨rfl, hb1⟩
                replace hX := hX.grow hb1
                clear hb1
                clear a0 a1 a2 a3 b0 b1 b2 b3 c0 c1 c2 c3 o0 o1 o2 o3 x0 x1 x2 x3 y0 y1 y2 y3
                have ⟨a0, a1, a2, a3⟩ := (hX.blk 0 rfl).four
                have ⟨b0, b1, b2, b3⟩ := (hX.blk 1 rfl).four
                have ⟨c0, c1, c2, c3⟩ := (hX.blk 2 rfl).four
                have ⟨o0, o1, o2, o3⟩ := (hX.blk 3 rfl).four
                have ⟨x0, x1, x2, x3⟩ := (hX.blk 4 rfl).four
                have ⟨y0, y1, y2, y3⟩ := (hX.blk 5 rfl).four
                go_wp2_with fail
                refine (empty_any c.x c.y c.w c.h _).mono ?_
                rw [E2.out]
                rintro e w1 ⟨rfl, hb1⟩
                replace hX := hX.grow hb1
                clear hb1
                clear a0 a1 a2 a3 b0 b1 b2 b3 c0 c1 c2 c3 o0 o1 o2 o3 x0 x1 x2 x3 y0 y1 y2 y3
                have ⟨a0, a1, a2, a3⟩ := (hX.blk 0 rfl).four
                have ⟨b0, b1, b2, b3⟩ := (hX.blk 1 rfl).four
                have ⟨c0, c1, c2, c3⟩ := (hX.blk 2 rfl).four
                have ⟨o0, o1, o2, o3⟩ := (hX.blk 3 rfl).four
                have ⟨x0, x1, x2, x3⟩ := (hX.blk 4 rfl).four
                have ⟨y0, y1, y2, y3⟩ := (hX.blk 5 rfl).four
                go_wp2_with fail
                clear a0 a1 a2 a3 b0 b1 b2 b3 c0 c1 c2 c3 o0 o1 o2 o3 x0 x1 x2 x3 y0 y1 y2 y3
                go_meet
                exact ⟨by rw [hl.out], hX⟩
              | false =>
                cases h4 : eqR (orR a (orR b c)) zeroR with
                | true =>
                  have hl : Hid (lessB a b c = true) := Lib.hid (by simp only [lessB, h0, h1, h2, h3, h4]; rfl)
                  have E0 : Hid (emptyB a.x a.y a.w a.h = false) := h0
                  have E1 : Hid (emptyB b.x b.y b.w b.h = false) := h1
                  have E2 : Hid (emptyB c.x c.y c.w c.h = false) := h2
                  have q3 : ∀ w, (binOp .eql 23 (orR (orR a b) c).v (.agg #[.int .i64 0, .int .i64 0, .int .i64 0, .int .i64 0])).run Try.prog w = .ok (.bool false) w := fun w => (run_eqR (orR (orR a b) c) (zeroR) w).trans (by rw [h3])
                  have q4 : ∀ w, (binOp .eql 23 (orR a (orR b c)).v (.agg #[.int .i64 0, .int .i64 0, .int .i64 0, .int .i64 0])).run Try.prog w = .ok (.bool true) w := fun w => (run_eqR (orR a (orR b c)) (zeroR) w).trans (by rw [h4])
                  clear h0 h1 h2 h3 h4
                  have ⟨a0, a1, a2, a3⟩ := (hX.blk 0 rfl).four
                  have ⟨b0, b1, b2, b3⟩ := (hX.blk 1 rfl).four
                  have ⟨c0, c1, c2, c3⟩ := (hX.blk 2 rfl).four
                  have ⟨o0, o1, o2, o3⟩ := (hX.blk 3 rfl).four
                  have ⟨x0, x1, x2, x3⟩ := (hX.blk 4 rfl).four
                  have ⟨y0, y1, y2, y3⟩ := (hX.blk 5 rfl).four
                  go_wp2_with fail
                  refine (empty_any a.x a.y a.w a.h _).mono ?_
                  rw [E0.out]
                  rintro e w1 ⟨rfl, hb1⟩
                  replace hX := hX.grow hb1
                  clear hb1
                  clear a0 a1 a2 a3 b0 b1 b2 b3 c0 c1 c2 c3 o0 o1 o2 o3 x0 x1 x2 x3 y0 y1 y2 y3
                  have ⟨a0, a1, a2, a3⟩ := (hX.blk 0 rfl).four
                  have ⟨b0, b1, b2, b3⟩ := (hX.blk 1 rfl).four
                  have ⟨c0, c1, c2, c3⟩ := (hX.blk 2 rfl).four
                  have ⟨o0, o1, o2, o3⟩ := (hX.blk 3 rfl).four
                  have ⟨x0, x1, x2, x3⟩ := (hX.blk 4 rfl).four
                  have ⟨y0, y1, y2, y3⟩ := (hX.blk 5 rfl).four
                  go_wp2_with fail
                  refine (empty_any b.x b.y b.w b.h _).mono ?_
                  rw [E1.out]
                  rintro e w1 ⟨rfl, hb1⟩
                  replace hX := hX.grow hb1
                  clear hb1
                  clear a0 a1 a2 a3 b0 b1 b2 b3 c0 c1 c2 c3 o0 o1 o2 o3 x0 x1 x2 x3 y0 y1 y2 y3
                  have ⟨a0, a1, a2, a3⟩ := (hX.blk 0 rfl).four
                  have ⟨b0, b1, b2, b3⟩ := (hX.blk 1 rfl).four
                  have ⟨c0, c1, c2, c3⟩ := (hX.blk 2 rfl).four
                  have ⟨o0, o1, o2, o3⟩ := (hX.blk 3 rfl).four
                  have ⟨x0, x1, x2, x3⟩ := (hX.blk 4 rfl).four
                  have ⟨y0, y1, y2, y3⟩ := (hX.blk 5 rfl).four
                  go_wp2_with fail
                  refine (empty_any c.x c.y c.w c.h _).mono ?_
                  rw [E2.out]
                  rintro e w1 ⟨rfl, hb1⟩
                  replace hX := hX.grow hb1
                  clear hb1
                  clear a0 a1 a2 a3 b0 b1 b2 b3 c0 c1 c2 c3 o0 o1 o2 o3 x0 x1 x2 x3 y0 y1 y2 y3
                  have ⟨a0, a1, a2, a3⟩ := (hX.blk 0 rfl).four
                  have ⟨b0, b1, b2, b3⟩ := (hX.blk 1 rfl).four
                  have ⟨c0, c1, c2, c3⟩ := (hX.blk 2 rfl).four
                  have ⟨o0, o1, o2, o3⟩ := (hX.blk 3 rfl).four
                  have ⟨x0, x1, x2, x3⟩ := (hX.blk 4 rfl).four
                  have ⟨y0, y1, y2, y3⟩ := (hX.blk 5 rfl).four
                  go_wp2_with fail
                  clear a0 a1 a2 a3 b0 b1 b2 b3 c0 c1 c2 c3 o0 o1 o2 o3 x0 x1 x2 x3 y0 y1 y2 y3
                  go_meet
                  exact ⟨by rw [hl.out], hX⟩
                | false =>
                  cases h5 : eqR (orR a b) zeroR with
                  | true =>
                    have hl : Hid (lessB a b c = true) := Lib.hid (by simp only [lessB, h0, h1, h2, h3, h4, h5]; rfl)
                    have E0 : Hid (emptyB a.x a.y a.w a.h = false) := h0
                    have E1 : Hid (emptyB b.x b.y b.w b.h = false) := h1
                    have E2 : Hid (emptyB c.x c.y c.w c.h = false) := h2
                    have q3 : ∀ w, (binOp .eql 23 (orR (orR a b) c).v (.agg #[.int .i64 0, .int .i64 0, .int .i64 0, .int .i64 0])).run Try.prog w = .ok (.bool false) w := fun w => (run_eqR (orR (orR a b) c) (zeroR) w).trans (by rw [h3])
                    have q4 : ∀ w, (binOp .eql 23 (orR a (orR b c)).v (.agg #[.int .i64 0, .int .i64 0, .int .i64 0, .int .i64 0])).run Try.prog w = .ok (.bool false) w := fun w => (run_eqR (orR a (orR b c)) (zeroR) w).trans (by rw [h4])
                    have q5 : ∀ w, (binOp .eql 23 (orR a b).v (.agg #[.int .i64 0, .int .i64 0, .int .i64 0, .int .i64 0])).run Try.prog w = .ok (.bool true) w := fun w => (run_eqR (orR a b) (zeroR) w).trans (by rw [h5])
                    clear h0 h1 h2 h3 h4 h5
                    have ⟨a0, a1, a2, a3⟩ := (hX.blk 0 rfl).four
                    have ⟨b0, b1, b2, b3⟩ := (hX.blk 1 rfl).four
                    have ⟨c0, c1, c2, c3⟩ := (hX.blk 2 rfl).four
                    have ⟨o0, o1, o2, o3⟩ := (hX.blk 3 rfl).four
                    have ⟨x0, x1, x2, x3⟩ := (hX.blk 4 rfl).four
                    have ⟨y0, y1, y2, y3⟩ := (hX.blk 5 rfl).four
                    go_wp2_with fail
                    refine (empty_any a.x a.y a.w a.h _).mono ?_
                    rw [E0.out]
                    rintro e w1 ⟨rfl, hb1⟩
                    replace hX := hX.grow hb1
                    clear hb1
                    clear a0 a1 a2 a3 b0 b1 b2 b3 c0 c1 c2 c3 o0 o1 o2 o3 x0 x1 x2 x3 y0 y1 y2 y3
                    have ⟨a0, a1, a2, a3⟩ := (hX.blk 0 rfl).four
                    have ⟨b0, b1, b2, b3⟩ := (hX.blk 1 rfl).four
                    have ⟨c0, c1, c2, c3⟩ := (hX.blk 2 rfl).four
                    have ⟨o0, o1, o2, o3⟩ := (hX.blk 3 rfl).four
                    have ⟨x0, x1, x2, x3⟩ := (hX.blk 4 rfl).four
                    have ⟨y0, y1, y2, y3⟩ := (hX.blk 5 rfl).four
                    go_wp2_with fail
                    refine (empty_any b.x b.y b.w b.h _).mono ?_
                    rw [E1.out]
                    rintro e w1 ⟨rfl, hb1⟩
                    replace hX := hX.grow hb1
                    clear hb1
                    clear a0 a1 a2 a3 b0 b1 b2 b3 c0 c1 c2 c3 o0 o1 o2 o3 x0 x1 x2 x3 y0 y1 y2 y3
                    have ⟨a0, a1, a2, a3⟩ := (hX.blk 0 rfl).four
                    have ⟨b0, b1, b2, b3⟩ := (hX.blk 1 rfl).four
                    have ⟨c0, c1, c2, c3⟩ := (hX.blk 2 rfl).four
                    have ⟨o0, o1, o2, o3⟩ := (hX.blk 3 rfl).four
                    have ⟨x0, x1, x2, x3⟩ := (hX.blk 4 rfl).four
                    have ⟨y0, y1, y2, y3⟩ := (hX.blk 5 rfl).four
                    go_wp2_with fail
                    refine (empty_any c.x c.y c.w c.h _).mono ?_
                    rw [E2.out]
                    rintro e w1 ⟨rfl, hb1⟩
                    replace hX := hX.grow hb1
                    clear hb1
                    clear a0 a1 a2 a3 b0 b1 b2 b3 c0 c1 c2 c3 o0 o1 o2 o3 x0 x1 x2 x3 y0 y1 y2 y3
                    have ⟨a0, a1, a2, a3⟩ := (hX.blk 0 rfl).four
                    have ⟨b0, b1, b2, b3⟩ := (hX.blk 1 rfl).four
                    have ⟨c0, c1, c2, c3⟩ := (hX.blk 2 rfl).four
                    have ⟨o0, o1, o2, o3⟩ := (hX.blk 3 rfl).four
                    have ⟨x0, x1, x2, x3⟩ := (hX.blk 4 rfl).four
                    have ⟨y0, y1, y2, y3⟩ := (hX.blk 5 rfl).four
                    go_wp2_with fail
                    clear a0 a1 a2 a3 b0 b1 b2 b3 c0 c1 c2 c3 o0 o1 o2 o3 x0 x1 x2 x3 y0 y1 y2 y3
                    go_meet
                    exact ⟨by rw [hl.out], hX⟩
                  | false =>
                    cases h6 : eqR (orR b c) zeroR with
                    | true =>
                      have hl : Hid (lessB a b c = true) := Lib.hid (by simp only [lessB, h0, h1, h2, h3, h4, h5, h6]; rfl)
                      have E0 : Hid (emptyB a.x a.y a.w a.h = false) := h0
                      have E1 : Hid (emptyB b.x b.y b.w b.h = false) := h1
                      have E2 : Hid (emptyB c.x c.y c.w c.h = false) := h2
                      have q3 : ∀ w, (binOp .eql 23 (orR (orR a b) c).v (.agg #[.int .i64 0, .int .i64 0, .int .i64 0, .int .i64 0])).run Try.prog w = .ok (.bool false) w := fun w => (run_eqR (orR (orR a b) c) (zeroR) w).trans (by rw [h3])
                      have q4 : ∀ w, (binOp .eql 23 (orR a (orR b c)).v (.agg #[.int .i64 0, .int .i64 0, .int .i64 0, .int .i64 0])).run Try.prog w = .ok (.bool false) w := fun w => (run_eqR (orR a (orR b c)) (zeroR) w).trans (by rw [h4])
                      have q5 : ∀ w, (binOp .eql 23 (orR a b).v (.agg #[.int .i64 0, .int .i64 0, .int .i64 0, .int .i64 0])).run Try.prog w = .ok (.bool false) w := fun w => (run_eqR (orR a b) (zeroR) w).trans (by rw [h5])
                      have q6 : ∀ w, (binOp .eql 23 (orR b c).v (.agg #[.int .i64 0, .int .i64 0, .int .i64 0, .int .i64 0])).run Try.prog w = .ok (.bool true) w := fun w => (run_eqR (orR b c) (zeroR) w).trans (by rw [h6])
                      clear h0 h1 h2 h3 h4 h5 h6
                      have ⟨a0, a1, a2, a3⟩ := (hX.blk 0 rfl).four
                      have ⟨b0, b1, b2, b3⟩ := (hX.blk 1 rfl).four
                      have ⟨c0, c1, c2, c3⟩ := (hX.blk 2 rfl).four
                      have ⟨o0, o1, o2, o3⟩ := (hX.blk 3 rfl).four
                      have ⟨x0, x1, x2, x3⟩ := (hX.blk 4 rfl).four
                      have ⟨y0, y1, y2, y3⟩ := (hX.blk 5 rfl).four
                      go_wp2_with fail
                      refine (empty_any a.x a.y a.w a.h _).mono ?_
                      rw [E0.out]
                      rintro e w1 ⟨rfl, hb1⟩
                      replace hX := hX.grow hb1
                      clear hb1
                      clear a0 a1 a2 a3 b0 b1 b2 b3 c0 c1 c2 c3 o0 o1 o2 o3 x0 x1 x2 x3 y0 y1 y2 y3
                      have ⟨a0, a1, a2, a3⟩ := (hX.blk 0 rfl).four
                      have ⟨b0, b1, b2, b3⟩ := (hX.blk 1 rfl).four
                      have ⟨c0, c1, c2, c3⟩ := (hX.blk 2 rfl).four
                      have ⟨o0, o1, o2, o3⟩ := (hX.blk 3 rfl).four
                      have ⟨x0, x1, x2, x3⟩ := (hX.blk 4 rfl).four
                      have ⟨y0, y1, y2, y3⟩ := (hX.blk 5 rfl).four
                      go_wp2_with fail
                      refine (empty_any b.x b.y b.w b.h _).mono ?_
                      rw [E1.out]
                      rintro e w1 ⟨rfl, hb1⟩
                      replace hX := hX.grow hb1
                      clear hb1
                      clear a0 a1 a2 a3 b0 b1 b2 b3 c0 c1 c2 c3 o0 o1 o2 o3 x0 x1 x2 x3 y0 y1 y2 y3
                      have ⟨a0, a1, a2, a3⟩ := (hX.blk 0 rfl).four
                      have ⟨b0, b1, b2, b3⟩ := (hX.blk 1 rfl).four
                      have ⟨c0, c1, c2, c3⟩ := (hX.blk 2 rfl).four
                      have ⟨o0, o1, o2, o3⟩ := (hX.blk 3 rfl).four
                      have ⟨x0, x1, x2, x3⟩ := (hX.blk 4 rfl).four
                      have ⟨y0, y1, y2, y3⟩ := (hX.blk 5 rfl).four
                      go_wp2_with fail
                      refine (empty_any c.x c.y c.w c.h _).mono ?_
                      rw [E2.out]
                      rintro e w1 ⟨rfl, hb1⟩
                      replace hX := hX.grow hb1
                      clear hb1
                      clear a0 a1 a2 a3 b0 b1 b2 b3 c0 c1 c2 c3 o0 o1 o2 o3 x0 x1 x2 x3 y0 y1 y2 y3
                      have ⟨a0, a1, a2, a3⟩ := (hX.blk 0 rfl).four
                      have ⟨b0, b1, b2, b3⟩ := (hX.blk 1 rfl).four
                      have ⟨c0, c1, c2, c3⟩ := (hX.blk 2 rfl).four
                      have ⟨o0, o1, o2, o3⟩ := (hX.blk 3 rfl).four
                      have ⟨x0, x1, x2, x3⟩ := (hX.blk 4 rfl).four
                      have ⟨y0, y1, y2, y3⟩ := (hX.blk 5 rfl).four
                      go_wp2_with fail
                      refine (or_any b c _).mono ?_
                      rintro e w1 ⟨rfl, hb1⟩
                      replace hX := hX.grow hb1
                      clear hb1
                      clear a0 a1 a2 a3 b0 b1 b2 b3 c0 c1 c2 c3 o0 o1 o2 o3 x0 x1 x2 x3 y0 y1 y2 y3
                      have ⟨a0, a1, a2, a3⟩ := (hX.blk 0 rfl).four
                      have ⟨b0, b1, b2, b3⟩ := (hX.blk 1 rfl).four
                      have ⟨c0, c1, c2, c3⟩ := (hX.blk 2 rfl).four
                      have ⟨o0, o1, o2, o3⟩ := (hX.blk 3 rfl).four
                      have ⟨x0, x1, x2, x3⟩ := (hX.blk 4 rfl).four
                      have ⟨y0, y1, y2, y3⟩ := (hX.blk 5 rfl).four
                      go_wp2_with fail
                      clear a0 a1 a2 a3 b0 b1 b2 b3 c0 c1 c2 c3 o0 o1 o2 o3 x0 x1 x2 x3 y0 y1 y2 y3
                      go_meet
                      exact ⟨by rw [hl.out], hX⟩
                    | false =>
                      have hl : Hid (lessB a b c = false) := Lib.hid (by simp only [lessB, h0, h1, h2, h3, h4, h5, h6]; rfl)
                      have E0 : Hid (emptyB a.x a.y a.w a.h = false) := h0
                      have E1 : Hid (emptyB b.x b.y b.w b.h = false) := h1
                      have E2 : Hid (emptyB c.x c.y c.w c.h = false) := h2
                      have q3 : ∀ w, (binOp .eql 23 (orR (orR a b) c).v (.agg #[.int .i64 0, .int .i64 0, .int .i64 0, .int .i64 0])).run Try.prog w = .ok (.bool false) w := fun w => (run_eqR (orR (orR a b) c) (zeroR) w).trans (by rw [h3])
                      have q4 : ∀ w, (binOp .eql 23 (orR a (orR b c)).v (.agg #[.int .i64 0, .int .i64 0, .int .i64 0, .int .i64 0])).run Try.prog w = .ok (.bool false) w := fun w => (run_eqR (orR a (orR b c)) (zeroR) w).trans (by rw [h4])
                      have q5 : ∀ w, (binOp .eql 23 (orR a b).v (.agg #[.int .i64 0, .int .i64 0, .int .i64 0, .int .i64 0])).run Try.prog w = .ok (.bool false) w := fun w => (run_eqR (orR a b) (zeroR) w).trans (by rw [h5])
                      have q6 : ∀ w, (binOp .eql 23 (orR b c).v (.agg #[.int .i64 0, .int .i64 0, .int .i64 0, .int .i64 0])).run Try.prog w = .ok (.bool false) w := fun w => (run_eqR (orR b c) (zeroR) w).trans (by rw [h6])
                      clear h0 h1 h2 h3 h4 h5 h6
                      have ⟨a0, a1, a2, a3⟩ := (hX.blk 0 rfl).four
                      have ⟨b0, b1, b2, b3⟩ := (hX.blk 1 rfl).four
                      have ⟨c0, c1, c2, c3⟩ := (hX.blk 2 rfl).four
                      have ⟨o0, o1, o2, o3⟩ := (hX.blk 3 rfl).four
                      have ⟨x0, x1, x2, x3⟩ := (hX.blk 4 rfl).four
                      have ⟨y0, y1, y2, y3⟩ := (hX.blk 5 rfl).four
                      go_wp2_with fail
                      refine (empty_any a.x a.y a.w a.h _).mono ?_
                      rw [E0.out]
                      rintro e w1 ⟨rfl, hb1⟩
                      replace hX := hX.grow hb1
                      clear hb1
                      clear a0 a1 a2 a3 b0 b1 b2 b3 c0 c1 c2 c3 o0 o1 o2 o3 x0 x1 x2 x3 y0 y1 y2 y3
                      have ⟨a0, a1, a2, a3⟩ := (hX.blk 0 rfl).four
                      have ⟨b0, b1, b2, b3⟩ := (hX.blk 1 rfl).four
                      have ⟨c0, c1, c2, c3⟩ := (hX.blk 2 rfl).four
                      have ⟨o0, o1, o2, o3⟩ := (hX.blk 3 rfl).four
                      have ⟨x0, x1, x2, x3⟩ := (hX.blk 4 rfl).four
                      have ⟨y0, y1, y2, y3⟩ := (hX.blk 5 rfl).four
                      go_wp2_with fail
                      refine (empty_any b.x b.y b.w b.h _).mono ?_
                      rw [E1.out]
                      rintro e w1 ⟨rfl, hb1⟩
                      replace hX := hX.grow hb1
                      clear hb1
                      clear a0 a1 a2 a3 b0 b1 b2 b3 c0 c1 c2 c3 o0 o1 o2 o3 x0 x1 x2 x3 y0 y1 y2 y3
                      have ⟨a0, a1, a2, a3⟩ := (hX.blk 0 rfl).four
                      have ⟨b0, b1, b2, b3⟩ := (hX.blk 1 rfl).four
                      have ⟨c0, c1, c2, c3⟩ := (hX.blk 2 rfl).four
                      have ⟨o0, o1, o2, o3⟩ := (hX.blk 3 rfl).four
                      have ⟨x0, x1, x2, x3⟩ := (hX.blk 4 rfl).four
                      have ⟨y0, y1, y2, y3⟩ := (hX.blk 5 rfl).four
                      go_wp2_with fail
                      refine (empty_any c.x c.y c.w c.h _).mono ?_
                      rw [E2.out]
                      rintro e w1 ⟨rfl, hb1⟩
                      replace hX := hX.grow hb1
                      clear hb1
                      clear a0 a1 a2 a3 b0 b1 b2 b3 c0 c1 c2 c3 o0 o1 o2 o3 x0 x1 x2 x3 y0 y1 y2 y3
                      have ⟨a0, a1, a2, a3⟩ := (hX.blk 0 rfl).four
                      have ⟨b0, b1, b2, b3⟩ := (hX.blk 1 rfl).four
                      have ⟨c0, c1, c2, c3⟩ := (hX.blk 2 rfl).four
                      have ⟨o0, o1, o2, o3⟩ := (hX.blk 3 rfl).four
                      have ⟨x0, x1, x2, x3⟩ := (hX.blk 4 rfl).four
                      have ⟨y0, y1, y2, y3⟩ := (hX.blk 5 rfl).four
                      go_wp2_with fail
                      refine (or_any b c _).mono ?_
                      rintro e w1 ⟨rfl, hb1⟩
                      replace hX := hX.grow hb1
                      clear hb1
                      clear a0 a1 a2 a3 b0 b1 b2 b3 c0 c1 c2 c3 o0 o1 o2 o3 x0 x1 x2 x3 y0 y1 y2 y3
                      have ⟨a0, a1, a2, a3⟩ := (hX.blk 0 rfl).four
                      have ⟨b0, b1, b2, b3⟩ := (hX.blk 1 rfl).four
                      have ⟨c0, c1, c2, c3⟩ := (hX.blk 2 rfl).four
                      have ⟨o0, o1, o2, o3⟩ := (hX.blk 3 rfl).four
                      have ⟨x0, x1, x2, x3⟩ := (hX.blk 4 rfl).four
                      have ⟨y0, y1, y2, y3⟩ := (hX.blk 5 rfl).four
                      go_wp2_with fail
                      clear a0 a1 a2 a3 b0 b1 b2 b3 c0 c1 c2 c3 o0 o1 o2 o3 x0 x1 x2 x3 y0 y1 y2 y3
                      go_meet
                      exact ⟨by rw [hl.out], hX⟩
      case rest =>
        clear hX
        obtain ⟨rfl, hX⟩ := hcut
        cases hl : lessB a b c with
        | true =>
          clear hl
          go_wp2_with fail
          refine (wakes_any _).mono ?_
          rintro e w1 ⟨rfl, hb1⟩
          replace hX := hX.grow hb1
          clear hb1
          go_wp2_with fail
          go_ret
          exact ⟨rfl, H3.out ▸ hX.below⟩
        | false =>
          have heq := less_eq hl
          have qe : ∀ w, (binOp .eql 23 (orR (orR a b) c).v ((orR a (orR b c)).v)).run Try.prog w = .ok (.bool true) w := fun w => (run_eqR (orR (orR a b) c) (orR a (orR b c)) w).trans (by rw [heq])
          clear hl heq
          have ⟨x0, x1, x2, x3⟩ := (hX.blk 4 rfl).four
          have ⟨y0, y1, y2, y3⟩ := (hX.blk 5 rfl).four
          go_wp2_with fail
          refine (wakes_any _).mono ?_
          rintro e w1 ⟨rfl, hb1⟩
          replace hX := hX.grow hb1
          clear hb1
          clear x0 x1 x2 x3 y0 y1 y2 y3
          go_wp2_with fail
          go_ret
          exact ⟨rfl, H3.out ▸ hX.below⟩
end Go.Proofs.Ytlmnfcocgocjiaa
