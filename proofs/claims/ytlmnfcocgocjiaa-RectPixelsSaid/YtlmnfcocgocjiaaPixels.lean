/- The walk of RectPixels: rectangles are sets of pixels. -/
import Derived.Test.YtlmnfcocgocjiaaPlainOr
import Derived.Test.YtlmnfcocgocjiaaWakes
import Derived.Test.YtlmnfcocgocjiaaHeld
import Derived.Test.YtlmnfcocgocjiaaSep
namespace Go.Proofs.Ytlmnfcocgocjiaa
open Go.RowKit
theorem arr_one (r : Rc) : r.arr.all (·.oneCell') = true := by cases r; kernel_rfl
theorem size23 : (Try.prog.info? 23).map (·.size) = some 4 := by kernel_rfl
set_option maxRecDepth 100000 in
set_option maxHeartbeats 4000000 in
theorem pixels_any (a b : Rc) (x y : Int) (w : World) : Calls Try.prog 8 #[a.v, b.v, .int .i64 x, .int .i64 y] w fun e w' => e = .returned (.bool true) ∧ Below w.heap.size w w' := by
  have hnot : ∀ (x : Bool) (w : World), (Op.unary .not (.bool x)).run Try.prog w = .ok (.bool (!x)) w := fun _ _ => rfl
  obtain ⟨p, hp⟩ : ∃ p, a.has x y = p := ⟨_, rfl⟩
  obtain ⟨q, hq⟩ : ∃ q, b.has x y = q := ⟨_, rfl⟩
  have P := Lib.hid hp
  have Q := Lib.hid hq
  clear hp hq
  go_enter Try.func8, Try.ntmps8
  go_wp2_with fail
  obtain ⟨W, hW, hX⟩ : ∃ W, (w.alloc (.cells a.arr 23)).alloc (.cells b.arr 23) = W ∧ Sep w W [cell w.heap.size 23 a.arr, cell (w.heap.size + 1) 23 b.arr] := ⟨_, rfl, by have h := ((Sep.start w).box 23 a.arr).box 23 b.arr; simpa only [World.size_alloc, List.nil_append, List.cons_append] using h⟩
  rw [hW]
  clear hW
  generalize e5 : w.heap.size + 1 = g5 at hX ⊢
  clear e5
  generalize e4 : w.heap.size = g4 at hX ⊢
  have H4 := Lib.hid e4
  clear e4
  go_upto_region 1 with (fail)
  go_cut [9, 10] (fun s9 s10 wx => ∃ g9 g10, s9 = .pointer (some ⟨g9, 0, none⟩) ∧ s10 = .pointer (some ⟨g10, 0, none⟩) ∧ Sep w wx [cell g4 23 a.arr, cell g5 23 b.arr, cell g9 23 (andR a b).arr, cell g10 23 (orR a b).arr])
  case first => as_aux_lemma =>
    refine wp_region_held_drew (S := fun w' => Sep w w' [cell g4 23 a.arr, cell g5 23 b.arr]) (by kernel_rfl) hX.drew (fun hHeld => ?_)
    replace hX := hHeld
    clear hHeld
    generalize W.drew = v0 at hX ⊢
    refine wpAnyH_take (i := 0) (oi := { dst := some 13, op := Op.load 23 (Operand.tmp 4), type := 23, pos := "outright.go:10", after := #[], guard := none }) rfl (by kernel_rfl) (by kernel_rfl) (by kernel_rfl) (fun _ _ _ h => h) (load_rc (t := 4) (r := a) rfl rfl rfl (fun _ h => h.blk 0 rfl)) (hX.take 2) ?_
    try simp only [Act.put, List.setIfInBounds_toArray, List.set_cons_zero, List.set_cons_succ]
    refine wpAnyH_take (i := 1) (oi := { dst := some 14, op := Op.load 23 (Operand.tmp 5), type := 23, pos := "outright.go:10", after := #[], guard := none }) rfl (by kernel_rfl) (by kernel_rfl) (by kernel_rfl) (fun _ _ _ h => h) (load_rc (t := 5) (r := b) rfl rfl rfl (fun _ h => h.blk 1 rfl)) (hX.take 2) ?_
    try simp only [Act.put, List.setIfInBounds_toArray, List.set_cons_zero, List.set_cons_succ]
    refine wpAnyH_take (i := 3) (oi := { dst := some 16, op := Op.load 23 (Operand.tmp 4), type := 23, pos := "outright.go:10", after := #[], guard := none }) rfl (by kernel_rfl) (by kernel_rfl) (by kernel_rfl) (fun _ _ _ h => h) (load_rc (t := 4) (r := a) rfl rfl rfl (fun _ h => h.blk 0 rfl)) (hX.take 2) ?_
    try simp only [Act.put, List.setIfInBounds_toArray, List.set_cons_zero, List.set_cons_succ]
    refine wpAnyH_take (i := 4) (oi := { dst := some 17, op := Op.load 23 (Operand.tmp 5), type := 23, pos := "outright.go:10", after := #[], guard := none }) rfl (by kernel_rfl) (by kernel_rfl) (by kernel_rfl) (fun _ _ _ h => h) (load_rc (t := 5) (r := b) rfl rfl rfl (fun _ h => h.blk 1 rfl)) (hX.take 2) ?_
    try simp only [Act.put, List.setIfInBounds_toArray, List.set_cons_zero, List.set_cons_succ]
    refine wpAnyH_ready (rs := [2, 6, 7]) (by kernel_rfl) (by simp) ?_
    refine AllReadyH.cons (o := { dst := some 15, op := Op.call { callee := Callee.value (Operand.func 9), args := #[Operand.tmp 13, Operand.tmp 14], argTypes := #[23, 23] }, type := 23, pos := "outright.go:10", after := #[{ on := 0, ground := Ground.data }, { on := 1, ground := Ground.data }], guard := none }) rfl ?_ (AllReadyH.cons (o := { dst := some 9, op := Op.alloc 23, type := 0, pos := "outright.go:10", after := #[], guard := none }) rfl ?_ (AllReadyH.cons (o := { dst := some 10, op := Op.alloc 23, type := 0, pos := "outright.go:10", after := #[], guard := none }) rfl ?_ (AllReadyH.nil)))
    · intro K hK
      go_simp
      go_at_call 9
      refine (and_any a b _).mono ?_
      rintro e v1 ⟨rfl, hb1⟩
      replace hX := hX.grow hb1
      clear hb1
      refine hK.out _ _ (hX.take 2) (fun _ => ?_)
      clear hK K
      try simp only [Act.put, List.setIfInBounds_toArray, List.set_cons_zero, List.set_cons_succ]
      refine wpAnyH_ready (rs := [5, 6, 7]) (by kernel_rfl) (by simp) ?_
      refine AllReadyH.cons (o := { dst := some 18, op := Op.call { callee := Callee.value (Operand.func 23), args := #[Operand.tmp 16, Operand.tmp 17], argTypes := #[23, 23] }, type := 23, pos := "outright.go:10", after := #[{ on := 3, ground := Ground.data }, { on := 4, ground := Ground.data }, { on := 2, ground := Ground.chain }], guard := none }) rfl ?_ (AllReadyH.cons (o := { dst := some 9, op := Op.alloc 23, type := 0, pos := "outright.go:10", after := #[], guard := none }) rfl ?_ (AllReadyH.cons (o := { dst := some 10, op := Op.alloc 23, type := 0, pos := "outright.go:10", after := #[], guard := none }) rfl ?_ (AllReadyH.nil)))
      · intro K hK
        go_simp
        go_at_call 23
        refine (or_any a b _).mono ?_
        rintro e v2 ⟨rfl, hb1⟩
        replace hX := hX.grow hb1
        clear hb1
        refine hK.out _ _ (hX.take 2) (fun _ => ?_)
        clear hK K
        try simp only [Act.put, List.setIfInBounds_toArray, List.set_cons_zero, List.set_cons_succ]
        refine wpAnyH_ready (rs := [6, 7]) (by kernel_rfl) (by simp) ?_
        refine AllReadyH.cons (o := { dst := some 9, op := Op.alloc 23, type := 0, pos := "outright.go:10", after := #[], guard := none }) rfl ?_ (AllReadyH.cons (o := { dst := some 10, op := Op.alloc 23, type := 0, pos := "outright.go:10", after := #[], guard := none }) rfl ?_ (AllReadyH.nil))
        · intro K hK
          go_simp
          obtain ⟨v3, hW, hX⟩ := hX.boxed 23 #[.int .i64 0, .int .i64 0, .int .i64 0, .int .i64 0]
          rw [hW]
          clear hW
          generalize v2.heap.size = g9 at hX ⊢
          refine hK.out _ _ (hX.take 2) (fun _ => ?_)
          clear hK K
          try simp only [Act.put, List.setIfInBounds_toArray, List.set_cons_zero, List.set_cons_succ]
          refine wpAnyH_ready (rs := [7]) (by kernel_rfl) (by simp) ?_
          refine AllReadyH.cons (o := { dst := some 10, op := Op.alloc 23, type := 0, pos := "outright.go:10", after := #[], guard := none }) rfl ?_ (AllReadyH.nil)
          · intro K hK
            go_simp
            obtain ⟨v4, hW, hX⟩ := hX.boxed 23 #[.int .i64 0, .int .i64 0, .int .i64 0, .int .i64 0]
            rw [hW]
            clear hW
            generalize v3.heap.size = g10 at hX ⊢
            refine hK.out _ _ (hX.take 2) (fun _ => ?_)
            clear hK K
            try simp only [Act.put, List.setIfInBounds_toArray, List.set_cons_zero, List.set_cons_succ]
            refine wpAnyH_ready (rs := [8]) (by kernel_rfl) (by simp) ?_
            refine AllReadyH.cons (o := { dst := none, op := Op.store 23 (Operand.tmp 9) (Operand.tmp 15), type := 0, pos := "outright.go:10", after := #[{ on := 6, ground := Ground.data }, { on := 2, ground := Ground.data }, { on := 5, ground := Ground.chain }, { on := 0, ground := Ground.phase }, { on := 1, ground := Ground.phase }, { on := 2, ground := Ground.phase }, { on := 3, ground := Ground.textOnly Departure.lateStores }, { on := 4, ground := Ground.textOnly Departure.lateStores }, { on := 5, ground := Ground.textOnly Departure.lateStoresUnsure }, { on := 6, ground := Ground.phase }, { on := 7, ground := Ground.phase }], guard := none }) rfl ?_ (AllReadyH.nil)
            · intro K hK
              rw [if_pos (by rfl)]
              refine wp_store_row 23 (.tmp 9) (.tmp 15) rfl g9 (andR a b).arr (by rfl) (by rfl) 23 _ (hX.blk 2 rfl) size23 rfl (arr_one _) ?_
              replace hX := hX.setRow 2 rfl (andR a b).arr
              generalize v4.setRow g9 (andR a b).arr = v5 at hX ⊢
              refine hK.out _ _ (hX.take 2) (fun _ => ?_)
              clear hK K
              try simp only [Act.put]
              refine wpAnyH_ready (rs := [9]) (by kernel_rfl) (by simp) ?_
              refine AllReadyH.cons (o := { dst := none, op := Op.store 23 (Operand.tmp 10) (Operand.tmp 18), type := 0, pos := "outright.go:10", after := #[{ on := 7, ground := Ground.data }, { on := 5, ground := Ground.data }, { on := 8, ground := Ground.chain }, { on := 0, ground := Ground.phase }, { on := 1, ground := Ground.phase }, { on := 2, ground := Ground.phase }, { on := 3, ground := Ground.phase }, { on := 4, ground := Ground.phase }, { on := 5, ground := Ground.phase }, { on := 6, ground := Ground.phase }, { on := 7, ground := Ground.phase }, { on := 8, ground := Ground.phase }], guard := none }) rfl ?_ (AllReadyH.nil)
              · intro K hK
                rw [if_pos (by rfl)]
                refine wp_store_row 23 (.tmp 10) (.tmp 18) rfl g10 (orR a b).arr (by rfl) (by rfl) 23 _ (hX.blk 3 rfl) size23 rfl (arr_one _) ?_
                replace hX := hX.setRow 3 rfl (orR a b).arr
                generalize v5.setRow g10 (orR a b).arr = v6 at hX ⊢
                refine hK.out _ _ (hX.take 2) (fun _ => ?_)
                clear hK K
                try simp only [Act.put]
                refine wpAnyH_done (by kernel_rfl) ?_ _
                go_wp2_with fail
                go_meet
                exact ⟨g9, g10, rfl, rfl, hX⟩
        · intro K hK
          go_simp
          obtain ⟨v3, hW, hX⟩ := hX.boxed 23 #[.int .i64 0, .int .i64 0, .int .i64 0, .int .i64 0]
          rw [hW]
          clear hW
          generalize v2.heap.size = g10 at hX ⊢
          refine hK.out _ _ (hX.take 2) (fun _ => ?_)
          clear hK K
          try simp only [Act.put, List.setIfInBounds_toArray, List.set_cons_zero, List.set_cons_succ]
          refine wpAnyH_ready (rs := [6]) (by kernel_rfl) (by simp) ?_
          refine AllReadyH.cons (o := { dst := some 9, op := Op.alloc 23, type := 0, pos := "outright.go:10", after := #[], guard := none }) rfl ?_ (AllReadyH.nil)
          · intro K hK
            go_simp
            obtain ⟨v4, hW, hX⟩ := hX.boxed 23 #[.int .i64 0, .int .i64 0, .int .i64 0, .int .i64 0]
            rw [hW]
            clear hW
            generalize v3.heap.size = g9 at hX ⊢
            refine hK.out _ _ (hX.take 2) (fun _ => ?_)
            clear hK K
            try simp only [Act.put, List.setIfInBounds_toArray, List.set_cons_zero, List.set_cons_succ]
            refine wpAnyH_ready (rs := [8]) (by kernel_rfl) (by simp) ?_
            refine AllReadyH.cons (o := { dst := none, op := Op.store 23 (Operand.tmp 9) (Operand.tmp 15), type := 0, pos := "outright.go:10", after := #[{ on := 6, ground := Ground.data }, { on := 2, ground := Ground.data }, { on := 5, ground := Ground.chain }, { on := 0, ground := Ground.phase }, { on := 1, ground := Ground.phase }, { on := 2, ground := Ground.phase }, { on := 3, ground := Ground.textOnly Departure.lateStores }, { on := 4, ground := Ground.textOnly Departure.lateStores }, { on := 5, ground := Ground.textOnly Departure.lateStoresUnsure }, { on := 6, ground := Ground.phase }, { on := 7, ground := Ground.phase }], guard := none }) rfl ?_ (AllReadyH.nil)
            · intro K hK
              rw [if_pos (by rfl)]
              refine wp_store_row 23 (.tmp 9) (.tmp 15) rfl g9 (andR a b).arr (by rfl) (by rfl) 23 _ (hX.blk 3 rfl) size23 rfl (arr_one _) ?_
              replace hX := hX.setRow 3 rfl (andR a b).arr
              generalize v4.setRow g9 (andR a b).arr = v5 at hX ⊢
              refine hK.out _ _ (hX.take 2) (fun _ => ?_)
              clear hK K
              try simp only [Act.put]
              refine wpAnyH_ready (rs := [9]) (by kernel_rfl) (by simp) ?_
              refine AllReadyH.cons (o := { dst := none, op := Op.store 23 (Operand.tmp 10) (Operand.tmp 18), type := 0, pos := "outright.go:10", after := #[{ on := 7, ground := Ground.data }, { on := 5, ground := Ground.data }, { on := 8, ground := Ground.chain }, { on := 0, ground := Ground.phase }, { on := 1, ground := Ground.phase }, { on := 2, ground := Ground.phase }, { on := 3, ground := Ground.phase }, { on := 4, ground := Ground.phase }, { on := 5, ground := Ground.phase }, { on := 6, ground := Ground.phase }, { on := 7, ground := Ground.phase }, { on := 8, ground := Ground.phase }], guard := none }) rfl ?_ (AllReadyH.nil)
              · intro K hK
                rw [if_pos (by rfl)]
                refine wp_store_row 23 (.tmp 10) (.tmp 18) rfl g10 (orR a b).arr (by rfl) (by rfl) 23 _ (hX.blk 2 rfl) size23 rfl (arr_one _) ?_
                replace hX := hX.setRow 2 rfl (orR a b).arr
                generalize v5.setRow g10 (orR a b).arr = v6 at hX ⊢
                refine hK.out _ _ (hX.take 2) (fun _ => ?_)
                clear hK K
                try simp only [Act.put]
                refine wpAnyH_done (by kernel_rfl) ?_ _
                go_wp2_with fail
                go_meet
                exact ⟨g9, g10, rfl, rfl, hX.perm (.cons _ (.cons _ (.swap _ _ _)))⟩
      · intro K hK
        go_simp
        obtain ⟨v2, hW, hX⟩ := hX.boxed 23 #[.int .i64 0, .int .i64 0, .int .i64 0, .int .i64 0]
        rw [hW]
        clear hW
        generalize v1.heap.size = g9 at hX ⊢
        refine hK.out _ _ (hX.take 2) (fun _ => ?_)
        clear hK K
        try simp only [Act.put, List.setIfInBounds_toArray, List.set_cons_zero, List.set_cons_succ]
        refine wpAnyH_ready (rs := [5, 7]) (by kernel_rfl) (by simp) ?_
        refine AllReadyH.cons (o := { dst := some 18, op := Op.call { callee := Callee.value (Operand.func 23), args := #[Operand.tmp 16, Operand.tmp 17], argTypes := #[23, 23] }, type := 23, pos := "outright.go:10", after := #[{ on := 3, ground := Ground.data }, { on := 4, ground := Ground.data }, { on := 2, ground := Ground.chain }], guard := none }) rfl ?_ (AllReadyH.cons (o := { dst := some 10, op := Op.alloc 23, type := 0, pos := "outright.go:10", after := #[], guard := none }) rfl ?_ (AllReadyH.nil))
        · intro K hK
          go_simp
          go_at_call 23
          refine (or_any a b _).mono ?_
          rintro e v3 ⟨rfl, hb1⟩
          replace hX := hX.grow hb1
          clear hb1
          refine hK.out _ _ (hX.take 2) (fun _ => ?_)
          clear hK K
          try simp only [Act.put, List.setIfInBounds_toArray, List.set_cons_zero, List.set_cons_succ]
          refine wpAnyH_ready (rs := [7]) (by kernel_rfl) (by simp) ?_
          refine AllReadyH.cons (o := { dst := some 10, op := Op.alloc 23, type := 0, pos := "outright.go:10", after := #[], guard := none }) rfl ?_ (AllReadyH.nil)
          · intro K hK
            go_simp
            obtain ⟨v4, hW, hX⟩ := hX.boxed 23 #[.int .i64 0, .int .i64 0, .int .i64 0, .int .i64 0]
            rw [hW]
            clear hW
            generalize v3.heap.size = g10 at hX ⊢
            refine hK.out _ _ (hX.take 2) (fun _ => ?_)
            clear hK K
            try simp only [Act.put, List.setIfInBounds_toArray, List.set_cons_zero, List.set_cons_succ]
            refine wpAnyH_ready (rs := [8]) (by kernel_rfl) (by simp) ?_
            refine AllReadyH.cons (o := { dst := none, op := Op.store 23 (Operand.tmp 9) (Operand.tmp 15), type := 0, pos := "outright.go:10", after := #[{ on := 6, ground := Ground.data }, { on := 2, ground := Ground.data }, { on := 5, ground := Ground.chain }, { on := 0, ground := Ground.phase }, { on := 1, ground := Ground.phase }, { on := 2, ground := Ground.phase }, { on := 3, ground := Ground.textOnly Departure.lateStores }, { on := 4, ground := Ground.textOnly Departure.lateStores }, { on := 5, ground := Ground.textOnly Departure.lateStoresUnsure }, { on := 6, ground := Ground.phase }, { on := 7, ground := Ground.phase }], guard := none }) rfl ?_ (AllReadyH.nil)
            · intro K hK
              rw [if_pos (by rfl)]
              refine wp_store_row 23 (.tmp 9) (.tmp 15) rfl g9 (andR a b).arr (by rfl) (by rfl) 23 _ (hX.blk 2 rfl) size23 rfl (arr_one _) ?_
              replace hX := hX.setRow 2 rfl (andR a b).arr
              generalize v4.setRow g9 (andR a b).arr = v5 at hX ⊢
              refine hK.out _ _ (hX.take 2) (fun _ => ?_)
              clear hK K
              try simp only [Act.put]
              refine wpAnyH_ready (rs := [9]) (by kernel_rfl) (by simp) ?_
              refine AllReadyH.cons (o := { dst := none, op := Op.store 23 (Operand.tmp 10) (Operand.tmp 18), type := 0, pos := "outright.go:10", after := #[{ on := 7, ground := Ground.data }, { on := 5, ground := Ground.data }, { on := 8, ground := Ground.chain }, { on := 0, ground := Ground.phase }, { on := 1, ground := Ground.phase }, { on := 2, ground := Ground.phase }, { on := 3, ground := Ground.phase }, { on := 4, ground := Ground.phase }, { on := 5, ground := Ground.phase }, { on := 6, ground := Ground.phase }, { on := 7, ground := Ground.phase }, { on := 8, ground := Ground.phase }], guard := none }) rfl ?_ (AllReadyH.nil)
              · intro K hK
                rw [if_pos (by rfl)]
                refine wp_store_row 23 (.tmp 10) (.tmp 18) rfl g10 (orR a b).arr (by rfl) (by rfl) 23 _ (hX.blk 3 rfl) size23 rfl (arr_one _) ?_
                replace hX := hX.setRow 3 rfl (orR a b).arr
                generalize v5.setRow g10 (orR a b).arr = v6 at hX ⊢
                refine hK.out _ _ (hX.take 2) (fun _ => ?_)
                clear hK K
                try simp only [Act.put]
                refine wpAnyH_done (by kernel_rfl) ?_ _
                go_wp2_with fail
                go_meet
                exact ⟨g9, g10, rfl, rfl, hX⟩
        · intro K hK
          go_simp
          obtain ⟨v3, hW, hX⟩ := hX.boxed 23 #[.int .i64 0, .int .i64 0, .int .i64 0, .int .i64 0]
          rw [hW]
          clear hW
          generalize v2.heap.size = g10 at hX ⊢
          refine hK.out _ _ (hX.take 2) (fun _ => ?_)
          clear hK K
          try simp only [Act.put, List.setIfInBounds_toArray, List.set_cons_zero, List.set_cons_succ]
          refine wpAnyH_ready (rs := [5]) (by kernel_rfl) (by simp) ?_
          refine AllReadyH.cons (o := { dst := some 18, op := Op.call { callee := Callee.value (Operand.func 23), args := #[Operand.tmp 16, Operand.tmp 17], argTypes := #[23, 23] }, type := 23, pos := "outright.go:10", after := #[{ on := 3, ground := Ground.data }, { on := 4, ground := Ground.data }, { on := 2, ground := Ground.chain }], guard := none }) rfl ?_ (AllReadyH.nil)
          · intro K hK
            go_simp
            go_at_call 23
            refine (or_any a b _).mono ?_
            rintro e v4 ⟨rfl, hb1⟩
            replace hX := hX.grow hb1
            clear hb1
            refine hK.out _ _ (hX.take 2) (fun _ => ?_)
            clear hK K
            try simp only [Act.put, List.setIfInBounds_toArray, List.set_cons_zero, List.set_cons_succ]
            refine wpAnyH_ready (rs := [8]) (by kernel_rfl) (by simp) ?_
            refine AllReadyH.cons (o := { dst := none, op := Op.store 23 (Operand.tmp 9) (Operand.tmp 15), type := 0, pos := "outright.go:10", after := #[{ on := 6, ground := Ground.data }, { on := 2, ground := Ground.data }, { on := 5, ground := Ground.chain }, { on := 0, ground := Ground.phase }, { on := 1, ground := Ground.phase }, { on := 2, ground := Ground.phase }, { on := 3, ground := Ground.textOnly Departure.lateStores }, { on := 4, ground := Ground.textOnly Departure.lateStores }, { on := 5, ground := Ground.textOnly Departure.lateStoresUnsure }, { on := 6, ground := Ground.phase }, { on := 7, ground := Ground.phase }], guard := none }) rfl ?_ (AllReadyH.nil)
            · intro K hK
              rw [if_pos (by rfl)]
              refine wp_store_row 23 (.tmp 9) (.tmp 15) rfl g9 (andR a b).arr (by rfl) (by rfl) 23 _ (hX.blk 2 rfl) size23 rfl (arr_one _) ?_
              replace hX := hX.setRow 2 rfl (andR a b).arr
              generalize v4.setRow g9 (andR a b).arr = v5 at hX ⊢
              refine hK.out _ _ (hX.take 2) (fun _ => ?_)
              clear hK K
              try simp only [Act.put]
              refine wpAnyH_ready (rs := [9]) (by kernel_rfl) (by simp) ?_
              refine AllReadyH.cons (o := { dst := none, op := Op.store 23 (Operand.tmp 10) (Operand.tmp 18), type := 0, pos := "outright.go:10", after := #[{ on := 7, ground := Ground.data }, { on := 5, ground := Ground.data }, { on := 8, ground := Ground.chain }, { on := 0, ground := Ground.phase }, { on := 1, ground := Ground.phase }, { on := 2, ground := Ground.phase }, { on := 3, ground := Ground.phase }, { on := 4, ground := Ground.phase }, { on := 5, ground := Ground.phase }, { on := 6, ground := Ground.phase }, { on := 7, ground := Ground.phase }, { on := 8, ground := Ground.phase }], guard := none }) rfl ?_ (AllReadyH.nil)
              · intro K hK
                rw [if_pos (by rfl)]
                refine wp_store_row 23 (.tmp 10) (.tmp 18) rfl g10 (orR a b).arr (by rfl) (by rfl) 23 _ (hX.blk 3 rfl) size23 rfl (arr_one _) ?_
                replace hX := hX.setRow 3 rfl (orR a b).arr
                generalize v5.setRow g10 (orR a b).arr = v6 at hX ⊢
                refine hK.out _ _ (hX.take 2) (fun _ => ?_)
                clear hK K
                try simp only [Act.put]
                refine wpAnyH_done (by kernel_rfl) ?_ _
                go_wp2_with fail
                go_meet
                exact ⟨g9, g10, rfl, rfl, hX⟩
      · intro K hK
        go_simp
        obtain ⟨v2, hW, hX⟩ := hX.boxed 23 #[.int .i64 0, .int .i64 0, .int .i64 0, .int .i64 0]
        rw [hW]
        clear hW
        generalize v1.heap.size = g10 at hX ⊢
        refine hK.out _ _ (hX.take 2) (fun _ => ?_)
        clear hK K
        try simp only [Act.put, List.setIfInBounds_toArray, List.set_cons_zero, List.set_cons_succ]
        refine wpAnyH_ready (rs := [5, 6]) (by kernel_rfl) (by simp) ?_
        refine AllReadyH.cons (o := { dst := some 18, op := Op.call { callee := Callee.value (Operand.func 23), args := #[Operand.tmp 16, Operand.tmp 17], argTypes := #[23, 23] }, type := 23, pos := "outright.go:10", after := #[{ on := 3, ground := Ground.data }, { on := 4, ground := Ground.data }, { on := 2, ground := Ground.chain }], guard := none }) rfl ?_ (AllReadyH.cons (o := { dst := some 9, op := Op.alloc 23, type := 0, pos := "outright.go:10", after := #[], guard := none }) rfl ?_ (AllReadyH.nil))
        · intro K hK
          go_simp
          go_at_call 23
          refine (or_any a b _).mono ?_
          rintro e v3 ⟨rfl, hb1⟩
          replace hX := hX.grow hb1
          clear hb1
          refine hK.out _ _ (hX.take 2) (fun _ => ?_)
          clear hK K
          try simp only [Act.put, List.setIfInBounds_toArray, List.set_cons_zero, List.set_cons_succ]
          refine wpAnyH_ready (rs := [6]) (by kernel_rfl) (by simp) ?_
          refine AllReadyH.cons (o := { dst := some 9, op := Op.alloc 23, type := 0, pos := "outright.go:10", after := #[], guard := none }) rfl ?_ (AllReadyH.nil)
          · intro K hK
            go_simp
            obtain ⟨v4, hW, hX⟩ := hX.boxed 23 #[.int .i64 0, .int .i64 0, .int .i64 0, .int .i64 0]
            rw [hW]
            clear hW
            generalize v3.heap.size = g9 at hX ⊢
            refine hK.out _ _ (hX.take 2) (fun _ => ?_)
            clear hK K
            try simp only [Act.put, List.setIfInBounds_toArray, List.set_cons_zero, List.set_cons_succ]
            refine wpAnyH_ready (rs := [8]) (by kernel_rfl) (by simp) ?_
            refine AllReadyH.cons (o := { dst := none, op := Op.store 23 (Operand.tmp 9) (Operand.tmp 15), type := 0, pos := "outright.go:10", after := #[{ on := 6, ground := Ground.data }, { on := 2, ground := Ground.data }, { on := 5, ground := Ground.chain }, { on := 0, ground := Ground.phase }, { on := 1, ground := Ground.phase }, { on := 2, ground := Ground.phase }, { on := 3, ground := Ground.textOnly Departure.lateStores }, { on := 4, ground := Ground.textOnly Departure.lateStores }, { on := 5, ground := Ground.textOnly Departure.lateStoresUnsure }, { on := 6, ground := Ground.phase }, { on := 7, ground := Ground.phase }], guard := none }) rfl ?_ (AllReadyH.nil)
            · intro K hK
              rw [if_pos (by rfl)]
              refine wp_store_row 23 (.tmp 9) (.tmp 15) rfl g9 (andR a b).arr (by rfl) (by rfl) 23 _ (hX.blk 3 rfl) size23 rfl (arr_one _) ?_
              replace hX := hX.setRow 3 rfl (andR a b).arr
              generalize v4.setRow g9 (andR a b).arr = v5 at hX ⊢
              refine hK.out _ _ (hX.take 2) (fun _ => ?_)
              clear hK K
              try simp only [Act.put]
              refine wpAnyH_ready (rs := [9]) (by kernel_rfl) (by simp) ?_
              refine AllReadyH.cons (o := { dst := none, op := Op.store 23 (Operand.tmp 10) (Operand.tmp 18), type := 0, pos := "outright.go:10", after := #[{ on := 7, ground := Ground.data }, { on := 5, ground := Ground.data }, { on := 8, ground := Ground.chain }, { on := 0, ground := Ground.phase }, { on := 1, ground := Ground.phase }, { on := 2, ground := Ground.phase }, { on := 3, ground := Ground.phase }, { on := 4, ground := Ground.phase }, { on := 5, ground := Ground.phase }, { on := 6, ground := Ground.phase }, { on := 7, ground := Ground.phase }, { on := 8, ground := Ground.phase }], guard := none }) rfl ?_ (AllReadyH.nil)
              · intro K hK
                rw [if_pos (by rfl)]
                refine wp_store_row 23 (.tmp 10) (.tmp 18) rfl g10 (orR a b).arr (by rfl) (by rfl) 23 _ (hX.blk 2 rfl) size23 rfl (arr_one _) ?_
                replace hX := hX.setRow 2 rfl (orR a b).arr
                generalize v5.setRow g10 (orR a b).arr = v6 at hX ⊢
                refine hK.out _ _ (hX.take 2) (fun _ => ?_)
                clear hK K
                try simp only [Act.put]
                refine wpAnyH_done (by kernel_rfl) ?_ _
                go_wp2_with fail
                go_meet
                exact ⟨g9, g10, rfl, rfl, hX.perm (.cons _ (.cons _ (.swap _ _ _)))⟩
        · intro K hK
          go_simp
          obtain ⟨v3, hW, hX⟩ := hX.boxed 23 #[.int .i64 0, .int .i64 0, .int .i64 0, .int .i64 0]
          rw [hW]
          clear hW
          generalize v2.heap.size = g9 at hX ⊢
          refine hK.out _ _ (hX.take 2) (fun _ => ?_)
          clear hK K
          try simp only [Act.put, List.setIfInBounds_toArray, List.set_cons_zero, List.set_cons_succ]
          refine wpAnyH_ready (rs := [5]) (by kernel_rfl) (by simp) ?_
          refine AllReadyH.cons (o := { dst := some 18, op := Op.call { callee := Callee.value (Operand.func 23), args := #[Operand.tmp 16, Operand.tmp 17], argTypes := #[23, 23] }, type := 23, pos := "outright.go:10", after := #[{ on := 3, ground := Ground.data }, { on := 4, ground := Ground.data }, { on := 2, ground := Ground.chain }], guard := none }) rfl ?_ (AllReadyH.nil)
          · intro K hK
            go_simp
            go_at_call 23
            refine (or_any a b _).mono ?_
            rintro e v4 ⟨rfl, hb1⟩
            replace hX := hX.grow hb1
            clear hb1
            refine hK.out _ _ (hX.take 2) (fun _ => ?_)
            clear hK K
            try simp only [Act.put, List.setIfInBounds_toArray, List.set_cons_zero, List.set_cons_succ]
            refine wpAnyH_ready (rs := [8]) (by kernel_rfl) (by simp) ?_
            refine AllReadyH.cons (o := { dst := none, op := Op.store 23 (Operand.tmp 9) (Operand.tmp 15), type := 0, pos := "outright.go:10", after := #[{ on := 6, ground := Ground.data }, { on := 2, ground := Ground.data }, { on := 5, ground := Ground.chain }, { on := 0, ground := Ground.phase }, { on := 1, ground := Ground.phase }, { on := 2, ground := Ground.phase }, { on := 3, ground := Ground.textOnly Departure.lateStores }, { on := 4, ground := Ground.textOnly Departure.lateStores }, { on := 5, ground := Ground.textOnly Departure.lateStoresUnsure }, { on := 6, ground := Ground.phase }, { on := 7, ground := Ground.phase }], guard := none }) rfl ?_ (AllReadyH.nil)
            · intro K hK
              rw [if_pos (by rfl)]
              refine wp_store_row 23 (.tmp 9) (.tmp 15) rfl g9 (andR a b).arr (by rfl) (by rfl) 23 _ (hX.blk 3 rfl) size23 rfl (arr_one _) ?_
              replace hX := hX.setRow 3 rfl (andR a b).arr
              generalize v4.setRow g9 (andR a b).arr = v5 at hX ⊢
              refine hK.out _ _ (hX.take 2) (fun _ => ?_)
              clear hK K
              try simp only [Act.put]
              refine wpAnyH_ready (rs := [9]) (by kernel_rfl) (by simp) ?_
              refine AllReadyH.cons (o := { dst := none, op := Op.store 23 (Operand.tmp 10) (Operand.tmp 18), type := 0, pos := "outright.go:10", after := #[{ on := 7, ground := Ground.data }, { on := 5, ground := Ground.data }, { on := 8, ground := Ground.chain }, { on := 0, ground := Ground.phase }, { on := 1, ground := Ground.phase }, { on := 2, ground := Ground.phase }, { on := 3, ground := Ground.phase }, { on := 4, ground := Ground.phase }, { on := 5, ground := Ground.phase }, { on := 6, ground := Ground.phase }, { on := 7, ground := Ground.phase }, { on := 8, ground := Ground.phase }], guard := none }) rfl ?_ (AllReadyH.nil)
              · intro K hK
                rw [if_pos (by rfl)]
                refine wp_store_row 23 (.tmp 10) (.tmp 18) rfl g10 (orR a b).arr (by rfl) (by rfl) 23 _ (hX.blk 2 rfl) size23 rfl (arr_one _) ?_
                replace hX := hX.setRow 2 rfl (orR a b).arr
                generalize v5.setRow g10 (orR a b).arr = v6 at hX ⊢
                refine hK.out _ _ (hX.take 2) (fun _ => ?_)
                clear hK K
                try simp only [Act.put]
                refine wpAnyH_done (by kernel_rfl) ?_ _
                go_wp2_with fail
                go_meet
                exact ⟨g9, g10, rfl, rfl, hX.perm (.cons _ (.cons _ (.swap _ _ _)))⟩
    · intro K hK
      go_simp
      obtain ⟨v1, hW, hX⟩ := hX.boxed 23 #[.int .i64 0, .int .i64 0, .int .i64 0, .int .i64 0]
      rw [hW]
      clear hW
      generalize v0.heap.size = g9 at hX ⊢
      refine hK.out _ _ (hX.take 2) (fun _ => ?_)
      clear hK K
      try simp only [Act.put, List.setIfInBounds_toArray, List.set_cons_zero, List.set_cons_succ]
      refine wpAnyH_ready (rs := [2, 7]) (by kernel_rfl) (by simp) ?_
      refine AllReadyH.cons (o := { dst := some 15, op := Op.call { callee := Callee.value (Operand.func 9), args := #[Operand.tmp 13, Operand.tmp 14], argTypes := #[23, 23] }, type := 23, pos := "outright.go:10", after := #[{ on := 0, ground := Ground.data }, { on := 1, ground := Ground.data }], guard := none }) rfl ?_ (AllReadyH.cons (o := { dst := some 10, op := Op.alloc 23, type := 0, pos := "outright.go:10", after := #[], guard := none }) rfl ?_ (AllReadyH.nil))
      · intro K hK
        go_simp
        go_at_call 9
        refine (and_any a b _).mono ?_
        rintro e v2 ⟨rfl, hb1⟩
        replace hX := hX.grow hb1
        clear hb1
        refine hK.out _ _ (hX.take 2) (fun _ => ?_)
        clear hK K
        try simp only [Act.put, List.setIfInBounds_toArray, List.set_cons_zero, List.set_cons_succ]
        refine wpAnyH_ready (rs := [5, 7]) (by kernel_rfl) (by simp) ?_
        refine AllReadyH.cons (o := { dst := some 18, op := Op.call { callee := Callee.value (Operand.func 23), args := #[Operand.tmp 16, Operand.tmp 17], argTypes := #[23, 23] }, type := 23, pos := "outright.go:10", after := #[{ on := 3, ground := Ground.data }, { on := 4, ground := Ground.data }, { on := 2, ground := Ground.chain }], guard := none }) rfl ?_ (AllReadyH.cons (o := { dst := some 10, op := Op.alloc 23, type := 0, pos := "outright.go:10", after := #[], guard := none }) rfl ?_ (AllReadyH.nil))
        · intro K hK
          go_simp
          go_at_call 23
          refine (or_any a b _).mono ?_
          rintro e v3 ⟨rfl, hb1⟩
          replace hX := hX.grow hb1
          clear hb1
          refine hK.out _ _ (hX.take 2) (fun _ => ?_)
          clear hK K
          try simp only [Act.put, List.setIfInBounds_toArray, List.set_cons_zero, List.set_cons_succ]
          refine wpAnyH_ready (rs := [7]) (by kernel_rfl) (by simp) ?_
          refine AllReadyH.cons (o := { dst := some 10, op := Op.alloc 23, type := 0, pos := "outright.go:10", after := #[], guard := none }) rfl ?_ (AllReadyH.nil)
          · intro K hK
            go_simp
            obtain ⟨v4, hW, hX⟩ := hX.boxed 23 #[.int .i64 0, .int .i64 0, .int .i64 0, .int .i64 0]
            rw [hW]
            clear hW
            generalize v3.heap.size = g10 at hX ⊢
            refine hK.out _ _ (hX.take 2) (fun _ => ?_)
            clear hK K
            try simp only [Act.put, List.setIfInBounds_toArray, List.set_cons_zero, List.set_cons_succ]
            refine wpAnyH_ready (rs := [8]) (by kernel_rfl) (by simp) ?_
            refine AllReadyH.cons (o := { dst := none, op := Op.store 23 (Operand.tmp 9) (Operand.tmp 15), type := 0, pos := "outright.go:10", after := #[{ on := 6, ground := Ground.data }, { on := 2, ground := Ground.data }, { on := 5, ground := Ground.chain }, { on := 0, ground := Ground.phase }, { on := 1, ground := Ground.phase }, { on := 2, ground := Ground.phase }, { on := 3, ground := Ground.textOnly Departure.lateStores }, { on := 4, ground := Ground.textOnly Departure.lateStores }, { on := 5, ground := Ground.textOnly Departure.lateStoresUnsure }, { on := 6, ground := Ground.phase }, { on := 7, ground := Ground.phase }], guard := none }) rfl ?_ (AllReadyH.nil)
            · intro K hK
              rw [if_pos (by rfl)]
              refine wp_store_row 23 (.tmp 9) (.tmp 15) rfl g9 (andR a b).arr (by rfl) (by rfl) 23 _ (hX.blk 2 rfl) size23 rfl (arr_one _) ?_
              replace hX := hX.setRow 2 rfl (andR a b).arr
              generalize v4.setRow g9 (andR a b).arr = v5 at hX ⊢
              refine hK.out _ _ (hX.take 2) (fun _ => ?_)
              clear hK K
              try simp only [Act.put]
              refine wpAnyH_ready (rs := [9]) (by kernel_rfl) (by simp) ?_
              refine AllReadyH.cons (o := { dst := none, op := Op.store 23 (Operand.tmp 10) (Operand.tmp 18), type := 0, pos := "outright.go:10", after := #[{ on := 7, ground := Ground.data }, { on := 5, ground := Ground.data }, { on := 8, ground := Ground.chain }, { on := 0, ground := Ground.phase }, { on := 1, ground := Ground.phase }, { on := 2, ground := Ground.phase }, { on := 3, ground := Ground.phase }, { on := 4, ground := Ground.phase }, { on := 5, ground := Ground.phase }, { on := 6, ground := Ground.phase }, { on := 7, ground := Ground.phase }, { on := 8, ground := Ground.phase }], guard := none }) rfl ?_ (AllReadyH.nil)
              · intro K hK
                rw [if_pos (by rfl)]
                refine wp_store_row 23 (.tmp 10) (.tmp 18) rfl g10 (orR a b).arr (by rfl) (by rfl) 23 _ (hX.blk 3 rfl) size23 rfl (arr_one _) ?_
                replace hX := hX.setRow 3 rfl (orR a b).arr
                generalize v5.setRow g10 (orR a b).arr = v6 at hX ⊢
                refine hK.out _ _ (hX.take 2) (fun _ => ?_)
                clear hK K
                try simp only [Act.put]
                refine wpAnyH_done (by kernel_rfl) ?_ _
                go_wp2_with fail
                go_meet
                exact ⟨g9, g10, rfl, rfl, hX⟩
        · intro K hK
          go_simp
          obtain ⟨v3, hW, hX⟩ := hX.boxed 23 #[.int .i64 0, .int .i64 0, .int .i64 0, .int .i64 0]
          rw [hW]
          clear hW
          generalize v2.heap.size = g10 at hX ⊢
          refine hK.out _ _ (hX.take 2) (fun _ => ?_)
          clear hK K
          try simp only [Act.put, List.setIfInBounds_toArray, List.set_cons_zero, List.set_cons_succ]
          refine wpAnyH_ready (rs := [5]) (by kernel_rfl) (by simp) ?_
          refine AllReadyH.cons (o := { dst := some 18, op := Op.call { callee := Callee.value (Operand.func 23), args := #[Operand.tmp 16, Operand.tmp 17], argTypes := #[23, 23] }, type := 23, pos := "outright.go:10", after := #[{ on := 3, ground := Ground.data }, { on := 4, ground := Ground.data }, { on := 2, ground := Ground.chain }], guard := none }) rfl ?_ (AllReadyH.nil)
          · intro K hK
            go_simp
            go_at_call 23
            refine (or_any a b _).mono ?_
            rintro e v4 ⟨rfl, hb1⟩
            replace hX := hX.grow hb1
            clear hb1
            refine hK.out _ _ (hX.take 2) (fun _ => ?_)
            clear hK K
            try simp only [Act.put, List.setIfInBounds_toArray, List.set_cons_zero, List.set_cons_succ]
            refine wpAnyH_ready (rs := [8]) (by kernel_rfl) (by simp) ?_
            refine AllReadyH.cons (o := { dst := none, op := Op.store 23 (Operand.tmp 9) (Operand.tmp 15), type := 0, pos := "outright.go:10", after := #[{ on := 6, ground := Ground.data }, { on := 2, ground := Ground.data }, { on := 5, ground := Ground.chain }, { on := 0, ground := Ground.phase }, { on := 1, ground := Ground.phase }, { on := 2, ground := Ground.phase }, { on := 3, ground := Ground.textOnly Departure.lateStores }, { on := 4, ground := Ground.textOnly Departure.lateStores }, { on := 5, ground := Ground.textOnly Departure.lateStoresUnsure }, { on := 6, ground := Ground.phase }, { on := 7, ground := Ground.phase }], guard := none }) rfl ?_ (AllReadyH.nil)
            · intro K hK
              rw [if_pos (by rfl)]
              refine wp_store_row 23 (.tmp 9) (.tmp 15) rfl g9 (andR a b).arr (by rfl) (by rfl) 23 _ (hX.blk 2 rfl) size23 rfl (arr_one _) ?_
              replace hX := hX.setRow 2 rfl (andR a b).arr
              generalize v4.setRow g9 (andR a b).arr = v5 at hX ⊢
              refine hK.out _ _ (hX.take 2) (fun _ => ?_)
              clear hK K
              try simp only [Act.put]
              refine wpAnyH_ready (rs := [9]) (by kernel_rfl) (by simp) ?_
              refine AllReadyH.cons (o := { dst := none, op := Op.store 23 (Operand.tmp 10) (Operand.tmp 18), type := 0, pos := "outright.go:10", after := #[{ on := 7, ground := Ground.data }, { on := 5, ground := Ground.data }, { on := 8, ground := Ground.chain }, { on := 0, ground := Ground.phase }, { on := 1, ground := Ground.phase }, { on := 2, ground := Ground.phase }, { on := 3, ground := Ground.phase }, { on := 4, ground := Ground.phase }, { on := 5, ground := Ground.phase }, { on := 6, ground := Ground.phase }, { on := 7, ground := Ground.phase }, { on := 8, ground := Ground.phase }], guard := none }) rfl ?_ (AllReadyH.nil)
              · intro K hK
                rw [if_pos (by rfl)]
                refine wp_store_row 23 (.tmp 10) (.tmp 18) rfl g10 (orR a b).arr (by rfl) (by rfl) 23 _ (hX.blk 3 rfl) size23 rfl (arr_one _) ?_
                replace hX := hX.setRow 3 rfl (orR a b).arr
                generalize v5.setRow g10 (orR a b).arr = v6 at hX ⊢
                refine hK.out _ _ (hX.take 2) (fun _ => ?_)
                clear hK K
                try simp only [Act.put]
                refine wpAnyH_done (by kernel_rfl) ?_ _
                go_wp2_with fail
                go_meet
                exact ⟨g9, g10, rfl, rfl, hX⟩
      · intro K hK
        go_simp
        obtain ⟨v2, hW, hX⟩ := hX.boxed 23 #[.int .i64 0, .int .i64 0, .int .i64 0, .int .i64 0]
        rw [hW]
        clear hW
        generalize v1.heap.size = g10 at hX ⊢
        refine hK.out _ _ (hX.take 2) (fun _ => ?_)
        clear hK K
        try simp only [Act.put, List.setIfInBounds_toArray, List.set_cons_zero, List.set_cons_succ]
        refine wpAnyH_ready (rs := [2]) (by kernel_rfl) (by simp) ?_
        refine AllReadyH.cons (o := { dst := some 15, op := Op.call { callee := Callee.value (Operand.func 9), args := #[Operand.tmp 13, Operand.tmp 14], argTypes := #[23, 23] }, type := 23, pos := "outright.go:10", after := #[{ on := 0, ground := Ground.data }, { on := 1, ground := Ground.data }], guard := none }) rfl ?_ (AllReadyH.nil)
        · intro K hK
          go_simp
          go_at_call 9
          refine (and_any a b _).mono ?_
          rintro e v3 ⟨rfl, hb1⟩
          replace hX := hX.grow hb1
          clear hb1
          refine hK.out _ _ (hX.take 2) (fun _ => ?_)
          clear hK K
          try simp only [Act.put, List.setIfInBounds_toArray, List.set_cons_zero, List.set_cons_succ]
          refine wpAnyH_ready (rs := [5]) (by kernel_rfl) (by simp) ?_
          refine AllReadyH.cons (o := { dst := some 18, op := Op.call { callee := Callee.value (Operand.func 23), args := #[Operand.tmp 16, Operand.tmp 17], argTypes := #[23, 23] }, type := 23, pos := "outright.go:10", after := #[{ on := 3, ground := Ground.data }, { on := 4, ground := Ground.data }, { on := 2, ground := Ground.chain }], guard := none }) rfl ?_ (AllReadyH.nil)
          · intro K hK
            go_simp
            go_at_call 23
            refine (or_any a b _).mono ?_
            rintro e v4 ⟨rfl, hb1⟩
            replace hX := hX.grow hb1
            clear hb1
            refine hK.out _ _ (hX.take 2) (fun _ => ?_)
            clear hK K
            try simp only [Act.put, List.setIfInBounds_toArray, List.set_cons_zero, List.set_cons_succ]
            refine wpAnyH_ready (rs := [8]) (by kernel_rfl) (by simp) ?_
            refine AllReadyH.cons (o := { dst := none, op := Op.store 23 (Operand.tmp 9) (Operand.tmp 15), type := 0, pos := "outright.go:10", after := #[{ on := 6, ground := Ground.data }, { on := 2, ground := Ground.data }, { on := 5, ground := Ground.chain }, { on := 0, ground := Ground.phase }, { on := 1, ground := Ground.phase }, { on := 2, ground := Ground.phase }, { on := 3, ground := Ground.textOnly Departure.lateStores }, { on := 4, ground := Ground.textOnly Departure.lateStores }, { on := 5, ground := Ground.textOnly Departure.lateStoresUnsure }, { on := 6, ground := Ground.phase }, { on := 7, ground := Ground.phase }], guard := none }) rfl ?_ (AllReadyH.nil)
            · intro K hK
              rw [if_pos (by rfl)]
              refine wp_store_row 23 (.tmp 9) (.tmp 15) rfl g9 (andR a b).arr (by rfl) (by rfl) 23 _ (hX.blk 2 rfl) size23 rfl (arr_one _) ?_
              replace hX := hX.setRow 2 rfl (andR a b).arr
              generalize v4.setRow g9 (andR a b).arr = v5 at hX ⊢
              refine hK.out _ _ (hX.take 2) (fun _ => ?_)
              clear hK K
              try simp only [Act.put]
              refine wpAnyH_ready (rs := [9]) (by kernel_rfl) (by simp) ?_
              refine AllReadyH.cons (o := { dst := none, op := Op.store 23 (Operand.tmp 10) (Operand.tmp 18), type := 0, pos := "outright.go:10", after := #[{ on := 7, ground := Ground.data }, { on := 5, ground := Ground.data }, { on := 8, ground := Ground.chain }, { on := 0, ground := Ground.phase }, { on := 1, ground := Ground.phase }, { on := 2, ground := Ground.phase }, { on := 3, ground := Ground.phase }, { on := 4, ground := Ground.phase }, { on := 5, ground := Ground.phase }, { on := 6, ground := Ground.phase }, { on := 7, ground := Ground.phase }, { on := 8, ground := Ground.phase }], guard := none }) rfl ?_ (AllReadyH.nil)
              · intro K hK
                rw [if_pos (by rfl)]
                refine wp_store_row 23 (.tmp 10) (.tmp 18) rfl g10 (orR a b).arr (by rfl) (by rfl) 23 _ (hX.blk 3 rfl) size23 rfl (arr_one _) ?_
                replace hX := hX.setRow 3 rfl (orR a b).arr
                generalize v5.setRow g10 (orR a b).arr = v6 at hX ⊢
                refine hK.out _ _ (hX.take 2) (fun _ => ?_)
                clear hK K
                try simp only [Act.put]
                refine wpAnyH_done (by kernel_rfl) ?_ _
                go_wp2_with fail
                go_meet
                exact ⟨g9, g10, rfl, rfl, hX⟩
    · intro K hK
      go_simp
      obtain ⟨v1, hW, hX⟩ := hX.boxed 23 #[.int .i64 0, .int .i64 0, .int .i64 0, .int .i64 0]
      rw [hW]
      clear hW
      generalize v0.heap.size = g10 at hX ⊢
      refine hK.out _ _ (hX.take 2) (fun _ => ?_)
      clear hK K
      try simp only [Act.put, List.setIfInBounds_toArray, List.set_cons_zero, List.set_cons_succ]
      refine wpAnyH_ready (rs := [2, 6]) (by kernel_rfl) (by simp) ?_
      refine AllReadyH.cons (o := { dst := some 15, op := Op.call { callee := Callee.value (Operand.func 9), args := #[Operand.tmp 13, Operand.tmp 14], argTypes := #[23, 23] }, type := 23, pos := "outright.go:10", after := #[{ on := 0, ground := Ground.data }, { on := 1, ground := Ground.data }], guard := none }) rfl ?_ (AllReadyH.cons (o := { dst := some 9, op := Op.alloc 23, type := 0, pos := "outright.go:10", after := #[], guard := none }) rfl ?_ (AllReadyH.nil))
      · intro K hK
        go_simp
        go_at_call 9
        refine (and_any a b _).mono ?_
        rintro e v2 ⟨rfl, hb1⟩
        replace hX := hX.grow hb1
        clear hb1
        refine hK.out _ _ (hX.take 2) (fun _ => ?_)
        clear hK K
        try simp only [Act.put, List.setIfInBounds_toArray, List.set_cons_zero, List.set_cons_succ]
        refine wpAnyH_ready (rs := [5, 6]) (by kernel_rfl) (by simp) ?_
        refine AllReadyH.cons (o := { dst := some 18, op := Op.call { callee := Callee.value (Operand.func 23), args := #[Operand.tmp 16, Operand.tmp 17], argTypes := #[23, 23] }, type := 23, pos := "outright.go:10", after := #[{ on := 3, ground := Ground.data }, { on := 4, ground := Ground.data }, { on := 2, ground := Ground.chain }], guard := none }) rfl ?_ (AllReadyH.cons (o := { dst := some 9, op := Op.alloc 23, type := 0, pos := "outright.go:10", after := #[], guard := none }) rfl ?_ (AllReadyH.nil))
        · intro K hK
          go_simp
          go_at_call 23
          refine (or_any a b _).mono ?_
          rintro e v3 ⟨rfl, hb1⟩
          replace hX := hX.grow hb1
          clear hb1
          refine hK.out _ _ (hX.take 2) (fun _ => ?_)
          clear hK K
          try simp only [Act.put, List.setIfInBounds_toArray, List.set_cons_zero, List.set_cons_succ]
          refine wpAnyH_ready (rs := [6]) (by kernel_rfl) (by simp) ?_
          refine AllReadyH.cons (o := { dst := some 9, op := Op.alloc 23, type := 0, pos := "outright.go:10", after := #[], guard := none }) rfl ?_ (AllReadyH.nil)
          · intro K hK
            go_simp
            obtain ⟨v4, hW, hX⟩ := hX.boxed 23 #[.int .i64 0, .int .i64 0, .int .i64 0, .int .i64 0]
            rw [hW]
            clear hW
            generalize v3.heap.size = g9 at hX ⊢
            refine hK.out _ _ (hX.take 2) (fun _ => ?_)
            clear hK K
            try simp only [Act.put, List.setIfInBounds_toArray, List.set_cons_zero, List.set_cons_succ]
            refine wpAnyH_ready (rs := [8]) (by kernel_rfl) (by simp) ?_
            refine AllReadyH.cons (o := { dst := none, op := Op.store 23 (Operand.tmp 9) (Operand.tmp 15), type := 0, pos := "outright.go:10", after := #[{ on := 6, ground := Ground.data }, { on := 2, ground := Ground.data }, { on := 5, ground := Ground.chain }, { on := 0, ground := Ground.phase }, { on := 1, ground := Ground.phase }, { on := 2, ground := Ground.phase }, { on := 3, ground := Ground.textOnly Departure.lateStores }, { on := 4, ground := Ground.textOnly Departure.lateStores }, { on := 5, ground := Ground.textOnly Departure.lateStoresUnsure }, { on := 6, ground := Ground.phase }, { on := 7, ground := Ground.phase }], guard := none }) rfl ?_ (AllReadyH.nil)
            · intro K hK
              rw [if_pos (by rfl)]
              refine wp_store_row 23 (.tmp 9) (.tmp 15) rfl g9 (andR a b).arr (by rfl) (by rfl) 23 _ (hX.blk 3 rfl) size23 rfl (arr_one _) ?_
              replace hX := hX.setRow 3 rfl (andR a b).arr
              generalize v4.setRow g9 (andR a b).arr = v5 at hX ⊢
              refine hK.out _ _ (hX.take 2) (fun _ => ?_)
              clear hK K
              try simp only [Act.put]
              refine wpAnyH_ready (rs := [9]) (by kernel_rfl) (by simp) ?_
              refine AllReadyH.cons (o := { dst := none, op := Op.store 23 (Operand.tmp 10) (Operand.tmp 18), type := 0, pos := "outright.go:10", after := #[{ on := 7, ground := Ground.data }, { on := 5, ground := Ground.data }, { on := 8, ground := Ground.chain }, { on := 0, ground := Ground.phase }, { on := 1, ground := Ground.phase }, { on := 2, ground := Ground.phase }, { on := 3, ground := Ground.phase }, { on := 4, ground := Ground.phase }, { on := 5, ground := Ground.phase }, { on := 6, ground := Ground.phase }, { on := 7, ground := Ground.phase }, { on := 8, ground := Ground.phase }], guard := none }) rfl ?_ (AllReadyH.nil)
              · intro K hK
                rw [if_pos (by rfl)]
                refine wp_store_row 23 (.tmp 10) (.tmp 18) rfl g10 (orR a b).arr (by rfl) (by rfl) 23 _ (hX.blk 2 rfl) size23 rfl (arr_one _) ?_
                replace hX := hX.setRow 2 rfl (orR a b).arr
                generalize v5.setRow g10 (orR a b).arr = v6 at hX ⊢
                refine hK.out _ _ (hX.take 2) (fun _ => ?_)
                clear hK K
                try simp only [Act.put]
                refine wpAnyH_done (by kernel_rfl) ?_ _
                go_wp2_with fail
                go_meet
                exact ⟨g9, g10, rfl, rfl, hX.perm (.cons _ (.cons _ (.swap _ _ _)))⟩
        · intro K hK
          go_simp
          obtain ⟨v3, hW, hX⟩ := hX.boxed 23 #[.int .i64 0, .int .i64 0, .int .i64 0, .int .i64 0]
          rw [hW]
          clear hW
          generalize v2.heap.size = g9 at hX ⊢
          refine hK.out _ _ (hX.take 2) (fun _ => ?_)
          clear hK K
          try simp only [Act.put, List.setIfInBounds_toArray, List.set_cons_zero, List.set_cons_succ]
          refine wpAnyH_ready (rs := [5]) (by kernel_rfl) (by simp) ?_
          refine AllReadyH.cons (o := { dst := some 18, op := Op.call { callee := Callee.value (Operand.func 23), args := #[Operand.tmp 16, Operand.tmp 17], argTypes := #[23, 23] }, type := 23, pos := "outright.go:10", after := #[{ on := 3, ground := Ground.data }, { on := 4, ground := Ground.data }, { on := 2, ground := Ground.chain }], guard := none }) rfl ?_ (AllReadyH.nil)
          · intro K hK
            go_simp
            go_at_call 23
            refine (or_any a b _).mono ?_
            rintro e v4 ⟨rfl, hb1⟩
            replace hX := hX.grow hb1
            clear hb1
            refine hK.out _ _ (hX.take 2) (fun _ => ?_)
            clear hK K
            try simp only [Act.put, List.setIfInBounds_toArray, List.set_cons_zero, List.set_cons_succ]
            refine wpAnyH_ready (rs := [8]) (by kernel_rfl) (by simp) ?_
            refine AllReadyH.cons (o := { dst := none, op := Op.store 23 (Operand.tmp 9) (Operand.tmp 15), type := 0, pos := "outright.go:10", after := #[{ on := 6, ground := Ground.data }, { on := 2, ground := Ground.data }, { on := 5, ground := Ground.chain }, { on := 0, ground := Ground.phase }, { on := 1, ground := Ground.phase }, { on := 2, ground := Ground.phase }, { on := 3, ground := Ground.textOnly Departure.lateStores }, { on := 4, ground := Ground.textOnly Departure.lateStores }, { on := 5, ground := Ground.textOnly Departure.lateStoresUnsure }, { on := 6, ground := Ground.phase }, { on := 7, ground := Ground.phase }], guard := none }) rfl ?_ (AllReadyH.nil)
            · intro K hK
              rw [if_pos (by rfl)]
              refine wp_store_row 23 (.tmp 9) (.tmp 15) rfl g9 (andR a b).arr (by rfl) (by rfl) 23 _ (hX.blk 3 rfl) size23 rfl (arr_one _) ?_
              replace hX := hX.setRow 3 rfl (andR a b).arr
              generalize v4.setRow g9 (andR a b).arr = v5 at hX ⊢
              refine hK.out _ _ (hX.take 2) (fun _ => ?_)
              clear hK K
              try simp only [Act.put]
              refine wpAnyH_ready (rs := [9]) (by kernel_rfl) (by simp) ?_
              refine AllReadyH.cons (o := { dst := none, op := Op.store 23 (Operand.tmp 10) (Operand.tmp 18), type := 0, pos := "outright.go:10", after := #[{ on := 7, ground := Ground.data }, { on := 5, ground := Ground.data }, { on := 8, ground := Ground.chain }, { on := 0, ground := Ground.phase }, { on := 1, ground := Ground.phase }, { on := 2, ground := Ground.phase }, { on := 3, ground := Ground.phase }, { on := 4, ground := Ground.phase }, { on := 5, ground := Ground.phase }, { on := 6, ground := Ground.phase }, { on := 7, ground := Ground.phase }, { on := 8, ground := Ground.phase }], guard := none }) rfl ?_ (AllReadyH.nil)
              · intro K hK
                rw [if_pos (by rfl)]
                refine wp_store_row 23 (.tmp 10) (.tmp 18) rfl g10 (orR a b).arr (by rfl) (by rfl) 23 _ (hX.blk 2 rfl) size23 rfl (arr_one _) ?_
                replace hX := hX.setRow 2 rfl (orR a b).arr
                generalize v5.setRow g10 (orR a b).arr = v6 at hX ⊢
                refine hK.out _ _ (hX.take 2) (fun _ => ?_)
                clear hK K
                try simp only [Act.put]
                refine wpAnyH_done (by kernel_rfl) ?_ _
                go_wp2_with fail
                go_meet
                exact ⟨g9, g10, rfl, rfl, hX.perm (.cons _ (.cons _ (.swap _ _ _)))⟩
      · intro K hK
        go_simp
        obtain ⟨v2, hW, hX⟩ := hX.boxed 23 #[.int .i64 0, .int .i64 0, .int .i64 0, .int .i64 0]
        rw [hW]
        clear hW
        generalize v1.heap.size = g9 at hX ⊢
        refine hK.out _ _ (hX.take 2) (fun _ => ?_)
        clear hK K
        try simp only [Act.put, List.setIfInBounds_toArray, List.set_cons_zero, List.set_cons_succ]
        refine wpAnyH_ready (rs := [2]) (by kernel_rfl) (by simp) ?_
        refine AllReadyH.cons (o := { dst := some 15, op := Op.call { callee := Callee.value (Operand.func 9), args := #[Operand.tmp 13, Operand.tmp 14], argTypes := #[23, 23] }, type := 23, pos := "outright.go:10", after := #[{ on := 0, ground := Ground.data }, { on := 1, ground := Ground.data }], guard := none }) rfl ?_ (AllReadyH.nil)
        · intro K hK
          go_simp
          go_at_call 9
          refine (and_any a b _).mono ?_
          rintro e v3 ⟨rfl, hb1⟩
          replace hX := hX.grow hb1
          clear hb1
          refine hK.out _ _ (hX.take 2) (fun _ => ?_)
          clear hK K
          try simp only [Act.put, List.setIfInBounds_toArray, List.set_cons_zero, List.set_cons_succ]
          refine wpAnyH_ready (rs := [5]) (by kernel_rfl) (by simp) ?_
          refine AllReadyH.cons (o := { dst := some 18, op := Op.call { callee := Callee.value (Operand.func 23), args := #[Operand.tmp 16, Operand.tmp 17], argTypes := #[23, 23] }, type := 23, pos := "outright.go:10", after := #[{ on := 3, ground := Ground.data }, { on := 4, ground := Ground.data }, { on := 2, ground := Ground.chain }], guard := none }) rfl ?_ (AllReadyH.nil)
          · intro K hK
            go_simp
            go_at_call 23
            refine (or_any a b _).mono ?_
            rintro e v4 ⟨rfl, hb1⟩
            replace hX := hX.grow hb1
            clear hb1
            refine hK.out _ _ (hX.take 2) (fun _ => ?_)
            clear hK K
            try simp only [Act.put, List.setIfInBounds_toArray, List.set_cons_zero, List.set_cons_succ]
            refine wpAnyH_ready (rs := [8]) (by kernel_rfl) (by simp) ?_
            refine AllReadyH.cons (o := { dst := none, op := Op.store 23 (Operand.tmp 9) (Operand.tmp 15), type := 0, pos := "outright.go:10", after := #[{ on := 6, ground := Ground.data }, { on := 2, ground := Ground.data }, { on := 5, ground := Ground.chain }, { on := 0, ground := Ground.phase }, { on := 1, ground := Ground.phase }, { on := 2, ground := Ground.phase }, { on := 3, ground := Ground.textOnly Departure.lateStores }, { on := 4, ground := Ground.textOnly Departure.lateStores }, { on := 5, ground := Ground.textOnly Departure.lateStoresUnsure }, { on := 6, ground := Ground.phase }, { on := 7, ground := Ground.phase }], guard := none }) rfl ?_ (AllReadyH.nil)
            · intro K hK
              rw [if_pos (by rfl)]
              refine wp_store_row 23 (.tmp 9) (.tmp 15) rfl g9 (andR a b).arr (by rfl) (by rfl) 23 _ (hX.blk 3 rfl) size23 rfl (arr_one _) ?_
              replace hX := hX.setRow 3 rfl (andR a b).arr
              generalize v4.setRow g9 (andR a b).arr = v5 at hX ⊢
              refine hK.out _ _ (hX.take 2) (fun _ => ?_)
              clear hK K
              try simp only [Act.put]
              refine wpAnyH_ready (rs := [9]) (by kernel_rfl) (by simp) ?_
              refine AllReadyH.cons (o := { dst := none, op := Op.store 23 (Operand.tmp 10) (Operand.tmp 18), type := 0, pos := "outright.go:10", after := #[{ on := 7, ground := Ground.data }, { on := 5, ground := Ground.data }, { on := 8, ground := Ground.chain }, { on := 0, ground := Ground.phase }, { on := 1, ground := Ground.phase }, { on := 2, ground := Ground.phase }, { on := 3, ground := Ground.phase }, { on := 4, ground := Ground.phase }, { on := 5, ground := Ground.phase }, { on := 6, ground := Ground.phase }, { on := 7, ground := Ground.phase }, { on := 8, ground := Ground.phase }], guard := none }) rfl ?_ (AllReadyH.nil)
              · intro K hK
                rw [if_pos (by rfl)]
                refine wp_store_row 23 (.tmp 10) (.tmp 18) rfl g10 (orR a b).arr (by rfl) (by rfl) 23 _ (hX.blk 2 rfl) size23 rfl (arr_one _) ?_
                replace hX := hX.setRow 2 rfl (orR a b).arr
                generalize v5.setRow g10 (orR a b).arr = v6 at hX ⊢
                refine hK.out _ _ (hX.take 2) (fun _ => ?_)
                clear hK K
                try simp only [Act.put]
                refine wpAnyH_done (by kernel_rfl) ?_ _
                go_wp2_with fail
                go_meet
                exact ⟨g9, g10, rfl, rfl, hX.perm (.cons _ (.cons _ (.swap _ _ _)))⟩
  case rest =>
    clear hX
    obtain ⟨g9, g10, rfl, rfl, hX⟩ := hcut
    go_upto_region 2 with (fail)
    go_cut [11, 12] (fun s11 s12 wx => s11 = .bool p ∧ s12 = .bool q ∧ Sep w wx [cell g4 23 a.arr, cell g5 23 b.arr, cell g9 23 (andR a b).arr, cell g10 23 (orR a b).arr])
    case first => as_aux_lemma =>
      refine wp_region_held_drew (S := fun w' => Sep w w' [cell g4 23 a.arr, cell g5 23 b.arr, cell g9 23 (andR a b).arr, cell g10 23 (orR a b).arr]) (by kernel_rfl) hX.drew (fun hHeld => ?_)
      replace hX := hHeld
      clear hHeld
      generalize wc.drew = v0 at hX ⊢
      refine wpAnyH_take (i := 0) (oi := { dst := some 19, op := Op.load 23 (Operand.tmp 4), type := 23, pos := "outright.go:11", after := #[], guard := none }) rfl (by kernel_rfl) (by kernel_rfl) (by kernel_rfl) (fun _ _ _ h => h) (load_rc (t := 4) (r := a) rfl rfl rfl (fun _ h => h.blk 0 rfl)) (hX.take 4) ?_
      try simp only [Act.put, List.setIfInBounds_toArray, List.set_cons_zero, List.set_cons_succ]
      refine wpAnyH_take (i := 1) (oi := { dst := some 20, op := Op.move (Operand.tmp 2), type := 3, pos := "outright.go:11", after := #[], guard := none }) (v := ?_) rfl (by kernel_rfl) (by kernel_rfl) (by kernel_rfl) (fun _ _ _ h => h) (Or.inl ⟨by rfl, ?_⟩) (hX.take 4) ?_
      rotate_left
      · (intro w' hSw; clear hSw; go_simp); with_reducible rfl
      try simp only [Act.put, List.setIfInBounds_toArray, List.set_cons_zero, List.set_cons_succ]
      refine wpAnyH_take (i := 2) (oi := { dst := some 21, op := Op.move (Operand.tmp 3), type := 3, pos := "outright.go:11", after := #[], guard := none }) (v := ?_) rfl (by kernel_rfl) (by kernel_rfl) (by kernel_rfl) (fun _ _ _ h => h) (Or.inl ⟨by rfl, ?_⟩) (hX.take 4) ?_
      rotate_left
      · (intro w' hSw; clear hSw; go_simp); with_reducible rfl
      try simp only [Act.put, List.setIfInBounds_toArray, List.set_cons_zero, List.set_cons_succ]
      refine wpAnyH_take (i := 4) (oi := { dst := some 23, op := Op.load 23 (Operand.tmp 5), type := 23, pos := "outright.go:11", after := #[], guard := none }) rfl (by kernel_rfl) (by kernel_rfl) (by kernel_rfl) (fun _ _ _ h => h) (load_rc (t := 5) (r := b) rfl rfl rfl (fun _ h => h.blk 1 rfl)) (hX.take 4) ?_
      try simp only [Act.put, List.setIfInBounds_toArray, List.set_cons_zero, List.set_cons_succ]
      refine wpAnyH_take (i := 5) (oi := { dst := some 24, op := Op.move (Operand.tmp 2), type := 3, pos := "outright.go:11", after := #[], guard := none }) (v := ?_) rfl (by kernel_rfl) (by kernel_rfl) (by kernel_rfl) (fun _ _ _ h => h) (Or.inl ⟨by rfl, ?_⟩) (hX.take 4) ?_
      rotate_left
      · (intro w' hSw; clear hSw; go_simp); with_reducible rfl
      try simp only [Act.put, List.setIfInBounds_toArray, List.set_cons_zero, List.set_cons_succ]
      refine wpAnyH_take (i := 6) (oi := { dst := some 25, op := Op.move (Operand.tmp 3), type := 3, pos := "outright.go:11", after := #[], guard := none }) (v := ?_) rfl (by kernel_rfl) (by kernel_rfl) (by kernel_rfl) (fun _ _ _ h => h) (Or.inl ⟨by rfl, ?_⟩) (hX.take 4) ?_
      rotate_left
      · (intro w' hSw; clear hSw; go_simp); with_reducible rfl
      try simp only [Act.put, List.setIfInBounds_toArray, List.set_cons_zero, List.set_cons_succ]
      refine wpAnyH_ready (rs := [3]) (by kernel_rfl) (by simp) ?_
      refine AllReadyH.cons (o := { dst := some 22, op := Op.call { callee := Callee.value (Operand.func 13), args := #[Operand.tmp 19, Operand.tmp 20, Operand.tmp 21], argTypes := #[23, 3, 3] }, type := 4, pos := "outright.go:11", after := #[{ on := 0, ground := Ground.data }, { on := 1, ground := Ground.data }, { on := 2, ground := Ground.data }], guard := none }) rfl ?_ (AllReadyH.nil)
      · intro K hK
        go_simp
        go_at_call 13
        refine (has_any (a).x (a).y (a).w (a).h x y _).mono ?_
        rw [show hasB a.x a.y a.w a.h x y = p from P.out]
        rintro e v1 ⟨rfl, hb1⟩
        replace hX := hX.grow hb1
        clear hb1
        refine hK.out _ _ (hX.take 4) (fun _ => ?_)
        clear hK K
        try simp only [Act.put, List.setIfInBounds_toArray, List.set_cons_zero, List.set_cons_succ]
        refine wpAnyH_ready (rs := [7]) (by kernel_rfl) (by simp) ?_
        refine AllReadyH.cons (o := { dst := some 26, op := Op.call { callee := Callee.value (Operand.func 13), args := #[Operand.tmp 23, Operand.tmp 24, Operand.tmp 25], argTypes := #[23, 3, 3] }, type := 4, pos := "outright.go:11", after := #[{ on := 4, ground := Ground.data }, { on := 5, ground := Ground.data }, { on := 6, ground := Ground.data }, { on := 3, ground := Ground.chain }], guard := none }) rfl ?_ (AllReadyH.nil)
        · intro K hK
          go_simp
          go_at_call 13
          refine (has_any (b).x (b).y (b).w (b).h x y _).mono ?_
          rw [show hasB b.x b.y b.w b.h x y = q from Q.out]
          rintro e v2 ⟨rfl, hb1⟩
          replace hX := hX.grow hb1
          clear hb1
          refine hK.out _ _ (hX.take 4) (fun _ => ?_)
          clear hK K
          try simp only [Act.put, List.setIfInBounds_toArray, List.set_cons_zero, List.set_cons_succ]
          refine wpAnyH_take (i := 8) (oi := { dst := some 11, op := Op.assign (Operand.tmp 22), type := 4, pos := "outright.go:11", after := #[{ on := 3, ground := Ground.data }, { on := 7, ground := Ground.chain }, { on := 0, ground := Ground.phase }, { on := 1, ground := Ground.phase }, { on := 2, ground := Ground.phase }, { on := 3, ground := Ground.phase }, { on := 4, ground := Ground.textOnly Departure.lateStores }, { on := 5, ground := Ground.textOnly Departure.lateStores }, { on := 6, ground := Ground.textOnly Departure.lateStores }, { on := 7, ground := Ground.textOnly Departure.lateStoresUnsure }], guard := none }) (v := ?_) rfl (by kernel_rfl) (by kernel_rfl) (by kernel_rfl) (fun _ _ _ h => h) (Or.inl ⟨by rfl, ?_⟩) (hX.take 4) ?_
          rotate_left
          · (intro w' hSw; clear hSw; go_simp); with_reducible rfl
          try simp only [Act.put, List.setIfInBounds_toArray, List.set_cons_zero, List.set_cons_succ]
          refine wpAnyH_take (i := 9) (oi := { dst := some 12, op := Op.assign (Operand.tmp 26), type := 4, pos := "outright.go:11", after := #[{ on := 7, ground := Ground.data }, { on := 8, ground := Ground.chain }, { on := 0, ground := Ground.phase }, { on := 1, ground := Ground.phase }, { on := 2, ground := Ground.phase }, { on := 3, ground := Ground.phase }, { on := 4, ground := Ground.phase }, { on := 5, ground := Ground.phase }, { on := 6, ground := Ground.phase }, { on := 7, ground := Ground.phase }, { on := 8, ground := Ground.phase }], guard := none }) (v := ?_) rfl (by kernel_rfl) (by kernel_rfl) (by kernel_rfl) (fun _ _ _ h => h) (Or.inl ⟨by rfl, ?_⟩) (hX.take 4) ?_
          rotate_left
          · (intro w' hSw; clear hSw; go_simp); with_reducible rfl
          try simp only [Act.put, List.setIfInBounds_toArray, List.set_cons_zero, List.set_cons_succ]
          refine wpAnyH_done (by kernel_rfl) ?_ _
          go_wp2_with fail
          go_meet
          exact ⟨rfl, rfl, hX⟩
    case rest =>
      clear hX
      obtain ⟨rfl, rfl, hX⟩ := hcut
      go_upto_region 3 with (fail)
      go_cut [61] (fun s61 wx => s61 = .bool false ∧ Sep w wx [cell g4 23 a.arr, cell g5 23 b.arr, cell g9 23 (andR a b).arr, cell g10 23 (orR a b).arr])
      case first => as_aux_lemma =>
        have hc : Hid (hasB (andR a b).x (andR a b).y (andR a b).w (andR a b).h x y = (p && q)) := Lib.hid (by have := has_and a b x y; rw [P.out, Q.out] at this; exact this)
        have ic := Lib.hid (and_in_left a b)
        have id := Lib.hid (and_in_right a b)
        have q1 : ∀ w, (binOp .neq 23 (andR a b).v ((andR b a).v)).run Try.prog w = .ok (.bool false) w := fun w => (run_neR (andR a b) (andR b a) w).trans (by rw [and_comm a b, eqR_self]; rfl)
        have q2 : ∀ w, (binOp .neq 23 (orR a b).v ((orR b a).v)).run Try.prog w = .ok (.bool false) w := fun w => (run_neR (orR a b) (orR b a) w).trans (by rw [or_comm a b, eqR_self]; rfl)
        cases p with
        | true =>
          have q0 : ∀ (z : Bool) (w : World), (binOp .neq 4 (.bool z) (.bool z)).run Try.prog w = .ok (.bool false) w := fun z w => by cases z <;> rfl
          replace hc : Hid (hasB (andR a b).x (andR a b).y (andR a b).w (andR a b).h x y = q) := hc
          refine wp_region_held_drew (S := fun w' => Sep w w' [cell g4 23 a.arr, cell g5 23 b.arr, cell g9 23 (andR a b).arr, cell g10 23 (orR a b).arr]) (by kernel_rfl) hX.drew (fun hHeld => ?_)
          replace hX := hHeld
          clear hHeld
          generalize wc.drew = v0 at hX ⊢
          refine wpAnyH_take (i := 0) (oi := { dst := some 27, op := Op.load 23 (Operand.tmp 9), type := 23, pos := "outright.go:12", after := #[], guard := none }) rfl (by kernel_rfl) (by kernel_rfl) (by kernel_rfl) (fun _ _ _ h => h) (load_rc (t := 9) (r := andR a b) rfl rfl rfl (fun _ h => h.blk 2 rfl)) (hX.take 4) ?_
          try simp only [Act.put, List.setIfInBounds_toArray, List.set_cons_zero, List.set_cons_succ]
          refine wpAnyH_take (i := 1) (oi := { dst := some 28, op := Op.move (Operand.tmp 2), type := 3, pos := "outright.go:12", after := #[], guard := none }) (v := ?_) rfl (by kernel_rfl) (by kernel_rfl) (by kernel_rfl) (fun _ _ _ h => h) (Or.inl ⟨by rfl, ?_⟩) (hX.take 4) ?_
          rotate_left
          · (intro w' hSw; clear hSw; go_simp); with_reducible rfl
          try simp only [Act.put, List.setIfInBounds_toArray, List.set_cons_zero, List.set_cons_succ]
          refine wpAnyH_take (i := 2) (oi := { dst := some 29, op := Op.move (Operand.tmp 3), type := 3, pos := "outright.go:12", after := #[], guard := none }) (v := ?_) rfl (by kernel_rfl) (by kernel_rfl) (by kernel_rfl) (fun _ _ _ h => h) (Or.inl ⟨by rfl, ?_⟩) (hX.take 4) ?_
          rotate_left
          · (intro w' hSw; clear hSw; go_simp); with_reducible rfl
          try simp only [Act.put, List.setIfInBounds_toArray, List.set_cons_zero, List.set_cons_succ]
          refine wpAnyH_take (i := 4) (oi := { dst := some 31, op := Op.move (Operand.tmp 11), type := 4, pos := "outright.go:12", after := #[], guard := none }) (v := ?_) rfl (by kernel_rfl) (by kernel_rfl) (by kernel_rfl) (fun _ _ _ h => h) (Or.inl ⟨by rfl, ?_⟩) (hX.take 4) ?_
          rotate_left
          · (intro w' hSw; clear hSw; go_simp); with_reducible rfl
          try simp only [Act.put, List.setIfInBounds_toArray, List.set_cons_zero, List.set_cons_succ]
          refine wpAnyH_ready (rs := [3]) (by kernel_rfl) (by simp) ?_
          refine AllReadyH.cons (o := { dst := some 30, op := Op.call { callee := Callee.value (Operand.func 13), args := #[Operand.tmp 27, Operand.tmp 28, Operand.tmp 29], argTypes := #[23, 3, 3] }, type := 4, pos := "outright.go:12", after := #[{ on := 0, ground := Ground.data }, { on := 1, ground := Ground.data }, { on := 2, ground := Ground.data }], guard := none }) rfl ?_ (AllReadyH.nil)
          · intro K hK
            go_simp
            go_at_call 13
            refine (has_any (andR a b).x (andR a b).y (andR a b).w (andR a b).h x y _).mono ?_
            rw [hc.out]
            rintro e v1 ⟨rfl, hb1⟩
            replace hX := hX.grow hb1
            clear hb1
            refine hK.out _ _ (hX.take 4) (fun _ => ?_)
            clear hK K
            try simp only [Act.put, List.setIfInBounds_toArray, List.set_cons_zero, List.set_cons_succ]
            refine wpAnyH_take (i := 5) (oi := { dst := some 32, op := Op.move (Operand.tmp 31), type := 4, pos := "outright.go:12", after := #[{ on := 4, ground := Ground.data }, { on := 3, ground := Ground.chain }], guard := none }) (v := ?_) rfl (by kernel_rfl) (by kernel_rfl) (by kernel_rfl) (fun _ _ _ h => h) (Or.inl ⟨by rfl, ?_⟩) (hX.take 4) ?_
            rotate_left
            · (intro w' hSw; clear hSw; go_simp); with_reducible rfl
            try simp only [Act.put, List.setIfInBounds_toArray, List.set_cons_zero, List.set_cons_succ]
            refine wpAnyH_take (i := 6) (oi := { dst := some 33, op := Op.move (Operand.tmp 12), type := 4, pos := "outright.go:12", after := #[{ on := 5, ground := Ground.guard }], guard := some (5, true) }) (v := ?_) rfl (by kernel_rfl) (by kernel_rfl) (by kernel_rfl) (fun _ _ _ h => h) (Or.inl ⟨by rfl, ?_⟩) (hX.take 4) ?_
            rotate_left
            · (intro w' hSw; clear hSw; go_simp); with_reducible rfl
            try simp only [Act.put, List.setIfInBounds_toArray, List.set_cons_zero, List.set_cons_succ]
            refine wpAnyH_take (i := 7) (oi := { dst := some 34, op := Op.pick (Operand.tmp 32) (Operand.tmp 33) (Operand.const (Value.bool false)), type := 4, pos := "outright.go:12", after := #[{ on := 5, ground := Ground.data }, { on := 6, ground := Ground.data }], guard := none }) (v := ?_) rfl (by kernel_rfl) (by kernel_rfl) (by kernel_rfl) (fun _ _ _ h => h) (Or.inl ⟨by rfl, ?_⟩) (hX.take 4) ?_
            rotate_left
            · (intro w' hSw; clear hSw; go_simp); with_reducible rfl
            try simp only [Act.put, List.setIfInBounds_toArray, List.set_cons_zero, List.set_cons_succ]
            refine wpAnyH_take (i := 8) (oi := { dst := some 35, op := Op.binOp BinOp.neq 4 (Operand.tmp 30) (Operand.tmp 34) 4, type := 4, pos := "outright.go:12", after := #[{ on := 3, ground := Ground.data }, { on := 7, ground := Ground.data }], guard := none }) (v := ?_) rfl (by kernel_rfl) (by kernel_rfl) (by kernel_rfl) (fun _ _ _ h => h) (Or.inl ⟨by rfl, ?_⟩) (hX.take 4) ?_
            rotate_left
            · (intro w' hSw; clear hSw; go_simp); with_reducible rfl
            try simp only [Act.put, List.setIfInBounds_toArray, List.set_cons_zero, List.set_cons_succ]
            refine wpAnyH_take (i := 9) (oi := { dst := some 36, op := Op.move (Operand.tmp 35), type := 4, pos := "outright.go:12", after := #[{ on := 8, ground := Ground.data }, { on := 5, ground := Ground.chain }], guard := none }) (v := ?_) rfl (by kernel_rfl) (by kernel_rfl) (by kernel_rfl) (fun _ _ _ h => h) (Or.inl ⟨by rfl, ?_⟩) (hX.take 4) ?_
            rotate_left
            · (intro w' hSw; clear hSw; go_simp); with_reducible rfl
            try simp only [Act.put, List.setIfInBounds_toArray, List.set_cons_zero, List.set_cons_succ]
            refine wpAnyH_take (i := 10) (oi := { dst := some 37, op := Op.load 23 (Operand.tmp 9), type := 23, pos := "outright.go:12", after := #[{ on := 9, ground := Ground.guard }], guard := some (9, false) }) rfl (by kernel_rfl) (by kernel_rfl) (by kernel_rfl) (fun _ _ _ h => h) (load_rc (t := 9) (r := andR a b) rfl rfl rfl (fun _ h => h.blk 2 rfl)) (hX.take 4) ?_
            try simp only [Act.put, List.setIfInBounds_toArray, List.set_cons_zero, List.set_cons_succ]
            refine wpAnyH_take (i := 11) (oi := { dst := some 38, op := Op.load 23 (Operand.tmp 5), type := 23, pos := "outright.go:12", after := #[{ on := 9, ground := Ground.guard }], guard := some (9, false) }) rfl (by kernel_rfl) (by kernel_rfl) (by kernel_rfl) (fun _ _ _ h => h) (load_rc (t := 5) (r := b) rfl rfl rfl (fun _ h => h.blk 1 rfl)) (hX.take 4) ?_
            try simp only [Act.put, List.setIfInBounds_toArray, List.set_cons_zero, List.set_cons_succ]
            refine wpAnyH_take (i := 12) (oi := { dst := some 39, op := Op.load 23 (Operand.tmp 4), type := 23, pos := "outright.go:12", after := #[{ on := 9, ground := Ground.guard }], guard := some (9, false) }) rfl (by kernel_rfl) (by kernel_rfl) (by kernel_rfl) (fun _ _ _ h => h) (load_rc (t := 4) (r := a) rfl rfl rfl (fun _ h => h.blk 0 rfl)) (hX.take 4) ?_
            try simp only [Act.put, List.setIfInBounds_toArray, List.set_cons_zero, List.set_cons_succ]
            refine wpAnyH_ready (rs := [13]) (by kernel_rfl) (by simp) ?_
            refine AllReadyH.cons (o := { dst := some 40, op := Op.call { callee := Callee.value (Operand.func 9), args := #[Operand.tmp 38, Operand.tmp 39], argTypes := #[23, 23] }, type := 23, pos := "outright.go:12", after := #[{ on := 11, ground := Ground.data }, { on := 12, ground := Ground.data }, { on := 9, ground := Ground.chain }, { on := 9, ground := Ground.guard }], guard := some (9, false) }) rfl ?_ (AllReadyH.nil)
            · intro K hK
              go_simp
              go_at_call 9
              refine (and_any b a _).mono ?_
              rintro e v2 ⟨rfl, hb1⟩
              replace hX := hX.grow hb1
              clear hb1
              refine hK.out _ _ (hX.take 4) (fun _ => ?_)
              clear hK K
              try simp only [Act.put, List.setIfInBounds_toArray, List.set_cons_zero, List.set_cons_succ]
              refine wpAnyH_take (i := 14) (oi := { dst := some 41, op := Op.binOp BinOp.neq 23 (Operand.tmp 37) (Operand.tmp 40) 23, type := 4, pos := "outright.go:12", after := #[{ on := 10, ground := Ground.data }, { on := 13, ground := Ground.data }, { on := 9, ground := Ground.guard }], guard := some (9, false) }) (v := ?_) rfl (by kernel_rfl) (by kernel_rfl) (by kernel_rfl) (fun _ _ _ h => h) (Or.inl ⟨by rfl, ?_⟩) (hX.take 4) ?_
              rotate_left
              · (intro w' hSw; clear hSw; go_simp); with_reducible rfl
              try simp only [Act.put, List.setIfInBounds_toArray, List.set_cons_zero, List.set_cons_succ]
              refine wpAnyH_take (i := 15) (oi := { dst := some 42, op := Op.pick (Operand.tmp 36) (Operand.const (Value.bool true)) (Operand.tmp 41), type := 4, pos := "outright.go:12", after := #[{ on := 9, ground := Ground.data }, { on := 14, ground := Ground.data }], guard := none }) (v := ?_) rfl (by kernel_rfl) (by kernel_rfl) (by kernel_rfl) (fun _ _ _ h => h) (Or.inl ⟨by rfl, ?_⟩) (hX.take 4) ?_
              rotate_left
              · (intro w' hSw; clear hSw; go_simp); with_reducible rfl
              try simp only [Act.put, List.setIfInBounds_toArray, List.set_cons_zero, List.set_cons_succ]
              refine wpAnyH_take (i := 16) (oi := { dst := some 43, op := Op.move (Operand.tmp 42), type := 4, pos := "outright.go:12", after := #[{ on := 15, ground := Ground.data }, { on := 13, ground := Ground.chain }], guard := none }) (v := ?_) rfl (by kernel_rfl) (by kernel_rfl) (by kernel_rfl) (fun _ _ _ h => h) (Or.inl ⟨by rfl, ?_⟩) (hX.take 4) ?_
              rotate_left
              · (intro w' hSw; clear hSw; go_simp); with_reducible rfl
              try simp only [Act.put, List.setIfInBounds_toArray, List.set_cons_zero, List.set_cons_succ]
              refine wpAnyH_take (i := 17) (oi := { dst := some 44, op := Op.load 23 (Operand.tmp 10), type := 23, pos := "outright.go:12", after := #[{ on := 16, ground := Ground.guard }], guard := some (16, false) }) rfl (by kernel_rfl) (by kernel_rfl) (by kernel_rfl) (fun _ _ _ h => h) (load_rc (t := 10) (r := orR a b) rfl rfl rfl (fun _ h => h.blk 3 rfl)) (hX.take 4) ?_
              try simp only [Act.put, List.setIfInBounds_toArray, List.set_cons_zero, List.set_cons_succ]
              refine wpAnyH_take (i := 18) (oi := { dst := some 45, op := Op.load 23 (Operand.tmp 5), type := 23, pos := "outright.go:12", after := #[{ on := 16, ground := Ground.guard }], guard := some (16, false) }) rfl (by kernel_rfl) (by kernel_rfl) (by kernel_rfl) (fun _ _ _ h => h) (load_rc (t := 5) (r := b) rfl rfl rfl (fun _ h => h.blk 1 rfl)) (hX.take 4) ?_
              try simp only [Act.put, List.setIfInBounds_toArray, List.set_cons_zero, List.set_cons_succ]
              refine wpAnyH_take (i := 19) (oi := { dst := some 46, op := Op.load 23 (Operand.tmp 4), type := 23, pos := "outright.go:12", after := #[{ on := 16, ground := Ground.guard }], guard := some (16, false) }) rfl (by kernel_rfl) (by kernel_rfl) (by kernel_rfl) (fun _ _ _ h => h) (load_rc (t := 4) (r := a) rfl rfl rfl (fun _ h => h.blk 0 rfl)) (hX.take 4) ?_
              try simp only [Act.put, List.setIfInBounds_toArray, List.set_cons_zero, List.set_cons_succ]
              refine wpAnyH_ready (rs := [20]) (by kernel_rfl) (by simp) ?_
              refine AllReadyH.cons (o := { dst := some 47, op := Op.call { callee := Callee.value (Operand.func 23), args := #[Operand.tmp 45, Operand.tmp 46], argTypes := #[23, 23] }, type := 23, pos := "outright.go:12", after := #[{ on := 18, ground := Ground.data }, { on := 19, ground := Ground.data }, { on := 16, ground := Ground.chain }, { on := 16, ground := Ground.guard }], guard := some (16, false) }) rfl ?_ (AllReadyH.nil)
              · intro K hK
                go_simp
                go_at_call 23
                refine (or_any b a _).mono ?_
                rintro e v3 ⟨rfl, hb1⟩
                replace hX := hX.grow hb1
                clear hb1
                refine hK.out _ _ (hX.take 4) (fun _ => ?_)
                clear hK K
                try simp only [Act.put, List.setIfInBounds_toArray, List.set_cons_zero, List.set_cons_succ]
                refine wpAnyH_take (i := 21) (oi := { dst := some 48, op := Op.binOp BinOp.neq 23 (Operand.tmp 44) (Operand.tmp 47) 23, type := 4, pos := "outright.go:12", after := #[{ on := 17, ground := Ground.data }, { on := 20, ground := Ground.data }, { on := 16, ground := Ground.guard }], guard := some (16, false) }) (v := ?_) rfl (by kernel_rfl) (by kernel_rfl) (by kernel_rfl) (fun _ _ _ h => h) (Or.inl ⟨by rfl, ?_⟩) (hX.take 4) ?_
                rotate_left
                · (intro w' hSw; clear hSw; go_simp); with_reducible rfl
                try simp only [Act.put, List.setIfInBounds_toArray, List.set_cons_zero, List.set_cons_succ]
                refine wpAnyH_take (i := 22) (oi := { dst := some 49, op := Op.pick (Operand.tmp 43) (Operand.const (Value.bool true)) (Operand.tmp 48), type := 4, pos := "outright.go:12", after := #[{ on := 16, ground := Ground.data }, { on := 21, ground := Ground.data }], guard := none }) (v := ?_) rfl (by kernel_rfl) (by kernel_rfl) (by kernel_rfl) (fun _ _ _ h => h) (Or.inl ⟨by rfl, ?_⟩) (hX.take 4) ?_
                rotate_left
                · (intro w' hSw; clear hSw; go_simp); with_reducible rfl
                try simp only [Act.put, List.setIfInBounds_toArray, List.set_cons_zero, List.set_cons_succ]
                refine wpAnyH_take (i := 23) (oi := { dst := some 50, op := Op.move (Operand.tmp 49), type := 4, pos := "outright.go:12", after := #[{ on := 22, ground := Ground.data }, { on := 20, ground := Ground.chain }], guard := none }) (v := ?_) rfl (by kernel_rfl) (by kernel_rfl) (by kernel_rfl) (fun _ _ _ h => h) (Or.inl ⟨by rfl, ?_⟩) (hX.take 4) ?_
                rotate_left
                · (intro w' hSw; clear hSw; go_simp); with_reducible rfl
                try simp only [Act.put, List.setIfInBounds_toArray, List.set_cons_zero, List.set_cons_succ]
                refine wpAnyH_take (i := 24) (oi := { dst := some 51, op := Op.load 23 (Operand.tmp 9), type := 23, pos := "outright.go:12", after := #[{ on := 23, ground := Ground.guard }], guard := some (23, false) }) rfl (by kernel_rfl) (by kernel_rfl) (by kernel_rfl) (fun _ _ _ h => h) (load_rc (t := 9) (r := andR a b) rfl rfl rfl (fun _ h => h.blk 2 rfl)) (hX.take 4) ?_
                try simp only [Act.put, List.setIfInBounds_toArray, List.set_cons_zero, List.set_cons_succ]
                refine wpAnyH_take (i := 25) (oi := { dst := some 52, op := Op.load 23 (Operand.tmp 4), type := 23, pos := "outright.go:12", after := #[{ on := 23, ground := Ground.guard }], guard := some (23, false) }) rfl (by kernel_rfl) (by kernel_rfl) (by kernel_rfl) (fun _ _ _ h => h) (load_rc (t := 4) (r := a) rfl rfl rfl (fun _ h => h.blk 0 rfl)) (hX.take 4) ?_
                try simp only [Act.put, List.setIfInBounds_toArray, List.set_cons_zero, List.set_cons_succ]
                refine wpAnyH_ready (rs := [26]) (by kernel_rfl) (by simp) ?_
                refine AllReadyH.cons (o := { dst := some 53, op := Op.call { callee := Callee.value (Operand.func 11), args := #[Operand.tmp 51, Operand.tmp 52], argTypes := #[23, 23] }, type := 4, pos := "outright.go:12", after := #[{ on := 24, ground := Ground.data }, { on := 25, ground := Ground.data }, { on := 23, ground := Ground.chain }, { on := 23, ground := Ground.guard }], guard := some (23, false) }) rfl ?_ (AllReadyH.nil)
                · intro K hK
                  go_simp
                  go_at_call 11
                  refine (in_any (andR a b) a _).mono ?_
                  rw [ic.out]
                  rintro e v4 ⟨rfl, hb1⟩
                  replace hX := hX.grow hb1
                  clear hb1
                  refine hK.out _ _ (hX.take 4) (fun _ => ?_)
                  clear hK K
                  try simp only [Act.put, List.setIfInBounds_toArray, List.set_cons_zero, List.set_cons_succ]
                  refine wpAnyH_take (i := 27) (oi := { dst := some 54, op := Op.unOp UnOp.not 4 (Operand.tmp 53), type := 4, pos := "outright.go:12", after := #[{ on := 26, ground := Ground.data }, { on := 23, ground := Ground.guard }], guard := some (23, false) }) (v := ?_) rfl (by kernel_rfl) (by kernel_rfl) (by kernel_rfl) (fun _ _ _ h => h) (Or.inl ⟨by rfl, ?_⟩) (hX.take 4) ?_
                  rotate_left
                  · (intro w' hSw; clear hSw; go_simp); with_reducible rfl
                  try simp only [Act.put, List.setIfInBounds_toArray, List.set_cons_zero, List.set_cons_succ]
                  refine wpAnyH_take (i := 28) (oi := { dst := some 55, op := Op.pick (Operand.tmp 50) (Operand.const (Value.bool true)) (Operand.tmp 54), type := 4, pos := "outright.go:12", after := #[{ on := 23, ground := Ground.data }, { on := 27, ground := Ground.data }], guard := none }) (v := ?_) rfl (by kernel_rfl) (by kernel_rfl) (by kernel_rfl) (fun _ _ _ h => h) (Or.inl ⟨by rfl, ?_⟩) (hX.take 4) ?_
                  rotate_left
                  · (intro w' hSw; clear hSw; go_simp); with_reducible rfl
                  try simp only [Act.put, List.setIfInBounds_toArray, List.set_cons_zero, List.set_cons_succ]
                  refine wpAnyH_take (i := 29) (oi := { dst := some 56, op := Op.move (Operand.tmp 55), type := 4, pos := "outright.go:12", after := #[{ on := 28, ground := Ground.data }, { on := 26, ground := Ground.chain }], guard := none }) (v := ?_) rfl (by kernel_rfl) (by kernel_rfl) (by kernel_rfl) (fun _ _ _ h => h) (Or.inl ⟨by rfl, ?_⟩) (hX.take 4) ?_
                  rotate_left
                  · (intro w' hSw; clear hSw; go_simp); with_reducible rfl
                  try simp only [Act.put, List.setIfInBounds_toArray, List.set_cons_zero, List.set_cons_succ]
                  refine wpAnyH_take (i := 30) (oi := { dst := some 57, op := Op.load 23 (Operand.tmp 9), type := 23, pos := "outright.go:12", after := #[{ on := 29, ground := Ground.guard }], guard := some (29, false) }) rfl (by kernel_rfl) (by kernel_rfl) (by kernel_rfl) (fun _ _ _ h => h) (load_rc (t := 9) (r := andR a b) rfl rfl rfl (fun _ h => h.blk 2 rfl)) (hX.take 4) ?_
                  try simp only [Act.put, List.setIfInBounds_toArray, List.set_cons_zero, List.set_cons_succ]
                  refine wpAnyH_take (i := 31) (oi := { dst := some 58, op := Op.load 23 (Operand.tmp 5), type := 23, pos := "outright.go:12", after := #[{ on := 29, ground := Ground.guard }], guard := some (29, false) }) rfl (by kernel_rfl) (by kernel_rfl) (by kernel_rfl) (fun _ _ _ h => h) (load_rc (t := 5) (r := b) rfl rfl rfl (fun _ h => h.blk 1 rfl)) (hX.take 4) ?_
                  try simp only [Act.put, List.setIfInBounds_toArray, List.set_cons_zero, List.set_cons_succ]
                  refine wpAnyH_ready (rs := [32]) (by kernel_rfl) (by simp) ?_
                  refine AllReadyH.cons (o := { dst := some 59, op := Op.call { callee := Callee.value (Operand.func 11), args := #[Operand.tmp 57, Operand.tmp 58], argTypes := #[23, 23] }, type := 4, pos := "outright.go:12", after := #[{ on := 30, ground := Ground.data }, { on := 31, ground := Ground.data }, { on := 29, ground := Ground.chain }, { on := 29, ground := Ground.guard }], guard := some (29, false) }) rfl ?_ (AllReadyH.nil)
                  · intro K hK
                    go_simp
                    go_at_call 11
                    refine (in_any (andR a b) b _).mono ?_
                    rw [id.out]
                    rintro e v5 ⟨rfl, hb1⟩
                    replace hX := hX.grow hb1
                    clear hb1
                    refine hK.out _ _ (hX.take 4) (fun _ => ?_)
                    clear hK K
                    try simp only [Act.put, List.setIfInBounds_toArray, List.set_cons_zero, List.set_cons_succ]
                    refine wpAnyH_take (i := 33) (oi := { dst := some 60, op := Op.unOp UnOp.not 4 (Operand.tmp 59), type := 4, pos := "outright.go:12", after := #[{ on := 32, ground := Ground.data }, { on := 29, ground := Ground.guard }], guard := some (29, false) }) (v := ?_) rfl (by kernel_rfl) (by kernel_rfl) (by kernel_rfl) (fun _ _ _ h => h) (Or.inl ⟨by rfl, ?_⟩) (hX.take 4) ?_
                    rotate_left
                    · (intro w' hSw; clear hSw; go_simp); with_reducible rfl
                    try simp only [Act.put, List.setIfInBounds_toArray, List.set_cons_zero, List.set_cons_succ]
                    refine wpAnyH_take (i := 34) (oi := { dst := some 61, op := Op.pick (Operand.tmp 56) (Operand.const (Value.bool true)) (Operand.tmp 60), type := 4, pos := "outright.go:12", after := #[{ on := 29, ground := Ground.data }, { on := 33, ground := Ground.data }], guard := none }) (v := ?_) rfl (by kernel_rfl) (by kernel_rfl) (by kernel_rfl) (fun _ _ _ h => h) (Or.inl ⟨by rfl, ?_⟩) (hX.take 4) ?_
                    rotate_left
                    · (intro w' hSw; clear hSw; go_simp); with_reducible rfl
                    try simp only [Act.put, List.setIfInBounds_toArray, List.set_cons_zero, List.set_cons_succ]
                    refine wpAnyH_done (by kernel_rfl) ?_ _
                    go_wp2_with fail
                    go_meet
                    exact ⟨rfl, hX⟩
        | false =>
          have q0 : ∀ (z : Bool) (w : World), (binOp .neq 4 (.bool z) (.bool z)).run Try.prog w = .ok (.bool false) w := fun z w => by cases z <;> rfl
          replace hc : Hid (hasB (andR a b).x (andR a b).y (andR a b).w (andR a b).h x y = false) := hc
          refine wp_region_held_drew (S := fun w' => Sep w w' [cell g4 23 a.arr, cell g5 23 b.arr, cell g9 23 (andR a b).arr, cell g10 23 (orR a b).arr]) (by kernel_rfl) hX.drew (fun hHeld => ?_)
          replace hX := hHeld
          clear hHeld
          generalize wc.drew = v0 at hX ⊢
          refine wpAnyH_take (i := 0) (oi := { dst := some 27, op := Op.load 23 (Operand.tmp 9), type := 23, pos := "outright.go:12", after := #[], guard := none }) rfl (by kernel_rfl) (by kernel_rfl) (by kernel_rfl) (fun _ _ _ h => h) (load_rc (t := 9) (r := andR a b) rfl rfl rfl (fun _ h => h.blk 2 rfl)) (hX.take 4) ?_
          try simp only [Act.put, List.setIfInBounds_toArray, List.set_cons_zero, List.set_cons_succ]
          refine wpAnyH_take (i := 1) (oi := { dst := some 28, op := Op.move (Operand.tmp 2), type := 3, pos := "outright.go:12", after := #[], guard := none }) (v := ?_) rfl (by kernel_rfl) (by kernel_rfl) (by kernel_rfl) (fun _ _ _ h => h) (Or.inl ⟨by rfl, ?_⟩) (hX.take 4) ?_
          rotate_left
          · (intro w' hSw; clear hSw; go_simp); with_reducible rfl
          try simp only [Act.put, List.setIfInBounds_toArray, List.set_cons_zero, List.set_cons_succ]
          refine wpAnyH_take (i := 2) (oi := { dst := some 29, op := Op.move (Operand.tmp 3), type := 3, pos := "outright.go:12", after := #[], guard := none }) (v := ?_) rfl (by kernel_rfl) (by kernel_rfl) (by kernel_rfl) (fun _ _ _ h => h) (Or.inl ⟨by rfl, ?_⟩) (hX.take 4) ?_
          rotate_left
          · (intro w' hSw; clear hSw; go_simp); with_reducible rfl
          try simp only [Act.put, List.setIfInBounds_toArray, List.set_cons_zero, List.set_cons_succ]
          refine wpAnyH_take (i := 4) (oi := { dst := some 31, op := Op.move (Operand.tmp 11), type := 4, pos := "outright.go:12", after := #[], guard := none }) (v := ?_) rfl (by kernel_rfl) (by kernel_rfl) (by kernel_rfl) (fun _ _ _ h => h) (Or.inl ⟨by rfl, ?_⟩) (hX.take 4) ?_
          rotate_left
          · (intro w' hSw; clear hSw; go_simp); with_reducible rfl
          try simp only [Act.put, List.setIfInBounds_toArray, List.set_cons_zero, List.set_cons_succ]
          refine wpAnyH_ready (rs := [3]) (by kernel_rfl) (by simp) ?_
          refine AllReadyH.cons (o := { dst := some 30, op := Op.call { callee := Callee.value (Operand.func 13), args := #[Operand.tmp 27, Operand.tmp 28, Operand.tmp 29], argTypes := #[23, 3, 3] }, type := 4, pos := "outright.go:12", after := #[{ on := 0, ground := Ground.data }, { on := 1, ground := Ground.data }, { on := 2, ground := Ground.data }], guard := none }) rfl ?_ (AllReadyH.nil)
          · intro K hK
            go_simp
            go_at_call 13
            refine (has_any (andR a b).x (andR a b).y (andR a b).w (andR a b).h x y _).mono ?_
            rw [hc.out]
            rintro e v1 ⟨rfl, hb1⟩
            replace hX := hX.grow hb1
            clear hb1
            refine hK.out _ _ (hX.take 4) (fun _ => ?_)
            clear hK K
            try simp only [Act.put, List.setIfInBounds_toArray, List.set_cons_zero, List.set_cons_succ]
            refine wpAnyH_take (i := 5) (oi := { dst := some 32, op := Op.move (Operand.tmp 31), type := 4, pos := "outright.go:12", after := #[{ on := 4, ground := Ground.data }, { on := 3, ground := Ground.chain }], guard := none }) (v := ?_) rfl (by kernel_rfl) (by kernel_rfl) (by kernel_rfl) (fun _ _ _ h => h) (Or.inl ⟨by rfl, ?_⟩) (hX.take 4) ?_
            rotate_left
            · (intro w' hSw; clear hSw; go_simp); with_reducible rfl
            try simp only [Act.put, List.setIfInBounds_toArray, List.set_cons_zero, List.set_cons_succ]
            refine wpAnyH_take (i := 6) (oi := { dst := some 33, op := Op.move (Operand.tmp 12), type := 4, pos := "outright.go:12", after := #[{ on := 5, ground := Ground.guard }], guard := some (5, true) }) (v := undef) rfl (by kernel_rfl) (by kernel_rfl) (by kernel_rfl) (fun _ _ _ h => h) (Or.inr ⟨by rfl, rfl⟩) (hX.take 4) ?_
            try simp only [Act.put, List.setIfInBounds_toArray, List.set_cons_zero, List.set_cons_succ]
            refine wpAnyH_take (i := 7) (oi := { dst := some 34, op := Op.pick (Operand.tmp 32) (Operand.tmp 33) (Operand.const (Value.bool false)), type := 4, pos := "outright.go:12", after := #[{ on := 5, ground := Ground.data }, { on := 6, ground := Ground.data }], guard := none }) (v := ?_) rfl (by kernel_rfl) (by kernel_rfl) (by kernel_rfl) (fun _ _ _ h => h) (Or.inl ⟨by rfl, ?_⟩) (hX.take 4) ?_
            rotate_left
            · (intro w' hSw; clear hSw; go_simp); with_reducible rfl
            try simp only [Act.put, List.setIfInBounds_toArray, List.set_cons_zero, List.set_cons_succ]
            refine wpAnyH_take (i := 8) (oi := { dst := some 35, op := Op.binOp BinOp.neq 4 (Operand.tmp 30) (Operand.tmp 34) 4, type := 4, pos := "outright.go:12", after := #[{ on := 3, ground := Ground.data }, { on := 7, ground := Ground.data }], guard := none }) (v := ?_) rfl (by kernel_rfl) (by kernel_rfl) (by kernel_rfl) (fun _ _ _ h => h) (Or.inl ⟨by rfl, ?_⟩) (hX.take 4) ?_
            rotate_left
            · (intro w' hSw; clear hSw; go_simp); with_reducible rfl
            try simp only [Act.put, List.setIfInBounds_toArray, List.set_cons_zero, List.set_cons_succ]
            refine wpAnyH_take (i := 9) (oi := { dst := some 36, op := Op.move (Operand.tmp 35), type := 4, pos := "outright.go:12", after := #[{ on := 8, ground := Ground.data }, { on := 5, ground := Ground.chain }], guard := none }) (v := ?_) rfl (by kernel_rfl) (by kernel_rfl) (by kernel_rfl) (fun _ _ _ h => h) (Or.inl ⟨by rfl, ?_⟩) (hX.take 4) ?_
            rotate_left
            · (intro w' hSw; clear hSw; go_simp); with_reducible rfl
            try simp only [Act.put, List.setIfInBounds_toArray, List.set_cons_zero, List.set_cons_succ]
            refine wpAnyH_take (i := 10) (oi := { dst := some 37, op := Op.load 23 (Operand.tmp 9), type := 23, pos := "outright.go:12", after := #[{ on := 9, ground := Ground.guard }], guard := some (9, false) }) rfl (by kernel_rfl) (by kernel_rfl) (by kernel_rfl) (fun _ _ _ h => h) (load_rc (t := 9) (r := andR a b) rfl rfl rfl (fun _ h => h.blk 2 rfl)) (hX.take 4) ?_
            try simp only [Act.put, List.setIfInBounds_toArray, List.set_cons_zero, List.set_cons_succ]
            refine wpAnyH_take (i := 11) (oi := { dst := some 38, op := Op.load 23 (Operand.tmp 5), type := 23, pos := "outright.go:12", after := #[{ on := 9, ground := Ground.guard }], guard := some (9, false) }) rfl (by kernel_rfl) (by kernel_rfl) (by kernel_rfl) (fun _ _ _ h => h) (load_rc (t := 5) (r := b) rfl rfl rfl (fun _ h => h.blk 1 rfl)) (hX.take 4) ?_
            try simp only [Act.put, List.setIfInBounds_toArray, List.set_cons_zero, List.set_cons_succ]
            refine wpAnyH_take (i := 12) (oi := { dst := some 39, op := Op.load 23 (Operand.tmp 4), type := 23, pos := "outright.go:12", after := #[{ on := 9, ground := Ground.guard }], guard := some (9, false) }) rfl (by kernel_rfl) (by kernel_rfl) (by kernel_rfl) (fun _ _ _ h => h) (load_rc (t := 4) (r := a) rfl rfl rfl (fun _ h => h.blk 0 rfl)) (hX.take 4) ?_
            try simp only [Act.put, List.setIfInBounds_toArray, List.set_cons_zero, List.set_cons_succ]
            refine wpAnyH_ready (rs := [13]) (by kernel_rfl) (by simp) ?_
            refine AllReadyH.cons (o := { dst := some 40, op := Op.call { callee := Callee.value (Operand.func 9), args := #[Operand.tmp 38, Operand.tmp 39], argTypes := #[23, 23] }, type := 23, pos := "outright.go:12", after := #[{ on := 11, ground := Ground.data }, { on := 12, ground := Ground.data }, { on := 9, ground := Ground.chain }, { on := 9, ground := Ground.guard }], guard := some (9, false) }) rfl ?_ (AllReadyH.nil)
            · intro K hK
              go_simp
              go_at_call 9
              refine (and_any b a _).mono ?_
              rintro e v2 ⟨rfl, hb1⟩
              replace hX := hX.grow hb1
              clear hb1
              refine hK.out _ _ (hX.take 4) (fun _ => ?_)
              clear hK K
              try simp only [Act.put, List.setIfInBounds_toArray, List.set_cons_zero, List.set_cons_succ]
              refine wpAnyH_take (i := 14) (oi := { dst := some 41, op := Op.binOp BinOp.neq 23 (Operand.tmp 37) (Operand.tmp 40) 23, type := 4, pos := "outright.go:12", after := #[{ on := 10, ground := Ground.data }, { on := 13, ground := Ground.data }, { on := 9, ground := Ground.guard }], guard := some (9, false) }) (v := ?_) rfl (by kernel_rfl) (by kernel_rfl) (by kernel_rfl) (fun _ _ _ h => h) (Or.inl ⟨by rfl, ?_⟩) (hX.take 4) ?_
              rotate_left
              · (intro w' hSw; clear hSw; go_simp); with_reducible rfl
              try simp only [Act.put, List.setIfInBounds_toArray, List.set_cons_zero, List.set_cons_succ]
              refine wpAnyH_take (i := 15) (oi := { dst := some 42, op := Op.pick (Operand.tmp 36) (Operand.const (Value.bool true)) (Operand.tmp 41), type := 4, pos := "outright.go:12", after := #[{ on := 9, ground := Ground.data }, { on := 14, ground := Ground.data }], guard := none }) (v := ?_) rfl (by kernel_rfl) (by kernel_rfl) (by kernel_rfl) (fun _ _ _ h => h) (Or.inl ⟨by rfl, ?_⟩) (hX.take 4) ?_
              rotate_left
              · (intro w' hSw; clear hSw; go_simp); with_reducible rfl
              try simp only [Act.put, List.setIfInBounds_toArray, List.set_cons_zero, List.set_cons_succ]
              refine wpAnyH_take (i := 16) (oi := { dst := some 43, op := Op.move (Operand.tmp 42), type := 4, pos := "outright.go:12", after := #[{ on := 15, ground := Ground.data }, { on := 13, ground := Ground.chain }], guard := none }) (v := ?_) rfl (by kernel_rfl) (by kernel_rfl) (by kernel_rfl) (fun _ _ _ h => h) (Or.inl ⟨by rfl, ?_⟩) (hX.take 4) ?_
              rotate_left
              · (intro w' hSw; clear hSw; go_simp); with_reducible rfl
              try simp only [Act.put, List.setIfInBounds_toArray, List.set_cons_zero, List.set_cons_succ]
              refine wpAnyH_take (i := 17) (oi := { dst := some 44, op := Op.load 23 (Operand.tmp 10), type := 23, pos := "outright.go:12", after := #[{ on := 16, ground := Ground.guard }], guard := some (16, false) }) rfl (by kernel_rfl) (by kernel_rfl) (by kernel_rfl) (fun _ _ _ h => h) (load_rc (t := 10) (r := orR a b) rfl rfl rfl (fun _ h => h.blk 3 rfl)) (hX.take 4) ?_
              try simp only [Act.put, List.setIfInBounds_toArray, List.set_cons_zero, List.set_cons_succ]
              refine wpAnyH_take (i := 18) (oi := { dst := some 45, op := Op.load 23 (Operand.tmp 5), type := 23, pos := "outright.go:12", after := #[{ on := 16, ground := Ground.guard }], guard := some (16, false) }) rfl (by kernel_rfl) (by kernel_rfl) (by kernel_rfl) (fun _ _ _ h => h) (load_rc (t := 5) (r := b) rfl rfl rfl (fun _ h => h.blk 1 rfl)) (hX.take 4) ?_
              try simp only [Act.put, List.setIfInBounds_toArray, List.set_cons_zero, List.set_cons_succ]
              refine wpAnyH_take (i := 19) (oi := { dst := some 46, op := Op.load 23 (Operand.tmp 4), type := 23, pos := "outright.go:12", after := #[{ on := 16, ground := Ground.guard }], guard := some (16, false) }) rfl (by kernel_rfl) (by kernel_rfl) (by kernel_rfl) (fun _ _ _ h => h) (load_rc (t := 4) (r := a) rfl rfl rfl (fun _ h => h.blk 0 rfl)) (hX.take 4) ?_
              try simp only [Act.put, List.setIfInBounds_toArray, List.set_cons_zero, List.set_cons_succ]
              refine wpAnyH_ready (rs := [20]) (by kernel_rfl) (by simp) ?_
              refine AllReadyH.cons (o := { dst := some 47, op := Op.call { callee := Callee.value (Operand.func 23), args := #[Operand.tmp 45, Operand.tmp 46], argTypes := #[23, 23] }, type := 23, pos := "outright.go:12", after := #[{ on := 18, ground := Ground.data }, { on := 19, ground := Ground.data }, { on := 16, ground := Ground.chain }, { on := 16, ground := Ground.guard }], guard := some (16, false) }) rfl ?_ (AllReadyH.nil)
              · intro K hK
                go_simp
                go_at_call 23
                refine (or_any b a _).mono ?_
                rintro e v3 ⟨rfl, hb1⟩
                replace hX := hX.grow hb1
                clear hb1
                refine hK.out _ _ (hX.take 4) (fun _ => ?_)
                clear hK K
                try simp only [Act.put, List.setIfInBounds_toArray, List.set_cons_zero, List.set_cons_succ]
                refine wpAnyH_take (i := 21) (oi := { dst := some 48, op := Op.binOp BinOp.neq 23 (Operand.tmp 44) (Operand.tmp 47) 23, type := 4, pos := "outright.go:12", after := #[{ on := 17, ground := Ground.data }, { on := 20, ground := Ground.data }, { on := 16, ground := Ground.guard }], guard := some (16, false) }) (v := ?_) rfl (by kernel_rfl) (by kernel_rfl) (by kernel_rfl) (fun _ _ _ h => h) (Or.inl ⟨by rfl, ?_⟩) (hX.take 4) ?_
                rotate_left
                · (intro w' hSw; clear hSw; go_simp); with_reducible rfl
                try simp only [Act.put, List.setIfInBounds_toArray, List.set_cons_zero, List.set_cons_succ]
                refine wpAnyH_take (i := 22) (oi := { dst := some 49, op := Op.pick (Operand.tmp 43) (Operand.const (Value.bool true)) (Operand.tmp 48), type := 4, pos := "outright.go:12", after := #[{ on := 16, ground := Ground.data }, { on := 21, ground := Ground.data }], guard := none }) (v := ?_) rfl (by kernel_rfl) (by kernel_rfl) (by kernel_rfl) (fun _ _ _ h => h) (Or.inl ⟨by rfl, ?_⟩) (hX.take 4) ?_
                rotate_left
                · (intro w' hSw; clear hSw; go_simp); with_reducible rfl
                try simp only [Act.put, List.setIfInBounds_toArray, List.set_cons_zero, List.set_cons_succ]
                refine wpAnyH_take (i := 23) (oi := { dst := some 50, op := Op.move (Operand.tmp 49), type := 4, pos := "outright.go:12", after := #[{ on := 22, ground := Ground.data }, { on := 20, ground := Ground.chain }], guard := none }) (v := ?_) rfl (by kernel_rfl) (by kernel_rfl) (by kernel_rfl) (fun _ _ _ h => h) (Or.inl ⟨by rfl, ?_⟩) (hX.take 4) ?_
                rotate_left
                · (intro w' hSw; clear hSw; go_simp); with_reducible rfl
                try simp only [Act.put, List.setIfInBounds_toArray, List.set_cons_zero, List.set_cons_succ]
                refine wpAnyH_take (i := 24) (oi := { dst := some 51, op := Op.load 23 (Operand.tmp 9), type := 23, pos := "outright.go:12", after := #[{ on := 23, ground := Ground.guard }], guard := some (23, false) }) rfl (by kernel_rfl) (by kernel_rfl) (by kernel_rfl) (fun _ _ _ h => h) (load_rc (t := 9) (r := andR a b) rfl rfl rfl (fun _ h => h.blk 2 rfl)) (hX.take 4) ?_
                try simp only [Act.put, List.setIfInBounds_toArray, List.set_cons_zero, List.set_cons_succ]
                refine wpAnyH_take (i := 25) (oi := { dst := some 52, op := Op.load 23 (Operand.tmp 4), type := 23, pos := "outright.go:12", after := #[{ on := 23, ground := Ground.guard }], guard := some (23, false) }) rfl (by kernel_rfl) (by kernel_rfl) (by kernel_rfl) (fun _ _ _ h => h) (load_rc (t := 4) (r := a) rfl rfl rfl (fun _ h => h.blk 0 rfl)) (hX.take 4) ?_
                try simp only [Act.put, List.setIfInBounds_toArray, List.set_cons_zero, List.set_cons_succ]
                refine wpAnyH_ready (rs := [26]) (by kernel_rfl) (by simp) ?_
                refine AllReadyH.cons (o := { dst := some 53, op := Op.call { callee := Callee.value (Operand.func 11), args := #[Operand.tmp 51, Operand.tmp 52], argTypes := #[23, 23] }, type := 4, pos := "outright.go:12", after := #[{ on := 24, ground := Ground.data }, { on := 25, ground := Ground.data }, { on := 23, ground := Ground.chain }, { on := 23, ground := Ground.guard }], guard := some (23, false) }) rfl ?_ (AllReadyH.nil)
                · intro K hK
                  go_simp
                  go_at_call 11
                  refine (in_any (andR a b) a _).mono ?_
                  rw [ic.out]
                  rintro e v4 ⟨rfl, hb1⟩
                  replace hX := hX.grow hb1
                  clear hb1
                  refine hK.out _ _ (hX.take 4) (fun _ => ?_)
                  clear hK K
                  try simp only [Act.put, List.setIfInBounds_toArray, List.set_cons_zero, List.set_cons_succ]
                  refine wpAnyH_take (i := 27) (oi := { dst := some 54, op := Op.unOp UnOp.not 4 (Operand.tmp 53), type := 4, pos := "outright.go:12", after := #[{ on := 26, ground := Ground.data }, { on := 23, ground := Ground.guard }], guard := some (23, false) }) (v := ?_) rfl (by kernel_rfl) (by kernel_rfl) (by kernel_rfl) (fun _ _ _ h => h) (Or.inl ⟨by rfl, ?_⟩) (hX.take 4) ?_
                  rotate_left
                  · (intro w' hSw; clear hSw; go_simp); with_reducible rfl
                  try simp only [Act.put, List.setIfInBounds_toArray, List.set_cons_zero, List.set_cons_succ]
                  refine wpAnyH_take (i := 28) (oi := { dst := some 55, op := Op.pick (Operand.tmp 50) (Operand.const (Value.bool true)) (Operand.tmp 54), type := 4, pos := "outright.go:12", after := #[{ on := 23, ground := Ground.data }, { on := 27, ground := Ground.data }], guard := none }) (v := ?_) rfl (by kernel_rfl) (by kernel_rfl) (by kernel_rfl) (fun _ _ _ h => h) (Or.inl ⟨by rfl, ?_⟩) (hX.take 4) ?_
                  rotate_left
                  · (intro w' hSw; clear hSw; go_simp); with_reducible rfl
                  try simp only [Act.put, List.setIfInBounds_toArray, List.set_cons_zero, List.set_cons_succ]
                  refine wpAnyH_take (i := 29) (oi := { dst := some 56, op := Op.move (Operand.tmp 55), type := 4, pos := "outright.go:12", after := #[{ on := 28, ground := Ground.data }, { on := 26, ground := Ground.chain }], guard := none }) (v := ?_) rfl (by kernel_rfl) (by kernel_rfl) (by kernel_rfl) (fun _ _ _ h => h) (Or.inl ⟨by rfl, ?_⟩) (hX.take 4) ?_
                  rotate_left
                  · (intro w' hSw; clear hSw; go_simp); with_reducible rfl
                  try simp only [Act.put, List.setIfInBounds_toArray, List.set_cons_zero, List.set_cons_succ]
                  refine wpAnyH_take (i := 30) (oi := { dst := some 57, op := Op.load 23 (Operand.tmp 9), type := 23, pos := "outright.go:12", after := #[{ on := 29, ground := Ground.guard }], guard := some (29, false) }) rfl (by kernel_rfl) (by kernel_rfl) (by kernel_rfl) (fun _ _ _ h => h) (load_rc (t := 9) (r := andR a b) rfl rfl rfl (fun _ h => h.blk 2 rfl)) (hX.take 4) ?_
                  try simp only [Act.put, List.setIfInBounds_toArray, List.set_cons_zero, List.set_cons_succ]
                  refine wpAnyH_take (i := 31) (oi := { dst := some 58, op := Op.load 23 (Operand.tmp 5), type := 23, pos := "outright.go:12", after := #[{ on := 29, ground := Ground.guard }], guard := some (29, false) }) rfl (by kernel_rfl) (by kernel_rfl) (by kernel_rfl) (fun _ _ _ h => h) (load_rc (t := 5) (r := b) rfl rfl rfl (fun _ h => h.blk 1 rfl)) (hX.take 4) ?_
                  try simp only [Act.put, List.setIfInBounds_toArray, List.set_cons_zero, List.set_cons_succ]
                  refine wpAnyH_ready (rs := [32]) (by kernel_rfl) (by simp) ?_
                  refine AllReadyH.cons (o := { dst := some 59, op := Op.call { callee := Callee.value (Operand.func 11), args := #[Operand.tmp 57, Operand.tmp 58], argTypes := #[23, 23] }, type := 4, pos := "outright.go:12", after := #[{ on := 30, ground := Ground.data }, { on := 31, ground := Ground.data }, { on := 29, ground := Ground.chain }, { on := 29, ground := Ground.guard }], guard := some (29, false) }) rfl ?_ (AllReadyH.nil)
                  · intro K hK
                    go_simp
                    go_at_call 11
                    refine (in_any (andR a b) b _).mono ?_
                    rw [id.out]
                    rintro e v5 ⟨rfl, hb1⟩
                    replace hX := hX.grow hb1
                    clear hb1
                    refine hK.out _ _ (hX.take 4) (fun _ => ?_)
                    clear hK K
                    try simp only [Act.put, List.setIfInBounds_toArray, List.set_cons_zero, List.set_cons_succ]
                    refine wpAnyH_take (i := 33) (oi := { dst := some 60, op := Op.unOp UnOp.not 4 (Operand.tmp 59), type := 4, pos := "outright.go:12", after := #[{ on := 32, ground := Ground.data }, { on := 29, ground := Ground.guard }], guard := some (29, false) }) (v := ?_) rfl (by kernel_rfl) (by kernel_rfl) (by kernel_rfl) (fun _ _ _ h => h) (Or.inl ⟨by rfl, ?_⟩) (hX.take 4) ?_
                    rotate_left
                    · (intro w' hSw; clear hSw; go_simp); with_reducible rfl
                    try simp only [Act.put, List.setIfInBounds_toArray, List.set_cons_zero, List.set_cons_succ]
                    refine wpAnyH_take (i := 34) (oi := { dst := some 61, op := Op.pick (Operand.tmp 56) (Operand.const (Value.bool true)) (Operand.tmp 60), type := 4, pos := "outright.go:12", after := #[{ on := 29, ground := Ground.data }, { on := 33, ground := Ground.data }], guard := none }) (v := ?_) rfl (by kernel_rfl) (by kernel_rfl) (by kernel_rfl) (fun _ _ _ h => h) (Or.inl ⟨by rfl, ?_⟩) (hX.take 4) ?_
                    rotate_left
                    · (intro w' hSw; clear hSw; go_simp); with_reducible rfl
                    try simp only [Act.put, List.setIfInBounds_toArray, List.set_cons_zero, List.set_cons_succ]
                    refine wpAnyH_done (by kernel_rfl) ?_ _
                    go_wp2_with fail
                    go_meet
                    exact ⟨rfl, hX⟩
      case rest =>
        clear hX
        obtain ⟨rfl, hX⟩ := hcut
        go_upto_region 5 with (fail)
        go_cut [89] (fun s89 wx => s89 = .bool false ∧ Sep w wx [cell g4 23 a.arr, cell g5 23 b.arr, cell g9 23 (andR a b).arr, cell g10 23 (orR a b).arr])
        case first => as_aux_lemma =>
          have hn : eqR (orR a b) zeroR = true ∨ eqR (orR a b) zeroR = false := by cases eqR (orR a b) zeroR <;> simp
          have ia := Lib.hid (in_or_left a b)
          have ib := Lib.hid (in_or_right a b)
          rcases hn with hn | hn
          · have q1 : ∀ w, (binOp .neq 23 (orR a b).v (.agg #[.int .i64 0, .int .i64 0, .int .i64 0, .int .i64 0])).run Try.prog w = .ok (.bool false) w := fun w => (run_neR (orR a b) (zeroR) w).trans (by rw [hn]; rfl)
            clear hn
            have ⟨a0, a1, a2, a3⟩ := (hX.blk 0 rfl).four
            have ⟨b0, b1, b2, b3⟩ := (hX.blk 1 rfl).four
            have ⟨c0, c1, c2, c3⟩ := (hX.blk 2 rfl).four
            have ⟨o0, o1, o2, o3⟩ := (hX.blk 3 rfl).four
            go_wp2_with fail
            clear a0 a1 a2 a3 b0 b1 b2 b3 c0 c1 c2 c3 o0 o1 o2 o3
            go_meet
            exact ⟨rfl, hX⟩
          · have q1 : ∀ w, (binOp .neq 23 (orR a b).v (.agg #[.int .i64 0, .int .i64 0, .int .i64 0, .int .i64 0])).run Try.prog w = .ok (.bool true) w := fun w => (run_neR (orR a b) (zeroR) w).trans (by rw [hn]; rfl)
            clear hn
            cases p with
            | true =>
              have ho : Hid (hasB (orR a b).x (orR a b).y (orR a b).w (orR a b).h x y = true) := Lib.hid (or_has_left a b P.out)
              have ⟨a0, a1, a2, a3⟩ := (hX.blk 0 rfl).four
              have ⟨b0, b1, b2, b3⟩ := (hX.blk 1 rfl).four
              have ⟨c0, c1, c2, c3⟩ := (hX.blk 2 rfl).four
              have ⟨o0, o1, o2, o3⟩ := (hX.blk 3 rfl).four
              go_wp2_with fail
              refine (has_any (orR a b).x (orR a b).y (orR a b).w (orR a b).h x y _).mono ?_
              rw [ho.out]
              rintro e w1 ⟨rfl, hb1⟩
              replace hX := hX.grow hb1
              clear hb1
              clear a0 a1 a2 a3 b0 b1 b2 b3 c0 c1 c2 c3 o0 o1 o2 o3
              have ⟨a0, a1, a2, a3⟩ := (hX.blk 0 rfl).four
              have ⟨b0, b1, b2, b3⟩ := (hX.blk 1 rfl).four
              have ⟨c0, c1, c2, c3⟩ := (hX.blk 2 rfl).four
              have ⟨o0, o1, o2, o3⟩ := (hX.blk 3 rfl).four
              go_wp2_with fail
              refine (in_any a (orR a b) _).mono ?_
              rw [ia.out]
              rintro e w1 ⟨rfl, hb1⟩
              replace hX := hX.grow hb1
              clear hb1
              clear a0 a1 a2 a3 b0 b1 b2 b3 c0 c1 c2 c3 o0 o1 o2 o3
              have ⟨a0, a1, a2, a3⟩ := (hX.blk 0 rfl).four
              have ⟨b0, b1, b2, b3⟩ := (hX.blk 1 rfl).four
              have ⟨c0, c1, c2, c3⟩ := (hX.blk 2 rfl).four
              have ⟨o0, o1, o2, o3⟩ := (hX.blk 3 rfl).four
              go_wp2_with fail
              refine (in_any b (orR a b) _).mono ?_
              rw [ib.out]
              rintro e w1 ⟨rfl, hb1⟩
              replace hX := hX.grow hb1
              clear hb1
              clear a0 a1 a2 a3 b0 b1 b2 b3 c0 c1 c2 c3 o0 o1 o2 o3
              have ⟨a0, a1, a2, a3⟩ := (hX.blk 0 rfl).four
              have ⟨b0, b1, b2, b3⟩ := (hX.blk 1 rfl).four
              have ⟨c0, c1, c2, c3⟩ := (hX.blk 2 rfl).four
              have ⟨o0, o1, o2, o3⟩ := (hX.blk 3 rfl).four
              go_wp2_with fail
              clear a0 a1 a2 a3 b0 b1 b2 b3 c0 c1 c2 c3 o0 o1 o2 o3
              go_meet
              exact ⟨rfl, hX⟩
            | false =>
              cases q with
              | true =>
                have ho : Hid (hasB (orR a b).x (orR a b).y (orR a b).w (orR a b).h x y = true) := Lib.hid (or_has_right a b Q.out)
                have ⟨a0, a1, a2, a3⟩ := (hX.blk 0 rfl).four
                have ⟨b0, b1, b2, b3⟩ := (hX.blk 1 rfl).four
                have ⟨c0, c1, c2, c3⟩ := (hX.blk 2 rfl).four
                have ⟨o0, o1, o2, o3⟩ := (hX.blk 3 rfl).four
                go_wp2_with fail
                refine (has_any (orR a b).x (orR a b).y (orR a b).w (orR a b).h x y _).mono ?_
                rw [ho.out]
                rintro e w1 ⟨rfl, hb1⟩
                replace hX := hX.grow hb1
                clear hb1
                clear a0 a1 a2 a3 b0 b1 b2 b3 c0 c1 c2 c3 o0 o1 o2 o3
                have ⟨a0, a1, a2, a3⟩ := (hX.blk 0 rfl).four
                have ⟨b0, b1, b2, b3⟩ := (hX.blk 1 rfl).four
                have ⟨c0, c1, c2, c3⟩ := (hX.blk 2 rfl).four
                have ⟨o0, o1, o2, o3⟩ := (hX.blk 3 rfl).four
                go_wp2_with fail
                refine (in_any a (orR a b) _).mono ?_
                rw [ia.out]
                rintro e w1 ⟨rfl, hb1⟩
                replace hX := hX.grow hb1
                clear hb1
                clear a0 a1 a2 a3 b0 b1 b2 b3 c0 c1 c2 c3 o0 o1 o2 o3
                have ⟨a0, a1, a2, a3⟩ := (hX.blk 0 rfl).four
                have ⟨b0, b1, b2, b3⟩ := (hX.blk 1 rfl).four
                have ⟨c0, c1, c2, c3⟩ := (hX.blk 2 rfl).four
                have ⟨o0, o1, o2, o3⟩ := (hX.blk 3 rfl).four
                go_wp2_with fail
                refine (in_any b (orR a b) _).mono ?_
                rw [ib.out]
                rintro e w1 ⟨rfl, hb1⟩
                replace hX := hX.grow hb1
                clear hb1
                clear a0 a1 a2 a3 b0 b1 b2 b3 c0 c1 c2 c3 o0 o1 o2 o3
                have ⟨a0, a1, a2, a3⟩ := (hX.blk 0 rfl).four
                have ⟨b0, b1, b2, b3⟩ := (hX.blk 1 rfl).four
                have ⟨c0, c1, c2, c3⟩ := (hX.blk 2 rfl).four
                have ⟨o0, o1, o2, o3⟩ := (hX.blk 3 rfl).four
                go_wp2_with fail
                clear a0 a1 a2 a3 b0 b1 b2 b3 c0 c1 c2 c3 o0 o1 o2 o3
                go_meet
                exact ⟨rfl, hX⟩
              | false =>
                have ⟨a0, a1, a2, a3⟩ := (hX.blk 0 rfl).four
                have ⟨b0, b1, b2, b3⟩ := (hX.blk 1 rfl).four
                have ⟨c0, c1, c2, c3⟩ := (hX.blk 2 rfl).four
                have ⟨o0, o1, o2, o3⟩ := (hX.blk 3 rfl).four
                go_wp2_with fail
                refine (in_any a (orR a b) _).mono ?_
                rw [ia.out]
                rintro e w1 ⟨rfl, hb1⟩
                replace hX := hX.grow hb1
                clear hb1
                clear a0 a1 a2 a3 b0 b1 b2 b3 c0 c1 c2 c3 o0 o1 o2 o3
                have ⟨a0, a1, a2, a3⟩ := (hX.blk 0 rfl).four
                have ⟨b0, b1, b2, b3⟩ := (hX.blk 1 rfl).four
                have ⟨c0, c1, c2, c3⟩ := (hX.blk 2 rfl).four
                have ⟨o0, o1, o2, o3⟩ := (hX.blk 3 rfl).four
                go_wp2_with fail
                refine (in_any b (orR a b) _).mono ?_
                rw [ib.out]
                rintro e w1 ⟨rfl, hb1⟩
                replace hX := hX.grow hb1
                clear hb1
                clear a0 a1 a2 a3 b0 b1 b2 b3 c0 c1 c2 c3 o0 o1 o2 o3
                have ⟨a0, a1, a2, a3⟩ := (hX.blk 0 rfl).four
                have ⟨b0, b1, b2, b3⟩ := (hX.blk 1 rfl).four
                have ⟨c0, c1, c2, c3⟩ := (hX.blk 2 rfl).four
                have ⟨o0, o1, o2, o3⟩ := (hX.blk 3 rfl).four
                go_wp2_with fail
                clear a0 a1 a2 a3 b0 b1 b2 b3 c0 c1 c2 c3 o0 o1 o2 o3
                go_meet
                exact ⟨rfl, hX⟩
        case rest =>
          clear hX
          obtain ⟨rfl, hX⟩ := hcut
          go_upto_region 7 with (fail)
          go_cut [117] (fun s117 wx => s117 = .bool false ∧ Sep w wx [cell g4 23 a.arr, cell g5 23 b.arr, cell g9 23 (andR a b).arr, cell g10 23 (orR a b).arr])
          case first => as_aux_lemma =>
            cases hE : emptyB a.x a.y a.w a.h with
            | true =>
              have hI := empty_in hE b
              obtain rfl : p = false := P.out.symm.trans (empty_has hE x y)
              have I := Lib.hid hI
              have E : Hid (emptyB a.x a.y a.w a.h = true) := hE
              clear hI hE
              have hz : Hid (areaV a.x a.y a.w a.h = 0) := Lib.hid (by have := E.out; unfold emptyB at this; exact beq_iff_eq.1 this)
              refine wp_region_held_drew (S := fun w' => Sep w w' [cell g4 23 a.arr, cell g5 23 b.arr, cell g9 23 (andR a b).arr, cell g10 23 (orR a b).arr]) (by kernel_rfl) hX.drew (fun hHeld => ?_)
              replace hX := hHeld
              clear hHeld
              generalize wc.drew = v0 at hX ⊢
              refine wpAnyH_take (i := 0) (oi := { dst := some 90, op := Op.load 23 (Operand.tmp 4), type := 23, pos := "outright.go:18", after := #[], guard := none }) rfl (by kernel_rfl) (by kernel_rfl) (by kernel_rfl) (fun _ _ _ h => h) (load_rc (t := 4) (r := a) rfl rfl rfl (fun _ h => h.blk 0 rfl)) (hX.take 4) ?_
              try simp only [Act.put, List.setIfInBounds_toArray, List.set_cons_zero, List.set_cons_succ]
              refine wpAnyH_take (i := 1) (oi := { dst := some 91, op := Op.load 23 (Operand.tmp 5), type := 23, pos := "outright.go:18", after := #[], guard := none }) rfl (by kernel_rfl) (by kernel_rfl) (by kernel_rfl) (fun _ _ _ h => h) (load_rc (t := 5) (r := b) rfl rfl rfl (fun _ h => h.blk 1 rfl)) (hX.take 4) ?_
              try simp only [Act.put, List.setIfInBounds_toArray, List.set_cons_zero, List.set_cons_succ]
              refine wpAnyH_ready (rs := [2]) (by kernel_rfl) (by simp) ?_
              refine AllReadyH.cons (o := { dst := some 92, op := Op.call { callee := Callee.value (Operand.func 11), args := #[Operand.tmp 90, Operand.tmp 91], argTypes := #[23, 23] }, type := 4, pos := "outright.go:18", after := #[{ on := 0, ground := Ground.data }, { on := 1, ground := Ground.data }], guard := none }) rfl ?_ (AllReadyH.nil)
              · intro K hK
                go_simp
                go_at_call 11
                refine (in_any a b _).mono ?_
                rw [I.out]
                rintro e v1 ⟨rfl, hb1⟩
                replace hX := hX.grow hb1
                clear hb1
                refine hK.out _ _ (hX.take 4) (fun _ => ?_)
                clear hK K
                try simp only [Act.put, List.setIfInBounds_toArray, List.set_cons_zero, List.set_cons_succ]
                refine wpAnyH_take (i := 3) (oi := { dst := some 93, op := Op.move (Operand.tmp 92), type := 4, pos := "outright.go:18", after := #[{ on := 2, ground := Ground.data }, { on := 2, ground := Ground.chain }], guard := none }) (v := ?_) rfl (by kernel_rfl) (by kernel_rfl) (by kernel_rfl) (fun _ _ _ h => h) (Or.inl ⟨by rfl, ?_⟩) (hX.take 4) ?_
                rotate_left
                · (intro w' hSw; clear hSw; go_simp); with_reducible rfl
                try simp only [Act.put, List.setIfInBounds_toArray, List.set_cons_zero, List.set_cons_succ]
                refine wpAnyH_take (i := 4) (oi := { dst := some 94, op := Op.move (Operand.tmp 11), type := 4, pos := "outright.go:18", after := #[{ on := 3, ground := Ground.guard }], guard := some (3, true) }) (v := ?_) rfl (by kernel_rfl) (by kernel_rfl) (by kernel_rfl) (fun _ _ _ h => h) (Or.inl ⟨by rfl, ?_⟩) (hX.take 4) ?_
                rotate_left
                · (intro w' hSw; clear hSw; go_simp); with_reducible rfl
                try simp only [Act.put, List.setIfInBounds_toArray, List.set_cons_zero, List.set_cons_succ]
                refine wpAnyH_take (i := 5) (oi := { dst := some 95, op := Op.pick (Operand.tmp 93) (Operand.tmp 94) (Operand.const (Value.bool false)), type := 4, pos := "outright.go:18", after := #[{ on := 3, ground := Ground.data }, { on := 4, ground := Ground.data }], guard := none }) (v := ?_) rfl (by kernel_rfl) (by kernel_rfl) (by kernel_rfl) (fun _ _ _ h => h) (Or.inl ⟨by rfl, ?_⟩) (hX.take 4) ?_
                rotate_left
                · (intro w' hSw; clear hSw; go_simp); with_reducible rfl
                try simp only [Act.put, List.setIfInBounds_toArray, List.set_cons_zero, List.set_cons_succ]
                refine wpAnyH_take (i := 6) (oi := { dst := some 96, op := Op.move (Operand.tmp 95), type := 4, pos := "outright.go:18", after := #[{ on := 5, ground := Ground.data }, { on := 3, ground := Ground.chain }], guard := none }) (v := ?_) rfl (by kernel_rfl) (by kernel_rfl) (by kernel_rfl) (fun _ _ _ h => h) (Or.inl ⟨by rfl, ?_⟩) (hX.take 4) ?_
                rotate_left
                · (intro w' hSw; clear hSw; go_simp); with_reducible rfl
                try simp only [Act.put, List.setIfInBounds_toArray, List.set_cons_zero, List.set_cons_succ]
                refine wpAnyH_take (i := 7) (oi := { dst := some 97, op := Op.move (Operand.tmp 12), type := 4, pos := "outright.go:18", after := #[{ on := 6, ground := Ground.guard }], guard := some (6, true) }) (v := undef) rfl (by kernel_rfl) (by kernel_rfl) (by kernel_rfl) (fun _ _ _ h => h) (Or.inr ⟨by rfl, rfl⟩) (hX.take 4) ?_
                try simp only [Act.put, List.setIfInBounds_toArray, List.set_cons_zero, List.set_cons_succ]
                refine wpAnyH_take (i := 8) (oi := { dst := some 98, op := Op.unOp UnOp.not 4 (Operand.tmp 97), type := 4, pos := "outright.go:18", after := #[{ on := 7, ground := Ground.data }, { on := 6, ground := Ground.guard }], guard := some (6, true) }) (v := undef) rfl (by kernel_rfl) (by kernel_rfl) (by kernel_rfl) (fun _ _ _ h => h) (Or.inr ⟨by rfl, rfl⟩) (hX.take 4) ?_
                try simp only [Act.put, List.setIfInBounds_toArray, List.set_cons_zero, List.set_cons_succ]
                refine wpAnyH_take (i := 9) (oi := { dst := some 99, op := Op.pick (Operand.tmp 96) (Operand.tmp 98) (Operand.const (Value.bool false)), type := 4, pos := "outright.go:18", after := #[{ on := 6, ground := Ground.data }, { on := 8, ground := Ground.data }], guard := none }) (v := ?_) rfl (by kernel_rfl) (by kernel_rfl) (by kernel_rfl) (fun _ _ _ h => h) (Or.inl ⟨by rfl, ?_⟩) (hX.take 4) ?_
                rotate_left
                · (intro w' hSw; clear hSw; go_simp); with_reducible rfl
                try simp only [Act.put, List.setIfInBounds_toArray, List.set_cons_zero, List.set_cons_succ]
                refine wpAnyH_take (i := 10) (oi := { dst := some 100, op := Op.move (Operand.tmp 99), type := 4, pos := "outright.go:18", after := #[{ on := 9, ground := Ground.data }, { on := 6, ground := Ground.chain }], guard := none }) (v := ?_) rfl (by kernel_rfl) (by kernel_rfl) (by kernel_rfl) (fun _ _ _ h => h) (Or.inl ⟨by rfl, ?_⟩) (hX.take 4) ?_
                rotate_left
                · (intro w' hSw; clear hSw; go_simp); with_reducible rfl
                try simp only [Act.put, List.setIfInBounds_toArray, List.set_cons_zero, List.set_cons_succ]
                refine wpAnyH_take (i := 11) (oi := { dst := some 101, op := Op.load 23 (Operand.tmp 4), type := 23, pos := "outright.go:18", after := #[{ on := 10, ground := Ground.guard }], guard := some (10, false) }) rfl (by kernel_rfl) (by kernel_rfl) (by kernel_rfl) (fun _ _ _ h => h) (load_rc (t := 4) (r := a) rfl rfl rfl (fun _ h => h.blk 0 rfl)) (hX.take 4) ?_
                try simp only [Act.put, List.setIfInBounds_toArray, List.set_cons_zero, List.set_cons_succ]
                refine wpAnyH_take (i := 13) (oi := { dst := some 103, op := Op.load 23 (Operand.tmp 4), type := 23, pos := "outright.go:18", after := #[{ on := 10, ground := Ground.guard }], guard := some (10, false) }) rfl (by kernel_rfl) (by kernel_rfl) (by kernel_rfl) (fun _ _ _ h => h) (load_rc (t := 4) (r := a) rfl rfl rfl (fun _ h => h.blk 0 rfl)) (hX.take 4) ?_
                try simp only [Act.put, List.setIfInBounds_toArray, List.set_cons_zero, List.set_cons_succ]
                refine wpAnyH_ready (rs := [12]) (by kernel_rfl) (by simp) ?_
                refine AllReadyH.cons (o := { dst := some 102, op := Op.call { callee := Callee.value (Operand.func 10), args := #[Operand.tmp 101], argTypes := #[23] }, type := 4, pos := "outright.go:18", after := #[{ on := 11, ground := Ground.data }, { on := 10, ground := Ground.chain }, { on := 10, ground := Ground.guard }], guard := some (10, false) }) rfl ?_ (AllReadyH.nil)
                · intro K hK
                  go_simp
                  go_at_call 10
                  refine (empty_any a.x a.y a.w a.h _).mono ?_
                  rw [E.out]
                  rintro e v2 ⟨rfl, hb1⟩
                  replace hX := hX.grow hb1
                  clear hb1
                  refine hK.out _ _ (hX.take 4) (fun _ => ?_)
                  clear hK K
                  try simp only [Act.put, List.setIfInBounds_toArray, List.set_cons_zero, List.set_cons_succ]
                  refine wpAnyH_ready (rs := [14]) (by kernel_rfl) (by simp) ?_
                  refine AllReadyH.cons (o := { dst := some 104, op := Op.call { callee := Callee.value (Operand.func 12), args := #[Operand.tmp 103], argTypes := #[23] }, type := 3, pos := "outright.go:18", after := #[{ on := 13, ground := Ground.data }, { on := 12, ground := Ground.chain }, { on := 10, ground := Ground.guard }], guard := some (10, false) }) rfl ?_ (AllReadyH.nil)
                  · intro K hK
                    go_simp
                    go_at_call 12
                    refine (area_any a.x a.y a.w a.h _).mono ?_
                    rw [hz.out]
                    rintro e v3 ⟨rfl, hb1⟩
                    replace hX := hX.grow hb1
                    clear hb1
                    refine hK.out _ _ (hX.take 4) (fun _ => ?_)
                    clear hK K
                    try simp only [Act.put, List.setIfInBounds_toArray, List.set_cons_zero, List.set_cons_succ]
                    refine wpAnyH_take (i := 15) (oi := { dst := some 105, op := Op.binOp BinOp.eql 3 (Operand.tmp 104) (Operand.const (Value.int IntKind.i64 0)) 3, type := 4, pos := "outright.go:18", after := #[{ on := 14, ground := Ground.data }, { on := 10, ground := Ground.guard }], guard := some (10, false) }) (v := ?_) rfl (by kernel_rfl) (by kernel_rfl) (by kernel_rfl) (fun _ _ _ h => h) (Or.inl ⟨by rfl, ?_⟩) (hX.take 4) ?_
                    rotate_left
                    · (intro w' hSw; clear hSw; go_simp); with_reducible rfl
                    try simp only [Act.put, List.setIfInBounds_toArray, List.set_cons_zero, List.set_cons_succ]
                    refine wpAnyH_take (i := 16) (oi := { dst := some 106, op := Op.binOp BinOp.neq 4 (Operand.tmp 102) (Operand.tmp 105) 4, type := 4, pos := "outright.go:18", after := #[{ on := 12, ground := Ground.data }, { on := 15, ground := Ground.data }, { on := 10, ground := Ground.guard }], guard := some (10, false) }) (v := ?_) rfl (by kernel_rfl) (by kernel_rfl) (by kernel_rfl) (fun _ _ _ h => h) (Or.inl ⟨by rfl, ?_⟩) (hX.take 4) ?_
                    rotate_left
                    · (intro w' hSw; clear hSw; go_simp); with_reducible rfl
                    try simp only [Act.put, List.setIfInBounds_toArray, List.set_cons_zero, List.set_cons_succ]
                    refine wpAnyH_take (i := 17) (oi := { dst := some 107, op := Op.pick (Operand.tmp 100) (Operand.const (Value.bool true)) (Operand.tmp 106), type := 4, pos := "outright.go:18", after := #[{ on := 10, ground := Ground.data }, { on := 16, ground := Ground.data }], guard := none }) (v := ?_) rfl (by kernel_rfl) (by kernel_rfl) (by kernel_rfl) (fun _ _ _ h => h) (Or.inl ⟨by rfl, ?_⟩) (hX.take 4) ?_
                    rotate_left
                    · (intro w' hSw; clear hSw; go_simp); with_reducible rfl
                    try simp only [Act.put, List.setIfInBounds_toArray, List.set_cons_zero, List.set_cons_succ]
                    refine wpAnyH_take (i := 18) (oi := { dst := some 108, op := Op.move (Operand.tmp 107), type := 4, pos := "outright.go:18", after := #[{ on := 17, ground := Ground.data }, { on := 14, ground := Ground.chain }], guard := none }) (v := ?_) rfl (by kernel_rfl) (by kernel_rfl) (by kernel_rfl) (fun _ _ _ h => h) (Or.inl ⟨by rfl, ?_⟩) (hX.take 4) ?_
                    rotate_left
                    · (intro w' hSw; clear hSw; go_simp); with_reducible rfl
                    try simp only [Act.put, List.setIfInBounds_toArray, List.set_cons_zero, List.set_cons_succ]
                    refine wpAnyH_take (i := 19) (oi := { dst := some 109, op := Op.load 23 (Operand.tmp 4), type := 23, pos := "outright.go:18", after := #[{ on := 18, ground := Ground.guard }], guard := some (18, false) }) rfl (by kernel_rfl) (by kernel_rfl) (by kernel_rfl) (fun _ _ _ h => h) (load_rc (t := 4) (r := a) rfl rfl rfl (fun _ h => h.blk 0 rfl)) (hX.take 4) ?_
                    try simp only [Act.put, List.setIfInBounds_toArray, List.set_cons_zero, List.set_cons_succ]
                    refine wpAnyH_ready (rs := [20]) (by kernel_rfl) (by simp) ?_
                    refine AllReadyH.cons (o := { dst := some 110, op := Op.call { callee := Callee.value (Operand.func 10), args := #[Operand.tmp 109], argTypes := #[23] }, type := 4, pos := "outright.go:18", after := #[{ on := 19, ground := Ground.data }, { on := 18, ground := Ground.chain }, { on := 18, ground := Ground.guard }], guard := some (18, false) }) rfl ?_ (AllReadyH.nil)
                    · intro K hK
                      go_simp
                      go_at_call 10
                      refine (empty_any a.x a.y a.w a.h _).mono ?_
                      rw [E.out]
                      rintro e v4 ⟨rfl, hb1⟩
                      replace hX := hX.grow hb1
                      clear hb1
                      refine hK.out _ _ (hX.take 4) (fun _ => ?_)
                      clear hK K
                      try simp only [Act.put, List.setIfInBounds_toArray, List.set_cons_zero, List.set_cons_succ]
                      refine wpAnyH_take (i := 21) (oi := { dst := some 111, op := Op.move (Operand.tmp 110), type := 4, pos := "outright.go:18", after := #[{ on := 20, ground := Ground.data }, { on := 20, ground := Ground.chain }, { on := 18, ground := Ground.guard }], guard := some (18, false) }) (v := ?_) rfl (by kernel_rfl) (by kernel_rfl) (by kernel_rfl) (fun _ _ _ h => h) (Or.inl ⟨by rfl, ?_⟩) (hX.take 4) ?_
                      rotate_left
                      · (intro w' hSw; clear hSw; go_simp); with_reducible rfl
                      try simp only [Act.put, List.setIfInBounds_toArray, List.set_cons_zero, List.set_cons_succ]
                      refine wpAnyH_take (i := 22) (oi := { dst := some 112, op := Op.load 23 (Operand.tmp 4), type := 23, pos := "outright.go:18", after := #[{ on := 21, ground := Ground.guard }], guard := some (21, true) }) rfl (by kernel_rfl) (by kernel_rfl) (by kernel_rfl) (fun _ _ _ h => h) (load_rc (t := 4) (r := a) rfl rfl rfl (fun _ h => h.blk 0 rfl)) (hX.take 4) ?_
                      try simp only [Act.put, List.setIfInBounds_toArray, List.set_cons_zero, List.set_cons_succ]
                      refine wpAnyH_take (i := 23) (oi := { dst := some 113, op := Op.load 23 (Operand.tmp 5), type := 23, pos := "outright.go:18", after := #[{ on := 21, ground := Ground.guard }], guard := some (21, true) }) rfl (by kernel_rfl) (by kernel_rfl) (by kernel_rfl) (fun _ _ _ h => h) (load_rc (t := 5) (r := b) rfl rfl rfl (fun _ h => h.blk 1 rfl)) (hX.take 4) ?_
                      try simp only [Act.put, List.setIfInBounds_toArray, List.set_cons_zero, List.set_cons_succ]
                      refine wpAnyH_ready (rs := [24]) (by kernel_rfl) (by simp) ?_
                      refine AllReadyH.cons (o := { dst := some 114, op := Op.call { callee := Callee.value (Operand.func 11), args := #[Operand.tmp 112, Operand.tmp 113], argTypes := #[23, 23] }, type := 4, pos := "outright.go:18", after := #[{ on := 22, ground := Ground.data }, { on := 23, ground := Ground.data }, { on := 21, ground := Ground.chain }, { on := 21, ground := Ground.guard }], guard := some (21, true) }) rfl ?_ (AllReadyH.nil)
                      · intro K hK
                        go_simp
                        go_at_call 11
                        refine (in_any a b _).mono ?_
                        rw [I.out]
                        rintro e v5 ⟨rfl, hb1⟩
                        replace hX := hX.grow hb1
                        clear hb1
                        refine hK.out _ _ (hX.take 4) (fun _ => ?_)
                        clear hK K
                        try simp only [Act.put, List.setIfInBounds_toArray, List.set_cons_zero, List.set_cons_succ]
                        refine wpAnyH_take (i := 25) (oi := { dst := some 115, op := Op.unOp UnOp.not 4 (Operand.tmp 114), type := 4, pos := "outright.go:18", after := #[{ on := 24, ground := Ground.data }, { on := 21, ground := Ground.guard }], guard := some (21, true) }) (v := ?_) rfl (by kernel_rfl) (by kernel_rfl) (by kernel_rfl) (fun _ _ _ h => h) (Or.inl ⟨by rfl, ?_⟩) (hX.take 4) ?_
                        rotate_left
                        · (intro w' hSw; clear hSw; go_simp); with_reducible rfl
                        try simp only [Act.put, List.setIfInBounds_toArray, List.set_cons_zero, List.set_cons_succ]
                        refine wpAnyH_take (i := 26) (oi := { dst := some 116, op := Op.pick (Operand.tmp 111) (Operand.tmp 115) (Operand.const (Value.bool false)), type := 4, pos := "outright.go:18", after := #[{ on := 21, ground := Ground.data }, { on := 25, ground := Ground.data }, { on := 18, ground := Ground.guard }], guard := some (18, false) }) (v := ?_) rfl (by kernel_rfl) (by kernel_rfl) (by kernel_rfl) (fun _ _ _ h => h) (Or.inl ⟨by rfl, ?_⟩) (hX.take 4) ?_
                        rotate_left
                        · (intro w' hSw; clear hSw; go_simp); with_reducible rfl
                        try simp only [Act.put, List.setIfInBounds_toArray, List.set_cons_zero, List.set_cons_succ]
                        refine wpAnyH_take (i := 27) (oi := { dst := some 117, op := Op.pick (Operand.tmp 108) (Operand.const (Value.bool true)) (Operand.tmp 116), type := 4, pos := "outright.go:18", after := #[{ on := 18, ground := Ground.data }, { on := 26, ground := Ground.data }], guard := none }) (v := ?_) rfl (by kernel_rfl) (by kernel_rfl) (by kernel_rfl) (fun _ _ _ h => h) (Or.inl ⟨by rfl, ?_⟩) (hX.take 4) ?_
                        rotate_left
                        · (intro w' hSw; clear hSw; go_simp); with_reducible rfl
                        try simp only [Act.put, List.setIfInBounds_toArray, List.set_cons_zero, List.set_cons_succ]
                        refine wpAnyH_done (by kernel_rfl) ?_ _
                        go_wp2_with fail
                        go_meet
                        exact ⟨rfl, hX⟩
            | false =>
              cases hI : inR a b with
              | false =>
                have I := Lib.hid hI
                have E : Hid (emptyB a.x a.y a.w a.h = false) := hE
                clear hI hE
                obtain ⟨z, hz0⟩ : ∃ z, areaV a.x a.y a.w a.h = z := ⟨_, rfl⟩
                have hz := Lib.hid hz0
                have hz1 : (z == 0) = false := by have := E.out; unfold emptyB at this; rw [hz0] at this; exact this
                clear hz0
                refine wp_region_held_drew (S := fun w' => Sep w w' [cell g4 23 a.arr, cell g5 23 b.arr, cell g9 23 (andR a b).arr, cell g10 23 (orR a b).arr]) (by kernel_rfl) hX.drew (fun hHeld => ?_)
                replace hX := hHeld
                clear hHeld
                generalize wc.drew = v0 at hX ⊢
                refine wpAnyH_take (i := 0) (oi := { dst := some 90, op := Op.load 23 (Operand.tmp 4), type := 23, pos := "outright.go:18", after := #[], guard := none }) rfl (by kernel_rfl) (by kernel_rfl) (by kernel_rfl) (fun _ _ _ h => h) (load_rc (t := 4) (r := a) rfl rfl rfl (fun _ h => h.blk 0 rfl)) (hX.take 4) ?_
                try simp only [Act.put, List.setIfInBounds_toArray, List.set_cons_zero, List.set_cons_succ]
                refine wpAnyH_take (i := 1) (oi := { dst := some 91, op := Op.load 23 (Operand.tmp 5), type := 23, pos := "outright.go:18", after := #[], guard := none }) rfl (by kernel_rfl) (by kernel_rfl) (by kernel_rfl) (fun _ _ _ h => h) (load_rc (t := 5) (r := b) rfl rfl rfl (fun _ h => h.blk 1 rfl)) (hX.take 4) ?_
                try simp only [Act.put, List.setIfInBounds_toArray, List.set_cons_zero, List.set_cons_succ]
                refine wpAnyH_ready (rs := [2]) (by kernel_rfl) (by simp) ?_
                refine AllReadyH.cons (o := { dst := some 92, op := Op.call { callee := Callee.value (Operand.func 11), args := #[Operand.tmp 90, Operand.tmp 91], argTypes := #[23, 23] }, type := 4, pos := "outright.go:18", after := #[{ on := 0, ground := Ground.data }, { on := 1, ground := Ground.data }], guard := none }) rfl ?_ (AllReadyH.nil)
                · intro K hK
                  go_simp
                  go_at_call 11
                  refine (in_any a b _).mono ?_
                  rw [I.out]
                  rintro e v1 ⟨rfl, hb1⟩
                  replace hX := hX.grow hb1
                  clear hb1
                  refine hK.out _ _ (hX.take 4) (fun _ => ?_)
                  clear hK K
                  try simp only [Act.put, List.setIfInBounds_toArray, List.set_cons_zero, List.set_cons_succ]
                  refine wpAnyH_take (i := 3) (oi := { dst := some 93, op := Op.move (Operand.tmp 92), type := 4, pos := "outright.go:18", after := #[{ on := 2, ground := Ground.data }, { on := 2, ground := Ground.chain }], guard := none }) (v := ?_) rfl (by kernel_rfl) (by kernel_rfl) (by kernel_rfl) (fun _ _ _ h => h) (Or.inl ⟨by rfl, ?_⟩) (hX.take 4) ?_
                  rotate_left
                  · (intro w' hSw; clear hSw; go_simp); with_reducible rfl
                  try simp only [Act.put, List.setIfInBounds_toArray, List.set_cons_zero, List.set_cons_succ]
                  refine wpAnyH_take (i := 4) (oi := { dst := some 94, op := Op.move (Operand.tmp 11), type := 4, pos := "outright.go:18", after := #[{ on := 3, ground := Ground.guard }], guard := some (3, true) }) (v := undef) rfl (by kernel_rfl) (by kernel_rfl) (by kernel_rfl) (fun _ _ _ h => h) (Or.inr ⟨by rfl, rfl⟩) (hX.take 4) ?_
                  try simp only [Act.put, List.setIfInBounds_toArray, List.set_cons_zero, List.set_cons_succ]
                  refine wpAnyH_take (i := 5) (oi := { dst := some 95, op := Op.pick (Operand.tmp 93) (Operand.tmp 94) (Operand.const (Value.bool false)), type := 4, pos := "outright.go:18", after := #[{ on := 3, ground := Ground.data }, { on := 4, ground := Ground.data }], guard := none }) (v := ?_) rfl (by kernel_rfl) (by kernel_rfl) (by kernel_rfl) (fun _ _ _ h => h) (Or.inl ⟨by rfl, ?_⟩) (hX.take 4) ?_
                  rotate_left
                  · (intro w' hSw; clear hSw; go_simp); with_reducible rfl
                  try simp only [Act.put, List.setIfInBounds_toArray, List.set_cons_zero, List.set_cons_succ]
                  refine wpAnyH_take (i := 6) (oi := { dst := some 96, op := Op.move (Operand.tmp 95), type := 4, pos := "outright.go:18", after := #[{ on := 5, ground := Ground.data }, { on := 3, ground := Ground.chain }], guard := none }) (v := ?_) rfl (by kernel_rfl) (by kernel_rfl) (by kernel_rfl) (fun _ _ _ h => h) (Or.inl ⟨by rfl, ?_⟩) (hX.take 4) ?_
                  rotate_left
                  · (intro w' hSw; clear hSw; go_simp); with_reducible rfl
                  try simp only [Act.put, List.setIfInBounds_toArray, List.set_cons_zero, List.set_cons_succ]
                  refine wpAnyH_take (i := 7) (oi := { dst := some 97, op := Op.move (Operand.tmp 12), type := 4, pos := "outright.go:18", after := #[{ on := 6, ground := Ground.guard }], guard := some (6, true) }) (v := undef) rfl (by kernel_rfl) (by kernel_rfl) (by kernel_rfl) (fun _ _ _ h => h) (Or.inr ⟨by rfl, rfl⟩) (hX.take 4) ?_
                  try simp only [Act.put, List.setIfInBounds_toArray, List.set_cons_zero, List.set_cons_succ]
                  refine wpAnyH_take (i := 8) (oi := { dst := some 98, op := Op.unOp UnOp.not 4 (Operand.tmp 97), type := 4, pos := "outright.go:18", after := #[{ on := 7, ground := Ground.data }, { on := 6, ground := Ground.guard }], guard := some (6, true) }) (v := undef) rfl (by kernel_rfl) (by kernel_rfl) (by kernel_rfl) (fun _ _ _ h => h) (Or.inr ⟨by rfl, rfl⟩) (hX.take 4) ?_
                  try simp only [Act.put, List.setIfInBounds_toArray, List.set_cons_zero, List.set_cons_succ]
                  refine wpAnyH_take (i := 9) (oi := { dst := some 99, op := Op.pick (Operand.tmp 96) (Operand.tmp 98) (Operand.const (Value.bool false)), type := 4, pos := "outright.go:18", after := #[{ on := 6, ground := Ground.data }, { on := 8, ground := Ground.data }], guard := none }) (v := ?_) rfl (by kernel_rfl) (by kernel_rfl) (by kernel_rfl) (fun _ _ _ h => h) (Or.inl ⟨by rfl, ?_⟩) (hX.take 4) ?_
                  rotate_left
                  · (intro w' hSw; clear hSw; go_simp); with_reducible rfl
                  try simp only [Act.put, List.setIfInBounds_toArray, List.set_cons_zero, List.set_cons_succ]
                  refine wpAnyH_take (i := 10) (oi := { dst := some 100, op := Op.move (Operand.tmp 99), type := 4, pos := "outright.go:18", after := #[{ on := 9, ground := Ground.data }, { on := 6, ground := Ground.chain }], guard := none }) (v := ?_) rfl (by kernel_rfl) (by kernel_rfl) (by kernel_rfl) (fun _ _ _ h => h) (Or.inl ⟨by rfl, ?_⟩) (hX.take 4) ?_
                  rotate_left
                  · (intro w' hSw; clear hSw; go_simp); with_reducible rfl
                  try simp only [Act.put, List.setIfInBounds_toArray, List.set_cons_zero, List.set_cons_succ]
                  refine wpAnyH_take (i := 11) (oi := { dst := some 101, op := Op.load 23 (Operand.tmp 4), type := 23, pos := "outright.go:18", after := #[{ on := 10, ground := Ground.guard }], guard := some (10, false) }) rfl (by kernel_rfl) (by kernel_rfl) (by kernel_rfl) (fun _ _ _ h => h) (load_rc (t := 4) (r := a) rfl rfl rfl (fun _ h => h.blk 0 rfl)) (hX.take 4) ?_
                  try simp only [Act.put, List.setIfInBounds_toArray, List.set_cons_zero, List.set_cons_succ]
                  refine wpAnyH_take (i := 13) (oi := { dst := some 103, op := Op.load 23 (Operand.tmp 4), type := 23, pos := "outright.go:18", after := #[{ on := 10, ground := Ground.guard }], guard := some (10, false) }) rfl (by kernel_rfl) (by kernel_rfl) (by kernel_rfl) (fun _ _ _ h => h) (load_rc (t := 4) (r := a) rfl rfl rfl (fun _ h => h.blk 0 rfl)) (hX.take 4) ?_
                  try simp only [Act.put, List.setIfInBounds_toArray, List.set_cons_zero, List.set_cons_succ]
                  refine wpAnyH_ready (rs := [12]) (by kernel_rfl) (by simp) ?_
                  refine AllReadyH.cons (o := { dst := some 102, op := Op.call { callee := Callee.value (Operand.func 10), args := #[Operand.tmp 101], argTypes := #[23] }, type := 4, pos := "outright.go:18", after := #[{ on := 11, ground := Ground.data }, { on := 10, ground := Ground.chain }, { on := 10, ground := Ground.guard }], guard := some (10, false) }) rfl ?_ (AllReadyH.nil)
                  · intro K hK
                    go_simp
                    go_at_call 10
                    refine (empty_any a.x a.y a.w a.h _).mono ?_
                    rw [E.out]
                    rintro e v2 ⟨rfl, hb1⟩
                    replace hX := hX.grow hb1
                    clear hb1
                    refine hK.out _ _ (hX.take 4) (fun _ => ?_)
                    clear hK K
                    try simp only [Act.put, List.setIfInBounds_toArray, List.set_cons_zero, List.set_cons_succ]
                    refine wpAnyH_ready (rs := [14]) (by kernel_rfl) (by simp) ?_
                    refine AllReadyH.cons (o := { dst := some 104, op := Op.call { callee := Callee.value (Operand.func 12), args := #[Operand.tmp 103], argTypes := #[23] }, type := 3, pos := "outright.go:18", after := #[{ on := 13, ground := Ground.data }, { on := 12, ground := Ground.chain }, { on := 10, ground := Ground.guard }], guard := some (10, false) }) rfl ?_ (AllReadyH.nil)
                    · intro K hK
                      go_simp
                      go_at_call 12
                      refine (area_any a.x a.y a.w a.h _).mono ?_
                      rw [hz.out]
                      rintro e v3 ⟨rfl, hb1⟩
                      replace hX := hX.grow hb1
                      clear hb1
                      refine hK.out _ _ (hX.take 4) (fun _ => ?_)
                      clear hK K
                      try simp only [Act.put, List.setIfInBounds_toArray, List.set_cons_zero, List.set_cons_succ]
                      refine wpAnyH_take (i := 15) (oi := { dst := some 105, op := Op.binOp BinOp.eql 3 (Operand.tmp 104) (Operand.const (Value.int IntKind.i64 0)) 3, type := 4, pos := "outright.go:18", after := #[{ on := 14, ground := Ground.data }, { on := 10, ground := Ground.guard }], guard := some (10, false) }) (v := ?_) rfl (by kernel_rfl) (by kernel_rfl) (by kernel_rfl) (fun _ _ _ h => h) (Or.inl ⟨by rfl, ?_⟩) (hX.take 4) ?_
                      rotate_left
                      · (intro w' hSw; clear hSw; go_simp); with_reducible rfl
                      try simp only [Act.put, List.setIfInBounds_toArray, List.set_cons_zero, List.set_cons_succ]
                      refine wpAnyH_take (i := 16) (oi := { dst := some 106, op := Op.binOp BinOp.neq 4 (Operand.tmp 102) (Operand.tmp 105) 4, type := 4, pos := "outright.go:18", after := #[{ on := 12, ground := Ground.data }, { on := 15, ground := Ground.data }, { on := 10, ground := Ground.guard }], guard := some (10, false) }) (v := ?_) rfl (by kernel_rfl) (by kernel_rfl) (by kernel_rfl) (fun _ _ _ h => h) (Or.inl ⟨by rfl, ?_⟩) (hX.take 4) ?_
                      rotate_left
                      · (intro w' hSw; clear hSw; go_simp); with_reducible rfl
                      try simp only [Act.put, List.setIfInBounds_toArray, List.set_cons_zero, List.set_cons_succ]
                      refine wpAnyH_take (i := 17) (oi := { dst := some 107, op := Op.pick (Operand.tmp 100) (Operand.const (Value.bool true)) (Operand.tmp 106), type := 4, pos := "outright.go:18", after := #[{ on := 10, ground := Ground.data }, { on := 16, ground := Ground.data }], guard := none }) (v := ?_) rfl (by kernel_rfl) (by kernel_rfl) (by kernel_rfl) (fun _ _ _ h => h) (Or.inl ⟨by rfl, ?_⟩) (hX.take 4) ?_
                      rotate_left
                      · (intro w' hSw; clear hSw; go_simp); with_reducible rfl
                      try simp only [Act.put, List.setIfInBounds_toArray, List.set_cons_zero, List.set_cons_succ]
                      refine wpAnyH_take (i := 18) (oi := { dst := some 108, op := Op.move (Operand.tmp 107), type := 4, pos := "outright.go:18", after := #[{ on := 17, ground := Ground.data }, { on := 14, ground := Ground.chain }], guard := none }) (v := ?_) rfl (by kernel_rfl) (by kernel_rfl) (by kernel_rfl) (fun _ _ _ h => h) (Or.inl ⟨by rfl, ?_⟩) (hX.take 4) ?_
                      rotate_left
                      · (intro w' hSw; clear hSw; go_simp); with_reducible rfl
                      try simp only [Act.put, List.setIfInBounds_toArray, List.set_cons_zero, List.set_cons_succ]
                      refine wpAnyH_take (i := 19) (oi := { dst := some 109, op := Op.load 23 (Operand.tmp 4), type := 23, pos := "outright.go:18", after := #[{ on := 18, ground := Ground.guard }], guard := some (18, false) }) rfl (by kernel_rfl) (by kernel_rfl) (by kernel_rfl) (fun _ _ _ h => h) (load_rc (t := 4) (r := a) rfl rfl rfl (fun _ h => h.blk 0 rfl)) (hX.take 4) ?_
                      try simp only [Act.put, List.setIfInBounds_toArray, List.set_cons_zero, List.set_cons_succ]
                      refine wpAnyH_ready (rs := [20]) (by kernel_rfl) (by simp) ?_
                      refine AllReadyH.cons (o := { dst := some 110, op := Op.call { callee := Callee.value (Operand.func 10), args := #[Operand.tmp 109], argTypes := #[23] }, type := 4, pos := "outright.go:18", after := #[{ on := 19, ground := Ground.data }, { on := 18, ground := Ground.chain }, { on := 18, ground := Ground.guard }], guard := some (18, false) }) rfl ?_ (AllReadyH.nil)
                      · intro K hK
                        go_simp
                        go_at_call 10
                        refine (empty_any a.x a.y a.w a.h _).mono ?_
                        rw [E.out]
                        rintro e v4 ⟨rfl, hb1⟩
                        replace hX := hX.grow hb1
                        clear hb1
                        refine hK.out _ _ (hX.take 4) (fun _ => ?_)
                        clear hK K
                        try simp only [Act.put, List.setIfInBounds_toArray, List.set_cons_zero, List.set_cons_succ]
                        refine wpAnyH_take (i := 21) (oi := { dst := some 111, op := Op.move (Operand.tmp 110), type := 4, pos := "outright.go:18", after := #[{ on := 20, ground := Ground.data }, { on := 20, ground := Ground.chain }, { on := 18, ground := Ground.guard }], guard := some (18, false) }) (v := ?_) rfl (by kernel_rfl) (by kernel_rfl) (by kernel_rfl) (fun _ _ _ h => h) (Or.inl ⟨by rfl, ?_⟩) (hX.take 4) ?_
                        rotate_left
                        · (intro w' hSw; clear hSw; go_simp); with_reducible rfl
                        try simp only [Act.put, List.setIfInBounds_toArray, List.set_cons_zero, List.set_cons_succ]
                        refine wpAnyH_take (i := 22) (oi := { dst := some 112, op := Op.load 23 (Operand.tmp 4), type := 23, pos := "outright.go:18", after := #[{ on := 21, ground := Ground.guard }], guard := some (21, true) }) (v := undef) rfl (by kernel_rfl) (by kernel_rfl) (by kernel_rfl) (fun _ _ _ h => h) (Or.inr ⟨by rfl, rfl⟩) (hX.take 4) ?_
                        try simp only [Act.put, List.setIfInBounds_toArray, List.set_cons_zero, List.set_cons_succ]
                        refine wpAnyH_take (i := 23) (oi := { dst := some 113, op := Op.load 23 (Operand.tmp 5), type := 23, pos := "outright.go:18", after := #[{ on := 21, ground := Ground.guard }], guard := some (21, true) }) (v := undef) rfl (by kernel_rfl) (by kernel_rfl) (by kernel_rfl) (fun _ _ _ h => h) (Or.inr ⟨by rfl, rfl⟩) (hX.take 4) ?_
                        try simp only [Act.put, List.setIfInBounds_toArray, List.set_cons_zero, List.set_cons_succ]
                        refine wpAnyH_take (i := 24) (oi := { dst := some 114, op := Op.call { callee := Callee.value (Operand.func 11), args := #[Operand.tmp 112, Operand.tmp 113], argTypes := #[23, 23] }, type := 4, pos := "outright.go:18", after := #[{ on := 22, ground := Ground.data }, { on := 23, ground := Ground.data }, { on := 21, ground := Ground.chain }, { on := 21, ground := Ground.guard }], guard := some (21, true) }) (v := undef) rfl (by kernel_rfl) (by kernel_rfl) (by kernel_rfl) (fun _ _ _ h => h) (Or.inr ⟨by rfl, rfl⟩) (hX.take 4) ?_
                        try simp only [Act.put, List.setIfInBounds_toArray, List.set_cons_zero, List.set_cons_succ]
                        refine wpAnyH_take (i := 25) (oi := { dst := some 115, op := Op.unOp UnOp.not 4 (Operand.tmp 114), type := 4, pos := "outright.go:18", after := #[{ on := 24, ground := Ground.data }, { on := 21, ground := Ground.guard }], guard := some (21, true) }) (v := undef) rfl (by kernel_rfl) (by kernel_rfl) (by kernel_rfl) (fun _ _ _ h => h) (Or.inr ⟨by rfl, rfl⟩) (hX.take 4) ?_
                        try simp only [Act.put, List.setIfInBounds_toArray, List.set_cons_zero, List.set_cons_succ]
                        refine wpAnyH_take (i := 26) (oi := { dst := some 116, op := Op.pick (Operand.tmp 111) (Operand.tmp 115) (Operand.const (Value.bool false)), type := 4, pos := "outright.go:18", after := #[{ on := 21, ground := Ground.data }, { on := 25, ground := Ground.data }, { on := 18, ground := Ground.guard }], guard := some (18, false) }) (v := ?_) rfl (by kernel_rfl) (by kernel_rfl) (by kernel_rfl) (fun _ _ _ h => h) (Or.inl ⟨by rfl, ?_⟩) (hX.take 4) ?_
                        rotate_left
                        · (intro w' hSw; clear hSw; go_simp); with_reducible rfl
                        try simp only [Act.put, List.setIfInBounds_toArray, List.set_cons_zero, List.set_cons_succ]
                        refine wpAnyH_take (i := 27) (oi := { dst := some 117, op := Op.pick (Operand.tmp 108) (Operand.const (Value.bool true)) (Operand.tmp 116), type := 4, pos := "outright.go:18", after := #[{ on := 18, ground := Ground.data }, { on := 26, ground := Ground.data }], guard := none }) (v := ?_) rfl (by kernel_rfl) (by kernel_rfl) (by kernel_rfl) (fun _ _ _ h => h) (Or.inl ⟨by rfl, ?_⟩) (hX.take 4) ?_
                        rotate_left
                        · (intro w' hSw; clear hSw; go_simp); with_reducible rfl
                        try simp only [Act.put, List.setIfInBounds_toArray, List.set_cons_zero, List.set_cons_succ]
                        refine wpAnyH_done (by kernel_rfl) ?_ _
                        go_wp2_with fail
                        go_meet
                        exact ⟨rfl, hX⟩
              | true =>
                cases p with
                | false =>
                  have I := Lib.hid hI
                  have E : Hid (emptyB a.x a.y a.w a.h = false) := hE
                  clear hI hE
                  obtain ⟨z, hz0⟩ : ∃ z, areaV a.x a.y a.w a.h = z := ⟨_, rfl⟩
                  have hz := Lib.hid hz0
                  have hz1 : (z == 0) = false := by have := E.out; unfold emptyB at this; rw [hz0] at this; exact this
                  clear hz0
                  refine wp_region_held_drew (S := fun w' => Sep w w' [cell g4 23 a.arr, cell g5 23 b.arr, cell g9 23 (andR a b).arr, cell g10 23 (orR a b).arr]) (by kernel_rfl) hX.drew (fun hHeld => ?_)
                  replace hX := hHeld
                  clear hHeld
                  generalize wc.drew = v0 at hX ⊢
                  refine wpAnyH_take (i := 0) (oi := { dst := some 90, op := Op.load 23 (Operand.tmp 4), type := 23, pos := "outright.go:18", after := #[], guard := none }) rfl (by kernel_rfl) (by kernel_rfl) (by kernel_rfl) (fun _ _ _ h => h) (load_rc (t := 4) (r := a) rfl rfl rfl (fun _ h => h.blk 0 rfl)) (hX.take 4) ?_
                  try simp only [Act.put, List.setIfInBounds_toArray, List.set_cons_zero, List.set_cons_succ]
                  refine wpAnyH_take (i := 1) (oi := { dst := some 91, op := Op.load 23 (Operand.tmp 5), type := 23, pos := "outright.go:18", after := #[], guard := none }) rfl (by kernel_rfl) (by kernel_rfl) (by kernel_rfl) (fun _ _ _ h => h) (load_rc (t := 5) (r := b) rfl rfl rfl (fun _ h => h.blk 1 rfl)) (hX.take 4) ?_
                  try simp only [Act.put, List.setIfInBounds_toArray, List.set_cons_zero, List.set_cons_succ]
                  refine wpAnyH_ready (rs := [2]) (by kernel_rfl) (by simp) ?_
                  refine AllReadyH.cons (o := { dst := some 92, op := Op.call { callee := Callee.value (Operand.func 11), args := #[Operand.tmp 90, Operand.tmp 91], argTypes := #[23, 23] }, type := 4, pos := "outright.go:18", after := #[{ on := 0, ground := Ground.data }, { on := 1, ground := Ground.data }], guard := none }) rfl ?_ (AllReadyH.nil)
                  · intro K hK
                    go_simp
                    go_at_call 11
                    refine (in_any a b _).mono ?_
                    rw [I.out]
                    rintro e v1 ⟨rfl, hb1⟩
                    replace hX := hX.grow hb1
                    clear hb1
                    refine hK.out _ _ (hX.take 4) (fun _ => ?_)
                    clear hK K
                    try simp only [Act.put, List.setIfInBounds_toArray, List.set_cons_zero, List.set_cons_succ]
                    refine wpAnyH_take (i := 3) (oi := { dst := some 93, op := Op.move (Operand.tmp 92), type := 4, pos := "outright.go:18", after := #[{ on := 2, ground := Ground.data }, { on := 2, ground := Ground.chain }], guard := none }) (v := ?_) rfl (by kernel_rfl) (by kernel_rfl) (by kernel_rfl) (fun _ _ _ h => h) (Or.inl ⟨by rfl, ?_⟩) (hX.take 4) ?_
                    rotate_left
                    · (intro w' hSw; clear hSw; go_simp); with_reducible rfl
                    try simp only [Act.put, List.setIfInBounds_toArray, List.set_cons_zero, List.set_cons_succ]
                    refine wpAnyH_take (i := 4) (oi := { dst := some 94, op := Op.move (Operand.tmp 11), type := 4, pos := "outright.go:18", after := #[{ on := 3, ground := Ground.guard }], guard := some (3, true) }) (v := ?_) rfl (by kernel_rfl) (by kernel_rfl) (by kernel_rfl) (fun _ _ _ h => h) (Or.inl ⟨by rfl, ?_⟩) (hX.take 4) ?_
                    rotate_left
                    · (intro w' hSw; clear hSw; go_simp); with_reducible rfl
                    try simp only [Act.put, List.setIfInBounds_toArray, List.set_cons_zero, List.set_cons_succ]
                    refine wpAnyH_take (i := 5) (oi := { dst := some 95, op := Op.pick (Operand.tmp 93) (Operand.tmp 94) (Operand.const (Value.bool false)), type := 4, pos := "outright.go:18", after := #[{ on := 3, ground := Ground.data }, { on := 4, ground := Ground.data }], guard := none }) (v := ?_) rfl (by kernel_rfl) (by kernel_rfl) (by kernel_rfl) (fun _ _ _ h => h) (Or.inl ⟨by rfl, ?_⟩) (hX.take 4) ?_
                    rotate_left
                    · (intro w' hSw; clear hSw; go_simp); with_reducible rfl
                    try simp only [Act.put, List.setIfInBounds_toArray, List.set_cons_zero, List.set_cons_succ]
                    refine wpAnyH_take (i := 6) (oi := { dst := some 96, op := Op.move (Operand.tmp 95), type := 4, pos := "outright.go:18", after := #[{ on := 5, ground := Ground.data }, { on := 3, ground := Ground.chain }], guard := none }) (v := ?_) rfl (by kernel_rfl) (by kernel_rfl) (by kernel_rfl) (fun _ _ _ h => h) (Or.inl ⟨by rfl, ?_⟩) (hX.take 4) ?_
                    rotate_left
                    · (intro w' hSw; clear hSw; go_simp); with_reducible rfl
                    try simp only [Act.put, List.setIfInBounds_toArray, List.set_cons_zero, List.set_cons_succ]
                    refine wpAnyH_take (i := 7) (oi := { dst := some 97, op := Op.move (Operand.tmp 12), type := 4, pos := "outright.go:18", after := #[{ on := 6, ground := Ground.guard }], guard := some (6, true) }) (v := undef) rfl (by kernel_rfl) (by kernel_rfl) (by kernel_rfl) (fun _ _ _ h => h) (Or.inr ⟨by rfl, rfl⟩) (hX.take 4) ?_
                    try simp only [Act.put, List.setIfInBounds_toArray, List.set_cons_zero, List.set_cons_succ]
                    refine wpAnyH_take (i := 8) (oi := { dst := some 98, op := Op.unOp UnOp.not 4 (Operand.tmp 97), type := 4, pos := "outright.go:18", after := #[{ on := 7, ground := Ground.data }, { on := 6, ground := Ground.guard }], guard := some (6, true) }) (v := undef) rfl (by kernel_rfl) (by kernel_rfl) (by kernel_rfl) (fun _ _ _ h => h) (Or.inr ⟨by rfl, rfl⟩) (hX.take 4) ?_
                    try simp only [Act.put, List.setIfInBounds_toArray, List.set_cons_zero, List.set_cons_succ]
                    refine wpAnyH_take (i := 9) (oi := { dst := some 99, op := Op.pick (Operand.tmp 96) (Operand.tmp 98) (Operand.const (Value.bool false)), type := 4, pos := "outright.go:18", after := #[{ on := 6, ground := Ground.data }, { on := 8, ground := Ground.data }], guard := none }) (v := ?_) rfl (by kernel_rfl) (by kernel_rfl) (by kernel_rfl) (fun _ _ _ h => h) (Or.inl ⟨by rfl, ?_⟩) (hX.take 4) ?_
                    rotate_left
                    · (intro w' hSw; clear hSw; go_simp); with_reducible rfl
                    try simp only [Act.put, List.setIfInBounds_toArray, List.set_cons_zero, List.set_cons_succ]
                    refine wpAnyH_take (i := 10) (oi := { dst := some 100, op := Op.move (Operand.tmp 99), type := 4, pos := "outright.go:18", after := #[{ on := 9, ground := Ground.data }, { on := 6, ground := Ground.chain }], guard := none }) (v := ?_) rfl (by kernel_rfl) (by kernel_rfl) (by kernel_rfl) (fun _ _ _ h => h) (Or.inl ⟨by rfl, ?_⟩) (hX.take 4) ?_
                    rotate_left
                    · (intro w' hSw; clear hSw; go_simp); with_reducible rfl
                    try simp only [Act.put, List.setIfInBounds_toArray, List.set_cons_zero, List.set_cons_succ]
                    refine wpAnyH_take (i := 11) (oi := { dst := some 101, op := Op.load 23 (Operand.tmp 4), type := 23, pos := "outright.go:18", after := #[{ on := 10, ground := Ground.guard }], guard := some (10, false) }) rfl (by kernel_rfl) (by kernel_rfl) (by kernel_rfl) (fun _ _ _ h => h) (load_rc (t := 4) (r := a) rfl rfl rfl (fun _ h => h.blk 0 rfl)) (hX.take 4) ?_
                    try simp only [Act.put, List.setIfInBounds_toArray, List.set_cons_zero, List.set_cons_succ]
                    refine wpAnyH_take (i := 13) (oi := { dst := some 103, op := Op.load 23 (Operand.tmp 4), type := 23, pos := "outright.go:18", after := #[{ on := 10, ground := Ground.guard }], guard := some (10, false) }) rfl (by kernel_rfl) (by kernel_rfl) (by kernel_rfl) (fun _ _ _ h => h) (load_rc (t := 4) (r := a) rfl rfl rfl (fun _ h => h.blk 0 rfl)) (hX.take 4) ?_
                    try simp only [Act.put, List.setIfInBounds_toArray, List.set_cons_zero, List.set_cons_succ]
                    refine wpAnyH_ready (rs := [12]) (by kernel_rfl) (by simp) ?_
                    refine AllReadyH.cons (o := { dst := some 102, op := Op.call { callee := Callee.value (Operand.func 10), args := #[Operand.tmp 101], argTypes := #[23] }, type := 4, pos := "outright.go:18", after := #[{ on := 11, ground := Ground.data }, { on := 10, ground := Ground.chain }, { on := 10, ground := Ground.guard }], guard := some (10, false) }) rfl ?_ (AllReadyH.nil)
                    · intro K hK
                      go_simp
                      go_at_call 10
                      refine (empty_any a.x a.y a.w a.h _).mono ?_
                      rw [E.out]
                      rintro e v2 ⟨rfl, hb1⟩
                      replace hX := hX.grow hb1
                      clear hb1
                      refine hK.out _ _ (hX.take 4) (fun _ => ?_)
                      clear hK K
                      try simp only [Act.put, List.setIfInBounds_toArray, List.set_cons_zero, List.set_cons_succ]
                      refine wpAnyH_ready (rs := [14]) (by kernel_rfl) (by simp) ?_
                      refine AllReadyH.cons (o := { dst := some 104, op := Op.call { callee := Callee.value (Operand.func 12), args := #[Operand.tmp 103], argTypes := #[23] }, type := 3, pos := "outright.go:18", after := #[{ on := 13, ground := Ground.data }, { on := 12, ground := Ground.chain }, { on := 10, ground := Ground.guard }], guard := some (10, false) }) rfl ?_ (AllReadyH.nil)
                      · intro K hK
                        go_simp
                        go_at_call 12
                        refine (area_any a.x a.y a.w a.h _).mono ?_
                        rw [hz.out]
                        rintro e v3 ⟨rfl, hb1⟩
                        replace hX := hX.grow hb1
                        clear hb1
                        refine hK.out _ _ (hX.take 4) (fun _ => ?_)
                        clear hK K
                        try simp only [Act.put, List.setIfInBounds_toArray, List.set_cons_zero, List.set_cons_succ]
                        refine wpAnyH_take (i := 15) (oi := { dst := some 105, op := Op.binOp BinOp.eql 3 (Operand.tmp 104) (Operand.const (Value.int IntKind.i64 0)) 3, type := 4, pos := "outright.go:18", after := #[{ on := 14, ground := Ground.data }, { on := 10, ground := Ground.guard }], guard := some (10, false) }) (v := ?_) rfl (by kernel_rfl) (by kernel_rfl) (by kernel_rfl) (fun _ _ _ h => h) (Or.inl ⟨by rfl, ?_⟩) (hX.take 4) ?_
                        rotate_left
                        · (intro w' hSw; clear hSw; go_simp); with_reducible rfl
                        try simp only [Act.put, List.setIfInBounds_toArray, List.set_cons_zero, List.set_cons_succ]
                        refine wpAnyH_take (i := 16) (oi := { dst := some 106, op := Op.binOp BinOp.neq 4 (Operand.tmp 102) (Operand.tmp 105) 4, type := 4, pos := "outright.go:18", after := #[{ on := 12, ground := Ground.data }, { on := 15, ground := Ground.data }, { on := 10, ground := Ground.guard }], guard := some (10, false) }) (v := ?_) rfl (by kernel_rfl) (by kernel_rfl) (by kernel_rfl) (fun _ _ _ h => h) (Or.inl ⟨by rfl, ?_⟩) (hX.take 4) ?_
                        rotate_left
                        · (intro w' hSw; clear hSw; go_simp); with_reducible rfl
                        try simp only [Act.put, List.setIfInBounds_toArray, List.set_cons_zero, List.set_cons_succ]
                        refine wpAnyH_take (i := 17) (oi := { dst := some 107, op := Op.pick (Operand.tmp 100) (Operand.const (Value.bool true)) (Operand.tmp 106), type := 4, pos := "outright.go:18", after := #[{ on := 10, ground := Ground.data }, { on := 16, ground := Ground.data }], guard := none }) (v := ?_) rfl (by kernel_rfl) (by kernel_rfl) (by kernel_rfl) (fun _ _ _ h => h) (Or.inl ⟨by rfl, ?_⟩) (hX.take 4) ?_
                        rotate_left
                        · (intro w' hSw; clear hSw; go_simp); with_reducible rfl
                        try simp only [Act.put, List.setIfInBounds_toArray, List.set_cons_zero, List.set_cons_succ]
                        refine wpAnyH_take (i := 18) (oi := { dst := some 108, op := Op.move (Operand.tmp 107), type := 4, pos := "outright.go:18", after := #[{ on := 17, ground := Ground.data }, { on := 14, ground := Ground.chain }], guard := none }) (v := ?_) rfl (by kernel_rfl) (by kernel_rfl) (by kernel_rfl) (fun _ _ _ h => h) (Or.inl ⟨by rfl, ?_⟩) (hX.take 4) ?_
                        rotate_left
                        · (intro w' hSw; clear hSw; go_simp); with_reducible rfl
                        try simp only [Act.put, List.setIfInBounds_toArray, List.set_cons_zero, List.set_cons_succ]
                        refine wpAnyH_take (i := 19) (oi := { dst := some 109, op := Op.load 23 (Operand.tmp 4), type := 23, pos := "outright.go:18", after := #[{ on := 18, ground := Ground.guard }], guard := some (18, false) }) rfl (by kernel_rfl) (by kernel_rfl) (by kernel_rfl) (fun _ _ _ h => h) (load_rc (t := 4) (r := a) rfl rfl rfl (fun _ h => h.blk 0 rfl)) (hX.take 4) ?_
                        try simp only [Act.put, List.setIfInBounds_toArray, List.set_cons_zero, List.set_cons_succ]
                        refine wpAnyH_ready (rs := [20]) (by kernel_rfl) (by simp) ?_
                        refine AllReadyH.cons (o := { dst := some 110, op := Op.call { callee := Callee.value (Operand.func 10), args := #[Operand.tmp 109], argTypes := #[23] }, type := 4, pos := "outright.go:18", after := #[{ on := 19, ground := Ground.data }, { on := 18, ground := Ground.chain }, { on := 18, ground := Ground.guard }], guard := some (18, false) }) rfl ?_ (AllReadyH.nil)
                        · intro K hK
                          go_simp
                          go_at_call 10
                          refine (empty_any a.x a.y a.w a.h _).mono ?_
                          rw [E.out]
                          rintro e v4 ⟨rfl, hb1⟩
                          replace hX := hX.grow hb1
                          clear hb1
                          refine hK.out _ _ (hX.take 4) (fun _ => ?_)
                          clear hK K
                          try simp only [Act.put, List.setIfInBounds_toArray, List.set_cons_zero, List.set_cons_succ]
                          refine wpAnyH_take (i := 21) (oi := { dst := some 111, op := Op.move (Operand.tmp 110), type := 4, pos := "outright.go:18", after := #[{ on := 20, ground := Ground.data }, { on := 20, ground := Ground.chain }, { on := 18, ground := Ground.guard }], guard := some (18, false) }) (v := ?_) rfl (by kernel_rfl) (by kernel_rfl) (by kernel_rfl) (fun _ _ _ h => h) (Or.inl ⟨by rfl, ?_⟩) (hX.take 4) ?_
                          rotate_left
                          · (intro w' hSw; clear hSw; go_simp); with_reducible rfl
                          try simp only [Act.put, List.setIfInBounds_toArray, List.set_cons_zero, List.set_cons_succ]
                          refine wpAnyH_take (i := 22) (oi := { dst := some 112, op := Op.load 23 (Operand.tmp 4), type := 23, pos := "outright.go:18", after := #[{ on := 21, ground := Ground.guard }], guard := some (21, true) }) (v := undef) rfl (by kernel_rfl) (by kernel_rfl) (by kernel_rfl) (fun _ _ _ h => h) (Or.inr ⟨by rfl, rfl⟩) (hX.take 4) ?_
                          try simp only [Act.put, List.setIfInBounds_toArray, List.set_cons_zero, List.set_cons_succ]
                          refine wpAnyH_take (i := 23) (oi := { dst := some 113, op := Op.load 23 (Operand.tmp 5), type := 23, pos := "outright.go:18", after := #[{ on := 21, ground := Ground.guard }], guard := some (21, true) }) (v := undef) rfl (by kernel_rfl) (by kernel_rfl) (by kernel_rfl) (fun _ _ _ h => h) (Or.inr ⟨by rfl, rfl⟩) (hX.take 4) ?_
                          try simp only [Act.put, List.setIfInBounds_toArray, List.set_cons_zero, List.set_cons_succ]
                          refine wpAnyH_take (i := 24) (oi := { dst := some 114, op := Op.call { callee := Callee.value (Operand.func 11), args := #[Operand.tmp 112, Operand.tmp 113], argTypes := #[23, 23] }, type := 4, pos := "outright.go:18", after := #[{ on := 22, ground := Ground.data }, { on := 23, ground := Ground.data }, { on := 21, ground := Ground.chain }, { on := 21, ground := Ground.guard }], guard := some (21, true) }) (v := undef) rfl (by kernel_rfl) (by kernel_rfl) (by kernel_rfl) (fun _ _ _ h => h) (Or.inr ⟨by rfl, rfl⟩) (hX.take 4) ?_
                          try simp only [Act.put, List.setIfInBounds_toArray, List.set_cons_zero, List.set_cons_succ]
                          refine wpAnyH_take (i := 25) (oi := { dst := some 115, op := Op.unOp UnOp.not 4 (Operand.tmp 114), type := 4, pos := "outright.go:18", after := #[{ on := 24, ground := Ground.data }, { on := 21, ground := Ground.guard }], guard := some (21, true) }) (v := undef) rfl (by kernel_rfl) (by kernel_rfl) (by kernel_rfl) (fun _ _ _ h => h) (Or.inr ⟨by rfl, rfl⟩) (hX.take 4) ?_
                          try simp only [Act.put, List.setIfInBounds_toArray, List.set_cons_zero, List.set_cons_succ]
                          refine wpAnyH_take (i := 26) (oi := { dst := some 116, op := Op.pick (Operand.tmp 111) (Operand.tmp 115) (Operand.const (Value.bool false)), type := 4, pos := "outright.go:18", after := #[{ on := 21, ground := Ground.data }, { on := 25, ground := Ground.data }, { on := 18, ground := Ground.guard }], guard := some (18, false) }) (v := ?_) rfl (by kernel_rfl) (by kernel_rfl) (by kernel_rfl) (fun _ _ _ h => h) (Or.inl ⟨by rfl, ?_⟩) (hX.take 4) ?_
                          rotate_left
                          · (intro w' hSw; clear hSw; go_simp); with_reducible rfl
                          try simp only [Act.put, List.setIfInBounds_toArray, List.set_cons_zero, List.set_cons_succ]
                          refine wpAnyH_take (i := 27) (oi := { dst := some 117, op := Op.pick (Operand.tmp 108) (Operand.const (Value.bool true)) (Operand.tmp 116), type := 4, pos := "outright.go:18", after := #[{ on := 18, ground := Ground.data }, { on := 26, ground := Ground.data }], guard := none }) (v := ?_) rfl (by kernel_rfl) (by kernel_rfl) (by kernel_rfl) (fun _ _ _ h => h) (Or.inl ⟨by rfl, ?_⟩) (hX.take 4) ?_
                          rotate_left
                          · (intro w' hSw; clear hSw; go_simp); with_reducible rfl
                          try simp only [Act.put, List.setIfInBounds_toArray, List.set_cons_zero, List.set_cons_succ]
                          refine wpAnyH_done (by kernel_rfl) ?_ _
                          go_wp2_with fail
                          go_meet
                          exact ⟨rfl, hX⟩
                | true =>
                  obtain rfl : q = true := Q.out.symm.trans (in_has hI P.out)
                  have I := Lib.hid hI
                  have E : Hid (emptyB a.x a.y a.w a.h = false) := hE
                  clear hI hE
                  obtain ⟨z, hz0⟩ : ∃ z, areaV a.x a.y a.w a.h = z := ⟨_, rfl⟩
                  have hz := Lib.hid hz0
                  have hz1 : (z == 0) = false := by have := E.out; unfold emptyB at this; rw [hz0] at this; exact this
                  clear hz0
                  refine wp_region_held_drew (S := fun w' => Sep w w' [cell g4 23 a.arr, cell g5 23 b.arr, cell g9 23 (andR a b).arr, cell g10 23 (orR a b).arr]) (by kernel_rfl) hX.drew (fun hHeld => ?_)
                  replace hX := hHeld
                  clear hHeld
                  generalize wc.drew = v0 at hX ⊢
                  refine wpAnyH_take (i := 0) (oi := { dst := some 90, op := Op.load 23 (Operand.tmp 4), type := 23, pos := "outright.go:18", after := #[], guard := none }) rfl (by kernel_rfl) (by kernel_rfl) (by kernel_rfl) (fun _ _ _ h => h) (load_rc (t := 4) (r := a) rfl rfl rfl (fun _ h => h.blk 0 rfl)) (hX.take 4) ?_
                  try simp only [Act.put, List.setIfInBounds_toArray, List.set_cons_zero, List.set_cons_succ]
                  refine wpAnyH_take (i := 1) (oi := { dst := some 91, op := Op.load 23 (Operand.tmp 5), type := 23, pos := "outright.go:18", after := #[], guard := none }) rfl (by kernel_rfl) (by kernel_rfl) (by kernel_rfl) (fun _ _ _ h => h) (load_rc (t := 5) (r := b) rfl rfl rfl (fun _ h => h.blk 1 rfl)) (hX.take 4) ?_
                  try simp only [Act.put, List.setIfInBounds_toArray, List.set_cons_zero, List.set_cons_succ]
                  refine wpAnyH_ready (rs := [2]) (by kernel_rfl) (by simp) ?_
                  refine AllReadyH.cons (o := { dst := some 92, op := Op.call { callee := Callee.value (Operand.func 11), args := #[Operand.tmp 90, Operand.tmp 91], argTypes := #[23, 23] }, type := 4, pos := "outright.go:18", after := #[{ on := 0, ground := Ground.data }, { on := 1, ground := Ground.data }], guard := none }) rfl ?_ (AllReadyH.nil)
                  · intro K hK
                    go_simp
                    go_at_call 11
                    refine (in_any a b _).mono ?_
                    rw [I.out]
                    rintro e v1 ⟨rfl, hb1⟩
                    replace hX := hX.grow hb1
                    clear hb1
                    refine hK.out _ _ (hX.take 4) (fun _ => ?_)
                    clear hK K
                    try simp only [Act.put, List.setIfInBounds_toArray, List.set_cons_zero, List.set_cons_succ]
                    refine wpAnyH_take (i := 3) (oi := { dst := some 93, op := Op.move (Operand.tmp 92), type := 4, pos := "outright.go:18", after := #[{ on := 2, ground := Ground.data }, { on := 2, ground := Ground.chain }], guard := none }) (v := ?_) rfl (by kernel_rfl) (by kernel_rfl) (by kernel_rfl) (fun _ _ _ h => h) (Or.inl ⟨by rfl, ?_⟩) (hX.take 4) ?_
                    rotate_left
                    · (intro w' hSw; clear hSw; go_simp); with_reducible rfl
                    try simp only [Act.put, List.setIfInBounds_toArray, List.set_cons_zero, List.set_cons_succ]
                    refine wpAnyH_take (i := 4) (oi := { dst := some 94, op := Op.move (Operand.tmp 11), type := 4, pos := "outright.go:18", after := #[{ on := 3, ground := Ground.guard }], guard := some (3, true) }) (v := ?_) rfl (by kernel_rfl) (by kernel_rfl) (by kernel_rfl) (fun _ _ _ h => h) (Or.inl ⟨by rfl, ?_⟩) (hX.take 4) ?_
                    rotate_left
                    · (intro w' hSw; clear hSw; go_simp); with_reducible rfl
                    try simp only [Act.put, List.setIfInBounds_toArray, List.set_cons_zero, List.set_cons_succ]
                    refine wpAnyH_take (i := 5) (oi := { dst := some 95, op := Op.pick (Operand.tmp 93) (Operand.tmp 94) (Operand.const (Value.bool false)), type := 4, pos := "outright.go:18", after := #[{ on := 3, ground := Ground.data }, { on := 4, ground := Ground.data }], guard := none }) (v := ?_) rfl (by kernel_rfl) (by kernel_rfl) (by kernel_rfl) (fun _ _ _ h => h) (Or.inl ⟨by rfl, ?_⟩) (hX.take 4) ?_
                    rotate_left
                    · (intro w' hSw; clear hSw; go_simp); with_reducible rfl
                    try simp only [Act.put, List.setIfInBounds_toArray, List.set_cons_zero, List.set_cons_succ]
                    refine wpAnyH_take (i := 6) (oi := { dst := some 96, op := Op.move (Operand.tmp 95), type := 4, pos := "outright.go:18", after := #[{ on := 5, ground := Ground.data }, { on := 3, ground := Ground.chain }], guard := none }) (v := ?_) rfl (by kernel_rfl) (by kernel_rfl) (by kernel_rfl) (fun _ _ _ h => h) (Or.inl ⟨by rfl, ?_⟩) (hX.take 4) ?_
                    rotate_left
                    · (intro w' hSw; clear hSw; go_simp); with_reducible rfl
                    try simp only [Act.put, List.setIfInBounds_toArray, List.set_cons_zero, List.set_cons_succ]
                    refine wpAnyH_take (i := 7) (oi := { dst := some 97, op := Op.move (Operand.tmp 12), type := 4, pos := "outright.go:18", after := #[{ on := 6, ground := Ground.guard }], guard := some (6, true) }) (v := ?_) rfl (by kernel_rfl) (by kernel_rfl) (by kernel_rfl) (fun _ _ _ h => h) (Or.inl ⟨by rfl, ?_⟩) (hX.take 4) ?_
                    rotate_left
                    · (intro w' hSw; clear hSw; go_simp); with_reducible rfl
                    try simp only [Act.put, List.setIfInBounds_toArray, List.set_cons_zero, List.set_cons_succ]
                    refine wpAnyH_take (i := 8) (oi := { dst := some 98, op := Op.unOp UnOp.not 4 (Operand.tmp 97), type := 4, pos := "outright.go:18", after := #[{ on := 7, ground := Ground.data }, { on := 6, ground := Ground.guard }], guard := some (6, true) }) (v := ?_) rfl (by kernel_rfl) (by kernel_rfl) (by kernel_rfl) (fun _ _ _ h => h) (Or.inl ⟨by rfl, ?_⟩) (hX.take 4) ?_
                    rotate_left
                    · (intro w' hSw; clear hSw; go_simp); with_reducible rfl
                    try simp only [Act.put, List.setIfInBounds_toArray, List.set_cons_zero, List.set_cons_succ]
                    refine wpAnyH_take (i := 9) (oi := { dst := some 99, op := Op.pick (Operand.tmp 96) (Operand.tmp 98) (Operand.const (Value.bool false)), type := 4, pos := "outright.go:18", after := #[{ on := 6, ground := Ground.data }, { on := 8, ground := Ground.data }], guard := none }) (v := ?_) rfl (by kernel_rfl) (by kernel_rfl) (by kernel_rfl) (fun _ _ _ h => h) (Or.inl ⟨by rfl, ?_⟩) (hX.take 4) ?_
                    rotate_left
                    · (intro w' hSw; clear hSw; go_simp); with_reducible rfl
                    try simp only [Act.put, List.setIfInBounds_toArray, List.set_cons_zero, List.set_cons_succ]
                    refine wpAnyH_take (i := 10) (oi := { dst := some 100, op := Op.move (Operand.tmp 99), type := 4, pos := "outright.go:18", after := #[{ on := 9, ground := Ground.data }, { on := 6, ground := Ground.chain }], guard := none }) (v := ?_) rfl (by kernel_rfl) (by kernel_rfl) (by kernel_rfl) (fun _ _ _ h => h) (Or.inl ⟨by rfl, ?_⟩) (hX.take 4) ?_
                    rotate_left
                    · (intro w' hSw; clear hSw; go_simp); with_reducible rfl
                    try simp only [Act.put, List.setIfInBounds_toArray, List.set_cons_zero, List.set_cons_succ]
                    refine wpAnyH_take (i := 11) (oi := { dst := some 101, op := Op.load 23 (Operand.tmp 4), type := 23, pos := "outright.go:18", after := #[{ on := 10, ground := Ground.guard }], guard := some (10, false) }) rfl (by kernel_rfl) (by kernel_rfl) (by kernel_rfl) (fun _ _ _ h => h) (load_rc (t := 4) (r := a) rfl rfl rfl (fun _ h => h.blk 0 rfl)) (hX.take 4) ?_
                    try simp only [Act.put, List.setIfInBounds_toArray, List.set_cons_zero, List.set_cons_succ]
                    refine wpAnyH_take (i := 13) (oi := { dst := some 103, op := Op.load 23 (Operand.tmp 4), type := 23, pos := "outright.go:18", after := #[{ on := 10, ground := Ground.guard }], guard := some (10, false) }) rfl (by kernel_rfl) (by kernel_rfl) (by kernel_rfl) (fun _ _ _ h => h) (load_rc (t := 4) (r := a) rfl rfl rfl (fun _ h => h.blk 0 rfl)) (hX.take 4) ?_
                    try simp only [Act.put, List.setIfInBounds_toArray, List.set_cons_zero, List.set_cons_succ]
                    refine wpAnyH_ready (rs := [12]) (by kernel_rfl) (by simp) ?_
                    refine AllReadyH.cons (o := { dst := some 102, op := Op.call { callee := Callee.value (Operand.func 10), args := #[Operand.tmp 101], argTypes := #[23] }, type := 4, pos := "outright.go:18", after := #[{ on := 11, ground := Ground.data }, { on := 10, ground := Ground.chain }, { on := 10, ground := Ground.guard }], guard := some (10, false) }) rfl ?_ (AllReadyH.nil)
                    · intro K hK
                      go_simp
                      go_at_call 10
                      refine (empty_any a.x a.y a.w a.h _).mono ?_
                      rw [E.out]
                      rintro e v2 ⟨rfl, hb1⟩
                      replace hX := hX.grow hb1
                      clear hb1
                      refine hK.out _ _ (hX.take 4) (fun _ => ?_)
                      clear hK K
                      try simp only [Act.put, List.setIfInBounds_toArray, List.set_cons_zero, List.set_cons_succ]
                      refine wpAnyH_ready (rs := [14]) (by kernel_rfl) (by simp) ?_
                      refine AllReadyH.cons (o := { dst := some 104, op := Op.call { callee := Callee.value (Operand.func 12), args := #[Operand.tmp 103], argTypes := #[23] }, type := 3, pos := "outright.go:18", after := #[{ on := 13, ground := Ground.data }, { on := 12, ground := Ground.chain }, { on := 10, ground := Ground.guard }], guard := some (10, false) }) rfl ?_ (AllReadyH.nil)
                      · intro K hK
                        go_simp
                        go_at_call 12
                        refine (area_any a.x a.y a.w a.h _).mono ?_
                        rw [hz.out]
                        rintro e v3 ⟨rfl, hb1⟩
                        replace hX := hX.grow hb1
                        clear hb1
                        refine hK.out _ _ (hX.take 4) (fun _ => ?_)
                        clear hK K
                        try simp only [Act.put, List.setIfInBounds_toArray, List.set_cons_zero, List.set_cons_succ]
                        refine wpAnyH_take (i := 15) (oi := { dst := some 105, op := Op.binOp BinOp.eql 3 (Operand.tmp 104) (Operand.const (Value.int IntKind.i64 0)) 3, type := 4, pos := "outright.go:18", after := #[{ on := 14, ground := Ground.data }, { on := 10, ground := Ground.guard }], guard := some (10, false) }) (v := ?_) rfl (by kernel_rfl) (by kernel_rfl) (by kernel_rfl) (fun _ _ _ h => h) (Or.inl ⟨by rfl, ?_⟩) (hX.take 4) ?_
                        rotate_left
                        · (intro w' hSw; clear hSw; go_simp); with_reducible rfl
                        try simp only [Act.put, List.setIfInBounds_toArray, List.set_cons_zero, List.set_cons_succ]
                        refine wpAnyH_take (i := 16) (oi := { dst := some 106, op := Op.binOp BinOp.neq 4 (Operand.tmp 102) (Operand.tmp 105) 4, type := 4, pos := "outright.go:18", after := #[{ on := 12, ground := Ground.data }, { on := 15, ground := Ground.data }, { on := 10, ground := Ground.guard }], guard := some (10, false) }) (v := ?_) rfl (by kernel_rfl) (by kernel_rfl) (by kernel_rfl) (fun _ _ _ h => h) (Or.inl ⟨by rfl, ?_⟩) (hX.take 4) ?_
                        rotate_left
                        · (intro w' hSw; clear hSw; go_simp); with_reducible rfl
                        try simp only [Act.put, List.setIfInBounds_toArray, List.set_cons_zero, List.set_cons_succ]
                        refine wpAnyH_take (i := 17) (oi := { dst := some 107, op := Op.pick (Operand.tmp 100) (Operand.const (Value.bool true)) (Operand.tmp 106), type := 4, pos := "outright.go:18", after := #[{ on := 10, ground := Ground.data }, { on := 16, ground := Ground.data }], guard := none }) (v := ?_) rfl (by kernel_rfl) (by kernel_rfl) (by kernel_rfl) (fun _ _ _ h => h) (Or.inl ⟨by rfl, ?_⟩) (hX.take 4) ?_
                        rotate_left
                        · (intro w' hSw; clear hSw; go_simp); with_reducible rfl
                        try simp only [Act.put, List.setIfInBounds_toArray, List.set_cons_zero, List.set_cons_succ]
                        refine wpAnyH_take (i := 18) (oi := { dst := some 108, op := Op.move (Operand.tmp 107), type := 4, pos := "outright.go:18", after := #[{ on := 17, ground := Ground.data }, { on := 14, ground := Ground.chain }], guard := none }) (v := ?_) rfl (by kernel_rfl) (by kernel_rfl) (by kernel_rfl) (fun _ _ _ h => h) (Or.inl ⟨by rfl, ?_⟩) (hX.take 4) ?_
                        rotate_left
                        · (intro w' hSw; clear hSw; go_simp); with_reducible rfl
                        try simp only [Act.put, List.setIfInBounds_toArray, List.set_cons_zero, List.set_cons_succ]
                        refine wpAnyH_take (i := 19) (oi := { dst := some 109, op := Op.load 23 (Operand.tmp 4), type := 23, pos := "outright.go:18", after := #[{ on := 18, ground := Ground.guard }], guard := some (18, false) }) rfl (by kernel_rfl) (by kernel_rfl) (by kernel_rfl) (fun _ _ _ h => h) (load_rc (t := 4) (r := a) rfl rfl rfl (fun _ h => h.blk 0 rfl)) (hX.take 4) ?_
                        try simp only [Act.put, List.setIfInBounds_toArray, List.set_cons_zero, List.set_cons_succ]
                        refine wpAnyH_ready (rs := [20]) (by kernel_rfl) (by simp) ?_
                        refine AllReadyH.cons (o := { dst := some 110, op := Op.call { callee := Callee.value (Operand.func 10), args := #[Operand.tmp 109], argTypes := #[23] }, type := 4, pos := "outright.go:18", after := #[{ on := 19, ground := Ground.data }, { on := 18, ground := Ground.chain }, { on := 18, ground := Ground.guard }], guard := some (18, false) }) rfl ?_ (AllReadyH.nil)
                        · intro K hK
                          go_simp
                          go_at_call 10
                          refine (empty_any a.x a.y a.w a.h _).mono ?_
                          rw [E.out]
                          rintro e v4 ⟨rfl, hb1⟩
                          replace hX := hX.grow hb1
                          clear hb1
                          refine hK.out _ _ (hX.take 4) (fun _ => ?_)
                          clear hK K
                          try simp only [Act.put, List.setIfInBounds_toArray, List.set_cons_zero, List.set_cons_succ]
                          refine wpAnyH_take (i := 21) (oi := { dst := some 111, op := Op.move (Operand.tmp 110), type := 4, pos := "outright.go:18", after := #[{ on := 20, ground := Ground.data }, { on := 20, ground := Ground.chain }, { on := 18, ground := Ground.guard }], guard := some (18, false) }) (v := ?_) rfl (by kernel_rfl) (by kernel_rfl) (by kernel_rfl) (fun _ _ _ h => h) (Or.inl ⟨by rfl, ?_⟩) (hX.take 4) ?_
                          rotate_left
                          · (intro w' hSw; clear hSw; go_simp); with_reducible rfl
                          try simp only [Act.put, List.setIfInBounds_toArray, List.set_cons_zero, List.set_cons_succ]
                          refine wpAnyH_take (i := 22) (oi := { dst := some 112, op := Op.load 23 (Operand.tmp 4), type := 23, pos := "outright.go:18", after := #[{ on := 21, ground := Ground.guard }], guard := some (21, true) }) (v := undef) rfl (by kernel_rfl) (by kernel_rfl) (by kernel_rfl) (fun _ _ _ h => h) (Or.inr ⟨by rfl, rfl⟩) (hX.take 4) ?_
                          try simp only [Act.put, List.setIfInBounds_toArray, List.set_cons_zero, List.set_cons_succ]
                          refine wpAnyH_take (i := 23) (oi := { dst := some 113, op := Op.load 23 (Operand.tmp 5), type := 23, pos := "outright.go:18", after := #[{ on := 21, ground := Ground.guard }], guard := some (21, true) }) (v := undef) rfl (by kernel_rfl) (by kernel_rfl) (by kernel_rfl) (fun _ _ _ h => h) (Or.inr ⟨by rfl, rfl⟩) (hX.take 4) ?_
                          try simp only [Act.put, List.setIfInBounds_toArray, List.set_cons_zero, List.set_cons_succ]
                          refine wpAnyH_take (i := 24) (oi := { dst := some 114, op := Op.call { callee := Callee.value (Operand.func 11), args := #[Operand.tmp 112, Operand.tmp 113], argTypes := #[23, 23] }, type := 4, pos := "outright.go:18", after := #[{ on := 22, ground := Ground.data }, { on := 23, ground := Ground.data }, { on := 21, ground := Ground.chain }, { on := 21, ground := Ground.guard }], guard := some (21, true) }) (v := undef) rfl (by kernel_rfl) (by kernel_rfl) (by kernel_rfl) (fun _ _ _ h => h) (Or.inr ⟨by rfl, rfl⟩) (hX.take 4) ?_
                          try simp only [Act.put, List.setIfInBounds_toArray, List.set_cons_zero, List.set_cons_succ]
                          refine wpAnyH_take (i := 25) (oi := { dst := some 115, op := Op.unOp UnOp.not 4 (Operand.tmp 114), type := 4, pos := "outright.go:18", after := #[{ on := 24, ground := Ground.data }, { on := 21, ground := Ground.guard }], guard := some (21, true) }) (v := undef) rfl (by kernel_rfl) (by kernel_rfl) (by kernel_rfl) (fun _ _ _ h => h) (Or.inr ⟨by rfl, rfl⟩) (hX.take 4) ?_
                          try simp only [Act.put, List.setIfInBounds_toArray, List.set_cons_zero, List.set_cons_succ]
                          refine wpAnyH_take (i := 26) (oi := { dst := some 116, op := Op.pick (Operand.tmp 111) (Operand.tmp 115) (Operand.const (Value.bool false)), type := 4, pos := "outright.go:18", after := #[{ on := 21, ground := Ground.data }, { on := 25, ground := Ground.data }, { on := 18, ground := Ground.guard }], guard := some (18, false) }) (v := ?_) rfl (by kernel_rfl) (by kernel_rfl) (by kernel_rfl) (fun _ _ _ h => h) (Or.inl ⟨by rfl, ?_⟩) (hX.take 4) ?_
                          rotate_left
                          · (intro w' hSw; clear hSw; go_simp); with_reducible rfl
                          try simp only [Act.put, List.setIfInBounds_toArray, List.set_cons_zero, List.set_cons_succ]
                          refine wpAnyH_take (i := 27) (oi := { dst := some 117, op := Op.pick (Operand.tmp 108) (Operand.const (Value.bool true)) (Operand.tmp 116), type := 4, pos := "outright.go:18", after := #[{ on := 18, ground := Ground.data }, { on := 26, ground := Ground.data }], guard := none }) (v := ?_) rfl (by kernel_rfl) (by kernel_rfl) (by kernel_rfl) (fun _ _ _ h => h) (Or.inl ⟨by rfl, ?_⟩) (hX.take 4) ?_
                          rotate_left
                          · (intro w' hSw; clear hSw; go_simp); with_reducible rfl
                          try simp only [Act.put, List.setIfInBounds_toArray, List.set_cons_zero, List.set_cons_succ]
                          refine wpAnyH_done (by kernel_rfl) ?_ _
                          go_wp2_with fail
                          go_meet
                          exact ⟨rfl, hX⟩
          case rest =>
            clear hX
            obtain ⟨rfl, hX⟩ := hcut
            go_upto_region 9 with (fail)
            go_cut [166] (fun s166 wx => s166 = .bool false ∧ Sep w wx [cell g4 23 a.arr, cell g5 23 b.arr, cell g9 23 (andR a b).arr, cell g10 23 (orR a b).arr])
            case first => as_aux_lemma =>
              cases hE : emptyB a.x a.y a.w a.h with
              | true =>
                have E := Lib.hid hE
                clear hE
                have ⟨a0, a1, a2, a3⟩ := (hX.blk 0 rfl).four
                have ⟨b0, b1, b2, b3⟩ := (hX.blk 1 rfl).four
                have ⟨c0, c1, c2, c3⟩ := (hX.blk 2 rfl).four
                have ⟨o0, o1, o2, o3⟩ := (hX.blk 3 rfl).four
                go_wp2_with fail
                refine (empty_any a.x a.y a.w a.h _).mono ?_
                rw [E.out]
                rintro e w1 ⟨rfl, hb1⟩
                replace hX := hX.grow hb1
                clear hb1
                clear a0 a1 a2 a3 b0 b1 b2 b3 c0 c1 c2 c3 o0 o1 o2 o3
                have ⟨a0, a1, a2, a3⟩ := (hX.blk 0 rfl).four
                have ⟨b0, b1, b2, b3⟩ := (hX.blk 1 rfl).four
                have ⟨c0, c1, c2, c3⟩ := (hX.blk 2 rfl).four
                have ⟨o0, o1, o2, o3⟩ := (hX.blk 3 rfl).four
                go_wp2_with fail
                clear a0 a1 a2 a3 b0 b1 b2 b3 c0 c1 c2 c3 o0 o1 o2 o3
                go_meet
                exact ⟨rfl, hX⟩
              | false =>
                have fa := full_of hE
                have E := Lib.hid hE
                have k1 : Hid (hasB a.x a.y a.w a.h a.x a.y = true) := Lib.hid (has_first fa)
                have k2 : Hid (hasB a.x a.y a.w a.h (a.x + a.w - 1) (a.y + a.h - 1) = true) := Lib.hid (has_last fa)
                have k3 : Hid (hasB a.x a.y a.w a.h (a.x - 1) a.y = false) := Lib.hid (has_ahead a a.y)
                have k4 : Hid (hasB a.x a.y a.w a.h a.x (a.y + a.h) = false) := Lib.hid (has_below a a.x)
                obtain ⟨⟨a1', a2', a3', a4', a5', a6', a7', a8'⟩, -, -⟩ := fa
                clear hE
                have ⟨a0, a1, a2, a3⟩ := (hX.blk 0 rfl).four
                have ⟨b0, b1, b2, b3⟩ := (hX.blk 1 rfl).four
                have ⟨c0, c1, c2, c3⟩ := (hX.blk 2 rfl).four
                have ⟨o0, o1, o2, o3⟩ := (hX.blk 3 rfl).four
                go_wp2_with fail
                refine (empty_any a.x a.y a.w a.h _).mono ?_
                rw [E.out]
                rintro e w1 ⟨rfl, hb1⟩
                replace hX := hX.grow hb1
                clear hb1
                clear a0 a1 a2 a3 b0 b1 b2 b3 c0 c1 c2 c3 o0 o1 o2 o3
                have ⟨a0, a1, a2, a3⟩ := (hX.blk 0 rfl).four
                have ⟨b0, b1, b2, b3⟩ := (hX.blk 1 rfl).four
                have ⟨c0, c1, c2, c3⟩ := (hX.blk 2 rfl).four
                have ⟨o0, o1, o2, o3⟩ := (hX.blk 3 rfl).four
                go_wp2_with fail
                refine (has_any a.x a.y a.w a.h (a.x) (a.y) _).mono ?_
                rw [k1.out]
                rintro e w1 ⟨rfl, hb1⟩
                replace hX := hX.grow hb1
                clear hb1
                clear a0 a1 a2 a3 b0 b1 b2 b3 c0 c1 c2 c3 o0 o1 o2 o3
                have ⟨a0, a1, a2, a3⟩ := (hX.blk 0 rfl).four
                have ⟨b0, b1, b2, b3⟩ := (hX.blk 1 rfl).four
                have ⟨c0, c1, c2, c3⟩ := (hX.blk 2 rfl).four
                have ⟨o0, o1, o2, o3⟩ := (hX.blk 3 rfl).four
                go_wp2_with fail
                refine (has_any a.x a.y a.w a.h (a.x + a.w - 1) (a.y + a.h - 1) _).mono ?_
                rw [k2.out]
                rintro e w1 ⟨rfl, hb1⟩
                replace hX := hX.grow hb1
                clear hb1
                clear a0 a1 a2 a3 b0 b1 b2 b3 c0 c1 c2 c3 o0 o1 o2 o3
                have ⟨a0, a1, a2, a3⟩ := (hX.blk 0 rfl).four
                have ⟨b0, b1, b2, b3⟩ := (hX.blk 1 rfl).four
                have ⟨c0, c1, c2, c3⟩ := (hX.blk 2 rfl).four
                have ⟨o0, o1, o2, o3⟩ := (hX.blk 3 rfl).four
                go_wp2_with fail
                refine (has_any a.x a.y a.w a.h (a.x - 1) (a.y) _).mono ?_
                rw [k3.out]
                rintro e w1 ⟨rfl, hb1⟩
                replace hX := hX.grow hb1
                clear hb1
                clear a0 a1 a2 a3 b0 b1 b2 b3 c0 c1 c2 c3 o0 o1 o2 o3
                have ⟨a0, a1, a2, a3⟩ := (hX.blk 0 rfl).four
                have ⟨b0, b1, b2, b3⟩ := (hX.blk 1 rfl).four
                have ⟨c0, c1, c2, c3⟩ := (hX.blk 2 rfl).four
                have ⟨o0, o1, o2, o3⟩ := (hX.blk 3 rfl).four
                go_wp2_with fail
                refine (has_any a.x a.y a.w a.h (a.x) (a.y + a.h) _).mono ?_
                rw [k4.out]
                rintro e w1 ⟨rfl, hb1⟩
                replace hX := hX.grow hb1
                clear hb1
                clear a0 a1 a2 a3 b0 b1 b2 b3 c0 c1 c2 c3 o0 o1 o2 o3
                have ⟨a0, a1, a2, a3⟩ := (hX.blk 0 rfl).four
                have ⟨b0, b1, b2, b3⟩ := (hX.blk 1 rfl).four
                have ⟨c0, c1, c2, c3⟩ := (hX.blk 2 rfl).four
                have ⟨o0, o1, o2, o3⟩ := (hX.blk 3 rfl).four
                go_wp2_with fail
                clear a0 a1 a2 a3 b0 b1 b2 b3 c0 c1 c2 c3 o0 o1 o2 o3
                go_meet
                exact ⟨rfl, hX⟩
            case rest =>
              clear hX
              obtain ⟨rfl, hX⟩ := hcut
              have qa : decide ((andR a b).area ≤ a.area) = true := decide_eq_true (and_area a b)
              go_wp2_with fail
              refine wp_region_held_drew (S := fun w' => Sep w w' [cell g4 23 a.arr, cell g5 23 b.arr, cell g9 23 (andR a b).arr, cell g10 23 (orR a b).arr]) (by kernel_rfl) hX.drew (fun hHeld => ?_)
              replace hX := hHeld
              clear hHeld
              generalize wc.drew = v0 at hX ⊢
              refine wpAnyH_take (i := 0) (oi := { dst := some 167, op := Op.load 23 (Operand.tmp 9), type := 23, pos := "outright.go:24", after := #[], guard := none }) rfl (by kernel_rfl) (by kernel_rfl) (by kernel_rfl) (fun _ _ _ h => h) (load_rc (t := 9) (r := andR a b) rfl rfl rfl (fun _ h => h.blk 2 rfl)) (hX.take 4) ?_
              try simp only [Act.put, List.setIfInBounds_toArray, List.set_cons_zero, List.set_cons_succ]
              refine wpAnyH_take (i := 2) (oi := { dst := some 169, op := Op.load 23 (Operand.tmp 4), type := 23, pos := "outright.go:24", after := #[], guard := none }) rfl (by kernel_rfl) (by kernel_rfl) (by kernel_rfl) (fun _ _ _ h => h) (load_rc (t := 4) (r := a) rfl rfl rfl (fun _ h => h.blk 0 rfl)) (hX.take 4) ?_
              try simp only [Act.put, List.setIfInBounds_toArray, List.set_cons_zero, List.set_cons_succ]
              refine wpAnyH_ready (rs := [1]) (by kernel_rfl) (by simp) ?_
              refine AllReadyH.cons (o := { dst := some 168, op := Op.call { callee := Callee.value (Operand.func 12), args := #[Operand.tmp 167], argTypes := #[23] }, type := 3, pos := "outright.go:24", after := #[{ on := 0, ground := Ground.data }], guard := none }) rfl ?_ (AllReadyH.nil)
              · intro K hK
                go_simp
                go_at_call 12
                refine (area_any (andR a b).x (andR a b).y (andR a b).w (andR a b).h _).mono ?_
                rintro e v1 ⟨rfl, hb1⟩
                replace hX := hX.grow hb1
                clear hb1
                refine hK.out _ _ (hX.take 4) (fun _ => ?_)
                clear hK K
                try simp only [Act.put, List.setIfInBounds_toArray, List.set_cons_zero, List.set_cons_succ]
                refine wpAnyH_ready (rs := [3]) (by kernel_rfl) (by simp) ?_
                refine AllReadyH.cons (o := { dst := some 170, op := Op.call { callee := Callee.value (Operand.func 12), args := #[Operand.tmp 169], argTypes := #[23] }, type := 3, pos := "outright.go:24", after := #[{ on := 2, ground := Ground.data }, { on := 1, ground := Ground.chain }], guard := none }) rfl ?_ (AllReadyH.nil)
                · intro K hK
                  go_simp
                  go_at_call 12
                  refine (area_any a.x a.y a.w a.h _).mono ?_
                  rintro e v2 ⟨rfl, hb1⟩
                  replace hX := hX.grow hb1
                  clear hb1
                  refine hK.out _ _ (hX.take 4) (fun _ => ?_)
                  clear hK K
                  try simp only [Act.put, List.setIfInBounds_toArray, List.set_cons_zero, List.set_cons_succ]
                  refine wpAnyH_take (i := 4) (oi := { dst := some 171, op := Op.binOp BinOp.leq 3 (Operand.tmp 168) (Operand.tmp 170) 3, type := 4, pos := "outright.go:24", after := #[{ on := 1, ground := Ground.data }, { on := 3, ground := Ground.data }], guard := none }) (v := ?_) rfl (by kernel_rfl) (by kernel_rfl) (by kernel_rfl) (fun _ _ _ h => h) (Or.inl ⟨by rfl, ?_⟩) (hX.take 4) ?_
                  rotate_left
                  · (intro w' hSw; clear hSw; go_simp); with_reducible rfl
                  try simp only [Act.put, List.setIfInBounds_toArray, List.set_cons_zero, List.set_cons_succ]
                  refine wpAnyH_take (i := 5) (oi := { dst := some 172, op := Op.move (Operand.tmp 171), type := 4, pos := "outright.go:24", after := #[{ on := 4, ground := Ground.data }, { on := 3, ground := Ground.chain }], guard := none }) (v := ?_) rfl (by kernel_rfl) (by kernel_rfl) (by kernel_rfl) (fun _ _ _ h => h) (Or.inl ⟨by rfl, ?_⟩) (hX.take 4) ?_
                  rotate_left
                  · (intro w' hSw; clear hSw; go_simp); with_reducible rfl
                  try simp only [Act.put, List.setIfInBounds_toArray, List.set_cons_zero, List.set_cons_succ]
                  refine wpAnyH_ready (rs := [6]) (by kernel_rfl) (by simp) ?_
                  refine AllReadyH.cons (o := { dst := some 173, op := Op.call { callee := Callee.value (Operand.func 14), args := #[], argTypes := #[] }, type := 4, pos := "outright.go:24", after := #[{ on := 5, ground := Ground.chain }, { on := 5, ground := Ground.guard }], guard := some (5, true) }) rfl ?_ (AllReadyH.nil)
                  · intro K hK
                    go_simp
                    go_at_call 14
                    refine (wakes_any _).mono ?_
                    rintro e v3 ⟨rfl, hb1⟩
                    replace hX := hX.grow hb1
                    clear hb1
                    refine hK.out _ _ (hX.take 4) (fun _ => ?_)
                    clear hK K
                    try simp only [Act.put, List.setIfInBounds_toArray, List.set_cons_zero, List.set_cons_succ]
                    refine wpAnyH_take (i := 7) (oi := { dst := some 174, op := Op.pick (Operand.tmp 172) (Operand.tmp 173) (Operand.const (Value.bool false)), type := 4, pos := "outright.go:24", after := #[{ on := 5, ground := Ground.data }, { on := 6, ground := Ground.data }], guard := none }) (v := ?_) rfl (by kernel_rfl) (by kernel_rfl) (by kernel_rfl) (fun _ _ _ h => h) (Or.inl ⟨by rfl, ?_⟩) (hX.take 4) ?_
                    rotate_left
                    · (intro w' hSw; clear hSw; go_simp); with_reducible rfl
                    try simp only [Act.put, List.setIfInBounds_toArray, List.set_cons_zero, List.set_cons_succ]
                    refine wpAnyH_take (i := 8) (oi := { dst := some 8, op := Op.assign (Operand.tmp 174), type := 4, pos := "outright.go:24", after := #[{ on := 7, ground := Ground.data }, { on := 6, ground := Ground.chain }, { on := 0, ground := Ground.phase }, { on := 1, ground := Ground.phase }, { on := 2, ground := Ground.phase }, { on := 3, ground := Ground.phase }, { on := 4, ground := Ground.phase }, { on := 5, ground := Ground.phase }, { on := 6, ground := Ground.phase }, { on := 7, ground := Ground.phase }], guard := none }) (v := ?_) rfl (by kernel_rfl) (by kernel_rfl) (by kernel_rfl) (fun _ _ _ h => h) (Or.inl ⟨by rfl, ?_⟩) (hX.take 4) ?_
                    rotate_left
                    · (intro w' hSw; clear hSw; go_simp); with_reducible rfl
                    try simp only [Act.put, List.setIfInBounds_toArray, List.set_cons_zero, List.set_cons_succ]
                    refine wpAnyH_done (by kernel_rfl) ?_ _
                    go_wp2_with fail
                    go_ret
                    exact ⟨rfl, H4.out ▸ hX.below⟩
end Go.Proofs.Ytlmnfcocgocjiaa
