/- Take, Lose. -/
import Derived.Test.YtmacmhlimdaemaaNSend
import Derived.Deep.RegionHeld3
namespace Go.Proofs.Ytmacmhlimdaemaa.Net
open Go.RowKit Go.Proofs.YtmacmhlimdaemaaW.PrintWords Go.Proofs.Ytmacmhlimdaemaa.R Go.Proofs.Ytmacmhlimdaemaa.Pkt
section
variable {w0 w w' : World} {L M : List Asn}
theorem _root_.Go.Proofs.Ytmacmhlimdaemaa.ownsX.cut {e : TypeId} {size n cap b : Nat} {xs : List Value} (h : ownsX w e size (.slice (some ⟨b, 0, none⟩) n cap) n xs) {j : Nat} (hj : j ≤ n) : ownsX w e size (.slice (some ⟨b, 0, none⟩) j j) j (xs.take (j * size)) := by
  have hjn : j * size ≤ n * size := Nat.mul_le_mul_right _ hj
  obtain ⟨h1, ⟨h2, _⟩ | ⟨g, c, cur, hv, hg, hnc, hcm, hcs, ht⟩⟩ := h
  · cases h2
  · injection hv with e1 e2 e3
    injection e1 with e1
    injection e1 with e1
    subst e1 e3
    refine ⟨by rw [List.length_take, h1]; omega, .inr ⟨b, j, cur, rfl, hg, Nat.le_refl _, by omega, ?_, ?_⟩⟩
    · exact Nat.le_trans (Nat.mul_le_mul_right _ (by omega)) hcs
    · rw [← ht, List.take_take, Nat.min_eq_left hjn]
theorem _root_.Go.Proofs.Ytmacmhlimdaemaa.Sep.cutX {e : TypeId} {size n cap b : Nat} {xs : List Value} (h : Sep w0 w L) (i : Nat) (hi : L[i]? = some (rowX e size (.slice (some ⟨b, 0, none⟩) n cap) n xs)) (j : Nat) (hj : j ≤ n) :
    Sep w0 w (L.set i (rowX e size (.slice (some ⟨b, 0, none⟩) j j) j (xs.take (j * size)))) := by
  obtain ⟨F, hA, hF, hup⟩ := h.step i hi
  exact hup w _ F (Only.refl F w) ⟨ownsX.cut hA.1 hj, hA.2⟩ fun k hk => .inl hk
theorem _root_.Go.Proofs.Ytmacmhlimdaemaa.ownsX.reads {e : TypeId} {size n cap b : Nat} {xs : List Value} (h : ownsX w e size (.slice (some ⟨b, 0, none⟩) n cap) n xs) : Reads w (b + 1) size (some ⟨b, 0, none⟩) n xs :=
  ⟨h.1, fun _ => ⟨_, rfl, Nat.lt_succ_self _, fun j u hu => by
    have he : (⟨b, 0, none⟩ : Addr).add j = ⟨b, j, none⟩ := by unfold Addr.add; split <;> simp_all
    rw [he]
    exact h.cells rfl j u hu⟩⟩
theorem _root_.Go.Proofs.Ytmacmhlimdaemaa.ownsX.form {e : TypeId} {size n : Nat} {v : Value} {xs : List Value} (h : ownsX w e size v n xs) (hn : 0 < n) : ∃ b c, v = .slice (some ⟨b, 0, none⟩) n c ∧ n ≤ c ∧ c ≤ maxLen := by
  rcases h.2 with ⟨rfl, h0⟩ | ⟨g, cap, cur, rfl, _, h1, h2, _⟩
  · omega
  · exact ⟨g, cap, rfl, h1, h2⟩
theorem es_one {A B : Asn} {es : List Ent} (h : Sep w0 w (A :: B :: (es.map rowE ++ L))) : ∀ u ∈ entC es, u.oneCell' = true := by
  intro u hu
  unfold entC at hu
  obtain ⟨e, he, hu⟩ := List.mem_flatMap.1 hu
  obtain ⟨i, hi, rfl⟩ := List.getElem_of_mem he
  have hr : (A :: B :: (es.map rowE ++ L))[i + 2]? = some (BRow es[i].1 es[i].2.b) := by
    rw [List.getElem?_cons_succ, List.getElem?_cons_succ, List.getElem?_append_left (by simpa using hi), List.getElem?_map, List.getElem?_eq_getElem hi]
    rfl
  obtain ⟨a, c, hv, -, -⟩ := own_slice (h.own (i + 2) hr)
  simp only [Fl.cells, List.mem_cons, List.not_mem_nil, or_false] at hu
  rcases hu with rfl | rfl | rfl
  · rfl
  · rfl
  · rw [hv]; rfl
theorem entC_erase : ∀ (es : List Ent) (j : Nat), j < es.length → (entC es).take (j * 3) ++ (entC es).drop ((j + 1) * 3) = entC (es.eraseIdx j)
  | [], j, h => by simp at h
  | e :: es, 0, _ => by simp [entC, Fl.cells]
  | e :: es, j + 1, h => by
    have ih := entC_erase es j (by simpa using h)
    have hc : entC (e :: es) = e.2.cells e.1 ++ entC es := by simp [entC]
    have h3 : (e.2.cells e.1).length = 3 := rfl
    have hd : entC (e :: es.eraseIdx j) = e.2.cells e.1 ++ entC (es.eraseIdx j) := by simp [entC]
    rw [List.eraseIdx_cons_succ, hc, hd, List.take_append, List.drop_append, h3, List.take_of_length_le (by rw [h3]; omega), List.drop_of_length_le (by rw [h3]; omega), show (j + 1) * 3 - 3 = j * 3 by omega, show (j + 1 + 1) * 3 - 3 = (j + 1) * 3 by omega, List.nil_append, List.append_assoc, ih]
theorem ent_slice {A B : Asn} {es : List Ent} (h : Sep w0 w (A :: B :: (es.map rowE ++ L))) (i : Nat) (hi : i < es.length) : ∃ a n c, es[i].1 = .slice a n c := by
  have hr : (A :: B :: (es.map rowE ++ L))[i + 2]? = some (BRow es[i].1 es[i].2.b) := by
    rw [List.getElem?_cons_succ, List.getElem?_cons_succ, List.getElem?_append_left (by simpa using hi), List.getElem?_map, List.getElem?_eq_getElem hi]
    rfl
  obtain ⟨a, c, hv, -, -⟩ := own_slice (h.own (i + 2) hr)
  exact ⟨a, _, c, hv⟩
/-- Take's inner function -/
theorem take1 (g o p q b m cc j : Nat) (Z : Array Value) (hZ : Z.size = 3) (k : Int) (es : List Ent) (hm : es.length = m) (hj : j < m) (hm2 : m ≤ 1000) (f : Fl) (au : Option Addr) (nu cu : Nat) (he : es[j]? = some (.slice au nu cu, f)) (ho : cc ≠ j + 1)
    (S : Sep w0 w (cell o 48 Z :: cell p 45 #[.pointer (some ⟨g, 0, none⟩)] :: cell q 3 #[.int .i64 (j : Int)] :: cell g 80 #[.slice (some ⟨b, 0, none⟩) m cc, .int .i64 k] :: rowX 48 3 (.slice (some ⟨b, 0, none⟩) m cc) m (entC es) :: (es.map rowE ++ M))) :
    Calls Try.prog 55 #[.pointer (some ⟨b, j * 3, none⟩), .pointer (some ⟨o, 0, none⟩), .pointer (some ⟨p, 0, none⟩), .pointer (some ⟨q, 0, none⟩)] w fun en w' => en = .returned (.int .i64 0) ∧ ∃ v', Sep w0 w' (cell o 48 #[.int .i64 f.c, .bool f.d, .slice au nu cu] :: cell p 45 #[.pointer (some ⟨g, 0, none⟩)] :: cell q 3 #[.int .i64 (j : Int)] :: cell g 80 #[v', .int .i64 k] :: rowX 48 3 v' (m - 1) (entC (es.eraseIdx j)) :: (es.map rowE ++ M)) := by
  have ox := S.ownX 4 rfl
  obtain ⟨_, _, hv, hcap, hcm⟩ := ox.slice
  injection hv with hv1 hv2 hv3
  subst hv3
  clear hv1 hv2
  have hjl : j < es.length := by omega
  have hE : es[j] = (.slice au nu cu, f) := by rw [List.getElem?_eq_getElem hjl] at he; exact Option.some.inj he
  have hg := entC_get es j hjl
  rw [hE] at hg
  have f0 : w.cell? ⟨b, j * 3, none⟩ = some (.int .i64 f.c) := ox.cells rfl _ _ (hg 0 _ rfl)
  have f1 : w.cell? ⟨b, j * 3 + 1, none⟩ = some (.bool f.d) := ox.cells rfl _ _ (hg 1 _ rfl)
  have f2 : w.cell? ⟨b, j * 3 + 2, none⟩ = some (.slice au nu cu) := ox.cells rfl _ _ (hg 2 _ rfl)
  have Hone := Lib.hid (es_one (S.drop 0 |>.drop 0 |>.drop 0))
  obtain ⟨W1, hW1⟩ : ∃ W1, w.setRow o #[.int .i64 f.c, .bool f.d, .slice au nu cu] = W1 := ⟨_, rfl⟩
  have S1 := S.setRow 0 rfl #[.int .i64 f.c, .bool f.d, .slice au nu cu]
  rw [hW1] at S1
  have HB := Lib.hid (S.blk 0 rfl)
  have p0 := (S1.blk 1 rfl).at_ 0 rfl
  have q0 := (S1.blk 2 rfl).at_ 0 rfl
  have g0 := (S1.blk 3 rfl).at_ 0 rfl
  have HS1 := Lib.hid S1
  have HZ := Lib.hid hZ
  have i0 : (0 : Int) ≤ (j : Int) := by omega
  have i1 : (j : Int) ≤ (cc : Int) := by omega
  have i2 : IntKind.i64.wrap ((j : Int) + 1) = (j : Int) + 1 := IntWalk.i64_in _ (by omega)
  have i3 : (j : Int) + 1 ≤ (m : Int) := by omega
  have i4 : (m : Int) ≤ (cc : Int) := by omega
  have i5 : (j : Int) ≤ (m : Int) := by omega
  have i6 : (0 : Int) ≤ (j : Int) + 1 := by omega
  have i7 : ((j : Int) + 1).toNat = j + 1 := by omega
  have i8 : (j : Int) + 1 ≤ (cc : Int) := by omega
  have i9 : ¬ (cc = j + 1) := ho
  clear S S1 ox hE hg hjl
  go_enter Try.func55, Try.ntmps55
  go_upto_region 2 with (
    refine wpList_store_row rfl 48 (.tmp 1) (.tmp 8) rfl o #[.int .i64 f.c, .bool f.d, .slice au nu cu] rfl rfl 48 _ HB.out size48 HZ.out (fl_one _ _ _ _ _) ?_
    rw [hW1])
  have OX := Lib.hid ((HS1.out.cutX 4 rfl j (by omega)).ownX 4 rfl)
  have RX : Hid (Reads W1 (b + 1) 3 (some ⟨b, (j + 1) * 3, none⟩) (m - (j + 1)) ((entC es).drop ((j + 1) * 3))) := Lib.hid (by
    have h := (HS1.out.ownX 4 rfl).reads.cut (k := j + 1) (by omega) hcap
    have he : (⟨b, 0, none⟩ : Addr).add ((j + 1) * 3) = ⟨b, (j + 1) * 3, none⟩ := by unfold Addr.add; split <;> simp_all
    rw [if_neg ho, Option.map_some, he] at h
    exact h)
  have HO : Hid (∀ u ∈ (entC es).drop ((j + 1) * 3), u.oneCell' = true) := Lib.hid fun u hu => Hone.out u (List.mem_of_mem_drop hu)
  have Hm1 : Hid (j + (m - (j + 1)) ≤ maxLen) := Lib.hid (by unfold maxLen; omega)
  have Hm2 : Hid ((j + (m - (j + 1))) * 40 ≤ 140737488355328) := Lib.hid (by omega)
  obtain ⟨i48, hi48, hz0, hz1, hz2⟩ := info_parts info48
  have Hi := Lib.hid hi48
  have Hz0 := Lib.hid hz0
  have Hz1 := Lib.hid hz1
  have Hz2 := Lib.hid hz2
  have Hcm := Lib.hid hcm
  have HSc := Lib.hid (HS1.out.cutX 4 rfl j (by omega)).drew
  have He := Lib.hid (entC_erase es j (by omega))
  clear hi48 hz0 hz1 hz2 hcm hcap f0 f1 f2
  have HN : Hid (j + (m - (j + 1)) = m - 1) := Lib.hid (by omega)
  refine wp_region_held_drew (S := fun w' => w'.cell? ⟨p, 0, none⟩ = some (.pointer (some ⟨g, 0, none⟩)) ∧ w'.cell? ⟨q, 0, none⟩ = some (.int .i64 (j : Int))) (by kernel_rfl) ⟨p0, q0⟩ (fun hHeld => ?_)
  refine wpAnyH_take (i := 0) (oi := { dst := some 9, op := Op.load 45 (Operand.tmp 2), type := 45, pos := "net.go:54", after := #[], guard := none }) (v := ?_) rfl (by kernel_rfl) (by kernel_rfl) (by kernel_rfl) (fun _ _ _ h => h) (Or.inl ⟨by rfl, ?_⟩) hHeld ?_
  rotate_left
  · intro w' hSw
    obtain ⟨hs1, hs2⟩ := hSw
    go_simp
    with_reducible rfl
  try simp only [Act.put, List.setIfInBounds_toArray, List.set_cons_zero, List.set_cons_succ]
  refine wpAnyH_take (i := 1) (oi := { dst := some 10, op := Op.load 45 (Operand.tmp 2), type := 45, pos := "net.go:54", after := #[], guard := none }) (v := ?_) rfl (by kernel_rfl) (by kernel_rfl) (by kernel_rfl) (fun _ _ _ h => h) (Or.inl ⟨by rfl, ?_⟩) hHeld ?_
  rotate_left
  · intro w' hSw
    obtain ⟨hs1, hs2⟩ := hSw
    go_simp
    with_reducible rfl
  try simp only [Act.put, List.setIfInBounds_toArray, List.set_cons_zero, List.set_cons_succ]
  refine wpAnyH_take (i := 2) (oi := { dst := some 11, op := Op.nilCheck (Operand.tmp 10), type := 0, pos := "net.go:54", after := #[{ on := 1, ground := Ground.data }], guard := none }) (v := ?_) rfl (by kernel_rfl) (by kernel_rfl) (by kernel_rfl) (fun _ _ _ h => h) (Or.inl ⟨by rfl, ?_⟩) hHeld ?_
  rotate_left
  · intro w' hSw
    obtain ⟨hs1, hs2⟩ := hSw
    go_simp
    with_reducible rfl
  try simp only [Act.put, List.setIfInBounds_toArray, List.set_cons_zero, List.set_cons_succ]
  refine wpAnyH_take (i := 3) (oi := { dst := some 12, op := Op.fieldAddr 80 (Operand.tmp 11) 0, type := 0, pos := "net.go:54", after := #[{ on := 2, ground := Ground.data }], guard := none }) (v := ?_) rfl (by kernel_rfl) (by kernel_rfl) (by kernel_rfl) (fun _ _ _ h => h) (Or.inl ⟨by rfl, ?_⟩) hHeld ?_
  rotate_left
  · intro w' hSw
    obtain ⟨hs1, hs2⟩ := hSw
    go_simp
    with_reducible rfl
  try simp only [Act.put, List.setIfInBounds_toArray, List.set_cons_zero, List.set_cons_succ]
  refine wpAnyH_take (i := 5) (oi := { dst := some 14, op := Op.load 3 (Operand.tmp 3), type := 3, pos := "net.go:54", after := #[], guard := none }) (v := ?_) rfl (by kernel_rfl) (by kernel_rfl) (by kernel_rfl) (fun _ _ _ h => h) (Or.inl ⟨by rfl, ?_⟩) hHeld ?_
  rotate_left
  · intro w' hSw
    obtain ⟨hs1, hs2⟩ := hSw
    go_simp
    with_reducible rfl
  try simp only [Act.put, List.setIfInBounds_toArray, List.set_cons_zero, List.set_cons_succ]
  refine wpAnyH_take (i := 6) (oi := { dst := some 15, op := Op.load 3 (Operand.tmp 3), type := 3, pos := "net.go:54", after := #[], guard := none }) (v := ?_) rfl (by kernel_rfl) (by kernel_rfl) (by kernel_rfl) (fun _ _ _ h => h) (Or.inl ⟨by rfl, ?_⟩) hHeld ?_
  rotate_left
  · intro w' hSw
    obtain ⟨hs1, hs2⟩ := hSw
    go_simp
    with_reducible rfl
  try simp only [Act.put, List.setIfInBounds_toArray, List.set_cons_zero, List.set_cons_succ]
  refine wpAnyH_take (i := 8) (oi := { dst := some 17, op := Op.load 45 (Operand.tmp 2), type := 45, pos := "net.go:54", after := #[], guard := none }) (v := ?_) rfl (by kernel_rfl) (by kernel_rfl) (by kernel_rfl) (fun _ _ _ h => h) (Or.inl ⟨by rfl, ?_⟩) hHeld ?_
  rotate_left
  · intro w' hSw
    obtain ⟨hs1, hs2⟩ := hSw
    go_simp
    with_reducible rfl
  try simp only [Act.put, List.setIfInBounds_toArray, List.set_cons_zero, List.set_cons_succ]
  refine wpAnyH_take (i := 9) (oi := { dst := some 18, op := Op.nilCheck (Operand.tmp 17), type := 0, pos := "net.go:54", after := #[{ on := 8, ground := Ground.data }], guard := none }) (v := ?_) rfl (by kernel_rfl) (by kernel_rfl) (by kernel_rfl) (fun _ _ _ h => h) (Or.inl ⟨by rfl, ?_⟩) hHeld ?_
  rotate_left
  · intro w' hSw
    obtain ⟨hs1, hs2⟩ := hSw
    go_simp
    with_reducible rfl
  try simp only [Act.put, List.setIfInBounds_toArray, List.set_cons_zero, List.set_cons_succ]
  refine wpAnyH_take (i := 10) (oi := { dst := some 19, op := Op.fieldAddr 80 (Operand.tmp 18) 0, type := 0, pos := "net.go:54", after := #[{ on := 9, ground := Ground.data }], guard := none }) (v := ?_) rfl (by kernel_rfl) (by kernel_rfl) (by kernel_rfl) (fun _ _ _ h => h) (Or.inl ⟨by rfl, ?_⟩) hHeld ?_
  rotate_left
  · intro w' hSw
    obtain ⟨hs1, hs2⟩ := hSw
    go_simp
    with_reducible rfl
  try simp only [Act.put, List.setIfInBounds_toArray, List.set_cons_zero, List.set_cons_succ]
  refine wpAnyH_take (i := 12) (oi := { dst := some 21, op := Op.load 3 (Operand.tmp 3), type := 3, pos := "net.go:54", after := #[], guard := none }) (v := ?_) rfl (by kernel_rfl) (by kernel_rfl) (by kernel_rfl) (fun _ _ _ h => h) (Or.inl ⟨by rfl, ?_⟩) hHeld ?_
  rotate_left
  · intro w' hSw
    obtain ⟨hs1, hs2⟩ := hSw
    go_simp
    with_reducible rfl
  try simp only [Act.put, List.setIfInBounds_toArray, List.set_cons_zero, List.set_cons_succ]
  refine wpAnyH_take (i := 13) (oi := { dst := some 22, op := Op.binOp BinOp.add 3 (Operand.tmp 21) (Operand.const (Value.int IntKind.i64 1)) 3, type := 3, pos := "net.go:54", after := #[{ on := 12, ground := Ground.data }], guard := none }) (v := ?_) rfl (by kernel_rfl) (by kernel_rfl) (by kernel_rfl) (fun _ _ _ h => h) (Or.inl ⟨by rfl, ?_⟩) hHeld ?_
  rotate_left
  · intro w' hSw
    obtain ⟨hs1, hs2⟩ := hSw
    go_simp
    with_reducible rfl
  try simp only [Act.put, List.setIfInBounds_toArray, List.set_cons_zero, List.set_cons_succ]
  refine wpAnyH_ready (rs := [4, 11]) (by kernel_rfl) (by simp) ?_
  refine AllReadyH.cons (o := { dst := some 13, op := Op.load 55 (Operand.tmp 12), type := 55, pos := "net.go:54", after := #[{ on := 3, ground := Ground.data }], guard := none }) rfl ?_ (AllReadyH.cons (o := { dst := some 20, op := Op.load 55 (Operand.tmp 19), type := 55, pos := "net.go:54", after := #[{ on := 10, ground := Ground.data }], guard := none }) rfl ?_ (AllReadyH.nil))
  · intro K hK
    go_simp
    refine hK.out _ _ ⟨p0, q0⟩ (fun hHeld => ?_)
    clear hK K
    try simp only [Act.put, List.setIfInBounds_toArray, List.set_cons_zero, List.set_cons_succ]
    refine wpAnyH_take (i := 7) (oi := { dst := some 16, op := Op.slice 55 (Operand.tmp 13) none (some (Operand.tmp 14)) (some (Operand.tmp 15)), type := 55, pos := "net.go:54", after := #[{ on := 4, ground := Ground.data }, { on := 5, ground := Ground.data }, { on := 6, ground := Ground.data }], guard := none }) (v := ?_) rfl (by kernel_rfl) (by kernel_rfl) (by kernel_rfl) (fun _ _ _ h => h) (Or.inl ⟨by rfl, ?_⟩) hHeld ?_
    rotate_left
    · intro w' hSw
      obtain ⟨hs1, hs2⟩ := hSw
      go_simp
      with_reducible rfl
    try simp only [Act.put, List.setIfInBounds_toArray, List.set_cons_zero, List.set_cons_succ]
    refine wpAnyH_ready (rs := [11]) (by kernel_rfl) (by simp) ?_
    refine AllReadyH.cons (o := { dst := some 20, op := Op.load 55 (Operand.tmp 19), type := 55, pos := "net.go:54", after := #[{ on := 10, ground := Ground.data }], guard := none }) rfl ?_ (AllReadyH.nil)
    · intro K hK
      go_simp
      refine hK.out _ _ ⟨p0, q0⟩ (fun hHeld => ?_)
      clear hK K
      try simp only [Act.put, List.setIfInBounds_toArray, List.set_cons_zero, List.set_cons_succ]
      refine wpAnyH_take (i := 14) (oi := { dst := some 23, op := Op.slice 55 (Operand.tmp 20) (some (Operand.tmp 22)) none none, type := 55, pos := "net.go:54", after := #[{ on := 11, ground := Ground.data }, { on := 13, ground := Ground.data }], guard := none }) (v := ?_) rfl (by kernel_rfl) (by kernel_rfl) (by kernel_rfl) (fun _ _ _ h => h) (Or.inl ⟨by rfl, ?_⟩) hHeld ?_
      rotate_left
      · intro w' hSw
        obtain ⟨hs1, hs2⟩ := hSw
        go_simp
        with_reducible rfl
      try simp only [Act.put, List.setIfInBounds_toArray, List.set_cons_zero, List.set_cons_succ]
      refine wpAnyH_ready (rs := [15]) (by kernel_rfl) (by simp) ?_
      refine AllReadyH.cons (o := { dst := some 24, op := Op.call { callee := Callee.builtin Builtin.append, args := #[Operand.tmp 16, Operand.tmp 23], argTypes := #[55, 55] }, type := 55, pos := "net.go:54", after := #[{ on := 7, ground := Ground.data }, { on := 14, ground := Ground.data }], guard := none }) rfl ?_ (AllReadyH.nil)
      · intro K hK
        refine step_append_x (P := Try.prog) rfl (.tmp 16) (.tmp 23) 55 rfl 48 i48 _ 3 40 Try.underlying55 Hi.out Hz0.out Hz1.out Hz2.out rfl (Nat.succ_pos 2) (.slice (some ⟨b, 0, none⟩) j j) j ((entC es).take (j * 3)) rfl OX.out (b + 1) _ (m - (j + 1)) (cc - (j + 1)) ((entC es).drop ((j + 1) * 3)) rfl RX.out HO.out Hm1.out Hm2.out ?_
        intro v5 w5 hown5 hg5 hat5
        obtain ⟨a5, c5, rfl, -, -⟩ := hown5.slice
        have S5 := HSc.out.pushedX 4 rfl hown5 hg5 hat5
        have S6 := S5.put 3 rfl 0 (.slice a5 (j + (m - (j + 1))) c5)
        have f0 := (S5.blk 3 rfl).at_ 0 rfl
        have z0 := (S5.blk 3 rfl).frozen 0
        have p5 : w5.cell? ⟨p, 0, none⟩ = some (.pointer (some ⟨g, 0, none⟩)) := (S5.blk 1 rfl).at_ 0 rfl
        have q5 : w5.cell? ⟨q, 0, none⟩ = some (.int .i64 (j : Int)) := (S5.blk 2 rfl).at_ 0 rfl
        have p6 : (w5.setCell ⟨g, 0, none⟩ (.slice a5 (j + (m - (j + 1))) c5)).cell? ⟨p, 0, none⟩ = some (.pointer (some ⟨g, 0, none⟩)) := (S6.blk 1 rfl).at_ 0 rfl
        have q6 : (w5.setCell ⟨g, 0, none⟩ (.slice a5 (j + (m - (j + 1))) c5)).cell? ⟨q, 0, none⟩ = some (.int .i64 (j : Int)) := (S6.blk 2 rfl).at_ 0 rfl
        clear hown5 hg5 hat5
        refine hK.out _ _ ⟨p5, q5⟩ (fun hHeld => ?_)
        clear hK K
        try simp only [Act.put, List.setIfInBounds_toArray, List.set_cons_zero, List.set_cons_succ]
        refine wpAnyH_take (i := 16) (oi := { dst := some 25, op := Op.nilCheck (Operand.tmp 9), type := 0, pos := "net.go:54", after := #[{ on := 0, ground := Ground.data }, { on := 0, ground := Ground.phase }, { on := 1, ground := Ground.phase }, { on := 2, ground := Ground.phase }, { on := 3, ground := Ground.phase }, { on := 4, ground := Ground.phase }, { on := 5, ground := Ground.phase }, { on := 6, ground := Ground.phase }, { on := 7, ground := Ground.phase }, { on := 8, ground := Ground.phase }, { on := 9, ground := Ground.phase }, { on := 10, ground := Ground.phase }, { on := 11, ground := Ground.phase }, { on := 12, ground := Ground.phase }, { on := 13, ground := Ground.phase }, { on := 14, ground := Ground.phase }, { on := 15, ground := Ground.phase }], guard := none }) (v := ?_) rfl (by kernel_rfl) (by kernel_rfl) (by kernel_rfl) (fun _ _ _ h => h) (Or.inl ⟨by rfl, ?_⟩) hHeld ?_
        rotate_left
        · intro w' hSw
          obtain ⟨hs1, hs2⟩ := hSw
          go_simp
          with_reducible rfl
        try simp only [Act.put, List.setIfInBounds_toArray, List.set_cons_zero, List.set_cons_succ]
        refine wpAnyH_take (i := 17) (oi := { dst := some 26, op := Op.fieldAddr 80 (Operand.tmp 25) 0, type := 0, pos := "net.go:54", after := #[{ on := 16, ground := Ground.data }, { on := 0, ground := Ground.phase }, { on := 1, ground := Ground.phase }, { on := 2, ground := Ground.phase }, { on := 3, ground := Ground.phase }, { on := 4, ground := Ground.phase }, { on := 5, ground := Ground.phase }, { on := 6, ground := Ground.phase }, { on := 7, ground := Ground.phase }, { on := 8, ground := Ground.phase }, { on := 9, ground := Ground.phase }, { on := 10, ground := Ground.phase }, { on := 11, ground := Ground.phase }, { on := 12, ground := Ground.phase }, { on := 13, ground := Ground.phase }, { on := 14, ground := Ground.phase }, { on := 15, ground := Ground.phase }], guard := none }) (v := ?_) rfl (by kernel_rfl) (by kernel_rfl) (by kernel_rfl) (fun _ _ _ h => h) (Or.inl ⟨by rfl, ?_⟩) hHeld ?_
        rotate_left
        · intro w' hSw
          obtain ⟨hs1, hs2⟩ := hSw
          go_simp
          with_reducible rfl
        try simp only [Act.put, List.setIfInBounds_toArray, List.set_cons_zero, List.set_cons_succ]
        refine wpAnyH_ready (rs := [18]) (by kernel_rfl) (by simp) ?_
        refine AllReadyH.cons (o := { dst := none, op := Op.store 55 (Operand.tmp 26) (Operand.tmp 24), type := 0, pos := "net.go:54", after := #[{ on := 17, ground := Ground.data }, { on := 15, ground := Ground.data }, { on := 15, ground := Ground.chain }, { on := 0, ground := Ground.phase }, { on := 1, ground := Ground.phase }, { on := 2, ground := Ground.phase }, { on := 3, ground := Ground.phase }, { on := 4, ground := Ground.phase }, { on := 5, ground := Ground.phase }, { on := 6, ground := Ground.phase }, { on := 7, ground := Ground.phase }, { on := 8, ground := Ground.phase }, { on := 9, ground := Ground.phase }, { on := 10, ground := Ground.phase }, { on := 11, ground := Ground.phase }, { on := 12, ground := Ground.phase }, { on := 13, ground := Ground.phase }, { on := 14, ground := Ground.phase }, { on := 15, ground := Ground.phase }], guard := none }) rfl ?_ (AllReadyH.nil)
        · intro K hK
          go_simp
          refine hK.out _ _ ⟨p6, q6⟩ (fun hHeld => ?_)
          clear hK K
          try simp only [Act.put, List.setIfInBounds_toArray, List.set_cons_zero, List.set_cons_succ]
          refine wpAnyH_done (by kernel_rfl) ?_ _
          clear S5 f0 z0 p5 q5 p6 q6 p0 q0 g0
          generalize w5.setCell ⟨g, 0, none⟩ (.slice a5 (j + (m - (j + 1))) c5) = w6 at S6 ⊢
          go_wp2_with fail
          go_ret
          refine ⟨rfl, .slice a5 (j + (m - (j + 1))) c5, ?_⟩
          rw [← He.out, ← HN.out]
          exact S6
  · intro K hK
    go_simp
    refine hK.out _ _ ⟨p0, q0⟩ (fun hHeld => ?_)
    clear hK K
    try simp only [Act.put, List.setIfInBounds_toArray, List.set_cons_zero, List.set_cons_succ]
    refine wpAnyH_take (i := 14) (oi := { dst := some 23, op := Op.slice 55 (Operand.tmp 20) (some (Operand.tmp 22)) none none, type := 55, pos := "net.go:54", after := #[{ on := 11, ground := Ground.data }, { on := 13, ground := Ground.data }], guard := none }) (v := ?_) rfl (by kernel_rfl) (by kernel_rfl) (by kernel_rfl) (fun _ _ _ h => h) (Or.inl ⟨by rfl, ?_⟩) hHeld ?_
    rotate_left
    · intro w' hSw
      obtain ⟨hs1, hs2⟩ := hSw
      go_simp
      with_reducible rfl
    try simp only [Act.put, List.setIfInBounds_toArray, List.set_cons_zero, List.set_cons_succ]
    refine wpAnyH_ready (rs := [4]) (by kernel_rfl) (by simp) ?_
    refine AllReadyH.cons (o := { dst := some 13, op := Op.load 55 (Operand.tmp 12), type := 55, pos := "net.go:54", after := #[{ on := 3, ground := Ground.data }], guard := none }) rfl ?_ (AllReadyH.nil)
    · intro K hK
      go_simp
      refine hK.out _ _ ⟨p0, q0⟩ (fun hHeld => ?_)
      clear hK K
      try simp only [Act.put, List.setIfInBounds_toArray, List.set_cons_zero, List.set_cons_succ]
      refine wpAnyH_take (i := 7) (oi := { dst := some 16, op := Op.slice 55 (Operand.tmp 13) none (some (Operand.tmp 14)) (some (Operand.tmp 15)), type := 55, pos := "net.go:54", after := #[{ on := 4, ground := Ground.data }, { on := 5, ground := Ground.data }, { on := 6, ground := Ground.data }], guard := none }) (v := ?_) rfl (by kernel_rfl) (by kernel_rfl) (by kernel_rfl) (fun _ _ _ h => h) (Or.inl ⟨by rfl, ?_⟩) hHeld ?_
      rotate_left
      · intro w' hSw
        obtain ⟨hs1, hs2⟩ := hSw
        go_simp
        with_reducible rfl
      try simp only [Act.put, List.setIfInBounds_toArray, List.set_cons_zero, List.set_cons_succ]
      refine wpAnyH_ready (rs := [15]) (by kernel_rfl) (by simp) ?_
      refine AllReadyH.cons (o := { dst := some 24, op := Op.call { callee := Callee.builtin Builtin.append, args := #[Operand.tmp 16, Operand.tmp 23], argTypes := #[55, 55] }, type := 55, pos := "net.go:54", after := #[{ on := 7, ground := Ground.data }, { on := 14, ground := Ground.data }], guard := none }) rfl ?_ (AllReadyH.nil)
      · intro K hK
        refine step_append_x (P := Try.prog) rfl (.tmp 16) (.tmp 23) 55 rfl 48 i48 _ 3 40 Try.underlying55 Hi.out Hz0.out Hz1.out Hz2.out rfl (Nat.succ_pos 2) (.slice (some ⟨b, 0, none⟩) j j) j ((entC es).take (j * 3)) rfl OX.out (b + 1) _ (m - (j + 1)) (cc - (j + 1)) ((entC es).drop ((j + 1) * 3)) rfl RX.out HO.out Hm1.out Hm2.out ?_
        intro v5 w5 hown5 hg5 hat5
        obtain ⟨a5, c5, rfl, -, -⟩ := hown5.slice
        have S5 := HSc.out.pushedX 4 rfl hown5 hg5 hat5
        have S6 := S5.put 3 rfl 0 (.slice a5 (j + (m - (j + 1))) c5)
        have f0 := (S5.blk 3 rfl).at_ 0 rfl
        have z0 := (S5.blk 3 rfl).frozen 0
        have p5 : w5.cell? ⟨p, 0, none⟩ = some (.pointer (some ⟨g, 0, none⟩)) := (S5.blk 1 rfl).at_ 0 rfl
        have q5 : w5.cell? ⟨q, 0, none⟩ = some (.int .i64 (j : Int)) := (S5.blk 2 rfl).at_ 0 rfl
        have p6 : (w5.setCell ⟨g, 0, none⟩ (.slice a5 (j + (m - (j + 1))) c5)).cell? ⟨p, 0, none⟩ = some (.pointer (some ⟨g, 0, none⟩)) := (S6.blk 1 rfl).at_ 0 rfl
        have q6 : (w5.setCell ⟨g, 0, none⟩ (.slice a5 (j + (m - (j + 1))) c5)).cell? ⟨q, 0, none⟩ = some (.int .i64 (j : Int)) := (S6.blk 2 rfl).at_ 0 rfl
        clear hown5 hg5 hat5
        refine hK.out _ _ ⟨p5, q5⟩ (fun hHeld => ?_)
        clear hK K
        try simp only [Act.put, List.setIfInBounds_toArray, List.set_cons_zero, List.set_cons_succ]
        refine wpAnyH_take (i := 16) (oi := { dst := some 25, op := Op.nilCheck (Operand.tmp 9), type := 0, pos := "net.go:54", after := #[{ on := 0, ground := Ground.data }, { on := 0, ground := Ground.phase }, { on := 1, ground := Ground.phase }, { on := 2, ground := Ground.phase }, { on := 3, ground := Ground.phase }, { on := 4, ground := Ground.phase }, { on := 5, ground := Ground.phase }, { on := 6, ground := Ground.phase }, { on := 7, ground := Ground.phase }, { on := 8, ground := Ground.phase }, { on := 9, ground := Ground.phase }, { on := 10, ground := Ground.phase }, { on := 11, ground := Ground.phase }, { on := 12, ground := Ground.phase }, { on := 13, ground := Ground.phase }, { on := 14, ground := Ground.phase }, { on := 15, ground := Ground.phase }], guard := none }) (v := ?_) rfl (by kernel_rfl) (by kernel_rfl) (by kernel_rfl) (fun _ _ _ h => h) (Or.inl ⟨by rfl, ?_⟩) hHeld ?_
        rotate_left
        · intro w' hSw
          obtain ⟨hs1, hs2⟩ := hSw
          go_simp
          with_reducible rfl
        try simp only [Act.put, List.setIfInBounds_toArray, List.set_cons_zero, List.set_cons_succ]
        refine wpAnyH_take (i := 17) (oi := { dst := some 26, op := Op.fieldAddr 80 (Operand.tmp 25) 0, type := 0, pos := "net.go:54", after := #[{ on := 16, ground := Ground.data }, { on := 0, ground := Ground.phase }, { on := 1, ground := Ground.phase }, { on := 2, ground := Ground.phase }, { on := 3, ground := Ground.phase }, { on := 4, ground := Ground.phase }, { on := 5, ground := Ground.phase }, { on := 6, ground := Ground.phase }, { on := 7, ground := Ground.phase }, { on := 8, ground := Ground.phase }, { on := 9, ground := Ground.phase }, { on := 10, ground := Ground.phase }, { on := 11, ground := Ground.phase }, { on := 12, ground := Ground.phase }, { on := 13, ground := Ground.phase }, { on := 14, ground := Ground.phase }, { on := 15, ground := Ground.phase }], guard := none }) (v := ?_) rfl (by kernel_rfl) (by kernel_rfl) (by kernel_rfl) (fun _ _ _ h => h) (Or.inl ⟨by rfl, ?_⟩) hHeld ?_
        rotate_left
        · intro w' hSw
          obtain ⟨hs1, hs2⟩ := hSw
          go_simp
          with_reducible rfl
        try simp only [Act.put, List.setIfInBounds_toArray, List.set_cons_zero, List.set_cons_succ]
        refine wpAnyH_ready (rs := [18]) (by kernel_rfl) (by simp) ?_
        refine AllReadyH.cons (o := { dst := none, op := Op.store 55 (Operand.tmp 26) (Operand.tmp 24), type := 0, pos := "net.go:54", after := #[{ on := 17, ground := Ground.data }, { on := 15, ground := Ground.data }, { on := 15, ground := Ground.chain }, { on := 0, ground := Ground.phase }, { on := 1, ground := Ground.phase }, { on := 2, ground := Ground.phase }, { on := 3, ground := Ground.phase }, { on := 4, ground := Ground.phase }, { on := 5, ground := Ground.phase }, { on := 6, ground := Ground.phase }, { on := 7, ground := Ground.phase }, { on := 8, ground := Ground.phase }, { on := 9, ground := Ground.phase }, { on := 10, ground := Ground.phase }, { on := 11, ground := Ground.phase }, { on := 12, ground := Ground.phase }, { on := 13, ground := Ground.phase }, { on := 14, ground := Ground.phase }, { on := 15, ground := Ground.phase }], guard := none }) rfl ?_ (AllReadyH.nil)
        · intro K hK
          go_simp
          refine hK.out _ _ ⟨p6, q6⟩ (fun hHeld => ?_)
          clear hK K
          try simp only [Act.put, List.setIfInBounds_toArray, List.set_cons_zero, List.set_cons_succ]
          refine wpAnyH_done (by kernel_rfl) ?_ _
          clear S5 f0 z0 p5 q5 p6 q6 p0 q0 g0
          generalize w5.setCell ⟨g, 0, none⟩ (.slice a5 (j + (m - (j + 1))) c5) = w6 at S6 ⊢
          go_wp2_with fail
          go_ret
          refine ⟨rfl, .slice a5 (j + (m - (j + 1))) c5, ?_⟩
          rw [← He.out, ← HN.out]
          exact S6
/-- Take's inner function, the last one where the row has no room -/
theorem take1e (g o p q b j : Nat) (Z : Array Value) (hZ : Z.size = 3) (k : Int) (es : List Ent) (hm : es.length = j + 1) (hm2 : j + 1 ≤ 1000) (f : Fl) (au : Option Addr) (nu cu : Nat) (he : es[j]? = some (.slice au nu cu, f))
    (S : Sep w0 w (cell o 48 Z :: cell p 45 #[.pointer (some ⟨g, 0, none⟩)] :: cell q 3 #[.int .i64 (j : Int)] :: cell g 80 #[.slice (some ⟨b, 0, none⟩) (j + 1) (j + 1), .int .i64 k] :: rowX 48 3 (.slice (some ⟨b, 0, none⟩) (j + 1) (j + 1)) (j + 1) (entC es) :: (es.map rowE ++ M))) :
    Calls Try.prog 55 #[.pointer (some ⟨b, j * 3, none⟩), .pointer (some ⟨o, 0, none⟩), .pointer (some ⟨p, 0, none⟩), .pointer (some ⟨q, 0, none⟩)] w fun en w' => en = .returned (.int .i64 0) ∧ ∃ v', Sep w0 w' (cell o 48 #[.int .i64 f.c, .bool f.d, .slice au nu cu] :: cell p 45 #[.pointer (some ⟨g, 0, none⟩)] :: cell q 3 #[.int .i64 (j : Int)] :: cell g 80 #[v', .int .i64 k] :: rowX 48 3 v' j (entC (es.eraseIdx j)) :: (es.map rowE ++ M)) := by
  have ox := S.ownX 4 rfl
  obtain ⟨_, _, hv, hcap, hcm⟩ := ox.slice
  injection hv with hv1 hv2 hv3
  subst hv3
  clear hv1 hv2
  have hjl : j < es.length := by omega
  have hE : es[j] = (.slice au nu cu, f) := by rw [List.getElem?_eq_getElem hjl] at he; exact Option.some.inj he
  have hg := entC_get es j hjl
  rw [hE] at hg
  have f0 : w.cell? ⟨b, j * 3, none⟩ = some (.int .i64 f.c) := ox.cells rfl _ _ (hg 0 _ rfl)
  have f1 : w.cell? ⟨b, j * 3 + 1, none⟩ = some (.bool f.d) := ox.cells rfl _ _ (hg 1 _ rfl)
  have f2 : w.cell? ⟨b, j * 3 + 2, none⟩ = some (.slice au nu cu) := ox.cells rfl _ _ (hg 2 _ rfl)
  have Hone := Lib.hid (es_one (S.drop 0 |>.drop 0 |>.drop 0))
  obtain ⟨W1, hW1⟩ : ∃ W1, w.setRow o #[.int .i64 f.c, .bool f.d, .slice au nu cu] = W1 := ⟨_, rfl⟩
  have S1 := S.setRow 0 rfl #[.int .i64 f.c, .bool f.d, .slice au nu cu]
  rw [hW1] at S1
  have HB := Lib.hid (S.blk 0 rfl)
  have p0 := (S1.blk 1 rfl).at_ 0 rfl
  have q0 := (S1.blk 2 rfl).at_ 0 rfl
  have g0 := (S1.blk 3 rfl).at_ 0 rfl
  have HS1 := Lib.hid S1
  have HZ := Lib.hid hZ
  have i0 : (0 : Int) ≤ (j : Int) := by omega
  have i1 : (j : Int) ≤ (j : Int) + 1 := by omega
  have i2 : IntKind.i64.wrap ((j : Int) + 1) = (j : Int) + 1 := IntWalk.i64_in _ (by omega)
  have i6 : (0 : Int) ≤ (j : Int) + 1 := by omega
  have i7 : ((j : Int) + 1).toNat = j + 1 := by omega
  clear S S1 ox hE hg hjl
  go_enter Try.func55, Try.ntmps55
  go_upto_region 2 with (
    refine wpList_store_row rfl 48 (.tmp 1) (.tmp 8) rfl o #[.int .i64 f.c, .bool f.d, .slice au nu cu] rfl rfl 48 _ HB.out size48 HZ.out (fl_one _ _ _ _ _) ?_
    rw [hW1])
  have OX := Lib.hid ((HS1.out.cutX 4 rfl j (by omega)).ownX 4 rfl)
  have RX : Hid (Reads W1.drew (b + 1) 3 (some ⟨b, 0, none⟩) 0 []) := Lib.hid ⟨rfl, fun h => absurd h (Nat.lt_irrefl 0)⟩
  have HO : Hid (∀ u ∈ ([] : List Value), u.oneCell' = true) := Lib.hid (by simp)
  have Hm1 : Hid (j + 0 ≤ maxLen) := Lib.hid (by unfold maxLen; omega)
  have Hm2 : Hid ((j + 0) * 40 ≤ 140737488355328) := Lib.hid (by omega)
  obtain ⟨i48, hi48, hz0, hz1, hz2⟩ := info_parts info48
  have Hi := Lib.hid hi48
  have Hz0 := Lib.hid hz0
  have Hz1 := Lib.hid hz1
  have Hz2 := Lib.hid hz2
  have Hcm := Lib.hid hcm
  have HSc := Lib.hid (HS1.out.cutX 4 rfl j (by omega)).drew
  have He := Lib.hid (entC_erase es j (by omega))
  clear hi48 hz0 hz1 hz2 hcm hcap f0 f1 f2
  have HD : Hid ((entC es).drop ((j + 1) * 3) = []) := Lib.hid (List.drop_of_length_le (by rw [entC_len, hm]; omega))
  refine wp_region_held_drew (S := fun w' => w'.cell? ⟨p, 0, none⟩ = some (.pointer (some ⟨g, 0, none⟩)) ∧ w'.cell? ⟨q, 0, none⟩ = some (.int .i64 (j : Int))) (by kernel_rfl) ⟨p0, q0⟩ (fun hHeld => ?_)
  refine wpAnyH_take (i := 0) (oi := { dst := some 9, op := Op.load 45 (Operand.tmp 2), type := 45, pos := "net.go:54", after := #[], guard := none }) (v := ?_) rfl (by kernel_rfl) (by kernel_rfl) (by kernel_rfl) (fun _ _ _ h => h) (Or.inl ⟨by rfl, ?_⟩) hHeld ?_
  rotate_left
  · intro w' hSw
    obtain ⟨hs1, hs2⟩ := hSw
    go_simp
    with_reducible rfl
  try simp only [Act.put, List.setIfInBounds_toArray, List.set_cons_zero, List.set_cons_succ]
  refine wpAnyH_take (i := 1) (oi := { dst := some 10, op := Op.load 45 (Operand.tmp 2), type := 45, pos := "net.go:54", after := #[], guard := none }) (v := ?_) rfl (by kernel_rfl) (by kernel_rfl) (by kernel_rfl) (fun _ _ _ h => h) (Or.inl ⟨by rfl, ?_⟩) hHeld ?_
  rotate_left
  · intro w' hSw
    obtain ⟨hs1, hs2⟩ := hSw
    go_simp
    with_reducible rfl
  try simp only [Act.put, List.setIfInBounds_toArray, List.set_cons_zero, List.set_cons_succ]
  refine wpAnyH_take (i := 2) (oi := { dst := some 11, op := Op.nilCheck (Operand.tmp 10), type := 0, pos := "net.go:54", after := #[{ on := 1, ground := Ground.data }], guard := none }) (v := ?_) rfl (by kernel_rfl) (by kernel_rfl) (by kernel_rfl) (fun _ _ _ h => h) (Or.inl ⟨by rfl, ?_⟩) hHeld ?_
  rotate_left
  · intro w' hSw
    obtain ⟨hs1, hs2⟩ := hSw
    go_simp
    with_reducible rfl
  try simp only [Act.put, List.setIfInBounds_toArray, List.set_cons_zero, List.set_cons_succ]
  refine wpAnyH_take (i := 3) (oi := { dst := some 12, op := Op.fieldAddr 80 (Operand.tmp 11) 0, type := 0, pos := "net.go:54", after := #[{ on := 2, ground := Ground.data }], guard := none }) (v := ?_) rfl (by kernel_rfl) (by kernel_rfl) (by kernel_rfl) (fun _ _ _ h => h) (Or.inl ⟨by rfl, ?_⟩) hHeld ?_
  rotate_left
  · intro w' hSw
    obtain ⟨hs1, hs2⟩ := hSw
    go_simp
    with_reducible rfl
  try simp only [Act.put, List.setIfInBounds_toArray, List.set_cons_zero, List.set_cons_succ]
  refine wpAnyH_take (i := 5) (oi := { dst := some 14, op := Op.load 3 (Operand.tmp 3), type := 3, pos := "net.go:54", after := #[], guard := none }) (v := ?_) rfl (by kernel_rfl) (by kernel_rfl) (by kernel_rfl) (fun _ _ _ h => h) (Or.inl ⟨by rfl, ?_⟩) hHeld ?_
  rotate_left
  · intro w' hSw
    obtain ⟨hs1, hs2⟩ := hSw
    go_simp
    with_reducible rfl
  try simp only [Act.put, List.setIfInBounds_toArray, List.set_cons_zero, List.set_cons_succ]
  refine wpAnyH_take (i := 6) (oi := { dst := some 15, op := Op.load 3 (Operand.tmp 3), type := 3, pos := "net.go:54", after := #[], guard := none }) (v := ?_) rfl (by kernel_rfl) (by kernel_rfl) (by kernel_rfl) (fun _ _ _ h => h) (Or.inl ⟨by rfl, ?_⟩) hHeld ?_
  rotate_left
  · intro w' hSw
    obtain ⟨hs1, hs2⟩ := hSw
    go_simp
    with_reducible rfl
  try simp only [Act.put, List.setIfInBounds_toArray, List.set_cons_zero, List.set_cons_succ]
  refine wpAnyH_take (i := 8) (oi := { dst := some 17, op := Op.load 45 (Operand.tmp 2), type := 45, pos := "net.go:54", after := #[], guard := none }) (v := ?_) rfl (by kernel_rfl) (by kernel_rfl) (by kernel_rfl) (fun _ _ _ h => h) (Or.inl ⟨by rfl, ?_⟩) hHeld ?_
  rotate_left
  · intro w' hSw
    obtain ⟨hs1, hs2⟩ := hSw
    go_simp
    with_reducible rfl
  try simp only [Act.put, List.setIfInBounds_toArray, List.set_cons_zero, List.set_cons_succ]
  refine wpAnyH_take (i := 9) (oi := { dst := some 18, op := Op.nilCheck (Operand.tmp 17), type := 0, pos := "net.go:54", after := #[{ on := 8, ground := Ground.data }], guard := none }) (v := ?_) rfl (by kernel_rfl) (by kernel_rfl) (by kernel_rfl) (fun _ _ _ h => h) (Or.inl ⟨by rfl, ?_⟩) hHeld ?_
  rotate_left
  · intro w' hSw
    obtain ⟨hs1, hs2⟩ := hSw
    go_simp
    with_reducible rfl
  try simp only [Act.put, List.setIfInBounds_toArray, List.set_cons_zero, List.set_cons_succ]
  refine wpAnyH_take (i := 10) (oi := { dst := some 19, op := Op.fieldAddr 80 (Operand.tmp 18) 0, type := 0, pos := "net.go:54", after := #[{ on := 9, ground := Ground.data }], guard := none }) (v := ?_) rfl (by kernel_rfl) (by kernel_rfl) (by kernel_rfl) (fun _ _ _ h => h) (Or.inl ⟨by rfl, ?_⟩) hHeld ?_
  rotate_left
  · intro w' hSw
    obtain ⟨hs1, hs2⟩ := hSw
    go_simp
    with_reducible rfl
  try simp only [Act.put, List.setIfInBounds_toArray, List.set_cons_zero, List.set_cons_succ]
  refine wpAnyH_take (i := 12) (oi := { dst := some 21, op := Op.load 3 (Operand.tmp 3), type := 3, pos := "net.go:54", after := #[], guard := none }) (v := ?_) rfl (by kernel_rfl) (by kernel_rfl) (by kernel_rfl) (fun _ _ _ h => h) (Or.inl ⟨by rfl, ?_⟩) hHeld ?_
  rotate_left
  · intro w' hSw
    obtain ⟨hs1, hs2⟩ := hSw
    go_simp
    with_reducible rfl
  try simp only [Act.put, List.setIfInBounds_toArray, List.set_cons_zero, List.set_cons_succ]
  refine wpAnyH_take (i := 13) (oi := { dst := some 22, op := Op.binOp BinOp.add 3 (Operand.tmp 21) (Operand.const (Value.int IntKind.i64 1)) 3, type := 3, pos := "net.go:54", after := #[{ on := 12, ground := Ground.data }], guard := none }) (v := ?_) rfl (by kernel_rfl) (by kernel_rfl) (by kernel_rfl) (fun _ _ _ h => h) (Or.inl ⟨by rfl, ?_⟩) hHeld ?_
  rotate_left
  · intro w' hSw
    obtain ⟨hs1, hs2⟩ := hSw
    go_simp
    with_reducible rfl
  try simp only [Act.put, List.setIfInBounds_toArray, List.set_cons_zero, List.set_cons_succ]
  refine wpAnyH_ready (rs := [4, 11]) (by kernel_rfl) (by simp) ?_
  refine AllReadyH.cons (o := { dst := some 13, op := Op.load 55 (Operand.tmp 12), type := 55, pos := "net.go:54", after := #[{ on := 3, ground := Ground.data }], guard := none }) rfl ?_ (AllReadyH.cons (o := { dst := some 20, op := Op.load 55 (Operand.tmp 19), type := 55, pos := "net.go:54", after := #[{ on := 10, ground := Ground.data }], guard := none }) rfl ?_ (AllReadyH.nil))
  · intro K hK
    go_simp
    refine hK.out _ _ ⟨p0, q0⟩ (fun hHeld => ?_)
    clear hK K
    try simp only [Act.put, List.setIfInBounds_toArray, List.set_cons_zero, List.set_cons_succ]
    refine wpAnyH_take (i := 7) (oi := { dst := some 16, op := Op.slice 55 (Operand.tmp 13) none (some (Operand.tmp 14)) (some (Operand.tmp 15)), type := 55, pos := "net.go:54", after := #[{ on := 4, ground := Ground.data }, { on := 5, ground := Ground.data }, { on := 6, ground := Ground.data }], guard := none }) (v := ?_) rfl (by kernel_rfl) (by kernel_rfl) (by kernel_rfl) (fun _ _ _ h => h) (Or.inl ⟨by rfl, ?_⟩) hHeld ?_
    rotate_left
    · intro w' hSw
      obtain ⟨hs1, hs2⟩ := hSw
      go_simp
      with_reducible rfl
    try simp only [Act.put, List.setIfInBounds_toArray, List.set_cons_zero, List.set_cons_succ]
    refine wpAnyH_ready (rs := [11]) (by kernel_rfl) (by simp) ?_
    refine AllReadyH.cons (o := { dst := some 20, op := Op.load 55 (Operand.tmp 19), type := 55, pos := "net.go:54", after := #[{ on := 10, ground := Ground.data }], guard := none }) rfl ?_ (AllReadyH.nil)
    · intro K hK
      go_simp
      refine hK.out _ _ ⟨p0, q0⟩ (fun hHeld => ?_)
      clear hK K
      try simp only [Act.put, List.setIfInBounds_toArray, List.set_cons_zero, List.set_cons_succ]
      refine wpAnyH_take (i := 14) (oi := { dst := some 23, op := Op.slice 55 (Operand.tmp 20) (some (Operand.tmp 22)) none none, type := 55, pos := "net.go:54", after := #[{ on := 11, ground := Ground.data }, { on := 13, ground := Ground.data }], guard := none }) (v := ?_) rfl (by kernel_rfl) (by kernel_rfl) (by kernel_rfl) (fun _ _ _ h => h) (Or.inl ⟨by rfl, ?_⟩) hHeld ?_
      rotate_left
      · intro w' hSw
        obtain ⟨hs1, hs2⟩ := hSw
        go_simp
        with_reducible rfl
      try simp only [Act.put, List.setIfInBounds_toArray, List.set_cons_zero, List.set_cons_succ]
      refine wpAnyH_ready (rs := [15]) (by kernel_rfl) (by simp) ?_
      refine AllReadyH.cons (o := { dst := some 24, op := Op.call { callee := Callee.builtin Builtin.append, args := #[Operand.tmp 16, Operand.tmp 23], argTypes := #[55, 55] }, type := 55, pos := "net.go:54", after := #[{ on := 7, ground := Ground.data }, { on := 14, ground := Ground.data }], guard := none }) rfl ?_ (AllReadyH.nil)
      · intro K hK
        refine step_append_x (P := Try.prog) rfl (.tmp 16) (.tmp 23) 55 rfl 48 i48 _ 3 40 Try.underlying55 Hi.out Hz0.out Hz1.out Hz2.out rfl (Nat.succ_pos 2) (.slice (some ⟨b, 0, none⟩) j j) j ((entC es).take (j * 3)) rfl OX.out (b + 1) _ 0 0 [] rfl RX.out HO.out Hm1.out Hm2.out ?_
        intro v5 w5 hown5 hg5 hat5
        obtain ⟨a5, c5, rfl, -, -⟩ := hown5.slice
        have S5 := HSc.out.pushedX 4 rfl hown5 hg5 hat5
        have S6 := S5.put 3 rfl 0 (.slice a5 (j + 0) c5)
        have f0 := (S5.blk 3 rfl).at_ 0 rfl
        have z0 := (S5.blk 3 rfl).frozen 0
        have p5 : w5.cell? ⟨p, 0, none⟩ = some (.pointer (some ⟨g, 0, none⟩)) := (S5.blk 1 rfl).at_ 0 rfl
        have q5 : w5.cell? ⟨q, 0, none⟩ = some (.int .i64 (j : Int)) := (S5.blk 2 rfl).at_ 0 rfl
        have p6 : (w5.setCell ⟨g, 0, none⟩ (.slice a5 (j + 0) c5)).cell? ⟨p, 0, none⟩ = some (.pointer (some ⟨g, 0, none⟩)) := (S6.blk 1 rfl).at_ 0 rfl
        have q6 : (w5.setCell ⟨g, 0, none⟩ (.slice a5 (j + 0) c5)).cell? ⟨q, 0, none⟩ = some (.int .i64 (j : Int)) := (S6.blk 2 rfl).at_ 0 rfl
        clear hown5 hg5 hat5
        refine hK.out _ _ ⟨p5, q5⟩ (fun hHeld => ?_)
        clear hK K
        try simp only [Act.put, List.setIfInBounds_toArray, List.set_cons_zero, List.set_cons_succ]
        refine wpAnyH_take (i := 16) (oi := { dst := some 25, op := Op.nilCheck (Operand.tmp 9), type := 0, pos := "net.go:54", after := #[{ on := 0, ground := Ground.data }, { on := 0, ground := Ground.phase }, { on := 1, ground := Ground.phase }, { on := 2, ground := Ground.phase }, { on := 3, ground := Ground.phase }, { on := 4, ground := Ground.phase }, { on := 5, ground := Ground.phase }, { on := 6, ground := Ground.phase }, { on := 7, ground := Ground.phase }, { on := 8, ground := Ground.phase }, { on := 9, ground := Ground.phase }, { on := 10, ground := Ground.phase }, { on := 11, ground := Ground.phase }, { on := 12, ground := Ground.phase }, { on := 13, ground := Ground.phase }, { on := 14, ground := Ground.phase }, { on := 15, ground := Ground.phase }], guard := none }) (v := ?_) rfl (by kernel_rfl) (by kernel_rfl) (by kernel_rfl) (fun _ _ _ h => h) (Or.inl ⟨by rfl, ?_⟩) hHeld ?_
        rotate_left
        · intro w' hSw
          obtain ⟨hs1, hs2⟩ := hSw
          go_simp
          with_reducible rfl
        try simp only [Act.put, List.setIfInBounds_toArray, List.set_cons_zero, List.set_cons_succ]
        refine wpAnyH_take (i := 17) (oi := { dst := some 26, op := Op.fieldAddr 80 (Operand.tmp 25) 0, type := 0, pos := "net.go:54", after := #[{ on := 16, ground := Ground.data }, { on := 0, ground := Ground.phase }, { on := 1, ground := Ground.phase }, { on := 2, ground := Ground.phase }, { on := 3, ground := Ground.phase }, { on := 4, ground := Ground.phase }, { on := 5, ground := Ground.phase }, { on := 6, ground := Ground.phase }, { on := 7, ground := Ground.phase }, { on := 8, ground := Ground.phase }, { on := 9, ground := Ground.phase }, { on := 10, ground := Ground.phase }, { on := 11, ground := Ground.phase }, { on := 12, ground := Ground.phase }, { on := 13, ground := Ground.phase }, { on := 14, ground := Ground.phase }, { on := 15, ground := Ground.phase }], guard := none }) (v := ?_) rfl (by kernel_rfl) (by kernel_rfl) (by kernel_rfl) (fun _ _ _ h => h) (Or.inl ⟨by rfl, ?_⟩) hHeld ?_
        rotate_left
        · intro w' hSw
          obtain ⟨hs1, hs2⟩ := hSw
          go_simp
          with_reducible rfl
        try simp only [Act.put, List.setIfInBounds_toArray, List.set_cons_zero, List.set_cons_succ]
        refine wpAnyH_ready (rs := [18]) (by kernel_rfl) (by simp) ?_
        refine AllReadyH.cons (o := { dst := none, op := Op.store 55 (Operand.tmp 26) (Operand.tmp 24), type := 0, pos := "net.go:54", after := #[{ on := 17, ground := Ground.data }, { on := 15, ground := Ground.data }, { on := 15, ground := Ground.chain }, { on := 0, ground := Ground.phase }, { on := 1, ground := Ground.phase }, { on := 2, ground := Ground.phase }, { on := 3, ground := Ground.phase }, { on := 4, ground := Ground.phase }, { on := 5, ground := Ground.phase }, { on := 6, ground := Ground.phase }, { on := 7, ground := Ground.phase }, { on := 8, ground := Ground.phase }, { on := 9, ground := Ground.phase }, { on := 10, ground := Ground.phase }, { on := 11, ground := Ground.phase }, { on := 12, ground := Ground.phase }, { on := 13, ground := Ground.phase }, { on := 14, ground := Ground.phase }, { on := 15, ground := Ground.phase }], guard := none }) rfl ?_ (AllReadyH.nil)
        · intro K hK
          go_simp
          refine hK.out _ _ ⟨p6, q6⟩ (fun hHeld => ?_)
          clear hK K
          try simp only [Act.put, List.setIfInBounds_toArray, List.set_cons_zero, List.set_cons_succ]
          refine wpAnyH_done (by kernel_rfl) ?_ _
          clear S5 f0 z0 p5 q5 p6 q6 p0 q0 g0
          generalize w5.setCell ⟨g, 0, none⟩ (.slice a5 (j + 0) c5) = w6 at S6 ⊢
          go_wp2_with fail
          go_ret
          refine ⟨rfl, .slice a5 (j + 0) c5, ?_⟩
          rw [← He.out, HD.out]
          exact S6
  · intro K hK
    go_simp
    refine hK.out _ _ ⟨p0, q0⟩ (fun hHeld => ?_)
    clear hK K
    try simp only [Act.put, List.setIfInBounds_toArray, List.set_cons_zero, List.set_cons_succ]
    refine wpAnyH_take (i := 14) (oi := { dst := some 23, op := Op.slice 55 (Operand.tmp 20) (some (Operand.tmp 22)) none none, type := 55, pos := "net.go:54", after := #[{ on := 11, ground := Ground.data }, { on := 13, ground := Ground.data }], guard := none }) (v := ?_) rfl (by kernel_rfl) (by kernel_rfl) (by kernel_rfl) (fun _ _ _ h => h) (Or.inl ⟨by rfl, ?_⟩) hHeld ?_
    rotate_left
    · intro w' hSw
      obtain ⟨hs1, hs2⟩ := hSw
      go_simp
      with_reducible rfl
    try simp only [Act.put, List.setIfInBounds_toArray, List.set_cons_zero, List.set_cons_succ]
    refine wpAnyH_ready (rs := [4]) (by kernel_rfl) (by simp) ?_
    refine AllReadyH.cons (o := { dst := some 13, op := Op.load 55 (Operand.tmp 12), type := 55, pos := "net.go:54", after := #[{ on := 3, ground := Ground.data }], guard := none }) rfl ?_ (AllReadyH.nil)
    · intro K hK
      go_simp
      refine hK.out _ _ ⟨p0, q0⟩ (fun hHeld => ?_)
      clear hK K
      try simp only [Act.put, List.setIfInBounds_toArray, List.set_cons_zero, List.set_cons_succ]
      refine wpAnyH_take (i := 7) (oi := { dst := some 16, op := Op.slice 55 (Operand.tmp 13) none (some (Operand.tmp 14)) (some (Operand.tmp 15)), type := 55, pos := "net.go:54", after := #[{ on := 4, ground := Ground.data }, { on := 5, ground := Ground.data }, { on := 6, ground := Ground.data }], guard := none }) (v := ?_) rfl (by kernel_rfl) (by kernel_rfl) (by kernel_rfl) (fun _ _ _ h => h) (Or.inl ⟨by rfl, ?_⟩) hHeld ?_
      rotate_left
      · intro w' hSw
        obtain ⟨hs1, hs2⟩ := hSw
        go_simp
        with_reducible rfl
      try simp only [Act.put, List.setIfInBounds_toArray, List.set_cons_zero, List.set_cons_succ]
      refine wpAnyH_ready (rs := [15]) (by kernel_rfl) (by simp) ?_
      refine AllReadyH.cons (o := { dst := some 24, op := Op.call { callee := Callee.builtin Builtin.append, args := #[Operand.tmp 16, Operand.tmp 23], argTypes := #[55, 55] }, type := 55, pos := "net.go:54", after := #[{ on := 7, ground := Ground.data }, { on := 14, ground := Ground.data }], guard := none }) rfl ?_ (AllReadyH.nil)
      · intro K hK
        refine step_append_x (P := Try.prog) rfl (.tmp 16) (.tmp 23) 55 rfl 48 i48 _ 3 40 Try.underlying55 Hi.out Hz0.out Hz1.out Hz2.out rfl (Nat.succ_pos 2) (.slice (some ⟨b, 0, none⟩) j j) j ((entC es).take (j * 3)) rfl OX.out (b + 1) _ 0 0 [] rfl RX.out HO.out Hm1.out Hm2.out ?_
        intro v5 w5 hown5 hg5 hat5
        obtain ⟨a5, c5, rfl, -, -⟩ := hown5.slice
        have S5 := HSc.out.pushedX 4 rfl hown5 hg5 hat5
        have S6 := S5.put 3 rfl 0 (.slice a5 (j + 0) c5)
        have f0 := (S5.blk 3 rfl).at_ 0 rfl
        have z0 := (S5.blk 3 rfl).frozen 0
        have p5 : w5.cell? ⟨p, 0, none⟩ = some (.pointer (some ⟨g, 0, none⟩)) := (S5.blk 1 rfl).at_ 0 rfl
        have q5 : w5.cell? ⟨q, 0, none⟩ = some (.int .i64 (j : Int)) := (S5.blk 2 rfl).at_ 0 rfl
        have p6 : (w5.setCell ⟨g, 0, none⟩ (.slice a5 (j + 0) c5)).cell? ⟨p, 0, none⟩ = some (.pointer (some ⟨g, 0, none⟩)) := (S6.blk 1 rfl).at_ 0 rfl
        have q6 : (w5.setCell ⟨g, 0, none⟩ (.slice a5 (j + 0) c5)).cell? ⟨q, 0, none⟩ = some (.int .i64 (j : Int)) := (S6.blk 2 rfl).at_ 0 rfl
        clear hown5 hg5 hat5
        refine hK.out _ _ ⟨p5, q5⟩ (fun hHeld => ?_)
        clear hK K
        try simp only [Act.put, List.setIfInBounds_toArray, List.set_cons_zero, List.set_cons_succ]
        refine wpAnyH_take (i := 16) (oi := { dst := some 25, op := Op.nilCheck (Operand.tmp 9), type := 0, pos := "net.go:54", after := #[{ on := 0, ground := Ground.data }, { on := 0, ground := Ground.phase }, { on := 1, ground := Ground.phase }, { on := 2, ground := Ground.phase }, { on := 3, ground := Ground.phase }, { on := 4, ground := Ground.phase }, { on := 5, ground := Ground.phase }, { on := 6, ground := Ground.phase }, { on := 7, ground := Ground.phase }, { on := 8, ground := Ground.phase }, { on := 9, ground := Ground.phase }, { on := 10, ground := Ground.phase }, { on := 11, ground := Ground.phase }, { on := 12, ground := Ground.phase }, { on := 13, ground := Ground.phase }, { on := 14, ground := Ground.phase }, { on := 15, ground := Ground.phase }], guard := none }) (v := ?_) rfl (by kernel_rfl) (by kernel_rfl) (by kernel_rfl) (fun _ _ _ h => h) (Or.inl ⟨by rfl, ?_⟩) hHeld ?_
        rotate_left
        · intro w' hSw
          obtain ⟨hs1, hs2⟩ := hSw
          go_simp
          with_reducible rfl
        try simp only [Act.put, List.setIfInBounds_toArray, List.set_cons_zero, List.set_cons_succ]
        refine wpAnyH_take (i := 17) (oi := { dst := some 26, op := Op.fieldAddr 80 (Operand.tmp 25) 0, type := 0, pos := "net.go:54", after := #[{ on := 16, ground := Ground.data }, { on := 0, ground := Ground.phase }, { on := 1, ground := Ground.phase }, { on := 2, ground := Ground.phase }, { on := 3, ground := Ground.phase }, { on := 4, ground := Ground.phase }, { on := 5, ground := Ground.phase }, { on := 6, ground := Ground.phase }, { on := 7, ground := Ground.phase }, { on := 8, ground := Ground.phase }, { on := 9, ground := Ground.phase }, { on := 10, ground := Ground.phase }, { on := 11, ground := Ground.phase }, { on := 12, ground := Ground.phase }, { on := 13, ground := Ground.phase }, { on := 14, ground := Ground.phase }, { on := 15, ground := Ground.phase }], guard := none }) (v := ?_) rfl (by kernel_rfl) (by kernel_rfl) (by kernel_rfl) (fun _ _ _ h => h) (Or.inl ⟨by rfl, ?_⟩) hHeld ?_
        rotate_left
        · intro w' hSw
          obtain ⟨hs1, hs2⟩ := hSw
          go_simp
          with_reducible rfl
        try simp only [Act.put, List.setIfInBounds_toArray, List.set_cons_zero, List.set_cons_succ]
        refine wpAnyH_ready (rs := [18]) (by kernel_rfl) (by simp) ?_
        refine AllReadyH.cons (o := { dst := none, op := Op.store 55 (Operand.tmp 26) (Operand.tmp 24), type := 0, pos := "net.go:54", after := #[{ on := 17, ground := Ground.data }, { on := 15, ground := Ground.data }, { on := 15, ground := Ground.chain }, { on := 0, ground := Ground.phase }, { on := 1, ground := Ground.phase }, { on := 2, ground := Ground.phase }, { on := 3, ground := Ground.phase }, { on := 4, ground := Ground.phase }, { on := 5, ground := Ground.phase }, { on := 6, ground := Ground.phase }, { on := 7, ground := Ground.phase }, { on := 8, ground := Ground.phase }, { on := 9, ground := Ground.phase }, { on := 10, ground := Ground.phase }, { on := 11, ground := Ground.phase }, { on := 12, ground := Ground.phase }, { on := 13, ground := Ground.phase }, { on := 14, ground := Ground.phase }, { on := 15, ground := Ground.phase }], guard := none }) rfl ?_ (AllReadyH.nil)
        · intro K hK
          go_simp
          refine hK.out _ _ ⟨p6, q6⟩ (fun hHeld => ?_)
          clear hK K
          try simp only [Act.put, List.setIfInBounds_toArray, List.set_cons_zero, List.set_cons_succ]
          refine wpAnyH_done (by kernel_rfl) ?_ _
          clear S5 f0 z0 p5 q5 p6 q6 p0 q0 g0
          generalize w5.setCell ⟨g, 0, none⟩ (.slice a5 (j + 0) c5) = w6 at S6 ⊢
          go_wp2_with fail
          go_ret
          refine ⟨rfl, .slice a5 (j + 0) c5, ?_⟩
          rw [← He.out, HD.out]
          exact S6
end
end Go.Proofs.Ytmacmhlimdaemaa.Net
