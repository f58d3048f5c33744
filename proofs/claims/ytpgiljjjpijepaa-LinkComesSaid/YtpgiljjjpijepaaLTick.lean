/- Tick of a link: a range over a function that tells pieces. -/
import Derived.Test.YtpgiljjjpijepaaLRound
namespace Go.Proofs.Ytpgiljjjpijepaa
open Go.RowKit Go.Shelf
attribute [local go_sem] Oper.semAt_some
theorem info32 : (Try.prog.info? 32).map (fun i => (i.zero, i.size, i.bytes)) = some (some (.agg #[.int .u32 0, .int .u64 0, .int .u64 0, .slice none 0 0]), 4, 48) := by kernel_rfl
/-- told packets in their box; none: nil -/
def toldA (tb : Nat) (ps : List Pk) : Asn := exA fun v : { v : Value // ps = [] → v = .slice none 0 0 } => bund [cell tb 28 #[v.1], PkX v.1 ps]
section
variable {w0 w w' : World} {L M : List Asn}
theorem Sep.openT {tb : Nat} {ps : List Pk} (h : Sep w0 w (toldA tb ps :: L)) : ∃ v, (ps = [] → v = .slice none 0 0) ∧ Sep w0 w (cell tb 28 #[v] :: PkX v ps :: L) := by
  obtain ⟨⟨v, hv⟩, h⟩ := h.openE
  exact ⟨v, hv, h.unbund⟩
theorem Sep.closeT {tb : Nat} {ps : List Pk} {v : Value} (hv : ps = [] → v = .slice none 0 0) (h : Sep w0 w (cell tb 28 #[v] :: PkX v ps :: L)) : Sep w0 w (toldA tb ps :: L) := by
  have h1 : Sep w0 w ([cell tb 28 #[v], PkX v ps] ++ L) := h
  exact Sep.closeE (P := fun v : { v : Value // ps = [] → v = .slice none 0 0 } => Go.Proofs.Ytpgiljjjpijepaa.bund [cell tb 28 #[v.1], PkX v.1 ps]) ⟨v, hv⟩ h1.bund
theorem perm_tick (a b c d e f x y : Asn) (U T : List Asn) : (a :: (U ++ (b :: c :: d :: e :: f :: x :: y :: T))).Perm (a :: b :: c :: d :: y :: e :: f :: x :: (U ++ T)) := by
  have h : (U ++ (b :: c :: d :: e :: f :: x :: y :: T)).Perm ([b, c, d, e, f, x, y] ++ (U ++ T)) := by
    have h1 := (List.perm_append_comm (l₁ := U) (l₂ := [b, c, d, e, f, x, y])).append_right T
    simpa using h1
  refine .cons _ (h.trans ?_)
  refine .cons _ (.cons _ (.cons _ ?_))
  exact List.perm_middle (a := y) (l₁ := [e, f, x])
theorem perm_told (a r t b c d e f : Asn) (U T : List Asn) : (a :: r :: t :: b :: c :: d :: e :: f :: (U ++ T)).Perm (b :: r :: (U ++ (t :: a :: c :: d :: e :: f :: T))) := by
  have h : ([t, a, c, d, e, f] ++ (U ++ T)).Perm (U ++ ([t, a, c, d, e, f] ++ T)) := by
    have h1 := (List.perm_append_comm (l₁ := [t, a, c, d, e, f]) (l₂ := U)).append_right T
    simpa using h1
  refine List.Perm.trans (List.perm_middle (a := b) (l₁ := [a, r, t])) (.cons _ ?_)
  refine List.Perm.trans (List.perm_middle (a := r) (l₁ := [a])) (.cons _ ?_)
  exact (List.Perm.swap _ _ _).trans h
theorem perm_back6 (x a c d e f : Asn) (T : List Asn) : (x :: a :: c :: d :: e :: f :: T).Perm (d :: e :: a :: f :: x :: c :: T) := by
  refine List.Perm.trans (List.perm_middle (a := d) (l₁ := [x, a, c])) (.cons _ ?_)
  refine List.Perm.trans (List.perm_middle (a := e) (l₁ := [x, a, c])) (.cons _ ?_)
  refine (List.Perm.swap _ _ _).trans (.cons _ ?_)
  exact List.perm_middle (a := f) (l₁ := [x, c])
theorem pieces_len : ∀ (m : Nat) (s : LS), s.base + 1024 - s.sent ≤ m → (pieces s).2.length ≤ m
  | 0, s, h => by
    have h0 : kOf s = 0 := by unfold kOf; omega
    rw [pieces, dif_pos h0]
    simp
  | m + 1, s, h => by
    by_cases h0 : kOf s = 0
    · rw [pieces, dif_pos h0]; simp
    · rw [pieces, dif_neg h0]
      have h1 := pieces_len m (pieceS s) (by have h2 : kOf s = kOf s := rfl; simp only [pieceS]; unfold kOf at *; omega)
      simp only [List.length_cons]
      omega
theorem Inv.late {s : LS} (h : Inv s) : Inv (lateS s) := by
  obtain ⟨h1, h2, h3, h4, h5, h6⟩ := h
  unfold lateS
  split
  · exact ⟨h1, h2, h3, h4, h5, h6⟩
  · split
    · exact ⟨Nat.le_refl _, Nat.le_add_right _ _, h3, h4, h5, Nat.le_add_right _ _⟩
    · exact ⟨h1, h2, h3, h4, h5, h6⟩
theorem perm_start (k o t p a : Asn) (T : List Asn) : (k :: o :: t :: p :: a :: T).Perm (t :: k :: o :: p :: a :: T) := List.perm_middle (a := t) (l₁ := [k, o])
theorem perm_start2 (t o p a : Asn) (T : List Asn) : (t :: o :: p :: a :: T).Perm (a :: o :: t :: p :: T) := by
  refine List.Perm.trans (List.perm_middle (a := a) (l₁ := [t, o, p])) (.cons _ ?_)
  exact List.Perm.swap _ _ _
theorem perm_done (l d a o t p : Asn) (T : List Asn) : (l :: d :: a :: o :: t :: p :: T).Perm (t :: a :: d :: p :: l :: o :: T) := by
  refine List.Perm.trans (List.perm_middle (a := t) (l₁ := [l, d, a, o])) (.cons _ ?_)
  refine List.Perm.trans (List.perm_middle (a := a) (l₁ := [l, d])) (.cons _ ?_)
  refine (List.Perm.swap _ _ _).trans (.cons _ ?_)
  exact List.perm_middle (a := p) (l₁ := [l, o])
theorem perm_done2 (t k a d p l o : Asn) (T : List Asn) : (t :: k :: a :: d :: p :: l :: o :: T).Perm (a :: t :: d :: p :: k :: l :: o :: T) := by
  refine List.Perm.trans (List.perm_middle (a := a) (l₁ := [t, k])) (.cons _ (.cons _ ?_))
  refine List.Perm.trans (List.perm_middle (a := d) (l₁ := [k])) (.cons _ ?_)
  exact List.Perm.swap _ _ _
def told (t : LS × List Pk) : List Pk := if t.2 = [] then (if t.1.owes = true then [⟨t.1.epoch, t.1.sent, t.1.next, []⟩] else []) else t.2
def tickP (s : LS) : List Pk := told (pieces (lateS s))
def tickS (s : LS) : LS := { (pieces (lateS s)).1 with owes := false }
theorem neq_slice_nil (w : World) (t e : TypeId) (a : Option Addr) (n c : Nat) (h : Try.prog.underlying t = some (.slice e)) :
    (binOp .neq t (.slice a n c) (.slice none 0 0)).run Try.prog w = .ok (.bool (!a.isNone)) w := by
  simp only [binOp]
  simp [Op.equal, Op.maxDepth, Lib.run_equalIn_slice_nil w 9999 t e a n c 0 0 h]
theorem perm_round (a b c d e f : Asn) (T : List Asn) : (a :: b :: c :: d :: e :: f :: T).Perm (f :: c :: e :: a :: b :: d :: T) := by
  refine List.Perm.trans (List.perm_middle (a := f) (l₁ := [a, b, c, d, e])) (.cons _ ?_)
  refine List.Perm.trans (List.perm_middle (a := c) (l₁ := [a, b])) (.cons _ ?_)
  exact List.perm_middle (a := e) (l₁ := [a, b, d])
theorem ends_not_out {P : Act → World → Prop} : ¬ LetsOut (fun (e : Exit) (a : Act) W' => e = .normal ∧ P a W') := by
  rintro ⟨a, w, h, -⟩
  cases h
abbrev TS := LS × List Pk × Option (Value × Pk)
def restT (g pb tb : Nat) (ps : List Pk) (M : List Asn) : List Asn := toldA tb ps :: cell pb 22 #[.pointer (some ⟨g, 0, none⟩)] :: M
def LT (g ob pb tb : Nat) (M : List Asn) (t : TS) : List Asn := LinkAt g t.1 :: cell ob 85 #[.pointer (some ⟨g, 0, none⟩)] :: match t.2.2 with
  | none => restT g pb tb t.2.1 M
  | some x => BRow x.1 x.2.d :: restT g pb tb t.2.1 M
theorem pieces_make (g : Nat) (hS : Sep w0 w L) : Calls Try.prog 34 #[.pointer (some ⟨g, 0, none⟩)] w fun en w' => en = .returned (.func (.func 40) #[] #[.pointer (some ⟨w.heap.size, 0, none⟩)]) ∧ Sep w0 w' (cell w.heap.size 85 #[.pointer (some ⟨g, 0, none⟩)] :: L) := by
  obtain ⟨W1, hW1, S1⟩ := hS.boxedF 85 #[.pointer (some ⟨g, 0, none⟩)]
  go_enter Try.func34, Try.ntmps34
  go_wp2_with fail
  go_ret
  exact ⟨rfl, S1⟩
set_option maxRecDepth 100000 in
set_option maxHeartbeats 1000000 in
theorem tick_in (g : Nat) (s : LS) (hI : Inv s) (ht : s.ticks ≤ 1000) (hS : Sep w0 w (LinkAt g s :: M)) :
    Calls Try.prog 12 #[.pointer (some ⟨g, 0, none⟩)] w fun en w' => ∃ v, en = .returned v ∧ Sep w0 w' (PkX v (tickP s) :: LinkAt g (tickS s) :: M) := by
  have hI' := hI.late
  have hlen : ([] ++ (pieces (lateS s)).2).length ≤ 2000 := by have h := pieces_len 1024 (lateS s) (by have := hI'.lo; omega); rw [List.nil_append]; omega
  obtain ⟨W1, hW1, S1⟩ := hS.boxedF 22 #[.pointer (some ⟨g, 0, none⟩)]
  have x0 : W1.cell? ⟨w.heap.size, 0, none⟩ = some (.pointer (some ⟨g, 0, none⟩)) := (S1.blk 0 rfl).at_ 0 rfl
  have HL := Lib.hid (late_any ht 1 rfl S1)
  clear S1 hS
  refine callsIn_wide (n := 100).1 ?_
  refine callsIn_of_wp_marks Try.func12 rfl trivial ?_ rfl
  refine wpIn_wide.2 ?_
  simp only [Try.ntmps12, List.size_toArray, List.length_cons, List.length_nil, Nat.reduceAdd, Nat.reduceSub, Array.replicate_succ, Array.replicate_zero, List.push_toArray, List.append_toArray, List.nil_append, List.cons_append]
  go_wp2_with fail
  refine HL.out.mono ?_
  rintro en W2 ⟨rfl, S2⟩
  replace S2 : Sep w0 W2 (cell w.heap.size 22 #[.pointer (some ⟨g, 0, none⟩)] :: LinkAt g (lateS s) :: M) := S2
  clear HL hW1 x0
  obtain ⟨tb, htb⟩ : ∃ tb, W2.heap.size = tb := ⟨_, rfl⟩
  obtain ⟨W3, hW3, S3⟩ := S2.boxedF 28 #[.slice none 0 0]
  rw [htb] at S3
  have x1 : W3.cell? ⟨w.heap.size, 0, none⟩ = some (.pointer (some ⟨g, 0, none⟩)) := (S3.blk 1 rfl).at_ 0 rfl
  have HP := Lib.hid (pieces_make g S3)
  obtain ⟨ob, hob⟩ : ∃ ob, W3.heap.size = ob := ⟨_, rfl⟩
  rw [hob] at HP
  clear S2
  go_wp2_with fail
  refine HP.out.mono ?_
  rintro en W4 ⟨rfl, S4⟩
  clear HP S3 x1 hW3
  go_wp2_with fail
  refine (wpIn_wide (n := 100)).1 ?_
  refine wpIn_rangeFunc_sep (T := TS) (α := Value × Pk) (F := Fence.wide) (n := 100) (w0 := w0) (gf := 40) (lb := #[.pointer (some ⟨ob, 0, none⟩)]) rfl (by omega) rfl trivial (enters_of Try.func40 (by kernel_rfl) rfl)
    (fun x => #[.int .u64 (x.2.o : Int), x.1]) (fun _ => rfl) (LT g ob w.heap.size tb M) (fun t x => t.2.2 = some x ∧ x.2.e = t.1.epoch ∧ x.2.a = t.1.next ∧ t.2.1.length ≤ 2000) (fun t x => (t.1, t.2.1 ++ [x.2], none))
    (lateS s, [], none) ((pieces (lateS s)).1, (pieces (lateS s)).2, none) ?a1 ?start ?assign ?body ?hit ?done
  case start =>
    have h := (S4.nilK).perm (perm_start _ _ _ _ _ M)
    exact (Sep.closeT (v := .slice none 0 0) (fun _ => rfl) h).perm (perm_start2 _ _ _ _ M)
  case assign =>
    intro l x W K hK
    gi_wp2
    exact hK
  case body =>
    rintro l D O ⟨s1, ps, o⟩ ⟨u, p⟩ W hSW ⟨ho, he, ha, hl⟩
    simp only at ho he ha hl
    subst ho
    refine wpIn_block ?_
    obtain ⟨pb, hpb⟩ : ∃ pb, w.heap.size = pb := ⟨_, rfl⟩
    rw [hpb] at hSW ⊢
    replace hSW : Sep w0 W (objA l O :: objA D (.deferred (some [])) :: LinkAt g s1 :: cell ob 85 #[.pointer (some ⟨g, 0, none⟩)] :: BRow u p.d :: toldA tb ps :: cell pb 22 #[.pointer (some ⟨g, 0, none⟩)] :: M) := hSW
    obtain ⟨v, hv0, S7⟩ := (hSW.perm (perm_round _ _ _ _ _ _ _)).openT
    have S8 : Sep w0 W (PkX v ps :: cell tb 28 #[v] :: LinkAt g s1 :: BRow u p.d :: objA l O :: objA D (.deferred (some [])) :: cell ob 85 #[.pointer (some ⟨g, 0, none⟩)] :: cell pb 22 #[.pointer (some ⟨g, 0, none⟩)] :: M) := S7.swap
    clear S7 hSW
    obtain ⟨es, ds, hes, hds, S9⟩ := S8.openK
    clear S8
    obtain ⟨U, hUq⟩ : ∃ U, ds.map rowD = U := ⟨_, rfl⟩
    rw [hUq] at S9
    -- the rows of data go behind
    have S10 : Sep w0 W (row 32 4 v es.length (entP es) :: cell tb 28 #[v] :: LinkAt g s1 :: BRow u p.d :: cell pb 22 #[.pointer (some ⟨g, 0, none⟩)] :: objA l O :: objA D (.deferred (some [])) :: cell ob 85 #[.pointer (some ⟨g, 0, none⟩)] :: (U ++ M)) := S9.perm (perm_tick _ _ _ _ _ _ _ _ _ _)
    clear S9
    obtain ⟨UA, uc, hu, huc, -, -⟩ := S10.bform 3 rfl
    obtain ⟨k, hk⟩ : ∃ k, p.d.length = k := ⟨_, rfl⟩
    rw [hk] at hu
    subst hu
    obtain ⟨VA, vc, hv, -, -⟩ := own_slice (S10.own 0 rfl)
    obtain ⟨n, hn⟩ : ∃ n, es.length = n := ⟨_, rfl⟩
    rw [hn] at hv S10
    subst hv
    obtain ⟨vw, vg, S8⟩ := (S10.pick 2 rfl).openL
    have y0 : W.cell? ⟨tb, 0, none⟩ = some (.slice VA n vc) := (S8.blk 4 rfl).at_ 0 rfl
    have y1 : W.cell? ⟨pb, 0, none⟩ = some (.pointer (some ⟨g, 0, none⟩)) := (S8.blk 6 rfl).at_ 0 rfl
    have y2 : W.cell? ⟨g, 8, none⟩ = some (.int .u32 (s1.epoch : Int)) := (S8.blk 0 rfl).at_ 8 rfl
    have y3 : W.cell? ⟨g, 6, none⟩ = some (.int .u64 (s1.next : Int)) := (S8.blk 0 rfl).at_ 6 rfl
    refine round_under (fun W => W.cell? ⟨tb, 0, none⟩ = some (.slice VA n vc) ∧ W.cell? ⟨pb, 0, none⟩ = some (.pointer (some ⟨g, 0, none⟩)) ∧ W.cell? ⟨g, 8, none⟩ = some (.int .u32 (s1.epoch : Int)) ∧ W.cell? ⟨g, 6, none⟩ = some (.int .u64 (s1.next : Int))) (fun j => decide (j < 15)) (by kernel_rfl) (by kernel_rfl) ?_ ?_
    · rintro ⟨a, w, h⟩
      exact absurd h.1 (by intro h; cases h)
    have hSS : W.drew.cell? ⟨tb, 0, none⟩ = some (.slice VA n vc) ∧ W.drew.cell? ⟨pb, 0, none⟩ = some (.pointer (some ⟨g, 0, none⟩)) ∧ W.drew.cell? ⟨g, 8, none⟩ = some (.int .u32 (s1.epoch : Int)) ∧ W.drew.cell? ⟨g, 6, none⟩ = some (.int .u64 (s1.next : Int)) := ⟨y0, y1, y2, y3⟩
    have S11 := S8.drew
    clear S8 S10 y0 y1 y2 y3
    generalize W.drew = W' at hSS S11 ⊢
    simp only [List.size_toArray, List.length_cons, List.length_nil, Nat.reduceAdd, Array.replicate_succ, Array.replicate_zero, List.push_toArray, List.nil_append, List.cons_append]
    refine under_take (i := 0) (v := ?_) rfl (by kernel_rfl) (by kernel_rfl) (fun _ _ _ h => h) _ _ _ _ (by kernel_rfl) (by kernel_rfl) (by kernel_rfl) (Or.inl ⟨by rfl, ?_⟩) hSS ?_
    rotate_left
    · intro w hSw
      obtain ⟨q0, q1, q2, q3⟩ := hSw
      go_simp
      try with_reducible rfl
    simp only [Act.put, List.setIfInBounds_toArray, List.set_cons_zero, List.set_cons_succ, List.getElem_toArray, List.getElem_cons_zero]
    refine under_take (i := 1) (v := ?_) rfl (by kernel_rfl) (by kernel_rfl) (fun _ _ _ h => h) _ _ _ _ (by kernel_rfl) (by kernel_rfl) (by kernel_rfl) (Or.inl ⟨by rfl, ?_⟩) hSS ?_
    rotate_left
    · intro w hSw
      obtain ⟨q0, q1, q2, q3⟩ := hSw
      go_simp
      try with_reducible rfl
    simp only [Act.put, List.setIfInBounds_toArray, List.set_cons_zero, List.set_cons_succ, List.getElem_toArray, List.getElem_cons_zero, List.getElem_cons_succ]
    refine under_take (i := 2) (v := ?_) rfl (by kernel_rfl) (by kernel_rfl) (fun _ _ _ h => h) _ _ _ _ (by kernel_rfl) (by kernel_rfl) (by kernel_rfl) (Or.inl ⟨by rfl, ?_⟩) hSS ?_
    rotate_left
    · intro w hSw
      obtain ⟨q0, q1, q2, q3⟩ := hSw
      go_simp
      try with_reducible rfl
    simp only [Act.put, List.setIfInBounds_toArray, List.set_cons_zero, List.set_cons_succ, List.getElem_toArray, List.getElem_cons_zero, List.getElem_cons_succ]
    refine under_take (i := 3) (v := ?_) rfl (by kernel_rfl) (by kernel_rfl) (fun _ _ _ h => h) _ _ _ _ (by kernel_rfl) (by kernel_rfl) (by kernel_rfl) (Or.inl ⟨by rfl, ?_⟩) hSS ?_
    rotate_left
    · intro w hSw
      obtain ⟨q0, q1, q2, q3⟩ := hSw
      go_simp
      try with_reducible rfl
    simp only [Act.put, List.setIfInBounds_toArray, List.set_cons_zero, List.set_cons_succ, List.getElem_toArray, List.getElem_cons_zero, List.getElem_cons_succ]
    refine under_take (i := 4) (v := ?_) rfl (by kernel_rfl) (by kernel_rfl) (fun _ _ _ h => h) _ _ _ _ (by kernel_rfl) (by kernel_rfl) (by kernel_rfl) (Or.inl ⟨by rfl, ?_⟩) hSS ?_
    rotate_left
    · intro w hSw
      obtain ⟨q0, q1, q2, q3⟩ := hSw
      go_simp
      try with_reducible rfl
    simp only [Act.put, List.setIfInBounds_toArray, List.set_cons_zero, List.set_cons_succ, List.getElem_toArray, List.getElem_cons_zero, List.getElem_cons_succ]
    refine under_take (i := 5) (v := ?_) rfl (by kernel_rfl) (by kernel_rfl) (fun _ _ _ h => h) _ _ _ _ (by kernel_rfl) (by kernel_rfl) (by kernel_rfl) (Or.inl ⟨by rfl, ?_⟩) hSS ?_
    rotate_left
    · intro w hSw
      obtain ⟨q0, q1, q2, q3⟩ := hSw
      go_simp
      try with_reducible rfl
    simp only [Act.put, List.setIfInBounds_toArray, List.set_cons_zero, List.set_cons_succ, List.getElem_toArray, List.getElem_cons_zero, List.getElem_cons_succ]
    refine under_take (i := 6) (v := ?_) rfl (by kernel_rfl) (by kernel_rfl) (fun _ _ _ h => h) _ _ _ _ (by kernel_rfl) (by kernel_rfl) (by kernel_rfl) (Or.inl ⟨by rfl, ?_⟩) hSS ?_
    rotate_left
    · intro w hSw
      obtain ⟨q0, q1, q2, q3⟩ := hSw
      go_simp
      try with_reducible rfl
    simp only [Act.put, List.setIfInBounds_toArray, List.set_cons_zero, List.set_cons_succ, List.getElem_toArray, List.getElem_cons_zero, List.getElem_cons_succ]
    refine under_take (i := 7) (v := ?_) rfl (by kernel_rfl) (by kernel_rfl) (fun _ _ _ h => h) _ _ _ _ (by kernel_rfl) (by kernel_rfl) (by kernel_rfl) (Or.inl ⟨by rfl, ?_⟩) hSS ?_
    rotate_left
    · intro w hSw
      obtain ⟨q0, q1, q2, q3⟩ := hSw
      go_simp
      try with_reducible rfl
    simp only [Act.put, List.setIfInBounds_toArray, List.set_cons_zero, List.set_cons_succ, List.getElem_toArray, List.getElem_cons_zero, List.getElem_cons_succ]
    refine under_take (i := 8) (v := ?_) rfl (by kernel_rfl) (by kernel_rfl) (fun _ _ _ h => h) _ _ _ _ (by kernel_rfl) (by kernel_rfl) (by kernel_rfl) (Or.inl ⟨by rfl, ?_⟩) hSS ?_
    rotate_left
    · intro w hSw
      obtain ⟨q0, q1, q2, q3⟩ := hSw
      go_simp
      try with_reducible rfl
    simp only [Act.put, List.setIfInBounds_toArray, List.set_cons_zero, List.set_cons_succ, List.getElem_toArray, List.getElem_cons_zero, List.getElem_cons_succ]
    refine under_take (i := 9) (v := ?_) rfl (by kernel_rfl) (by kernel_rfl) (fun _ _ _ h => h) _ _ _ _ (by kernel_rfl) (by kernel_rfl) (by kernel_rfl) (Or.inl ⟨by rfl, ?_⟩) hSS ?_
    rotate_left
    · intro w hSw
      obtain ⟨q0, q1, q2, q3⟩ := hSw
      go_simp
      try with_reducible rfl
    simp only [Act.put, List.setIfInBounds_toArray, List.set_cons_zero, List.set_cons_succ, List.getElem_toArray, List.getElem_cons_zero, List.getElem_cons_succ]
    refine under_take (i := 10) (v := ?_) rfl (by kernel_rfl) (by kernel_rfl) (fun _ _ _ h => h) _ _ _ _ (by kernel_rfl) (by kernel_rfl) (by kernel_rfl) (Or.inl ⟨by rfl, ?_⟩) hSS ?_
    rotate_left
    · intro w hSw
      obtain ⟨q0, q1, q2, q3⟩ := hSw
      go_simp
      try with_reducible rfl
    simp only [Act.put, List.setIfInBounds_toArray, List.set_cons_zero, List.set_cons_succ, List.getElem_toArray, List.getElem_cons_zero, List.getElem_cons_succ]
    refine under_take (i := 11) (v := ?_) rfl (by kernel_rfl) (by kernel_rfl) (fun _ _ _ h => h) _ _ _ _ (by kernel_rfl) (by kernel_rfl) (by kernel_rfl) (Or.inl ⟨by rfl, ?_⟩) hSS ?_
    rotate_left
    · intro w hSw
      obtain ⟨q0, q1, q2, q3⟩ := hSw
      go_simp
      try with_reducible rfl
    simp only [Act.put, List.setIfInBounds_toArray, List.set_cons_zero, List.set_cons_succ, List.getElem_toArray, List.getElem_cons_zero, List.getElem_cons_succ]
    refine under_take (i := 12) (v := ?_) rfl (by kernel_rfl) (by kernel_rfl) (fun _ _ _ h => h) _ _ _ _ (by kernel_rfl) (by kernel_rfl) (by kernel_rfl) (Or.inl ⟨by rfl, ?_⟩) hSS ?_
    rotate_left
    · intro w hSw
      obtain ⟨q0, q1, q2, q3⟩ := hSw
      go_simp
      try with_reducible rfl
    simp only [Act.put, List.setIfInBounds_toArray, List.set_cons_zero, List.set_cons_succ, List.getElem_toArray, List.getElem_cons_zero, List.getElem_cons_succ]
    refine under_one (i := 13) (by kernel_rfl) rfl ?_
    intro K hK
    go_simp
    have S12 := S11.boxF 32 #[.int .u32 (s1.epoch : Int), .int .u64 (p.o : Int), .int .u64 (s1.next : Int), .slice UA k uc]
    have hWs : W'.heap.size < (W'.alloc (.cells #[.int .u32 (s1.epoch : Int), .int .u64 (p.o : Int), .int .u64 (s1.next : Int), .slice UA k uc] 32)).heap.size := by simp
    have facts : ∀ {X : World} {nb : Nat} {nc : Array Value} {v' : Value} {n' : Nat} {xs' : List Value}, Sep w0 X (cell nb 32 nc :: cell g 76 (s1.cs vw vg) :: BRow vw s1.wait :: BRow vg s1.got :: row 32 4 v' n' xs' :: cell tb 28 #[.slice VA n vc] :: BRow (.slice UA k uc) p.d :: cell pb 22 #[.pointer (some ⟨g, 0, none⟩)] :: objA l O :: objA D (.deferred (some [])) :: cell ob 85 #[.pointer (some ⟨g, 0, none⟩)] :: (U ++ M)) →
      X.cell? ⟨tb, 0, none⟩ = some (.slice VA n vc) ∧ X.cell? ⟨pb, 0, none⟩ = some (.pointer (some ⟨g, 0, none⟩)) ∧ X.cell? ⟨g, 8, none⟩ = some (.int .u32 (s1.epoch : Int)) ∧ X.cell? ⟨g, 6, none⟩ = some (.int .u64 (s1.next : Int)) :=
      fun h => ⟨(h.blk 5 rfl).at_ 0 rfl, (h.blk 7 rfl).at_ 0 rfl, (h.blk 1 rfl).at_ 8 rfl, (h.blk 1 rfl).at_ 6 rfl⟩
    refine hK _ _ (fun _ => facts S12) ?_
    clear hK K S11 hSS
    generalize W'.heap.size = nb at S12 hWs ⊢
    generalize W'.alloc (.cells #[.int .u32 (s1.epoch : Int), .int .u64 (p.o : Int), .int .u64 (s1.next : Int), .slice UA k uc] 32) = W9 at S12 hWs ⊢
    simp only [List.setIfInBounds_toArray, List.set_cons_zero, List.set_cons_succ]
    refine under_one (i := 14) (by kernel_rfl) rfl ?_
    intro K hK
    obtain ⟨i32, hi32, hz0, hz1, hz2⟩ := info_parts info32
    have hrd : Reads W9 W9.heap.size 4 (some ⟨nb, 0, none⟩) 1 [.int .u32 (s1.epoch : Int), .int .u64 (p.o : Int), .int .u64 (s1.next : Int), .slice UA k uc] := by
      refine ⟨rfl, fun _ => ⟨_, rfl, hWs, fun j x hj => ?_⟩⟩
      have hb := (S12.blk 0 rfl).cell j
      have he : (⟨nb, 0, none⟩ : Addr).add j = ⟨nb, j, none⟩ := by unfold Addr.add; split <;> simp_all
      rw [he, hb, ← Array.getElem?_toList]
      exact hj
    have hone : ∀ x ∈ [Value.int .u32 (s1.epoch : Int), .int .u64 (p.o : Int), .int .u64 (s1.next : Int), .slice UA k uc], x.oneCell' = true := by
      intro x hx
      simp only [List.mem_cons, List.not_mem_nil, or_false] at hx
      rcases hx with rfl | rfl | rfl | rfl <;> rfl
    have hnb : n ≤ 2000 := by rw [← hn, ← List.length_map (·.2), hes]; exact hl
    refine step_append_any _ rfl (.tmp 18) (.tmp 31) 28 rfl 0 32 i32 _ 4 48 Try.underlying28 hi32 hz0 hz1 hz2 rfl (by omega) (.slice VA n vc) n (entP es) rfl (S12.own 4 rfl) _ (some ⟨nb, 0, none⟩) 1 1 _ rfl hrd hone (by unfold maxLen; omega) (by omega) (Nat.zero_le _) ?_
    intro v1 w1 hown hg hat
    have S13 := S12.pushed 4 rfl hown hg hat
    refine hK _ _ (fun _ => facts S13) ?_
    clear hK K hown hg hat hrd S12 facts
    obtain ⟨a1, c1, hv1, -, -⟩ := own_slice (S13.own 4 rfl)
    subst hv1
    have k0 := (S13.blk 5 rfl).at_ 0 rfl
    have z0 := (S13.blk 5 rfl).frozen 0
    have S14 := S13.put 5 rfl 0 (.slice a1 (n + 1) c1)
    clear S13
    simp only [Act.put, List.setIfInBounds_toArray, List.set_cons_zero, List.set_cons_succ, List.getElem_toArray, List.getElem_cons_zero, List.getElem_cons_succ]
    refine under_one (i := 15) (by kernel_rfl) rfl ?_
    intro K hK
    go_simp
    refine hK _ _ (fun h => by cases h) ?_
    refine under_done (by kernel_rfl) ?_ _
    refine ⟨rfl, ?_⟩
    have S15 : Sep w0 (w1.setCell ⟨tb, 0, none⟩ (.slice a1 (n + 1) c1)) (LinkAt g s1 :: row 32 4 (.slice a1 (n + 1) c1) (n + 1) (entP es ++ Pk.cells p (.slice UA k uc)) :: cell tb 28 #[.slice a1 (n + 1) c1] :: BRow (.slice UA k uc) p.d :: cell pb 22 #[.pointer (some ⟨g, 0, none⟩)] :: objA l O :: objA D (.deferred (some [])) :: cell ob 85 #[.pointer (some ⟨g, 0, none⟩)] :: (U ++ M)) := by
      have h := S14.tail
      have hc : Pk.cells p (.slice UA k uc) = [.int .u32 (s1.epoch : Int), .int .u64 (p.o : Int), .int .u64 (s1.next : Int), .slice UA k uc] := by unfold Pk.cells; rw [he, ha]
      rw [hc]
      exact Sep.closeL h
    have S16 := S15.perm (perm_told _ _ _ _ _ _ _ _ U M)
    rw [← hUq] at S16
    have S17 := (pk_push hes hds (by rw [hn]; exact S16)).swap
    have S18 := S17.closeT (by intro h; simp at h)
    exact S18.perm (perm_back6 _ _ _ _ _ _ _)
  case hit =>
    intro l D O W1 hS1 hY
    refine pieces_any 99 l D g ob 2000 O (fun ps => restT g w.heap.size tb ps M) ?_ (lateS s) [] hI' hlen hS1
    intro s1 ps u p W he ha hl hSW
    exact hY (s1, ps, some (u, p)) (u, p) W hSW ⟨rfl, he, ha, hl⟩
  case done =>
    intro l D O W hSW
    obtain ⟨pb, hpb⟩ : ∃ pb, w.heap.size = pb := ⟨_, rfl⟩
    rw [hpb] at hSW ⊢
    clear hpb
    replace hSW : Sep w0 W (objA l O :: objA D (.deferred (some [])) :: LinkAt g (pieces (lateS s)).1 :: cell ob 85 #[.pointer (some ⟨g, 0, none⟩)] :: toldA tb (pieces (lateS s)).2 :: cell pb 22 #[.pointer (some ⟨g, 0, none⟩)] :: M) := hSW
    have hfin : Hid (∀ v W', Sep w0 W' (PkX v (told (pieces (lateS s))) :: LinkAt g { (pieces (lateS s)).1 with owes := false } :: M) → Sep w0 W' (PkX v (tickP s) :: LinkAt g (tickS s) :: M)) := Lib.hid fun v W' h => h
    clear S4 htb hob
    generalize pieces (lateS s) = t at hSW hfin
    obtain ⟨s2, ps⟩ := t
    simp only at hSW hfin
    obtain ⟨v, hv0, S5⟩ := (hSW.perm (perm_done _ _ _ _ _ _ M)).openT
    have S6 : Sep w0 W (LinkAt g s2 :: cell tb 28 #[v] :: objA D (.deferred (some [])) :: cell pb 22 #[.pointer (some ⟨g, 0, none⟩)] :: PkX v ps :: objA l O :: cell ob 85 #[.pointer (some ⟨g, 0, none⟩)] :: M) := S5.perm (perm_done2 _ _ _ _ _ _ _ M)
    clear S5 hSW
    obtain ⟨vw, vg, S7⟩ := S6.openL
    clear S6
    have x0 : W.cell? ⟨pb, 0, none⟩ = some (.pointer (some ⟨g, 0, none⟩)) := (S7.blk 5 rfl).at_ 0 rfl
    have x1 : W.cell? ⟨tb, 0, none⟩ = some v := (S7.blk 3 rfl).at_ 0 rfl
    have x2 : W.cell? ⟨g, 7, none⟩ = some (.bool s2.owes) := (S7.blk 0 rfl).at_ 7 rfl
    have z2 := (S7.blk 0 rfl).frozen 7
    by_cases hps : ps = []
    · subst hps
      have hv := hv0 rfl
      subst hv
      have heq := fun w => Lib.run_eql_slice_nil (P := Try.prog) w 28 32 none 0 0 0 0 Try.underlying28
      have hne := fun w => neq_slice_nil w 28 32 none 0 0 Try.underlying28
      obtain ⟨ow, how⟩ : ∃ ow, s2.owes = ow := ⟨_, rfl⟩
      rw [how] at x2
      cases ow with
      | true =>
        have y0 : W.cell? ⟨g, 8, none⟩ = some (.int .u32 (s2.epoch : Int)) := (S7.blk 0 rfl).at_ 8 rfl
        have y1 : W.cell? ⟨g, 2, none⟩ = some (.int .u64 (s2.sent : Int)) := (S7.blk 0 rfl).at_ 2 rfl
        have y2 : W.cell? ⟨g, 6, none⟩ = some (.int .u64 (s2.next : Int)) := (S7.blk 0 rfl).at_ 6 rfl
        have z1 := (S7.blk 3 rfl).frozen 0
        obtain ⟨W2, hW2, S8⟩ := S7.drew.boxedF 32 #[.int .u32 (s2.epoch : Int), .int .u64 (s2.sent : Int), .int .u64 (s2.next : Int), .slice none 0 0]
        obtain ⟨nb, hnb⟩ : ∃ nb, W.drew.heap.size = nb := ⟨_, rfl⟩
        rw [hnb] at S8
        have z3 := (S8.blk 4 rfl).frozen 0
        have z4 := (S8.blk 4 rfl).at_ 0 rfl
        have S9 := S8.put 4 rfl 0 (.slice (some ⟨nb, 0, none⟩) 1 1)
        obtain ⟨W3, hW3⟩ : ∃ W3, W2.setCell ⟨tb, 0, none⟩ (.slice (some ⟨nb, 0, none⟩) 1 1) = W3 := ⟨_, rfl⟩
        rw [hW3] at S9
        have u0 : W3.cell? ⟨pb, 0, none⟩ = some (.pointer (some ⟨g, 0, none⟩)) := (S9.blk 6 rfl).at_ 0 rfl
        have u1 : W3.cell? ⟨tb, 0, none⟩ = some (.slice (some ⟨nb, 0, none⟩) 1 1) := (S9.blk 4 rfl).at_ 0 rfl
        have u2 : W3.cell? ⟨g, 7, none⟩ = some (.bool s2.owes) := (S9.blk 1 rfl).at_ 7 rfl
        have u3 := (S9.blk 1 rfl).frozen 7
        have S10 := S9.put 1 rfl 7 (.bool false)
        have hK := S10.obj 5 rfl
        have u4 : (W3.setCell ⟨g, 7, none⟩ (.bool false)).cell? ⟨tb, 0, none⟩ = some (.slice (some ⟨nb, 0, none⟩) 1 1) := (S10.blk 4 rfl).at_ 0 rfl
        have heq2 := fun w => Lib.run_eql_slice_nil (P := Try.prog) w 28 32 (some ⟨nb, 0, none⟩) 1 1 0 0 Try.underlying28
        have hne2 := fun w => neq_slice_nil w 28 32 (some ⟨nb, 0, none⟩) 1 1 Try.underlying28
        have HS := Lib.hid S10
        have HK := Lib.hid hK
        clear S7 S8 S9 S10 hK
        go_upto_region 10 with (fail)
        go_still_tail 15, (by kernel_rfl)
        go_wp2_with fail
        refine ⟨by simp, .inl ⟨_, _, rfl, run_takeDeferred HK.out, ?_⟩⟩
        refine ⟨_, results_tmp rfl _ _ _, ?_⟩
        refine ⟨_, rfl, hfin.out _ _ ?_⟩
        have S11 := HS.out.putObj (o' := .deferred none) 5 rfl
        have S12 := ((((((S11.drop 4).drop 4).drop 4).drop 4).drop 4).drop 4)
        have S13 : Sep w0 _ (cell g 76 (({ s2 with owes := false } : LS).cs vw vg) :: BRow vw s2.wait :: BRow vg s2.got :: cell nb 32 #[.int .u32 (s2.epoch : Int), .int .u64 (s2.sent : Int), .int .u64 (s2.next : Int), .slice none 0 0] :: M) := S12.perm (List.perm_middle (a := cell nb 32 _) (l₁ := [cell g 76 (({ s2 with owes := false } : LS).cs vw vg), BRow vw s2.wait, BRow vg s2.got])).symm
        have S14 := (Sep.closeL (s := { s2 with owes := false }) S13).swap
        have S15 := Sep.closeRow (size := 4) (n := 1) (c := 1) (xs := [.int .u32 (s2.epoch : Int), .int .u64 (s2.sent : Int), .int .u64 (s2.next : Int), .slice none 0 0]) S14 rfl (Nat.le_refl _) (by unfold maxLen; omega) rfl rfl
        have S16 := pk_push (es := []) (ds := []) (ps := []) (p := ⟨s2.epoch, s2.sent, s2.next, []⟩) (u := .slice none 0 0) rfl (fun _ h => by cases h) S15.nilB
        have e1 : told (s2, []) = [⟨s2.epoch, s2.sent, s2.next, []⟩] := by unfold told; rw [if_pos rfl, if_pos how]
        rw [e1]
        exact S16
      | false =>
        go_wp2_with fail
        refine ⟨by simp, .inl ⟨_, _, rfl, run_takeDeferred (S7.obj 4 rfl), ?_⟩⟩
        refine ⟨_, results_tmp rfl _ _ _, ?_⟩
        refine ⟨_, rfl, hfin.out _ _ ?_⟩
        have S8 := (S7.putObj (o' := .deferred none) 4 rfl).closeL
        have S9 := ((((S8.drop 1).drop 1).drop 1).drop 2).drop 2
        have e1 : told (s2, []) = [] := by unfold told; rw [if_pos rfl, how]; rfl
        have e2 : { s2 with owes := false } = s2 := by rw [← how]
        rw [e1]
        simp only [e2]
        exact S9.swap
    · have hpl : 0 < ps.length := List.length_pos_iff.2 hps
      obtain ⟨A, c, hv, -, -, hpr⟩ := S7.pr 6 rfl
      obtain ⟨ad, hA⟩ : ∃ ad, A = some ad := by
        obtain ⟨b, o, -, -, hA, -⟩ := hpr.elem (k := 0) (List.getElem?_eq_getElem hpl)
        exact ⟨_, hA⟩
      subst hA
      obtain ⟨n, hn⟩ : ∃ n, ps.length = n := ⟨_, rfl⟩
      rw [hn] at hv
      subst hv
      have heq := fun w => Lib.run_eql_slice_nil (P := Try.prog) w 28 32 (some ad) n c 0 0 Try.underlying28
      have hne := fun w => neq_slice_nil w 28 32 (some ad) n c Try.underlying28
      have HS := Lib.hid (S7.put 0 rfl 7 (.bool false))
      clear S7 hpr hpl hn
      go_wp2_with fail
      refine ⟨by simp, .inl ⟨_, _, rfl, run_takeDeferred (HS.out.obj 4 rfl), ?_⟩⟩
      refine ⟨_, results_tmp rfl _ _ _, ?_⟩
      refine ⟨_, rfl, hfin.out _ _ ?_⟩
      have S8 := Sep.closeL (s := { s2 with owes := false }) (vw := vw) (vg := vg) (HS.out.putObj (o' := .deferred none) 4 rfl)
      have S9 := ((((S8.drop 1).drop 1).drop 1).drop 2).drop 2
      have e1 : told (s2, ps) = ps := by unfold told; rw [if_neg hps]
      rw [e1]
      exact S9.swap
/-- Tick, whatever comes -/
theorem tick_any {g : Nat} {s : LS} (hI : Inv s) (ht : s.ticks ≤ 1000) (i : Nat) (hi : L[i]? = some (LinkAt g s)) (hS : Sep w0 w L) :
    Calls Try.prog 12 #[.pointer (some ⟨g, 0, none⟩)] w fun en w' => ∃ v, en = .returned v ∧ Sep w0 w' (PkX v (tickP s) :: L.set i (LinkAt g (tickS s))) :=
  (tick_in g s hI ht (hS.pick i hi)).mono fun _ _ ⟨v, he, h⟩ => ⟨v, he, h.perm (.cons _ (perm_back hi _))⟩
theorem tick_nil (w : World) : Calls Try.prog 12 #[.pointer none] w fun en w' => en = .returned (.slice none 0 0) ∧ Below w.heap.size w w' := by
  obtain ⟨W1, hW1, hB1, hb, -⟩ := boxes1 w #[.pointer none] 22
  have x0 : W1.cell? ⟨w.heap.size, 0, none⟩ = some (.pointer none) := hB1.at_ 0 rfl
  go_enter Try.func12, Try.ntmps12
  go_wp2_with fail
  go_ret
  exact ⟨rfl, hb⟩
end
end Go.Proofs.Ytpgiljjjpijepaa
