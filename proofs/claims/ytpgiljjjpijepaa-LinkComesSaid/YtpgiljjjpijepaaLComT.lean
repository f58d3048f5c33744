/- LinkComes' plain part: a turn: what is told, what comes, what it makes of the links. -/
import Derived.Test.YtpgiljjjpijepaaLComN
namespace Go.Proofs.Ytpgiljjjpijepaa
/-- of packets of one key no more than three are lost one behind the other -/
abbrev Key := Bool × Bool × Nat
def keyOf (y : Bool × Pk) : Key := (y.1, decide (0 < y.2.d.length), if 0 < y.2.d.length then y.2.o else 0)
abbrev Rws := Key → Nat
def setR (r : Rws) (k : Key) (x : Nat) : Rws := fun j => if j = k then x else r j
theorem setR_self (r : Rws) (k : Key) (x : Nat) : setR r k x k = x := if_pos rfl
theorem setR_ne (r : Rws) {k j : Key} (x : Nat) (h : j ≠ k) : setR r k x j = r j := if_neg h
/-- which packets come; the rows, and how many there were, behind them -/
def fate (ld : Nat → Bool) : Rws → Nat → List (Bool × Pk) → List (Bool × Pk) × Rws × Nat
  | r, n, [] => ([], r, n)
  | r, n, y :: ys => if ld (n + 1) = true ∧ r (keyOf y) < 3 then fate ld (setR r (keyOf y) (r (keyOf y) + 1)) (n + 1) ys
    else (y :: (fate ld (setR r (keyOf y) 0) (n + 1) ys).1, (fate ld (setR r (keyOf y) 0) (n + 1) ys).2)
section
variable {ld : Nat → Bool}
theorem fate_sub : ∀ (ys : List (Bool × Pk)) (r : Rws) (n : Nat), ∀ y ∈ (fate ld r n ys).1, y ∈ ys
  | [], _, _, _, h => h
  | x :: ys, r, n, y, h => by
    unfold fate at h
    split at h
    · exact List.mem_cons_of_mem _ (fate_sub ys _ _ y h)
    · rcases List.mem_cons.1 h with rfl | h
      · exact List.mem_cons_self
      · exact List.mem_cons_of_mem _ (fate_sub ys _ _ y h)
theorem fate_le : ∀ (ys : List (Bool × Pk)) (r : Rws) (n : Nat), (∀ k, r k ≤ 3) → ∀ k, (fate ld r n ys).2.1 k ≤ 3
  | [], _, _, h, k => h k
  | x :: ys, r, n, h, k => by
    unfold fate
    split
    · rename_i hc
      refine fate_le ys _ _ (fun j => ?_) k
      unfold setR
      split
      · omega
      · exact h j
    · refine fate_le ys _ _ (fun j => ?_) k
      unfold setR
      split
      · omega
      · exact h j
theorem fate_none (k : Key) : ∀ (ys : List (Bool × Pk)) (r : Rws) (n : Nat), (∀ y ∈ ys, keyOf y ≠ k) → (fate ld r n ys).2.1 k = r k
  | [], _, _, _ => rfl
  | x :: ys, r, n, h => by
    have h1 := h x List.mem_cons_self
    have h2 := fun y hy => h y (List.mem_cons_of_mem _ hy)
    unfold fate
    split
    · rw [fate_none k ys _ _ h2, setR_ne _ _ (Ne.symm h1)]
    · show (fate ld (setR r (keyOf x) 0) (n + 1) ys).2.1 k = r k
      rw [fate_none k ys _ _ h2, setR_ne _ _ (Ne.symm h1)]
theorem fate_one (k : Key) (y : Bool × Pk) (bs : List (Bool × Pk)) (hy : keyOf y = k) (hb : ∀ x ∈ bs, keyOf x ≠ k) : ∀ (us : List (Bool × Pk)) (r : Rws) (n : Nat), (∀ x ∈ us, keyOf x ≠ k) →
    y ∈ (fate ld r n (us ++ y :: bs)).1 ∨ (r k < 3 ∧ (fate ld r n (us ++ y :: bs)).2.1 k = r k + 1)
  | [], r, n, _ => by
    rw [List.nil_append]
    unfold fate
    split
    · rename_i hc
      right
      rw [hy] at hc ⊢
      rw [fate_none k bs _ _ hb, setR_self]
      exact ⟨hc.2, rfl⟩
    · left
      exact List.mem_cons_self
  | x :: us, r, n, h => by
    have h1 := h x List.mem_cons_self
    have h2 := fun y hy => h y (List.mem_cons_of_mem _ hy)
    rw [List.cons_append]
    unfold fate
    split
    · have := fate_one k y bs hy hb us (setR r (keyOf x) (r (keyOf x) + 1)) (n + 1) h2
      rw [setR_ne _ _ (Ne.symm h1)] at this
      exact this
    · have := fate_one k y bs hy hb us (setR r (keyOf x) 0) (n + 1) h2
      rw [setR_ne _ _ (Ne.symm h1)] at this
      exact this.imp (fun h => List.mem_cons_of_mem _ h) id
end
/-! what a tick tells -/
def due (L : LS) : Nat := if L.sent = L.base then 0 else 4 - L.ticks
theorem piece_size : ∀ (m : Nat) (s : LS), s.base + 1024 - s.sent ≤ m → s.base ≤ s.sent → ∀ q ∈ (pieces s).2, q.d.length = min (min (s.wait.length - (q.o - s.base)) 256) (1024 - (q.o - s.base))
  | 0, s, h, hlo => by
    have h0 : kOf s = 0 := by unfold kOf; omega
    rw [pieces_none h0]
    exact fun q hq => by cases hq
  | m + 1, s, h, hlo => by
    by_cases h0 : kOf s = 0
    · rw [pieces_none h0]
      exact fun q hq => by cases hq
    · rw [pieces_more h0]
      intro q hq
      have hk' : min (min (s.wait.length - (s.sent - s.base)) 256) (1024 - (s.sent - s.base)) = kOf s := rfl
      have e1 : (pieceS s).sent = s.sent + kOf s := rfl
      have e3 : (pieceS s).base = s.base := rfl
      rcases List.mem_cons.1 hq with rfl | hq
      · have ho : (pieceP s).o = s.sent := rfl
        rw [ho, hk']
        unfold pieceP
        rw [List.length_take, List.length_drop]
        omega
      · exact piece_size m (pieceS s) (by rw [e1, e3]; omega) (by rw [e1, e3]; omega) q hq
structure Tells (L : LS) : Prop where
  far : ∀ q ∈ tickP L, 0 < q.d.length → min (L.base + 256) (L.base + L.wait.length) ≤ q.o + q.d.length
  now : due L = 0 → ∃ q0 qs, tickP L = q0 :: qs ∧ q0.o = L.base ∧ 0 < q0.d.length ∧ ∀ q ∈ qs, q.o ≠ L.base
  wait : due L ≠ 0 → (∀ q ∈ tickP L, 0 < q.d.length → q.o ≠ L.base) ∧ due (tickS L) + 1 = due L
  le : due (tickS L) ≤ 4
theorem tells_of {e : Nat} {L : LS} {wr : List Nat} (h : LInv e L wr) (hw : 0 < L.wait.length) : Tells L := by
  obtain ⟨s1, hs1⟩ : ∃ s, lateS L = s := ⟨_, rfl⟩
  obtain ⟨a1, a2, a3, a4, a5, a6, a7, a8, a9⟩ := late_same L
  rw [hs1] at a1 a2 a3 a4 a5 a6 a7 a8 a9
  have hlo := h.lo
  have htk := h.tk
  have hlo1 : s1.base ≤ s1.sent := by omega
  obtain ⟨b1, b2⟩ := pieces_told (s1.base + 1024 - s1.sent) s1 (Nat.le_refl _) hlo1
  have b3 := piece_size (s1.base + 1024 - s1.sent) s1 (Nat.le_refl _) hlo1
  have hS : tickS L = { (pieces s1).1 with owes := false } := by unfold tickS; rw [hs1]
  have hP : tickP L = told (pieces s1) := by unfold tickP; rw [hs1]
  have hsent : (tickS L).sent = (pieces s1).1.sent := by rw [hS]
  have hbase : (tickS L).base = L.base := by rw [hS]; show (pieces s1).1.base = _; rw [b1.base, a2]
  have hticks : (tickS L).ticks = s1.ticks := by rw [hS]; exact b1.ticks
  have hlow := b1.lo
  -- who is told, with data, is a piece
  have piece : ∀ q ∈ tickP L, 0 < q.d.length → q ∈ (pieces s1).2 := by
    intro q hq h0
    rw [hP] at hq
    unfold told at hq
    split at hq
    · split at hq
      · rw [List.mem_singleton] at hq
        subst hq
        exact absurd h0 (by simp)
      · cases hq
    · exact hq
  refine ⟨fun q hq h0 => ?_, fun hd => ?_, fun hd => ⟨fun q hq h0 => ?_, ?_⟩, ?_⟩
  · have hp := piece q hq h0
    have h1 := b3 q hp
    have h2 := (b2 q hp).lo
    rw [a1, a2] at h1
    omega
  · have hs : s1.sent = L.base := by
      unfold due at hd
      rw [← hs1]
      unfold lateS
      split at hd
      · rename_i hc
        rw [if_pos hc]
        exact hc
      · rename_i hc
        rw [if_neg hc, if_pos (by omega)]
    have hk : kOf s1 ≠ 0 := by unfold kOf; rw [a1, a2, hs]; omega
    have hpp := pieces_more hk
    refine ⟨pieceP s1, (pieces (pieceS s1)).2, ?_, hs, ?_, fun q hq => ?_⟩
    · rw [hP, hpp]
      unfold told
      rw [if_neg (by simp)]
    · unfold pieceP
      rw [List.length_take, List.length_drop, a1, a2, hs]
      omega
    · have e1 : (pieceS s1).sent = s1.sent + kOf s1 := rfl
      have e3 : (pieceS s1).base = s1.base := rfl
      obtain ⟨-, c2⟩ := pieces_told ((pieceS s1).base + 1024 - (pieceS s1).sent) (pieceS s1) (Nat.le_refl _) (by rw [e1, e3]; omega)
      have := (c2 q hq).lo
      rw [e1] at this
      omega
  · have h2 := (b2 q (piece q hq h0)).lo
    have hne : L.sent ≠ L.base := fun hc => hd (by unfold due; rw [if_pos hc])
    have hs : s1.sent = L.sent := by
      unfold due at hd
      rw [if_neg hne] at hd
      rw [← hs1]
      unfold lateS
      rw [if_neg hne, if_neg (by omega)]
    omega
  · have hne : L.sent ≠ L.base := fun hc => hd (by unfold due; rw [if_pos hc])
    have hd2 : due L = 4 - L.ticks := by unfold due; rw [if_neg hne]
    have hs : s1 = { L with ticks := L.ticks + 1 } := by
      rw [← hs1]
      unfold lateS
      rw [if_neg hne, if_neg (by omega)]
    have hs2 : s1.sent = L.sent := by rw [hs]
    have hs3 : s1.ticks = L.ticks + 1 := by rw [hs]
    unfold due at hd ⊢
    rw [if_neg hne] at hd
    rw [if_neg (show ¬ (tickS L).sent = (tickS L).base by omega), if_neg hne]
    omega
  · unfold due
    split
    · exact Nat.zero_le _
    · omega
theorem tells_still {e : Nat} {L : LS} {wr : List Nat} (h : LInv e L wr) (hw : L.wait.length = 0) : tickP L = if L.owes = true then [⟨L.epoch, L.sent, L.next, []⟩] else [] := by
  have h1 := h.wlen
  have h2 := h.lo
  have h3 := h.sm
  have h4 := h.mw
  have hs : L.sent = L.base := by omega
  have hl : lateS L = L := by unfold lateS; exact if_pos hs
  have hk : kOf L = 0 := by unfold kOf; omega
  unfold tickP
  rw [hl, pieces_none hk]
  rfl
/-! what comes -/
structure Came (e : Nat) (L L' : LS) (wr rd : List Nat) (O : LS) (wo : List Nat) (N : Nat) (qs : List Pk) : Prop where
  l : LInv e L' wr
  c : CInv L' rd O wo
  most : L'.most = L.most
  base : L'.base = if qs = [] then L.base else max L.base N
  next : L.next ≤ L'.next
  far : L'.next = L.next ∨ ∃ q ∈ qs, 0 < q.d.length ∧ q.o + q.d.length ≤ L'.next
  here : ∀ q ∈ qs, 0 < q.d.length → q.o ≤ L.next → q.o + q.d.length ≤ L'.next
  owes : (∃ q ∈ qs, 0 < q.d.length) → L'.owes = true
  still : (∀ q ∈ qs, q.d.length = 0) → L'.owes = L.owes
  same : L'.base = L.base → L'.sent = L.sent ∧ L'.ticks = L.ticks
theorem came_one {e : Nat} {L : LS} {wr rd : List Nat} {O : LS} {wo : List Nat} {N : Nat} (hwo : wo.length ≤ 1000000) (hL : LInv e L wr) (hC : CInv L rd O wo) (hN : N ≤ L.most) (q : Pk) (hq : KInv e O wo q) (ha : q.a = N) : Came e L (takeS L q) wr rd O wo N [q] := by
  have he : ¬ q.e ≠ L.epoch := by rw [hq.ep, hL.ep]; simp
  have hS : takeS L q = comeS (confS L q.a) q.o q.d := by unfold takeS; rw [if_neg he, if_neg (by omega)]
  obtain ⟨f1, f2, f3, f4, f5, f6⟩ := conf_facts hL q.a (by omega)
  have hc2 : CInv (confS L q.a) rd O wo := ⟨by rw [f4, f3]; exact hC.got, by rw [f3]; exact hC.nx, by rw [f3]; exact hC.bn, by rw [f4]; exact hC.gl⟩
  obtain ⟨g1, g2, g3, g4, g5, g6, g7, g8⟩ := come_facts hc2 q hq.om hq.d
  have hb : (takeS L q).base = max L.base N := by rw [hS, g3, f2, ha]
  have hroom : L.got.length + q.d.length ≤ 1048576 := by
    have h1 := congrArg List.length hC.got
    rw [List.length_append, List.length_take] at h1
    have := hq.len
    omega
  have hnx : (takeS L q).next = if q.d.length = 0 then L.next else if L.next < q.o ∨ q.d.length ≤ L.next - q.o then L.next else q.o + q.d.length := by
    rw [hS]
    unfold comeS
    rw [f3, f4]
    split
    · exact f3
    · split
      · rfl
      · rename_i hx
        rw [if_neg (by omega)]
        show L.next + (q.d.length - (L.next - q.o)) = _
        omega
  have how : (takeS L q).owes = if q.d.length = 0 then L.owes else true := by
    rw [hS]
    unfold comeS
    split
    · exact f6
    · split
      · rfl
      · split
        · rfl
        · rfl
  refine ⟨?_, by rw [hS]; exact g1, by rw [hS, g5, f5], by rw [hb, if_neg (by simp)], ?_, ?_, ?_, ?_, ?_, ?_⟩
  · rw [hS]
    exact ⟨by rw [g8]; exact f1.ep, by rw [g3, g4]; exact f1.lo, by rw [g4, g5]; exact f1.sm, by rw [g5]; exact f1.mw, by rw [g3, g4]; exact f1.win, by rw [g6, g3]; exact f1.wait, by rw [g6]; exact f1.wl, by rw [g7]; exact f1.tk⟩
  · rw [hnx]
    split
    · exact Nat.le_refl _
    · split <;> omega
  · rw [hnx]
    split
    · exact .inl rfl
    · split
      · exact .inl rfl
      · exact .inr ⟨q, List.mem_singleton.2 rfl, by omega, Nat.le_refl _⟩
  · intro x hx h0 ho
    rw [List.mem_singleton] at hx
    subst hx
    rw [hnx, if_neg (by omega)]
    split <;> omega
  · rintro ⟨x, hx, h0⟩
    rw [List.mem_singleton] at hx
    subst hx
    rw [how, if_neg (by omega)]
  · intro h0
    rw [how, if_pos (h0 q (List.mem_singleton.2 rfl))]
  · intro hbb
    have hcf : confS L q.a = L := by
      unfold confS
      rw [if_neg (by omega), if_pos (by omega)]
    rw [hS, g4, g7, hcf]
    exact ⟨rfl, rfl⟩
theorem came_all {e : Nat} {wr rd : List Nat} {O : LS} {wo : List Nat} {N : Nat} (hwo : wo.length ≤ 1000000) : ∀ (qs : List Pk) (L : LS), LInv e L wr → CInv L rd O wo → N ≤ L.most → (∀ q ∈ qs, KInv e O wo q ∧ q.a = N) → Came e L (qs.foldl takeS L) wr rd O wo N qs
  | [], L, hL, hC, _, _ => ⟨hL, hC, rfl, (if_pos rfl).symm, Nat.le_refl _, .inl rfl, fun _ h => (by cases h), fun ⟨_, h, _⟩ => (by cases h), fun _ => rfl, fun _ => ⟨rfl, rfl⟩⟩
  | q :: qs, L, hL, hC, hN, hq => by
    obtain ⟨k1, k2⟩ := hq q List.mem_cons_self
    have a := came_one hwo hL hC hN q k1 k2
    have b := came_all hwo qs (takeS L q) a.l a.c (by rw [a.most]; exact hN) fun x hx => hq x (List.mem_cons_of_mem _ hx)
    have ab := a.base
    rw [if_neg (by simp)] at ab
    have bb := b.base
    have an := a.next
    have bn := b.next
    rw [List.foldl_cons]
    have hbase : (qs.foldl takeS (takeS L q)).base = max L.base N := by
      rw [bb]
      split <;> omega
    refine ⟨b.l, b.c, b.most.trans a.most, by rw [hbase, if_neg (by simp)], Nat.le_trans an bn, ?_, ?_, ?_, ?_, ?_⟩
    · rcases b.far with h | ⟨x, hx, h0, h1⟩
      · rw [h]
        rcases a.far with h2 | ⟨x, hx, h0, h1⟩
        · exact .inl h2
        · rw [List.mem_singleton] at hx
          subst hx
          exact .inr ⟨x, List.mem_cons_self, h0, h1⟩
      · exact .inr ⟨x, List.mem_cons_of_mem _ hx, h0, h1⟩
    · intro x hx h0 ho
      rcases List.mem_cons.1 hx with rfl | hx
      · exact Nat.le_trans (a.here x (List.mem_singleton.2 rfl) h0 ho) bn
      · exact b.here x hx h0 (by omega)
    · rintro ⟨x, hx, h0⟩
      rcases List.mem_cons.1 hx with rfl | hx
      · have h1 := a.owes ⟨x, List.mem_singleton.2 rfl, h0⟩
        by_cases hr : ∃ z ∈ qs, 0 < z.d.length
        · exact b.owes hr
        · rw [b.still fun z hz => Nat.eq_zero_of_not_pos fun hp => hr ⟨z, hz, hp⟩]
          exact h1
      · exact b.owes ⟨x, hx, h0⟩
    · intro h0
      rw [b.still fun x hx => h0 x (List.mem_cons_of_mem _ hx), a.still fun x hx => by rw [List.mem_singleton] at hx; subst hx; exact h0 x List.mem_cons_self]
    · intro hbb
      obtain ⟨x1, x2⟩ := b.same (by rw [hbase] at hbb ⊢; omega)
      obtain ⟨y1, y2⟩ := a.same (by rw [hbase] at hbb; omega)
      exact ⟨x1.trans y1, x2.trans y2⟩
end Go.Proofs.Ytpgiljjjpijepaa
