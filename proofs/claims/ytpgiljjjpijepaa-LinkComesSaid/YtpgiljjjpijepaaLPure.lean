/- What holds of two links and what is between them, behind whatever steps. -/
import Derived.Test.YtpgiljjjpijepaaLStepIn
namespace Go.Proofs.Ytpgiljjjpijepaa
/-- of a link and what it wrote -/
structure LInv (e : Nat) (L : LS) (wr : List Nat) : Prop where
  ep : L.epoch = e
  lo : L.base ≤ L.sent
  sm : L.sent ≤ L.most
  mw : L.most ≤ wr.length
  win : L.sent ≤ L.base + 1024
  wait : L.wait = wr.drop L.base
  wl : L.wait.length ≤ 1048576
  tk : L.ticks ≤ 4
/-- of a link that takes what the other one (O) wrote (wo) -/
structure CInv (L : LS) (rd : List Nat) (O : LS) (wo : List Nat) : Prop where
  got : rd ++ L.got = wo.take L.next
  nx : L.next ≤ O.most
  bn : O.base ≤ L.next
  gl : L.got.length ≤ 1048576
/-- of a packet of O -/
structure KInv (e : Nat) (O : LS) (wo : List Nat) (q : Pk) : Prop where
  ep : q.e = e
  a : q.a ≤ O.next
  om : q.o + q.d.length ≤ O.most
  d : q.d = (wo.drop q.o).take q.d.length
  len : q.d.length ≤ 256
structure PInv (e : Nat) (p : PS) : Prop where
  l : ∀ s, LInv e (p.l s) (p.wr s)
  c : ∀ s, CInv (p.l s) (p.rd s) (p.l (!s)) (p.wr (!s))
  k : ∀ y ∈ p.ws, KInv e (p.l (!y.1)) (p.wr (!y.1)) y.2
theorem drop_take_of {wo : List Nat} (o n : Nat) : (wo.drop o).take n = (wo.take (o + n)).drop o := by
  rw [List.drop_take]
  congr 1
  omega
theorem LInv.wlen {e : Nat} {L : LS} {wr : List Nat} (h : LInv e L wr) : L.base + L.wait.length = wr.length := by
  have := h.lo; have := h.sm; have := h.mw
  rw [h.wait, List.length_drop]
  omega
theorem KInv.mono {e : Nat} {O O' : LS} {wo wo' : List Nat} {q : Pk} (h : KInv e O wo q) (h1 : O.next ≤ O'.next) (h2 : O.most ≤ O'.most) (h3 : ∀ k, k ≤ O.most → wo'.take k = wo.take k) : KInv e O' wo' q :=
  ⟨h.ep, Nat.le_trans h.a h1, Nat.le_trans h.om h2, by rw [drop_take_of, h3 _ h.om, ← drop_take_of]; exact h.d, h.len⟩
theorem CInv.sender {L : LS} {rd : List Nat} {O O' : LS} {wo wo' : List Nat} (h : CInv L rd O wo) (h1 : O'.base ≤ L.next) (h2 : O.most ≤ O'.most) (h3 : ∀ k, k ≤ O.most → wo'.take k = wo.take k) : CInv L rd O' wo' :=
  ⟨by rw [h3 _ h.nx]; exact h.got, Nat.le_trans h.nx h2, h1, h.gl⟩
theorem not_ne {s u : Bool} (h : u ≠ s) : u = !s := by cases s <;> cases u <;> simp_all
theorem PInv.put {e : Nat} {p : PS} (s : Bool) (L' : LS) (wr' rd' : List Nat) (ws' : List (Bool × Pk)) (hP : PInv e p) (hl : LInv e L' wr') (hc1 : CInv L' rd' (p.l (!s)) (p.wr (!s))) (hc2 : CInv (p.l (!s)) (p.rd (!s)) L' wr')
    (hk : ∀ y ∈ ws', (y.1 = (!s) → KInv e L' wr' y.2) ∧ (y.1 = s → KInv e (p.l (!s)) (p.wr (!s)) y.2)) : PInv e ⟨upd p.l s L', upd p.wr s wr', upd p.rd s rd', ws'⟩ := by
  refine ⟨fun u => ?_, fun u => ?_, fun y hy => ?_⟩
  · show LInv e (upd p.l s L' u) (upd p.wr s wr' u)
    by_cases hu : u = s
    · subst hu; rw [upd_self, upd_self]; exact hl
    · rw [upd_ne _ _ _ _ hu, upd_ne _ _ _ _ hu]; exact hP.l u
  · show CInv (upd p.l s L' u) (upd p.rd s rd' u) (upd p.l s L' (!u)) (upd p.wr s wr' (!u))
    by_cases hu : u = s
    · subst hu; rw [upd_self, upd_self, upd_not, upd_not]; exact hc1
    · have hn := not_ne hu
      subst hn
      rw [Bool.not_not, upd_not, upd_not, upd_self, upd_self]; exact hc2
  · show KInv e (upd p.l s L' (!y.1)) (upd p.wr s wr' (!y.1)) y.2
    by_cases hu : y.1 = s
    · rw [hu, upd_not, upd_not]; exact (hk y hy).2 hu
    · have hn := not_ne hu
      rw [hn, Bool.not_not, upd_self, upd_self]; exact (hk y hy).1 hn
theorem upd_same {α : Type} (f : Bool → α) (s : Bool) : upd f s (f s) = f := by
  funext t
  unfold upd
  split
  · rename_i h; rw [h]
  · rfl
theorem PInv.new (e : Nat) : PInv e (newP e) := by
  refine ⟨fun s => ⟨rfl, Nat.le_refl _, Nat.le_refl _, Nat.zero_le _, Nat.zero_le _, rfl, Nat.zero_le _, Nat.zero_le _⟩, fun s => ⟨rfl, Nat.le_refl _, Nat.le_refl _, Nat.zero_le _⟩, fun y hy => by cases hy⟩
/-! write -/
theorem PInv.write {e : Nat} {p : PS} (s : Bool) (b : List Nat) (hP : PInv e p) : PInv e (writeP p s b) := by
  unfold writeP
  split
  case isFalse => exact hP
  case isTrue hE =>
    have hl := hP.l s
    have hlen := hl.wlen
    have hb : (p.l s).base ≤ (p.wr s).length := by have := hl.lo; have := hl.sm; have := hl.mw; omega
    have hsmall : ¬ 1048576 < (p.l s).wait.length + b.length := by
      unfold writeE at hE
      split at hE
      · cases hE
      · assumption
    have hS : writeS (p.l s) b = { p.l s with wait := (p.l s).wait ++ b } := by unfold writeS; rw [if_neg hsmall]
    have htk : ∀ k, k ≤ (p.l s).most → (p.wr s ++ b).take k = (p.wr s).take k := fun k hk => List.take_append_of_le_length (by have := hl.mw; omega)
    rw [hS]
    have h := hP.put s { p.l s with wait := (p.l s).wait ++ b } (p.wr s ++ b) (p.rd s) p.ws
      ⟨hl.ep, hl.lo, hl.sm, by rw [List.length_append]; have := hl.mw; show (p.l s).most ≤ _; omega, hl.win, by show (p.l s).wait ++ b = _; rw [List.drop_append_of_le_length hb, ← hl.wait], by show ((p.l s).wait ++ b).length ≤ _; rw [List.length_append]; omega, hl.tk⟩
      ⟨(hP.c s).got, (hP.c s).nx, (hP.c s).bn, (hP.c s).gl⟩
      ((by have h := hP.c (!s); rw [Bool.not_not] at h; exact h : CInv (p.l (!s)) (p.rd (!s)) (p.l s) (p.wr s)).sender (by have h := (hP.c (!s)).bn; rw [Bool.not_not] at h; exact h) (Nat.le_refl _) htk)
      (fun y hy => ⟨fun hu => by
        have h := hP.k y hy
        rw [hu, Bool.not_not] at h
        exact h.mono (Nat.le_refl _) (Nat.le_refl _) htk, fun hu => by
        have h := hP.k y hy
        rw [hu] at h
        exact h⟩)
    rwa [upd_same] at h
/-! read -/
theorem PInv.read {e : Nat} {p : PS} (s : Bool) (a : Int) (hP : PInv e p) : PInv e (readPS p s a) := by
  unfold readPS
  have hc := hP.c s
  obtain ⟨k, hk⟩ : ∃ k, readN (p.l s) (1 + pickI a 300) = k := ⟨_, rfl⟩
  have hL : readL (p.l s) (1 + pickI a 300) = { p.l s with got := (p.l s).got.drop k } := by unfold readL; rw [hk]
  have hB : readB (p.l s) (1 + pickI a 300) = (p.l s).got.take k := by unfold readB; rw [hk]
  rw [hL, hB]
  have h := hP.put s { p.l s with got := (p.l s).got.drop k } (p.wr s) (p.rd s ++ (p.l s).got.take k) p.ws
    ⟨(hP.l s).ep, (hP.l s).lo, (hP.l s).sm, (hP.l s).mw, (hP.l s).win, (hP.l s).wait, (hP.l s).wl, (hP.l s).tk⟩
    ⟨by show _ ++ (p.l s).got.take k ++ (p.l s).got.drop k = _; rw [List.append_assoc, List.take_append_drop]; exact hc.got, hc.nx, hc.bn, by show ((p.l s).got.drop k).length ≤ _; rw [List.length_drop]; have := hc.gl; omega⟩
    ((by have h := hP.c (!s); rw [Bool.not_not] at h; exact h : CInv (p.l (!s)) (p.rd (!s)) (p.l s) (p.wr s)).sender (by have h := (hP.c (!s)).bn; rw [Bool.not_not] at h; exact h) (Nat.le_refl _) (fun _ _ => rfl))
    (fun y hy => ⟨fun hu => by
      have h := hP.k y hy
      rw [hu, Bool.not_not] at h
      exact h.mono (Nat.le_refl _) (Nat.le_refl _) (fun _ _ => rfl), fun hu => by
      have h := hP.k y hy
      rw [hu] at h
      exact h⟩)
  rwa [upd_same] at h
/-! tick -/
/-- what is told when pieces are told -/
structure Told (s s' : LS) (q : Pk) : Prop where
  ep : q.e = s.epoch
  a : q.a = s.next
  lo : s.sent ≤ q.o
  hi : q.o + q.d.length ≤ s'.sent
  win : q.o + q.d.length ≤ s.base + 1024
  pos : 0 < q.d.length
  len : q.d.length ≤ 256
  d : q.d = (s.wait.drop (q.o - s.base)).take q.d.length
structure Sent (s s' : LS) : Prop where
  wait : s'.wait = s.wait
  base : s'.base = s.base
  ticks : s'.ticks = s.ticks
  got : s'.got = s.got
  next : s'.next = s.next
  owes : s'.owes = s.owes
  epoch : s'.epoch = s.epoch
  lo : s.sent ≤ s'.sent
  most : s.most ≤ s'.most
  sm : s.sent ≤ s.most → s'.sent ≤ s'.most
  win : s.sent ≤ s.base + 1024 → s'.sent ≤ s.base + 1024
  hi : s.sent ≤ s.base + s.wait.length → s'.sent ≤ s.base + s.wait.length
  top : s'.most ≤ max s.most s'.sent
theorem pieces_told : ∀ (m : Nat) (s : LS), s.base + 1024 - s.sent ≤ m → s.base ≤ s.sent → Sent s (pieces s).1 ∧ ∀ q ∈ (pieces s).2, Told s (pieces s).1 q
  | 0, s, h, hlo => by
    have h0 : kOf s = 0 := by unfold kOf; omega
    rw [pieces_none h0]
    exact ⟨⟨rfl, rfl, rfl, rfl, rfl, rfl, rfl, Nat.le_refl _, Nat.le_refl _, id, id, id, Nat.le_max_left _ _⟩, fun q hq => by cases hq⟩
  | m + 1, s, h, hlo => by
    by_cases h0 : kOf s = 0
    · rw [pieces_none h0]
      exact ⟨⟨rfl, rfl, rfl, rfl, rfl, rfl, rfl, Nat.le_refl _, Nat.le_refl _, id, id, id, Nat.le_max_left _ _⟩, fun q hq => by cases hq⟩
    · rw [pieces_more h0]
      obtain ⟨k, hk⟩ : ∃ k, kOf s = k := ⟨_, rfl⟩
      have hk' : min (min (s.wait.length - (s.sent - s.base)) 256) (1024 - (s.sent - s.base)) = k := hk
      have e1 : (pieceS s).sent = s.sent + k := by unfold pieceS; rw [hk]
      have e2 : (pieceS s).most = max s.most (s.sent + k) := by unfold pieceS; rw [hk]
      have e3 : (pieceS s).base = s.base := rfl
      have e4 : (pieceS s).wait = s.wait := rfl
      obtain ⟨h1, h2⟩ := pieces_told m (pieceS s) (by rw [e1, e3]; omega) (by rw [e1, e3]; omega)
      have g1 := h1.lo
      have g2 := h1.most
      have g3 := h1.sm
      have g4 := h1.win
      have g5 := h1.hi
      have g6 := h1.top
      rw [e1] at g1 g3 g4 g5
      rw [e2] at g2 g3 g6
      rw [e3] at g4 g5
      rw [e4] at g5
      refine ⟨⟨h1.wait, h1.base, h1.ticks, h1.got, h1.next, h1.owes, h1.epoch, ?_, ?_, ?_, ?_, ?_, ?_⟩, fun q hq => ?_⟩
      · show s.sent ≤ (pieces (pieceS s)).1.sent; omega
      · show s.most ≤ (pieces (pieceS s)).1.most; omega
      · intro hs; show (pieces (pieceS s)).1.sent ≤ (pieces (pieceS s)).1.most; exact g3 (by omega)
      · intro hs; show (pieces (pieceS s)).1.sent ≤ _; exact g4 (by omega)
      · intro hs; show (pieces (pieceS s)).1.sent ≤ _; exact g5 (by omega)
      · show (pieces (pieceS s)).1.most ≤ max s.most (pieces (pieceS s)).1.sent; omega
      · rcases List.mem_cons.1 hq with rfl | hq
        · have hd : (pieceP s).d.length = k := by unfold pieceP; rw [hk, List.length_take, List.length_drop]; omega
          refine ⟨rfl, rfl, Nat.le_refl _, ?_, ?_, ?_, ?_, ?_⟩
          · rw [hd]; show s.sent + k ≤ (pieces (pieceS s)).1.sent; omega
          · rw [hd]; show s.sent + k ≤ _; omega
          · rw [hd]; omega
          · rw [hd]; omega
          · rw [hd]; unfold pieceP; rw [hk]
        · have t := h2 q hq
          refine ⟨t.ep, t.a, ?_, t.hi, t.win, t.pos, t.len, t.d⟩
          have := t.lo
          rw [e1] at this
          omega
theorem late_same (s : LS) : (lateS s).wait = s.wait ∧ (lateS s).base = s.base ∧ (lateS s).most = s.most ∧ (lateS s).got = s.got ∧ (lateS s).next = s.next ∧ (lateS s).owes = s.owes ∧ (lateS s).epoch = s.epoch ∧ (s.ticks ≤ 4 → (lateS s).ticks ≤ 4) ∧ ((lateS s).sent = s.sent ∨ (lateS s).sent = s.base) := by
  unfold lateS
  split
  · exact ⟨rfl, rfl, rfl, rfl, rfl, rfl, rfl, id, .inl rfl⟩
  · split
    · exact ⟨rfl, rfl, rfl, rfl, rfl, rfl, rfl, fun _ => Nat.zero_le _, .inr rfl⟩
    · exact ⟨rfl, rfl, rfl, rfl, rfl, rfl, rfl, fun _ => by show s.ticks + 1 ≤ 4; omega, .inl rfl⟩
/-- what a tick makes of a link, and what it tells -/
theorem tick_facts {e : Nat} {L : LS} {wr : List Nat} (h : LInv e L wr) : LInv e (tickS L) wr ∧ (tickS L).base = L.base ∧ (tickS L).next = L.next ∧ (tickS L).got = L.got ∧ (tickS L).wait = L.wait ∧ (tickS L).owes = false ∧ L.most ≤ (tickS L).most ∧
    ∀ q ∈ tickP L, KInv e (tickS L) wr q ∧ q.a = L.next ∧ L.base ≤ q.o ∧ q.o + q.d.length ≤ L.base + 1024 ∧ (q.d.length = 0 → (tickP L).length = 1) := by
  obtain ⟨s1, hs1⟩ : ∃ s, lateS L = s := ⟨_, rfl⟩
  obtain ⟨a1, a2, a3, a4, a5, a6, a7, a8, a9⟩ := late_same L
  rw [hs1] at a1 a2 a3 a4 a5 a6 a7 a8 a9
  have hlo := h.lo
  have hsm := h.sm
  have hmw := h.mw
  have hwin := h.win
  have hwl := h.wlen
  obtain ⟨b1, b2⟩ := pieces_told (s1.base + 1024 - s1.sent) s1 (Nat.le_refl _) (by omega)
  obtain ⟨s2, hs2⟩ : ∃ s, (pieces s1).1 = s := ⟨_, rfl⟩
  obtain ⟨ps, hps⟩ : ∃ s, (pieces s1).2 = s := ⟨_, rfl⟩
  rw [hs2] at b1 b2
  rw [hps] at b2
  have hT : tickS L = { s2 with owes := false } := by unfold tickS; rw [hs1, hs2]
  have hPk : tickP L = if ps = [] then (if s2.owes = true then [⟨s2.epoch, s2.sent, s2.next, []⟩] else []) else ps := by unfold tickP told; rw [hs1, hs2, hps]
  have c1 := b1.sm (by omega)
  have c2 := b1.win (by omega)
  have c3 := b1.hi (by rw [a1, a2]; omega)
  have c4 := b1.top
  have c5 := b1.lo
  have c6 := b1.most
  have cb := b1.base
  have cw := b1.wait
  have ct := b1.ticks
  rw [hT]
  have hL : LInv e { s2 with owes := false } wr := by
    refine ⟨?_, ?_, c1, ?_, ?_, ?_, ?_, ?_⟩
    · show s2.epoch = e; rw [b1.epoch, a7]; exact h.ep
    · show s2.base ≤ s2.sent; omega
    · show s2.most ≤ wr.length; rw [a1, a2] at c3; omega
    · show s2.sent ≤ s2.base + 1024; omega
    · show s2.wait = wr.drop s2.base; rw [cw, a1, cb, a2]; exact h.wait
    · show s2.wait.length ≤ 1048576; rw [cw, a1]; exact h.wl
    · show s2.ticks ≤ 4; rw [ct]; exact a8 h.tk
  refine ⟨hL, by show s2.base = _; omega, by show s2.next = _; rw [b1.next, a5], by show s2.got = _; rw [b1.got, a4], by show s2.wait = _; rw [cw, a1], rfl, by show L.most ≤ s2.most; omega, ?_⟩
  intro q hq
  rw [hPk] at hq ⊢
  split at hq
  · rename_i hn
    rw [if_pos hn]
    split at hq
    · rename_i ho
      rw [if_pos ho]
      rw [List.mem_singleton] at hq
      subst hq
      refine ⟨⟨by show s2.epoch = e; exact hL.ep, ?_, ?_, ?_, Nat.zero_le _⟩, ?_, ?_, ?_, fun _ => rfl⟩
      · exact Nat.le_refl _
      · show s2.sent + 0 ≤ s2.most; omega
      · rfl
      · show s2.next = L.next; rw [b1.next, a5]
      · show L.base ≤ s2.sent; omega
      · show s2.sent + 0 ≤ L.base + 1024; omega
    · cases hq
  · rename_i hn
    have t := b2 q hq
    have t1 := t.lo
    have t2 := t.hi
    have t3 := t.win
    have t4 := t.pos
    refine ⟨⟨by rw [t.ep, a7]; exact h.ep, ?_, ?_, ?_, t.len⟩, ?_, ?_, ?_, fun h0 => by omega⟩
    · show q.a ≤ s2.next; rw [t.a, b1.next]; exact Nat.le_refl _
    · show q.o + q.d.length ≤ s2.most; omega
    · have hd := t.d
      rw [a1, a2, h.wait, List.drop_drop] at hd
      rw [show L.base + (q.o - L.base) = q.o by omega] at hd
      exact hd
    · rw [t.a, a5]
    · omega
    · omega
theorem PInv.tick {e : Nat} {p : PS} (s : Bool) (hP : PInv e p) : PInv e (tickPS p s) := by
  unfold tickPS
  obtain ⟨f1, f2, f3, f4, f5, f6, f7, f8⟩ := tick_facts (hP.l s)
  have hc := hP.c s
  have ho : CInv (p.l (!s)) (p.rd (!s)) (p.l s) (p.wr s) := by have h := hP.c (!s); rw [Bool.not_not] at h; exact h
  have h := hP.put s (tickS (p.l s)) (p.wr s) (p.rd s) (p.ws ++ (tickP (p.l s)).map fun q => (!s, q)) f1
    ⟨by rw [f4, f3]; exact hc.got, by rw [f3]; exact hc.nx, by rw [f3]; exact hc.bn, by rw [f4]; exact hc.gl⟩
    (ho.sender (by rw [f2]; exact ho.bn) f7 (fun _ _ => rfl))
    (fun y hy => by
      rcases List.mem_append.1 hy with hy | hy
      · exact ⟨fun hu => by
          have h := hP.k y hy
          rw [hu, Bool.not_not] at h
          exact h.mono (by rw [f3]; exact Nat.le_refl _) f7 (fun _ _ => rfl), fun hu => by
          have h := hP.k y hy
          rw [hu] at h
          exact h⟩
      · obtain ⟨q, hq, rfl⟩ := List.mem_map.1 hy
        exact ⟨fun _ => (f8 q hq).1, fun hu => by cases s <;> cases hu⟩)
  rwa [upd_same, upd_same] at h
/-! take -/
theorem conf_facts {e : Nat} {L : LS} {wr : List Nat} (h : LInv e L wr) (a : Nat) (ha : a ≤ L.most) : LInv e (confS L a) wr ∧ (confS L a).base = max L.base a ∧ (confS L a).next = L.next ∧ (confS L a).got = L.got ∧ (confS L a).most = L.most ∧ (confS L a).owes = L.owes := by
  have hlo := h.lo
  have hsm := h.sm
  have hmw := h.mw
  have hwin := h.win
  unfold confS
  rw [if_neg (by omega)]
  by_cases hb : a ≤ L.base
  · rw [if_pos hb]
    exact ⟨h, by omega, rfl, rfl, rfl, rfl⟩
  · rw [if_neg hb]
    refine ⟨⟨h.ep, ?_, ?_, hmw, ?_, ?_, ?_, Nat.zero_le _⟩, ?_, rfl, rfl, rfl, rfl⟩
    · show a ≤ max L.sent a; omega
    · show max L.sent a ≤ L.most; omega
    · show max L.sent a ≤ a + 1024; omega
    · show L.wait.drop (a - L.base) = wr.drop a
      rw [h.wait, List.drop_drop]
      congr 1
      omega
    · show (L.wait.drop (a - L.base)).length ≤ 1048576
      rw [List.length_drop]
      have := h.wl
      omega
    · show a = max L.base a; omega
theorem take_take_drop (wo : List Nat) (k o n : Nat) (h1 : o ≤ k) (h2 : k ≤ o + n) : wo.take k ++ ((wo.drop o).take n).drop (k - o) = wo.take (o + n) := by
  rw [List.drop_take, List.drop_drop, show o + (k - o) = k by omega, show o + n = k + (n - (k - o)) by omega, ← List.take_add]
theorem come_facts {L : LS} {rd : List Nat} {O : LS} {wo : List Nat} (h : CInv L rd O wo) (q : Pk) (hom : q.o + q.d.length ≤ O.most) (hd : q.d = (wo.drop q.o).take q.d.length) : CInv (comeS L q.o q.d) rd O wo ∧ L.next ≤ (comeS L q.o q.d).next ∧
    (comeS L q.o q.d).base = L.base ∧ (comeS L q.o q.d).sent = L.sent ∧ (comeS L q.o q.d).most = L.most ∧ (comeS L q.o q.d).wait = L.wait ∧ (comeS L q.o q.d).ticks = L.ticks ∧ (comeS L q.o q.d).epoch = L.epoch := by
  unfold comeS
  split
  · exact ⟨h, Nat.le_refl _, rfl, rfl, rfl, rfl, rfl, rfl⟩
  · split
    · exact ⟨⟨h.got, h.nx, h.bn, h.gl⟩, Nat.le_refl _, rfl, rfl, rfl, rfl, rfl, rfl⟩
    · rename_i hn
      split
      · exact ⟨⟨h.got, h.nx, h.bn, h.gl⟩, Nat.le_refl _, rfl, rfl, rfl, rfl, rfl, rfl⟩
      · rename_i hs
        have h1 : q.o ≤ L.next := by omega
        have h2 : L.next - q.o < q.d.length := by omega
        have hbn := h.bn
        refine ⟨⟨?_, ?_, ?_, ?_⟩, ?_, rfl, rfl, rfl, rfl, rfl, rfl⟩
        · show rd ++ (L.got ++ q.d.drop (L.next - q.o)) = wo.take (L.next + (q.d.length - (L.next - q.o)))
          rw [← List.append_assoc, h.got, show L.next + (q.d.length - (L.next - q.o)) = q.o + q.d.length by omega]
          have h3 := take_take_drop wo L.next q.o q.d.length h1 (by omega)
          rw [← hd] at h3
          exact h3
        · show L.next + (q.d.length - (L.next - q.o)) ≤ O.most; omega
        · show O.base ≤ L.next + (q.d.length - (L.next - q.o)); omega
        · show (L.got ++ q.d.drop (L.next - q.o)).length ≤ 1048576
          rw [List.length_append, List.length_drop]; omega
        · show L.next ≤ L.next + (q.d.length - (L.next - q.o)); omega
theorem PInv.take {e : Nat} {p : PS} (s : Bool) (q : Pk) (k : Nat) (hk : p.ws[k]? = some (s, q)) (hP : PInv e p) : PInv e (takePS p s q k) ∧ takeE (p.l s) q = 0 ∧ (takePS p s q k).l s = comeS (confS (p.l s) q.a) q.o q.d ∧ (comeS (confS (p.l s) q.a) q.o q.d).base = max (p.l s).base q.a := by
  have hq : KInv e (p.l (!s)) (p.wr (!s)) q := hP.k (s, q) (List.mem_of_getElem? hk)
  have ho : CInv (p.l (!s)) (p.rd (!s)) (p.l s) (p.wr s) := by have h := hP.c (!s); rw [Bool.not_not] at h; exact h
  have hc := hP.c s
  have hl := hP.l s
  have ham : q.a ≤ (p.l s).most := Nat.le_trans hq.a ho.nx
  have he : ¬ q.e ≠ (p.l s).epoch := by rw [hq.ep, hl.ep]; simp
  have hE : takeE (p.l s) q = 0 := by unfold takeE; rw [if_neg he, if_neg (by omega)]
  have hS : takeS (p.l s) q = comeS (confS (p.l s) q.a) q.o q.d := by unfold takeS; rw [if_neg he, if_neg (by omega)]
  obtain ⟨f1, f2, f3, f4, f5, f6⟩ := conf_facts hl q.a ham
  have hc2 : CInv (confS (p.l s) q.a) (p.rd s) (p.l (!s)) (p.wr (!s)) := ⟨by rw [f4, f3]; exact hc.got, by rw [f3]; exact hc.nx, by rw [f3]; exact hc.bn, by rw [f4]; exact hc.gl⟩
  obtain ⟨g1, g2, g3, g4, g5, g6, g7, g8⟩ := come_facts hc2 q hq.om hq.d
  have hL : LInv e (comeS (confS (p.l s) q.a) q.o q.d) (p.wr s) := ⟨by rw [g8]; exact f1.ep, by rw [g3, g4]; exact f1.lo, by rw [g4, g5]; exact f1.sm, by rw [g5]; exact f1.mw, by rw [g3, g4]; exact f1.win, by rw [g6, g3]; exact f1.wait, by rw [g6]; exact f1.wl, by rw [g7]; exact f1.tk⟩
  have hb : (comeS (confS (p.l s) q.a) q.o q.d).base = max (p.l s).base q.a := by rw [g3, f2]
  refine ⟨?_, hE, by unfold takePS; rw [hS]; exact upd_self _ _ _, hb⟩
  unfold takePS
  rw [hS]
  have h := hP.put s (comeS (confS (p.l s) q.a) q.o q.d) (p.wr s) (p.rd s) (p.ws.eraseIdx k) hL g1
    (ho.sender (by rw [hb]; have := ho.bn; have := hq.a; omega) (by rw [g5, f5]; exact Nat.le_refl _) (fun _ _ => rfl))
    (fun y hy => by
      have hy := List.mem_of_mem_eraseIdx hy
      exact ⟨fun hu => by
        have h := hP.k y hy
        rw [hu, Bool.not_not] at h
        exact h.mono (by rw [← f3]; exact g2) (by rw [g5, f5]; exact Nat.le_refl _) (fun _ _ => rfl), fun hu => by
        have h := hP.k y hy
        rw [hu] at h
        exact h⟩)
  rwa [upd_same, upd_same] at h
theorem PInv.sub {e : Nat} {p : PS} (ws' : List (Bool × Pk)) (hs : ∀ y ∈ ws', y ∈ p.ws) (hP : PInv e p) : PInv e { p with ws := ws' } := ⟨hP.l, hP.c, fun y hy => hP.k y (hs y hy)⟩
/-- behind whatever step -/
theorem PInv.step {e : Nat} {p : PS} (x : St) (hP : PInv e p) : PInv e (stepS p x) ∧ stepR p x = true := by
  unfold stepS stepR
  by_cases h0 : x.d % 6 = 0
  · rw [if_pos h0, if_neg (by omega)]; exact ⟨hP.write _ _, rfl⟩
  rw [if_neg h0]
  by_cases h1 : x.d % 6 = 1
  · rw [if_pos h1, if_neg (by omega)]; exact ⟨hP.tick _, rfl⟩
  rw [if_neg h1]
  by_cases h5 : x.d % 6 = 5
  · rw [if_pos h5, if_neg (by omega)]; exact ⟨hP.read _ _, rfl⟩
  rw [if_neg h5]
  cases hy : at? p x.a with
  | none => exact ⟨hP, by split <;> rfl⟩
  | some y =>
    obtain ⟨tt, q⟩ := y
    by_cases h2 : x.d % 6 = 2
    · simp only [if_pos h2]
      obtain ⟨g1, g2, -⟩ := hP.take tt q _ hy
      exact ⟨g1, by rw [g2]; rfl⟩
    · simp only [if_neg h2]
      refine ⟨?_, trivial⟩
      split
      · exact hP.sub _ fun y hy => List.mem_of_mem_eraseIdx hy
      · exact hP.sub _ fun y hy2 => by
          rcases List.mem_append.1 hy2 with h | h
          · exact h
          · rw [List.mem_singleton] at h
            subst h
            exact List.mem_of_getElem? hy
/-- the lengths -/
theorem step_len {e : Nat} {p : PS} (x : St) (hP : PInv e p) : (∀ s, ((stepS p x).wr s).length ≤ (p.wr s).length + x.b.length) ∧ (stepS p x).ws.length ≤ p.ws.length + 2000 := by
  have base : (∀ s, (p.wr s).length ≤ (p.wr s).length + x.b.length) ∧ p.ws.length ≤ p.ws.length + 2000 := ⟨fun s => Nat.le_add_right _ _, Nat.le_add_right _ _⟩
  unfold stepS
  split
  · unfold writeP
    split
    · refine ⟨fun s => ?_, Nat.le_add_right _ _⟩
      show (upd p.wr x.s (p.wr x.s ++ x.b) s).length ≤ _
      by_cases hs : s = x.s
      · subst hs; rw [upd_self, List.length_append]; exact Nat.le_refl _
      · rw [upd_ne _ _ _ _ hs]; omega
    · exact base
  split
  · refine ⟨base.1, ?_⟩
    have hlen : (tickP (p.l x.s)).length ≤ 2000 := by
      have h := hP.l x.s
      obtain ⟨-, a2, -, -, -, -, -, -, a9⟩ := late_same (p.l x.s)
      have hlo := h.lo
      have h1 := pieces_len 1024 (lateS (p.l x.s)) (by omega)
      unfold tickP told
      split
      · split <;> simp
      · omega
    show (p.ws ++ (tickP (p.l x.s)).map fun q => (!x.s, q)).length ≤ _
    rw [List.length_append, List.length_map]
    omega
  split
  · exact base
  split
  · exact base
  · split
    · refine ⟨base.1, ?_⟩
      show (p.ws.eraseIdx _).length ≤ _
      have := List.length_eraseIdx_le p.ws (pickN x.a p.ws.length)
      omega
    · split
      · refine ⟨base.1, ?_⟩
        show (p.ws.eraseIdx _).length ≤ _
        have := List.length_eraseIdx_le p.ws (pickN x.a p.ws.length)
        omega
      · refine ⟨base.1, ?_⟩
        show (p.ws ++ [_]).length ≤ _
        rw [List.length_append, List.length_singleton]
        omega
theorem PInv.fit {e : Nat} {p : PS} (hP : PInv e p) (hK : p.ws.length ≤ 1000000000) (hN : ∀ s, (p.wr s).length ≤ 1000000000) : Fit p := by
  refine ⟨fun s => ?_, fun s => ?_, fun s => ?_, fun s => ?_, fun s => (hP.c s).gl, hN, fun s => ?_, hK, fun y hy => ?_⟩
  · have h := hP.l s
    have := h.wlen
    have := h.lo
    have := h.sm
    have := h.mw
    have := hN s
    exact ⟨h.lo, by omega, h.wl, by omega, by omega, h.win⟩
  · have := (hP.l s).tk; omega
  · have := (hP.l s).wlen; have := (hP.l s).mw; omega
  · have := (hP.c s).nx; have := (hP.l (!s)).mw; have := hN (!s); omega
  · have h1 := congrArg List.length (hP.c s).got
    rw [List.length_append, List.length_take] at h1
    have := hN (!s)
    omega
  · have h := hP.k y hy
    have h1 := h.om
    have h2 := h.a
    have h3 := (hP.l (!y.1)).mw
    have h4 := hN (!y.1)
    have h5 := (hP.c (!y.1)).nx
    rw [Bool.not_not] at h5
    have h6 := (hP.l y.1).mw
    have h7 := hN y.1
    have h8 := h.len
    exact ⟨by omega, by omega, by omega⟩
/-- behind n steps -/
structure PN (e n : Nat) (p : PS) : Prop where
  inv : PInv e p
  wr : ∀ s, (p.wr s).length ≤ n * 700
  ws : p.ws.length ≤ n * 2000
theorem PN.new (e : Nat) : PN e 0 (newP e) := ⟨PInv.new e, fun _ => Nat.zero_le _, Nat.zero_le _⟩
theorem PN.fit {e n : Nat} {p : PS} (h : PN e n p) (hn : n ≤ 200000) : Fit p := h.inv.fit (by have := h.ws; omega) fun s => by have := h.wr s; omega
theorem PN.step {e n : Nat} {p : PS} (x : St) (hx : x.b.length ≤ 700) (h : PN e n p) : PN e (n + 1) (stepS p x) ∧ stepR p x = true := by
  obtain ⟨h1, h2⟩ := h.inv.step x
  obtain ⟨h3, h4⟩ := step_len x h.inv
  exact ⟨⟨h1, fun s => by have := h3 s; have := h.wr s; omega, by have := h.ws; omega⟩, h2⟩
end Go.Proofs.Ytpgiljjjpijepaa
