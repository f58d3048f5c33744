/- LinkComes' plain part: with each turn the number falls. -/
import Derived.Test.YtpgiljjjpijepaaLComT
namespace Go.Proofs.Ytpgiljjjpijepaa
def told2 (l : Bool → LS) : List (Bool × Pk) := (tickP (l false)).map (fun q => (true, q)) ++ (tickP (l true)).map (fun q => (false, q))
def ofS (s : Bool) (ys : List (Bool × Pk)) : List Pk := (ys.filter (fun y => y.1 == s)).map (·.2)
def turnL (ld : Nat → Bool) (l : Bool → LS) (r : Rws) (n : Nat) : Bool → LS := fun s => (ofS s (fate ld r n (told2 l)).1).foldl takeS (tickS (l s))
def turnR (ld : Nat → Bool) (l : Bool → LS) (r : Rws) (n : Nat) : Rws := (fate ld r n (told2 l)).2.1
structure TI (e : Nat) (l : Bool → LS) (wr rd : Bool → List Nat) : Prop where
  li : ∀ s, LInv e (l s) (wr s)
  ci : ∀ s, CInv (l s) (rd s) (l (!s)) (wr (!s))
  wl : ∀ s, (wr s).length ≤ 1000000
def vw (l : Bool → LS) (r : Rws) (b : Bool → Nat) (s : Bool) : Vw :=
  ⟨b s, (l s).base, (l (!s)).next, (l s).base + (l s).wait.length, due (l s) + 5 * (3 - r (!s, true, (l s).base)) + 1, 3 - r (s, false, 0), (l (!s)).owes⟩
theorem mem_told {l : Bool → LS} {s : Bool} {q : Pk} (h : (s, q) ∈ told2 l) : q ∈ tickP (l (!s)) := by
  unfold told2 at h
  rcases List.mem_append.1 h with h | h
  · obtain ⟨x, hx, he⟩ := List.mem_map.1 h
    injection he with e1 e2
    subst e1 e2
    exact hx
  · obtain ⟨x, hx, he⟩ := List.mem_map.1 h
    injection he with e1 e2
    subst e1 e2
    exact hx
theorem mem_of {s : Bool} {ys : List (Bool × Pk)} {q : Pk} : q ∈ ofS s ys ↔ (s, q) ∈ ys := by
  unfold ofS
  rw [List.mem_map]
  constructor
  · rintro ⟨⟨t, x⟩, hx, rfl⟩
    obtain ⟨h1, h2⟩ := List.mem_filter.1 hx
    have : t = s := by simpa using h2
    rw [← this]
    exact h1
  · intro h
    exact ⟨(s, q), List.mem_filter.2 ⟨h, by simp⟩, rfl⟩
/-- the packets to s, one by one -/
theorem told_split {l : Bool → LS} {s : Bool} {q0 : Pk} {qs : List Pk} (h : tickP (l (!s)) = q0 :: qs) : ∃ us bs, told2 l = us ++ (s, q0) :: bs ∧ (∀ y ∈ us, y.1 ≠ s) ∧ (∀ y ∈ bs, y.1 = s → y.2 ∈ qs) := by
  unfold told2
  cases s with
  | true =>
    have h' : tickP (l false) = q0 :: qs := h
    rw [h']
    refine ⟨[], qs.map (fun q => (true, q)) ++ (tickP (l true)).map (fun q => (false, q)), rfl, fun y hy => (by cases hy), fun y hy hs => ?_⟩
    rcases List.mem_append.1 hy with hy | hy
    · obtain ⟨x, hx, rfl⟩ := List.mem_map.1 hy
      exact hx
    · obtain ⟨x, hx, rfl⟩ := List.mem_map.1 hy
      cases hs
  | false =>
    have h' : tickP (l true) = q0 :: qs := h
    rw [h']
    refine ⟨(tickP (l false)).map (fun q => (true, q)), qs.map (fun q => (false, q)), rfl, fun y hy => ?_, fun y hy _ => ?_⟩
    · obtain ⟨x, hx, rfl⟩ := List.mem_map.1 hy
      exact (by decide : true ≠ false)
    · obtain ⟨x, hx, rfl⟩ := List.mem_map.1 hy
      exact hx
theorem key_fst (y : Bool × Pk) : (keyOf y).1 = y.1 := rfl
theorem key_data {y : Bool × Pk} (h : 0 < y.2.d.length) : keyOf y = (y.1, true, y.2.o) := by unfold keyOf; rw [decide_eq_true h, if_pos h]
theorem key_bare {y : Bool × Pk} (h : ¬ 0 < y.2.d.length) : keyOf y = (y.1, false, 0) := by unfold keyOf; rw [decide_eq_false h, if_neg h]
section
variable {e : Nat} {l : Bool → LS} {wr rd : Bool → List Nat} {ld : Nat → Bool} {r : Rws} {n : Nat}
theorem TI.came (h : TI e l wr rd) (ld : Nat → Bool) (r : Rws) (n : Nat) (s : Bool) : Came e (tickS (l s)) (turnL ld l r n s) (wr s) (rd s) (tickS (l (!s))) (wr (!s)) (l (!s)).next (ofS s (fate ld r n (told2 l)).1) := by
  obtain ⟨f1, f2, f3, f4, f5, f6, f7, -⟩ := tick_facts (h.li s)
  obtain ⟨g1, g2, g3, g4, g5, g6, g7, g8⟩ := tick_facts (h.li (!s))
  have hc := h.ci s
  have hcn := h.ci (!s)
  rw [Bool.not_not] at hcn
  have hc2 : CInv (tickS (l s)) (rd s) (l (!s)) (wr (!s)) := ⟨by rw [f4, f3]; exact hc.got, by rw [f3]; exact hc.nx, by rw [f3]; exact hc.bn, by rw [f4]; exact hc.gl⟩
  refine came_all (h.wl (!s)) _ _ f1 (hc2.sender (by rw [g2, f3]; exact hc.bn) g7 (fun _ _ => rfl)) (Nat.le_trans hcn.nx f7) fun q hq => ?_
  have hm := mem_told (fate_sub _ _ _ _ (mem_of.1 hq))
  exact ⟨(g8 q hm).1, (g8 q hm).2.1⟩
theorem TI.turn (h : TI e l wr rd) (ld : Nat → Bool) (r : Rws) (n : Nat) : TI e (turnL ld l r n) wr rd := by
  refine ⟨fun s => (h.came ld r n s).l, fun s => ?_, h.wl⟩
  have a := h.came ld r n s
  have b := h.came ld r n (!s)
  obtain ⟨f1, f2, f3, -⟩ := tick_facts (h.li s)
  rw [Bool.not_not] at b
  refine a.c.sender ?_ (Nat.le_of_eq b.most.symm) (fun _ _ => rfl)
  have h1 := a.c.bn
  have h2 := a.next
  have h3 := b.base
  split at h3 <;> omega
theorem TI.adv (h : TI e l wr rd) (ld : Nat → Bool) (r : Rws) (n : Nat) (b b' : Bool → Nat) (s : Bool) (hb : b' s = if (turnL ld l r n s).base < (vw l r b s).e then b s else (turnL ld l r n s).base) :
    Adv (vw l r b s) (vw (turnL ld l r n) (turnR ld l r n) b' s) (vw l r b (!s)) (vw (turnL ld l r n) (turnR ld l r n) b' (!s))
      (∃ q, (!s, q) ∈ (fate ld r n (told2 l)).1 ∧ q.o = (l s).base ∧ 0 < q.d.length) := by
  have a := h.came ld r n s
  have d := h.came ld r n (!s)
  have hT := h.turn ld r n
  rw [Bool.not_not] at d
  obtain ⟨f1, f2, f3, f4, f5, f6, f7, -⟩ := tick_facts (h.li s)
  obtain ⟨g1, g2, g3, g4, g5, g6, g7, -⟩ := tick_facts (h.li (!s))
  have hls := h.li s
  have hln := h.li (!s)
  have hc := h.ci s
  have hcn := h.ci (!s)
  rw [Bool.not_not] at hcn
  have w1 := (h.li s).wlen
  have w2 := (hT.li s).wlen
  have hbn := hcn.bn
  -- data told: there is what waits
  have waits : ∀ t q, q ∈ tickP (l t) → 0 < q.d.length → 0 < (l t).wait.length := fun t q hq h0 => by
    rcases Nat.eq_zero_or_pos (l t).wait.length with h1 | h1
    · rw [tells_still (h.li t) h1] at hq
      split at hq
      · rw [List.mem_singleton] at hq
        subst hq
        exact absurd h0 (by simp)
      · cases hq
    · exact h1
  have told : ∀ t q, (t, q) ∈ (fate ld r n (told2 l)).1 → q ∈ tickP (l (!t)) := fun t q hq => mem_told (fate_sub _ _ _ _ hq)
  have hbase : (turnL ld l r n s).base = (l s).base ∨ (turnL ld l r n s).base = (l (!s)).next := by
    have := a.base
    split at this <;> omega
  refine ⟨?_, hbase, ?_, ?_, ?_, ?_, ?_, ?_, hb⟩
  · show (turnL ld l r n s).base + (turnL ld l r n s).wait.length = (l s).base + (l s).wait.length
    omega
  · show (l (!s)).next ≤ (turnL ld l r n (!s)).next
    have := d.next
    omega
  · show (turnL ld l r n (!s)).next = (l (!s)).next ∨ min ((l s).base + 256) ((l s).base + (l s).wait.length) ≤ (turnL ld l r n (!s)).next
    rcases d.far with h1 | ⟨q, hq, h0, h1⟩
    · left; omega
    · right
      have hm := told _ _ (mem_of.1 hq)
      rw [Bool.not_not] at hm
      have := (tells_of hls (waits s q hm h0)).far q hm h0
      omega
  · intro hw
    have hw' : (l s).base < (l s).base + (l s).wait.length := hw
    have t := tells_of hls (show 0 < (l s).wait.length by omega)
    show _ ∨ (turnL ld l r n s).base ≠ (l s).base ∨ due (turnL ld l r n s) + 5 * (3 - turnR ld l r n (!s, true, (turnL ld l r n s).base)) + 1 + 1 ≤ due (l s) + 5 * (3 - r (!s, true, (l s).base)) + 1
    by_cases hB : (turnL ld l r n s).base = (l s).base
    · have hdue : due (turnL ld l r n s) = due (tickS (l s)) := by
        obtain ⟨x1, x2⟩ := a.same (by rw [f2]; exact hB)
        unfold due
        rw [x1, x2, hB, f2]
      rw [hB, hdue]
      by_cases h0 : due (l s) = 0
      · obtain ⟨q0, qs, e1, e2, e3, e4⟩ := t.now h0
        obtain ⟨us, bs, x1, x2, x3⟩ := told_split (s := !s) (by rw [Bool.not_not]; exact e1)
        have hk : keyOf (!s, q0) = (!s, true, (l s).base) := by rw [key_data e3, e2]
        have hf := fate_one (ld := ld) (!s, true, (l s).base) (!s, q0) bs hk (fun y hy hke => by
          have hy1 : y.1 = !s := by rw [← key_fst, hke]
          have := e4 y.2 (x3 y hy hy1)
          by_cases hd : 0 < y.2.d.length
          · rw [key_data hd] at hke
            injection hke with _ hke
            injection hke with _ hke
            exact this hke
          · rw [key_bare hd] at hke
            injection hke with _ hke
            injection hke with hke _
            cases hke) us r n (fun y hy hke => x2 y hy (by rw [← key_fst, hke]))
        rw [← x1] at hf
        rcases hf with hf | ⟨k1, k2⟩
        · exact .inl ⟨q0, hf, e2, e3⟩
        · right; right
          have k3 : turnR ld l r n (!s, true, (l s).base) = r (!s, true, (l s).base) + 1 := k2
          have := t.le
          rw [k3]
          omega
      · obtain ⟨e1, e2⟩ := t.wait h0
        right; right
        have k3 : turnR ld l r n (!s, true, (l s).base) = r (!s, true, (l s).base) := fate_none _ _ _ _ fun y hy hke => by
          have hy1 : y.1 = !s := by rw [← key_fst, hke]
          have hm : y.2 ∈ tickP (l s) := by
            have := mem_told (show (y.1, y.2) ∈ told2 l from hy)
            rw [hy1, Bool.not_not] at this
            exact this
          by_cases hd : 0 < y.2.d.length
          · rw [key_data hd] at hke
            injection hke with _ hke
            injection hke with _ hke
            exact e1 _ hm hd hke
          · rw [key_bare hd] at hke
            injection hke with _ hke
            injection hke with hke _
            cases hke
        rw [k3]
        omega
    · exact .inr (.inl hB)
  · rintro ⟨q, hq, h1, h0⟩
    have hm := told _ _ hq
    rw [Bool.not_not] at hm
    have t := tells_of hls (waits s q hm h0)
    have hq' := mem_of.2 hq
    refine ⟨?_, d.owes ⟨q, hq', h0⟩, ?_⟩
    · show min ((l s).base + 256) ((l s).base + (l s).wait.length) ≤ (turnL ld l r n (!s)).next
      have := t.far q hm h0
      have := d.here q hq' h0 (by omega)
      omega
    · show (turnL ld l r n (!s)).base = (l (!!s)).next
      rw [Bool.not_not, d.base, if_neg (fun hx => by rw [hx] at hq'; cases hq')]
      have := hc.bn
      omega
  · intro hu
    have hu' : ¬ (l (!s)).base < (l (!s)).base + (l (!s)).wait.length := hu
    have ht := tells_still hln (by omega)
    show ((l (!s)).owes = true → (turnL ld l r n s).base = (l (!s)).next ∨ 3 - turnR ld l r n (s, false, 0) + 1 ≤ 3 - r (s, false, 0)) ∧ ((l (!s)).owes = false → 3 - turnR ld l r n (s, false, 0) = 3 - r (s, false, 0))
    constructor
    · intro ho
      rw [if_pos ho] at ht
      obtain ⟨us, bs, x1, x2, x3⟩ := told_split ht
      have hf := fate_one (ld := ld) (s, false, 0) _ bs (key_bare (y := (s, ⟨(l (!s)).epoch, (l (!s)).sent, (l (!s)).next, []⟩)) (by simp)) (fun y hy hke => by
        have hy1 : y.1 = s := by rw [← key_fst, hke]
        have := x3 y hy hy1
        cases this) us r n (fun y hy hke => x2 y hy (by rw [← key_fst, hke]))
      rw [← x1] at hf
      rcases hf with hf | ⟨k1, k2⟩
      · left
        rw [a.base, if_neg (fun hx => by have := mem_of.2 hf; rw [hx] at this; cases this)]
        omega
      · right
        have k3 : turnR ld l r n (s, false, 0) = r (s, false, 0) + 1 := k2
        omega
    · intro ho
      rw [ho, if_neg (by decide)] at ht
      have k3 : turnR ld l r n (s, false, 0) = r (s, false, 0) := fate_none _ _ _ _ fun y hy hke => by
        have hy1 : y.1 = s := by rw [← key_fst, hke]
        have hm := mem_told (show (y.1, y.2) ∈ told2 l from hy)
        rw [hy1, ht] at hm
        cases hm
      rw [k3]
  · intro hv
    have hv' : ¬ (l s).base < (l s).base + (l s).wait.length := hv
    show (turnL ld l r n (!s)).owes = false
    rw [d.still fun q hq => ?_]
    · exact g6
    · have hm := told _ _ (mem_of.1 hq)
      rw [Bool.not_not] at hm
      rcases Nat.eq_zero_or_pos q.d.length with h0 | h0
      · exact h0
      · have := waits s q hm h0
        omega
/-- what the number is at most, for some places where the phases began -/
def Pot (l : Bool → LS) (r : Rws) (m : Nat) : Prop := ∃ b, (vw l r b false).ok ∧ (vw l r b true).ok ∧ Mu (vw l r b false) (vw l r b true) ≤ m
theorem due_le {e : Nat} {L : LS} {wr : List Nat} (_ : LInv e L wr) : due L ≤ 4 := by
  unfold due
  split <;> omega
theorem TI.ok (h : TI e l wr rd) (b : Bool → Nat) (s : Bool) (h1 : b s ≤ (l s).base) (h2 : (l s).base < (l s).base + (l s).wait.length → (l s).base < b s + 256) : (vw l r b s).ok := by
  have hcn := h.ci (!s)
  rw [Bool.not_not] at hcn
  have w1 := (h.li s).wlen
  have hm := (h.li s).mw
  have hn := hcn.nx
  have hd := due_le (h.li s)
  refine ⟨h1, hcn.bn, ?_, h2, ?_, ?_, ?_⟩
  · show (l (!s)).next ≤ (l s).base + (l s).wait.length
    omega
  · show 1 ≤ due (l s) + 5 * (3 - r (!s, true, (l s).base)) + 1
    omega
  · show due (l s) + 5 * (3 - r (!s, true, (l s).base)) + 1 ≤ 20
    omega
  · show 3 - r (s, false, 0) ≤ 3
    omega
theorem TI.first (h : TI e l wr rd) : Pot l r (600 + 120 * (((l false).wait.length + (l true).wait.length) / 256)) := by
  have h1 := h.ok (r := r) (fun s => (l s).base) false (Nat.le_refl _) (fun _ => by omega)
  have h2 := h.ok (r := r) (fun s => (l s).base) true (Nat.le_refl _) (fun _ => by omega)
  refine ⟨fun s => (l s).base, h1, h2, ?_⟩
  have := Mu_first h1 h2
  have e1 : (vw l r (fun s => (l s).base) false).E - (vw l r (fun s => (l s).base) false).b = (l false).wait.length := by show (l false).base + (l false).wait.length - (l false).base = _; omega
  have e2 : (vw l r (fun s => (l s).base) true).E - (vw l r (fun s => (l s).base) true).b = (l true).wait.length := by show (l true).base + (l true).wait.length - (l true).base = _; omega
  rw [e1, e2] at this
  omega
theorem Pot.mono {m k : Nat} (h : Pot l r m) (hk : m ≤ k) : Pot l r k := by
  obtain ⟨b, h1, h2, h3⟩ := h
  exact ⟨b, h1, h2, by omega⟩
theorem TI.falls {m : Nat} (h : TI e l wr rd) (hp : Pot l r m) (ld : Nat → Bool) (n : Nat) : Pot (turnL ld l r n) (turnR ld l r n) (m - 1) := by
  obtain ⟨b, o1, o2, hm⟩ := hp
  have hT := h.turn ld r n
  obtain ⟨b', hb'⟩ : ∃ b' : Bool → Nat, b' = fun s => if (turnL ld l r n s).base < (vw l r b s).e then b s else (turnL ld l r n s).base := ⟨_, rfl⟩
  have hb : ∀ s, b' s = if (turnL ld l r n s).base < (vw l r b s).e then b s else (turnL ld l r n s).base := fun s => by rw [hb']
  have okAll : ∀ s, (vw l r b s).ok := fun s => by cases s; exact o1; exact o2
  have ok' : ∀ s, (vw (turnL ld l r n) (turnR ld l r n) b' s).ok := fun s => by
    have a := (h.adv ld r n b b' s (hb s)).B
    have o := okAll s
    have ob := o.bB
    have oN := o.BN
    have hbs := hb s
    have he : (vw l r b s).e ≤ b s + 256 := Nat.min_le_left _ _
    have a' : (turnL ld l r n s).base = (l s).base ∨ (turnL ld l r n s).base = (l (!s)).next := a
    have ob' : b s ≤ (l s).base := ob
    have oN' : (l s).base ≤ (l (!s)).next := oN
    refine hT.ok b' s ?_ ?_
    · rw [hbs]
      split <;> omega
    · intro _
      rw [hbs]
      split <;> omega
  refine ⟨b', ok' false, ok' true, ?_⟩
  have := Mu_on o1 (ok' false) o2 (ok' true) (h.adv ld r n b b' false (hb false)) (h.adv ld r n b b' true (hb true))
  omega
theorem TI.done (h : TI e l wr rd) (hp : Pot l r 0) (s : Bool) : (l s).wait = [] ∧ (l s).owes = false ∧ tickP (l s) = [] ∧ rd s ++ (l s).got = wr (!s) := by
  obtain ⟨b, o1, o2, hm⟩ := hp
  obtain ⟨z1, z2, z3, z4⟩ := Mu_zero o1 o2 (by omega)
  have z1' : ¬ (l false).base < (l false).base + (l false).wait.length := z1
  have z2' : ¬ (l true).base < (l true).base + (l true).wait.length := z2
  have hw : ∀ t, (l t).wait.length = 0 := fun t => by cases t <;> omega
  have ho : ∀ t, (l t).owes = false := fun t => by
    cases t
    · exact z4
    · exact z3
  refine ⟨List.eq_nil_of_length_eq_zero (hw s), ho s, ?_, ?_⟩
  · rw [tells_still (h.li s) (hw s), ho s]
    rfl
  · have hc := h.ci s
    have w1 := (h.li (!s)).wlen
    have := hw (!s)
    rw [hc.got, List.take_of_length_le (by have := hc.bn; omega)]
end
end Go.Proofs.Ytpgiljjjpijepaa
