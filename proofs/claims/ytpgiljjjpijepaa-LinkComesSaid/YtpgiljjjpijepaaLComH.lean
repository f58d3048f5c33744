/- LinkComes' plain part: the steps of the turns. -/
import Derived.Test.YtpgiljjjpijepaaLComU
namespace Go.Proofs.Ytpgiljjjpijepaa
def xT : St := ⟨2, false, 0, []⟩
def xL : St := ⟨3, false, 0, []⟩
def xK (s : Bool) : St := ⟨1, s, 0, []⟩
theorem at_first {p : PS} {y : Bool × Pk} {ys : List (Bool × Pk)} (h : p.ws = y :: ys) : pickN 0 p.ws.length = 0 ∧ at? p 0 = some y := by
  have h0 : pickN 0 p.ws.length = 0 := by
    unfold pickN pickI
    split
    · rfl
    · simp
  refine ⟨h0, ?_⟩
  unfold at?
  rw [h0, h]
  rfl
theorem step_T {p : PS} {y : Bool × Pk} {ys : List (Bool × Pk)} (h : p.ws = y :: ys) : stepS p xT = { p with l := upd p.l y.1 (takeS (p.l y.1) y.2), ws := ys } := by
  obtain ⟨h1, h2⟩ := at_first h
  unfold stepS
  rw [if_neg (by decide), if_neg (by decide), if_neg (by decide), show xT.a = 0 from rfl, h2]
  simp only [if_pos (show xT.d % 6 = 2 by decide)]
  unfold takePS
  rw [h1, h]
  rfl
theorem step_L {p : PS} {y : Bool × Pk} {ys : List (Bool × Pk)} (h : p.ws = y :: ys) : stepS p xL = { p with ws := ys } := by
  obtain ⟨h1, h2⟩ := at_first h
  unfold stepS
  rw [if_neg (by decide), if_neg (by decide), if_neg (by decide), show xL.a = 0 from rfl, h2]
  simp only [if_neg (show ¬ xL.d % 6 = 2 by decide), if_pos (show xL.d % 6 = 3 by decide)]
  rw [h1, h]
  rfl
theorem step_K (p : PS) (s : Bool) : stepS p (xK s) = tickPS p s := by
  unfold stepS
  rw [if_neg (by show ¬ 1 % 6 = 0; decide), if_pos (by show 1 % 6 = 1; decide)]
  rfl
/-- two links: what holds of them; so much was written -/
structure CP (e : Nat) (p : PS) : Prop where
  inv : PInv e p
  wr : ∀ s, (p.wr s).length ≤ 105000
theorem CP.ti {e : Nat} {p : PS} (h : CP e p) : TI e p.l p.wr p.rd := ⟨h.inv.l, h.inv.c, fun s => by have := h.wr s; omega⟩
theorem CP.fit {e : Nat} {p : PS} (h : CP e p) (hw : p.ws.length ≤ 1000000) : Fit p := h.inv.fit (by omega) fun s => by have := h.wr s; omega
/-- what waits, in all -/
def wt (p : PS) : Nat := (p.l false).wait.length + (p.l true).wait.length
theorem CP.take {e : Nat} {p : PS} {y : Bool × Pk} {ys : List (Bool × Pk)} (h : CP e p) (hy : p.ws = y :: ys) : CP e (stepS p xT) ∧ stepR p xT = true ∧ wt (stepS p xT) ≤ wt p ∧ (stepS p xT).ws = ys := by
  obtain ⟨h1, h2⟩ := h.inv.step xT
  have hs := step_T hy
  refine ⟨⟨h1, fun s => by rw [hs]; exact h.wr s⟩, h2, ?_, by rw [hs]⟩
  have hk : p.ws[0]? = some (y.1, y.2) := by rw [hy]; rfl
  obtain ⟨-, -, g3, g4⟩ := h.inv.take y.1 y.2 0 hk
  have hb : ((stepS p xT).l y.1).base = max (p.l y.1).base y.2.a := by
    have : (stepS p xT).l y.1 = (takePS p y.1 y.2 0).l y.1 := by rw [hs]; rfl
    rw [this, g3, g4]
  have hwl : ∀ s, ((stepS p xT).l s).wait.length ≤ (p.l s).wait.length := by
    intro s
    have w1 := (h.inv.l s).wlen
    have w2 := (h1.l s).wlen
    have hwr : (stepS p xT).wr s = p.wr s := by rw [hs]
    rw [hwr] at w2
    by_cases e1 : s = y.1
    · subst e1
      omega
    · have : (stepS p xT).l s = p.l s := by rw [hs]; exact upd_ne _ _ _ _ e1
      rw [this]
      exact Nat.le_refl _
  have := hwl false
  have := hwl true
  unfold wt
  omega
theorem CP.lose {e : Nat} {p : PS} {y : Bool × Pk} {ys : List (Bool × Pk)} (h : CP e p) (hy : p.ws = y :: ys) : CP e (stepS p xL) ∧ (stepS p xL).ws = ys := by
  obtain ⟨h1, h2⟩ := h.inv.step xL
  have hs := step_L hy
  exact ⟨⟨h1, fun s => by rw [hs]; exact h.wr s⟩, by rw [hs]⟩
theorem CP.tick {e : Nat} {p : PS} (s : Bool) (h : CP e p) : CP e (stepS p (xK s)) := by
  obtain ⟨h1, h2⟩ := h.inv.step (xK s)
  exact ⟨h1, fun t => by rw [step_K]; exact h.wr t⟩
/-- in the midst of a turn: what is under way leads to these links, rows, number -/
structure Mid (e : Nat) (ld : Nat → Bool) (p : PS) (r : Rws) (n : Nat) (lT : Bool → LS) (rT : Rws) (nT : Nat) (p0 : PS) : Prop where
  cp : CP e p
  l : ∀ s, (ofS s (fate ld r n p.ws).1).foldl takeS (p.l s) = lT s
  r : (fate ld r n p.ws).2.1 = rT
  n : n + p.ws.length = nT
  wr : p.wr = p0.wr
  rd : p.rd = p0.rd
theorem ofS_cons (s : Bool) (y : Bool × Pk) (ys : List (Bool × Pk)) : ofS s (y :: ys) = if y.1 = s then y.2 :: ofS s ys else ofS s ys := by
  unfold ofS
  rw [List.filter_cons]
  by_cases h : y.1 = s
  · rw [if_pos (by simpa using h), if_pos h]
    rfl
  · rw [if_neg (by simpa using h), if_neg h]
section
variable {e : Nat} {ld : Nat → Bool} {p p0 : PS} {r : Rws} {n : Nat} {lT : Bool → LS} {rT : Rws} {nT : Nat} {y : Bool × Pk} {ys : List (Bool × Pk)}
theorem Mid.lose (h : Mid e ld p r n lT rT nT p0) (hy : p.ws = y :: ys) (hc : ld (n + 1) = true ∧ r (keyOf y) < 3) : Mid e ld (stepS p xL) (setR r (keyOf y) (r (keyOf y) + 1)) (n + 1) lT rT nT p0 := by
  have hs := step_L hy
  have hl := h.l
  have hr := h.r
  have hn := h.n
  rw [hy] at hl hr hn
  unfold fate at hl hr
  rw [if_pos hc] at hr
  simp only [if_pos hc] at hl
  refine ⟨(h.cp.lose hy).1, ?_, ?_, ?_, by rw [hs]; exact h.wr, by rw [hs]; exact h.rd⟩
  · rw [hs]; exact hl
  · rw [hs]; exact hr
  · rw [hs]
    show n + 1 + ys.length = nT
    rw [List.length_cons] at hn
    omega
theorem Mid.take (h : Mid e ld p r n lT rT nT p0) (hy : p.ws = y :: ys) (hc : ¬ (ld (n + 1) = true ∧ r (keyOf y) < 3)) : Mid e ld (stepS p xT) (setR r (keyOf y) 0) (n + 1) lT rT nT p0 := by
  have hs := step_T hy
  have hl := h.l
  have hr := h.r
  have hn := h.n
  rw [hy] at hl hr hn
  unfold fate at hl hr
  rw [if_neg hc] at hr
  simp only [if_neg hc] at hl
  refine ⟨(h.cp.take hy).1, fun s => ?_, ?_, ?_, by rw [hs]; exact h.wr, by rw [hs]; exact h.rd⟩
  · rw [hs]
    have h1 := hl s
    rw [ofS_cons] at h1
    show (ofS s (fate ld (setR r (keyOf y) 0) (n + 1) ys).1).foldl takeS (upd p.l y.1 (takeS (p.l y.1) y.2) s) = lT s
    by_cases e1 : y.1 = s
    · rw [if_pos e1, List.foldl_cons] at h1
      rw [← e1, upd_self, e1]
      exact h1
    · rw [if_neg e1] at h1
      rw [upd_ne _ _ _ _ (Ne.symm e1)]
      exact h1
  · rw [hs]; exact hr
  · rw [hs]
    show n + 1 + ys.length = nT
    rw [List.length_cons] at hn
    omega
theorem Mid.ends (h : Mid e ld p r n lT rT nT p0) (hy : p.ws = []) : p.l = lT ∧ r = rT ∧ n = nT := by
  have hl := h.l
  have hr := h.r
  have hn := h.n
  rw [hy] at hl hr hn
  exact ⟨funext hl, hr, hn⟩
/-- at the head of a turn: m turns at most are to come -/
structure Head (e : Nat) (p : PS) (r : Rws) (m n t : Nat) : Prop where
  cp : CP e p
  ws : p.ws = []
  le : ∀ k, r k ≤ 3
  pot : Pot p.l r m
  n : n ≤ t * 4000
theorem told_len {l : Bool → LS} {wr : Bool → List Nat} (h : ∀ s, LInv e (l s) (wr s)) : (told2 l).length ≤ 4000 := by
  have hl : ∀ s, (tickP (l s)).length ≤ 2000 := fun s => by
    obtain ⟨-, a2, -, -, -, -, -, -, a9⟩ := late_same (l s)
    have hlo := (h s).lo
    have h1 := pieces_len 1024 (lateS (l s)) (by omega)
    unfold tickP told
    split
    · split <;> simp
    · omega
  unfold told2
  rw [List.length_append, List.length_map, List.length_map]
  have := hl false
  have := hl true
  omega
theorem Head.mid {m t : Nat} (h : Head e p r m n t) (ld : Nat → Bool) : Mid e ld (stepS (stepS p (xK false)) (xK true)) r n (turnL ld p.l r n) (turnR ld p.l r n) (n + (told2 p.l).length) p ∧ (stepS (stepS p (xK false)) (xK true)).ws.length ≤ 4000 := by
  have hc := (h.cp.tick false).tick true
  have hp : stepS (stepS p (xK false)) (xK true) = ⟨fun s => tickS (p.l s), p.wr, p.rd, told2 p.l⟩ := by
    rw [step_K, step_K]
    unfold tickPS
    have h1 : upd p.l false (tickS (p.l false)) true = p.l true := by simp [upd]
    have h2 : upd (upd p.l false (tickS (p.l false))) true (tickS (p.l true)) = fun s => tickS (p.l s) := by
      funext s
      cases s <;> simp [upd]
    simp only [h1, h2, h.ws, List.nil_append, Bool.not_false, Bool.not_true]
    rfl
  rw [hp] at hc ⊢
  exact ⟨⟨hc, fun s => rfl, rfl, rfl, rfl, rfl⟩, told_len h.cp.inv.l⟩
theorem Mid.head {m t : Nat} (h0 : Head e p0 r m n t) {p' : PS} {r' : Rws} {n' : Nat} (h : Mid e ld p' r' n' (turnL ld p0.l r n) (turnR ld p0.l r n) (n + (told2 p0.l).length) p0) (hy : p'.ws = []) : Head e p' r' (m - 1) n' (t + 1) := by
  obtain ⟨h1, h2, h3⟩ := h.ends hy
  refine ⟨h.cp, hy, ?_, ?_, ?_⟩
  · rw [h2]
    exact fate_le _ _ _ h0.le
  · rw [h1, h2]
    exact h0.cp.ti.falls h0.pot ld n
  · have := told_len h0.cp.inv.l
    have := h0.n
    omega
theorem CP.head (h : CP e p) (hy : p.ws = []) : Head e p (fun _ => 0) (600 + 120 * (wt p / 256)) 0 0 := ⟨h, hy, fun _ => Nat.zero_le _, h.ti.first, Nat.le_refl _⟩
end
end Go.Proofs.Ytpgiljjjpijepaa
