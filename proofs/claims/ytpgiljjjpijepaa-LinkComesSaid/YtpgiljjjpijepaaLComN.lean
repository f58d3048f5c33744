/- LinkComes' plain part: a number that falls with each turn. -/
import Derived.Test.YtpgiljjjpijepaaLPure
namespace Go.Proofs.Ytpgiljjjpijepaa
/-- what counts of one side: b where its phase began, its base B, the other's next N, the end E of what it wrote, D turns until its base's packet comes at the latest, q bare packets to it that may be lost, whether the other one owes -/
structure Vw where
  b : Nat
  B : Nat
  N : Nat
  E : Nat
  D : Nat
  q : Nat
  ow : Bool
def Vw.e (v : Vw) : Nat := min (v.b + 256) v.E
structure Vw.ok (v : Vw) : Prop where
  bB : v.b ≤ v.B
  BN : v.B ≤ v.N
  NE : v.N ≤ v.E
  Be : v.B < v.E → v.B < v.b + 256
  D1 : 1 ≤ v.D
  D20 : v.D ≤ 20
  q3 : v.q ≤ 3
def cnt (v : Vw) : Nat := if v.B < v.E then (v.E - v.b + 255) / 256 else 0
def VA (v : Vw) : Nat := if v.e ≤ v.N then (if v.ow = true then (if v.q = 0 then 1 else v.D + 1 + 20 * (v.q - 1)) else v.D + 1 + 20 * v.q) else if v.B < v.N then v.D + 81 else v.D + 61
def VB (v u : Vw) : Nat := (if v.e ≤ v.N then u.D else 20 + (if v.B < v.N then v.D + 20 else v.D)) + (if u.B < u.N ∧ u.N < u.e then 20 else 0)
def Vt (v u : Vw) : Nat := if v.B < v.E then (if u.B < u.E then VB v u else VA v) else if u.B < u.E then VA u else if v.ow = true ∨ u.ow = true then 1 else 0
def Mu (v u : Vw) : Nat := 120 * (cnt v + cnt u) + Vt v u
/-- a turn, of one side: v, v' it ahead and behind, u, u' the other one; H: its base's packet came -/
structure Adv (v v' u u' : Vw) (H : Prop) : Prop where
  E : v'.E = v.E
  B : v'.B = v.B ∨ v'.B = v.N
  N : v.N ≤ v'.N
  far : v'.N = v.N ∨ min (v.B + 256) v.E ≤ v'.N
  due : v.B < v.E → H ∨ v'.B ≠ v.B ∨ v'.D + 1 ≤ v.D
  hit : H → min (v.B + 256) v.E ≤ v'.N ∧ v'.ow = true ∧ u'.B = u.N
  bare : ¬ u.B < u.E → (v.ow = true → v'.B = v.N ∨ v'.q + 1 ≤ v.q) ∧ (v.ow = false → v'.q = v.q)
  quiet : ¬ v.B < v.E → v'.ow = false
  b : v'.b = if v'.B < v.e then v.b else v'.B
theorem VA_bounds {v : Vw} (h : v.ok) : 1 ≤ VA v ∧ VA v ≤ 101 := by
  obtain ⟨h1, h2, h3, h4, h5, h6, h7⟩ := h
  unfold VA
  repeat' split
  all_goals omega
theorem VB_bounds {v u : Vw} (h : v.ok) (g : u.ok) : 1 ≤ VB v u ∧ VB v u ≤ 101 := by
  obtain ⟨h1, h2, h3, h4, h5, h6, h7⟩ := h
  obtain ⟨g1, g2, g3, g4, g5, g6, g7⟩ := g
  unfold VB
  repeat' split
  all_goals omega
theorem Vt_bounds {v u : Vw} (h : v.ok) (g : u.ok) : Vt v u ≤ 101 ∧ (v.B < v.E ∨ u.B < u.E → 1 ≤ Vt v u) := by
  have h1 := VA_bounds h
  have h2 := VA_bounds g
  have h3 := VB_bounds h g
  unfold Vt
  repeat' split
  all_goals omega
theorem cnt_on {v v' u u' : Vw} {H : Prop} (h : v.ok) (a : Adv v v' u u' H) : cnt v' ≤ cnt v ∧ (v.B < v.E → ¬ v'.B < v.e → cnt v' + 1 ≤ cnt v) := by
  obtain ⟨h1, h2, h3, h4, h5, h6, h7⟩ := h
  have a1 := a.E
  have a2 := a.B
  have a3 := a.b
  unfold cnt
  rw [a1]
  unfold Vw.e at a3 ⊢
  by_cases hE : v.B < v.E
  · rw [if_pos hE]
    split at a3
    · rw [a3]
      split
      · exact ⟨Nat.le_refl _, fun _ h => by omega⟩
      · exact ⟨Nat.zero_le _, fun _ h => by omega⟩
    · rw [a3]
      split
      · exact ⟨by omega, fun _ _ => by omega⟩
      · exact ⟨Nat.zero_le _, fun _ _ => by omega⟩
  · rw [if_neg hE, if_neg (by omega)]
    exact ⟨Nat.le_refl _, fun h => absurd h hE⟩
/-- one side waits; its phase goes on -/
theorem VA_on {v v' u u' : Vw} {H : Prop} (h : v.ok) (h' : v'.ok) (a : Adv v v' u u' H) (hE : v.B < v.E) (hu : ¬ u.B < u.E) (he : v'.B < v.e) : VA v' + 1 ≤ VA v := by
  obtain ⟨h1, h2, h3, h4, h5, h6, h7⟩ := h
  obtain ⟨g1, g2, g3, g4, g5, g6, g7⟩ := h'
  obtain ⟨a1, a2, a3, a4, a5, a6, a7, a8, a9⟩ := a
  rw [if_pos he] at a9
  obtain ⟨b1, b2⟩ := a7 hu
  have a5 := a5 hE
  have hee : v'.e = v.e := by unfold Vw.e; rw [a9, a1]
  have hed : v.e = min (v.b + 256) v.E := rfl
  unfold VA
  rw [hee]
  generalize v.e = e at *
  by_cases c1 : e ≤ v.N
  · rw [if_pos c1, if_pos (by omega)]
    have c2 : v'.B = v.B := by omega
    cases ho : v.ow with
    | true =>
      have b1 := b1 ho
      rw [if_pos rfl, if_neg (show ¬ v.q = 0 by omega)]
      rcases a5 with hit | hB | hD
      · obtain ⟨-, x, -⟩ := a6 hit
        rw [x, if_pos rfl]
        split <;> omega
      · omega
      · split
        · split <;> omega
        · omega
    | false =>
      have b2 := b2 ho
      rw [if_neg (show ¬ (false : Bool) = true by decide)]
      rcases a5 with hit | hB | hD
      · obtain ⟨-, x, -⟩ := a6 hit
        rw [x, if_pos rfl]
        split <;> omega
      · omega
      · split
        · split <;> omega
        · omega
  · rw [if_neg c1]
    by_cases c2 : v.B < v.N
    · rw [if_pos c2]
      by_cases c3 : e ≤ v'.N
      · rw [if_pos c3]
        split
        · split <;> omega
        · omega
      · rw [if_neg c3]
        have c4 : v'.N = v.N := by omega
        by_cases c5 : v'.B < v'.N
        · rw [if_pos c5]
          rcases a5 with hit | hB | hD
          · have := (a6 hit).1; omega
          · omega
          · omega
        · rw [if_neg c5]
          omega
    · rw [if_neg c2]
      by_cases c3 : e ≤ v'.N
      · rw [if_pos c3]
        rcases a5 with hit | hB | hD
        · obtain ⟨-, x, -⟩ := a6 hit
          rw [x, if_pos rfl]
          split <;> omega
        · omega
        · split
          · split <;> omega
          · omega
      · rw [if_neg c3]
        have c4 : v'.N = v.N := by omega
        rw [if_neg (by omega)]
        rcases a5 with hit | hB | hD
        · have := (a6 hit).1; omega
        · omega
        · omega
/-- both wait; both phases go on -/
theorem VB_on {v v' u u' : Vw} {H G : Prop} (h : v.ok) (h' : v'.ok) (k : u.ok) (k' : u'.ok) (a : Adv v v' u u' H) (d : Adv u u' v v' G) (hE : v.B < v.E) (hu : u.B < u.E) (he : v'.B < v.e) (hf : u'.B < u.e) : VB v' u' + 1 ≤ VB v u := by
  obtain ⟨h1, h2, h3, h4, h5, h6, h7⟩ := h
  obtain ⟨g1, g2, g3, g4, g5, g6, g7⟩ := h'
  obtain ⟨k1, k2, k3, k4, k5, k6, k7⟩ := k
  obtain ⟨m1, m2, m3, m4, m5, m6, m7⟩ := k'
  obtain ⟨a1, a2, a3, a4, a5, a6, -, -, a9⟩ := a
  obtain ⟨d1, d2, d3, d4, d5, d6, -, -, d9⟩ := d
  rw [if_pos he] at a9
  rw [if_pos hf] at d9
  have a5 := a5 hE
  have d5 := d5 hu
  have hee : v'.e = v.e := by unfold Vw.e; rw [a9, a1]
  have hff : u'.e = u.e := by unfold Vw.e; rw [d9, d1]
  have hed : v.e = min (v.b + 256) v.E := rfl
  have hfd : u.e = min (u.b + 256) u.E := rfl
  unfold VB
  rw [hee, hff]
  generalize v.e = e at *
  generalize u.e = f at *
  have sm : (if u'.B < u'.N ∧ u'.N < f then 20 else 0) ≤ (if u.B < u.N ∧ u.N < f then 20 else 0) ∧ (u'.B ≠ u.B → (if u.B < u.N ∧ u.N < f then 20 else 0) = 20 ∧ (if u'.B < u'.N ∧ u'.N < f then 20 else 0) = 0) := by
    refine ⟨?_, fun hB => ⟨if_pos (by omega), if_neg (by omega)⟩⟩
    split
    · rw [if_pos (by omega)]; exact Nat.le_refl _
    · exact Nat.zero_le _
  obtain ⟨s1, s2⟩ := sm
  generalize (if u'.B < u'.N ∧ u'.N < f then 20 else 0) = y' at *
  generalize (if u.B < u.N ∧ u.N < f then 20 else 0) = y at *
  by_cases c1 : e ≤ v.N
  · rw [if_pos c1, if_pos (by omega)]
    rcases d5 with hit | hB | hD
    · have := (d6 hit).2.2; omega
    · have := s2 hB; omega
    · omega
  · rw [if_neg c1]
    by_cases c3 : e ≤ v'.N
    · rw [if_pos c3]
      split <;> omega
    · rw [if_neg c3]
      have c4 : v'.N = v.N := by omega
      rcases a5 with hit | hB | hD
      · have := (a6 hit).1; omega
      · rw [if_neg (show ¬ v'.B < v'.N by omega), if_pos (show v.B < v.N by omega)]; omega
      · split
        · rw [if_pos (by omega)]; omega
        · split <;> omega
theorem Mu_on {v v' u u' : Vw} {H G : Prop} (h : v.ok) (h' : v'.ok) (k : u.ok) (k' : u'.ok) (a : Adv v v' u u' H) (d : Adv u u' v v' G) : Mu v' u' + 1 ≤ Mu v u ∨ Mu v' u' = 0 := by
  obtain ⟨c1, c2⟩ := cnt_on h a
  obtain ⟨c3, c4⟩ := cnt_on k d
  obtain ⟨b1, b2⟩ := Vt_bounds h k
  obtain ⟨b3, b4⟩ := Vt_bounds h' k'
  unfold Mu
  by_cases hE : v.B < v.E
  · by_cases he : v'.B < v.e
    · by_cases hu : u.B < u.E
      · by_cases hf : u'.B < u.e
        · have := VB_on h h' k k' a d hE hu he hf
          have e1 := a.E
          have e2 := d.E
          have x1 : Vt v u = VB v u := by unfold Vt; rw [if_pos hE, if_pos hu]
          have x2 : Vt v' u' = VB v' u' := by
            unfold Vt
            have : v.e ≤ v.E := Nat.min_le_right _ _
            have : u.e ≤ u.E := Nat.min_le_right _ _
            rw [if_pos (by omega), if_pos (by omega)]
          omega
        · have := c4 hu hf
          have := b2 (.inl hE)
          omega
      · have := VA_on h h' a hE hu he
        have e1 := a.E
        have e2 := d.E
        have e3 := d.B
        have x1 : Vt v u = VA v := by unfold Vt; rw [if_pos hE, if_neg hu]
        have x2 : Vt v' u' = VA v' := by
          unfold Vt
          have : v.e ≤ v.E := Nat.min_le_right _ _
          have := k.BN
          have := k.NE
          rw [if_pos (by omega), if_neg (by omega)]
        omega
    · have := c2 hE he
      have := b2 (.inl hE)
      omega
  · by_cases hu : u.B < u.E
    · by_cases hf : u'.B < u.e
      · have := VA_on k k' d hu hE hf
        have e1 := a.E
        have e2 := d.E
        have e3 := a.B
        have := h.BN
        have := h.NE
        have x1 : Vt v u = VA u := by unfold Vt; rw [if_neg hE, if_pos hu]
        have x2 : Vt v' u' = VA u' := by
          unfold Vt
          have : u.e ≤ u.E := Nat.min_le_right _ _
          rw [if_neg (by omega), if_pos (by omega)]
        omega
      · have := c4 hu hf
        have := b2 (.inr hu)
        omega
    · right
      have e1 := a.E
      have e2 := d.E
      have e3 := a.B
      have e4 := d.B
      have := h.BN
      have := h.NE
      have := k.BN
      have := k.NE
      have q1 := a.quiet hE
      have q2 := d.quiet hu
      unfold cnt Vt
      rw [if_neg (by omega), if_neg (by omega), if_neg (by omega), if_neg (by omega), q1, q2]
      simp
theorem Mu_zero {v u : Vw} (h : v.ok) (k : u.ok) (h0 : Mu v u = 0) : ¬ v.B < v.E ∧ ¬ u.B < u.E ∧ v.ow = false ∧ u.ow = false := by
  obtain ⟨b1, b2⟩ := Vt_bounds h k
  have h1 := h.bB
  have k1 := k.bB
  unfold Mu at h0
  have x1 : Vt v u = 0 := by omega
  have x2 : ¬ v.B < v.E ∧ ¬ u.B < u.E := ⟨fun hh => by have := b2 (.inl hh); omega, fun hh => by have := b2 (.inr hh); omega⟩
  unfold Vt at x1
  rw [if_neg x2.1, if_neg x2.2] at x1
  refine ⟨x2.1, x2.2, ?_⟩
  by_cases hh : v.ow = true ∨ u.ow = true
  · rw [if_pos hh] at x1; cases x1
  · cases h3 : v.ow <;> cases h4 : u.ow <;> simp_all
theorem Mu_first {v u : Vw} (h : v.ok) (k : u.ok) : Mu v u ≤ 120 * ((v.E - v.b + 255) / 256 + (u.E - u.b + 255) / 256) + 101 := by
  obtain ⟨b1, -⟩ := Vt_bounds h k
  have h1 : cnt v ≤ (v.E - v.b + 255) / 256 := by unfold cnt; split <;> omega
  have h2 : cnt u ≤ (u.E - u.b + 255) / 256 := by unfold cnt; split <;> omega
  unfold Mu
  omega
end Go.Proofs.Ytpgiljjjpijepaa
