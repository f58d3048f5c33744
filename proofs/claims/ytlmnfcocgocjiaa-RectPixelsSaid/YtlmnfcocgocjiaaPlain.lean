/- Rectangles are sets of pixels: what follows of And and In, in plain numbers. -/
import Derived.Test.YtlmnfcocgocjiaaIn
import Derived.Test.YtlmnfcocgocjiaaRef
namespace Go.Proofs.Ytlmnfcocgocjiaa
/-- what two have in common: nothing; or a rectangle with pixels, told by its ends -/
theorem and_cases (a b : Rc) : andR a b = zeroR ∧ (a.empty = false → b.empty = false → (min (a.x + a.w) (b.x + b.w) - max a.x b.x ≤ 0 ∨ min (a.y + a.h) (b.y + b.h) - max a.y b.y ≤ 0)) ∨
    (a.empty = false ∧ b.empty = false ∧ 0 < min (a.x + a.w) (b.x + b.w) - max a.x b.x ∧ 0 < min (a.y + a.h) (b.y + b.h) - max a.y b.y ∧
      andR a b = ⟨max a.x b.x, max a.y b.y, min (a.x + a.w) (b.x + b.w) - max a.x b.x, min (a.y + a.h) (b.y + b.h) - max a.y b.y⟩) := by
  cases ea : a.empty with
  | true => exact .inl ⟨by simp [andR, ea], fun h => by cases h⟩
  | false =>
    cases eb : b.empty with
    | true => exact .inl ⟨by simp [andR, eb], fun _ h => by cases h⟩
    | false =>
      by_cases h1 : minV (a.x + a.w) (b.x + b.w) - maxV a.x b.x ≤ 0
      · exact .inl ⟨by simp only [andR, ea, eb, h1, true_or, if_true, Bool.false_eq_true, or_self, if_false], fun _ _ => .inl h1⟩
      · by_cases h2 : minV (a.y + a.h) (b.y + b.h) - maxV a.y b.y ≤ 0
        · exact .inl ⟨by simp only [andR, ea, eb, h2, or_true, if_true, Bool.false_eq_true, or_self, if_false], fun _ _ => .inr h2⟩
        · exact .inr ⟨rfl, rfl, Int.not_le.1 h1, Int.not_le.1 h2, by simp only [andR, ea, eb, h1, h2, Bool.false_eq_true, or_self, if_false]⟩
/-- a rectangle with pixels -/
structure Full (r : Rc) : Prop where
  g : Good r.x r.y r.w r.h
  w : 0 < r.w
  h : 0 < r.h
theorem full_of {r : Rc} (h : r.empty = false) : Full r := let ⟨a, b, c⟩ := Rc.good_of_not_empty h; ⟨a, b, c⟩
theorem Full.ne {r : Rc} (h : Full r) : r.empty = false := Rc.empty_of_good h.g h.w h.h
theorem zero_empty : zeroR.empty = true := by kernel_rfl
theorem zero_has (x y : Int) : zeroR.has x y = false := has_empty zero_empty x y
theorem has_iff (r : Rc) (x y : Int) : r.has x y = true ↔ Good r.x r.y r.w r.h ∧ r.x ≤ x ∧ x < r.x + r.w ∧ r.y ≤ y ∧ y < r.y + r.h := by
  unfold Rc.has hasB inB
  constructor
  · intro h
    simp only [Bool.and_eq_true, decide_eq_true_eq] at h
    exact ⟨good_of h.1, by omega, by omega, by omega, by omega⟩
  · rintro ⟨g, h1, h2, h3, h4⟩
    simp only [Bool.and_eq_true, decide_eq_true_eq]
    exact ⟨of_good g, by omega, by omega⟩
theorem has_full {r : Rc} {x y : Int} (h : r.has x y = true) : Full r := by
  obtain ⟨g, h1, h2, h3, h4⟩ := (has_iff r x y).1 h
  exact ⟨g, by omega, by omega⟩
theorem rc_ext {a b : Rc} (h1 : a.x = b.x) (h2 : a.y = b.y) (h3 : a.w = b.w) (h4 : a.h = b.h) : a = b := by
  cases a; cases b; simp_all
theorem eqR_self (a : Rc) : eqR a a = true := by simp [eqR]
theorem eqR_iff (a b : Rc) : eqR a b = true ↔ a = b := by
  unfold eqR
  constructor
  · intro h
    simp only [Bool.and_eq_true, beq_iff_eq] at h
    exact rc_ext h.1 h.2.1 h.2.2.1 h.2.2.2
  · rintro rfl; simp
theorem eqR_ne {a b : Rc} (h : a ≠ b) : eqR a b = false := by
  cases e : eqR a b with
  | false => rfl
  | true => exact absurd ((eqR_iff a b).1 e) h
/-- where both have pixels in common, that is a rectangle with pixels -/
theorem and_full {a b : Rc} (h : andR a b ≠ zeroR) : Full a ∧ Full b ∧ Full (andR a b) ∧ (andR a b).x = max a.x b.x ∧ (andR a b).y = max a.y b.y ∧ (andR a b).w = min (a.x + a.w) (b.x + b.w) - max a.x b.x ∧ (andR a b).h = min (a.y + a.h) (b.y + b.h) - max a.y b.y := by
  rcases and_cases a b with ⟨h0, _⟩ | ⟨ea, eb, h1, h2, e⟩
  · exact absurd h0 h
  · have fa := full_of ea
    have fb := full_of eb
    obtain ⟨⟨a1, a2, a3, a4, a5, a6, a7, a8⟩, _, _⟩ := fa
    obtain ⟨⟨b1, b2, b3, b4, b5, b6, b7, b8⟩, _, _⟩ := fb
    refine ⟨full_of ea, full_of eb, ⟨?_, ?_, ?_⟩, ?_⟩
    · rw [e]; constructor <;> simp only <;> omega
    · rw [e]; exact h1
    · rw [e]; exact h2
    · rw [e]; exact ⟨rfl, rfl, rfl, rfl⟩
theorem full_zero {r : Rc} (h : Full r) : r ≠ zeroR := by
  rintro rfl
  have := h.w
  simp [zeroR] at this
/-- the pixels of what two have in common -/
theorem has_and (a b : Rc) (x y : Int) : (andR a b).has x y = (a.has x y && b.has x y) := by
  rw [Bool.eq_iff_iff, Bool.and_eq_true, has_iff, has_iff, has_iff]
  constructor
  · intro h
    have hf : Full (andR a b) := has_full ((has_iff _ _ _).2 h)
    obtain ⟨fa, fb, _, e1, e2, e3, e4⟩ := and_full (full_zero hf)
    obtain ⟨_, h1, h2, h3, h4⟩ := h
    rw [e1, e3] at h2
    rw [e2, e4] at h4
    rw [e1] at h1
    rw [e2] at h3
    exact ⟨⟨fa.g, by omega, by omega, by omega, by omega⟩, fb.g, by omega, by omega, by omega, by omega⟩
  · rintro ⟨⟨ga, a1, a2, a3, a4⟩, gb, b1, b2, b3, b4⟩
    have ea : a.empty = false := Full.ne ⟨ga, by omega, by omega⟩
    have eb : b.empty = false := Full.ne ⟨gb, by omega, by omega⟩
    rcases and_cases a b with ⟨_, h0⟩ | ⟨_, _, h1, h2, e⟩
    · have := h0 ea eb; omega
    · obtain ⟨p1, p2, p3, p4, p5, p6, p7, p8⟩ := ga
      obtain ⟨q1, q2, q3, q4, q5, q6, q7, q8⟩ := gb
      rw [e]
      refine ⟨by constructor <;> simp only <;> omega, ?_, ?_, ?_, ?_⟩ <;> simp only <;> omega
/-- rectangles with pixels are what their pixels are -/
theorem full_ext {a b : Rc} (ha : Full a) (hb : Full b) (h : ∀ x y, a.has x y = b.has x y) : a = b := by
  have k : ∀ x y, (Good a.x a.y a.w a.h ∧ a.x ≤ x ∧ x < a.x + a.w ∧ a.y ≤ y ∧ y < a.y + a.h) ↔ (Good b.x b.y b.w b.h ∧ b.x ≤ x ∧ x < b.x + b.w ∧ b.y ≤ y ∧ y < b.y + b.h) := fun x y => by
    rw [← has_iff, ← has_iff, h x y]
  have aw := ha.w
  have ah := ha.h
  have bw := hb.w
  have bh := hb.h
  have k1 := (k a.x a.y).1 ⟨ha.g, by omega, by omega, by omega, by omega⟩
  have k2 := (k b.x b.y).2 ⟨hb.g, by omega, by omega, by omega, by omega⟩
  have k3 := (k (a.x + a.w - 1) (a.y + a.h - 1)).1 ⟨ha.g, by omega, by omega, by omega, by omega⟩
  have k4 := (k (b.x + b.w - 1) (b.y + b.h - 1)).2 ⟨hb.g, by omega, by omega, by omega, by omega⟩
  exact rc_ext (by omega) (by omega) (by omega) (by omega)
theorem and_or_zero (a b : Rc) : andR a b = zeroR ∨ Full (andR a b) := by
  by_cases h : andR a b = zeroR
  · exact .inl h
  · exact .inr (and_full h).2.2.1
/-- two that are nothing, or have pixels, are one where their pixels are -/
theorem same_of_has {a b : Rc} (ha : a = zeroR ∨ Full a) (hb : b = zeroR ∨ Full b) (h : ∀ x y, a.has x y = b.has x y) : a = b := by
  rcases ha with rfl | ha <;> rcases hb with rfl | hb
  · rfl
  · have h1 := h b.x b.y
    rw [zero_has] at h1
    have h2 : b.has b.x b.y = true := (has_iff _ _ _).2 ⟨hb.g, by omega, by have := hb.w; omega, by omega, by have := hb.h; omega⟩
    rw [h2] at h1; cases h1
  · have h1 := h a.x a.y
    rw [zero_has] at h1
    have h2 : a.has a.x a.y = true := (has_iff _ _ _).2 ⟨ha.g, by omega, by have := ha.w; omega, by omega, by have := ha.h; omega⟩
    rw [h2] at h1; cases h1
  · exact full_ext ha hb h
theorem and_comm (a b : Rc) : andR a b = andR b a :=
  same_of_has (and_or_zero a b) (and_or_zero b a) fun x y => by rw [has_and, has_and, Bool.and_comm]
theorem and_assoc (a b c : Rc) : andR (andR a b) c = andR a (andR b c) :=
  same_of_has (and_or_zero _ _) (and_or_zero _ _) fun x y => by rw [has_and, has_and, has_and, has_and, Bool.and_assoc]
theorem and_self' {a : Rc} (h : a.empty = false) : andR a a = a :=
  same_of_has (and_or_zero _ _) (.inr (full_of h)) fun x y => by rw [has_and, Bool.and_self]
theorem in_iff (a b : Rc) : inR a b = true ↔ a.empty = true ∨ andR a b = a := by
  unfold inR; rw [Bool.or_eq_true, eqR_iff]
theorem in_self (a : Rc) : inR a a = true := by
  rw [in_iff]
  cases h : a.empty with
  | true => exact .inl rfl
  | false => exact .inr (and_self' h)
/-- in: all its pixels are -/
theorem in_has {a b : Rc} (h : inR a b = true) {x y : Int} (hp : a.has x y = true) : b.has x y = true := by
  rcases (in_iff a b).1 h with h | h
  · have := (has_full hp).ne; rw [this] at h; cases h
  · have := has_and a b x y
    rw [h, hp] at this
    simpa using this.symm
theorem in_of_has {a b : Rc} (h : ∀ x y, a.has x y = true → b.has x y = true) : inR a b = true := by
  rw [in_iff]
  cases e : a.empty with
  | true => exact .inl rfl
  | false =>
    refine .inr (same_of_has (and_or_zero _ _) (.inr (full_of e)) fun x y => ?_)
    rw [has_and]
    cases hp : a.has x y with
    | false => rfl
    | true => rw [h x y hp]; rfl
theorem in_trans {a b c : Rc} (h : inR a b = true) (k : inR b c = true) : inR a c = true :=
  in_of_has fun _ _ hp => in_has k (in_has h hp)
theorem area_nonneg (a : Rc) : 0 ≤ a.area := by
  unfold Rc.area areaV
  split
  · rename_i g; have G := good_of g; exact Int.mul_nonneg G.w0 G.h0
  · exact Int.le_refl _
theorem area_full {a : Rc} (h : Full a) : a.area = a.w * a.h := by unfold Rc.area areaV; rw [if_pos (of_good h.g)]
theorem in_area {a b : Rc} (h : inR a b = true) : a.area ≤ b.area := by
  cases e : a.empty with
  | true => have h0 : a.area = 0 := by simpa [Rc.empty, emptyB] using e
            rw [h0]; exact area_nonneg b
  | false =>
    have fa := full_of e
    have aw := fa.w
    have ah := fa.h
    have p1 := (has_iff b _ _).1 (in_has h ((has_iff a a.x a.y).2 ⟨fa.g, by omega, by omega, by omega, by omega⟩))
    have p2 := (has_iff b _ _).1 (in_has h ((has_iff a (a.x + a.w - 1) (a.y + a.h - 1)).2 ⟨fa.g, by omega, by omega, by omega, by omega⟩))
    rw [area_full fa, area_full ⟨p1.1, by omega, by omega⟩]
    exact Int.mul_le_mul (by omega) (by omega) (by omega) (by omega)
end Go.Proofs.Ytlmnfcocgocjiaa
