/- The least rectangle that has both, in plain numbers: it has the pixels of both, whatever has both has it, and of three it hangs on no order. -/
import Derived.Test.YtlmnfcocgocjiaaPlain
import Derived.Test.YtlmnfcocgocjiaaOr
namespace Go.Proofs.Ytlmnfcocgocjiaa
theorem or_full {a b : Rc} (ea : a.empty = false) (eb : b.empty = false) : orR a b = ⟨min a.x b.x, min a.y b.y, max (a.x + a.w) (b.x + b.w) - min a.x b.x, max (a.y + a.h) (b.y + b.h) - min a.y b.y⟩ := by
  unfold orR
  rw [if_neg (by simp [ea]), if_neg (by simp [eb])]
theorem or_left {a b : Rc} (ea : a.empty = true) (eb : b.empty = false) : orR a b = b := by
  unfold orR
  rw [if_pos ea, if_neg (by simp [eb])]
theorem or_right {a b : Rc} (ea : a.empty = false) (eb : b.empty = true) : orR a b = a := by
  unfold orR
  rw [if_neg (by simp [ea]), if_pos eb]
theorem or_none {a b : Rc} (ea : a.empty = true) (eb : b.empty = true) : orR a b = zeroR := by
  unfold orR
  rw [if_pos ea, if_pos eb]
theorem or_comm (a b : Rc) : orR a b = orR b a := by
  cases ea : a.empty <;> cases eb : b.empty
  · rw [or_full ea eb, or_full eb ea, Int.min_comm a.x, Int.min_comm a.y, Int.max_comm (a.x + a.w), Int.max_comm (a.y + a.h)]
  · rw [or_right ea eb, or_left eb ea]
  · rw [or_left ea eb, or_right eb ea]
  · rw [or_none ea eb, or_none eb ea]
theorem or_Full {a b : Rc} (fa : Full a) (fb : Full b) : Full (orR a b) ∧ (orR a b).x = min a.x b.x ∧ (orR a b).y = min a.y b.y ∧ (orR a b).x + (orR a b).w = max (a.x + a.w) (b.x + b.w) ∧ (orR a b).y + (orR a b).h = max (a.y + a.h) (b.y + b.h) := by
  rw [or_full fa.ne fb.ne]
  obtain ⟨⟨a1, a2, a3, a4, a5, a6, a7, a8⟩, _, _⟩ := fa
  obtain ⟨⟨b1, b2, b3, b4, b5, b6, b7, b8⟩, _, _⟩ := fb
  refine ⟨⟨?_, ?_, ?_⟩, rfl, rfl, ?_, ?_⟩
  · constructor <;> simp only <;> omega
  · simp only; omega
  · simp only; omega
  · simp only; omega
  · simp only; omega
theorem or_has_left (a b : Rc) {x y : Int} (h : a.has x y = true) : (orR a b).has x y = true := by
  have fa := has_full h
  cases eb : b.empty with
  | true => rw [or_right fa.ne eb]; exact h
  | false =>
    obtain ⟨fo, e1, e2, e3, e4⟩ := or_Full fa (full_of eb)
    obtain ⟨_, h1, h2, h3, h4⟩ := (has_iff _ _ _).1 h
    exact (has_iff _ _ _).2 ⟨fo.g, by omega, by omega, by omega, by omega⟩
theorem or_has_right (a b : Rc) {x y : Int} (h : b.has x y = true) : (orR a b).has x y = true := by rw [or_comm]; exact or_has_left b a h
theorem in_or_left (a b : Rc) : inR a (orR a b) = true := in_of_has fun _ _ h => or_has_left a b h
theorem in_or_right (a b : Rc) : inR b (orR a b) = true := in_of_has fun _ _ h => or_has_right a b h
theorem and_in_left (a b : Rc) : inR (andR a b) a = true := in_of_has fun x y h => by rw [has_and, Bool.and_eq_true] at h; exact h.1
theorem and_in_right (a b : Rc) : inR (andR a b) b = true := in_of_has fun x y h => by rw [has_and, Bool.and_eq_true] at h; exact h.2
theorem full_in {a c : Rc} (fa : Full a) (h : inR a c = true) : Full c ∧ c.x ≤ a.x ∧ c.y ≤ a.y ∧ a.x + a.w ≤ c.x + c.w ∧ a.y + a.h ≤ c.y + c.h := by
  have aw := fa.w
  have ah := fa.h
  have h1 := in_has h ((has_iff a a.x a.y).2 ⟨fa.g, by omega, by omega, by omega, by omega⟩)
  have h2 := in_has h ((has_iff a (a.x + a.w - 1) (a.y + a.h - 1)).2 ⟨fa.g, by omega, by omega, by omega, by omega⟩)
  have fc := has_full h1
  rw [has_iff] at h1 h2
  exact ⟨fc, by omega, by omega, by omega, by omega⟩
theorem in_of_ends {a c : Rc} (fc : Full c) (h1 : c.x ≤ a.x) (h2 : c.y ≤ a.y) (h3 : a.x + a.w ≤ c.x + c.w) (h4 : a.y + a.h ≤ c.y + c.h) : inR a c = true :=
  in_of_has fun x y h => by
    rw [has_iff] at h ⊢
    exact ⟨fc.g, by omega, by omega, by omega, by omega⟩
/-- whatever has both has the least one that has both -/
theorem or_least {a b c : Rc} (h1 : inR a c = true) (h2 : inR b c = true) : inR (orR a b) c = true := by
  cases ea : a.empty <;> cases eb : b.empty
  · obtain ⟨fc, a1, a2, a3, a4⟩ := full_in (full_of ea) h1
    obtain ⟨_, b1, b2, b3, b4⟩ := full_in (full_of eb) h2
    obtain ⟨fo, e1, e2, e3, e4⟩ := or_Full (full_of ea) (full_of eb)
    exact in_of_ends fc (by omega) (by omega) (by omega) (by omega)
  · rw [or_right ea eb]; exact h1
  · rw [or_left ea eb]; exact h2
  · rw [or_none ea eb, in_iff]; exact .inl zero_empty
theorem or_assoc {a b c : Rc} (ea : a.empty = false) (eb : b.empty = false) (ec : c.empty = false) : orR (orR a b) c = orR a (orR b c) := by
  have fa := full_of ea
  have fb := full_of eb
  have fc := full_of ec
  obtain ⟨f1, p1, p2, p3, p4⟩ := or_Full fa fb
  obtain ⟨f2, q1, q2, q3, q4⟩ := or_Full fb fc
  obtain ⟨-, r1, r2, r3, r4⟩ := or_Full f1 fc
  obtain ⟨-, s1, s2, s3, s4⟩ := or_Full fa f2
  rw [p1, Int.min_assoc, ← q1, ← s1] at r1
  rw [p2, Int.min_assoc, ← q2, ← s2] at r2
  rw [p3, Int.max_assoc, ← q3, ← s3] at r3
  rw [p4, Int.max_assoc, ← q4, ← s4] at r4
  clear p1 p2 p3 p4 q1 q2 q3 q4 s1 s2 s3 s4 f1 f2 fa fb fc
  generalize orR (orR a b) c = u at *
  generalize orR a (orR b c) = v at *
  exact rc_ext r1 r2 (by omega) (by omega)
theorem has_first {a : Rc} (h : Full a) : a.has a.x a.y = true := by
  have := h.w
  have := h.h
  exact (has_iff _ _ _).2 ⟨h.g, by omega, by omega, by omega, by omega⟩
theorem has_last {a : Rc} (h : Full a) : a.has (a.x + a.w - 1) (a.y + a.h - 1) = true := by
  have := h.w
  have := h.h
  exact (has_iff _ _ _).2 ⟨h.g, by omega, by omega, by omega, by omega⟩
theorem has_ahead (a : Rc) (y : Int) : a.has (a.x - 1) y = false := by
  cases e : a.has (a.x - 1) y with
  | false => rfl
  | true => have := (has_iff _ _ _).1 e; omega
theorem has_below (a : Rc) (x : Int) : a.has x (a.y + a.h) = false := by
  cases e : a.has x (a.y + a.h) with
  | false => rfl
  | true => have := (has_iff _ _ _).1 e; omega
theorem and_area (a b : Rc) : (andR a b).area ≤ a.area := in_area (and_in_left a b)
theorem empty_has {a : Rc} (h : a.empty = true) (x y : Int) : a.has x y = false := has_empty h x y
theorem empty_in {a : Rc} (h : a.empty = true) (b : Rc) : inR a b = true := by rw [in_iff]; exact .inl h
end Go.Proofs.Ytlmnfcocgocjiaa
