/- So far on and as far back: what follows of Shift, in plain numbers. -/
import Derived.Test.YtlmnfcocgocjiaaPlain
import Derived.Test.YtlmnfcocgocjiaaOr
namespace Go.Proofs.Ytlmnfcocgocjiaa
structure Shifted (r : Rc) (dx dy : Int) (s : Rc) : Prop where
  gr : Good r.x r.y r.w r.h
  gs : Good s.x s.y s.w s.h
  x0 : -4194304 ≤ dx
  x1 : dx ≤ 4194304
  y0 : -4194304 ≤ dy
  y1 : dy ≤ 4194304
  e : s = ⟨r.x + dx, r.y + dy, r.w, r.h⟩
theorem shifted {r : Rc} {dx dy : Int} (h : shiftR r dx dy ≠ zeroR) : Shifted r dx dy (shiftR r dx dy) := by
  unfold shiftR at h ⊢
  by_cases h1 : r.good = true ∧ inB dx (-4194304) 4194304 = true ∧ inB dy (-4194304) 4194304 = true
  · rw [if_pos h1] at h ⊢
    by_cases h2 : (Rc.mk (r.x + dx) (r.y + dy) r.w r.h).good = true
    · rw [if_pos h2] at h ⊢
      obtain ⟨g, ix, iy⟩ := h1
      simp only [inB, decide_eq_true_eq] at ix iy
      exact ⟨good_of g, good_of h2, ix.1, ix.2, iy.1, iy.2, rfl⟩
    · rw [if_neg h2] at h; exact absurd rfl h
  · rw [if_neg h1] at h; exact absurd rfl h
theorem Shifted.good {r s : Rc} {dx dy : Int} (h : Shifted r dx dy s) : s.good = true := of_good h.gs
theorem Shifted.back {r s : Rc} {dx dy : Int} (h : Shifted r dx dy s) : shiftR s (-dx) (-dy) = r := by
  obtain ⟨gr, gs, a, b, c, d, rfl⟩ := h
  unfold shiftR
  rw [if_pos ⟨of_good gs, by simp [inB]; omega, by simp [inB]; omega⟩]
  have e : (Rc.mk (r.x + dx + -dx) (r.y + dy + -dy) r.w r.h) = r := by
    obtain ⟨x, y, w, h⟩ := r
    simp only [Rc.mk.injEq, and_true]
    omega
  show (if (Rc.mk (r.x + dx + -dx) (r.y + dy + -dy) r.w r.h).good = true then Rc.mk (r.x + dx + -dx) (r.y + dy + -dy) r.w r.h else zeroR) = r
  rw [e, if_pos (of_good gr)]
theorem Shifted.has {r s : Rc} {dx dy : Int} (h : Shifted r dx dy s) (x y : Int) : s.has (x + dx) (y + dy) = r.has x y := by
  have h1 := has_iff s (x + dx) (y + dy)
  have h2 := has_iff r x y
  obtain ⟨gr, gs, a, b, c, d, rfl⟩ := h
  have : (Rc.mk (r.x + dx) (r.y + dy) r.w r.h).has (x + dx) (y + dy) = true ↔ r.has x y = true := by
    rw [h1, h2]
    simp only [gr, gs, true_and]
    omega
  cases e1 : (Rc.mk (r.x + dx) (r.y + dy) r.w r.h).has (x + dx) (y + dy) <;> cases e2 : r.has x y <;> simp_all
theorem Shifted.area {r s : Rc} {dx dy : Int} (h : Shifted r dx dy s) : s.area = r.area := by
  obtain ⟨gr, gs, a, b, c, d, rfl⟩ := h
  unfold Rc.area areaV
  rw [if_pos (of_good gr), if_pos (of_good gs)]
end Go.Proofs.Ytlmnfcocgocjiaa
