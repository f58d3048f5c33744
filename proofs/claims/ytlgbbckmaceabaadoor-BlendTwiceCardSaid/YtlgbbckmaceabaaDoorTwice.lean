/- The walks of the laws of blend: to see through two. -/
import Derived.Test.YtlgbbckmaceabaaDoorPlain
import Derived.Test.YtlgbbckmaceabaaDoorWakes
import Derived.WalkLawsBesides
namespace Go.Proofs.YtlgbbckmaceabaaDoor
open Go.RowKit
theorem twice_any (a b c : Int) (w : World) (hC : Chans w) (ha : 0 ≤ a) (ha' : a ≤ 255) (hb : 0 ≤ b) (hb' : b ≤ 255) (hc : 0 ≤ c) (hc' : c ≤ 255) :
    Calls Tryd.prog 6 #[.int .u8 a, .int .u8 b, .int .u8 c] w fun e w' => e = .returned (.bool true) ∧ Below w.heap.size w w' := by
  have ⟨x0, x1⟩ := mulV_bd ha ha' hb hb'
  have ⟨y0, y1⟩ := mulV_bd ha ha' hc hc'
  have ⟨z0, z1⟩ := mulV_le x0 hc x1 hc'
  have ⟨t0, _⟩ := mulV_le ha ha ha' ha'
  have ⟨z2, z3⟩ := mulV_bd x0 x1 hc hc'
  have hcase : (b < c ∧ mulV a b ≤ mulV a c) ∨ (b ≤ c ∧ c ≤ b ∧ mulV a b ≤ mulV a c ∧ mulV a c ≤ mulV a b) ∨ (c < b ∧ mulV a c ≤ mulV a b) := by
    rcases Int.lt_trichotomy b c with h | h | h
    · exact .inl ⟨h, mulV_rise ha (by omega)⟩
    · exact .inr (.inl ⟨by omega, by omega, mulV_rise ha (by omega), mulV_rise ha (by omega)⟩)
    · exact .inr (.inr ⟨h, mulV_rise ha (by omega)⟩)
  have h255 : (a != 255) = true ∨ ((a != 255) = false ∧ (mulV a b == b) = true) := by
    by_cases h : a = 255
    · subst h; exact .inr ⟨by decide, by rw [mulV_full']; exact beq_self_eq_true _⟩
    · exact .inl (bne_iff_ne.2 h)
  have hmin : mulV (mulV a b) c ≤ min (mulV a b) c := by omega
  rcases hcase with ⟨e1, e2⟩ | ⟨e1, e2, e3, e4⟩ | ⟨e1, e2⟩
  all_goals rcases h255 with h5 | ⟨h5, h6⟩
  all_goals
    go_enter Tryd.func6, Tryd.ntmps6
    go_wp2_with (first | (go_at_call 7; refine (mul_any _ _ _ (by omega) (by omega) (by omega) (by omega)).mono ?_; rintro e w' ⟨rfl, rfl⟩) | (go_at_call 11; refine (wakes_any _ hC).mono ?_; rintro e w3 ⟨rfl, hb3⟩))
  all_goals
    go_ret
    exact ⟨rfl, hb3⟩

end Go.Proofs.YtlgbbckmaceabaaDoor
