/- Expand: what is told of the first tokens is what all tell begins with. -/
import Derived.Test.YtgfjbbjdkmgdjaaLzExp
namespace Go.Proofs.Ytgfjbbjdkmgdjaa.L
open Go.RowKit Go.Proofs.YtgfjbbjdkmgdjaaW.PrintWords
theorem copyN_pre : ∀ n out D, out <+: copyN n out D
  | 0, out, _ => List.prefix_refl out
  | n + 1, out, D => (List.prefix_append _ _).trans (copyN_pre n _ D)
theorem expS_err : ∀ T out, (expS T out).2 ≠ 0 → (expS T out).1 = []
  | [], out, h => absurd rfl h
  | ⟨f0, f1, f2⟩ :: ts, out, h => by
    rw [expS] at h ⊢
    by_cases h1 : f1 = 0 ∧ f2 = 0
    · rw [if_pos h1] at h ⊢
      by_cases h2 : 524288 < (out ++ [f0]).length
      · rw [if_pos h2]
      · rw [if_neg h2] at h ⊢; exact expS_err ts _ h
    · rw [if_neg h1] at h ⊢
      by_cases h3 : f0 = 0 ∧ 3 ≤ f1 ∧ f1 ≤ 258 ∧ 1 ≤ f2 ∧ f2 ≤ 32768 ∧ f2 ≤ (out.length : Int)
      · rw [if_pos h3] at h ⊢
        by_cases h2 : 524288 < (copyN f1.toNat out f2.toNat).length
        · rw [if_pos h2]
        · rw [if_neg h2] at h ⊢; exact expS_err ts _ h
      · rw [if_neg h3]
theorem expS_pre : ∀ T out, (expS T out).2 = 0 → out <+: (expS T out).1
  | [], out, _ => List.prefix_refl out
  | ⟨f0, f1, f2⟩ :: ts, out, h => by
    rw [expS] at h ⊢
    by_cases h1 : f1 = 0 ∧ f2 = 0
    · rw [if_pos h1] at h ⊢
      by_cases h2 : 524288 < (out ++ [f0]).length
      · rw [if_pos h2] at h; exact absurd h (by decide)
      · rw [if_neg h2] at h ⊢; exact (List.prefix_append _ _).trans (expS_pre ts _ h)
    · rw [if_neg h1] at h ⊢
      by_cases h3 : f0 = 0 ∧ 3 ≤ f1 ∧ f1 ≤ 258 ∧ 1 ≤ f2 ∧ f2 ≤ 32768 ∧ f2 ≤ (out.length : Int)
      · rw [if_pos h3] at h ⊢
        by_cases h2 : 524288 < (copyN f1.toNat out f2.toNat).length
        · rw [if_pos h2] at h; exact absurd h (by decide)
        · rw [if_neg h2] at h ⊢; exact (copyN_pre _ _ _).trans (expS_pre ts _ h)
      · rw [if_neg h3] at h; exact absurd h (by decide)
theorem expS_take : ∀ n T out, (expS T out).2 = 0 → (expS (T.take n) out).2 = 0 ∧ (expS (T.take n) out).1 <+: (expS T out).1
  | 0, T, out, h => ⟨rfl, expS_pre T out h⟩
  | _ + 1, [], out, _ => ⟨rfl, List.prefix_refl _⟩
  | n + 1, ⟨f0, f1, f2⟩ :: ts, out, h => by
    rw [List.take_succ_cons]
    rw [expS] at h ⊢
    rw [expS]
    by_cases h1 : f1 = 0 ∧ f2 = 0
    · rw [if_pos h1] at h ⊢
      rw [if_pos h1]
      by_cases h2 : 524288 < (out ++ [f0]).length
      · rw [if_pos h2] at h; exact absurd h (by decide)
      · rw [if_neg h2] at h ⊢; rw [if_neg h2]; exact expS_take n ts _ h
    · rw [if_neg h1] at h ⊢
      rw [if_neg h1]
      by_cases h3 : f0 = 0 ∧ 3 ≤ f1 ∧ f1 ≤ 258 ∧ 1 ≤ f2 ∧ f2 ≤ 32768 ∧ f2 ≤ (out.length : Int)
      · rw [if_pos h3] at h ⊢
        rw [if_pos h3]
        by_cases h2 : 524288 < (copyN f1.toNat out f2.toNat).length
        · rw [if_pos h2] at h; exact absurd h (by decide)
        · rw [if_neg h2] at h ⊢; rw [if_neg h2]; exact expS_take n ts _ h
      · rw [if_neg h3] at h; exact absurd h (by decide)
/-- Expand, whatever the tokens -/
theorem expand_plain (T : List S26) (hT : T.length ≤ 1000000) (hok : ∀ x ∈ T, okS x) (A : Option Addr) (c : Nat) (w : World) (hr : Kd.C k26 w A T.length T) (hc : T.length ≤ c) :
    Calls Try.prog 13 #[.slice A T.length c] w fun e w' => ∃ v : Value, e = .returned (.tuple #[v, .int .i64 (expS T []).2]) ∧ Kd.R (Kd.int .u8) 5 w' w.heap.size (fun _ => True) v (expS T []).1 ∧ Below w.heap.size w w' := by
  obtain ⟨k, hk⟩ := lze_is T hT hok
  exact lz_Expand.calls k A c T _ _ w hr hc (hk k (Nat.le_refl _))
theorem matches_any (w : World) : Calls Try.prog 12 #[] w fun e w' => e = .returned (.bool true) ∧ Below w.heap.size w w' := vignettelaw07_matches.calls 40 true w matches_known
end Go.Proofs.Ytgfjbbjdkmgdjaa.L
