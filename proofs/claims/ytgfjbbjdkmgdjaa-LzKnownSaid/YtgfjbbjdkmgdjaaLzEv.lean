/- What the laws of Lz share: the known case, bytes. -/
import Derived.Test.YtgfjbbjdkmgdjaaLx5
import Derived.Test.YtgfjbbjdkmgdjaaExtMatch
namespace Go.Proofs.Ytgfjbbjdkmgdjaa.L
open Go.RowKit Go.Proofs.YtgfjbbjdkmgdjaaW.PrintWords Go.Proofs.Ytgfjbbjdkmgdjaa.Lz Ext
/-- with fuel enough -/
def Ev {α : Type} (f : Nat → Option α) (r : α) : Prop := ∃ N, ∀ k, N ≤ k → f k = some r
theorem Ev.step {α : Type} {f g : Nat → Option α} {r : α} (h : Ev f r) (hs : ∀ k, f k = some r → g (k + 1) = some r) : Ev g r := by
  obtain ⟨N, h⟩ := h
  refine ⟨N + 1, fun k hk => ?_⟩
  obtain ⟨m, rfl⟩ : ∃ m, k = m + 1 := ⟨k - 1, by omega⟩
  exact hs m (h m (by omega))
theorem Ev.two {α β : Type} {f : Nat → Option α} {g : Nat → Option β} {h : Nat → Option β} {r : α} {s : β} (hf : Ev f r) (hg : Ev g s) (hs : ∀ k, f k = some r → g k = some s → h (k + 1) = some s) : Ev h s := by
  obtain ⟨N, hf⟩ := hf
  obtain ⟨M, hg⟩ := hg
  refine ⟨N + M + 1, fun k hk => ?_⟩
  obtain ⟨m, rfl⟩ : ∃ m, k = m + 1 := ⟨k - 1, by omega⟩
  exact hs m (hf m (by omega)) (hg m (by omega))
theorem Ev.of_mono {α : Type} {f : Nat → Option α} (hm : ∀ k, LeO (f k) (f (k + 1))) {n : Nat} {r : α} (h : f n = some r) : Ev f r := by
  refine ⟨n, fun k hk => ?_⟩
  obtain ⟨d, rfl⟩ : ∃ d, k = n + d := ⟨k - n, by omega⟩
  clear hk
  induction d with
  | zero => exact h
  | succ d ih => exact hm _ _ ih
theorem matches_known : vignettelaw07_matches.f 40 = some true := by decide +kernel
theorem matches_ev : Ev (fun k => vignettelaw07_matches.f k) true := Ev.of_mono vignettelaw07_matches.mono matches_known
theorem okM_of_wf {l : List Int} (h : ∀ x ∈ l, (Lit.int .u8 x).wf = true) (hl : l.length ≤ 1000000) : okM l = true := by
  refine okM_mk (fun x hx => ?_) hl
  have := h x hx
  simp [Lit.wf, IntKind.min, IntKind.max, IntKind.signed, IntKind.bits] at this
  omega
end Go.Proofs.Ytgfjbbjdkmgdjaa.L
