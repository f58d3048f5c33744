/- The contracts of slices.Clone at bytes, and of the reference's Sum, in the printed texts' form. -/
import Derived.Test.YtmacmhlimdaemaaExtSum
import Derived.Test.YtmacmhlimdaemaaRefSum
import Derived.Lib.SliceRun
namespace Go.Proofs.Ytmacmhlimdaemaa.Ext
open Go.RowKit Go.Proofs.YtmacmhlimdaemaaW.PrintWords Go.Proofs.Ytmacmhlimdaemaa.Crc
theorem info5 : (Try.prog.info? 5).map (fun i => (i.zero, i.size, i.bytes)) = some (some (.int .u8 0), 1, 1) := by kernel_rfl
def cloneF (l : List Int) : Option (List Int) := if l.length ≤ 140737488351232 then some l else none
theorem cloneF_ok {l : List Int} (h : l.length ≤ 140737488351232) : cloneF l = some l := if_pos h
theorem C_nil {w : World} {l : List Int} (h : Kd.C (Kd.int .u8) w none l.length l) : l = [] := by
  rcases Nat.eq_zero_or_pos l.length with h0 | h0
  · exact List.eq_nil_of_length_eq_zero h0
  · obtain ⟨ad, e, _⟩ := h.2.2 h0
    cases e
theorem clone_calls (A0 : Option Addr) (c0 : Nat) (l0 : List Int) (r : List Int) (w : World) (hr0 : Kd.C (Kd.int .u8) w A0 l0.length l0) (hc0 : l0.length ≤ c0) (h : cloneF l0 = some r) :
    Calls Try.prog 51 #[.slice A0 l0.length c0] w fun e w' => ∃ v0_ : Value, e = .returned (v0_) ∧ Kd.R (Kd.int .u8) 5 w' w.heap.size (fun _ => True) v0_ r ∧ Below w.heap.size w w' := by
  have _ := hc0
  unfold cloneF at h
  by_cases hb : l0.length ≤ 140737488351232
  · rw [if_pos hb] at h
    injection h with h
    subst h
    rcases A0 with _ | ad
    · obtain rfl := C_nil hr0
      have heq := fun w => Lib.run_eql_slice_nil (P := Try.prog) w 22 5 none 0 c0 0 0 Try.underlying22
      go_enter Try.func51, Try.ntmps51
      go_wp2
      go_ret
      exact ⟨_, rfl, Kd.R_nil _ _ _ _ _, Below.refl _ _⟩
    · have heq := fun w => Lib.run_eql_slice_nil (P := Try.prog) w 22 5 (some ad) l0.length c0 0 0 Try.underlying22
      have Hb := Lib.hid hb
      clear hb
      go_enter Try.func51, Try.ntmps51
      go_wp2_with (
        at_builtin
        refine Kd.R_append_row (Value.int .u8) 0 (h1 := fun _ => rfl) (w0 := w) w.heap.size rfl (.tmp 5) (.tmp 6) 22 5 (.int .u8 0) 1 rfl Try.underlying22 info5 rfl (by decide) (.slice (some ⟨w.heap.size, 0, none⟩) 0 0) [] l0 (some ad) l0.length c0 (fun _ => True) rfl rfl (fun _ _ => trivial) ?own ?row ?bel ?base ?len ?_
        case own => exact ⟨fun _ _ => trivial, [], ⟨rfl, .inr ⟨_, 0, #[], rfl, Nat.le_refl _, heap_alloc_new _ _, Nat.le_refl _, Nat.zero_le _, rfl, rfl⟩⟩, Reps.none _ _⟩
        case row => exact Kd.C_below hr0 ((Below.refl _ _).alloc (Nat.le_refl _) _)
        case bel => exact (Below.refl _ _).alloc (Nat.le_refl _) _
        case base => rw [World.size_alloc]; omega
        case len => have := Hb.out; simp only [List.length_nil]; omega
        intro v1 w1 hR hB hg hat)
      go_ret
      exact ⟨_, rfl, hR, hB⟩
  · rw [if_neg hb] at h
    cases h
theorem ref_calls (A0 : Option Addr) (c0 : Nat) (l0 : List Int) (r : Int) (w : World) (hr0 : Kd.C (Kd.int .u8) w A0 l0.length l0) (hc0 : l0.length ≤ c0) (h : sumF l0 = some r) :
    Calls Try.prog 20 #[.slice A0 l0.length c0] w fun e w' => e = .returned (.int .u32 r) ∧ Below w.heap.size w w' := by
  have _ := hc0
  unfold sumF at h
  by_cases hb : okB l0 = true
  · rw [if_pos hb] at h
    injection h with h
    subst h
    exact (refSum_any A0 l0.length c0 (nat l0) w (reads_nat hr0 hb) (nat_lt hb) (by have := okB_len hb; simp only [maxLen]; omega)).mono fun e w' ⟨he, hw⟩ => ⟨he, hw ▸ Below.refl _ _⟩
  · rw [if_neg hb] at h
    cases h
end Go.Proofs.Ytmacmhlimdaemaa.Ext
