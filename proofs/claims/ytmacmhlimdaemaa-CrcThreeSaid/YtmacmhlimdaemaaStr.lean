import Derived.Test.YtmacmhlimdaemaaSums
import Derived.Laws.BytesArg
namespace Go.Proofs.Ytmacmhlimdaemaa
open Go.RowKit
/-- the string of bytes -/
def strB (l : List Nat) : ByteArray := strOfNums (l.map Int.ofNat)
theorem str_conv {w : World} {B n c : Nat} {A : Option Addr} {l : List Nat} (h : Reads w B 1 A n (l.map encB)) : (convert 22 9 (.slice A n c)).run Try.prog w = .ok (.string (strB l)) w := by
  have hlen := h.len
  rw [run_convert_bytes_string w 22 9 5 _ n c Try.underlying22 Try.underlying5 Try.underlying9]
  rcases A with _ | ad
  · have hn : n = 0 := by
      rcases Nat.eq_zero_or_pos n with h0 | h0
      · exact h0
      · obtain ⟨_, e, _⟩ := h.2 h0
        cases e
    subst hn
    obtain rfl : l = [] := List.eq_nil_of_length_eq_zero hlen
    simp [Conv.bytesToString]
    rfl
  · have hl : (loadCells ad n).run Try.prog w = .ok ((l.map Int.ofNat).map (Value.int .u8)).toArray w := by
      have hm : (l.map Int.ofNat).map (Value.int .u8) = l.map encB := by rw [List.map_map]; rfl
      rw [hm]
      have := run_loadCells_list (P := Try.prog) w ad (l.map encB) (fun j v hj => by
        rcases Nat.eq_zero_or_pos n with h0 | h0
        · subst h0
          obtain rfl : l = [] := List.eq_nil_of_length_eq_zero hlen
          simp at hj
        · obtain ⟨ad', e, _, hc⟩ := h.2 h0
          injection e with e
          subst e
          exact hc j v hj)
      simpa [hlen] using this
    rw [run_bytesToString w _ n c _ hl, foldl_push_bytes]
    simp [strB, strOfNums, ByteArray.empty, ByteArray.emptyWithCapacity]
    rfl
theorem own_form {w : World} {base n : Nat} {e : TypeId} {v : Value} {xs : List Value} (h : w.ownsRow base e 1 v n xs) : ∃ A c, v = .slice A n c := by
  rcases h.2 with ⟨rfl, h0⟩ | ⟨g, cap, _, hv, _⟩
  · subst h0; exact ⟨none, 0, rfl⟩
  · exact ⟨_, _, hv⟩
theorem own_ge {w : World} {base n size : Nat} {e : TypeId} {v : Value} {xs : List Value} (h : w.ownsRow base e size v n xs) : ∀ k, v.ownBlock = some k → base ≤ k := by
  intro k hk
  rcases h.2 with ⟨rfl, _⟩ | ⟨g, cap, _, rfl, hg, _⟩
  · simp [Value.ownBlock] at hk
  · simp [Value.ownBlock] at hk
    omega
theorem byte_info : (Try.prog.info? 5).map (fun i => (i.zero, i.size, i.bytes)) = some (some (.int .u8 0), 1, 1) := by kernel_rfl
end Go.Proofs.Ytmacmhlimdaemaa
