import Derived.Test.YtmacmhlimdaemaaSum
import Derived.Lib.SlBytesConst
namespace Go.Proofs.Ytmacmhlimdaemaa
open Go.RowKit Go.Proofs.Ytmacmhlimdaemaa.Crc
theorem Reads.of_row {w : World} {g B : Nat} {t : TypeId} {fr : Nat × Nat} {l : List Nat} {n : Nat} (h : w.heap[g]? = some (.cells (l.map encB).toArray t fr)) (hB : g < B) (hn : l.length = n) : Reads w B 1 (some ⟨g, 0, none⟩) n (l.map encB) := by
  refine ⟨by simp [hn], fun _ => ⟨_, rfl, hB, fun j u hu => ?_⟩⟩
  have he : (⟨g, 0, none⟩ : Addr).add j = ⟨g, j, none⟩ := by unfold Addr.add; split <;> simp_all
  rw [he, cell_of_row w g j _ t fr h]
  simpa using hu
/-- the text of a constant, as bytes -/
theorem const_bytes (l : List Nat) (w : World) : ∃ W, w.alloc (.cells (l.map encB).toArray 5 ((l.map encB).toArray.size, (l.map encB).toArray.size + 1)) = W ∧ Reads W W.heap.size 1 (some ⟨w.heap.size, 0, none⟩) l.length (l.map encB) ∧ Below w.heap.size w W :=
  ⟨_, rfl, Reads.of_row (heap_alloc_new w _) (by rw [World.size_alloc]; omega) rfl, (Below.refl _ _).alloc (Nat.le_refl _) _⟩
theorem conv_const (l : List Nat) (n c : Nat) (w : World) : (convert 22 22 (.slice (some ⟨w.heap.size, 0, none⟩) n c)).run Try.prog (w.alloc (.cells (l.map encB).toArray 5)) =
    .ok (.slice (some ⟨w.heap.size, 0, none⟩) n c) (w.alloc (.cells (l.map encB).toArray 5 ((l.map encB).toArray.size, (l.map encB).toArray.size + 1))) :=
  Go.Lib.run_convert_bytes_const w 22 5 _ n c Try.underlying22 Try.underlying5
theorem sum_known (l : List Nat) (s : Nat) (h : sum l = s) (A : Option Addr) (n c : Nat) (w : World) (hr : Reads w w.heap.size 1 A n (l.map encB)) (hl : ∀ c ∈ l, c < 256) (hn : n ≤ maxLen) :
    Calls Try.prog 19 #[.slice A n c] w fun e w' => e = .returned (.int .u32 (s : Int)) ∧ Below w.heap.size w w' := h ▸ sum_any A n c l w hr hl hn
theorem sum_nine : sum [49, 50, 51, 52, 53, 54, 55, 56, 57] = 3421780262 := by kernel_rfl
theorem sum_nil : sum [] = 0 := by kernel_rfl
theorem nine_lit : ([49, 50, 51, 52, 53, 54, 55, 56, 57].map encB).toArray = #[.int .u8 49, .int .u8 50, .int .u8 51, .int .u8 52, .int .u8 53, .int .u8 54, .int .u8 55, .int .u8 56, .int .u8 57] := rfl
/-- the text "123456789" as bytes: the world behind it -/
theorem nine_bytes (w : World) : ∃ W, Reads W W.heap.size 1 (some ⟨w.heap.size, 0, none⟩) 9 ([49, 50, 51, 52, 53, 54, 55, 56, 57].map encB) ∧ Below w.heap.size w W ∧
    (convert 22 22 (.slice (some ⟨w.heap.size, 0, none⟩) 9 9)).run Try.prog (w.alloc (.cells #[.int .u8 49, .int .u8 50, .int .u8 51, .int .u8 52, .int .u8 53, .int .u8 54, .int .u8 55, .int .u8 56, .int .u8 57] 5)) = .ok (.slice (some ⟨w.heap.size, 0, none⟩) 9 9) W := by
  obtain ⟨W, hW, hrd, hB⟩ := const_bytes [49, 50, 51, 52, 53, 54, 55, 56, 57] w
  have hc := conv_const [49, 50, 51, 52, 53, 54, 55, 56, 57] 9 9 w
  rw [hW] at hc
  rw [nine_lit] at hc
  exact ⟨W, hrd, hB, hc⟩
theorem sum_at9 (W : World) (g : Nat) (hrd : Reads W W.heap.size 1 (some ⟨g, 0, none⟩) 9 ([49, 50, 51, 52, 53, 54, 55, 56, 57].map encB)) :
    Calls Try.prog 19 #[.slice (some ⟨g, 0, none⟩) 9 9] W fun e w' => e = .returned (.int .u32 3421780262) ∧ Below W.heap.size W w' :=
  sum_known _ 3421780262 sum_nine _ _ _ _ hrd (by decide) (by simp [maxLen])
theorem sum_at0 (W : World) : Calls Try.prog 19 #[.slice none 0 0] W fun e w' => e = .returned (.int .u32 0) ∧ Below W.heap.size W w' :=
  sum_known [] 0 sum_nil _ _ _ _ Reads.none_ (by simp) (by simp)
theorem sums_any (w : World) : Calls Try.prog 21 #[] w fun e w' => e = .returned (.bool true) ∧ Below w.heap.size w w' := by
  obtain ⟨W, hrd, hB, hc⟩ := nine_bytes w
  go_enter Try.func21, Try.ntmps21
  go_wp2_with fail
  refine (sum_at9 _ _ hrd).mono ?_
  rintro e w1 ⟨rfl, hb1⟩
  go_wp2_with fail
  refine (sum_at0 _).mono ?_
  rintro e w2 ⟨rfl, hb2⟩
  go_wp2_with fail
  go_ret
  exact ⟨rfl, below_next (below_next hB hB.size hb1) (Nat.le_trans hB.size hb1.size) hb2⟩
end Go.Proofs.Ytmacmhlimdaemaa
