/- Rows of bytes that are filled from the left; three rows added without carry. -/
import Derived.Test.YtmacmhlimdaemaaStr
namespace Go.Proofs.Ytmacmhlimdaemaa
open Go.RowKit Go.Proofs.Ytmacmhlimdaemaa.Crc
/-- n bytes of which the first k are f's, the others 0 -/
def fill (f : Nat → Nat) (n k : Nat) : Array Value := ((List.range n).map fun j => Value.int .u8 (if j < k then ((f j : Nat) : Int) else 0)).toArray
theorem fill_size (f : Nat → Nat) (n k : Nat) : (fill f n k).size = n := by simp [fill]
theorem fill_get (f : Nat → Nat) (n k j : Nat) (hj : j < n) : (fill f n k)[j]? = some (.int .u8 (if j < k then ((f j : Nat) : Int) else 0)) := by
  simp [fill, hj]
theorem fill_ext {f : Nat → Nat} {n k : Nat} {A : Array Value} (hs : A.size = n) (h : ∀ j, j < n → A[j]? = some (.int .u8 (if j < k then ((f j : Nat) : Int) else 0))) : A = fill f n k := by
  apply Array.ext
  · rw [hs, fill_size]
  · intro j h1 h2
    have h2' : j < n := by rw [fill_size] at h2; exact h2
    apply Option.some.inj
    rw [← Array.getElem?_eq_getElem, ← Array.getElem?_eq_getElem, h j h2', fill_get _ _ _ _ h2']
theorem fill_set (f : Nat → Nat) (n k x : Nat) (hk : k < n) (hx : f k = x) : (fill f n k).setIfInBounds k (.int .u8 ((x : Nat) : Int)) = fill f n (k + 1) := by
  subst hx
  refine fill_ext (by simp [fill_size]) (fun j hj => ?_)
  rw [Array.getElem?_setIfInBounds]
  by_cases e : k = j
  · subst e; simp [fill_size, hk]
  · rw [if_neg e, fill_get _ _ _ _ hj]
    have : (j < k + 1) ↔ j < k := by omega
    simp only [this]
theorem fill_skip (f : Nat → Nat) (n k : Nat) (hx : f k = 0) : fill f n k = fill f n (k + 1) := by
  refine fill_ext (fill_size _ _ _) (fun j hj => ?_)
  rw [fill_get _ _ _ _ hj]
  by_cases e : j = k
  · subst e; simp [hx]
  · have : (j < k + 1) ↔ j < k := by omega
    simp only [this]
theorem fill_full (f : Nat → Nat) (n : Nat) : fill f n n = (((List.range n).map f).map encB).toArray := by
  refine (fill_ext (by simp) (fun j hj => ?_)).symm
  simp [encB, hj]
theorem zero_fill (f : Nat → Nat) (n : Nat) : (List.replicate n (Value.int .u8 0)).toArray = fill f n 0 := by
  refine fill_ext (by simp) (fun j hj => ?_)
  simp [hj]
/-- a row that make made just now -/
theorem made_fill {w : World} {base g n : Nat} (f : Nat → Nat) (h : w.ownsRow base 5 1 (.slice (some ⟨g, 0, none⟩) n n) n (madeCells (Value.int .u8 0).cells (n * 1)).toList) : Blk w g 5 (fill f n 0) := by
  rcases h.2 with ⟨h0, _⟩ | ⟨g', cap, cur, hv, _, hg, _, _, hc, ht⟩
  · cases h0
  · injection hv with h1 h2 h3
    injection h1 with h1
    injection h1 with h1
    subst h1
    subst h3
    rw [show (Value.int .u8 0).cells = #[Value.int .u8 0] from rfl, toList_madeCells_one, Nat.mul_one, List.take_of_length_le (by simp; omega)] at ht
    have hcur : cur = fill f n 0 := by rw [← zero_fill, ← ht]
    rw [hcur] at hg
    exact hg
/-- a list told by its places -/
theorem list_range (l : List Nat) : (List.range l.length).map (fun j => l.getD j 0) = l := by
  apply List.ext_getElem
  · simp
  · intro i h1 h2
    simp [List.getD_eq_getElem?_getD, h2]
theorem num_map_xor (f g : Nat → Nat) (L : List Nat) : num (L.map fun j => f j ^^^ g j) = num (L.map f) ^^^ num (L.map g) := by
  induction L with
  | nil => show 0 = 0 ^^^ 0; rfl
  | cons c L ih =>
    show (f c ^^^ g c) ^^^ (num (L.map fun j => f j ^^^ g j) <<< 8) = (f c ^^^ (num (L.map f) <<< 8)) ^^^ (g c ^^^ (num (L.map g) <<< 8))
    rw [ih, Nat.shiftLeft_xor_distrib]
    generalize num (L.map f) <<< 8 = p
    generalize num (L.map g) <<< 8 = q
    rw [Nat.xor_assoc, Nat.xor_assoc, ← Nat.xor_assoc (g c) p q, Nat.xor_comm (g c) p, Nat.xor_assoc p]
theorem sum_stp (l : List Nat) : sum l = (stpN (8 * l.length) 4294967295 ^^^ stpN (8 * l.length) (num l)) ^^^ 4294967295 := by
  unfold sum
  rw [st_num, stpN_xor]
theorem sum_three (f g h : Nat → Nat) (L : List Nat) : sum (L.map fun j => (f j ^^^ g j) ^^^ h j) = (sum (L.map f) ^^^ sum (L.map g)) ^^^ sum (L.map h) := by
  simp only [sum_stp, List.length_map, num_map_xor (fun j => f j ^^^ g j) h, num_map_xor f g, stpN_xor]
  generalize stpN (8 * L.length) 4294967295 = F
  generalize stpN (8 * L.length) (num (L.map f)) = a
  generalize stpN (8 * L.length) (num (L.map g)) = b
  generalize stpN (8 * L.length) (num (L.map h)) = c
  apply Nat.eq_of_testBit_eq
  intro i
  simp only [Nat.testBit_xor]
  cases F.testBit i <;> cases a.testBit i <;> cases b.testBit i <;> cases c.testBit i <;> cases (4294967295 : Nat).testBit i <;> rfl
end Go.Proofs.Ytmacmhlimdaemaa
