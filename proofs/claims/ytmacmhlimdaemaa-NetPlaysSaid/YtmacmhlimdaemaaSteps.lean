import Derived.Test.YtmacmhlimdaemaaMem
import Derived.Test.YtmacmhlimdaemaaCrcPure
import Derived.Lib.EndianBits
import Derived.Laws.BitsAllLaws
import Derived.Laws.Rows
import Derived.LoopTactic
import Derived.Laws.CopyOwn
namespace Go.Proofs.Ytmacmhlimdaemaa
open Go.RowKit Go.Proofs.Ytmacmhlimdaemaa.Crc
/-- one step of the register, as the program reckons it -/
theorem stp_code (v : Nat) (h : v < 4294967296) :
    bits BinOp.xor IntKind.u32 ((v : Int) / 2) (bits BinOp.and IntKind.u32 3988292384 (IntKind.wrap IntKind.u32 (-(bits BinOp.and IntKind.u32 (v : Int) 1)))) = ((stp v : Nat) : Int) := by
  rw [show ((1 : Int)) = ((1 : Nat) : Int) from rfl, u32_and_nat v 1 h (by omega), Nat.and_one_is_mod]
  rcases Nat.mod_two_eq_zero_or_one v with e | e
  · rw [e, show IntKind.wrap IntKind.u32 (-((0 : Nat) : Int)) = ((0 : Nat) : Int) from by decide, show (3988292384 : Int) = ((3988292384 : Nat) : Int) from rfl, u32_and_nat _ _ (by omega) (by omega), Nat.and_zero,
      show (v : Int) / 2 = ((v / 2 : Nat) : Int) by omega, u32_xor_nat _ _ (by omega) (by omega), Nat.xor_zero]
    simp [stp, e]
  · rw [e, show IntKind.wrap IntKind.u32 (-((1 : Nat) : Int)) = ((4294967295 : Nat) : Int) from by decide, show (3988292384 : Int) = ((3988292384 : Nat) : Int) from rfl, u32_and_nat _ _ (by omega) (by omega),
      show 3988292384 &&& 4294967295 = 3988292384 from by decide, show (v : Int) / 2 = ((v / 2 : Nat) : Int) by omega, u32_xor_nat _ _ (by omega) (by omega)]
    simp [stp, e]
def tabRow (k : Nat) : Array Value := ((List.range 256).map fun j => Value.int .u32 (if j < k then ((stpN 8 j : Nat) : Int) else 0)).toArray
theorem Blk.setRow {w : World} {g : Nat} {t : TypeId} {cs cs' : Array Value} (h : Blk w g t cs) : Blk (w.setRow g cs') g t cs' := setRow_heap w g cs cs' t (0, 0) h
theorem zero_tab (w : World) : (zeroValue 68).run Try.prog w = .ok (.agg (tabRow 0)) w := by kernel_rfl
theorem stp_mod (v : Nat) (h : v < 4294967296) : Hid (bits BinOp.xor IntKind.u32 ((v : Int) / 2) (bits BinOp.and IntKind.u32 3988292384 (-bits BinOp.and IntKind.u32 (v : Int) 1 % 4294967296)) = ((stp v : Nat) : Int)) := Lib.hid (stp_code v h)
theorem tabRow_size (k : Nat) : (tabRow k).size = 256 := by simp [tabRow]
theorem tabRow_get (k j : Nat) (hj : j < 256) : (tabRow k)[j]? = some (.int .u32 (if j < k then ((stpN 8 j : Nat) : Int) else 0)) := by
  simp [tabRow, hj]
theorem tabRow_set (k : Nat) (hk : k < 256) : (tabRow k).setIfInBounds k (.int .u32 ((stpN 8 k : Nat) : Int)) = tabRow (k + 1) := by
  apply Array.ext
  · simp [tabRow_size]
  · intro j h1 h2
    have h2' : j < 256 := by rw [tabRow_size] at h2; exact h2
    apply Option.some.inj
    rw [← Array.getElem?_eq_getElem, ← Array.getElem?_eq_getElem, Array.getElem?_setIfInBounds, tabRow_get _ _ h2', tabRow_get _ _ h2']
    by_cases e : k = j
    · subst e; simp [tabRow_size, hk]
    · rw [if_neg e]
      have : (j < k + 1) ↔ j < k := by omega
      simp only [this]
set_option maxRecDepth 100000 in
theorem steps_any (w : World) :
    Calls Try.prog 47 #[] w fun e w' => e = .returned (.agg (tabRow 256)) ∧ Below w.heap.size w w' := by
  have hz := zero_tab
  have hi : (Try.prog.info? 68).map (·.size) = some (tabRow 256).size := by rw [tabRow_size]; kernel_rfl
  have hone : (tabRow 256).all (·.oneCell') = true := by kernel_rfl
  have Hi := Lib.hid hi
  have H1 := Lib.hid hone
  clear hi hone
  go_enter Try.func47, Try.ntmps47
  go_wp2_with fail
  obtain ⟨W1, hW1, c0, c1, hB, hs⟩ := boxes2 w (tabRow 0) (tabRow 0) 68 68
  rw [hW1]
  clear hW1
  have hne0 : w.heap.size ≠ w.heap.size + 1 := by omega
  go_loopw [4] (fun i wr => ∃ k : Nat, k ≤ 256 ∧ i = .int .i64 k ∧ Blk wr w.heap.size 68 (tabRow 0) ∧ Blk wr (w.heap.size + 1) 68 (tabRow k) ∧ Below w.heap.size w wr) (fun i _ => 256 - (intOf i).toNat)
  case atStart => exact ⟨0, by omega, rfl, c0, c1, hB⟩
  case round =>
    obtain ⟨k, hk, rfl, d0, d1, hBr⟩ := hrel
    clear c0 c1 hB hs
    obtain ⟨wo, rfl⟩ : ∃ wo : World, wo = wr := ⟨_, rfl⟩
    by_cases hlt : (k : Int) < 256
    · have hk0 : (0 : Int) ≤ (k : Int) := by omega
      go_wp2_with fail
      go_loopw [3, 9] (fun v i wr => ∃ n : Nat, n ≤ 8 ∧ i = .int .i64 n ∧ v = .int .u32 ((stpN n k : Nat) : Int) ∧ wr = wo) (fun _ i _ => 8 - (intOf i).toNat)
      case atStart => exact ⟨0, by omega, rfl, by rw [stpN_none], rfl⟩
      case round =>
        obtain ⟨n, hn, rfl, rfl, rfl⟩ := hrel
        by_cases hlt8 : (n : Int) < 8
        · have hv := stp_mod (stpN n k) (stpN_lt n (by omega))
          go_wp2_with fail
          go_roundw
          case rel => exact ⟨n + 1, by omega, by simp, by rw [stpN_succ, hv.out], trivial⟩
          case measure => simp [intOf]; omega
        · have hf8 : decide ((n : Int) < 8) = false := decide_eq_false (by omega)
          obtain rfl : n = 8 := by omega
          have hcell := d1.at_ k (tabRow_get k k (by omega))
          have hfr := d1.frozen k
          have hnat : (k : Int).toNat = k := rfl
          go_wp2_with fail
          go_roundw
          case rel => exact ⟨k + 1, by omega, by simp, d0.far hne0 _, by have := d1.set_ k (.int .u32 ((stpN 8 k : Nat) : Int)); rwa [tabRow_set k (by omega)] at this, hBr.setCell (by show w.heap.size ≤ w.heap.size + 1; omega) _⟩
          case measure => simp [intOf]; omega
    · have hf : decide ((k : Int) < 256) = false := decide_eq_false (by omega)
      obtain rfl : k = 256 := by omega
      have hsz : (tabRow 0).size = (tabRow 256).size := by rw [tabRow_size, tabRow_size]
      have Hs := Lib.hid hsz
      clear hsz
      have D := Blk.setRow (cs := tabRow 0) (cs' := tabRow 256) d0
      have hB2 := below_setRow hBr (Nat.le_refl w.heap.size) (tabRow 256)
      go_wp2_with (first | refine wpList_load_row rfl 68 _ rfl _ rfl 68 _ (0, 0) _ d1 Try.underlying68 rfl Hi.out ?_ | refine wpList_store_row rfl 68 _ _ rfl _ (tabRow 256) rfl rfl 68 _ d0 Hi.out Hs.out H1.out ?_)
      exact bodyPost_ret (v := .agg (tabRow 256)) (results_cell_row (p := 0) rfl _ _ _ 68 _ (0, 0) _ rfl D Try.underlying68 rfl Hi.out) rfl ⟨rfl, hB2⟩
end Go.Proofs.Ytmacmhlimdaemaa
