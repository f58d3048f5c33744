import Derived.Test.YtmacmhlimdaemaaWords
import Derived.Test.YtmacmhlimdaemaaSteps
namespace Go.Proofs.Ytmacmhlimdaemaa
open Go.RowKit Go.Proofs.Ytmacmhlimdaemaa.Crc
theorem tab_look (v c : Nat) (hv : v < 4294967296) (hc : c < 256) :
    bits BinOp.xor IntKind.u32 ((v : Int) / 256) ((stpN 8 ((v % 256) ^^^ c) : Nat) : Int) = ((stpN 8 (v ^^^ c) : Nat) : Int) := by
  have hx : (v % 256) ^^^ c < 256 := Nat.xor_lt_two_pow (n := 8) (by omega) hc
  rw [show (v : Int) / 256 = ((v / 256 : Nat) : Int) by omega, u32_xor_nat _ _ (by omega) (stpN_lt 8 (by omega)), ← byte_step]
/-- the register behind the first k bytes -/
def reg (l : List Nat) (k : Nat) : Nat := st 4294967295 (l.take k)
theorem reg_zero (l : List Nat) : reg l 0 = 4294967295 := rfl
theorem reg_succ (l : List Nat) (k : Nat) (h : k < l.length) : reg l (k + 1) = stpN 8 (reg l k ^^^ l[k]) := by
  unfold reg
  rw [List.take_succ_eq_append_getElem h, st_append]
  rfl
theorem reg_lt (l : List Nat) (h : ∀ c ∈ l, c < 256) (k : Nat) : reg l k < 4294967296 := st_lt _ (by omega) (fun c hc => h c (List.mem_of_mem_take hc))
set_option maxRecDepth 100000 in
theorem sum_any (A : Option Addr) (n c : Nat) (l : List Nat) (w : World) (hr : Reads w w.heap.size 1 A n (l.map encB)) (hl : ∀ c ∈ l, c < 256) (hn : n ≤ maxLen) :
    Calls Try.prog 19 #[.slice A n c] w fun e w' => e = .returned (.int .u32 ((sum l : Nat) : Int)) ∧ Below w.heap.size w w' := by
  have hz := zero_tab
  have hi : (Try.prog.info? 68).map (·.size) = some (tabRow 256).size := by rw [tabRow_size]; kernel_rfl
  have hone : (tabRow 256).all (·.oneCell') = true := by kernel_rfl
  have hsz : (tabRow 0).size = (tabRow 256).size := by rw [tabRow_size, tabRow_size]
  have Hs := Lib.hid hsz
  have Hi := Lib.hid hi
  have H1 := Lib.hid hone
  clear hi hone hsz
  have hlen := hr.len
  have Hn := Lib.hid hn
  clear hn
  go_enter Try.func19, Try.ntmps19
  go_wp2_with (first
    | (go_at_call 47; refine (steps_any _).mono ?_; rintro e w1 ⟨rfl, hb1⟩)
    | refine wpList_store_row rfl 68 _ _ rfl _ (tabRow 256) rfl rfl 68 (tabRow 0) (Blk.new _ _ _) Hi.out Hs.out H1.out ?_)
  have D : Blk ((w1.alloc (.cells (tabRow 0) 68)).setRow w1.heap.size (tabRow 256)) w1.heap.size 68 (tabRow 256) := Blk.setRow (Blk.new _ _ _)
  have hB : Below w.heap.size w ((w1.alloc (.cells (tabRow 0) 68)).setRow w1.heap.size (tabRow 256)) := below_setRow (hb1.alloc hb1.size _) hb1.size _
  generalize hW : (w1.alloc (.cells (tabRow 0) 68)).setRow w1.heap.size (tabRow 256) = W at D hB ⊢
  clear hW
  have hrW := hr.below hB
  go_loopw [4, 10] (fun v i wr => ∃ k : Nat, k ≤ n ∧ i = .int .i64 k ∧ v = .int .u32 ((reg l k : Nat) : Int) ∧ wr = W) (fun _ i _ => n - (intOf i).toNat)
  case atStart => exact ⟨0, by omega, rfl, rfl, rfl⟩
  case round =>
    obtain ⟨k, hk, rfl, rfl, rfl⟩ := hrel
    by_cases hlt : k < n
    · obtain ⟨b, o, rfl, hb, hkl, hcell⟩ := hrW.byte hlt
      have hlk := hl _ (List.getElem_mem hkl)
      have hreg := reg_lt l hl k
      have hreg1 := reg_succ l k hkl
      obtain ⟨x, hx⟩ : ∃ x, l[k] = x := ⟨_, rfl⟩
      obtain ⟨v, hv⟩ : ∃ v, reg l k = v := ⟨_, rfl⟩
      rw [hx] at hcell hlk hreg1
      rw [hv] at hreg hreg1 ⊢
      have hj : (v % 256) ^^^ x < 256 := Nat.xor_lt_two_pow (n := 8) (by omega) hlk
      have ht := D.at_ ((v % 256) ^^^ x) (tabRow_get 256 _ hj)
      rw [if_pos hj] at ht
      have hbx : bits BinOp.xor IntKind.u8 ((v : Int) % 256) (x : Int) = (((v % 256) ^^^ x : Nat) : Int) := by
        rw [show (v : Int) % 256 = ((v % 256 : Nat) : Int) by omega, u8_xor_nat _ _ (by omega) hlk]
      have hlook := tab_look v x hreg hlk
      have hki : (k : Int) < (n : Int) := by omega
      have hk0 : (0 : Int) ≤ (k : Int) := by omega
      have hkn : (k : Int).toNat = k := rfl
      obtain ⟨j, hjj⟩ : ∃ j, (v % 256) ^^^ x = j := ⟨_, rfl⟩
      rw [hjj] at hj ht hbx hlook
      have hj0 : (0 : Int) ≤ (j : Int) := by omega
      have hj2 : (j : Int) < 256 := by omega
      have hmax : (k : Int) + 1 ≤ 9223372036854775807 := by have := Hn.out; simp only [maxLen] at this; omega
      clear hx hv hjj
      have Hr1 := Lib.hid hreg1
      clear hreg1
      go_wp2_with fail
      go_roundw
      case rel => exact ⟨k + 1, by omega, by simp, by rw [Hr1.out], trivial⟩
      case measure => simp [intOf]; omega
    · have hf : decide ((k : Int) < (n : Int)) = false := decide_eq_false (by omega)
      go_wp2_with fail
      go_ret
      obtain rfl : k = n := by omega
      refine ⟨?_, hB⟩
      have e : reg l k = st 4294967295 l := by unfold reg; rw [List.take_of_length_le (by omega)]
      show Ending.returned (.int .u32 (bits BinOp.xor IntKind.u32 4294967295 (reg l k : Nat))) = _
      rw [show (4294967295 : Int) = ((4294967295 : Nat) : Int) from rfl, u32_xor_nat _ _ (by omega) (reg_lt l hl k), Nat.xor_comm, e]
      rfl
end Go.Proofs.Ytmacmhlimdaemaa
