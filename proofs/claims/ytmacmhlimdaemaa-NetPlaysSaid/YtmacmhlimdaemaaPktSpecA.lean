/- What the printed functions of packet answer. -/
import Derived.Test.YtmacmhlimdaemaaPktPure
import Derived.Test.YtmacmhlimdaemaaRxRead
namespace Go.Proofs.Ytmacmhlimdaemaa.Pkt
open Go.RowKit Go.Proofs.Ytmacmhlimdaemaa.Ext Go.Proofs.Ytmacmhlimdaemaa.Crc Go.Proofs.YtmacmhlimdaemaaW.PrintWords Go.Proofs.YtmacmhlimdaemaaW.PrintMore Go.Proofs.Ytmacmhlimdaemaa.R
theorem shr8 (v m : Nat) (h : 8 * m ≤ 64) : shr .u64 (v : Int) ((8 * m : Nat) : Int) % 256 = ((v / 256 ^ m % 256 : Nat) : Int) := by
  unfold shr
  rw [show min ((8 * m : Nat) : Int).toNat IntKind.u64.bits = 8 * m by show min (8 * m) 64 = 8 * m; omega]
  have : (2 : Nat) ^ (8 * m) = 256 ^ m := by rw [Nat.pow_mul]
  have h2 : ((2 : Int) ^ (8 * m)) = ((256 ^ m : Nat) : Int) := by rw [← this]; simp
  rw [h2]
  omega
theorem lay_l1 (fs : List S72) (v : Nat) (n i : Int) (m : Nat) : ∀ (j : Nat) (acc : List Int), m ≤ 8 → acc.length + m < 1000000000000 →
    packet_lay.l1 (j + m + 1) acc ((m : Int) - 1) fs (fs.length : Int) i (v : Int) n = packet_lay.l0 j (acc ++ be m v) fs (fs.length : Int) (wrap64 (i + 1)) := by
  induction m with
  | zero =>
    intro j acc _ _
    rw [packet_lay.l1]
    rw [if_neg (by omega)]
    simp [be]
  | succ m ih =>
    intro j acc hm hl
    rw [show j + (m + 1) + 1 = (j + m + 1) + 1 by omega]
    rw [packet_lay.l1]
    rw [if_pos (by omega), show ((m + 1 : Nat) : Int) - 1 = (m : Int) by omega, w64 (x := 8 * (m : Int)) (by omega) (by omega), if_pos (by omega), if_pos (by omega),
      show (8 * (m : Int)) = ((8 * m : Nat) : Int) by omega, shr8 v m (by omega), w64 (by omega) (by omega), ih j _ (by omega) (by simp; omega)]
    simp [be]
theorem lay_step (fs : List S72) (i : Nat) (h : i < fs.length) (hb : fs.length < 1000) (v m : Nat) (hf : fs[i] = ⟨(v : Int), (m : Int)⟩) (hm : m ≤ 8) (j : Nat) (acc : List Int) (ha : acc.length + m < 1000000000000) :
    packet_lay.l0 (j + m + 2) acc fs (fs.length : Int) (i : Int) = packet_lay.l0 j (acc ++ be m v) fs (fs.length : Int) ((i + 1 : Nat) : Int) := by
  rw [show j + m + 2 = (j + m + 1) + 1 by omega]
  have hr : rd_T72 fs (i : Int) = ⟨(v : Int), (m : Int)⟩ := by
    unfold rd_T72
    rw [Int.toNat_natCast, List.getD_eq_getElem?_getD, List.getElem?_eq_getElem h, Option.getD_some, hf]
  conv => lhs; unfold packet_lay.l0
  rw [if_pos (by omega), if_pos (by omega), if_pos (by omega), hr]
  show packet_lay.l1 (j + m + 1) acc (wrap64 ((m : Int) - 1)) fs (fs.length : Int) (i : Int) (v : Int) (m : Int) = _
  rw [w64 (by omega) (by omega), lay_l1 fs v m i m j acc hm ha, w64 (by omega) (by omega)]
  rfl
theorem lay_end (fs : List S72) (j : Nat) (acc : List Int) : packet_lay.l0 (j + 1) acc fs (fs.length : Int) (fs.length : Int) = some acc := by
  rw [packet_lay.l0]
  rw [if_neg (by omega)]
theorem lay3 (e o a : Nat) (j : Nat) : packet_lay.f (j + 27) [⟨(e : Int), 4⟩, ⟨(o : Int), 8⟩, ⟨(a : Int), 8⟩] = some (be 4 e ++ be 8 o ++ be 8 a) := by
  unfold packet_lay.f
  have h1 := lay_step [⟨(e : Int), 4⟩, ⟨(o : Int), 8⟩, ⟨(a : Int), 8⟩] 0 (by simp) (by simp) e 4 rfl (by omega) (j + 21) [] (by simp)
  have h2 := lay_step [⟨(e : Int), 4⟩, ⟨(o : Int), 8⟩, ⟨(a : Int), 8⟩] 1 (by simp) (by simp) o 8 rfl (by omega) (j + 11) (be 4 e) (by simp [be_len])
  have h3 := lay_step [⟨(e : Int), 4⟩, ⟨(o : Int), 8⟩, ⟨(a : Int), 8⟩] 2 (by simp) (by simp) a 8 rfl (by omega) (j + 1) (be 4 e ++ be 8 o) (by simp [be_len])
  have h4 := lay_end [⟨(e : Int), 4⟩, ⟨(o : Int), 8⟩, ⟨(a : Int), 8⟩] j (be 4 e ++ be 8 o ++ be 8 a)
  exact h1.trans (h2.trans (h3.trans h4))
theorem lay1 (s : Nat) (j : Nat) : packet_lay.f (j + 7) [⟨(s : Int), 4⟩] = some (be 4 s) := by
  unfold packet_lay.f
  have h1 := lay_step [⟨(s : Int), 4⟩] 0 (by simp) (by simp) s 4 rfl (by omega) (j + 1) [] (by simp)
  have h4 := lay_end [⟨(s : Int), 4⟩] j (be 4 s)
  exact h1.trans h4
theorem write_spec (e o a : Nat) (d : List Int) (he : e < 4294967296) (hd : okB d = true) (j : Nat) : packet_Write.f (j + 27) e o a d = some (writeS e o a d) := by
  unfold packet_Write.f writeS
  by_cases h : (d.length : Int) > 256
  · rw [if_pos h, if_pos (by omega)]
  · rw [if_neg h, if_neg (by omega), u64w _ (by omega) (by omega), lay3]
    simp only [Option.bind_some]
    have hb : okB (be 4 e ++ be 8 o ++ be 8 a ++ d) = true := okB_mk (bodyS_mem e o a d (okB_mem hd)) (by have := bodyS_len e o a d; unfold bodyS at this; omega)
    have hs := sum_lt _ (nat_lt hb)
    rw [if_pos (by simp only [List.length_append, be_len]; omega)]
    unfold crc_Sum.f
    rw [sumF_ok hb]
    simp only [Option.bind_some]
    rw [u64w _ (by omega) (by omega), show j + 27 = (j + 20) + 7 by omega, lay1]
    simp only [Option.bind_some]
    rw [if_pos (by simp only [List.length_append, be_len]; omega)]
    rfl
theorem take32_l0 (x0 y : List Int) (x1 : Nat) (hy : okB y = true) (h4 : y.length ≤ 4) (hx : x1 ≤ x0.length) (d : Nat) : ∀ (j i : Nat), i + d = y.length →
    packet_take_uint32.l0 (j + d + 1) x0 (x1 : Int) ((val (y.take i) : Nat) : Int) y (y.length : Int) (i : Int) = some (((val y : Nat) : Int), x0.drop x1) := by
  induction d with
  | zero =>
    intro j i hi
    rw [packet_take_uint32.l0]
    rw [if_neg (by omega), if_pos (by omega), if_pos (by omega), show i = y.length by omega, List.take_length, Int.toNat_natCast]
  | succ d ih =>
    intro j i hi
    rw [show j + (d + 1) + 1 = (j + d + 1) + 1 by omega]
    rw [packet_take_uint32.l0]
    have hl := val_take_lt y (okB_mem hy) i (by omega)
    have hp : 256 ^ i ≤ 256 ^ 3 := Nat.pow_le_pow_right (by omega) (by omega)
    have hc := okB_mem hy y[i] (List.getElem_mem (by omega))
    rw [if_pos (by omega), if_pos (by omega), if_pos (by omega), rd_at y i (by omega), w64 (by omega) (by omega)]
    have hb : Go.bits .or .u32 (((val (y.take i) : Nat) : Int) * 256 % 4294967296) (y[i] % 4294967296) = ((val (y.take (i + 1)) : Nat) : Int) := by
      obtain ⟨c, hcc⟩ : ∃ c : Nat, y[i] = (c : Int) := ⟨y[i].toNat, by omega⟩
      rw [val_take_succ y i (by omega), hcc, Int.toNat_natCast, show ((val (y.take i) : Nat) : Int) * 256 % 4294967296 = ((val (y.take i) * 256 : Nat) : Int) by omega, show (c : Int) % 4294967296 = ((c : Nat) : Int) by omega,
        u32_or_nat _ _ (by omega) (by omega), or_step _ _ (by omega)]
    rw [hb]
    exact ih j (i + 1) (by omega)
theorem take32_spec (l : List Int) (hl : okB l = true) (h : 4 ≤ l.length) (j : Nat) : packet_take_uint32.f (j + 5) l 4 = some (((val (l.take 4) : Nat) : Int), l.drop 4) := by
  unfold packet_take_uint32.f
  rw [if_pos (by omega), if_pos (by omega)]
  simp only [Option.bind_some]
  have hlen : (l.take 4).length = 4 := by rw [List.length_take]; omega
  have := take32_l0 l (l.take 4) 4 (okB_mk (fun x hx => okB_mem hl x (List.mem_of_mem_take hx)) (by omega)) (by omega) h 4 j 0 (by omega)
  exact this
theorem take64_l0 (x0 y : List Int) (x1 : Nat) (hy : okB y = true) (h4 : y.length ≤ 8) (hx : x1 ≤ x0.length) (d : Nat) : ∀ (j i : Nat), i + d = y.length →
    packet_take_uint64.l0 (j + d + 1) x0 (x1 : Int) ((val (y.take i) : Nat) : Int) y (y.length : Int) (i : Int) = some (((val y : Nat) : Int), x0.drop x1) := by
  induction d with
  | zero =>
    intro j i hi
    rw [packet_take_uint64.l0]
    rw [if_neg (by omega), if_pos (by omega), if_pos (by omega), show i = y.length by omega, List.take_length, Int.toNat_natCast]
  | succ d ih =>
    intro j i hi
    rw [show j + (d + 1) + 1 = (j + d + 1) + 1 by omega]
    rw [packet_take_uint64.l0]
    have hl := val_take_lt y (okB_mem hy) i (by omega)
    have hp : 256 ^ i ≤ 256 ^ 7 := Nat.pow_le_pow_right (by omega) (by omega)
    have hc := okB_mem hy y[i] (List.getElem_mem (by omega))
    rw [if_pos (by omega), if_pos (by omega), if_pos (by omega), rd_at y i (by omega), w64 (by omega) (by omega), u64w _ (by omega) (by omega), u64w _ (by omega) (by omega)]
    have hb : Go.bits .or .u64 (((val (y.take i) : Nat) : Int) * 256) y[i] = ((val (y.take (i + 1)) : Nat) : Int) := by
      obtain ⟨c, hcc⟩ : ∃ c : Nat, y[i] = (c : Int) := ⟨y[i].toNat, by omega⟩
      rw [val_take_succ y i (by omega), hcc, Int.toNat_natCast, show ((val (y.take i) : Nat) : Int) * 256 = ((val (y.take i) * 256 : Nat) : Int) by omega,
        u64_or_nat _ _ (by omega) (by omega), or_step _ _ (by omega)]
    rw [hb]
    exact ih j (i + 1) (by omega)
theorem take64_spec (l : List Int) (hl : okB l = true) (h : 8 ≤ l.length) (j : Nat) : packet_take_uint64.f (j + 9) l 8 = some (((val (l.take 8) : Nat) : Int), l.drop 8) := by
  unfold packet_take_uint64.f
  rw [if_pos (by omega), if_pos (by omega)]
  simp only [Option.bind_some]
  have hlen : (l.take 8).length = 8 := by rw [List.length_take]; omega
  have := take64_l0 l (l.take 8) 8 (okB_mk (fun x hx => okB_mem hl x (List.mem_of_mem_take hx)) (by omega)) (by omega) h 8 j 0 (by omega)
  exact this
theorem okB_take {l : List Int} (h : okB l = true) (n : Nat) : okB (l.take n) = true := okB_mk (fun x hx => okB_mem h x (List.mem_of_mem_take hx)) (by rw [List.length_take]; have := okB_len h; omega)
theorem read_spec (l : List Int) (hl : okB l = true) (j : Nat) : packet_Read.f (j + 9) l = some (readS l) := by
  unfold packet_Read.f readS
  by_cases h1 : (l.length : Int) < 24
  · rw [if_pos h1, if_pos (by omega)]
  · rw [if_neg h1, if_neg (show ¬ l.length < 24 by omega)]
    by_cases h2 : (l.length : Int) > 280
    · rw [if_pos h2, if_pos (by omega)]
    · rw [if_neg h2, if_neg (show ¬ l.length > 280 by omega), show j + 9 = (j + 4) + 5 by omega, take32_spec l hl (by omega)]
      simp only [Option.bind_some]
      unfold crc_Sum.f
      rw [sumF_ok (okB_drop hl 4)]
      simp only [Option.bind_some]
      by_cases h3 : sum (nat (l.drop 4)) = val (l.take 4)
      · have hd4 := okB_drop hl 4
        have hd8 := okB_drop hl 8
        have hd16 := okB_drop hl 16
        rw [if_pos (by rw [h3]), if_pos h3, take32_spec (l.drop 4) hd4 (by rw [List.length_drop]; omega)]
        simp only [Option.bind_some]
        rw [show j + 4 + 5 = j + 9 by omega, List.drop_drop, take64_spec (l.drop 8) hd8 (by rw [List.length_drop]; omega)]
        simp only [Option.bind_some]
        rw [List.drop_drop, take64_spec (l.drop 16) hd16 (by rw [List.length_drop]; omega)]
        simp only [Option.bind_some]
        unfold slices_Clone_byte_byte.f
        rw [List.drop_drop, cloneF_ok (by rw [List.length_drop]; omega)]
        rfl
      · rw [if_neg (by intro h; exact h3 (by exact_mod_cast h)), if_neg h3]
theorem sum_lt32 (l : List Int) (hl : okB l = true) : sum (nat l) < 4294967296 := sum_lt _ (nat_lt hl)
end Go.Proofs.Ytmacmhlimdaemaa.Pkt
