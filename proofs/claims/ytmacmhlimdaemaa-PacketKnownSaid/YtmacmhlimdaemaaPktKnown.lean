/- The walk of PacketKnown. -/
import Derived.Test.YtmacmhlimdaemaaPktVals
import Derived.Test.YtmacmhlimdaemaaIn
import Derived.Outline
namespace Go.Proofs.Ytmacmhlimdaemaa.Pkt
open Go.RowKit Go.Proofs.YtmacmhlimdaemaaW.PrintWords Go.Proofs.Ytmacmhlimdaemaa.R Go.Proofs.Ytmacmhlimdaemaa.Crc Go.Proofs.Ytmacmhlimdaemaa.Ext
section
variable {w0 w w' : World} {L : List Asn}
theorem made_at (n : Nat) (hn : n ≤ 1000) (m : Int) (hm : m = n) (hS : Sep w0 w L) : ∃ W A, (Instr.makeSlice 22 (.int .i64 m) (.int .i64 m)).run Try.prog w = .ok (.slice A n n) W ∧ Sep w0 W (BRow (.slice A n n) (zs n) :: L) := by
  subst hm
  obtain ⟨W, hW, hS'⟩ := made_bytes hS n (by omega)
  exact ⟨W, _, by rw [run_make_bytes n (by omega), hW], hS'⟩
theorem reads_n {l : List Int} {v : Value} (n : Nat) (hn : l.length = n) (hS : Sep w0 w L) (i : Nat) (hi : L[i]? = some (BRow v l)) : ∃ A c, v = .slice A n c ∧ n ≤ c ∧ Kd.C (Kd.int .u8) w A n l := by
  subst hn
  exact reads_bytes (own_bytes hS hi)
theorem write_n (e o a : Nat) (d : List Int) (n : Nat) (hn : d.length = n) (he : e < 4294967296) (hd : okB d = true) (l : List Int) (k : Int) (hw : writeS e o a d = (l, k)) (A : Option Addr) (c : Nat) (hC : Kd.C (Kd.int .u8) w A n d) (hc : n ≤ c) (hS : Sep w0 w L) :
    Calls Try.prog 22 #[.agg #[.int .u32 (e : Int), .int .u64 (o : Int), .int .u64 (a : Int), .slice A n c]] w fun en w' => ∃ v, en = .returned (.tuple #[v, .int .i64 k]) ∧ Sep w0 w' (BRow v l :: L) := by
  subst hn
  have := write_any e o a d he hd A c hC hc hS
  rw [hw] at this
  exact this
theorem read_n (l : List Int) (n : Nat) (hn : l.length = n) (hl : okB l = true) (e o a : Int) (d : List Int) (k : Int) (hr : readS l = (e, o, a, d, k)) (A : Option Addr) (c : Nat) (hC : Kd.C (Kd.int .u8) w A n l) (hc : n ≤ c) (hS : Sep w0 w L) :
    Calls Try.prog 26 #[.slice A n c] w fun en w' => ∃ v, en = .returned (.tuple #[.agg #[.int .u32 e, .int .u64 o, .int .u64 a, v], .int .i64 k]) ∧ Sep w0 w' (BRow v d :: L) := by
  subst hn
  have := read_any l hl A c hC hc hS
  rw [hr] at this
  exact this
theorem reads_s {l : List Int} {A : Option Addr} {n c : Nat} (hn : l.length = n) (hS : Sep w0 w L) (i : Nat) (hi : L[i]? = some (BRow (.slice A n c) l)) : n ≤ c ∧ Kd.C (Kd.int .u8) w A n l := by
  obtain ⟨_, _, hv, hc, C1⟩ := reads_n n hn hS i hi
  injection hv with hv1 hv2 hv3
  subst hv1 hv3
  exact ⟨hc, C1⟩
theorem take_C {l : List Int} {A : Option Addr} {n : Nat} (hn : l.length = n) (hC : Kd.C (Kd.int .u8) w A n l) (m : Nat) (hm : m ≤ n) : (l.take m).length = m ∧ Kd.C (Kd.int .u8) w A m (l.take m) := by
  subst hn
  have h1 : (l.take m).length = m := by rw [List.length_take]; omega
  have := Kd.C_take hC hm
  rw [h1] at this
  exact ⟨h1, this⟩
theorem own_n {l : List Int} {v : Value} (n : Nat) (hn : l.length = n) (hS : Sep w0 w L) (i : Nat) (hi : L[i]? = some (BRow v l)) : w.ownsRow 0 5 1 v n (l.map enB) := by
  subst hn
  exact own_bytes hS hi
theorem size32 : (Try.prog.info? 32).map (·.size) = some 4 := by kernel_rfl
end
set_option maxRecDepth 100000 in
set_option maxHeartbeats 1000000 in
theorem pktKnown_any (w : World) : Calls Try.prog 12 #[] w fun e w' => e = .returned (.bool true) ∧ Below w.heap.size w w' := by
  have S0 : Sep w w [] := Sep.start w
  obtain ⟨W1, A1, hm1, S1⟩ := made_at 256 (by omega) 256 rfl S0
  obtain ⟨-, C1⟩ := reads_s (zs_len _) S1 0 rfl
  go_enter Try.func12, Try.ntmps12
  go_wp2_with fail
  refine (write_n 4294967295 18446744073709551615 9223372036854775808 (zs 256) 256 (zs_len _) (by decide) (zs_ok 256 (by omega)) bigB 0 bigW _ _ C1 (Nat.le_refl _) S1).mono ?_
  rintro e w2 ⟨v1, rfl, S2⟩
  obtain ⟨B, cb, rfl, hcb, CB⟩ := reads_n 280 bigB_len S2 0 rfl
  clear hm1 C1 S1
  go_wp2_with fail
  refine (read_n bigB 280 bigB_len bigB_ok _ _ _ _ _ bigR _ _ CB hcb S2).mono ?_
  rintro e w3 ⟨v3, rfl, S3⟩
  obtain ⟨A3, c3, rfl, hc3, -⟩ := reads_n 256 (zs_len 256) S3 0 rfl
  obtain ⟨W4, hW4, S4⟩ := S3.boxedF 32 #[.int .u32 4294967295, .int .u64 18446744073709551615, .int .u64 9223372036854775808, .slice A3 256 c3]
  clear CB S2
  go_wp2_with (
    refine wpList_store_row rfl 32 (.tmp 3) (.tmp 31) rfl w3.heap.size _ rfl rfl 32 _ (Blk.new _ _ _) size32 rfl rfl ?_
    rw [World.setRow_alloc_new, hW4]
    clear hW4)
  obtain ⟨hcb4, CB4⟩ := reads_s bigB_len S4 2 rfl
  obtain ⟨hl4, CC⟩ := take_C bigB_len CB4 279 (by decide)
  refine (read_n (bigB.take 279) 279 hl4 (okB_take bigB_ok 279) _ _ _ _ _ cutR _ _ CC (by omega) S4).mono ?_
  rintro e w5 ⟨v5, rfl, S5⟩
  obtain ⟨A5, c5, rfl, -, -⟩ := reads_n 0 rfl S5 0 rfl
  obtain ⟨W6, hW6, S6⟩ := S5.boxedF 32 #[.int .u32 0, .int .u64 0, .int .u64 0, .slice A5 0 c5]
  obtain ⟨W7, A7, hm7, S7⟩ := made_at 23 (by omega) 23 rfl S6
  obtain ⟨-, C7⟩ := reads_s (zs_len _) S7 0 rfl
  clear CB4 CC S4 S3
  go_wp2_with (
    refine wpList_store_row rfl 32 (.tmp 5) (.tmp 40) rfl w5.heap.size _ rfl rfl 32 _ (Blk.new _ _ _) size32 rfl rfl ?_
    rw [World.setRow_alloc_new, hW6]
    clear hW6)
  refine (read_n (zs 23) 23 (zs_len _) (zs_ok 23 (by omega)) _ _ _ _ _ r23 _ _ C7 (by omega) S7).mono ?_
  rintro e w8 ⟨v8, rfl, S8⟩
  obtain ⟨A8, c8, rfl, -, -⟩ := reads_n 0 rfl S8 0 rfl
  obtain ⟨W9, hW9, S9⟩ := S8.boxedF 32 #[.int .u32 0, .int .u64 0, .int .u64 0, .slice A8 0 c8]
  obtain ⟨W10, hW10, S10⟩ := S9.boxedF 5 #[.int .u8 0]
  have o10 := own_n 280 bigB_len S10 8 rfl
  have r10 := Reads.of_blk (n := 1) (size := 1) (S10.blk 0 rfl) rfl
  obtain ⟨i5, hi5, hz0, hz1, hz2⟩ := info_parts Ext.info5
  have Hi := Lib.hid hi5
  have Hz0 := Lib.hid hz0
  have Hz1 := Lib.hid hz1
  have Hz2 := Lib.hid hz2
  have O10 := Lib.hid o10
  have R10 := Lib.hid r10
  have HS := Lib.hid S10
  clear C7 S7 S6 S5 hm7 S8 S9 hi5 hz0 hz1 hz2 o10 r10 S10
  go_wp2_with (first
    | (refine wpList_store_row rfl 32 (.tmp 7) (.tmp 45) rfl w8.heap.size _ rfl rfl 32 _ (Blk.new _ _ _) size32 rfl rfl ?_
       rw [World.setRow_alloc_new, hW9]
       clear hW9)
    | (at_builtin
       refine wpList_append_any _ rfl (.tmp 48) (.tmp 49) 22 rfl 0 5 i5 _ 1 1 Try.underlying22 Hi.out Hz0.out Hz1.out Hz2.out rfl (by omega) (.slice B 280 cb) 280 (bigB.map enB) rfl O10.out (W9.heap.size + 1) (some ⟨W9.heap.size, 0, none⟩) 1 1 [enB 0] rfl R10.out (by decide) (by decide) (by decide) (Nat.zero_le _) ?_
       intro v11 w11 hown11 hg11 hat11
       have hown11' : w11.ownsRow 0 5 1 v11 (bigB ++ [0]).length ((bigB ++ [0]).map enB) := by
         rw [List.length_append, bigB_len, List.map_append]
         exact hown11
       have S11 := HS.out.pushed 8 rfl hown11' hg11 hat11
       obtain ⟨A11, c11, rfl, hc11, C11⟩ := reads_n 281 (by rw [List.length_append, bigB_len]; rfl) S11 8 rfl
       clear hown11 hown11' hg11 hat11 hW10))
  refine (read_n (bigB ++ [0]) 281 (by rw [List.length_append, bigB_len]; rfl) moreB_ok _ _ _ _ _ moreR _ _ C11 (by omega) S11).mono ?_
  rintro e w12 ⟨v12, rfl, S12⟩
  obtain ⟨A12, c12, rfl, -, -⟩ := reads_n 0 rfl S12 0 rfl
  obtain ⟨W13, hW13, S13⟩ := S12.boxedF 32 #[.int .u32 0, .int .u64 0, .int .u64 0, .slice A12 0 c12]
  obtain ⟨W14, A14, hm14, S14⟩ := made_at 257 (by omega) 257 rfl S13
  obtain ⟨-, C14⟩ := reads_s (zs_len _) S14 0 rfl
  clear S11 C11 HS O10 R10
  go_wp2_with (
    refine wpList_store_row rfl 32 (.tmp 9) (.tmp 52) rfl w12.heap.size _ rfl rfl 32 _ (Blk.new _ _ _) size32 rfl rfl ?_
    rw [World.setRow_alloc_new, hW13]
    clear hW13)
  refine (write_n 0 0 0 (zs 257) 257 (zs_len _) (by decide) (zs_ok 257 (by omega)) [] 2 w257 _ _ C14 (Nat.le_refl _) S14).mono ?_
  rintro e w15 ⟨v15, rfl, S15⟩
  obtain ⟨A15, c15, rfl, -, -⟩ := reads_n 0 rfl S15 0 rfl
  obtain ⟨W16, A16, hm16, S16⟩ := made_at 24 (by omega) 24 rfl S15
  obtain ⟨-, C16⟩ := reads_s (zs_len _) S16 0 rfl
  clear C14 S14 S13 S12 hm14
  go_wp2_with fail
  refine (read_n (zs 24) 24 (zs_len _) (zs_ok 24 (by omega)) _ _ _ _ _ r24 _ _ C16 (by omega) S16).mono ?_
  rintro e w17 ⟨v17, rfl, S17⟩
  obtain ⟨A17, c17, rfl, -, -⟩ := reads_n 0 rfl S17 0 rfl
  obtain ⟨W18, hW18, S18⟩ := S17.boxedF 32 #[.int .u32 0, .int .u64 0, .int .u64 0, .slice A17 0 c17]
  clear C16 S16 S15 hm16
  go_wp2_with (
    refine wpList_store_row rfl 32 (.tmp 13) (.tmp 63) rfl w17.heap.size _ rfl rfl 32 _ (Blk.new _ _ _) size32 rfl rfl ?_
    rw [World.setRow_alloc_new, hW18]
    clear hW18)
  refine (write_n 0 0 0 [] 0 rfl (by decide) (okB_mk (by simp) (by decide)) smallB 0 smallW none 0 ⟨rfl, by simp, fun h => absurd h (Nat.lt_irrefl 0)⟩ (Nat.le_refl _) S18).mono ?_
  rintro e w19 ⟨v19, rfl, S19⟩
  obtain ⟨A19, c19, rfl, hc19, C19⟩ := reads_n 24 smallB_len S19 0 rfl
  clear S18 S17
  go_wp2_with fail
  refine (read_n smallB 24 smallB_len smallB_ok _ _ _ _ _ smallR _ _ C19 hc19 S19).mono ?_
  rintro e w20 ⟨v20, rfl, S20⟩
  obtain ⟨A20, c20, rfl, -, -⟩ := reads_n 0 rfl S20 0 rfl
  obtain ⟨W21, hW21, S21⟩ := S20.boxedF 32 #[.int .u32 0, .int .u64 0, .int .u64 0, .slice A20 0 c20]
  have p0 := (S21.blk 16 rfl).at_ 0 rfl
  have p1 := (S21.blk 16 rfl).at_ 1 rfl
  have p2 := (S21.blk 16 rfl).at_ 2 rfl
  have p3 := (S21.blk 16 rfl).at_ 3 rfl
  have q3 := (S21.blk 0 rfl).at_ 3 rfl
  clear C19 S19 S20
  go_wp2_with (
    refine wpList_store_row rfl 32 (.tmp 17) (.tmp 73) rfl w20.heap.size _ rfl rfl 32 _ (Blk.new _ _ _) size32 rfl rfl ?_
    rw [World.setRow_alloc_new, hW21]
    clear hW21)
  refine (writes_any _).mono ?_
  rintro e w22 ⟨rfl, hb22⟩
  go_wp2_with fail
  go_ret
  exact ⟨rfl, (S21.grow hb22).below⟩
end Go.Proofs.Ytmacmhlimdaemaa.Pkt
