/- The walk of LzKnown. -/
import Derived.Test.YtgfjbbjdkmgdjaaKRow
import Derived.Deep.RegionHeld3
import Derived.Deep.DeepCutAuto
import Derived.Deep.CutBlock
import Derived.Outline
import Derived.IntWalk
namespace Go.Proofs.Ytgfjbbjdkmgdjaa.L
open Go.RowKit Go.Proofs.YtgfjbbjdkmgdjaaW.PrintWords Go.Proofs.Ytgfjbbjdkmgdjaa.Lz Ext
theorem maps {l : List Int} {ts : List Tok} {T : List S26} (h : matchS (nat l) = ts) (hT : ts.map tokS = T) : (matchS (nat l)).map tokS = T := by rw [h, hT]
theorem meas (N k : Nat) (h : k < N) : N - ((k : Int) + 1).toNat < N - (k : Int).toNat := by omega
def Ta : List S26 := [⟨97, 0, 0⟩, ⟨0, 4, 1⟩]
def Tb : List S26 := [⟨97, 0, 0⟩, ⟨98, 0, 0⟩, ⟨97, 0, 0⟩, ⟨98, 0, 0⟩]
def Tc : List S26 := [⟨120, 0, 0⟩, ⟨97, 0, 0⟩, ⟨98, 0, 0⟩, ⟨99, 0, 0⟩, ⟨121, 0, 0⟩, ⟨0, 3, 4⟩, ⟨100, 0, 0⟩, ⟨122, 0, 0⟩, ⟨0, 4, 5⟩]
set_option maxRecDepth 100000 in
set_option maxHeartbeats 1000000 in
theorem known_any (w : World) : Calls Try.prog 8 #[] w fun e w' => e = .returned (.bool true) ∧ Below w.heap.size w w' := by
  have S0 : Sep w w [] := Sep.start w
  obtain ⟨W1, hc1, C1, S1⟩ := text_n [97, 97, 97, 97, 97] 5 rfl (by decide) #[.int .u8 97, .int .u8 97, .int .u8 97, .int .u8 97, .int .u8 97] rfl S0
  go_enter Try.func8, Try.ntmps8
  go_wp2_with fail
  refine (match_n _ 5 rfl (by decide) Ta (maps match_a rfl) _ _ C1 (Nat.le_refl _) S1).mono ?_
  rintro e w2 ⟨v1, rfl, S2⟩
  obtain ⟨W3, hc3, C3, S3⟩ := text_n [97, 98, 97, 98] 4 rfl (by decide) #[.int .u8 97, .int .u8 98, .int .u8 97, .int .u8 98] rfl S2
  clear hc1 C1 S1 S2
  go_wp2_with fail
  refine (match_n _ 4 rfl (by decide) Tb (maps match_b rfl) _ _ C3 (Nat.le_refl _) S3).mono ?_
  rintro e w4 ⟨v2, rfl, S4⟩
  obtain ⟨W5, hc5, C5, S5⟩ := text_n [120, 97, 98, 99, 121, 97, 98, 99, 100, 122, 97, 98, 99, 100] 14 rfl (by decide) #[.int .u8 120, .int .u8 97, .int .u8 98, .int .u8 99, .int .u8 121, .int .u8 97, .int .u8 98, .int .u8 99, .int .u8 100, .int .u8 122, .int .u8 97, .int .u8 98, .int .u8 99, .int .u8 100] rfl S4
  clear hc3 C3 S3 S4
  go_wp2_with fail
  refine (match_n _ 14 rfl (by decide) Tc (maps match_c rfl) _ _ C5 (Nat.le_refl _) S5).mono ?_
  rintro e w6 ⟨v3, rfl, S6⟩
  obtain ⟨b1, n1, rfl, -, hcs1⟩ := own_cells (sown_n 2 rfl S6 2 rfl) (by decide)
  obtain ⟨a2, n2, rfl, -, -⟩ := own_slice (sown_n 4 rfl S6 1 rfl)
  obtain ⟨b3, n3, rfl, -, -⟩ := own_cells (sown_n 9 rfl S6 0 rfl) (by decide)
  have k3 := hcs1 3 _ rfl
  have k4 := hcs1 4 _ rfl
  have k5 := hcs1 5 _ rfl
  clear hc5 C5 S5 hcs1
  go_wp2_with fail
  refine (match_n [] 0 rfl (by decide) [] (maps match_nil rfl) none 0 ⟨rfl, by simp, fun h => absurd h (Nat.lt_irrefl 0)⟩ (Nat.le_refl _) S6).mono ?_
  rintro e w7 ⟨v7, rfl, S7⟩
  obtain ⟨a7, n7, rfl, -, -⟩ := own_slice (sown_n 0 rfl S7 0 rfl)
  obtain ⟨b3', n3', hv, -, hcs3⟩ := own_cells (sown_n 9 rfl S7 1 rfl) (by decide)
  injection hv with hv1 hv2 hv3
  injection hv1 with hv1
  injection hv1 with hv1
  subst hv1 hv3
  have k1 := hcs3 15 _ rfl
  have k2 := hcs3 16 _ rfl
  have k3 := hcs3 17 _ rfl
  have k4 := hcs3 24 _ rfl
  have k5 := hcs3 25 _ rfl
  have k6 := hcs3 26 _ rfl
  clear hcs3 S6
  have S8 : Sep w w7 [] := S7.take 0
  obtain ⟨X1, hX1, R1⟩ := S8.boxedF 26 #[.int .u8 97, .int .i64 0, .int .i64 0, .int .u8 0, .int .i64 3, .int .i64 2]
  replace R1 := close_toks (T := [tA, ⟨0, 3, 2⟩]) (n := 2) rfl rfl R1 (by decide)
  obtain ⟨X2, hX2, R2⟩ := R1.boxedF 26 #[.int .u8 0, .int .i64 2, .int .i64 1]
  replace R2 := close_toks (T := [⟨0, 2, 1⟩]) (n := 1) rfl rfl R2 (by decide)
  obtain ⟨X3, hX3, R3⟩ := R2.boxedF 26 #[.int .u8 97, .int .i64 0, .int .i64 0, .int .u8 0, .int .i64 2, .int .i64 1]
  replace R3 := close_toks (T := [tA, ⟨0, 2, 1⟩]) (n := 2) rfl rfl R3 (by decide)
  obtain ⟨X4, hX4, R4⟩ := R3.boxedF 26 #[.int .u8 97, .int .i64 0, .int .i64 0, .int .u8 0, .int .i64 259, .int .i64 1]
  replace R4 := close_toks (T := [tA, ⟨0, 259, 1⟩]) (n := 2) rfl rfl R4 (by decide)
  obtain ⟨X5, hX5, R5⟩ := R4.boxedF 26 #[.int .u8 97, .int .i64 0, .int .i64 0, .int .u8 1, .int .i64 3, .int .i64 1]
  replace R5 := close_toks (T := [tA, ⟨1, 3, 1⟩]) (n := 2) rfl rfl R5 (by decide)
  obtain ⟨X6, hX6, R6⟩ := R5.boxedF 26 #[.int .u8 97, .int .i64 0, .int .i64 0, .int .u8 0, .int .i64 0, .int .i64 1]
  replace R6 := close_toks (T := [tA, ⟨0, 0, 1⟩]) (n := 2) rfl rfl R6 (by decide)
  obtain ⟨X7, hX7, R7⟩ := R6.boxedF 26 #[.int .u8 97, .int .i64 0, .int .i64 0, .int .u8 0, .int .i64 3, .int .i64 0]
  replace R7 := close_toks (T := [tA, ⟨0, 3, 0⟩]) (n := 2) rfl rfl R7 (by decide)
  obtain ⟨X8, hX8, R8⟩ := R7.boxedF 26 #[.int .u8 97, .int .i64 0, .int .i64 0, .int .u8 0, .int .i64 (-1), .int .i64 1]
  replace R8 := close_toks (T := [tA, ⟨0, -1, 1⟩]) (n := 2) rfl rfl R8 (by decide)
  obtain ⟨X9, hX9, R9⟩ := R8.boxedF 26 #[.int .u8 97, .int .i64 0, .int .i64 0, .int .u8 0, .int .i64 3, .int .i64 (-1)]
  replace R9 := close_toks (T := [tA, ⟨0, 3, -1⟩]) (n := 2) rfl rfl R9 (by decide)
  obtain ⟨X10, hX10, R10⟩ := R9.boxedF 23 #[.slice (some ⟨w7.heap.size, 0, none⟩) 2 2, .slice (some ⟨X1.heap.size, 0, none⟩) 1 1, .slice (some ⟨X2.heap.size, 0, none⟩) 2 2, .slice (some ⟨X3.heap.size, 0, none⟩) 2 2, .slice (some ⟨X4.heap.size, 0, none⟩) 2 2, .slice (some ⟨X5.heap.size, 0, none⟩) 2 2, .slice (some ⟨X6.heap.size, 0, none⟩) 2 2, .slice (some ⟨X7.heap.size, 0, none⟩) 2 2, .slice (some ⟨X8.heap.size, 0, none⟩) 2 2]
  obtain ⟨BL, O, SB, hb0, hrow⟩ : ∃ (BL : List Asn) (O : Array Value), Sep w X10 BL ∧ BL[0]? = some (cell X9.heap.size 23 O) ∧ ∀ k, k < 9 → ∃ (T : List S26) (n b : Nat), T.length = n ∧ n ≤ 1000 ∧ T ∈ badT ∧ O[k]? = some (.slice (some ⟨b, 0, none⟩) n n) ∧ ∃ i, BL[i]? = some (SRow (.slice (some ⟨b, 0, none⟩) n n) T) := by
    refine ⟨_, _, R10, rfl, fun k hk => ?_⟩
    have hk : k = 0 ∨ k = 1 ∨ k = 2 ∨ k = 3 ∨ k = 4 ∨ k = 5 ∨ k = 6 ∨ k = 7 ∨ k = 8 := by omega
    rcases hk with rfl | rfl | rfl | rfl | rfl | rfl | rfl | rfl | rfl
    · exact ⟨[tA, ⟨0, 3, 2⟩], 2, w7.heap.size, rfl, by decide, by simp [badT], rfl, 9, rfl⟩
    · exact ⟨[⟨0, 2, 1⟩], 1, X1.heap.size, rfl, by decide, by simp [badT], rfl, 8, rfl⟩
    · exact ⟨[tA, ⟨0, 2, 1⟩], 2, X2.heap.size, rfl, by decide, by simp [badT], rfl, 7, rfl⟩
    · exact ⟨[tA, ⟨0, 259, 1⟩], 2, X3.heap.size, rfl, by decide, by simp [badT], rfl, 6, rfl⟩
    · exact ⟨[tA, ⟨1, 3, 1⟩], 2, X4.heap.size, rfl, by decide, by simp [badT], rfl, 5, rfl⟩
    · exact ⟨[tA, ⟨0, 0, 1⟩], 2, X5.heap.size, rfl, by decide, by simp [badT], rfl, 4, rfl⟩
    · exact ⟨[tA, ⟨0, 3, 0⟩], 2, X6.heap.size, rfl, by decide, by simp [badT], rfl, 3, rfl⟩
    · exact ⟨[tA, ⟨0, -1, 1⟩], 2, X7.heap.size, rfl, by decide, by simp [badT], rfl, 2, rfl⟩
    · exact ⟨[tA, ⟨0, 3, -1⟩], 2, X8.heap.size, rfl, by decide, by simp [badT], rfl, 1, rfl⟩
  have Hrow := Lib.hid hrow
  clear hrow R1 R2 R3 R4 R5 R6 R7 R8 R9 R10 S8 S7
  go_wp2_with fail
  go_loopw [5] (fun p wr => ∃ k : Nat, k ≤ 9 ∧ p = .int .i64 (k : Int) ∧ Sep w wr BL) (fun p _ => 9 - (intOf p).toNat)
  case atStart => exact ⟨0, by omega, rfl, SB⟩
  case round =>
    as_aux_lemma =>
      clear SB
      obtain ⟨k, hk, rfl, hS⟩ := hrel
      by_cases hlt : k < 9
      · have hlt' : (k : Int) < 9 := by omega
        obtain ⟨T, n, b, hTn, hn, hT, hO, i, hi⟩ := Hrow.out k hlt
        have f0 := (hS.blk 0 hb0).at_ k hO
        obtain ⟨A, c, hv, -, hC⟩ := sreads_n n hTn hS i hi
        injection hv with hv1 hv2 hv3
        subst hv1 hv3
        have HC := Lib.hid hC
        have HT := Lib.hid hT
        clear hC hT hO hi
        go_wp2_with fail
        refine (expand_n T n hTn (by omega) (bad_okS T HT.out) [] 70 (bad_exp T HT.out) _ _ HC.out (Nat.le_refl _) hS).mono ?_
        rintro en w8 ⟨v8, rfl, hS⟩
        obtain ⟨a8, c8, rfl, -, -⟩ := own_slice (own_n 0 rfl hS 0 rfl)
        replace hS := hS.tail
        go_wp2_with fail
        go_roundw
        case measure => simp [intOf]; omega
        case rel => exact ⟨k + 1, hlt, by go_num, hS⟩
      · obtain rfl : k = 9 := by omega
        obtain ⟨W9, b, l, N, hN, hm, hl, hby, SF⟩ := far_made (L := []) (hS.take 0)
        have HN := Lib.hid hN
        clear hN
        have Hl := Lib.hid hl
        have Hby := Lib.hid hby
        clear hl hby
        go_wp2_with fail
        go_loopw [9] (fun p wr => ∃ (k : Nat) (l : List Int), k ≤ N ∧ p = .int .i64 (k : Int) ∧ l.length = N ∧ (∀ x ∈ l, 0 ≤ x ∧ x < 256) ∧ Sep w wr [cell b 5 (l.map enB).toArray]) (fun p _ => N - (intOf p).toNat)
        case atStart => exact ⟨0, l, by omega, rfl, Hl.out, Hby.out, SF⟩
        case round =>
          as_aux_lemma =>
            clear SF
            obtain ⟨k, l, hk, rfl, hl, hby, hS⟩ := hrel
            have Hl := Lib.hid hl
            have Hby := Lib.hid hby
            clear hby
            by_cases hlt : k < N
            · have hlt' : (k : Int) < (N : Int) := by omega
              obtain ⟨u, f0⟩ := (hS.blk 0 rfl).some_ k (by simp; omega)
              have z0 := (hS.blk 0 rfl).frozen k
              clear hl
              go_wp2_with fail
              obtain ⟨l', hl', hby', hS'⟩ := far_put Hl.out Hby.out hS k _ (xor8 ((k : Int) / 256 % 256) (wrap64 ((k : Int) * 7) % 256))
              have hw : wrap64 ((k : Int) + 1) = (k : Int) + 1 := w64 (by omega) (by have := HN.out; omega)
              go_roundw
              case measure =>
                rw [hw]
                exact meas N k hlt
              case rel => exact ⟨k + 1, l', hlt, by rw [hw]; go_num, hl', hby', hS'⟩
            · obtain rfl : k = N := by omega
              clear hl
              go_wp2_with fail
              go_loopw [10] (fun p wr => ∃ (q : Nat) (l : List Int), q ≤ 3 ∧ p = .int .i64 (q : Int) ∧ l.length = k ∧ (∀ x ∈ l, 0 ≤ x ∧ x < 256) ∧ Sep w wr [cell b 5 (l.map enB).toArray]) (fun p _ => 3 - (intOf p).toNat)
              case atStart => exact ⟨0, l, by omega, rfl, Hl.out, Hby.out, hS⟩
              case round =>
                as_aux_lemma =>
                  clear hS Hl Hby
                  obtain ⟨q, l, hq, rfl, hl, hby, hS⟩ := hrel
                  by_cases hq3 : q < 3
                  · have hq3' : (q : Int) < 3 := by omega
                    have hN := HN.out
                    obtain ⟨V1, hV1⟩ : ∃ V1, wr.setCell ⟨b, q, none⟩ (.int .u8 251) = V1 := ⟨_, rfl⟩
                    obtain ⟨l1, hl1, hby1, S1⟩ := far_put hl hby hS q 251 (by decide)
                    rw [hV1] at S1
                    obtain ⟨V2, hV2⟩ : ∃ V2, V1.setCell ⟨b, 32768 + q, none⟩ (.int .u8 251) = V2 := ⟨_, rfl⟩
                    obtain ⟨l2, hl2, hby2, S2⟩ := far_put hl1 hby1 S1 (32768 + q) 251 (by decide)
                    rw [hV2] at S2
                    obtain ⟨V3, hV3⟩ : ∃ V3, V2.setCell ⟨b, 32771 + q, none⟩ (.int .u8 251) = V3 := ⟨_, rfl⟩
                    obtain ⟨l3, hl3, hby3, S3⟩ := far_put hl2 hby2 S2 (32771 + q) 251 (by decide)
                    rw [hV3] at S3
                    obtain ⟨u1, f1⟩ := (hS.blk 0 rfl).some_ q (by simp; omega)
                    obtain ⟨u2, f2⟩ := (S1.blk 0 rfl).some_ (32768 + q) (by simp; omega)
                    obtain ⟨u3, f3⟩ := (S2.blk 0 rfl).some_ (32771 + q) (by simp; omega)
                    have z1 := (hS.blk 0 rfl).frozen q
                    have z2 := (S1.blk 0 rfl).frozen (32768 + q)
                    have z3 := (S2.blk 0 rfl).frozen (32771 + q)
                    have i0 : (q : Int) < (k : Int) := by omega
                    have i1 : IntKind.i64.wrap (32768 + (q : Int)) = 32768 + (q : Int) := IntWalk.i64_in _ (by omega)
                    have i2 : IntKind.i64.wrap (32771 + (q : Int)) = 32771 + (q : Int) := IntWalk.i64_in _ (by omega)
                    have i3 : 32768 + (q : Int) < (k : Int) := by omega
                    have i4 : 32771 + (q : Int) < (k : Int) := by omega
                    have i5 : (0 : Int) ≤ 32768 + (q : Int) := by omega
                    have i6 : (0 : Int) ≤ 32771 + (q : Int) := by omega
                    have i7 : (32768 + (q : Int)).toNat = 32768 + q := by omega
                    have i8 : (32771 + (q : Int)).toNat = 32771 + q := by omega
                    have HL3 := Lib.hid hl3
                    have HB3 := Lib.hid hby3
                    clear hN hl hby hl1 hby1 hl2 hby2 hl3 hby3 S1 S2 hS
                    go_wp2_with fail
                    go_roundw
                    case measure => simp [intOf]; omega
                    case rel => exact ⟨q + 1, l3, hq3, by go_num, HL3.out, HB3.out, S3⟩
                  · obtain rfl : q = 3 := by omega
                    have hN := HN.out
                    obtain ⟨T, hT⟩ : ∃ T, (matchS (nat l)).map tokS = T := ⟨_, rfl⟩
                    have hok : okM l = true := okM_mk hby (by omega)
                    have hTk := match_okS l hok
                    have hTe := exp_back l hok (by omega)
                    have hTl := matchS_len (nat l)
                    rw [nat_length, hl] at hTl
                    have hTm : ((matchS (nat l)).map tokS).length ≤ k := by rw [List.length_map]; exact hTl
                    rw [hT] at hTk hTe hTm
                    obtain ⟨m, hm⟩ : ∃ m, T.length = m := ⟨_, rfl⟩
                    rw [hm] at hTm
                    have HTk := Lib.hid hTk
                    have HTe := Lib.hid hTe
                    have Hm := Lib.hid hm
                    have HT := Lib.hid hT
                    have Hok := Lib.hid hok
                    have Hl := Lib.hid hl
                    have HTm := Lib.hid (show m ≤ 1000000 by omega)
                    have SB := close_bytes hl hS (by omega)
                    obtain ⟨A, c, hv, hcc, hC⟩ := reads_n k hl SB 0 rfl
                    injection hv with hv1 hv2 hv3
                    subst hv1 hv3
                    have HC := Lib.hid hC
                    clear hC hTk hTe hTl hTm hok hm hT hl hby hS hN
                    go_wp2_with fail
                    refine (match_n l k Hl.out Hok.out T HT.out _ _ HC.out (Nat.le_refl _) SB).mono ?_
                    rintro en w10 ⟨v10, rfl, S10⟩
                    obtain ⟨A10, c10, rfl, hc10, hC10⟩ := sreads_n m Hm.out S10 0 rfl
                    have HC10 := Lib.hid hC10
                    clear hC10 SB
                    go_wp2_with fail
                    refine (expand_n T m Hm.out HTm.out HTk.out l 0 HTe.out _ _ HC10.out hc10 S10).mono ?_
                    rintro en w11 ⟨v11, rfl, S11⟩
                    obtain ⟨A11, c11, rfl, -, -⟩ := own_slice (own_n k Hl.out S11 0 rfl)
                    have e1 : (convert 22 9 (.slice A11 k c11)).run Try.prog w11 = .ok (.string (strOfNums l)) w11 := own_string Try.underlying22 Try.underlying5 Try.underlying9 (own_n k Hl.out S11 0 rfl)
                    have e2 : (convert 22 9 (.slice (some ⟨b, 0, none⟩) k k)).run Try.prog w11 = .ok (.string (strOfNums l)) w11 := own_string Try.underlying22 Try.underlying5 Try.underlying9 (own_n k Hl.out S11 2 rfl)
                    clear S10
                    have S12 : Sep w w11 [] := S11.take 0
                    obtain ⟨X, hX, S13⟩ := S12.boxedF 26 #[.int .u8 97, .int .i64 0, .int .i64 0]
                    replace S13 := close_toks (T := manyT 0) (n := 1) rfl rfl S13 (by decide)
                    go_wp2_with fail
                    obtain ⟨i26, hi26, hz0, hz1, hz2⟩ := info_parts info26
                    have Hi := Lib.hid hi26
                    have Hz0 := Lib.hid hz0
                    have Hz1 := Lib.hid hz1
                    have Hz2 := Lib.hid hz2
                    clear hi26 hz0 hz1 hz2 e1 e2 S11 S12
                    go_loopw [14, 15] (fun v p wr => ∃ j : Nat, j ≤ 2032 ∧ p = .int .i64 (j : Int) ∧ Sep w wr [SRow v (manyT j)]) (fun _ p _ => 2032 - (intOf p).toNat)
                    case atStart => exact ⟨0, by omega, rfl, S13⟩
                    case round =>
                      as_aux_lemma =>
                        clear S13
                        obtain ⟨j, hj, rfl, hS⟩ := hrel
                        obtain ⟨a, c, rfl, -, -⟩ := own_slice (sown_n (j + 1) (manyT_len j) hS 0 rfl)
                        by_cases hj2 : j < 2032
                        · have hj3 : (j : Int) < 2032 := by omega
                          obtain ⟨X1, hX1, hS1⟩ := hS.boxedF 26 #[.int .u8 0, .int .i64 258, .int .i64 1]
                          have O1 := Lib.hid (sown_n (j + 1) (manyT_len j) hS1 1 rfl)
                          have R1 := Lib.hid (Reads.of_blk (n := 1) (size := 3) (hS1.blk 0 rfl) rfl)
                          have HS := Lib.hid hS1
                          have Hm1 : Hid (j + 1 + 1 ≤ maxLen) := Lib.hid (by unfold maxLen; omega)
                          have Hm2 : Hid ((j + 1 + 1) * 24 ≤ 140737488355328) := Lib.hid (by omega)
                          clear hS1 hS
                          go_wp2_with (
                            at_builtin
                            refine wpList_append_any _ rfl (.tmp 172) (.tmp 174) 23 rfl 0 26 i26 _ 3 24 Try.underlying23 Hi.out Hz0.out Hz1.out Hz2.out rfl (Nat.succ_pos 2) (.slice a (j + 1) c) (j + 1) (sC (manyT j)) rfl O1.out (wr.heap.size + 1) (some ⟨wr.heap.size, 0, none⟩) 1 1 [.int .u8 0, .int .i64 258, .int .i64 1] rfl R1.out (by decide) Hm1.out Hm2.out (Nat.zero_le _) ?_
                            intro v1 w3 hown hg hat
                            have hown' : w3.ownsRow 0 26 3 v1 (manyT (j + 1)).length (sC (manyT (j + 1))) := by
                              rw [← manyT_snoc, List.length_append, sC_append, manyT_len]
                              exact hown
                            have S3 := (HS.out.pushed 1 rfl hown' hg hat).tail
                            obtain ⟨a3, c3, rfl, -, -⟩ := own_slice (sown_n (j + 1 + 1) (manyT_len (j + 1)) S3 0 rfl)
                            clear hown hown' hg hat hX1)
                          go_roundw
                          case measure => exact meas 2032 j hj2
                          case rel => exact ⟨j + 1, hj2, by go_num, S3⟩
                        · obtain rfl : j = 2032 := by omega
                          obtain ⟨T2, T3, y, M, hT2, hT2l, hT2k, hT2e, hyl, hM, hT3, hT3l, hT3k, hT3e⟩ := many_all
                          rw [hT2] at hS
                          have HT2k := Lib.hid hT2k
                          have HT2e := Lib.hid hT2e
                          have HT3k := Lib.hid hT3k
                          have HT3e := Lib.hid hT3e
                          have HT3 := Lib.hid hT3
                          have H2l := Lib.hid hT2l
                          have H3l := Lib.hid hT3l
                          have Hyl := Lib.hid hyl
                          obtain ⟨A, c', hv, hcc, hC⟩ := sreads_n 2033 hT2l hS 0 rfl
                          injection hv with hv1 hv2 hv3
                          subst hv1 hv3
                          have HC := Lib.hid hC
                          clear hC hT2 hT2l hT2k hT2e hT3 hT3l hT3k hT3e hyl
                          go_wp2_with fail
                          refine (expand_n T2 2033 H2l.out (by decide) HT2k.out y 0 HT2e.out _ _ HC.out hcc hS).mono ?_
                          rintro en w14 ⟨v14, rfl, S14⟩
                          obtain ⟨A14, c14, rfl, -, -⟩ := own_slice (own_n M Hyl.out S14 0 rfl)
                          obtain ⟨X2, hX2, S15⟩ := S14.boxedF 26 #[.int .u8 0, .int .i64 258, .int .i64 1]
                          have O1 := Lib.hid (sown_n 2033 H2l.out S15 2 rfl)
                          have R1 := Lib.hid (Reads.of_blk (n := 1) (size := 3) (S15.blk 0 rfl) rfl)
                          have HS := Lib.hid S15
                          clear S15 S14 hS
                          go_wp2_with (
                            at_builtin
                            refine wpList_append_any _ rfl (.tmp 182) (.tmp 184) 23 rfl 0 26 i26 _ 3 24 Try.underlying23 Hi.out Hz0.out Hz1.out Hz2.out rfl (Nat.succ_pos 2) (.slice a 2033 c) 2033 (sC T2) rfl O1.out (w14.heap.size + 1) (some ⟨w14.heap.size, 0, none⟩) 1 1 [.int .u8 0, .int .i64 258, .int .i64 1] rfl R1.out (by decide) (by decide) (by decide) (Nat.zero_le _) ?_
                            intro v1 w16 hown hg hat
                            have hown' : w16.ownsRow 0 26 3 v1 T3.length (sC T3) := by
                              rw [← HT3.out, List.length_append, sC_append, H2l.out]
                              exact hown
                            have S16 := HS.out.pushed 2 rfl hown' hg hat
                            obtain ⟨a3, c3, rfl, hc3, hC3⟩ := sreads_n 2034 H3l.out S16 2 rfl
                            have HC3 := Lib.hid hC3
                            clear hown hown' hg hat hX2 hC3)
                          refine (expand_n T3 2034 H3l.out (by decide) HT3k.out [] 2 HT3e.out _ _ HC3.out hc3 S16).mono ?_
                          rintro en w17 ⟨v17, rfl, S17⟩
                          obtain ⟨A17, c17, rfl, -, -⟩ := own_slice (own_n 0 rfl S17 0 rfl)
                          clear S16
                          go_wp2_with fail
                          refine (expand_n [] 0 rfl (by decide) (by simp) [] 0 rfl none 0 ⟨rfl, by simp, fun h => absurd h (Nat.lt_irrefl 0)⟩ (Nat.le_refl _) S17).mono ?_
                          rintro en w18 ⟨v18, rfl, S18⟩
                          obtain ⟨A18, c18, rfl, -, -⟩ := own_slice (own_n 0 rfl S18 0 rfl)
                          clear S17
                          go_wp2_with fail
                          refine (matches_any _).mono ?_
                          rintro en w19 ⟨rfl, hb19⟩
                          go_wp2_with fail
                          go_ret
                          exact ⟨rfl, (S18.grow hb19).below⟩
end Go.Proofs.Ytgfjbbjdkmgdjaa.L
