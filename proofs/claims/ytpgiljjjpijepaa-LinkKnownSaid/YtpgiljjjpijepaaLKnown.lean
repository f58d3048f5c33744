/- LinkKnown: the closed example. -/
import Derived.Test.YtpgiljjjpijepaaLKnP
import Derived.Test.YtpgiljjjpijepaaLFull
import Derived.Test.YtpgiljjjpijepaaLRound
namespace Go.Proofs.Ytpgiljjjpijepaa
open Go.RowKit
section
variable {w0 w w' : World} {L M : List Asn}
/-- the cells of a packet that was told -/
theorem told_at {v : Value} {ps : List Pk} (n : Nat) (hn : ps.length = n) (h : Sep w0 w (PkX v ps :: L)) : ∃ A c, v = .slice A n c ∧ PR w A ps := by
  subst hn
  obtain ⟨A, c, h1, -, -, h2⟩ := h.pr 0 rfl
  exact ⟨A, c, h1, h2⟩
/-- the first byte of a packet that was told is turned; the packets are given up -/
theorem Sep.poke {b o n c : Nat} {p : Pk} {ps : List Pk} (m : Nat) (hm : p.d.length = m) (h0 : 0 < m) (hp : ps[0]? = some p) (hS : Sep w0 w (PkX (.slice (some ⟨b, o, none⟩) n c) ps :: L)) :
    ∃ B d x, w.cell? ⟨b, o + 3, none⟩ = some (.slice (some ⟨B, 0, none⟩) m d) ∧ w.cell? ⟨B, 0, none⟩ = some x ∧ w.frozen? ⟨B, 0, none⟩ = false ∧ ∀ u, Sep w0 (w.setCell ⟨B, 0, none⟩ u) L := by
  subst hm
  obtain ⟨es, ds, hes, hds, S⟩ := hS.openK
  have hp2 := hp
  rw [← hes, List.getElem?_map] at hp
  obtain ⟨e, he1, rfl⟩ : ∃ e, es[0]? = some e ∧ e.2 = p := by
    cases hq : es[0]? with
    | none => rw [hq] at hp; cases hp
    | some e => rw [hq] at hp; exact ⟨e, rfl, by injection hp⟩
  obtain ⟨hkl, he2⟩ := List.getElem?_eq_some_iff.1 he1
  have hmem : (e.1, e.2.d) ∈ ds := hds e (by rw [← he2]; exact List.getElem_mem hkl)
  obtain ⟨j, hj, hje⟩ := List.getElem_of_mem hmem
  have hn : n = es.length := by
    obtain ⟨A, d, hv, -⟩ := own_slice (S.own 0 rfl)
    injection hv
  subst hn
  have hr := Reads.of_own (S.own 0 rfl)
  obtain ⟨b2, o2, hA, -, hc⟩ := Reads.elem (cells := fun e : EntP => e.2.cells e.1) (fun _ => rfl) (by decide) hr hkl
  injection hA with hA
  injection hA with e1 e2
  subst e1 e2
  rw [he2] at hc
  have h3 := hc 3 _ rfl
  have hix : (row 32 4 (.slice (some ⟨b, o, none⟩) es.length c) es.length (entP es) :: (ds.map rowD ++ L))[j + 1]? = some (BRow e.1 e.2.d) := by
    rw [List.getElem?_cons_succ, List.getElem?_append_left (by simpa using hj), List.getElem?_map, List.getElem?_eq_getElem hj, hje]
    rfl
  obtain ⟨B, d, hv⟩ : ∃ B d, e.1 = .slice (some ⟨B, 0, none⟩) e.2.d.length d := by
    obtain ⟨B, d, hv, -⟩ := (S.own (j + 1) hix).form h0
    exact ⟨B, d, hv⟩
  have S1 := S.pick (j + 1) hix
  rw [hv] at S1
  obtain ⟨cur, q1, q2, -, q3, q4, S2⟩ := Sep.openRow S1
  have hb := S2.blk 0 rfl
  have hcs : 0 < cur.size := by omega
  rw [show o + 0 * 4 + 3 = o + 3 by omega] at h3
  refine ⟨B, d, cur[0], by rw [← hv]; exact h3, hb.at_ 0 (Array.getElem?_eq_getElem hcs), hb.frozen 0, fun u => ?_⟩
  have S3 := S2.put 0 rfl 0 u
  have S4 : Sep w0 (w.setCell ⟨B, 0, none⟩ u) ((row 32 4 (.slice (some ⟨b, o, none⟩) es.length c) es.length (entP es) :: (ds.map rowD ++ L)).eraseIdx (j + 1)) := S3.tail
  rw [List.eraseIdx_cons_succ, List.eraseIdx_append_of_lt_length (by simpa using hj)] at S4
  have S5 := S4.tail
  have hl : ∀ (K : List Asn), Sep w0 (w.setCell ⟨B, 0, none⟩ u) (K ++ L) → Sep w0 (w.setCell ⟨B, 0, none⟩ u) L := by
    intro K
    induction K with
    | nil => exact id
    | cons A K ih => exact fun h => ih h.tail
  exact hl _ S5
end
set_option maxRecDepth 100000 in
set_option maxHeartbeats 2000000 in
theorem known_any (w : World) : Calls Try.prog 3 #[] w fun e w' => e = .returned (.bool true) ∧ Below w.heap.size w w' := by
  go_enter Try.func3, Try.ntmps3
  go_wp2_with fail
  refine (new_any 1 (Sep.start w)).mono ?_
  rintro e w1 ⟨a, rfl, S1⟩
  go_wp2_with fail
  refine (new_any 1 S1).mono ?_
  rintro e w2 ⟨b, rfl, S2⟩
  replace S2 : Sep w w2 [LinkAt b (newL 1), LinkAt a (newL 1)] := S2
  obtain ⟨W3, hc3, S3⟩ := text_row [120] 1 rfl #[.int .u8 120] rfl S2
  clear S1 S2
  go_wp2_with fail
  refine (write_any [120] _ 1 1 (text_reads rfl 0 rfl S3) (by decide) 2 rfl S3).mono ?_
  rw [show writeE (newL 1) 1 = 0 from rfl, show writeS (newL 1) [120] = kA1 from rfl]
  rintro e w4 ⟨rfl, S4⟩
  replace S4 : Sep w w4 [LinkAt b (newL 1), LinkAt a kA1] := S4.tail
  clear S3
  go_wp2_with fail
  refine (tick_any kA1_inv (by decide) 1 rfl S4).mono ?_
  rw [kA1_tick.1, kA1_tick.2]
  rintro e w5 ⟨v5, rfl, S5⟩
  obtain ⟨A5, c5, rfl, -⟩ := told_at 1 rfl S5
  replace S5 : Sep w w5 [LinkAt b (newL 1), LinkAt a (kA 0)] := S5.tail
  clear S4
  go_wp2_with fail
  go_loopw [3] (fun p3 wr => ∃ k : Nat, k ≤ 4 ∧ p3 = .int .i64 (k : Int) ∧ Sep w wr [LinkAt b (newL 1), LinkAt a (kA k)]) (fun p3 _ => 4 - (intOf p3).toNat)
  case atStart => exact ⟨0, by decide, rfl, S5⟩
  case round =>
    clear S5
    obtain ⟨k, hk, rfl, S6⟩ := hrel
    by_cases hk4 : k < 4
    · have e1 : decide ((k : Int) < 4) = true := decide_eq_true (by omega)
      go_wp2_with fail
      refine (tick_any (kA_inv k) (by show k ≤ 1000; omega) 1 rfl S6).mono ?_
      rw [(kA_tick hk4).1, (kA_tick hk4).2]
      rintro e w7 ⟨v7, rfl, S7⟩
      obtain ⟨A7, c7, rfl, -⟩ := told_at 0 rfl S7
      replace S7 : Sep w w7 [LinkAt b (newL 1), LinkAt a (kA (k + 1))] := S7.tail
      go_wp2_with fail
      go_roundw
      case measure => simp [intOf]; omega
      case rel => exact ⟨k + 1, by omega, by go_num, S7⟩
    · have e1 : decide ((k : Int) < 4) = false := decide_eq_false (by omega)
      obtain rfl : k = 4 := by omega
      clear hk hk4
      go_wp2_with fail
      refine (tick_any (kA_inv 4) (by decide) 1 rfl S6).mono ?_
      rw [kA4_tick.1, kA4_tick.2]
      rintro e w7 ⟨v7, rfl, S7⟩
      replace S7 : Sep w w7 [PkX v7 [kP0], LinkAt b (newL 1), LinkAt a (kA 0)] := S7
      obtain ⟨A7, c7, rfl, hPR⟩ := told_at 1 rfl S7
      obtain ⟨b7, o7, B7, d7, rfl, -, q1, -, q3, -, -, hR⟩ := hPR.elem (k := 0) rfl
      rw [show (kP0.o : Int) = 0 from rfl] at q1
      rw [show kP0.d.length = 1 from rfl] at q3 hR
      simp only [Nat.zero_mul, Nat.add_zero] at q1 q3
      have k7 : (convert 27 9 (.slice B7 1 d7)).run Try.prog w7 = .ok (.string ⟨#[120]⟩) w7 := str_conv hR
      have HT := Lib.hid (take_bare 2 kQ1 rfl (by decide) (by decide) (by decide) (by decide) (by decide) (by decide) rfl S7)
      rw [kA_q1.1, kA_q1.2, show (kQ1.e : Int) = 2 from rfl, show (kQ1.o : Int) = 0 from rfl, show (kQ1.a : Int) = 0 from rfl] at HT
      clear S6 S7 hPR hR
      go_wp2_with fail
      refine HT.out.mono ?_
      rintro e w8 ⟨rfl, S8⟩
      replace S8 : Sep w w8 [PkX (.slice (some ⟨b7, o7, none⟩) 1 c7) [kP0], LinkAt b (newL 1), LinkAt a (kA 0)] := S8
      clear HT k7 q1 q3
      have HT := Lib.hid (take_bare 2 kQ2 rfl (by decide) (by decide) (by decide) (by decide) (by decide) (by decide) rfl S8)
      rw [kA_q2.1, kA_q2.2, show (kQ2.e : Int) = 1 from rfl, show (kQ2.o : Int) = 0 from rfl, show (kQ2.a : Int) = 9 from rfl] at HT
      clear S8
      go_wp2_with fail
      refine HT.out.mono ?_
      rintro e w9 ⟨rfl, S9⟩
      replace S9 : Sep w w9 [PkX (.slice (some ⟨b7, o7, none⟩) 1 c7) [kP0], LinkAt b (newL 1), LinkAt a (kA 0)] := S9
      clear HT
      go_wp2_with fail
      refine (idle_any 2 rfl S9).mono ?_
      rw [show ((kA 0).wait.length == 0 && !(kA 0).owes) = false from rfl]
      rintro e w10 ⟨rfl, rfl⟩
      obtain ⟨B9, d9, x9, q3, z1, z2, hput⟩ := Sep.poke 1 rfl (by decide) rfl S9
      obtain ⟨w10, hw10, S10⟩ : ∃ W, w9.setCell ⟨B9, 0, none⟩ (.int .u8 121) = W ∧ Sep w W [LinkAt b (newL 1), LinkAt a (kA 0)] := ⟨_, rfl, hput _⟩
      clear S9 hput
      obtain ⟨W11, h11, S11⟩ := make_cell 1300 (by decide) 1300 rfl S10
      obtain ⟨xb, hxb⟩ : ∃ x, w10.heap.size = x := ⟨_, rfl⟩
      rw [hxb] at h11 S11
      replace S11 : Sep w W11 [cell xb 5 (lc 0), LinkAt b (newL 1), LinkAt a (kA 0)] := S11
      clear S10 hxb
      go_wp2_with fail
      clear q3 z1 z2 hw10 h11
      go_loopw [6] (fun p6 wr => ∃ k : Nat, k ≤ 1300 ∧ p6 = .int .i64 (k : Int) ∧ Sep w wr [cell xb 5 (lc k), LinkAt b (newL 1), LinkAt a (kA 0)]) (fun p6 _ => 1300 - (intOf p6).toNat)
      case atStart => exact ⟨0, by decide, rfl, S11⟩
      case round =>
        clear S11
        obtain ⟨k, hk, rfl, S12⟩ := hrel
        by_cases hk4 : k < 1300
        · have e1 : decide ((k : Int) < 1300) = true := decide_eq_true (by omega)
          have e2 : (0 : Int) ≤ (k : Int) := by omega
          have i1 : IntKind.u8.wrap (k : Int) = ((k % 256 : Nat) : Int) := by rw [IntKind.wrap_u8]; omega
          have hb := S12.blk 0 rfl
          obtain ⟨x12, z1⟩ := hb.some_ k (by rw [lc_size]; exact hk4)
          have z2 := hb.frozen k
          have HS := Lib.hid (S12.put 0 rfl k (enB (k % 256)))
          clear S12 hb
          go_wp2_with fail
          go_roundw
          case measure => simp [intOf]; omega
          case rel => exact ⟨k + 1, by omega, by go_num, HS.out⟩
        · have e1 : decide ((k : Int) < 1300) = false := decide_eq_false (by omega)
          obtain rfl : k = 1300 := by omega
          clear hk hk4
          go_wp2_with fail
          refine (new_any 7 S12).mono ?_
          rintro e w13 ⟨c, rfl, S13⟩
          replace S13 : Sep w w13 [LinkAt c (newL 7), cell xb 5 (lc 1300), LinkAt b (newL 1), LinkAt a (kA 0)] := S13
          have hrb : RB w13 (some ⟨xb, 0, none⟩) 1300 lng := ((close_row lng lng_len (by decide) lc_end (show Sep w w13 (cell xb 5 (lc 1300) :: [LinkAt c (newL 7), LinkAt b (newL 1), LinkAt a (kA 0)]) from S13.perm (List.Perm.swap _ _ _))).rb 0 rfl).1
          clear S12
          go_wp2_with fail
          refine (write_any lng _ 1300 1300 hrb (by decide) 0 rfl S13).mono ?_
          rw [show writeE (newL 7) 1300 = 0 from by unfold writeE; rw [if_neg (by show ¬ 1048576 < 0 + 1300; decide)], show writeS (newL 7) lng = kC 0 0 0 from by unfold writeS; rw [lng_len, if_neg (by show ¬ 1048576 < 0 + 1300; decide)]; rfl]
          rintro e w14 ⟨rfl, S14⟩
          replace S14 : Sep w w14 [LinkAt c (kC 0 0 0), cell xb 5 (lc 1300), LinkAt b (newL 1), LinkAt a (kA 0)] := S14
          clear S13 hrb
          have hb := S14.blk 1 rfl
          obtain ⟨x14, z1⟩ := hb.some_ 0 (by rw [lc_size]; decide)
          have z2 := hb.frozen 0
          have S15 : Sep w (w14.setCell ⟨xb, 0, none⟩ (.int .u8 9)) [LinkAt c (kC 0 0 0), LinkAt b (newL 1), LinkAt a (kA 0)] := (S14.put 1 rfl 0 (.int .u8 9)).drop 1
          clear S14 hb
          go_wp2_with fail
          generalize w14.setCell ⟨xb, 0, none⟩ (.int .u8 9) = w15 at S15 ⊢
          clear z1 z2
          refine (tick_any (kC_inv 0 0 0 (by decide) (by decide) (by decide)) (by decide) 0 rfl S15).mono ?_
          rw [kC_tick1.1, kC_tick1.2]
          rintro e w16 ⟨v16, rfl, S16⟩
          replace S16 : Sep w w16 [PkX v16 [kP 0 0 256, kP 0 256 256, kP 0 512 256, kP 0 768 256], LinkAt c (kC 0 1024 0), LinkAt b (newL 1), LinkAt a (kA 0)] := S16
          obtain ⟨A7, c7, rfl, hPR⟩ := told_at 4 rfl S16
          obtain ⟨b7, o7, B7, d7, rfl, -, -, -, q3, -, -, hR⟩ := hPR.elem (k := 0) rfl
          rw [kP_len 0 0 256 (by decide)] at q3 hR
          simp only [Nat.zero_mul, Nat.add_zero] at q3
          obtain ⟨ad, u, rfl, -, hu, hcu⟩ := hR.2.at_ (k := 0) (by decide)
          rw [List.getElem?_map, kP_first] at hu
          obtain rfl : Value.int .u8 0 = u := by injection hu
          have hcu' : w16.cell? ad = some (.int .u8 0) := hcu
          obtain ⟨b9, o9, B9, d9, hA9, -, r1, -, r3, -⟩ := hPR.elem (k := 3) rfl
          injection hA9 with hA9
          injection hA9 with hA9 hB9
          subst hA9 hB9
          rw [show ((kP 0 768 256).o : Int) = 768 from rfl] at r1
          rw [kP_len 0 768 256 (by decide)] at r3
          simp only [Nat.reduceMul] at r1 r3
          have S17 : Sep w w16 [LinkAt c (kC 0 1024 0), LinkAt b (newL 1), LinkAt a (kA 0)] := S16.tail
          clear S15 S16 hPR hR hcu hu
          go_wp2_with fail
          refine (tick_any (kC_inv 0 1024 0 (by decide) (by decide) (by decide)) (by decide) 0 rfl S17).mono ?_
          rw [kC_tick2.1, kC_tick2.2]
          rintro e w18 ⟨v18, rfl, S18⟩
          replace S18 : Sep w w18 [PkX v18 [], LinkAt c (kC 0 1024 1), LinkAt b (newL 1), LinkAt a (kA 0)] := S18
          obtain ⟨A8, c8, rfl, -⟩ := told_at 0 rfl S18
          replace S18 : Sep w w18 [LinkAt c (kC 0 1024 1), LinkAt b (newL 1), LinkAt a (kA 0)] := S18.tail
          have HT := Lib.hid (take_bare 0 kQ3 rfl (by decide) (by decide) (by rw [kC_len]; show 1024 ≤ 0 + (1300 - 0); decide) (by rw [kC_len]; decide) (by show 0 ≤ _; decide) (by show 0 ≤ _; decide) rfl S18)
          rw [kC_q3.1, kC_q3.2, show (kQ3.e : Int) = 7 from rfl, show (kQ3.o : Int) = 0 from rfl, show (kQ3.a : Int) = 300 from rfl] at HT
          clear S17 S18 r1 r3 q3 hcu'
          go_wp2_with fail
          refine HT.out.mono ?_
          rintro e w19 ⟨rfl, S19⟩
          replace S19 : Sep w w19 [LinkAt c (kC 300 1024 0), LinkAt b (newL 1), LinkAt a (kA 0)] := S19
          clear HT
          go_wp2_with fail
          refine (tick_any (kC_inv 300 1024 0 (by decide) (by decide) (by decide)) (by decide) 0 rfl S19).mono ?_
          rw [kC_tick3.1, kC_tick3.2]
          rintro e w20 ⟨v20, rfl, S20⟩
          replace S20 : Sep w w20 [PkX v20 [kP 300 1024 256, kP 300 1280 20], LinkAt c (kC 300 1300 1), LinkAt b (newL 1), LinkAt a (kA 0)] := S20
          obtain ⟨A8, c8, rfl, hPR⟩ := told_at 2 rfl S20
          obtain ⟨b8, o8, B8, d8, rfl, -, q1, -, q3, -, -, -⟩ := hPR.elem (k := 0) rfl
          obtain ⟨b9, o9, B9, d9, hA9, -, r1, -, r3, -⟩ := hPR.elem (k := 1) rfl
          injection hA9 with hA9
          injection hA9 with hA9 hB9
          subst hA9 hB9
          rw [show ((kP 300 1024 256).o : Int) = 1024 from rfl] at q1
          rw [kP_len 300 1024 256 (by decide)] at q3
          rw [show ((kP 300 1280 20).o : Int) = 1280 from rfl] at r1
          rw [kP_len 300 1280 20 (by decide)] at r3
          simp only [Nat.zero_mul, Nat.add_zero] at q1 q3
          simp only [Nat.one_mul] at r1 r3
          replace S20 := S20.tail.tail
          replace S20 : Sep w w20 [LinkAt b (newL 1), LinkAt a (kA 0)] := S20
          clear S19 hPR
          go_wp2_with fail
          refine (new_any 7 S20).mono ?_
          rintro e w21 ⟨g, rfl, S21⟩
          replace S21 : Sep w w21 [LinkAt g (newL 7), LinkAt b (newL 1)] := S21.drop 2
          clear S20 q1 q3 r1 r3
          obtain ⟨X1, h1, T1⟩ := text_row kR1.d 4 rfl #[.int .u8 108, .int .u8 97, .int .u8 116, .int .u8 101] rfl S21
          have HT := Lib.hid (take_text 0 kR1 4 rfl (by decide) (by decide) (by decide) (by decide) (by decide) (by decide) (by decide) rfl T1)
          rw [kD_1.1, kD_1.2, show (kR1.e : Int) = 7 from rfl, show (kR1.o : Int) = 5 from rfl, show (kR1.a : Int) = 0 from rfl] at HT
          clear S21 T1
          go_wp2_with fail
          refine HT.out.mono ?_
          rintro e y1 ⟨rfl, U1⟩
          replace U1 : Sep w y1 [LinkAt g (kD [] 0), LinkAt b (newL 1)] := U1
          clear HT h1
          go_wp2_with fail
          refine (peek_any 0 rfl U1).mono ?_
          rintro e z1 ⟨rfl, rfl⟩
          obtain ⟨X2, h2, T2⟩ := text_row kR2.d 5 rfl #[.int .u8 104, .int .u8 101, .int .u8 108, .int .u8 108, .int .u8 111] rfl U1
          have HT := Lib.hid (take_text 0 kR2 5 rfl (by decide) (by decide) (by decide) (by decide) (by decide) (by decide) (by decide) rfl T2)
          rw [kD_2.1, kD_2.2, show (kR2.e : Int) = 7 from rfl, show (kR2.o : Int) = 0 from rfl, show (kR2.a : Int) = 0 from rfl] at HT
          clear U1 T2
          go_wp2_with fail
          refine HT.out.mono ?_
          rintro e y2 ⟨rfl, U2⟩
          replace U2 : Sep w y2 [LinkAt g (kD hello 5), LinkAt b (newL 1)] := U2
          clear HT h2
          obtain ⟨X3, h3, T3⟩ := text_row kR3.d 6 rfl #[.int .u8 108, .int .u8 111, .int .u8 32, .int .u8 121, .int .u8 111, .int .u8 117] rfl U2
          have HT := Lib.hid (take_text 0 kR3 6 rfl (by decide) (by decide) (by decide) (by decide) (by decide) (by decide) (by decide) rfl T3)
          rw [kD_3.1, kD_3.2, show (kR3.e : Int) = 7 from rfl, show (kR3.o : Int) = 3 from rfl, show (kR3.a : Int) = 0 from rfl] at HT
          clear U2 T3
          go_wp2_with fail
          refine HT.out.mono ?_
          rintro e y3 ⟨rfl, U3⟩
          replace U3 : Sep w y3 [LinkAt g (kD hy 9), LinkAt b (newL 1)] := U3
          clear HT h3
          obtain ⟨X4, h4, T4⟩ := text_row kR4.d 6 rfl #[.int .u8 108, .int .u8 111, .int .u8 32, .int .u8 121, .int .u8 111, .int .u8 117] rfl U3
          have HT := Lib.hid (take_text 0 kR4 6 rfl (by decide) (by decide) (by decide) (by decide) (by decide) (by decide) (by decide) rfl T4)
          rw [kD_4.1, kD_4.2, show (kR4.e : Int) = 7 from rfl, show (kR4.o : Int) = 18446744073709551614 from rfl, show (kR4.a : Int) = 0 from rfl] at HT
          clear U3 T4
          go_wp2_with fail
          refine HT.out.mono ?_
          rintro e y4 ⟨rfl, U4⟩
          replace U4 : Sep w y4 [LinkAt g (kD hy 9), LinkAt b (newL 1)] := U4
          clear HT h4
          go_wp2_with fail
          refine (peek_any 0 rfl U4).mono ?_
          rintro e z4 ⟨rfl, rfl⟩
          go_wp2_with fail
          refine (read_any 4 (by decide) 0 rfl U4).mono ?_
          rw [kD_r1.1, kD_r1.2]
          rintro e w22 ⟨v22, rfl, S22⟩
          replace S22 : Sep w w22 [row 5 1 v22 4 ([104, 101, 108, 108].map enB), LinkAt g (kD [111, 32, 121, 111, 117] 9), LinkAt b (newL 1)] := S22
          obtain ⟨hb, hc, rfl, -⟩ := (S22.own 0 rfl).form (by decide)
          obtain ⟨cur, -, q2, -, q3, -, S23⟩ := Sep.openRow S22
          have hk := S23.blk 0 rfl
          obtain ⟨x22, z1⟩ := hk.some_ 0 (by omega)
          have z2 := hk.frozen 0
          obtain ⟨w23, hw23, S24⟩ : ∃ W, w22.setCell ⟨hb, 0, none⟩ (.int .u8 120) = W ∧ Sep w W [LinkAt g (kD [111, 32, 121, 111, 117] 9), LinkAt b (newL 1)] := ⟨_, rfl, (S23.put 0 rfl 0 (.int .u8 120)).tail⟩
          clear U4 S22 S23 hk q2 q3
          go_wp2_with fail
          refine (read_any 100 (by decide) 0 rfl S24).mono ?_
          rw [kD_r2.1, kD_r2.2]
          rintro e w25 ⟨v25, rfl, S25⟩
          replace S25 : Sep w w25 [BRow v25 [111, 32, 121, 111, 117], LinkAt g (kD [] 9), LinkAt b (newL 1)] := S25
          obtain ⟨A25, c25, hv25, -, -, hR25⟩ := S25.bform 0 rfl
          rw [show [111, 32, 121, 111, 117].length = 5 from rfl] at hv25 hR25
          subst hv25
          have k25 : (convert 27 9 (.slice A25 5 c25)).run Try.prog w25 = .ok (.string ⟨#[111, 32, 121, 111, 117]⟩) w25 := str_conv hR25
          replace S25 : Sep w w25 [LinkAt g (kD [] 9), LinkAt b (newL 1)] := S25.tail
          clear S24 hR25 z1 z2 hw23
          go_wp2_with fail
          refine (read_any 1 (by decide) 0 rfl S25).mono ?_
          rw [kD_r3.1, kD_r3.2]
          rintro e w26 ⟨v26, rfl, S26⟩
          obtain ⟨A26, c26, hv26, -⟩ := S26.bform 0 rfl
          rw [show ([] : List Nat).length = 0 from rfl] at hv26
          subst hv26
          replace S26 : Sep w w26 [LinkAt g (kD [] 9), LinkAt b (newL 1)] := S26.tail
          clear S25 k25
          go_wp2_with fail
          refine (read_any (-1) (by decide) 0 rfl S26).mono ?_
          rw [kD_r4.1, kD_r4.2]
          rintro e w27 ⟨v27, rfl, S27⟩
          obtain ⟨A27, c27, hv27, -⟩ := S27.bform 0 rfl
          rw [show ([] : List Nat).length = 0 from rfl] at hv27
          subst hv27
          replace S27 : Sep w w27 [LinkAt g (kD [] 9), LinkAt b (newL 1)] := S27.tail
          clear S26
          go_wp2_with fail
          refine (idle_any 0 rfl S27).mono ?_
          rw [show ((kD [] 9).wait.length == 0 && !(kD [] 9).owes) = false from rfl]
          rintro e w28 ⟨rfl, rfl⟩
          go_wp2_with fail
          refine (idle_any 1 rfl S27).mono ?_
          rw [show ((newL 1).wait.length == 0 && !(newL 1).owes) = true from rfl]
          rintro e w28 ⟨rfl, rfl⟩
          go_wp2_with fail
          refine (full_any w27).mono ?_
          rintro e w29 ⟨rfl, b29⟩
          have S29 := S27.grow b29
          clear S27 b29
          go_wp2_with fail
          refine (carries_any w29).mono ?_
          rintro e w30 ⟨rfl, b30⟩
          have S30 := S29.grow b30
          clear S29 b30
          go_wp2_with fail
          go_ret
          exact ⟨rfl, S30.below⟩
end Go.Proofs.Ytpgiljjjpijepaa
