/- The walk of LzSplit. -/
import Derived.Test.YtgfjbbjdkmgdjaaSplitPure
import Derived.Test.YtgfjbbjdkmgdjaaTokIn
import Derived.Deep.RegionHeld3
import Derived.Deep.DeepCutAuto
import Derived.Outline
import Derived.IntWalk
namespace Go.Proofs.Ytgfjbbjdkmgdjaa.L
open Go.RowKit Go.Proofs.YtgfjbbjdkmgdjaaW.PrintWords
theorem take_pre {α : Type} {a b : List α} (h : a <+: b) : b.take a.length = a := by
  obtain ⟨t, rfl⟩ := h
  simp
/-- where the row is cut -/
def cutN (n : Nat) (a : Int) : Nat := if n = 0 then 0 else (a.tmod ((n : Int) + 1)).toNat
set_option maxRecDepth 100000 in
set_option maxHeartbeats 1000000 in
theorem split_any (l : List S26) (hok : ∀ x ∈ l, okS x) (A : Option Addr) (c : Nat) (a1 : Int) (w : World) (hr : Kd.C k26 w A l.length l) (hc : l.length ≤ c) (ha0 : 0 ≤ a1) (ha1 : a1 < 256) :
    Calls Try.prog 7 #[.slice A l.length c, .int .u8 a1] w fun e w' => e = .returned (.bool true) ∧ Below w.heap.size w w' := by
  have HR := Lib.hid hr
  have Hc := Lib.hid hc
  obtain ⟨N, hN⟩ : ∃ N, l.length = N := ⟨_, rfl⟩
  have HN := Lib.hid hN
  clear hr
  rw [hN] at hc ⊢
  clear hN
  by_cases hbig : 200 < N
  · have hb : decide ((200 : Int) < (N : Int)) = true := decide_eq_true (by omega)
    go_enter Try.func7, Try.ntmps7
    go_wp2_with fail
    go_ret
    exact ⟨rfl, Below.refl _ _⟩
  have hb : decide ((200 : Int) < (N : Int)) = false := decide_eq_false (by omega)
  have hT : Hid (l.length ≤ 1000000) := Lib.hid (by rw [HN.out]; omega)
  obtain ⟨k, hk⟩ : ∃ k, cutN N a1 = k := ⟨_, rfl⟩
  have hkN : k ≤ N := by
    rw [← hk]
    unfold cutN
    split
    · omega
    · have := Int.tmod_lt_of_pos a1 (b := (N : Int) + 1) (by omega); omega
  have Hk := Lib.hid hk
  clear hk
  have hct : Kd.C k26 w A (l.take k).length (l.take k) := Kd.C_take HR.out (by rw [HN.out]; exact hkN)
  have hcl : (l.take k).length = k := by rw [List.length_take, HN.out]; omega
  have HCT := Lib.hid hct
  have HCL := Lib.hid hcl
  clear hct hcl
  have hoT : Hid (∀ x ∈ l.take k, okS x) := Lib.hid fun x hx => hok x (List.mem_of_mem_take hx)
  have Hok := Lib.hid hok
  clear hok
  have E1 := Lib.hid (expand_plain l hT.out Hok.out A c w HR.out Hc.out)
  obtain ⟨r1, hr1⟩ : ∃ r1, expS l [] = r1 := ⟨_, rfl⟩
  obtain ⟨r2, hr2⟩ : ∃ r2, expS (l.take k) [] = r2 := ⟨_, rfl⟩
  have hpre : Hid (r1.2 = 0 → r2.2 = 0 ∧ r2.1 <+: r1.1) := Lib.hid (by rw [← hr1, ← hr2]; exact expS_take k l [])
  have herr : Hid (r1.2 ≠ 0 → r1.1 = []) := Lib.hid (by rw [← hr1]; exact expS_err l [])
  have R1 := Lib.hid hr1
  have R2 := Lib.hid hr2
  clear hr1 hr2
  go_enter Try.func7, Try.ntmps7
  go_upto_if 15 with (fail)
  go_cut [5] (fun v wx => v = .int .i64 (k : Int) ∧ w = wx)
  case first =>
    by_cases h0 : N = 0
    · have hk0 : k = 0 := by rw [← Hk.out]; unfold cutN; rw [if_pos h0]
      subst h0
      subst hk0
      have hd : decide ((0 : Int) < ((0 : Nat) : Int)) = false := rfl
      go_wp2_with fail
      go_meet
      exact ⟨rfl, rfl⟩
    · have hp : (0 : Int) < (N : Int) := by omega
      have c1 : IntKind.i64.wrap a1 = a1 := IntWalk.i64_in _ (by omega)
      have c2 : IntKind.i64.wrap ((N : Int) + 1) = (N : Int) + 1 := IntWalk.i64_in _ (by omega)
      have c3 : a1.tmod ((N : Int) + 1) = (k : Int) := by rw [← Hk.out]; unfold cutN; rw [if_neg h0]; have := Int.tmod_nonneg ((N : Int) + 1) ha0; omega
      have c4 : a1 % ((N : Int) + 1) = (k : Int) := by rw [← Int.tmod_eq_emod_of_nonneg ha0]; exact c3
      have c5 : ((N : Int) + 1 == 0) = false := by rw [beq_eq_false_iff_ne]; omega
      have c6 : ¬ (N : Int) + 1 = 0 := by omega
      go_wp2_with fail
      go_meet
      exact ⟨rfl, rfl⟩
  case rest =>
    obtain ⟨rfl, rfl⟩ := hcut
    go_wp2_with fail
    have E1' := E1.out
    rw [HN.out, R1.out] at E1'
    refine E1'.mono ?_
    clear E1'
    rintro e w1 ⟨v1, rfl, hR1, hB1⟩
    obtain ⟨A1, n1, hv1⟩ := Kd.R_slice hR1
    subst hv1
    have HR1 := Lib.hid hR1
    have HB1 := Lib.hid hB1
    have E2 := expand_plain (l.take k) (by rw [HCL.out]; omega) hoT.out A c w1 (Kd.C_below HCT.out hB1) (by rw [HCL.out]; omega)
    rw [HCL.out, R2.out] at E2
    have E2' := Lib.hid E2
    clear E2 hR1 hB1
    have k0 : (0 : Int) ≤ (k : Int) := by omega
    have kN : (k : Int) ≤ (N : Int) := by omega
    have kc : (k : Int) ≤ (c : Int) := by omega
    have tk : (k : Int).toNat = k := rfl
    go_wp2_with fail
    refine E2'.out.mono ?_
    rintro e w2 ⟨v2, rfl, hR2, hB2⟩
    obtain ⟨A2, n2, hv2⟩ := Kd.R_slice hR2
    subst hv2
    obtain ⟨A1', n1', hv1, hcap, -⟩ := Kd.R_reads HR1.out
    injection hv1 with hv3 hv4 hv5
    subst hv3; subst hv5
    clear hv4
    have HBel : Hid (Below w.heap.size w w2) := Lib.hid (HB1.out.trans (hB2.mono HB1.out.size))
    by_cases he : r1.2 = 0
    · obtain ⟨h2, hp⟩ := hpre.out he
      have hle : r2.1.length ≤ r1.1.length := hp.length_le
      have q1 := Kd.R_take (Kd.R_below HR1.out hB2) hle
      rw [take_pre hp] at q1
      have HK : Hid (∀ w' : World, Below w2.heap.size w2 w' → (convert 22 9 (.slice A1 r2.1.length n1)).run Try.prog w' = .ok (.string (strOfNums r2.1)) w' ∧ (convert 22 9 (.slice A2 r2.1.length n2)).run Try.prog w' = .ok (.string (strOfNums r2.1)) w') := Lib.hid fun w' hb =>
        ⟨own_string Try.underlying22 Try.underlying5 Try.underlying9 (Kd.own_of_R (Kd.R_below q1 hb)), own_string Try.underlying22 Try.underlying5 Try.underlying9 (Kd.own_of_R (Kd.R_below hR2 hb))⟩
      obtain ⟨m1, hm1⟩ : ∃ m1, r1.1.length = m1 := ⟨_, rfl⟩
      obtain ⟨m2, hm2⟩ : ∃ m2, r2.1.length = m2 := ⟨_, rfl⟩
      obtain ⟨x, hx⟩ : ∃ x, strOfNums r2.1 = x := ⟨_, rfl⟩
      rw [hm1] at hle hcap ⊢
      rw [hm2] at hle HK ⊢
      rw [hx] at HK
      rw [he, h2]
      have k0 : (0 : Int) ≤ (m2 : Int) := by omega
      have k1 : (m2 : Int) ≤ (m1 : Int) := by omega
      have k2 : (m2 : Int) ≤ (n1 : Int) := by omega
      have k3 : (m2 : Int).toNat = m2 := rfl
      have k4 : decide ((m2 : Int) ≤ (m1 : Int)) = true := decide_eq_true k1
      clear hR2 hB2 hm1 hm2 hx hp h2 q1 he
      go_upto_region 9 with (fail)
      go_region_held3 (fun w' => (convert 22 9 (.slice A1 m2 n1)).run Try.prog w' = .ok (.string x) w' ∧ (convert 22 9 (.slice A2 m2 n2)).run Try.prog w' = .ok (.string x) w') (first | exact HK.out _ hb3 | exact HK.out _ (Below.refl _ _).drew)
        (first | (go_at_call 12; refine (matches_any _).mono ?_; rintro e w3 ⟨rfl, hb2⟩; have hb3 : Below w2.heap.size w2 w3 := (Below.refl _ _).drew.trans hb2))
      go_wp2_with fail
      go_ret
      exact ⟨rfl, HBel.out.trans (hb3.mono HBel.out.size)⟩
    · have h1 := herr.out he
      have he' : (r1.2 == 0) = false := by rw [beq_eq_false_iff_ne]; exact he
      rw [h1]
      clear he h1 hB2 hR2
      go_wp2_with fail
      refine (matches_any _).mono ?_
      rintro e w3 ⟨rfl, hb⟩
      go_wp2_with fail
      go_ret
      exact ⟨rfl, HBel.out.trans (hb.mono HBel.out.size)⟩
end Go.Proofs.Ytgfjbbjdkmgdjaa.L
