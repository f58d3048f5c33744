/- The walk of InputsCuts. -/
import Derived.Test.YtmkmggbafboelaaOnce
namespace Go.Proofs.Ytmkmggbafboelaa
open Go.RowKit
def mxN (x y : Nat) : Nat := max x y
def mnN (x y : Nat) : Nat := min x y
theorem max2_nat (k k' : IntKind) (x y : Nat) : Builtin.max2 (.int k (x : Int)) (.int k' (y : Int)) = pure (.int k ((mxN x y : Nat) : Int)) := by
  simp only [Builtin.max2, gt_iff_lt]
  congr 2
  unfold mxN
  split <;> omega
theorem min2_nat (k k' : IntKind) (x y : Nat) : Builtin.min2 (.int k (x : Int)) (.int k' (y : Int)) = pure (.int k ((mnN x y : Nat) : Int)) := by
  simp only [Builtin.min2]
  congr 2
  unfold mnN
  split <;> omega
theorem max_two' (ats : Array TypeId) (ty : TypeId) (a b : Value) : Builtin.max_ ats ty #[a, b] = (Builtin.max2 a b >>= fun s => pure s) := by simp only [Builtin.max_, List.foldlM_cons, List.foldlM_nil]
theorem min_two' (ats : Array TypeId) (ty : TypeId) (a b : Value) : Builtin.min_ ats ty #[a, b] = (Builtin.min2 a b >>= fun s => pure s) := by simp only [Builtin.min_, List.foldlM_cons, List.foldlM_nil]
attribute [local go_sem] max2_nat min2_nat max_two' min_two'
theorem putS_take (l : List Ev) (k : Nat) (h : k < l.length) : putS (l.take (min k 16)) 0 l[k] = l.take (min (k + 1) 16) := by
  have hl : (l.take (min k 16)).length = min k 16 := by rw [List.length_take]; omega
  by_cases hf : (l.take (min k 16)).length - 0 = 16
  · rw [(put_full' hf l[k]).2.2, show min k 16 = 16 by omega, show min (k + 1) 16 = 16 by omega]
  · rw [(put_free hf l[k]).2.2, show min k 16 = k by omega, show min (k + 1) 16 = k + 1 by omega, take_next l k h]
theorem drop_low {AL : List Ev} {gone x : Nat} (h : x ≤ AL.length) : dropE AL (x : Int) = 0 ∧ dropS AL gone (x : Int) = max gone x := by
  unfold dropE dropS
  rw [if_neg (by omega), if_neg (by omega)]
  exact ⟨rfl, by simp⟩
set_option maxRecDepth 100000 in
set_option maxHeartbeats 1000000 in
theorem cuts_any (A : Option Addr) (c : Nat) (l : List Ev) (a1 a2 : Int) (w : World) (hr : Reads w w.heap.size 4 A l.length (l.flatMap Ev.cs)) (hc : c ≤ maxLen) (hlc : l.length ≤ c) (ha0 : 0 ≤ a1) (ha1 : a1 < 256) (hb0 : 0 ≤ a2) (hb1 : a2 < 256) :
    Calls Try.prog 8 #[.slice A l.length c, .int .u8 a1, .int .u8 a2] w fun en w' => en = .returned (.bool true) ∧ Below w.heap.size w w' := by
  have hz1 := fun w => zero31 w
  have HR := Lib.hid hr
  unfold maxLen at hc
  obtain ⟨N, hN⟩ : ∃ N, l.length = N := ⟨_, rfl⟩
  rw [hN] at hlc
  have HN := Lib.hid hN
  clear hr
  rw [hN]
  clear hN
  by_cases hbig : 60 < N
  · have hb : decide ((60 : Int) < (N : Int)) = true := decide_eq_true (by omega)
    go_enter Try.func8, Try.ntmps8
    go_wp2_with fail
    go_ret
    exact ⟨rfl, Below.refl _ _⟩
  have hb : decide ((60 : Int) < (N : Int)) = false := decide_eq_false (by omega)
  go_enter Try.func8, Try.ntmps8
  go_upto_region 4 with (fail)
  obtain ⟨W1, hW, hS⟩ := (Sep.start w).newQ
  rw [hW]
  have hs1 : w.heap.size + 1 = W1.heap.size := by rw [← hW, World.size_alloc]
  rw [hs1]
  clear hW hs1
  obtain ⟨W2, hW, hS⟩ := hS.newQ
  rw [hW]
  clear hW hz1
  generalize W1.heap.size = gq at hS ⊢
  generalize e2 : w.heap.size = gp at hS ⊢
  have H2 := Lib.hid e2
  clear e2
  go_wp2_with fail
  go_loopw [9] (fun p wr => ∃ (k : Nat), k ≤ N ∧ p = .int .i64 (k : Int) ∧ Sep w wr [QAt gq (l.take (min k 16)) 0, QAt gp (l.take (min k 16)) 0]) (fun p _ => N - (intOf p).toNat)
  case atStart => exact ⟨0, Nat.zero_le _, rfl, hS⟩
  case round =>
    clear hS
    obtain ⟨k, hk, rfl, hS⟩ := hrel
    by_cases hlt : k < N
    · have hlt' : (k : Int) < (N : Int) := by omega
      have hkl : k < l.length := by have := HN.out; omega
      obtain ⟨b, o, rfl, hbB, hcell0⟩ := (HR.out.elem (cells := Ev.cs) (fun _ => rfl) (by decide) hkl)
      have hput := putS_take l k hkl
      have hAl : (l.take (min k 16)).length + 1 < 4294967295 := by rw [List.length_take]; omega
      have HAl := Lib.hid hAl
      obtain ⟨e, hla⟩ : ∃ e, l[k] = e := ⟨_, rfl⟩
      rw [hla] at hcell0 hput
      have Hput := Lib.hid hput
      have HC := Lib.hid (fun (w' : World) (hb : Below w.heap.size w w') (j : Nat) (u : Value) (hu : e.cs[j]? = some u) => (hb.cell (p := ⟨b, o + k * 4 + j, none⟩) hbB).trans (hcell0 j u hu))
      have s3 : (k : Int).toNat = k := rfl
      have s4 : (0 : Int) ≤ (k : Int) := by omega
      clear hla hcell0 hkl hput hAl
      obtain ⟨AL, hAL⟩ : ∃ AL, l.take (min k 16) = AL := ⟨_, rfl⟩
      rw [hAL] at hS HAl Hput
      clear hAL
      have f0 : wr.cell? ⟨b, o + k * 4, none⟩ = some (.int .u8 e.k) := HC.out wr hS.below 0 _ rfl
      have f1 : wr.cell? ⟨b, o + k * 4 + 1, none⟩ = some (.int .u16 e.x) := HC.out wr hS.below 1 _ rfl
      have f2 : wr.cell? ⟨b, o + k * 4 + 2, none⟩ = some (.int .u16 e.y) := HC.out wr hS.below 2 _ rfl
      have f3 : wr.cell? ⟨b, o + k * 4 + 3, none⟩ = some (.int .u32 e.c) := HC.out wr hS.below 3 _ rfl
      go_wp2_with fail
      refine (put_any e 1 rfl hS HAl.out).mono ?_
      rw [Hput.out]
      rintro en w1 ⟨rfl, hS⟩
      clear f0 f1 f2 f3
      have f0 : w1.cell? ⟨b, o + k * 4, none⟩ = some (.int .u8 e.k) := HC.out w1 hS.below 0 _ rfl
      have f1 : w1.cell? ⟨b, o + k * 4 + 1, none⟩ = some (.int .u16 e.x) := HC.out w1 hS.below 1 _ rfl
      have f2 : w1.cell? ⟨b, o + k * 4 + 2, none⟩ = some (.int .u16 e.y) := HC.out w1 hS.below 2 _ rfl
      have f3 : w1.cell? ⟨b, o + k * 4 + 3, none⟩ = some (.int .u32 e.c) := HC.out w1 hS.below 3 _ rfl
      go_wp2_with fail
      refine (put_any e 0 rfl hS HAl.out).mono ?_
      rw [Hput.out]
      rintro en w2 ⟨rfl, hS⟩
      clear f0 f1 f2 f3
      go_wp2_with fail
      go_roundw
      case measure => simp [intOf]; omega
      case rel => exact ⟨k + 1, hlt, by go_num, hS⟩
    · obtain rfl : k = N := by omega
      have hlt' : decide ((k : Int) < (k : Int)) = false := decide_eq_false (by omega)
      obtain ⟨AL, hAL⟩ : ∃ AL, l.take (min k 16) = AL := ⟨_, rfl⟩
      obtain ⟨n, hn⟩ : ∃ n, min k 16 = n := ⟨_, rfl⟩
      have hnl : AL.length = n := by rw [← hAL, List.length_take, HN.out]; omega
      have hn16 : n ≤ 16 := by omega
      have HAL := Lib.hid hAL
      have Hn := Lib.hid hn
      have Hnl := Lib.hid hnl
      rw [hAL] at hS
      clear hAL hn hnl
      obtain ⟨x, hx⟩ : ∃ x : Nat, a1.tmod ((n : Int) + 1) = (x : Int) := ⟨(a1.tmod ((n : Int) + 1)).toNat, by have := Int.tmod_nonneg ((n : Int) + 1) ha0; omega⟩
      obtain ⟨y, hy⟩ : ∃ y : Nat, a2.tmod ((n : Int) + 1) = (y : Int) := ⟨(a2.tmod ((n : Int) + 1)).toNat, by have := Int.tmod_nonneg ((n : Int) + 1) hb0; omega⟩
      have hxn : x ≤ n := by have := Int.tmod_lt_of_pos a1 (b := (n : Int) + 1) (by omega); omega
      have hyn : y ≤ n := by have := Int.tmod_lt_of_pos a2 (b := (n : Int) + 1) (by omega); omega
      have hx2 : a1 % ((n : Int) + 1) = (x : Int) := by rw [← Int.tmod_eq_emod_of_nonneg ha0]; exact hx
      have hy2 : a2 % ((n : Int) + 1) = (y : Int) := by rw [← Int.tmod_eq_emod_of_nonneg hb0]; exact hy
      have c1 : IntKind.u32.wrap a1 = a1 := by simp [IntKind.wrap, IntKind.signed, IntKind.bits]; omega
      have c2 : IntKind.u32.wrap a2 = a2 := by simp [IntKind.wrap, IntKind.signed, IntKind.bits]; omega
      have c3 : IntKind.u32.wrap ((n : Int) + 1) = (n : Int) + 1 := by simp [IntKind.wrap, IntKind.signed, IntKind.bits]; omega
      have c4 : ((n : Int) + 1 == 0) = false := by rw [beq_eq_false_iff_ne]; omega
      have c5 : ¬ (n : Int) + 1 = 0 := by omega
      go_wp2_with fail
      refine (given_any 1 rfl hS).mono ?_
      rw [Hnl.out]
      rintro en w1 ⟨rfl, rfl⟩
      go_upto_region 10 with (fail)
      go_quiet (fail)
      replace hS := hS.drewN nq
      clear hx hy hx2 hy2 c1 c2 c3 c4 c5
      generalize wr.drewN nq = W3 at hS ⊢
      go_wp2_with fail
      obtain ⟨M, hM⟩ : ∃ M, max x y = M := ⟨_, rfl⟩
      obtain ⟨m, hm⟩ : ∃ m, min x y = m := ⟨_, rfl⟩
      have hmx : mxN x y = M := hM
      have hmn : mnN x y = m := hm
      have hMn : M ≤ n := by omega
      have hmM : m ≤ M := by omega
      have hAn := Hnl.out
      have d1 := Lib.hid (drop_low (AL := AL) (gone := 0) (x := x) (by omega))
      have d2 := Lib.hid (drop_low (AL := AL) (gone := max 0 x) (x := y) (by omega))
      have d3 := Lib.hid (drop_low (AL := AL) (gone := 0) (x := M) (by omega))
      have d4 := Lib.hid (drop_low (AL := AL) (gone := max 0 M) (x := m) (by omega))
      have s1 : Hid (max (max 0 x) y = M) := Lib.hid (by omega)
      have s2 : Hid (max (max 0 M) m = M) := Lib.hid (by omega)
      clear hM hm hAn
      refine (drop_any (x : Int) (by omega) 1 rfl hS).mono ?_
      rw [d1.out.1, d1.out.2]
      rintro en w4 ⟨rfl, hS⟩
      go_wp2_with fail
      refine (drop_any (y : Int) (by omega) 1 rfl hS).mono ?_
      rw [d2.out.1, d2.out.2, s1.out]
      rintro en w5 ⟨rfl, hS⟩
      go_wp2_with fail
      refine (drop_any (M : Int) (by omega) 0 rfl hS).mono ?_
      rw [d3.out.1, d3.out.2]
      rintro en w6 ⟨rfl, hS⟩
      go_wp2_with fail
      refine (drop_any (m : Int) (by omega) 0 rfl hS).mono ?_
      rw [d4.out.1, d4.out.2, s2.out]
      rintro en w7 ⟨rfl, hS⟩
      replace hS : Sep w w7 [QAt gq AL M, QAt gp AL M] := hS
      have hAb : AL.length < 4294967280 := by have := Hnl.out; omega
      have HAb := Lib.hid hAb
      clear hAb
      go_wp2_with fail
      refine (rest_any 1 rfl hS HAb.out).mono ?_
      rintro en w8 ⟨vc, rfl, hS⟩
      go_wp2_with fail
      refine (rest_any 1 rfl hS HAb.out).mono ?_
      rintro en w9 ⟨vd, rfl, hS⟩
      replace hS : Sep w w9 [NumRow vd (restL AL M), NumRow vc (restL AL M), QAt gq AL M, QAt gp AL M] := hS
      obtain ⟨d, hd⟩ : ∃ d, n - M = d := ⟨_, rfl⟩
      have hrl : (restL AL M).length = d := by rw [restL_len, Hnl.out]; exact hd
      obtain ⟨aD, cD, hvD, -, -⟩ := own_slice (hS.own 0 rfl)
      obtain ⟨aC, cC, hvC, -, -⟩ := own_slice (hS.own 1 rfl)
      rw [hrl] at hvC hvD
      subst hvC; subst hvD
      have t1 : IntKind.u32.wrap ((n : Int) - (M : Int)) = (d : Int) := by simp [IntKind.wrap, IntKind.signed, IntKind.bits]; omega
      have t2 : IntKind.i64.wrap (d : Int) = (d : Int) := IntWalk.i64_in _ (by omega)
      have hd16 : d ≤ 16 := by omega
      have Hd := Lib.hid hd
      have Hrl := Lib.hid hrl
      have hlm : Hid (AL.length - M = d) := Lib.hid (by rw [Hnl.out]; exact hd)
      clear hd hrl
      go_wp2_with fail
      refine (len_any 3 rfl hS (by have := HAb.out; omega)).mono ?_
      rw [hlm.out]
      rintro en w10 ⟨rfl, hS⟩
      go_wp2_with fail
      go_loopw [15] (fun p wx => ∃ q : Nat, q ≤ d ∧ p = .int .i64 (q : Int) ∧ Sep w wx [NumRow (.slice aD d cD) (restL AL M), NumRow (.slice aC d cC) (restL AL M), QAt gq AL M, QAt gp AL M]) (fun p _ => d - (intOf p).toNat)
      case atStart => exact ⟨0, Nat.zero_le _, rfl, hS⟩
      case round =>
        clear hS
        obtain ⟨q, hq, rfl, hS⟩ := hrel
        by_cases hqd : q < d
        · have hqd' : (q : Int) < (d : Int) := by omega
          have hj : M + q < AL.length := by have := Hd.out; have := Hnl.out; omega
          obtain ⟨p, hp⟩ : ∃ p, M + q = p := ⟨_, rfl⟩
          have hpl : p < l.length := by have := Hd.out; have := Hn.out; rw [HN.out]; omega
          have hpk : (p : Int) < (k : Int) := by have := HN.out; omega
          obtain ⟨e, he⟩ : ∃ e, AL[M + q] = e := ⟨_, rfl⟩
          have hel : l[p] = e := by
            have h1 : AL[M + q]? = some e := by rw [List.getElem?_eq_getElem hj, he]
            rw [← HAL.out, List.getElem?_take_of_lt (by have := Hd.out; have := Hn.out; omega), hp, List.getElem?_eq_getElem hpl] at h1
            exact Option.some.inj h1
          obtain ⟨b, o, rfl, hbB, hcell0⟩ := (HR.out.elem (cells := Ev.cs) (fun _ => rfl) (by decide) hpl)
          rw [hel] at hcell0
          obtain ⟨b2, c2, hv2, -, hcc⟩ := own_cells (hS.own 0 rfl) (by rw [Hrl.out]; omega)
          injection hv2 with hv3 hv4 hv5
          subst hv3
          clear hv4 hv5
          obtain ⟨b3, c3, hv2, -, hcd⟩ := own_cells (hS.own 1 rfl) (by rw [Hrl.out]; omega)
          injection hv2 with hv3 hv4 hv5
          subst hv3
          clear hv4 hv5
          have hge := numsC_get (restL AL M) q (by rw [Hrl.out]; exact hqd)
          have hgq2 : (restL AL M)[q]'(by rw [Hrl.out]; exact hqd) = ((p : Int) + 1, e) := by
            have h := restL_get AL M q hj
            rw [List.getElem?_eq_getElem (by rw [Hrl.out]; exact hqd), he, hp] at h
            exact Option.some.inj h
          rw [hgq2] at hge
          have f0 : wr.cell? ⟨b2, q * 5, none⟩ = some (.int .u32 ((p : Int) + 1)) := hcc _ _ (hge 0 _ rfl)
          have g0 : wr.cell? ⟨b3, q * 5, none⟩ = some (.int .u32 ((p : Int) + 1)) := hcd _ _ (hge 0 _ rfl)
          have f1 : wr.cell? ⟨b2, q * 5 + 1, none⟩ = some (.int .u8 e.k) := hcc _ _ (hge 1 _ rfl)
          have g1 : wr.cell? ⟨b3, q * 5 + 1, none⟩ = some (.int .u8 e.k) := hcd _ _ (hge 1 _ rfl)
          have f2 : wr.cell? ⟨b2, q * 5 + 2, none⟩ = some (.int .u16 e.x) := hcc _ _ (hge 2 _ rfl)
          have g2 : wr.cell? ⟨b3, q * 5 + 2, none⟩ = some (.int .u16 e.x) := hcd _ _ (hge 2 _ rfl)
          have f3 : wr.cell? ⟨b2, q * 5 + 3, none⟩ = some (.int .u16 e.y) := hcc _ _ (hge 3 _ rfl)
          have g3 : wr.cell? ⟨b3, q * 5 + 3, none⟩ = some (.int .u16 e.y) := hcd _ _ (hge 3 _ rfl)
          have f4 : wr.cell? ⟨b2, q * 5 + 4, none⟩ = some (.int .u32 e.c) := hcc _ _ (hge 4 _ rfl)
          have g4 : wr.cell? ⟨b3, q * 5 + 4, none⟩ = some (.int .u32 e.c) := hcd _ _ (hge 4 _ rfl)
          have h0 : wr.cell? ⟨b, o + p * 4, none⟩ = some (.int .u8 e.k) := (hS.below.cell (p := ⟨b, o + p * 4 + 0, none⟩) hbB).trans (hcell0 0 _ rfl)
          have h1 : wr.cell? ⟨b, o + p * 4 + 1, none⟩ = some (.int .u16 e.x) := (hS.below.cell (p := ⟨b, o + p * 4 + 1, none⟩) hbB).trans (hcell0 1 _ rfl)
          have h2 : wr.cell? ⟨b, o + p * 4 + 2, none⟩ = some (.int .u16 e.y) := (hS.below.cell (p := ⟨b, o + p * 4 + 2, none⟩) hbB).trans (hcell0 2 _ rfl)
          have h3 : wr.cell? ⟨b, o + p * 4 + 3, none⟩ = some (.int .u32 e.c) := (hS.below.cell (p := ⟨b, o + p * 4 + 3, none⟩) hbB).trans (hcell0 3 _ rfl)
          have G2 : wr.cell? ⟨b3, q * 5 + 1 + 1, none⟩ = some (.int .u16 e.x) := g2
          have G3 : wr.cell? ⟨b3, q * 5 + 1 + 2, none⟩ = some (.int .u16 e.y) := g3
          have G4 : wr.cell? ⟨b3, q * 5 + 1 + 3, none⟩ = some (.int .u32 e.c) := g4
          have t3 : (q : Int).toNat = q := rfl
          have t4 : (0 : Int) ≤ (q : Int) := by omega
          have t5 : (p : Int).toNat = p := rfl
          have t6 : (0 : Int) ≤ (p : Int) := by omega
          have t7 : IntKind.u32.wrap ((p : Int) + 1 - 1) = (p : Int) := by simp [IntKind.wrap, IntKind.signed, IntKind.bits]; omega
          have t8 : IntKind.u32.wrap (p : Int) = (p : Int) := by simp [IntKind.wrap, IntKind.signed, IntKind.bits]; omega
          clear he hel hp hcell0 hcc hcd hge hgq2
          go_upto_region 19 with (fail)
          go_quiet (fail)
          clear f0 f1 f2 f3 f4 g0 g1 g2 g3 g4 h0 h1 h2 h3 t3 t4 t5 t6 t7 t8 G2 G3 G4
          go_wp2_with fail
          exact ⟨⟨q + 1, hqd, by go_num, hS.drewN nq⟩, by simp [intOf]; omega⟩
        · have hqd' : decide ((q : Int) < (d : Int)) = false := decide_eq_false (by omega)
          go_wp2_with fail
          refine (given_any 3 rfl hS).mono ?_
          rw [Hnl.out]
          rintro en w11 ⟨rfl, rfl⟩
          go_wp2_with fail
          refine (keeps_any _).mono ?_
          rintro en w13 ⟨rfl, hb⟩
          replace hS := hS.grow hb
          clear hb
          go_wp2_with fail
          go_ret
          exact ⟨rfl, H2.out ▸ hS.below⟩
end Go.Proofs.Ytmkmggbafboelaa
