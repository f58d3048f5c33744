/- The walk of InputsAll. -/
import Derived.Test.YtmkmggbafboelaaOnce
namespace Go.Proofs.Ytmkmggbafboelaa
open Go.RowKit
set_option maxRecDepth 100000 in
set_option maxHeartbeats 1000000 in
theorem all_any (A : Option Addr) (c : Nat) (l : List St) (w : World) (hr : Reads w w.heap.size 6 A l.length (l.flatMap St.cs)) (hc : c ≤ maxLen) (hlc : l.length ≤ c) :
    Calls Try.prog 4 #[.slice A l.length c] w fun en w' => en = .returned (.bool true) ∧ Below w.heap.size w w' := by
  have hz1 := fun w => zero31 w
  have hz2 := fun w => zero33 w
  have HR := Lib.hid hr
  unfold maxLen at hc
  obtain ⟨N, hN⟩ : ∃ N, l.length = N := ⟨_, rfl⟩
  rw [hN] at hlc
  have HN := Lib.hid hN
  clear hr
  rw [hN]
  clear hN
  by_cases hbig : 300 < N
  · have hb : decide ((300 : Int) < (N : Int)) = true := decide_eq_true (by omega)
    go_enter Try.func4, Try.ntmps4
    go_wp2_with fail
    go_ret
    exact ⟨rfl, Below.refl _ _⟩
  have hb : decide ((300 : Int) < (N : Int)) = false := decide_eq_false (by omega)
  go_enter Try.func4, Try.ntmps4
  go_upto_region 5 with (fail)
  obtain ⟨W1, hW, hS⟩ := (Sep.start w).newQ
  rw [hW]
  have hs1 : w.heap.size + 1 = W1.heap.size := by rw [← hW, World.size_alloc]
  rw [hs1]
  clear hW hz1 hz2 hs1
  obtain ⟨W2, hW, hS⟩ := hS.newG
  rw [hW]
  clear hW
  generalize W1.heap.size = gg at hS ⊢
  generalize e2 : w.heap.size = gq at hS ⊢
  have H2 := Lib.hid e2
  clear e2
  go_wp2_with fail
  go_loopw [5, 6] (fun pp p wr => ∃ (k gone : Nat) (all : List Ev), k ≤ N ∧ p = .int .i64 (k : Int) ∧ pp = .int .i64 (all.length : Int) ∧ Sep w wr [GAt gg gone, QAt gq all gone] ∧ all.length ≤ k ∧ gone ≤ all.length ∧ all.length ≤ gone + 16 ∧ (N ≤ k → gone = all.length)) (fun _ p _ => N - (intOf p).toNat)
  case atStart => exact ⟨0, 0, [], Nat.zero_le _, rfl, rfl, hS, Nat.le_refl _, Nat.le_refl _, by simp, fun _ => rfl⟩
  case round =>
    clear hS
    obtain ⟨k, gone, all, hk, rfl, rfl, hS, ha, hga, hroom, hend⟩ := hrel
    by_cases hlt : k < N
    · have hlt' : (k : Int) < (N : Int) := by omega
      have hkl : k < l.length := by have := HN.out; omega
      obtain ⟨b, o, rfl, hbB, hcell0⟩ := (HR.out.elem (cells := St.cs) (fun _ => rfl) (by decide) hkl)
      obtain ⟨a, hla⟩ : ∃ a, l[k] = a := ⟨_, rfl⟩
      rw [hla] at hcell0
      have r2 : wr.cell? ⟨b, o + k * 6 + 2, none⟩ = some (.int .u8 a.e.k) := (hS.below.cell (p := ⟨b, o + k * 6 + 2, none⟩) hbB).trans (hcell0 2 _ rfl)
      have r3 : wr.cell? ⟨b, o + k * 6 + 2 + 1, none⟩ = some (.int .u16 a.e.x) := (hS.below.cell (p := ⟨b, o + k * 6 + 3, none⟩) hbB).trans (hcell0 3 _ rfl)
      have r4 : wr.cell? ⟨b, o + k * 6 + 2 + 2, none⟩ = some (.int .u16 a.e.y) := (hS.below.cell (p := ⟨b, o + k * 6 + 4, none⟩) hbB).trans (hcell0 4 _ rfl)
      have r5 : wr.cell? ⟨b, o + k * 6 + 2 + 3, none⟩ = some (.int .u32 a.e.c) := (hS.below.cell (p := ⟨b, o + k * 6 + 5, none⟩) hbB).trans (hcell0 5 _ rfl)
      have s3 : (k : Int).toNat = k := rfl
      have s4 : (0 : Int) ≤ (k : Int) := by omega
      clear hla hcell0 hkl hend
      by_cases hf : all.length - gone = 16
      · obtain ⟨q1, q2, q3⟩ := put_full' hf a.e
        have Q1 := Lib.hid q1
        have Q2 := Lib.hid q2
        have Q3 := Lib.hid q3
        clear q1 q2 q3
        go_wp2_with fail
        refine (put_any a.e 1 rfl hS (by omega)).mono ?_
        rw [Q1.out, Q2.out, Q3.out]
        rintro en w1 ⟨rfl, hS⟩
        clear r2 r3 r4 r5
        replace hS : Sep w w1 [GAt gg gone, QAt gq all gone] := hS
        have hrl := restL_len (all) gone
        have Hrl := Lib.hid hrl
        clear hrl
        go_wp2_with fail
        refine (rest_any 1 rfl hS (by omega)).mono ?_
        rintro en w2 ⟨v, rfl, hS⟩
        replace hS : Sep w w2 [NumRow v (restL (all) gone), GAt gg gone, QAt gq (all) gone] := hS
        obtain ⟨d, hd⟩ : ∃ d, (all).length - gone = d := ⟨_, rfl⟩
        have hda : gone + d = (all).length := by rw [← hd]; omega
        have hd1 : d ≤ 1000 := by rw [← hd]; omega
        have Hd := Lib.hid hd
        have Hda := Lib.hid hda
        clear hd hda
        obtain ⟨av, cv, hv, -, -⟩ := own_slice (hS.own 0 rfl)
        rw [Hrl.out, Hd.out] at hv
        subst hv
        go_wp2_with fail
        go_loopw [10] (fun p wx => ∃ (q : Nat), q ≤ d ∧ p = .int .i64 (q : Int) ∧ Sep w wx [NumRow (.slice av d cv) (restL (all) gone), GAt gg (gone + q), QAt gq (all) gone]) (fun p _ => d - (intOf p).toNat)
        case atStart => exact ⟨0, Nat.zero_le _, rfl, hS⟩
        case round =>
          clear hS
          obtain ⟨q, hqd0, rfl, hS⟩ := hrel
          by_cases hqd : q < d
          · have hqd' : (q : Int) < (d : Int) := by omega
            have hj : gone + q < (all).length := by have := Hda.out; omega
            obtain ⟨e, he⟩ : ∃ e, (all)[gone + q] = e := ⟨_, rfl⟩
            obtain ⟨sq, hsq⟩ : ∃ sq : Int, ((gone + q : Nat) : Int) + 1 = sq := ⟨_, rfl⟩
            obtain ⟨b2, c2, hv2, -, hcc⟩ := own_cells (hS.own 0 rfl) (by rw [Hrl.out, Hd.out]; omega)
            injection hv2 with hv3 hv4 hv5
            subst hv3
            clear hv4 hv5
            have hge := numsC_get (restL (all) gone) q (by rw [Hrl.out, Hd.out]; omega)
            have hgq2 : (restL (all) gone)[q]'(by rw [Hrl.out, Hd.out]; omega) = (sq, e) := by
              have h := restL_get (all) gone q hj
              rw [List.getElem?_eq_getElem (by rw [Hrl.out, Hd.out]; omega), he, hsq] at h
              exact Option.some.inj h
            rw [hgq2] at hge
            have f0 : wr.cell? ⟨b2, q * 5, none⟩ = some (.int .u32 sq) := hcc _ _ (hge 0 _ rfl)
            have f1 : wr.cell? ⟨b2, q * 5 + 1, none⟩ = some (.int .u8 e.k) := hcc _ _ (hge 1 _ rfl)
            have f2 : wr.cell? ⟨b2, q * 5 + 2, none⟩ = some (.int .u16 e.x) := hcc _ _ (hge 2 _ rfl)
            have f3 : wr.cell? ⟨b2, q * 5 + 3, none⟩ = some (.int .u16 e.y) := hcc _ _ (hge 3 _ rfl)
            have f4 : wr.cell? ⟨b2, q * 5 + 4, none⟩ = some (.int .u32 e.c) := hcc _ _ (hge 4 _ rfl)
            have t3 : (q : Int).toNat = q := rfl
            have t4 : (0 : Int) ≤ (q : Int) := by omega
            have hs2 : sq < 4294967296 := by have := Hda.out; have : (all).length ≤ 1000 := by omega
                                             omega
            have htb : Hid (takeB (gone + q) sq = true) := Lib.hid (decide_eq_true hsq.symm)
            have hte : Hid (takeE (gone + q) sq = 0) := Lib.hid (by unfold takeE; rw [if_neg (by omega)])
            clear he hsq hcc hge hgq2
            go_wp2_with fail
            refine (take_any sq e hs2 1 rfl hS).mono ?_
            rw [htb.out, hte.out]
            rintro en w3 ⟨rfl, hS⟩
            clear f0 f1 f2 f3 f4
            replace hS : Sep w w3 [NumRow (.slice (some ⟨b2, 0, none⟩) d cv) (restL (all) gone), GAt gg (gone + (q + 1)), QAt gq (all) gone] := hS
            go_wp2_with fail
            go_roundw
            case measure => simp [intOf]; omega
            case rel => exact ⟨q + 1, hqd, by go_num, hS⟩
          · obtain rfl : q = d := by omega
            have hqd' : decide ((q : Int) < (q : Int)) = false := decide_eq_false (by omega)
            have hde : Hid (dropE (all) ((gone + q : Nat) : Int) = 0) := Lib.hid (by unfold dropE; rw [if_neg (by have := Hda.out; omega)])
            have hds : Hid (dropS (all) gone ((gone + q : Nat) : Int) = (all).length) := Lib.hid (by unfold dropS; have := Hda.out; rw [if_neg (by omega)]; omega)
            have hl0 : Hid ((all).length - (all).length = 0) := Lib.hid (Nat.sub_self _)
            go_wp2_with fail
            refine (last_any 1 rfl hS).mono ?_
            rintro en w3 ⟨rfl, rfl⟩
            go_wp2_with fail
            refine (drop_any ((gone + q : Nat) : Int) (by omega) 2 rfl hS).mono ?_
            rw [hde.out, hds.out]
            rintro en w4 ⟨rfl, hS⟩
            go_wp2_with fail
            refine (len_any 2 rfl hS (by omega)).mono ?_
            rw [hl0.out]
            rintro en w5 ⟨rfl, hS⟩
            have hS6 : Sep w w5 [GAt gg (all).length, QAt gq (all) (all).length] := by
              have h := hS.tail
              rw [Hda.out] at h
              exact h
            go_wp2_with fail
            go_roundw
            case measure => simp [intOf]; omega
            case rel => exact ⟨k + 1, all.length, all, hlt, by go_num, rfl, hS6, by omega, Nat.le_refl _, by omega, fun _ => rfl⟩
      · obtain ⟨q1, q2, q3⟩ := put_free hf a.e
        have Q1 := Lib.hid q1
        have Q2 := Lib.hid q2
        have Q3 := Lib.hid q3
        clear q1 q2 q3
        go_wp2_with fail
        refine (put_any a.e 1 rfl hS (by omega)).mono ?_
        rw [Q1.out, Q2.out, Q3.out]
        rintro en w1 ⟨rfl, hS⟩
        clear r2 r3 r4 r5
        replace hS : Sep w w1 [GAt gg gone, QAt gq (all ++ [a.e]) gone] := hS
        have hlen : Hid ((all.length : Int) + 1 = ((all ++ [a.e]).length : Int)) := Lib.hid (by simp)
        by_cases hlast : k + 1 = N
        · have hl1 : ((k : Int) == (N : Int) - 1) = true := by rw [beq_iff_eq]; omega
          have Hlast := Lib.hid hlast
          clear hlast
          have hrl := restL_len (all ++ [a.e]) gone
          have Hrl := Lib.hid hrl
          clear hrl
          go_wp2_with fail
          refine (rest_any 1 rfl hS (by simp only [List.length_append, List.length_cons, List.length_nil]; omega)).mono ?_
          rintro en w2 ⟨v, rfl, hS⟩
          replace hS : Sep w w2 [NumRow v (restL (all ++ [a.e]) gone), GAt gg gone, QAt gq (all ++ [a.e]) gone] := hS
          obtain ⟨d, hd⟩ : ∃ d, (all ++ [a.e]).length - gone = d := ⟨_, rfl⟩
          have hda : gone + d = (all ++ [a.e]).length := by rw [← hd]; simp only [List.length_append, List.length_cons, List.length_nil]; omega
          have hd1 : d ≤ 1000 := by rw [← hd]; simp only [List.length_append, List.length_cons, List.length_nil]; omega
          have Hd := Lib.hid hd
          have Hda := Lib.hid hda
          clear hd hda
          obtain ⟨av, cv, hv, -, -⟩ := own_slice (hS.own 0 rfl)
          rw [Hrl.out, Hd.out] at hv
          subst hv
          go_wp2_with fail
          go_loopw [10] (fun p wx => ∃ (q : Nat), q ≤ d ∧ p = .int .i64 (q : Int) ∧ Sep w wx [NumRow (.slice av d cv) (restL (all ++ [a.e]) gone), GAt gg (gone + q), QAt gq (all ++ [a.e]) gone]) (fun p _ => d - (intOf p).toNat)
          case atStart => exact ⟨0, Nat.zero_le _, rfl, hS⟩
          case round =>
            clear hS
            obtain ⟨q, hqd0, rfl, hS⟩ := hrel
            by_cases hqd : q < d
            · have hqd' : (q : Int) < (d : Int) := by omega
              have hj : gone + q < (all ++ [a.e]).length := by have := Hda.out; omega
              obtain ⟨e, he⟩ : ∃ e, (all ++ [a.e])[gone + q] = e := ⟨_, rfl⟩
              obtain ⟨sq, hsq⟩ : ∃ sq : Int, ((gone + q : Nat) : Int) + 1 = sq := ⟨_, rfl⟩
              obtain ⟨b2, c2, hv2, -, hcc⟩ := own_cells (hS.own 0 rfl) (by rw [Hrl.out, Hd.out]; omega)
              injection hv2 with hv3 hv4 hv5
              subst hv3
              clear hv4 hv5
              have hge := numsC_get (restL (all ++ [a.e]) gone) q (by rw [Hrl.out, Hd.out]; omega)
              have hgq2 : (restL (all ++ [a.e]) gone)[q]'(by rw [Hrl.out, Hd.out]; omega) = (sq, e) := by
                have h := restL_get (all ++ [a.e]) gone q hj
                rw [List.getElem?_eq_getElem (by rw [Hrl.out, Hd.out]; omega), he, hsq] at h
                exact Option.some.inj h
              rw [hgq2] at hge
              have f0 : wr.cell? ⟨b2, q * 5, none⟩ = some (.int .u32 sq) := hcc _ _ (hge 0 _ rfl)
              have f1 : wr.cell? ⟨b2, q * 5 + 1, none⟩ = some (.int .u8 e.k) := hcc _ _ (hge 1 _ rfl)
              have f2 : wr.cell? ⟨b2, q * 5 + 2, none⟩ = some (.int .u16 e.x) := hcc _ _ (hge 2 _ rfl)
              have f3 : wr.cell? ⟨b2, q * 5 + 3, none⟩ = some (.int .u16 e.y) := hcc _ _ (hge 3 _ rfl)
              have f4 : wr.cell? ⟨b2, q * 5 + 4, none⟩ = some (.int .u32 e.c) := hcc _ _ (hge 4 _ rfl)
              have t3 : (q : Int).toNat = q := rfl
              have t4 : (0 : Int) ≤ (q : Int) := by omega
              have hs2 : sq < 4294967296 := by have := Hda.out; have : (all ++ [a.e]).length ≤ 1000 := by simp only [List.length_append, List.length_cons, List.length_nil]; omega
                                               omega
              have htb : Hid (takeB (gone + q) sq = true) := Lib.hid (decide_eq_true hsq.symm)
              have hte : Hid (takeE (gone + q) sq = 0) := Lib.hid (by unfold takeE; rw [if_neg (by omega)])
              clear he hsq hcc hge hgq2
              go_wp2_with fail
              refine (take_any sq e hs2 1 rfl hS).mono ?_
              rw [htb.out, hte.out]
              rintro en w3 ⟨rfl, hS⟩
              clear f0 f1 f2 f3 f4
              replace hS : Sep w w3 [NumRow (.slice (some ⟨b2, 0, none⟩) d cv) (restL (all ++ [a.e]) gone), GAt gg (gone + (q + 1)), QAt gq (all ++ [a.e]) gone] := hS
              go_wp2_with fail
              go_roundw
              case measure => simp [intOf]; omega
              case rel => exact ⟨q + 1, hqd, by go_num, hS⟩
            · obtain rfl : q = d := by omega
              have hqd' : decide ((q : Int) < (q : Int)) = false := decide_eq_false (by omega)
              have hde : Hid (dropE (all ++ [a.e]) ((gone + q : Nat) : Int) = 0) := Lib.hid (by unfold dropE; rw [if_neg (by have := Hda.out; omega)])
              have hds : Hid (dropS (all ++ [a.e]) gone ((gone + q : Nat) : Int) = (all ++ [a.e]).length) := Lib.hid (by unfold dropS; have := Hda.out; rw [if_neg (by omega)]; omega)
              have hl0 : Hid ((all ++ [a.e]).length - (all ++ [a.e]).length = 0) := Lib.hid (Nat.sub_self _)
              go_wp2_with fail
              refine (last_any 1 rfl hS).mono ?_
              rintro en w3 ⟨rfl, rfl⟩
              go_wp2_with fail
              refine (drop_any ((gone + q : Nat) : Int) (by omega) 2 rfl hS).mono ?_
              rw [hde.out, hds.out]
              rintro en w4 ⟨rfl, hS⟩
              go_wp2_with fail
              refine (len_any 2 rfl hS (by simp only [List.length_append, List.length_cons, List.length_nil]; omega)).mono ?_
              rw [hl0.out]
              rintro en w5 ⟨rfl, hS⟩
              have hS6 : Sep w w5 [GAt gg (all ++ [a.e]).length, QAt gq (all ++ [a.e]) (all ++ [a.e]).length] := by
                have h := hS.tail
                rw [Hda.out] at h
                exact h
              go_wp2_with fail
              go_roundw
              case measure => simp [intOf]; omega
              case rel => exact ⟨k + 1, (all ++ [a.e]).length, all ++ [a.e], hlt, by go_num, by rw [hlen.out], hS6, by simp; omega, Nat.le_refl _, by omega, fun _ => rfl⟩
        · have hl1 : ((k : Int) == (N : Int) - 1) = false := by rw [beq_eq_false_iff_ne]; omega
          go_wp2_with fail
          go_roundw
          case measure => simp [intOf]; omega
          case rel => exact ⟨k + 1, gone, all ++ [a.e], hlt, by go_num, by rw [hlen.out], hS, by simp; omega, by simp; omega, by simp; omega, fun h => by omega⟩
    · have hge := hend (by omega)
      subst hge
      have c1 : IntKind.i64.wrap (all.length : Int) = (all.length : Int) := IntWalk.i64_in _ (by omega)
      have hlt' : decide ((k : Int) < (N : Int)) = false := decide_eq_false (by omega)
      go_wp2_with fail
      refine (last_any 0 rfl hS).mono ?_
      rintro en w3 ⟨rfl, rfl⟩
      go_wp2_with fail
      refine (keeps_any _).mono ?_
      rintro en w13 ⟨rfl, hb⟩
      replace hS := hS.grow hb
      clear hb
      go_wp2_with fail
      go_ret
      exact ⟨rfl, H2.out ▸ hS.below⟩
end Go.Proofs.Ytmkmggbafboelaa
