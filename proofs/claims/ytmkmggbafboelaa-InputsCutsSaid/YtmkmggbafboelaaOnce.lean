/- The walk of InputsOnce. -/
import Derived.Test.YtmkmggbafboelaaKeeps
import Derived.Test.YtmkmggbafboelaaEvIn
import Derived.Deep.CutBlock
namespace Go.Proofs.Ytmkmggbafboelaa
open Go.RowKit
theorem put_free {all : List Ev} {gone : Nat} (h : ¬ all.length - gone = 16) (e : Ev) : putN all gone = (all.length : Int) + 1 ∧ putE all gone = 0 ∧ putS all gone e = all ++ [e] := by
  have hf : ¬ full all gone = true := fun k => h (of_decide_eq_true k)
  unfold putN putE putS
  rw [if_neg hf, if_neg hf, if_neg hf]
  exact ⟨rfl, rfl, rfl⟩
theorem put_full' {all : List Ev} {gone : Nat} (h : all.length - gone = 16) (e : Ev) : putN all gone = 0 ∧ putE all gone = 3 ∧ putS all gone e = all := by
  have hf : full all gone = true := decide_eq_true h
  unfold putN putE putS
  rw [if_pos hf, if_pos hf, if_pos hf]
  exact ⟨rfl, rfl, rfl⟩
theorem take_append_le {α : Type} (l : List α) (x : α) (m : Nat) (h : m ≤ l.length) : (l ++ [x]).take m = l.take m := by rw [List.take_append_of_le_length h]
theorem take_next {α : Type} (l : List α) (m : Nat) (h : m < l.length) : l.take (m + 1) = l.take m ++ [l[m]] := by rw [List.take_add_one, List.getElem?_eq_getElem h]; rfl
set_option maxRecDepth 100000 in
set_option maxHeartbeats 1000000 in
theorem once_any (A : Option Addr) (c : Nat) (l : List St) (w : World) (hr : Reads w w.heap.size 6 A l.length (l.flatMap St.cs)) (hok : ∀ x ∈ l, x.ok) (hc : c ≤ maxLen) (hlc : l.length ≤ c) :
    Calls Try.prog 3 #[.slice A l.length c] w fun en w' => en = .returned (.bool true) ∧ Below w.heap.size w w' := by
  have hz1 := fun w => zero31 w
  have hz2 := fun w => zero33 w
  have HR := Lib.hid hr
  unfold maxLen at hc
  obtain ⟨N, hN⟩ : ∃ N, l.length = N := ⟨_, rfl⟩
  rw [hN] at hlc
  have HN := Lib.hid hN
  clear hr
  rw [hN]
  clear hN
  by_cases hbig : 300 < N
  · have hb : decide ((300 : Int) < (N : Int)) = true := decide_eq_true (by omega)
    go_enter Try.func3, Try.ntmps3
    go_wp2_with fail
    go_ret
    exact ⟨rfl, Below.refl _ _⟩
  have hb : decide ((300 : Int) < (N : Int)) = false := decide_eq_false (by omega)
  obtain ⟨i26, hi, hz0, hz3, hz4⟩ := info_parts info26
  have hI := Lib.hid hi
  have Hz0 := Lib.hid hz0
  have Hz1 := Lib.hid hz3
  have Hz2 := Lib.hid hz4
  clear hi hz0 hz3 hz4
  go_enter Try.func3, Try.ntmps3
  go_upto_region 5 with (fail)
  obtain ⟨W1, hW, hS⟩ := (Sep.start w).newQ
  rw [hW]
  have hs1 : w.heap.size + 1 = W1.heap.size := by rw [← hW, World.size_alloc]
  rw [hs1]
  clear hW hz1 hz2 hs1
  obtain ⟨W2, hW, hS⟩ := hS.newG
  rw [hW]
  clear hW
  generalize W1.heap.size = gg at hS ⊢
  generalize e2 : w.heap.size = gq at hS ⊢
  have H2 := Lib.hid e2
  clear e2
  replace hS : Sep w W2 [EvRow (.slice none 0 0) [], EvRow (.slice none 0 0) [], GAt gg 0, QAt gq [] 0] := (hS.nilRowF 26 4).nilRowF 26 4
  go_wp2_with fail
  go_loopw [5, 6, 7] (fun vp vi p wr => ∃ (k gone m : Nat) (all : List Ev), k ≤ N ∧ p = .int .i64 (k : Int) ∧ Sep w wr [EvRow vi (all.take m), EvRow vp all, GAt gg m, QAt gq all gone] ∧ all.length ≤ k ∧ gone ≤ m ∧ m ≤ all.length ∧ all.length ≤ gone + 16) (fun _ _ p _ => N - (intOf p).toNat)
  case atStart => exact ⟨0, 0, 0, [], Nat.zero_le _, rfl, hS, Nat.le_refl _, Nat.le_refl _, Nat.le_refl _, by simp⟩
  case round =>
    clear hS
    obtain ⟨k, gone, m, all, hk, rfl, hS, ha, hgm, hma, hroom⟩ := hrel
    by_cases hlt : k < N
    · have hlt' : (k : Int) < (N : Int) := by omega
      have hkl : k < l.length := by have := HN.out; omega
      obtain ⟨b, o, rfl, hbB, hcell0⟩ := (HR.out.elem (cells := St.cs) (fun _ => rfl) (by decide) hkl)
      have hka := hok _ (List.getElem_mem hkl)
      obtain ⟨a, hla⟩ : ∃ a, l[k] = a := ⟨_, rfl⟩
      rw [hla] at hcell0 hka
      have HC := Lib.hid (fun (w' : World) (hb : Below w.heap.size w w') (j : Nat) (u : Value) (hu : a.cs[j]? = some u) => (hb.cell (p := ⟨b, o + k * 6 + j, none⟩) hbB).trans (hcell0 j u hu))
      have r0 : wr.cell? ⟨b, o + k * 6, none⟩ = some (.int .u8 a.d) := HC.out wr hS.below 0 _ rfl
      obtain ⟨⟨d1, d2⟩, n1, n2⟩ := hka
      have s3 : (k : Int).toNat = k := rfl
      have s4 : (0 : Int) ≤ (k : Int) := by omega
      clear hla hcell0 hkl
      go_upto_block 2 with (fail)
      clear r0
      generalize a.d % 3 = r
      go_cut [5, 6] (fun vp vi wx => ∃ (gone m : Nat) (all : List Ev), Sep w wx [EvRow vi (all.take m), EvRow vp all, GAt gg m, QAt gq all gone] ∧ all.length ≤ k + 1 ∧ gone ≤ m ∧ m ≤ all.length ∧ all.length ≤ gone + 16)
      case first =>
        have r1 : wr.cell? ⟨b, o + k * 6 + 1, none⟩ = some (.int .i64 a.n) := HC.out wr hS.below 1 _ rfl
        have r2 : wr.cell? ⟨b, o + k * 6 + 2, none⟩ = some (.int .u8 a.e.k) := HC.out wr hS.below 2 _ rfl
        have r3 : wr.cell? ⟨b, o + k * 6 + 2 + 1, none⟩ = some (.int .u16 a.e.x) := HC.out wr hS.below 3 _ rfl
        have r4 : wr.cell? ⟨b, o + k * 6 + 2 + 2, none⟩ = some (.int .u16 a.e.y) := HC.out wr hS.below 4 _ rfl
        have r5 : wr.cell? ⟨b, o + k * 6 + 2 + 3, none⟩ = some (.int .u32 a.e.c) := HC.out wr hS.below 5 _ rfl
        cases h0 : (r == 0) with
        | true =>
          by_cases hf : all.length - gone = 16
          · obtain ⟨q1, q2, q3⟩ := put_full' hf a.e
            have Q1 := Lib.hid q1
            have Q2 := Lib.hid q2
            have Q3 := Lib.hid q3
            have Hf := Lib.hid hf
            clear q1 q2 q3 hf
            go_wp2_with fail
            refine (put_any a.e 3 rfl hS (by omega)).mono ?_
            rw [Q1.out, Q2.out, Q3.out]
            rintro en w1 ⟨rfl, hS⟩
            clear r1 r2 r3 r4 r5
            replace hS : Sep w w1 [EvRow u6 (all.take m), EvRow u5 all, GAt gg m, QAt gq all gone] := hS
            go_wp2_with fail
            refine (len_any 3 rfl hS (by omega)).mono ?_
            rw [Hf.out]
            rintro en w2 ⟨rfl, hS⟩
            go_wp2_with fail
            go_meet
            exact ⟨gone, m, all, hS, by omega, hgm, hma, hroom⟩
          · obtain ⟨q1, q2, q3⟩ := put_free hf a.e
            have Q1 := Lib.hid q1
            have Q2 := Lib.hid q2
            have Q3 := Lib.hid q3
            clear q1 q2 q3
            go_wp2_with fail
            refine (put_any a.e 3 rfl hS (by omega)).mono ?_
            rw [Q1.out, Q2.out, Q3.out]
            rintro en w1 ⟨rfl, hS⟩
            clear r1 r2 r3 r4 r5
            replace hS : Sep w w1 [EvRow u6 (all.take m), EvRow u5 all, GAt gg m, QAt gq (all ++ [a.e]) gone] := hS
            have r2 : w1.cell? ⟨b, o + k * 6 + 2, none⟩ = some (.int .u8 a.e.k) := HC.out w1 hS.below 2 _ rfl
            have r3 : w1.cell? ⟨b, o + k * 6 + 2 + 1, none⟩ = some (.int .u16 a.e.x) := HC.out w1 hS.below 3 _ rfl
            have r4 : w1.cell? ⟨b, o + k * 6 + 2 + 2, none⟩ = some (.int .u16 a.e.y) := HC.out w1 hS.below 4 _ rfl
            have r5 : w1.cell? ⟨b, o + k * 6 + 2 + 3, none⟩ = some (.int .u32 a.e.c) := HC.out w1 hS.below 5 _ rfl
            have hS2 := hS.boxF 26 a.e.cs.toArray
            have hown := hS2.own 2 rfl
            have hnew := Reads.of_blk (n := 1) (size := 4) (Blk.new w1 26 a.e.cs.toArray) rfl
            have Hown := Lib.hid hown
            have Hm1 : Hid (all.length + 1 ≤ maxLen) := Lib.hid (by unfold maxLen; omega)
            have Hm2 : Hid ((all.length + 1) * 12 ≤ 140737488355328) := Lib.hid (by omega)
            have Hnew := Lib.hid hnew
            have HS2 := Lib.hid hS2
            have t1 : IntKind.u32.wrap ((all.length : Int) + 1) = (all.length : Int) + 1 := by simp [IntKind.wrap, IntKind.signed, IntKind.bits]; omega
            clear hown hnew hS2
            go_wp2_with (
              at_builtin
              refine wpList_append_any _ rfl (.tmp 72) (.tmp 78) 34 rfl 0 26 i26 _ 4 12 Try.underlying34 hI.out Hz0.out Hz1.out Hz2.out rfl (Nat.succ_pos 3) u5 all.length (evsC all) rfl Hown.out (w1.heap.size + 1) (some ⟨w1.heap.size, 0, none⟩) 1 1 a.e.cs rfl Hnew.out (ev_one a.e) Hm1.out Hm2.out (Nat.zero_le _) ?_
              intro v1 w3 hown3 hg3 hat3
              obtain ⟨a3, c3, rfl, -, -⟩ := own_slice hown3
              have hS3 := (HS2.out.pushed 2 rfl hown3 hg3 hat3).tail
              clear hown3 hg3 hat3 r2 r3 r4 r5)
            have hS4 : Sep w w3 [EvRow u6 ((all ++ [a.e]).take m), EvRow (.slice a3 (all.length + 1) c3) (all ++ [a.e]), GAt gg m, QAt gq (all ++ [a.e]) gone] := by
              rw [take_append_le all a.e m hma]
              unfold EvRow
              rw [List.length_append, evsC_snoc]
              exact hS3
            go_meet
            exact ⟨gone, m, all ++ [a.e], hS4, by simp; omega, hgm, by simp; omega, by simp; omega⟩
        | false =>
          cases h1 : (r == 1) with
          | true =>
            clear r1 r2 r3 r4 r5
            have hrl := restL_len all gone
            have Hrl := Lib.hid hrl
            clear hrl
            go_wp2_with fail
            refine (rest_any 3 rfl hS (by omega)).mono ?_
            rintro en w1 ⟨v, rfl, hS⟩
            replace hS : Sep w w1 [NumRow v (restL all gone), EvRow u6 (all.take m), EvRow u5 all, GAt gg m, QAt gq all gone] := hS
            obtain ⟨d, hd⟩ : ∃ d, all.length - gone = d := ⟨_, rfl⟩
            have Hd := Lib.hid hd
            clear hd
            obtain ⟨av, cv, hv, -, -⟩ := own_slice (hS.own 0 rfl)
            rw [Hrl.out, Hd.out] at hv
            subst hv
            go_wp2_with fail
            go_loopw [6, 11] (fun vi p wx => ∃ (q m2 : Nat), q ≤ d ∧ p = .int .i64 (q : Int) ∧ Sep w wx [NumRow (.slice av d cv) (restL all gone), EvRow vi (all.take m2), EvRow u5 all, GAt gg m2, QAt gq all gone] ∧ m ≤ m2 ∧ m2 ≤ all.length ∧ gone + q ≤ m2) (fun _ p _ => d - (intOf p).toNat)
            case atStart => exact ⟨0, m, Nat.zero_le _, rfl, hS, Nat.le_refl _, hma, hgm⟩
            case round =>
              clear hS
              obtain ⟨q, m2, hq, rfl, hS, hm2, hma2, hgq⟩ := hrel
              have r1 : wr.cell? ⟨b, o + k * 6 + 1, none⟩ = some (.int .i64 a.n) := HC.out wr hS.below 1 _ rfl
              by_cases hqd : q < d
              · have hqd' : (q : Int) < (d : Int) := by omega
                by_cases hqn : (q : Int) < a.n
                · have hj : gone + q < all.length := by have := Hd.out; omega
                  obtain ⟨e, he⟩ : ∃ e, all[gone + q] = e := ⟨_, rfl⟩
                  obtain ⟨sq, hsq⟩ : ∃ sq : Int, ((gone + q : Nat) : Int) + 1 = sq := ⟨_, rfl⟩
                  obtain ⟨b2, c2, hv2, -, hcc⟩ := own_cells (hS.own 0 rfl) (by rw [Hrl.out]; omega)
                  injection hv2 with hv3 hv4 hv5
                  subst hv3
                  clear hcc hv4 hv5
                  have hge := numsC_get (restL all gone) q (by rw [Hrl.out]; omega)
                  have hgq2 : (restL all gone)[q]'(by rw [Hrl.out]; omega) = (sq, e) := by
                    have h := restL_get all gone q hj
                    rw [List.getElem?_eq_getElem (by rw [Hrl.out]; omega), he, hsq] at h
                    exact Option.some.inj h
                  rw [hgq2] at hge
                  have HF : Hid (∀ (w' : World), w'.ownsRow 0 28 5 (.slice (some ⟨b2, 0, none⟩) d cv) (restL all gone).length (numsC (restL all gone)) → ∀ f u, (numCs sq e)[f]? = some u → w'.cell? ⟨b2, q * 5 + f, none⟩ = some u) := Lib.hid (by
                    intro w' ho f u hu
                    obtain ⟨b3, c3, hv, -, hcc⟩ := own_cells ho (by rw [Hrl.out]; omega)
                    injection hv with hv hv' hv''
                    injection hv with hv
                    injection hv with hv
                    subst hv
                    exact hcc _ _ (hge f u hu))
                  have t3 : (q : Int).toNat = q := rfl
                  have t4 : (0 : Int) ≤ (q : Int) := by omega
                  have hte : takeE m2 sq = 0 := by unfold takeE; rw [if_neg (by omega)]
                  have hs2 : sq < 4294967296 := by omega
                  have Hte := Lib.hid hte
                  have He := Lib.hid he
                  have Hsq := Lib.hid hsq
                  clear he hsq hge hgq2 hte
                  by_cases hnew : gone + q = m2
                  · have htb : Hid (takeB m2 sq = true) := Lib.hid (decide_eq_true (by rw [← Hsq.out, hnew]))
                    have Hnew := Lib.hid hnew
                    clear hnew
                    have f0 : wr.cell? ⟨b2, q * 5, none⟩ = some (.int .u32 sq) := HF.out wr (hS.own 0 rfl) 0 _ rfl
                    have f1 : wr.cell? ⟨b2, q * 5 + 1, none⟩ = some (.int .u8 e.k) := HF.out wr (hS.own 0 rfl) 1 _ rfl
                    have f2 : wr.cell? ⟨b2, q * 5 + 2, none⟩ = some (.int .u16 e.x) := HF.out wr (hS.own 0 rfl) 2 _ rfl
                    have f3 : wr.cell? ⟨b2, q * 5 + 3, none⟩ = some (.int .u16 e.y) := HF.out wr (hS.own 0 rfl) 3 _ rfl
                    have f4 : wr.cell? ⟨b2, q * 5 + 4, none⟩ = some (.int .u32 e.c) := HF.out wr (hS.own 0 rfl) 4 _ rfl
                    go_wp2_with fail
                    refine (take_any sq e hs2 3 rfl hS).mono ?_
                    rw [htb.out, Hte.out]
                    rintro en w2 ⟨rfl, hS⟩
                    clear f0 f1 f2 f3 f4 r1
                    replace hS : Sep w w2 [NumRow (.slice (some ⟨b2, 0, none⟩) d cv) (restL all gone), EvRow u6 (all.take m2), EvRow u5 all, GAt gg (m2 + 1), QAt gq all gone] := hS
                    have htl : (all.take m2).length = m2 := by rw [List.length_take]; omega
                    have hS2 := hS.boxF 26 e.cs.toArray
                    have hown := hS2.own 2 rfl
                    rw [htl] at hown
                    have hnew := Reads.of_blk (n := 1) (size := 4) (Blk.new w2 26 e.cs.toArray) rfl
                    have Hown := Lib.hid hown
                    have Hm1 : Hid (m2 + 1 ≤ maxLen) := Lib.hid (by unfold maxLen; omega)
                    have Hm2 : Hid ((m2 + 1) * 12 ≤ 140737488355328) := Lib.hid (by omega)
                    have Hnw := Lib.hid hnew
                    have HS2 := Lib.hid hS2
                    have Htl := Lib.hid htl
                    clear hown hnew hS2 htl
                    have f1 : w2.cell? ⟨b2, q * 5 + 1, none⟩ = some (.int .u8 e.k) := HF.out w2 (hS.own 0 rfl) 1 _ rfl
                    have f2 : w2.cell? ⟨b2, q * 5 + 1 + 1, none⟩ = some (.int .u16 e.x) := HF.out w2 (hS.own 0 rfl) 2 _ rfl
                    have f3 : w2.cell? ⟨b2, q * 5 + 1 + 2, none⟩ = some (.int .u16 e.y) := HF.out w2 (hS.own 0 rfl) 3 _ rfl
                    have f4 : w2.cell? ⟨b2, q * 5 + 1 + 3, none⟩ = some (.int .u32 e.c) := HF.out w2 (hS.own 0 rfl) 4 _ rfl
                    go_wp2_with (
                      at_builtin
                      refine wpList_append_any _ rfl (.tmp 130) (.tmp 136) 34 rfl 0 26 i26 _ 4 12 Try.underlying34 hI.out Hz0.out Hz1.out Hz2.out rfl (Nat.succ_pos 3) u6 m2 (evsC (all.take m2)) rfl Hown.out (w2.heap.size + 1) (some ⟨w2.heap.size, 0, none⟩) 1 1 e.cs rfl Hnw.out (ev_one e) Hm1.out Hm2.out (Nat.zero_le _) ?_
                      intro v1 w3 hown3 hg3 hat3
                      have hS3 := (HS2.out.pushed 2 rfl hown3 hg3 hat3).tail
                      clear hown3 hg3 hat3 f1 f2 f3 f4)
                    go_roundw
                    case measure => simp [intOf]; omega
                    case rel =>
                      have hm2l : m2 < all.length := by have := Hnew.out; omega
                      refine ⟨q + 1, m2 + 1, hqd, by go_num, ?_, by omega, by omega, by have := Hnew.out; omega⟩
                      have hme : all[m2] = e := by rw [← He.out]; congr 1; exact Hnew.out.symm
                      rw [take_next all m2 hm2l, hme]
                      unfold EvRow
                      rw [List.length_append, evsC_snoc, Htl.out]
                      exact hS3
                  · have htb : Hid (takeB m2 sq = false) := Lib.hid (decide_eq_false (by rw [← Hsq.out]; omega))
                    have f0 : wr.cell? ⟨b2, q * 5, none⟩ = some (.int .u32 sq) := HF.out wr (hS.own 0 rfl) 0 _ rfl
                    have f1 : wr.cell? ⟨b2, q * 5 + 1, none⟩ = some (.int .u8 e.k) := HF.out wr (hS.own 0 rfl) 1 _ rfl
                    have f2 : wr.cell? ⟨b2, q * 5 + 2, none⟩ = some (.int .u16 e.x) := HF.out wr (hS.own 0 rfl) 2 _ rfl
                    have f3 : wr.cell? ⟨b2, q * 5 + 3, none⟩ = some (.int .u16 e.y) := HF.out wr (hS.own 0 rfl) 3 _ rfl
                    have f4 : wr.cell? ⟨b2, q * 5 + 4, none⟩ = some (.int .u32 e.c) := HF.out wr (hS.own 0 rfl) 4 _ rfl
                    go_wp2_with fail
                    refine (take_any sq e hs2 3 rfl hS).mono ?_
                    rw [htb.out, Hte.out]
                    rintro en w2 ⟨rfl, hS⟩
                    clear f0 f1 f2 f3 f4 r1
                    replace hS : Sep w w2 [NumRow (.slice (some ⟨b2, 0, none⟩) d cv) (restL all gone), EvRow u6 (all.take m2), EvRow u5 all, GAt gg m2, QAt gq all gone] := hS
                    go_wp2_with fail
                    go_roundw
                    case measure => simp [intOf]; omega
                    case rel => exact ⟨q + 1, m2, hqd, by go_num, hS, hm2, hma2, by omega⟩
                · have hqn' : decide ((q : Int) < a.n) = false := decide_eq_false hqn
                  go_wp2_with fail
                  go_meet
                  exact ⟨gone, m2, all, hS.tail, by omega, by omega, hma2, hroom⟩
              · have hqd' : decide ((q : Int) < (d : Int)) = false := decide_eq_false (by omega)
                go_wp2_with fail
                go_meet
                exact ⟨gone, m2, all, hS.tail, by omega, by omega, hma2, hroom⟩
          | false =>
            go_wp2_with fail
            refine (last_any 2 rfl hS).mono ?_
            rintro en w1 ⟨rfl, rfl⟩
            have c1 : IntKind.i64.wrap (m : Int) = (m : Int) := IntWalk.i64_in _ (by omega)
            by_cases hn0 : 0 ≤ a.n
            · by_cases hnm : a.n ≤ (m : Int)
              · have hde : Hid (dropE all ((m : Int) - a.n) = 0) := Lib.hid (by unfold dropE; rw [if_neg (by omega)])
                have hds : Hid (dropS all gone ((m : Int) - a.n) ≤ m) := Lib.hid (by unfold dropS; rw [if_neg (by omega)]; omega)
                have hdr : Hid (all.length ≤ dropS all gone ((m : Int) - a.n) + 16) := Lib.hid (by unfold dropS; rw [if_neg (by omega)]; omega)
                have c2 : IntKind.u32.wrap a.n = a.n := by simp [IntKind.wrap, IntKind.signed, IntKind.bits]; omega
                have c3 : IntKind.u32.wrap ((m : Int) - a.n) = (m : Int) - a.n := by simp [IntKind.wrap, IntKind.signed, IntKind.bits]; omega
                go_wp2_with fail
                refine (drop_any ((m : Int) - a.n) (by omega) 3 rfl hS).mono ?_
                rw [hde.out]
                rintro en w2 ⟨rfl, hS⟩
                clear r1 r2 r3 r4 r5
                go_wp2_with fail
                go_meet
                exact ⟨dropS all gone ((m : Int) - a.n), m, all, hS, by omega, hds.out, hma, hdr.out⟩
              · have hde : Hid (dropE all ((m : Int)) = 0) := Lib.hid (by unfold dropE; rw [if_neg (by omega)])
                have hds : Hid (dropS all gone ((m : Int)) ≤ m) := Lib.hid (by unfold dropS; rw [if_neg (by omega)]; omega)
                have hdr : Hid (all.length ≤ dropS all gone ((m : Int)) + 16) := Lib.hid (by unfold dropS; rw [if_neg (by omega)]; omega)
                have hnm' : decide (a.n ≤ (m : Int)) = false := decide_eq_false hnm
                go_wp2_with fail
                refine (drop_any (m : Int) (by omega) 3 rfl hS).mono ?_
                rw [hde.out]
                rintro en w2 ⟨rfl, hS⟩
                clear r1 r2 r3 r4 r5
                go_wp2_with fail
                go_meet
                exact ⟨dropS all gone (m : Int), m, all, hS, by omega, hds.out, hma, hdr.out⟩
            · have hde : Hid (dropE all ((m : Int)) = 0) := Lib.hid (by unfold dropE; rw [if_neg (by omega)])
              have hds : Hid (dropS all gone ((m : Int)) ≤ m) := Lib.hid (by unfold dropS; rw [if_neg (by omega)]; omega)
              have hdr : Hid (all.length ≤ dropS all gone ((m : Int)) + 16) := Lib.hid (by unfold dropS; rw [if_neg (by omega)]; omega)
              have hn0' : decide (0 ≤ a.n) = false := decide_eq_false hn0
              go_wp2_with fail
              refine (drop_any (m : Int) (by omega) 3 rfl hS).mono ?_
              rw [hde.out]
              rintro en w2 ⟨rfl, hS⟩
              clear r1 r2 r3 r4 r5
              go_wp2_with fail
              go_meet
              exact ⟨dropS all gone (m : Int), m, all, hS, by omega, hds.out, hma, hdr.out⟩
      case rest =>
        clear hS
        obtain ⟨gone, m, all, hS, ha, hgm, hma, hroom⟩ := hcut
        have htl : (all.take m).length = m := by rw [List.length_take]; omega
        obtain ⟨a6, c6, hv6, -, -⟩ := own_slice (hS.own 0 rfl)
        rw [htl] at hv6
        obtain ⟨a5, c5, hv5, -, -⟩ := own_slice (hS.own 1 rfl)
        subst hv6; subst hv5
        have Htl := Lib.hid htl
        clear htl
        have c1 : IntKind.i64.wrap (m : Int) = (m : Int) := IntWalk.i64_in _ (by omega)
        have d1 : decide ((all.length : Int) < (m : Int)) = false := decide_eq_false (by omega)
        have d2 : decide ((16 : Int) < ((all.length - gone : Nat) : Int)) = false := decide_eq_false (by omega)
        go_wp2_with fail
        refine (last_any 2 rfl hS).mono ?_
        rintro en w1 ⟨rfl, rfl⟩
        go_wp2_with fail
        refine (len_any 3 rfl hS (by omega)).mono ?_
        rintro en w2 ⟨rfl, hS⟩
        go_wp2_with fail
        go_loopw [15] (fun p wx => ∃ q : Nat, q ≤ m ∧ p = .int .i64 (q : Int) ∧ Sep w wx [EvRow (.slice a6 m c6) (all.take m), EvRow (.slice a5 all.length c5) all, GAt gg m, QAt gq all gone]) (fun p _ => m - (intOf p).toNat)
        case atStart => exact ⟨0, Nat.zero_le _, rfl, hS⟩
        case round =>
          clear hS
          obtain ⟨q, hq, rfl, hS⟩ := hrel
          by_cases hqm : q < m
          · have hqm' : (q : Int) < (m : Int) := by omega
            have hqa : (q : Int) < (all.length : Int) := by omega
            have hql : q < all.length := by omega
            obtain ⟨b6, c6', hv, -, h6⟩ := own_cells (hS.own 0 rfl) (by rw [Htl.out]; omega)
            injection hv with hv hv2 hv3
            subst hv
            clear hv2 hv3
            obtain ⟨b5, c5', hv, -, h5⟩ := own_cells (hS.own 1 rfl) (by omega)
            injection hv with hv hv2 hv3
            subst hv
            clear hv2 hv3
            obtain ⟨e, he⟩ : ∃ e, all[q] = e := ⟨_, rfl⟩
            have hg5 := evsC_get all q hql
            have hg6 := evsC_get (all.take m) q (by rw [Htl.out]; exact hqm)
            rw [List.getElem_take, he] at hg6
            rw [he] at hg5
            have f0 : wr.cell? ⟨b6, q * 4, none⟩ = some (.int .u8 e.k) := h6 _ _ (hg6 0 _ rfl)
            have e0 : wr.cell? ⟨b5, q * 4, none⟩ = some (.int .u8 e.k) := h5 _ _ (hg5 0 _ rfl)
            have f1 : wr.cell? ⟨b6, q * 4 + 1, none⟩ = some (.int .u16 e.x) := h6 _ _ (hg6 1 _ rfl)
            have e1 : wr.cell? ⟨b5, q * 4 + 1, none⟩ = some (.int .u16 e.x) := h5 _ _ (hg5 1 _ rfl)
            have f2 : wr.cell? ⟨b6, q * 4 + 2, none⟩ = some (.int .u16 e.y) := h6 _ _ (hg6 2 _ rfl)
            have e2 : wr.cell? ⟨b5, q * 4 + 2, none⟩ = some (.int .u16 e.y) := h5 _ _ (hg5 2 _ rfl)
            have f3 : wr.cell? ⟨b6, q * 4 + 3, none⟩ = some (.int .u32 e.c) := h6 _ _ (hg6 3 _ rfl)
            have e3 : wr.cell? ⟨b5, q * 4 + 3, none⟩ = some (.int .u32 e.c) := h5 _ _ (hg5 3 _ rfl)
            have t3 : (q : Int).toNat = q := rfl
            have t4 : (0 : Int) ≤ (q : Int) := by omega
            clear h5 h6 hg5 hg6 he
            go_upto_region 36 with (fail)
            go_quiet (fail)
            clear f0 f1 f2 f3 e0 e1 e2 e3 t3 t4
            go_wp2_with fail
            exact ⟨⟨q + 1, hqm, by go_num, hS.drewN nq⟩, by simp [intOf]; omega⟩
          · have hqm' : decide ((q : Int) < (m : Int)) = false := decide_eq_false (by omega)
            go_wp2_with fail
            go_roundw
            case measure => simp [intOf]; omega
            case rel => exact ⟨k + 1, gone, m, all, hlt, by go_num, hS, ha, hgm, hma, hroom⟩
    · go_wp2_with fail
      refine (keeps_any _).mono ?_
      rintro en w13 ⟨rfl, hb⟩
      replace hS := hS.grow hb
      clear hb
      go_wp2_with fail
      go_ret
      exact ⟨rfl, H2.out ▸ hS.below⟩
end Go.Proofs.Ytmkmggbafboelaa
