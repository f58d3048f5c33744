/- The reference's net: Spoil. -/
import Derived.Test.YtmacmhlimdaemaaNRefB
namespace Go.Proofs.Ytmacmhlimdaemaa.Net
open Go.RowKit Go.Proofs.YtmacmhlimdaemaaW.PrintWords Go.Proofs.Ytmacmhlimdaemaa.R Go.Proofs.Ytmacmhlimdaemaa.Pkt Go.Proofs.Ytmacmhlimdaemaa.Ext
section
variable {w0 w w' : World} {L M : List Asn}
set_option maxRecDepth 100000 in
set_option maxHeartbeats 4000000 in
theorem rspoil_in (g : Nat) (fs : List Fl) (j t : Nat) (f : Fl) (by_ : Int) (hj : fs[j]? = some f) (ht : t < f.b.length) (hS : Sep w0 w (RefAt g fs :: M)) :
    Calls Try.prog 45 #[.pointer (some ⟨g, 0, none⟩), .int .i64 (j : Int), .int .i64 (t : Int), .int .u8 by_] w fun en w' => en = .returned (.int .i64 0) ∧ Sep w0 w' (RefAt g (fs.set j (f.sp t by_)) :: M) := by
  obtain ⟨v, es, hes, S⟩ := hS.openRef
  have hlen : es.length = fs.length := by rw [← hes, List.length_map]
  have hjf : j < fs.length := (List.getElem?_eq_some_iff.1 hj).1
  have hjl : j < es.length := by omega
  have he : ∃ u, es[j]? = some (u, f) := by
    have h2 : (es.map (·.2))[j]? = some f := by rw [hes]; exact hj
    rw [List.getElem?_map, List.getElem?_eq_getElem hjl] at h2
    have h3 : es[j].2 = f := Option.some.inj h2
    exact ⟨es[j].1, by rw [List.getElem?_eq_getElem hjl, ← h3]⟩
  obtain ⟨u, he⟩ := he
  obtain ⟨b, cc, hv, -, -⟩ := (S.ownX 1 rfl).form (by omega)
  obtain ⟨m, hm⟩ : ∃ m, es.length = m := ⟨_, rfl⟩
  have S0 : Sep w0 w (BRow u f.b :: cell g 64 #[v] :: rowX 48 3 v es.length (entC es) :: ((es.eraseIdx j).map rowE ++ M)) := by
    refine S.perm ?_
    exact (List.Perm.cons _ (List.Perm.cons _ ((es_out es j u f he).append_right M))).trans ((List.Perm.cons _ (List.Perm.swap _ _ _)).trans (List.Perm.swap _ _ _))
  obtain ⟨n, hn⟩ : ∃ n, f.b.length = n := ⟨_, rfl⟩
  have hsl : ∃ d c, u = .slice (some ⟨d, 0, none⟩) n c := by
    rcases (own_n n hn S0 0 rfl).2 with ⟨_, h0⟩ | ⟨d, c, _, hu, _⟩
    · omega
    · exact ⟨d, c, hu⟩
  obtain ⟨d, c, rfl⟩ := hsl
  have hg := entC_get es j hjl
  have hE : es[j] = (.slice (some ⟨d, 0, none⟩) n c, f) := by rw [List.getElem?_eq_getElem hjl] at he; exact Option.some.inj he
  rw [hE] at hg
  have ox := S0.ownX 2 rfl
  rw [hv] at ox
  have f2 : w.cell? ⟨b, j * 3 + 2, none⟩ = some (.slice (some ⟨d, 0, none⟩) n c) := ox.cells rfl _ _ (hg 2 _ rfl)
  have c0 : w.cell? ⟨g, 0, none⟩ = some (.slice (some ⟨b, 0, none⟩) m cc) := by rw [← hm, ← hv]; exact (S0.blk 1 rfl).at_ 0 rfl
  obtain ⟨b0, z0⟩ := b_cell S0 0 rfl t ht
  have hend : Hid (∀ W l, Sep w0 W (BRow (.slice (some ⟨d, 0, none⟩) n c) l :: cell g 64 #[v] :: rowX 48 3 v es.length (entC es) :: ((es.eraseIdx j).map rowE ++ M)) → Sep w0 W (RefAt g (fs.set j ⟨f.c, f.d, l⟩) :: M)) := Lib.hid fun W l h1 => by
    refine Sep.closeRef (v := v) (es := es.set j (.slice (some ⟨d, 0, none⟩) n c, ⟨f.c, f.d, l⟩)) (by rw [map_set, hes]) ?_
    rw [List.length_set, entC_set es j _ f l he]
    refine h1.perm ((List.Perm.swap _ _ _).trans (.cons _ ((List.Perm.swap _ _ _).trans (.cons _ ?_))))
    have h2 := es_out (es.set j (.slice (some ⟨d, 0, none⟩) n c, ⟨f.c, f.d, l⟩)) j (.slice (some ⟨d, 0, none⟩) n c) ⟨f.c, f.d, l⟩ (List.getElem?_set_self hjl)
    rw [List.eraseIdx_set_eq] at h2
    exact (h2.append_right M).symm
  have S3 := Lib.hid (S0.drew.putB 0 rfl hn t (Go.bits .xor .u8 (f.b[t]?.getD 0) by_))
  rw [hm] at hjl
  rw [hn] at ht
  have i0 : (0 : Int) ≤ (j : Int) := by omega
  have i1 : (j : Int) < (m : Int) := by omega
  have i2 : (0 : Int) ≤ (t : Int) := by omega
  have i3 : (t : Int) < (n : Int) := by omega
  have i4 : (j : Int).toNat = j := rfl
  have i5 : (t : Int).toNat = t := rfl
  have d0 : decide ((j : Int) < 0) = false := decide_eq_false (by omega)
  have d1 : decide ((m : Int) ≤ (j : Int)) = false := decide_eq_false (by omega)
  have d2 : decide (m ≤ j) = false := decide_eq_false (by omega)
  have d3 : decide ((t : Int) < 0) = false := decide_eq_false (by omega)
  have d4 : decide ((n : Int) ≤ (t : Int)) = false := decide_eq_false (by omega)
  have d5 : decide (n ≤ t) = false := decide_eq_false (by omega)
  clear S S0 he hes hlen hjf hm hn hj hS hv hg hE ox
  go_enter Try.func45, Try.ntmps45
  go_upto_region 3 with (fail)
  go_cut [] (fun wx => Sep w0 wx (RefAt g (fs.set j (f.sp t by_)) :: M))
  case first =>
    go_region_law (fail)
    all_goals
      go_wp2_with fail
      go_meet
      exact hend.out _ _ S3.out
  case rest =>
    have hS := hcut
    clear hcut
    go_wp2_with fail
    go_ret
    exact ⟨rfl, hS⟩
theorem rspoil_no (g : Nat) (fs : List Fl) (j pl by_ : Int) (h : inF fs j = false) (hS : Sep w0 w (RefAt g fs :: M)) :
    Calls Try.prog 45 #[.pointer (some ⟨g, 0, none⟩), .int .i64 j, .int .i64 pl, .int .u8 by_] w fun en w' => en = .returned (.int .i64 5) ∧ Sep w0 w' (RefAt g fs :: M) := by
  obtain ⟨v, es, hes, S⟩ := hS.openRef
  have hln : es.length = fs.length := by rw [← hes, List.length_map]
  obtain ⟨a, cc, hv, -, -⟩ := (S.ownX 1 rfl).slice
  have c0 := (S.blk 0 rfl).at_ 0 rfl
  obtain ⟨m, hm⟩ : ∃ m, fs.length = m := ⟨_, rfl⟩
  rw [hv, hln, hm] at c0
  have hj : j < 0 ∨ (m : Int) ≤ j := by have := of_decide_eq_false h; omega
  clear S hes hln hv hm h
  by_cases h0 : j < 0
  · have d1 : decide (j < 0) = true := decide_eq_true h0
    clear hj
    go_enter Try.func45, Try.ntmps45
    go_wp2_with fail
    go_ret
    exact ⟨rfl, hS⟩
  · have d1 : decide (j < 0) = false := decide_eq_false h0
    have h1 : (m : Int) ≤ j := by omega
    have d2 : decide ((m : Int) ≤ j) = true := decide_eq_true h1
    clear hj
    go_enter Try.func45, Try.ntmps45
    go_wp2_with fail
    go_ret
    exact ⟨rfl, hS⟩
theorem rspoil_off (g : Nat) (fs : List Fl) (j : Nat) (pl by_ : Int) (f : Fl) (hj : fs[j]? = some f) (hpl : pl < 0 ∨ (f.b.length : Int) ≤ pl) (hS : Sep w0 w (RefAt g fs :: M)) :
    Calls Try.prog 45 #[.pointer (some ⟨g, 0, none⟩), .int .i64 (j : Int), .int .i64 pl, .int .u8 by_] w fun en w' => en = .returned (.int .i64 5) ∧ Sep w0 w' (RefAt g fs :: M) := by
  obtain ⟨v, es, hes, S⟩ := hS.openRef
  have hlen : es.length = fs.length := by rw [← hes, List.length_map]
  have hjf : j < fs.length := (List.getElem?_eq_some_iff.1 hj).1
  have hjl : j < es.length := by omega
  have he : ∃ u, es[j] = (u, f) := by
    have h2 : (es.map (·.2))[j]? = some f := by rw [hes]; exact hj
    rw [List.getElem?_map, List.getElem?_eq_getElem hjl] at h2
    have h3 : es[j].2 = f := Option.some.inj h2
    exact ⟨es[j].1, by rw [← h3]⟩
  obtain ⟨u, he⟩ := he
  obtain ⟨b, cc, hv, -, -⟩ := (S.ownX 1 rfl).form (by omega)
  obtain ⟨m, hm⟩ : ∃ m, es.length = m := ⟨_, rfl⟩
  have hr : (cell g 64 #[v] :: rowX 48 3 v es.length (entC es) :: (es.map rowE ++ M))[j + 2]? = some (BRow es[j].1 es[j].2.b) := by
    rw [List.getElem?_cons_succ, List.getElem?_cons_succ, List.getElem?_append_left (by simpa using hjl), List.getElem?_map, List.getElem?_eq_getElem hjl]
    rfl
  rw [he] at hr
  obtain ⟨A, c, hu, -, -⟩ := reads_bytes (own_bytes S (i := j + 2) (l := f.b) (v := u) hr)
  obtain ⟨n, hn⟩ : ∃ n, f.b.length = n := ⟨_, rfl⟩
  rw [hn] at hu hpl
  have f2 : w.cell? ⟨b, j * 3 + 2, none⟩ = some (.slice A n c) := by
    have ox := S.ownX 1 rfl
    rw [hv] at ox
    have hg := entC_get es j hjl
    rw [he, hu] at hg
    exact ox.cells rfl _ _ (hg 2 _ rfl)
  have c0 : w.cell? ⟨g, 0, none⟩ = some (.slice (some ⟨b, 0, none⟩) m cc) := by rw [← hm, ← hv]; exact (S.blk 0 rfl).at_ 0 rfl
  rw [hm] at hjl
  have i0 : (0 : Int) ≤ (j : Int) := by omega
  have i1 : (j : Int) < (m : Int) := by omega
  have i4 : (j : Int).toNat = j := rfl
  have d0 : decide ((j : Int) < 0) = false := decide_eq_false (by omega)
  have d1 : decide ((m : Int) ≤ (j : Int)) = false := decide_eq_false (by omega)
  have d2 : decide (m ≤ j) = false := decide_eq_false (by omega)
  clear S he hes hlen hjf hm hn hj hv hr hu
  by_cases h0 : pl < 0
  · have d3 : decide (pl < 0) = true := decide_eq_true h0
    clear hpl
    go_enter Try.func45, Try.ntmps45
    go_wp2_with fail
    go_ret
    exact ⟨rfl, hS⟩
  · have d3 : decide (pl < 0) = false := decide_eq_false h0
    have h1 : (n : Int) ≤ pl := by omega
    have d4 : decide ((n : Int) ≤ pl) = true := decide_eq_true h1
    clear hpl
    go_enter Try.func45, Try.ntmps45
    go_wp2_with fail
    go_ret
    exact ⟨rfl, hS⟩
/-- the reference's Spoil, whatever there is -/
theorem rspoil_any {g : Nat} {fs : List Fl} (j pl by_ : Int) (i : Nat) (hi : L[i]? = some (RefAt g fs)) (hS : Sep w0 w L) :
    Calls Try.prog 45 #[.pointer (some ⟨g, 0, none⟩), .int .i64 j, .int .i64 pl, .int .u8 by_] w fun en w' => en = .returned (.int .i64 (spE fs j pl)) ∧ Sep w0 w' (L.set i (RefAt g (spS fs j pl by_))) := by
  unfold spE spS
  by_cases h : inB fs j pl = true
  · rw [if_pos h, if_pos h]
    obtain ⟨n, t, rfl, rfl, hn, hf, ht⟩ := inB_nat h
    rw [Int.toNat_natCast, Int.toNat_natCast]
    exact (rspoil_in g fs n t _ by_ hf ht (hS.pick i hi)).mono fun en w' ⟨he, h⟩ => ⟨he, h.back hi⟩
  · rw [if_neg h, if_neg h]
    cases hin : inF fs j with
    | false => exact (rspoil_no g fs j pl by_ hin (hS.pick i hi)).mono fun en w' ⟨he, h⟩ => ⟨he, h.back hi⟩
    | true =>
      obtain ⟨n, rfl, hn⟩ := in_nat hin
      have hf : fs[n]? = some (fs.getD n zeroF) := by rw [getD_mem hn, List.getElem?_eq_getElem hn]
      have h2 : ¬ (0 ≤ pl ∧ pl < ((fs.getD n zeroF).b.length : Int)) := fun e => h (by unfold inB; rw [hin, Int.toNat_natCast]; simpa using e)
      exact (rspoil_off g fs n pl by_ _ hf (by omega) (hS.pick i hi)).mono fun en w' ⟨he, h⟩ => ⟨he, h.back hi⟩
end
end Go.Proofs.Ytmacmhlimdaemaa.Net
