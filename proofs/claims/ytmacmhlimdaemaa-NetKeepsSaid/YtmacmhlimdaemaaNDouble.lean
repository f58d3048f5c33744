/- Double. -/
import Derived.Test.YtmacmhlimdaemaaNLose
namespace Go.Proofs.Ytmacmhlimdaemaa.Net
open Go.RowKit Go.Proofs.YtmacmhlimdaemaaW.PrintWords Go.Proofs.Ytmacmhlimdaemaa.R Go.Proofs.Ytmacmhlimdaemaa.Pkt
section
variable {w0 w w' : World} {L M : List Asn}
/-- Double's inner function -/
theorem dbl1 {g : Nat} {fs : List Fl} {k : Int} (p b o : Nat) (f : Fl) (A : Option Addr) (n c : Nat) (f0 : w.cell? ⟨b, o, none⟩ = some (.int .i64 f.c)) (f1 : w.cell? ⟨b, o + 1, none⟩ = some (.bool f.d)) (f2 : w.cell? ⟨b, o + 2, none⟩ = some (.slice A n c)) (p0 : w.cell? ⟨p, 0, none⟩ = some (.pointer (some ⟨g, 0, none⟩)))
    (hn : f.b.length = n) (hl : n ≤ 140737488351232) (hC : Kd.C (Kd.int .u8) w A n f.b) (hc : n ≤ c) (i : Nat) (hi : L[i]? = some (NetAt g fs k)) (hS : Sep w0 w L) :
    Calls Try.prog 56 #[.pointer (some ⟨b, o, none⟩), .pointer (some ⟨p, 0, none⟩)] w fun en w' => en = .returned (.int .i64 (sendE fs)) ∧ Sep w0 w' (L.set i (NetAt g (sendS fs f) k)) := by
  have HS := Lib.hid (send_any f A n c hn hl (Kd.C_below hC (Below.refl w.heap.size w).drew) hc i hi hS.drew)
  clear hn hl hC hc hi hS
  generalize sendE fs = e at HS ⊢
  generalize sendS fs f = s at HS ⊢
  go_enter Try.func56, Try.ntmps56
  go_upto_region 1 with (fail)
  go_region_law (first | (go_simp; go_at_call 32; refine HS.out.mono ?_; rintro en w1 ⟨rfl, S1⟩))
  all_goals
    go_wp2_with fail
    go_ret
    exact ⟨rfl, S1⟩
theorem with_dbl {g : Nat} {fs : List Fl} {k : Int} (p j : Nat) (f : Fl) (hj : fs[j]? = some f) (hm2 : fs.length ≤ 1000) (hl : f.b.length ≤ 140737488351232) (p0 : w.cell? ⟨p, 0, none⟩ = some (.pointer (some ⟨g, 0, none⟩))) (i : Nat) (hi : L[i]? = some (NetAt g fs k)) (hS : Sep w0 w L) :
    Calls Try.prog 54 #[.pointer (some ⟨g, 0, none⟩), .int .i64 (j : Int), .func (.func 56) #[] #[.pointer (some ⟨p, 0, none⟩)]] w fun en w' => en = .returned (.int .i64 (sendE fs)) ∧ Sep w0 w' (L.set i (NetAt g (sendS fs f) k)) := by
  obtain ⟨v, es, hes, S⟩ := (hS.pick i hi).openNet
  have hln : es.length = fs.length := by rw [← hes, List.length_map]
  have hjf : j < fs.length := (List.getElem?_eq_some_iff.1 hj).1
  have hjl : j < es.length := by omega
  have h3 : es[j].2 = f := by
    have h2 : (es.map (·.2))[j]? = some f := by rw [hes]; exact hj
    rw [List.getElem?_map, List.getElem?_eq_getElem hjl] at h2
    exact Option.some.inj h2
  have hr : (cell g 80 #[v, .int .i64 k] :: rowX 48 3 v es.length (entC es) :: (es.map rowE ++ L.eraseIdx i))[j + 2]? = some (BRow es[j].1 es[j].2.b) := by
    rw [List.getElem?_cons_succ, List.getElem?_cons_succ, List.getElem?_append_left (by simpa using hjl), List.getElem?_map, List.getElem?_eq_getElem hjl]
    rfl
  rw [h3] at hr
  obtain ⟨A, c, hu, hc, hC⟩ := reads_bytes (own_bytes S hr)
  obtain ⟨b, cc, hv, -, -⟩ := (S.ownX 1 rfl).form (by omega)
  have ox := S.ownX 1 rfl
  have hg := entC_get es j hjl
  rw [h3, hu] at hg
  have g0 := (S.blk 0 rfl).at_ 0 rfl
  rw [hv] at g0 ox
  have f0 : w.cell? ⟨b, j * 3, none⟩ = some (.int .i64 f.c) := ox.cells rfl _ _ (hg 0 _ rfl)
  have f1 : w.cell? ⟨b, j * 3 + 1, none⟩ = some (.bool f.d) := ox.cells rfl _ _ (hg 1 _ rfl)
  have f2 : w.cell? ⟨b, j * 3 + 2, none⟩ = some (.slice A f.b.length c) := ox.cells rfl _ _ (hg 2 _ rfl)
  have HS := Lib.hid (dbl1 p b (j * 3) f A f.b.length c f0 f1 f2 p0 rfl hl hC hc i hi hS)
  have i0 : (0 : Int) ≤ (j : Int) := by omega
  obtain ⟨m, hm⟩ : ∃ m, es.length = m := ⟨_, rfl⟩
  rw [hm] at g0 hjl
  have i1 : (j : Int) < (m : Int) := by omega
  have d0 : decide ((j : Int) < 0) = false := decide_eq_false (by omega)
  have d1 : decide ((m : Int) ≤ (j : Int)) = false := decide_eq_false (by omega)
  generalize sendE fs = e at HS ⊢
  generalize sendS fs f = s at HS ⊢
  clear S hes hln hjf hj h3 hr hu hC hc ox hg f0 f1 f2 hv hm hi hS p0 hl hm2
  go_enter Try.func54, Try.ntmps54
  go_wp2_with fail
  refine HS.out.mono ?_
  rintro en w1 ⟨rfl, h⟩
  go_wp2_with fail
  go_ret
  exact ⟨rfl, h⟩
def dblE (fs : List Fl) (j : Int) : Int := if 256 ≤ fs.length then 3 else if inF fs j = true then 0 else 5
def dblS (fs : List Fl) (j : Int) : List Fl := if 256 ≤ fs.length then fs else if inF fs j = true then fs ++ [fs.getD j.toNat zeroF] else fs
/-- Double, whatever there is -/
theorem double_any {g : Nat} {fs : List Fl} {k : Int} (j : Int) (hm2 : fs.length ≤ 1000) (hl : ∀ f ∈ fs, f.b.length ≤ 1000000) (i : Nat) (hi : L[i]? = some (NetAt g fs k)) (hS : Sep w0 w L) :
    Calls Try.prog 35 #[.pointer (some ⟨g, 0, none⟩), .int .i64 j] w fun en w' => en = .returned (.int .i64 (dblE fs j)) ∧ Sep w0 w' (L.set i (NetAt g (dblS fs j) k)) := by
  obtain ⟨W1, hW1, S1⟩ := hS.boxedF 45 #[.pointer (some ⟨g, 0, none⟩)]
  have hi1 : (cell w.heap.size 45 #[.pointer (some ⟨g, 0, none⟩)] :: L)[i + 1]? = some (NetAt g fs k) := by rw [List.getElem?_cons_succ]; exact hi
  have p0 := (S1.blk 0 rfl).at_ 0 rfl
  obtain ⟨v, es, hes, S⟩ := (S1.pick (i + 1) hi1).openNet
  have hln : es.length = fs.length := by rw [← hes, List.length_map]
  obtain ⟨a, cc, hv, -, -⟩ := (S.ownX 1 rfl).slice
  have g0 := (S.blk 0 rfl).at_ 0 rfl
  rw [hv, hln] at g0
  obtain ⟨m, hm⟩ : ∃ m, fs.length = m := ⟨_, rfl⟩
  have Hm := Lib.hid hm
  have same : L.set i (NetAt g fs k) = L := by
    obtain ⟨hil, hie⟩ := List.getElem?_eq_some_iff.1 hi
    rw [← hie, List.set_getElem_self]
  have hSt : Hid (Sep w0 W1 (L.set i (NetAt g fs k))) := Lib.hid (same.symm ▸ S1.tail)
  unfold dblE dblS
  by_cases hf : 256 ≤ fs.length
  · rw [if_pos hf, if_pos hf]
    rw [hm] at g0 hf
    have d0 : decide ((256 : Int) ≤ (m : Int)) = true := decide_eq_true (by omega)
    clear S S1 hes hln hv hm same hi1 hi hS hl hm2
    go_enter Try.func35, Try.ntmps35
    go_wp2_with fail
    go_ret
    exact ⟨rfl, hSt.out⟩
  · rw [if_neg hf, if_neg hf]
    have d0 : decide ((256 : Int) ≤ (m : Int)) = false := decide_eq_false (by omega)
    by_cases h : inF fs j = true
    · rw [if_pos h, if_pos h]
      have h2 := of_decide_eq_true h
      obtain ⟨n, rfl⟩ : ∃ n : Nat, j = n := ⟨j.toNat, by omega⟩
      have hn : n < fs.length := by omega
      rw [Int.toNat_natCast]
      have hgd : fs[n]? = some (fs.getD n zeroF) := by rw [List.getD_eq_getElem?_getD, List.getElem?_eq_getElem hn, Option.getD_some]
      have hlb := hl _ (List.mem_of_getElem? hgd)
      have HS := with_dbl w.heap.size n _ hgd hm2 (by omega) p0 (i + 1) hi1 S1
      have he : sendE fs = 0 := by unfold sendE; rw [if_pos (by omega)]
      have hs : sendS fs (fs.getD n zeroF) = fs ++ [fs.getD n zeroF] := by unfold sendS; rw [if_pos (by omega)]
      rw [he, hs] at HS
      have HS' := Lib.hid HS
      rw [hm] at g0
      generalize fs ++ [fs.getD n zeroF] = s at HS' ⊢
      clear S S1 hes hln hv hm same hi1 hi hS hl hm2 HS hlb hgd he hs h h2 hn hf
      go_enter Try.func35, Try.ntmps35
      go_wp2_with fail
      refine HS'.out.mono ?_
      rintro en w2 ⟨rfl, S2⟩
      go_wp2_with fail
      go_ret
      exact ⟨rfl, S2.tail⟩
    · rw [if_neg h, if_neg h]
      have h2 : ¬ (0 ≤ j ∧ j < (fs.length : Int)) := fun e => h (decide_eq_true e)
      have HW := Lib.hid (with_out g a fs.length cc j (by omega) (.func (.func 56) #[] #[.pointer (some ⟨w.heap.size, 0, none⟩)]) g0)
      rw [hm] at g0
      clear S S1 hes hln hv hm same hi1 hi hS hl hm2 h h2 hf
      go_enter Try.func35, Try.ntmps35
      go_wp2_with fail
      refine HW.out.mono ?_
      rintro en w2 ⟨rfl, rfl⟩
      go_wp2_with fail
      go_ret
      exact ⟨rfl, hSt.out⟩
end
end Go.Proofs.Ytmacmhlimdaemaa.Net
