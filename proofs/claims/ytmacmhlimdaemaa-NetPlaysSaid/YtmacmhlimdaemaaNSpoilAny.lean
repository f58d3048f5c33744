/- Spoil, whatever there is. -/
import Derived.Test.YtmacmhlimdaemaaNSpoil
namespace Go.Proofs.Ytmacmhlimdaemaa.Net
open Go.RowKit Go.Proofs.YtmacmhlimdaemaaW.PrintWords Go.Proofs.Ytmacmhlimdaemaa.R Go.Proofs.Ytmacmhlimdaemaa.Pkt Go.Proofs.Ytmacmhlimdaemaa.Ext
def Fl.sp (f : Fl) (t : Nat) (y : Int) : Fl := ⟨f.c, f.d, spB f.b t y⟩
section
variable {w0 w w' : World} {L M : List Asn}
theorem entC_set : ∀ (es : List Ent) (j : Nat) (u : Value) (f : Fl) (l : List Int), es[j]? = some (u, f) → entC (es.set j (u, ⟨f.c, f.d, l⟩)) = entC es
  | [], j, u, f, l, h => by simp at h
  | e :: es, 0, u, f, l, h => by
    simp only [List.getElem?_cons_zero, Option.some.injEq] at h
    subst h
    simp [entC, Fl.cells]
  | e :: es, j + 1, u, f, l, h => by
    rw [List.getElem?_cons_succ] at h
    have ih := entC_set es j u f l h
    have hc : ∀ (x : Ent) (xs : List Ent), entC (x :: xs) = x.2.cells x.1 ++ entC xs := fun x xs => by simp [entC]
    rw [List.set_cons_succ, hc, hc, ih]
theorem map_set {α β : Type} (f : α → β) (l : List α) (j : Nat) (a : α) : (l.set j a).map f = (l.map f).set j (f a) := by rw [List.map_set]
set_option maxRecDepth 100000 in
theorem spoil_in (g : Nat) (fs : List Fl) (k : Int) (j t : Nat) (f : Fl) (by_ : Int) (hj : fs[j]? = some f) (hm2 : fs.length ≤ 1000) (ht : t < f.b.length) (hl : okB f.b = true) (hby : 0 ≤ by_ ∧ by_ < 256) (hk : 0 ≤ k ∧ k ≤ 1000000) (hS : Sep w0 w (NetAt g fs k :: M)) :
    Calls Try.prog 46 #[.pointer (some ⟨g, 0, none⟩), .int .i64 (j : Int), .int .i64 (t : Int), .int .u8 by_] w fun en w' => en = .returned (.int .i64 0) ∧ Sep w0 w' (NetAt g (fs.set j (f.sp t by_)) (clash (spB f.b t by_) by_ k) :: M) := by
  obtain ⟨v, es, hes, S⟩ := hS.openNet
  have hlen : es.length = fs.length := by rw [← hes, List.length_map]
  have hjf : j < fs.length := (List.getElem?_eq_some_iff.1 hj).1
  have hjl : j < es.length := by omega
  have he : ∃ u, es[j]? = some (u, f) := by
    have h2 : (es.map (·.2))[j]? = some f := by rw [hes]; exact hj
    rw [List.getElem?_map, List.getElem?_eq_getElem hjl] at h2
    have h3 : es[j].2 = f := Option.some.inj h2
    exact ⟨es[j].1, by rw [List.getElem?_eq_getElem hjl, ← h3]⟩
  obtain ⟨u, he⟩ := he
  obtain ⟨b, cc, hv, -, -⟩ := (S.ownX 1 rfl).form (by omega)
  obtain ⟨m, hm⟩ : ∃ m, es.length = m := ⟨_, rfl⟩
  -- the flight's bytes
  have S0 : Sep w0 w (BRow u f.b :: cell g 80 #[v, .int .i64 k] :: rowX 48 3 v es.length (entC es) :: ((es.eraseIdx j).map rowE ++ M)) := by
    refine S.perm ?_
    exact (List.Perm.cons _ (List.Perm.cons _ ((es_out es j u f he).append_right M))).trans ((List.Perm.cons _ (List.Perm.swap _ _ _)).trans (List.Perm.swap _ _ _))
  obtain ⟨n, hn⟩ : ∃ n, f.b.length = n := ⟨_, rfl⟩
  have hsl : ∃ d c, u = .slice (some ⟨d, 0, none⟩) n c := by
    rcases (own_n n hn S0 0 rfl).2 with ⟨_, h0⟩ | ⟨d, c, _, hu, _⟩
    · omega
    · exact ⟨d, c, hu⟩
  obtain ⟨d, c, rfl⟩ := hsl
  obtain ⟨W1, hW1, S1⟩ := S0.boxedF 45 #[.pointer (some ⟨g, 0, none⟩)]
  obtain ⟨W2, hW2, S2⟩ := S1.boxedF 3 #[.int .i64 (t : Int)]
  obtain ⟨W3, hW3, S3⟩ := S2.boxedF 5 #[.int .u8 by_]
  have p0 := (S3.blk 2 rfl).at_ 0 rfl
  have g0 := (S3.blk 4 rfl).at_ 0 rfl
  have S4 : Sep w0 W3 (spL W1.heap.size W2.heap.size w.heap.size g d n c (t : Int) by_ k v f.b (rowX 48 3 v es.length (entC es) :: ((es.eraseIdx j).map rowE ++ M))) := by
    refine S3.perm ?_
    exact (List.Perm.swap _ _ _).trans (List.Perm.cons _ (List.Perm.cons _ (List.Perm.cons _ (List.Perm.swap _ _ _))))
  have HF : ∀ W l k, Sep w0 W (spL W1.heap.size W2.heap.size w.heap.size g d n c (t : Int) by_ k v l (rowX 48 3 v es.length (entC es) :: ((es.eraseIdx j).map rowE ++ M))) → W.cell? ⟨b, j * 3 + 2, none⟩ = some (.slice (some ⟨d, 0, none⟩) n c) := fun W l k h => by
    have ox := h.ownX 5 rfl
    rw [hv] at ox
    have hg := entC_get es j hjl
    have hE : es[j] = (.slice (some ⟨d, 0, none⟩) n c, f) := by rw [List.getElem?_eq_getElem hjl] at he; exact Option.some.inj he
    rw [hE] at hg
    exact ox.cells rfl _ _ (hg 2 _ rfl)
  have H1 := Lib.hid (spoil1 f.b W1.heap.size W2.heap.size w.heap.size g b (j * 3) d n c t by_ k v hn (by omega) hl hby hk HF S4)
  have hend : Hid (∀ W l k2, Sep w0 W (spL W1.heap.size W2.heap.size w.heap.size g d n c (t : Int) by_ k2 v l (rowX 48 3 v es.length (entC es) :: ((es.eraseIdx j).map rowE ++ M))) → Sep w0 W (NetAt g (fs.set j ⟨f.c, f.d, l⟩) k2 :: M)) := Lib.hid fun W l k2 h => by
    have h1 : Sep w0 W (cell g 80 #[v, .int .i64 k2] :: BRow (.slice (some ⟨d, 0, none⟩) n c) l :: rowX 48 3 v es.length (entC es) :: ((es.eraseIdx j).map rowE ++ M)) := h.tail.tail.tail
    refine Sep.closeNet (v := v) (es := es.set j (.slice (some ⟨d, 0, none⟩) n c, ⟨f.c, f.d, l⟩)) (by rw [map_set, hes]) ?_
    rw [List.length_set, entC_set es j _ f l he]
    refine h1.perm (.cons _ ((List.Perm.swap _ _ _).trans (.cons _ ?_)))
    have h2 := es_out (es.set j (.slice (some ⟨d, 0, none⟩) n c, ⟨f.c, f.d, l⟩)) j (.slice (some ⟨d, 0, none⟩) n c) ⟨f.c, f.d, l⟩ (List.getElem?_set_self hjl)
    rw [List.eraseIdx_set_eq] at h2
    exact (h2.append_right M).symm
  rw [hm] at hjl
  have g1 : W3.cell? ⟨g, 0, none⟩ = some (.slice (some ⟨b, 0, none⟩) m cc) := by rw [← hm, ← hv]; exact g0
  have i0 : (0 : Int) ≤ (j : Int) := by omega
  have i1 : (j : Int) < (m : Int) := by omega
  have d0 : decide ((j : Int) < 0) = false := decide_eq_false (by omega)
  have d1 : decide ((m : Int) ≤ (j : Int)) = false := decide_eq_false (by omega)
  have HW : Hid (Calls Try.prog 54 #[.pointer (some ⟨g, 0, none⟩), .int .i64 (j : Int), .func (.func 58) #[] #[.pointer (some ⟨W1.heap.size, 0, none⟩), .pointer (some ⟨W2.heap.size, 0, none⟩), .pointer (some ⟨w.heap.size, 0, none⟩)]] W3 fun en w' => en = .returned (.int .i64 0) ∧ Sep w0 w' (NetAt g (fs.set j (f.sp t by_)) (clash (spB f.b t by_) by_ k) :: M)) := Lib.hid (by
    unfold Fl.sp
    clear S S0 S1 S2 S3 S4 HF he hes hlen hjf hm hn hl hby hk ht hm2 hj hS hW1 hW2 hW3 p0 g0 hv
    go_enter Try.func54, Try.ntmps54
    go_wp2_with fail
    refine H1.out.mono ?_
    rintro en w1 ⟨rfl, h⟩
    go_wp2_with fail
    go_ret
    exact ⟨rfl, hend.out _ _ _ h⟩)
  clear S S0 S1 S2 S3 S4 HF he hes hlen hjf hm hn hl hby hk ht hm2 hj hS H1 hend g0 g1 i0 i1 d0 d1 hv
  go_enter Try.func46, Try.ntmps46
  go_wp2_with fail
  refine HW.out.mono ?_
  rintro en w2 ⟨rfl, h⟩
  go_wp2_with fail
  go_ret
  exact ⟨rfl, h⟩
set_option maxRecDepth 100000 in
theorem spoil_no (g : Nat) (fs : List Fl) (k : Int) (j pl by_ : Int) (h : inF fs j = false) (hS : Sep w0 w (NetAt g fs k :: M)) :
    Calls Try.prog 46 #[.pointer (some ⟨g, 0, none⟩), .int .i64 j, .int .i64 pl, .int .u8 by_] w fun en w' => en = .returned (.int .i64 5) ∧ Sep w0 w' (NetAt g fs k :: M) := by
  obtain ⟨W1, hW1, S1⟩ := hS.boxedF 45 #[.pointer (some ⟨g, 0, none⟩)]
  obtain ⟨W2, hW2, S2⟩ := S1.boxedF 3 #[.int .i64 pl]
  obtain ⟨W3, hW3, S3⟩ := S2.boxedF 5 #[.int .u8 by_]
  have p0 := (S3.blk 2 rfl).at_ 0 rfl
  have hfin := Lib.hid S3.tail.tail.tail
  obtain ⟨v, es, hes, S⟩ := (S3.pick 3 rfl).openNet
  have hlen : es.length = fs.length := by rw [← hes, List.length_map]
  obtain ⟨a, cc, hv, -, -⟩ := (S.ownX 1 rfl).slice
  have g0 : W3.cell? ⟨g, 0, none⟩ = some (.slice a fs.length cc) := by rw [← hlen, ← hv]; exact (S.blk 0 rfl).at_ 0 rfl
  have h2 := of_decide_eq_false h
  have HW := Lib.hid (with_out g a fs.length cc j (by omega) (.func (.func 58) #[] #[.pointer (some ⟨W1.heap.size, 0, none⟩), .pointer (some ⟨W2.heap.size, 0, none⟩), .pointer (some ⟨w.heap.size, 0, none⟩)]) g0)
  clear S S1 S2 S3 hes hlen hv g0 h h2 hS
  go_enter Try.func46, Try.ntmps46
  go_wp2_with fail
  refine HW.out.mono ?_
  rintro en w2 ⟨rfl, rfl⟩
  go_wp2_with fail
  go_ret
  exact ⟨rfl, hfin.out⟩
set_option maxRecDepth 100000 in
theorem spoil_off (g : Nat) (fs : List Fl) (k : Int) (j : Nat) (pl by_ : Int) (f : Fl) (hj : fs[j]? = some f) (hm2 : fs.length ≤ 1000) (hpl : pl < 0 ∨ (f.b.length : Int) ≤ pl) (hS : Sep w0 w (NetAt g fs k :: M)) :
    Calls Try.prog 46 #[.pointer (some ⟨g, 0, none⟩), .int .i64 (j : Int), .int .i64 pl, .int .u8 by_] w fun en w' => en = .returned (.int .i64 5) ∧ Sep w0 w' (NetAt g fs k :: M) := by
  obtain ⟨W1, hW1, S1⟩ := hS.boxedF 45 #[.pointer (some ⟨g, 0, none⟩)]
  obtain ⟨W2, hW2, S2⟩ := S1.boxedF 3 #[.int .i64 pl]
  obtain ⟨W3, hW3, S3⟩ := S2.boxedF 5 #[.int .u8 by_]
  have p0 := (S3.blk 2 rfl).at_ 0 rfl
  have p1 : W3.cell? ⟨W1.heap.size, 0, none⟩ = some (.int .i64 pl) := (S3.blk 1 rfl).at_ 0 rfl
  have hfin := Lib.hid S3.tail.tail.tail
  obtain ⟨v, es, hes, S⟩ := (S3.pick 3 rfl).openNet
  have hlen : es.length = fs.length := by rw [← hes, List.length_map]
  have hjf : j < fs.length := (List.getElem?_eq_some_iff.1 hj).1
  have hjl : j < es.length := by omega
  have he : ∃ u, es[j] = (u, f) := by
    have h2 : (es.map (·.2))[j]? = some f := by rw [hes]; exact hj
    rw [List.getElem?_map, List.getElem?_eq_getElem hjl] at h2
    have h3 : es[j].2 = f := Option.some.inj h2
    exact ⟨es[j].1, by rw [← h3]⟩
  obtain ⟨u, he⟩ := he
  obtain ⟨b, cc, hv, -, -⟩ := (S.ownX 1 rfl).form (by omega)
  obtain ⟨m, hm⟩ : ∃ m, es.length = m := ⟨_, rfl⟩
  have hr : (cell g 80 #[v, .int .i64 k] :: rowX 48 3 v es.length (entC es) :: (es.map rowE ++ [cell W2.heap.size 5 #[.int .u8 by_], cell W1.heap.size 3 #[.int .i64 pl], cell w.heap.size 45 #[.pointer (some ⟨g, 0, none⟩)]] ++ M))[j + 2]? = some (BRow es[j].1 es[j].2.b) := by
    rw [List.getElem?_cons_succ, List.getElem?_cons_succ, List.append_assoc, List.getElem?_append_left (by simpa using hjl), List.getElem?_map, List.getElem?_eq_getElem hjl]
    rfl
  rw [he] at hr
  obtain ⟨A, c, hu, -, -⟩ := reads_bytes (own_bytes (S : Sep w0 W3 _) (i := j + 2) (l := f.b) (v := u) (by rw [← hr, List.append_assoc]; rfl))
  have hu2 : u = .slice A f.b.length c := hu
  have f2 : W3.cell? ⟨b, j * 3 + 2, none⟩ = some (.slice A f.b.length c) := by
    have ox := S.ownX 1 rfl
    rw [hv] at ox
    have hg := entC_get es j hjl
    rw [he, hu2] at hg
    exact ox.cells rfl _ _ (hg 2 _ rfl)
  have g0 : W3.cell? ⟨g, 0, none⟩ = some (.slice (some ⟨b, 0, none⟩) m cc) := by rw [← hm, ← hv]; exact (S.blk 0 rfl).at_ 0 rfl
  have H1 := Lib.hid (spoil1_out W1.heap.size W2.heap.size w.heap.size b (j * 3) f.b.length c A pl hpl f2 p1)
  rw [hm] at hjl
  have i0 : (0 : Int) ≤ (j : Int) := by omega
  have i1 : (j : Int) < (m : Int) := by omega
  have d0 : decide ((j : Int) < 0) = false := decide_eq_false (by omega)
  have d1 : decide ((m : Int) ≤ (j : Int)) = false := decide_eq_false (by omega)
  have HW : Hid (Calls Try.prog 54 #[.pointer (some ⟨g, 0, none⟩), .int .i64 (j : Int), .func (.func 58) #[] #[.pointer (some ⟨W1.heap.size, 0, none⟩), .pointer (some ⟨W2.heap.size, 0, none⟩), .pointer (some ⟨w.heap.size, 0, none⟩)]] W3 fun en w' => en = .returned (.int .i64 5) ∧ Sep w0 w' (NetAt g fs k :: M)) := Lib.hid (by
    clear S S1 S2 S3 he hes hlen hjf hm hm2 hj hS hW1 hW2 hW3 p0 p1 hr hu hu2 f2 hpl hv
    go_enter Try.func54, Try.ntmps54
    go_wp2_with fail
    refine H1.out.mono ?_
    rintro en w1 ⟨rfl, q, rfl⟩
    go_wp2_with fail
    go_ret
    exact ⟨rfl, hfin.out.drewN q⟩)
  clear S S1 S2 S3 he hes hlen hjf hm hm2 hj hS H1 g0 i0 i1 d0 d1 hr hu hu2 f2 hpl hv p1
  go_enter Try.func46, Try.ntmps46
  go_wp2_with fail
  refine HW.out.mono ?_
  rintro en w2 ⟨rfl, h⟩
  go_wp2_with fail
  go_ret
  exact ⟨rfl, h⟩
def inB (fs : List Fl) (j pl : Int) : Bool := inF fs j && decide (0 ≤ pl ∧ pl < ((fs.getD j.toNat zeroF).b.length : Int))
def spE (fs : List Fl) (j pl : Int) : Int := if inB fs j pl = true then 0 else 5
def spS (fs : List Fl) (j pl y : Int) : List Fl := if inB fs j pl = true then fs.set j.toNat ((fs.getD j.toNat zeroF).sp pl.toNat y) else fs
def spK (fs : List Fl) (k j pl y : Int) : Int := if inB fs j pl = true then clash (spB (fs.getD j.toNat zeroF).b pl.toNat y) y k else k
theorem inB_nat {fs : List Fl} {j pl : Int} (h : inB fs j pl = true) : ∃ n t : Nat, j = n ∧ pl = t ∧ n < fs.length ∧ fs[n]? = some (fs.getD n zeroF) ∧ t < (fs.getD n zeroF).b.length := by
  unfold inB at h
  rw [Bool.and_eq_true] at h
  obtain ⟨n, rfl, hn⟩ := in_nat h.1
  have h2 := of_decide_eq_true h.2
  rw [Int.toNat_natCast] at h2
  exact ⟨n, pl.toNat, rfl, by omega, hn, by rw [getD_mem hn, List.getElem?_eq_getElem hn], by omega⟩
/-- Spoil, whatever there is -/
theorem spoil_any {g : Nat} {fs : List Fl} {k : Int} (j pl by_ : Int) (hm2 : fs.length ≤ 1000) (hl : ∀ f ∈ fs, okB f.b = true) (hby : 0 ≤ by_ ∧ by_ < 256) (hk : 0 ≤ k ∧ k ≤ 1000000) (i : Nat) (hi : L[i]? = some (NetAt g fs k)) (hS : Sep w0 w L) :
    Calls Try.prog 46 #[.pointer (some ⟨g, 0, none⟩), .int .i64 j, .int .i64 pl, .int .u8 by_] w fun en w' => en = .returned (.int .i64 (spE fs j pl)) ∧ Sep w0 w' (L.set i (NetAt g (spS fs j pl by_) (spK fs k j pl by_))) := by
  unfold spE spS spK
  by_cases h : inB fs j pl = true
  · rw [if_pos h, if_pos h, if_pos h]
    obtain ⟨n, t, rfl, rfl, hn, hf, ht⟩ := inB_nat h
    rw [Int.toNat_natCast, Int.toNat_natCast]
    exact (spoil_in g fs k n t _ by_ hf hm2 ht (hl _ (List.mem_of_getElem? hf)) hby hk (hS.pick i hi)).mono fun en w' ⟨he, h⟩ => ⟨he, h.back hi⟩
  · rw [if_neg h, if_neg h, if_neg h]
    cases hin : inF fs j with
    | false => exact (spoil_no g fs k j pl by_ hin (hS.pick i hi)).mono fun en w' ⟨he, h⟩ => ⟨he, h.back hi⟩
    | true =>
      obtain ⟨n, rfl, hn⟩ := in_nat hin
      have hf : fs[n]? = some (fs.getD n zeroF) := by rw [getD_mem hn, List.getElem?_eq_getElem hn]
      have h2 : ¬ (0 ≤ pl ∧ pl < ((fs.getD n zeroF).b.length : Int)) := fun e => h (by unfold inB; rw [hin, Int.toNat_natCast]; simpa using e)
      exact (spoil_off g fs k n pl by_ _ hf hm2 (by omega) (hS.pick i hi)).mono fun en w' ⟨he, h⟩ => ⟨he, h.back hi⟩
end
end Go.Proofs.Ytmacmhlimdaemaa.Net
