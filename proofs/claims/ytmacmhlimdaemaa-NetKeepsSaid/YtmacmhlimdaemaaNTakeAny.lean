/- Take and Lose, whatever there is. -/
import Derived.Test.YtmacmhlimdaemaaNWith
namespace Go.Proofs.Ytmacmhlimdaemaa.Net
open Go.RowKit Go.Proofs.YtmacmhlimdaemaaW.PrintWords Go.Proofs.Ytmacmhlimdaemaa.R Go.Proofs.Ytmacmhlimdaemaa.Pkt
section
variable {w0 w w' : World} {L M : List Asn}
theorem mid5 (r a b c d e : Asn) (E M : List Asn) : (r :: a :: b :: c :: d :: e :: (E ++ M)).Perm (a :: b :: c :: d :: e :: (E ++ (r :: M))) := (List.perm_middle (l₁ := a :: b :: c :: d :: e :: E)).symm
theorem map_erase {α β : Type} (f : α → β) : ∀ (l : List α) (j : Nat), (l.eraseIdx j).map f = (l.map f).eraseIdx j
  | [], _ => rfl
  | _ :: _, 0 => rfl
  | a :: l, j + 1 => by rw [List.eraseIdx_cons_succ, List.map_cons, List.map_cons, List.eraseIdx_cons_succ, map_erase f l j]
theorem es_out (es : List Ent) (j : Nat) (u : Value) (f : Fl) (he : es[j]? = some (u, f)) : (es.map rowE).Perm (BRow u f.b :: (es.eraseIdx j).map rowE) := by
  have h : (es.map rowE)[j]? = some (BRow u f.b) := by rw [List.getElem?_map, he]; rfl
  have := (perm_pick h).symm
  rwa [← map_erase] at this
theorem take_end {g o p q r j m : Nat} {v' : Value} {C : Array Value} {R : Array Value} {k : Int} {es : List Ent} {fs : List Fl} {u : Value} {f : Fl} (hm : es.length = m) (hes : es.map (·.2) = fs) (he : es[j]? = some (u, f))
    (S : Sep w0 w (cell o 48 C :: cell p 45 #[.pointer (some ⟨g, 0, none⟩)] :: cell q 3 #[.int .i64 (j : Int)] :: cell g 80 #[v', .int .i64 k] :: rowX 48 3 v' (m - 1) (entC (es.eraseIdx j)) :: (es.map rowE ++ (cell r 48 R :: M)))) : Sep w0 w (BRow u f.b :: NetAt g (fs.eraseIdx j) k :: M) := by
  have hj : j < es.length := (List.getElem?_eq_some_iff.1 he).1
  have S1 : Sep w0 w (cell g 80 #[v', .int .i64 k] :: rowX 48 3 v' (m - 1) (entC (es.eraseIdx j)) :: (es.map rowE ++ (cell r 48 R :: M))) := S.tail.tail.tail
  have hl : (es.eraseIdx j).length = m - 1 := by rw [List.length_eraseIdx_of_lt hj, hm]
  rw [← hl] at S1
  have S2 : Sep w0 w (cell g 80 #[v', .int .i64 k] :: rowX 48 3 v' (es.eraseIdx j).length (entC (es.eraseIdx j)) :: ((es.eraseIdx j).map rowE ++ (BRow u f.b :: cell r 48 R :: M))) := by
    refine S1.perm (.cons _ (.cons _ ?_))
    exact ((es_out es j u f he).append_right _).trans List.perm_middle.symm
  have S3 : Sep w0 w (NetAt g (fs.eraseIdx j) k :: (BRow u f.b :: cell r 48 R :: M)) := Sep.closeNet (by rw [map_erase, hes]) S2
  exact (S3.perm (.swap _ _ _)).perm (.cons _ (.cons _ (.refl _))) |>.drop 2
theorem ret33 (tmps : Array Value) (r : Nat) (cs : Array Value) (hc : cs.size = 3) (hp : tmps.getD 4 undef = .pointer (some ⟨r, 0, none⟩)) (D : Blk w r 48 cs) : (results Try.f33 tmps).run Try.prog w = .ok (.tuple #[.agg cs, tmps.getD 5 undef]) w := by
  have hi : (Try.prog.info? 48).map (·.size) = some cs.size := by rw [hc]; exact size48
  rw [results_cell_tmp rfl, hp]
  simp only [asAddr, Sem.run_pure, Result.andThen_ok, run_loadVar_row w r 48 48 cs (0, 0) _ D Try.underlying48 rfl hi]
theorem take_in (g : Nat) (fs : List Fl) (k : Int) (j : Nat) (f : Fl) (hj : fs[j]? = some f) (hm2 : fs.length ≤ 1000) (hS : Sep w0 w (NetAt g fs k :: M)) :
    Calls Try.prog 33 #[.pointer (some ⟨g, 0, none⟩), .int .i64 (j : Int)] w fun en w' => ∃ v, en = .returned (.tuple #[.agg #[.int .i64 f.c, .bool f.d, v], .int .i64 0]) ∧ Sep w0 w' (BRow v f.b :: NetAt g (fs.eraseIdx j) k :: M) := by
  obtain ⟨v, es, hes, S⟩ := hS.openNet
  have hl : es.length = fs.length := by rw [← hes, List.length_map]
  have hjf : j < fs.length := (List.getElem?_eq_some_iff.1 hj).1
  have hjl : j < es.length := by omega
  obtain ⟨au, nu, cu, hu⟩ := ent_slice S j hjl
  have he : es[j]? = some (.slice au nu cu, f) := by
    rw [List.getElem?_eq_getElem hjl, ← hu]
    have h2 : (es.map (·.2))[j]? = some f := by rw [hes]; exact hj
    rw [List.getElem?_map, List.getElem?_eq_getElem hjl] at h2
    have h3 : es[j].2 = f := Option.some.inj h2
    rw [← h3]
  obtain ⟨b, cc, hv, -, -⟩ := (S.ownX 1 rfl).form (by omega)
  obtain ⟨m, hm⟩ : ∃ m, es.length = m := ⟨_, rfl⟩
  rw [hm] at S hv hjl
  subst hv
  obtain ⟨W1, hW1, S1⟩ := S.boxedF 45 #[.pointer (some ⟨g, 0, none⟩)]
  obtain ⟨W2, hW2, S2⟩ := S1.boxedF 3 #[.int .i64 (j : Int)]
  obtain ⟨W3, hW3, S3⟩ := S2.boxedF 48 #[.int .i64 0, .bool false, .slice none 0 0]
  obtain ⟨W4, hW4, S4⟩ := S3.boxedF 48 #[.int .i64 0, .bool false, .slice none 0 0]
  have p0 := (S4.blk 3 rfl).at_ 0 rfl
  have q0 := (S4.blk 2 rfl).at_ 0 rfl
  have S5 := (((S4.pick 1 rfl).perm (mid5 _ _ _ _ _ _ _ _)).pick 2 rfl).pick 1 rfl
  have HW := Lib.hid (with_take g W3.heap.size w.heap.size W1.heap.size b m cc j #[.int .i64 0, .bool false, .slice none 0 0] rfl k es hm hjl (by omega) f au nu cu he S5)
  have Hm := Lib.hid hm
  have Hes := Lib.hid hes
  have He := Lib.hid he
  clear S S1 S2 S3 S4 S5 hm hes he hj hS hu hl
  go_enter Try.func33, Try.ntmps33
  go_wp2_with fail
  refine HW.out.mono ?_
  rintro en w5 ⟨rfl, v', S6⟩
  have o0 := (S6.blk 0 rfl).at_ 0 rfl
  have o1 := (S6.blk 0 rfl).at_ 1 rfl
  have o2 := (S6.blk 0 rfl).at_ 2 rfl
  have S7 := S6.perm (mid5 _ _ _ _ _ _ _ _).symm
  have HB := Lib.hid (S7.blk 0 rfl)
  have S8 := S7.setRow 0 rfl #[.int .i64 f.c, .bool f.d, .slice au nu cu]
  obtain ⟨W9, hW9⟩ : ∃ W9, w5.setRow W2.heap.size #[.int .i64 f.c, .bool f.d, .slice au nu cu] = W9 := ⟨_, rfl⟩
  rw [hW9] at S8
  have D := Lib.hid (S8.blk 0 rfl)
  have S9 := Lib.hid (take_end Hm.out Hes.out He.out (S8.perm (mid5 _ _ _ _ _ _ _ _)))
  clear S6 S7 S8
  go_wp2_with (
    refine wpList_store_row rfl 48 (.tmp 4) (.tmp 12) rfl W2.heap.size #[.int .i64 f.c, .bool f.d, .slice au nu cu] rfl rfl 48 _ HB.out size48 rfl (fl_one _ _ _ _ _) ?_
    rw [hW9])
  exact bodyPost_ret (ret33 _ W2.heap.size _ rfl rfl D.out) rfl ⟨_, rfl, S9.out⟩
theorem with_out (g : Nat) (a : Option Addr) (m cc : Nat) (j : Int) (hj : j < 0 ∨ (m : Int) ≤ j) (fn : Value) (g0 : w.cell? ⟨g, 0, none⟩ = some (.slice a m cc)) :
    Calls Try.prog 54 #[.pointer (some ⟨g, 0, none⟩), .int .i64 j, fn] w fun en w' => en = .returned (.int .i64 5) ∧ w = w' := by
  by_cases h0 : j < 0
  · have d0 : decide (j < 0) = true := decide_eq_true h0
    go_enter Try.func54, Try.ntmps54
    go_wp2_with fail
    go_ret
    exact ⟨rfl, rfl⟩
  · have h1 : (m : Int) ≤ j := by omega
    have d0 : decide (j < 0) = false := decide_eq_false h0
    have d1 : decide ((m : Int) ≤ j) = true := decide_eq_true h1
    clear hj
    go_enter Try.func54, Try.ntmps54
    go_wp2_with fail
    go_ret
    exact ⟨rfl, rfl⟩
theorem take_out (g : Nat) (fs : List Fl) (k : Int) (j : Int) (hj : j < 0 ∨ (fs.length : Int) ≤ j) (hS : Sep w0 w (NetAt g fs k :: M)) :
    Calls Try.prog 33 #[.pointer (some ⟨g, 0, none⟩), .int .i64 j] w fun en w' => en = .returned (.tuple #[.agg #[.int .i64 0, .bool false, .slice none 0 0], .int .i64 5]) ∧ Sep w0 w' (NetAt g fs k :: M) := by
  obtain ⟨v, es, hes, S⟩ := hS.openNet
  have hl : es.length = fs.length := by rw [← hes, List.length_map]
  obtain ⟨a, cc, hv, -, -⟩ := (S.ownX 1 rfl).slice
  obtain ⟨W1, hW1, S1⟩ := hS.boxedF 45 #[.pointer (some ⟨g, 0, none⟩)]
  obtain ⟨W2, hW2, S2⟩ := S1.boxedF 3 #[.int .i64 j]
  obtain ⟨W3, hW3, S3⟩ := S2.boxedF 48 #[.int .i64 0, .bool false, .slice none 0 0]
  obtain ⟨W4, hW4, S4⟩ := S3.boxedF 48 #[.int .i64 0, .bool false, .slice none 0 0]
  obtain ⟨v4, es4, hes4, T⟩ := (S4.pick 4 rfl).openNet
  have hl4 : es4.length = fs.length := by rw [← hes4, List.length_map]
  obtain ⟨a4, cc4, hv4, -, -⟩ := (T.ownX 1 rfl).slice
  have g0 : W4.cell? ⟨g, 0, none⟩ = some (.slice a4 fs.length cc4) := by
    have h := (T.blk 0 rfl).at_ 0 rfl
    rw [hv4, hl4] at h
    exact h
  have HW := Lib.hid (with_out g a4 fs.length cc4 j hj (.func (.func 55) #[] #[.pointer (some ⟨W3.heap.size, 0, none⟩), .pointer (some ⟨w.heap.size, 0, none⟩), .pointer (some ⟨W1.heap.size, 0, none⟩)]) g0)
  have p0 := (S4.blk 3 rfl).at_ 0 rfl
  have q0 := (S4.blk 2 rfl).at_ 0 rfl
  have o0 := (S4.blk 0 rfl).at_ 0 rfl
  have o1 := (S4.blk 0 rfl).at_ 1 rfl
  have o2 := (S4.blk 0 rfl).at_ 2 rfl
  have HB := Lib.hid (S4.blk 1 rfl)
  have S8 := S4.setRow 1 rfl #[.int .i64 0, .bool false, .slice none 0 0]
  obtain ⟨W9, hW9⟩ : ∃ W9, W4.setRow W2.heap.size #[.int .i64 0, .bool false, .slice none 0 0] = W9 := ⟨_, rfl⟩
  rw [hW9] at S8
  have D := Lib.hid (S8.blk 1 rfl)
  have S9 := Lib.hid (S8.drop 0 |>.drop 0 |>.drop 0 |>.drop 0)
  clear S S1 S2 S3 S4 S8 T hes hl hv hes4 hl4 hv4 g0 hj hS
  go_enter Try.func33, Try.ntmps33
  go_wp2_with fail
  refine HW.out.mono ?_
  rintro en w5 ⟨rfl, rfl⟩
  go_wp2_with (
    refine wpList_store_row rfl 48 (.tmp 4) (.tmp 12) rfl W2.heap.size #[.int .i64 0, .bool false, .slice none 0 0] rfl rfl 48 _ HB.out size48 rfl (fl_one _ _ _ _ _) ?_
    rw [hW9])
  exact bodyPost_ret (ret33 _ W2.heap.size _ rfl rfl D.out) rfl ⟨rfl, S9.out⟩
theorem _root_.Go.Proofs.Ytmacmhlimdaemaa.Sep.back_under {A B C : Asn} {i : Nat} (h : Sep w0 w (B :: C :: L.eraseIdx i)) (hi : L[i]? = some A) : Sep w0 w (C :: L.set i B) := by
  obtain ⟨hl, _⟩ := List.getElem?_eq_some_iff.1 hi
  have h1 : (L.set i B)[i]? = some B := List.getElem?_set_self hl
  have h2 := perm_pick h1
  rw [List.eraseIdx_set_eq] at h2
  exact h.swap.perm (.cons _ h2)
def zeroF : Fl := ⟨0, false, []⟩
def inF (fs : List Fl) (j : Int) : Bool := decide (0 ≤ j ∧ j < (fs.length : Int))
def takeF (fs : List Fl) (j : Int) : Fl := if inF fs j = true then fs.getD j.toNat zeroF else zeroF
def takeE (fs : List Fl) (j : Int) : Int := if inF fs j = true then 0 else 5
def takeS (fs : List Fl) (j : Int) : List Fl := if inF fs j = true then fs.eraseIdx j.toNat else fs
/-- Take, whatever there is -/
theorem take_any {g : Nat} {fs : List Fl} {k : Int} (j : Int) (hm2 : fs.length ≤ 1000) (i : Nat) (hi : L[i]? = some (NetAt g fs k)) (hS : Sep w0 w L) :
    Calls Try.prog 33 #[.pointer (some ⟨g, 0, none⟩), .int .i64 j] w fun en w' => ∃ v, en = .returned (.tuple #[.agg #[.int .i64 (takeF fs j).c, .bool (takeF fs j).d, v], .int .i64 (takeE fs j)]) ∧ Sep w0 w' (BRow v (takeF fs j).b :: L.set i (NetAt g (takeS fs j) k)) := by
  unfold takeF takeE takeS
  by_cases h : inF fs j = true
  · rw [if_pos h, if_pos h, if_pos h]
    have h2 := of_decide_eq_true h
    obtain ⟨n, rfl⟩ : ∃ n : Nat, j = n := ⟨j.toNat, by omega⟩
    have hn : n < fs.length := by omega
    rw [Int.toNat_natCast]
    have hg : fs[n]? = some (fs.getD n zeroF) := by rw [List.getD_eq_getElem?_getD, List.getElem?_eq_getElem hn, Option.getD_some]
    exact (take_in g fs k n _ hg hm2 (hS.pick i hi)).mono fun en w' ⟨v, he, h⟩ => ⟨v, he, (h.swap.back_under hi)⟩
  · rw [if_neg h, if_neg h, if_neg h]
    have h2 : ¬ (0 ≤ j ∧ j < (fs.length : Int)) := fun e => h (decide_eq_true e)
    exact (take_out g fs k j (by omega) (hS.pick i hi)).mono fun en w' ⟨he, h⟩ => ⟨.slice none 0 0, he, (h.back hi).nilRowF 5 1⟩
end
end Go.Proofs.Ytmacmhlimdaemaa.Net
