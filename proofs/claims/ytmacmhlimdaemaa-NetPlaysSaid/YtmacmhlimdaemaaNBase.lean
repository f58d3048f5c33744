/- A net as an assertion: its cell, the row of its flights, and each flight's bytes. -/
import Derived.Test.YtmacmhlimdaemaaBRowA
import Derived.Test.YtmacmhlimdaemaaBund
import Derived.Test.YtmacmhlimdaemaaIn
import Derived.Outline
namespace Go.Proofs.Ytmacmhlimdaemaa.Net
open Go.RowKit Go.Proofs.YtmacmhlimdaemaaW.PrintWords Go.Proofs.Ytmacmhlimdaemaa.R Go.Proofs.Ytmacmhlimdaemaa.Pkt
/-- a flight -/
structure Fl where
  c : Int
  d : Bool
  b : List Int
def Fl.cells (f : Fl) (v : Value) : List Value := [.int .i64 f.c, .bool f.d, v]
def Fl.agg (f : Fl) (v : Value) : Value := .agg #[.int .i64 f.c, .bool f.d, v]
/-- a flight and the slice of its bytes -/
abbrev Ent := Value × Fl
def entC (es : List Ent) : List Value := es.flatMap fun e => e.2.cells e.1
theorem entC_len (es : List Ent) : (entC es).length = es.length * 3 := by
  unfold entC
  induction es with
  | nil => rfl
  | cons x T ih => rw [List.flatMap_cons, List.length_append, ih, List.length_cons]; simp [Fl.cells]; omega
theorem entC_append (es fs : List Ent) : entC (es ++ fs) = entC es ++ entC fs := by simp [entC]
theorem entC_get : ∀ (es : List Ent) (i : Nat) (hi : i < es.length) (j : Nat) (u : Value), (es[i].2.cells es[i].1)[j]? = some u → (entC es)[i * 3 + j]? = some u
  | [], i, hi, _, _, _ => by simp at hi
  | e :: es, 0, _, j, u, h => by
    have hj : j < 3 := by have := (List.getElem?_eq_some_iff.1 h).1; simpa [Fl.cells] using this
    rw [Nat.zero_mul, Nat.zero_add]
    unfold entC
    rw [List.flatMap_cons, List.getElem?_append_left (by simp [Fl.cells]; omega)]
    exact h
  | e :: es, i + 1, hi, j, u, h => by
    have := entC_get es i (by simpa using hi) j u (by simpa using h)
    unfold entC at this ⊢
    rw [List.flatMap_cons, List.getElem?_append_right (by simp [Fl.cells]; omega), show (i + 1) * 3 + j - (Fl.cells e.2 e.1).length = i * 3 + j by simp [Fl.cells]; omega]
    exact this
def rowE (e : Ent) : Asn := BRow e.1 e.2.b
/-- what a net is made of -/
def netL (g : Nat) (v : Value) (es : List Ent) (k : Int) : List Asn := cell g 80 #[v, .int .i64 k] :: rowX 48 3 v es.length (entC es) :: es.map rowE
/-- the net at g has these flights -/
def NetAt (g : Nat) (fs : List Fl) (k : Int) : Asn := exA fun x : { x : Value × List Ent // x.2.map (·.2) = fs } => bund (netL g x.1.1 x.1.2 k)
theorem own_slice {w : World} {base : Nat} {e : TypeId} {size n : Nat} {v : Value} {xs : List Value} (h : w.ownsRow base e size v n xs) : ∃ a c, v = .slice a n c ∧ n ≤ c ∧ c ≤ maxLen := by
  rcases h.2 with ⟨rfl, rfl⟩ | ⟨g, cap, cur, rfl, _, _, h1, h2, _⟩
  · exact ⟨none, 0, rfl, Nat.le_refl _, Nat.zero_le _⟩
  · exact ⟨_, cap, rfl, h1, h2⟩
section
variable {w0 w w' : World} {L M : List Asn}
theorem own_n {l : List Int} {v : Value} (n : Nat) (hn : l.length = n) (hS : Sep w0 w L) (i : Nat) (hi : L[i]? = some (BRow v l)) : w.ownsRow 0 5 1 v n (l.map enB) := by
  subst hn
  exact own_bytes hS hi
theorem _root_.Go.Proofs.Ytmacmhlimdaemaa.Sep.openNet {g : Nat} {fs : List Fl} {k : Int} (h : Sep w0 w (NetAt g fs k :: L)) : ∃ v es, es.map (·.2) = fs ∧ Sep w0 w (cell g 80 #[v, .int .i64 k] :: rowX 48 3 v es.length (entC es) :: (es.map rowE ++ L)) := by
  obtain ⟨⟨⟨v, es⟩, hx⟩, h⟩ := h.openE
  exact ⟨v, es, hx, h.unbund⟩
theorem _root_.Go.Proofs.Ytmacmhlimdaemaa.Sep.closeNet {g : Nat} {v : Value} {es : List Ent} {fs : List Fl} {k : Int} (hx : es.map (·.2) = fs) (h : Sep w0 w (cell g 80 #[v, .int .i64 k] :: rowX 48 3 v es.length (entC es) :: (es.map rowE ++ L))) : Sep w0 w (NetAt g fs k :: L) := by
  have h1 : Sep w0 w (netL g v es k ++ L) := h
  exact Sep.closeE (P := fun x : { x : Value × List Ent // x.2.map (·.2) = fs } => bund (netL g x.1.1 x.1.2 k)) ⟨(v, es), hx⟩ h1.bund
theorem _root_.Go.Proofs.Ytmacmhlimdaemaa.Sep.ownX {e : TypeId} {size : Nat} {v : Value} {n : Nat} {xs : List Value} (h : Sep w0 w L) (i : Nat) (hi : L[i]? = some (rowX e size v n xs)) : ownsX w e size v n xs := by
  obtain ⟨F, hA, _⟩ := h.get i hi
  exact hA.1
theorem _root_.Go.Proofs.Ytmacmhlimdaemaa.Sep.pushedX {e : TypeId} {size : Nat} {v v' : Value} {n n' : Nat} {xs xs' : List Value} (h : Sep w0 w L) (i : Nat) (hi : L[i]? = some (rowX e size v n xs)) (hown : ownsX w' e size v' n' xs') (hg : w.grownBy w' v.ownBlock)
    (hat : v'.ownBlock = v.ownBlock ∨ v'.ownBlock = some w.heap.size) : Sep w0 w' (L.set i (rowX e size v' n' xs')) := by
  obtain ⟨F, hA, hF, hup⟩ := h.step i hi
  refine hup _ _ (fun k => v'.ownBlock = some k) ((Only.of_grown hg).mono fun k hk => (hA.2 k).2 hk) ⟨hown, fun _ => Iff.rfl⟩ fun k hk => ?_
  rcases hat with h1 | h1
  · exact .inl ((hA.2 k).2 (h1.symm.trans hk))
  · rw [h1] at hk; injection hk with hk; exact .inr (by omega)
theorem _root_.Go.Proofs.Ytmacmhlimdaemaa.Sep.nilX (h : Sep w0 w L) (e : TypeId) (size : Nat) : Sep w0 w (rowX e size (.slice none 0 0) 0 [] :: L) := by
  refine ⟨h.below, fun _ => False, ⟨⟨by simp, .inl ⟨rfl, rfl⟩⟩, fun k => by simp [Value.ownBlock]⟩, fun k hk => hk.elim, Hold.weaken h.hold fun k _ hk => ⟨hk, fun h => h⟩⟩
theorem fl_one (c : Int) (d : Bool) (A : Option Addr) (n m : Nat) : #[Value.int .i64 c, .bool d, .slice A n m].all (·.oneCell') = true := by kernel_rfl
theorem size48 : (Try.prog.info? 48).map (·.size) = some 3 := by kernel_rfl
theorem clone_n (l : List Int) (n : Nat) (hn : l.length = n) (hl : n ≤ 140737488351232) (A : Option Addr) (c : Nat) (hC : Kd.C (Kd.int .u8) w A n l) (hc : n ≤ c) (hS : Sep w0 w L) :
    Calls Try.prog 51 #[.slice A n c] w fun en w' => ∃ v, en = .returned v ∧ Sep w0 w' (BRow v l :: L) := by
  subst hn
  exact clone_any l hl A c hC hc hS
/-- own: a flight with bytes of its own -/
theorem own_any (f : Fl) (n : Nat) (hn : f.b.length = n) (hl : n ≤ 140737488351232) (A : Option Addr) (c : Nat) (hC : Kd.C (Kd.int .u8) w A n f.b) (hc : n ≤ c) (hS : Sep w0 w L) :
    Calls Try.prog 53 #[f.agg (.slice A n c)] w fun en w' => ∃ v, en = .returned (f.agg v) ∧ Sep w0 w' (BRow v f.b :: L) := by
  obtain ⟨W1, hW1, S1⟩ := hS.boxedF 48 #[.int .i64 f.c, .bool f.d, .slice A n c]
  obtain ⟨W2, hW2, S2⟩ := S1.boxedF 48 #[.int .i64 0, .bool false, .slice none 0 0]
  have hb1 : Below w.heap.size w W1 := by rw [← hW1]; exact (Below.refl _ _).alloc (Nat.le_refl _) _
  have hb2 : Below W1.heap.size W1 W2 := by rw [← hW2]; exact (Below.refl _ _).alloc (Nat.le_refl _) _
  have HC2 := Lib.hid (Kd.C_below (Kd.C_below hC hb1) hb2)
  have k1 := (S2.blk 1 rfl).at_ 2 rfl
  have Hm := Lib.hid hn
  have Hl := Lib.hid hl
  have Hc := Lib.hid hc
  unfold Fl.agg
  clear hC hn hl hc hb1 hb2 S1 hS
  go_enter Try.func53, Try.ntmps53
  go_wp2_with fail
  refine (clone_n f.b n Hm.out Hl.out A c HC2.out Hc.out S2).mono ?_
  rintro en w3 ⟨v, rfl, S3⟩
  obtain ⟨W4, hW4⟩ : ∃ W4, w3.setCell ⟨w.heap.size, 2, none⟩ v = W4 := ⟨_, rfl⟩
  have q0 := (S3.blk 2 rfl).at_ 2 rfl
  have z0 := (S3.blk 2 rfl).frozen 2
  obtain ⟨a, c', rfl, -, -⟩ := own_slice (own_n n Hm.out S3 0 rfl)
  have S4 := S3.put 2 rfl 2 (.slice a n c')
  rw [hW4] at S4
  have r0 := (S4.blk 2 rfl).at_ 0 rfl
  have r1 := (S4.blk 2 rfl).at_ 1 rfl
  have r2 := (S4.blk 2 rfl).at_ 2 rfl
  obtain ⟨W5, hW5⟩ : ∃ W5, W4.setRow W1.heap.size #[.int .i64 f.c, .bool f.d, .slice a n c'] = W5 := ⟨_, rfl⟩
  have S5 := S4.setRow 1 rfl #[.int .i64 f.c, .bool f.d, .slice a n c']
  rw [hW5] at S5
  have D := S5.blk 1 rfl
  have HS := Lib.hid (S5.drop 1)
  have HB := Lib.hid (S4.blk 1 rfl)
  clear S2 k1 S3 S4 S5
  go_wp2_with (
    refine wpList_store_row rfl 48 (.tmp 2) (.tmp 7) rfl W1.heap.size #[.int .i64 f.c, .bool f.d, .slice a n c'] rfl rfl 48 _ HB.out size48 rfl (fl_one _ _ _ _ _) ?_
    rw [hW5])
  exact bodyPost_ret (v := .agg #[.int .i64 f.c, .bool f.d, .slice a n c']) (results_cell_row (p := 2) rfl _ _ _ 48 _ (0, 0) _ rfl D Try.underlying48 rfl (by kernel_rfl)) rfl ⟨_, rfl, HS.out.drop 1⟩
/-- own, written out -/
theorem own_out (f : Fl) (n : Nat) (hn : f.b.length = n) (hl : n ≤ 140737488351232) (A : Option Addr) (c : Nat) (hC : Kd.C (Kd.int .u8) w A n f.b) (hc : n ≤ c) (hS : Sep w0 w L) :
    Calls Try.prog 53 #[.agg #[.int .i64 f.c, .bool f.d, .slice A n c]] w fun en w' => ∃ v, en = .returned (.agg #[.int .i64 f.c, .bool f.d, v]) ∧ Sep w0 w' (BRow v f.b :: L) := own_any f n hn hl A c hC hc hS
end
end Go.Proofs.Ytmacmhlimdaemaa.Net
