/- Rows of bytes and of tokens as assertions; Match and Expand in that form. -/
import Derived.Test.YtgfjbbjdkmgdjaaSep
import Derived.Test.YtgfjbbjdkmgdjaaIn
import Derived.Test.YtgfjbbjdkmgdjaaKnownPure
import Derived.Laws.MakeOwn
import Derived.Test.YtgfjbbjdkmgdjaaExtLit
namespace Go.Proofs.Ytgfjbbjdkmgdjaa.L
open Go.RowKit Go.Proofs.YtgfjbbjdkmgdjaaW.PrintWords Go.Proofs.Ytgfjbbjdkmgdjaa.Lz Ext
def enB (x : Int) : Value := .int .u8 x
def BRow (v : Value) (l : List Int) : Asn := row 5 1 v l.length (l.map enB)
def s26C (x : S26) : List Value := [.int .u8 x.f0, .int .i64 x.f1, .int .i64 x.f2]
def sC (T : List S26) : List Value := T.flatMap s26C
def SRow (v : Value) (T : List S26) : Asn := row 26 3 v T.length (sC T)
theorem sC_len (T : List S26) : (sC T).length = T.length * 3 := by
  unfold sC
  induction T with
  | nil => rfl
  | cons x T ih => rw [List.flatMap_cons, List.length_append, ih, List.length_cons]; simp [s26C]; omega
theorem sC_append (T U : List S26) : sC (T ++ U) = sC T ++ sC U := by simp [sC]
theorem sC_toks (ts : List Tok) : toksC ts = sC (ts.map tokS) := by
  unfold toksC sC
  rw [List.flatMap_map]
  rfl
theorem reps_s {R : S26 → List Value → Prop} (h : ∀ x, R x (s26C x)) : ∀ (T : List S26) (ps : List S26) (cs : List Value), Reps R 3 ps cs → Reps R 3 (ps ++ T) (cs ++ sC T)
  | [], ps, cs, hr => by simpa [sC] using hr
  | t :: ts, ps, cs, hr => by
    have := reps_s h ts (ps ++ [t]) (cs ++ s26C t) (hr.snoc (h t) rfl)
    simpa [sC, List.append_assoc] using this
theorem run_make_bytes (n : Nat) (hn : n ≤ 1000000) (w : World) : (Instr.makeSlice 22 (.int .i64 (n : Int)) (.int .i64 (n : Int))).run Try.prog w = .ok (.slice (some ⟨w.heap.size, 0, none⟩) n n) (w.alloc (.cells (List.replicate n (enB 0)).toArray 5)) := by
  have h5 : (Try.prog.info? 5).map (fun i => (i.zero, i.size, i.bytes)) = some (some (.int .u8 0), 1, 1) := by kernel_rfl
  obtain ⟨i, hi, hz0, hz1, hz2⟩ := info_parts h5
  have hr := run_make (P := Try.prog) w 22 5 i (.int .u8 0) Try.underlying22 hi hz0 .i64 .i64 n n (by omega) (by omega) (by rw [hz2]; omega) (by omega)
  simp only [Int.toNat_natCast] at hr
  rw [hr, hz1, Nat.mul_one]
  congr 3
  apply Array.ext
  · simp [madeCells]
  · intro j h1 h2
    simp [madeCells, enB, Value.cells, Nat.mod_one]
theorem own_slice {w : World} {base : Nat} {e : TypeId} {size n : Nat} {v : Value} {xs : List Value} (h : w.ownsRow base e size v n xs) : ∃ a c, v = .slice a n c ∧ n ≤ c ∧ c ≤ maxLen := by
  rcases h.2 with ⟨rfl, rfl⟩ | ⟨g, cap, cur, rfl, _, _, h1, h2, _⟩
  · exact ⟨none, 0, rfl, Nat.le_refl _, Nat.zero_le _⟩
  · exact ⟨_, cap, rfl, h1, h2⟩
theorem own_cells {w : World} {base : Nat} {e : TypeId} {size n : Nat} {v : Value} {xs : List Value} (h : w.ownsRow base e size v n xs) (hn : 0 < n) : ∃ b c, v = .slice (some ⟨b, 0, none⟩) n c ∧ n ≤ c ∧ ∀ j u, xs[j]? = some u → w.cell? ⟨b, j, none⟩ = some u := by
  obtain ⟨a, c, hv, hc, -⟩ := own_slice h
  obtain ⟨g, cap, hv2, _, _⟩ := h.form hn
  rw [hv2] at hv
  injection hv with h1 h2 h3
  subst h1; subst h3
  refine ⟨g, cap, hv2, hc, fun j u hu => ?_⟩
  have := h.cells (g := g) (by rw [hv2]; rfl) j u hu
  have he : (⟨g, 0, none⟩ : Addr).add j = ⟨g, j, none⟩ := by unfold Addr.add; split <;> simp_all
  rwa [he] at this
section
variable {w0 w w' : World} {L : List Asn}
theorem bofR {l : List Int} {v : Value} (hS : Sep w0 w L) (hb : Below w.heap.size w w') (hR : Kd.R (Kd.int .u8) 5 w' w.heap.size (fun _ => True) v l) : Sep w0 w' (BRow v l :: L) := by
  have ho := Kd.own_of_R hR
  exact hS.madeF hb (own_weaken ho (Nat.zero_le _)) fun k hk => own_base ho k hk
theorem reads_n {l : List Int} {v : Value} (n : Nat) (hn : l.length = n) (hS : Sep w0 w L) (i : Nat) (hi : L[i]? = some (BRow v l)) : ∃ A c, v = .slice A n c ∧ n ≤ c ∧ Kd.C (Kd.int .u8) w A n l := by
  subst hn
  exact Kd.R_reads (Kd.R_of_own (enc := Value.int .u8) (h1 := fun _ => rfl) (ok := fun _ => True) (hS.own i hi) fun _ _ => trivial)
theorem sreads_n {T : List S26} {v : Value} (n : Nat) (hn : T.length = n) (hS : Sep w0 w L) (i : Nat) (hi : L[i]? = some (SRow v T)) : ∃ A c, v = .slice A n c ∧ n ≤ c ∧ Kd.C k26 w A n T := by
  subst hn
  have ho := hS.own i hi
  refine Kd.R_reads (d := k26) (e := 26) (base := 0) (ok := fun _ => True) ⟨fun _ _ => trivial, sC T, ho, ?_⟩
  exact reps_s (R := fun x cs => k26.M w 0 (fun k => True ∧ some k ≠ v.ownBlock) x cs) (fun x => k26_mkM _ _ _ _) T [] [] (Reps.none _ 3)
theorem sown_n {T : List S26} {v : Value} (n : Nat) (hn : T.length = n) (hS : Sep w0 w L) (i : Nat) (hi : L[i]? = some (SRow v T)) : w.ownsRow 0 26 3 v n (sC T) := by
  subst hn
  exact hS.own i hi
theorem own_n {l : List Int} {v : Value} (n : Nat) (hn : l.length = n) (hS : Sep w0 w L) (i : Nat) (hi : L[i]? = some (BRow v l)) : w.ownsRow 0 5 1 v n (l.map enB) := by
  subst hn
  exact hS.own i hi
theorem made_bytes (hS : Sep w0 w L) (n : Nat) (hn : n ≤ 1000000) : ∃ W, w.alloc (.cells (List.replicate n (enB 0)).toArray 5) = W ∧ Sep w0 W (cell w.heap.size 5 ((List.replicate n 0).map enB).toArray :: L) := by
  refine ⟨_, rfl, ?_⟩
  rw [List.map_replicate]
  exact hS.boxF 5 _
theorem close_bytes {b : Nat} {l : List Int} {n : Nat} (hn : l.length = n) (h : Sep w0 w (cell b 5 (l.map enB).toArray :: L)) (hm : n ≤ 1000000) : Sep w0 w (BRow (.slice (some ⟨b, 0, none⟩) n n) l :: L) := by
  subst hn
  exact Sep.closeRow h (by simp) (Nat.le_refl _) (by unfold maxLen; omega) (by simp) (by rw [Nat.mul_one]; exact List.take_of_length_le (by simp))
theorem close_toks {b : Nat} {T : List S26} {n : Nat} (hn : T.length = n) {cs : Array Value} (hc : cs = (sC T).toArray) (h : Sep w0 w (cell b 26 cs :: L)) (hm : n ≤ 1000000) : Sep w0 w (SRow (.slice (some ⟨b, 0, none⟩) n n) T :: L) := by
  subst hn hc
  exact Sep.closeRow h (sC_len T) (Nat.le_refl _) (by unfold maxLen; omega) (by simp [sC_len]) (List.take_of_length_le (by simp [sC_len]))
theorem far_made (hS : Sep w0 w L) : ∃ (W : World) (b : Nat) (l : List Int) (N : Nat), N = 32774 ∧ (Instr.makeSlice 22 (.int .i64 32774) (.int .i64 32774)).run Try.prog w = .ok (.slice (some ⟨b, 0, none⟩) N N) W ∧ l.length = N ∧ (∀ x ∈ l, 0 ≤ x ∧ x < 256) ∧ Sep w0 W (cell b 5 (l.map enB).toArray :: L) := by
  obtain ⟨W, hW, h⟩ := made_bytes hS 32774 (by decide)
  refine ⟨W, w.heap.size, List.replicate 32774 0, 32774, rfl, ?_, List.length_replicate, fun x hx => ?_, h⟩
  · rw [← hW]
    exact run_make_bytes 32774 (by decide) w
  · have := List.eq_of_mem_replicate hx
    omega
theorem far_put {b : Nat} {l : List Int} {n : Nat} (hn : l.length = n) (hl : ∀ x ∈ l, 0 ≤ x ∧ x < 256) (hS : Sep w0 w (cell b 5 (l.map enB).toArray :: L)) (i : Nat) (x : Int) (hx : 0 ≤ x ∧ x < 256) :
    ∃ l' : List Int, l'.length = n ∧ (∀ x ∈ l', 0 ≤ x ∧ x < 256) ∧ Sep w0 (w.setCell ⟨b, i, none⟩ (.int .u8 x)) (cell b 5 (l'.map enB).toArray :: L) := by
  have h := hS.put 0 rfl i (.int .u8 x)
  refine ⟨l.set i x, by rw [List.length_set]; exact hn, fun y hy => ?_, ?_⟩
  · rcases List.mem_or_eq_of_mem_set hy with h | rfl
    · exact hl _ h
    · exact hx
  · have he : ((l.map enB).toArray.setIfInBounds i (.int .u8 x)) = ((l.set i x).map enB).toArray := by
      rw [List.map_set]
      simp [enB]
    rw [← he]
    exact h
theorem match_n (l : List Int) (n : Nat) (hn : l.length = n) (hl : okM l = true) (T : List S26) (hT : (matchS (nat l)).map tokS = T) (A : Option Addr) (c : Nat) (hC : Kd.C (Kd.int .u8) w A n l) (hc : n ≤ c) (hS : Sep w0 w L) :
    Calls Try.prog 10 #[.slice A n c] w fun en w' => ∃ v, en = .returned v ∧ Sep w0 w' (SRow v T :: L) := by
  subst hn hT
  refine (match_calls A c l w hC hc hl).mono fun _ _ ⟨v, he, ho, hb⟩ => ⟨v, he, ?_⟩
  rw [sC_toks] at ho
  unfold SRow
  rw [List.length_map]
  exact hS.madeF hb (own_weaken ho (Nat.zero_le _)) fun k hk => own_base ho k hk
theorem expand_n (T : List S26) (n : Nat) (hn : T.length = n) (h6 : n ≤ 1000000) (hok : ∀ x ∈ T, okS x) (l : List Int) (k : Int) (hr : expS T [] = (l, k)) (A : Option Addr) (c : Nat) (hC : Kd.C k26 w A n T) (hc : n ≤ c) (hS : Sep w0 w L) :
    Calls Try.prog 13 #[.slice A n c] w fun en w' => ∃ v, en = .returned (.tuple #[v, .int .i64 k]) ∧ Sep w0 w' (BRow v l :: L) := by
  subst hn
  have := expand_plain T h6 hok A c w hC hc
  rw [hr] at this
  exact this.mono fun _ _ ⟨v, he, hR, hb⟩ => ⟨v, he, bofR hS hb hR⟩
/-- a constant text as bytes -/
theorem text_n (l : List Int) (n : Nat) (hn : l.length = n) (h6 : n ≤ 1000) (C : Array Value) (hC : (l.map enB).toArray = C) (hS : Sep w0 w L) : ∃ W, (convert 22 22 (.slice (some ⟨w.heap.size, 0, none⟩) n n)).run Try.prog (w.alloc (.cells C 5)) = .ok (.slice (some ⟨w.heap.size, 0, none⟩) n n) W ∧
    Kd.C (Kd.int .u8) W (some ⟨w.heap.size, 0, none⟩) n l ∧ Sep w0 W L := by
  subst hn hC
  refine ⟨_, Go.Lib.run_convert_bytes_const w 22 5 _ _ _ Try.underlying22 Try.underlying5, ?_, hS.grow ((Below.refl _ _).alloc (Nat.le_refl _) _)⟩
  exact litc_reads w _ 5 l (by omega) (heap_alloc_new _ _)
end
end Go.Proofs.Ytgfjbbjdkmgdjaa.L
