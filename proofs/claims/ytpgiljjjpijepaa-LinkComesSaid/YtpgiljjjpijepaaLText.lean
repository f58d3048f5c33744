/- Strings of bytes, constant texts; a packet of a row is taken. -/
import Derived.Test.YtpgiljjjpijepaaLTick
import Derived.Laws.BytesArg
namespace Go.Proofs.Ytpgiljjjpijepaa
open Go.RowKit
/-- the string of bytes -/
def strB (l : List Nat) : ByteArray := strOfNums (l.map Int.ofNat)
section
variable {w0 w w' : World} {L M : List Asn}
theorem str_conv {n c : Nat} {A : Option Addr} {l : List Nat} (h : RB w A n l) : (convert 27 9 (.slice A n c)).run Try.prog w = .ok (.string (strB l)) w := by
  obtain ⟨hlen, -, h2⟩ := h
  rw [run_convert_bytes_string w 27 9 5 _ n c Try.underlying27 Try.underlying5 Try.underlying9]
  rcases A with _ | ad
  · have hn : n = 0 := by
      rcases Nat.eq_zero_or_pos n with h0 | h0
      · exact h0
      · obtain ⟨_, e, _⟩ := h2 h0
        cases e
    subst hn
    obtain rfl : l = [] := List.eq_nil_of_length_eq_zero hlen
    simp [Conv.bytesToString]
    rfl
  · have hl : (loadCells ad n).run Try.prog w = .ok ((l.map Int.ofNat).map (Value.int .u8)).toArray w := by
      have hm : (l.map Int.ofNat).map (Value.int .u8) = l.map enB := by rw [List.map_map]; rfl
      rw [hm]
      have := run_loadCells_list (P := Try.prog) w ad (l.map enB) (fun j v hj => by
        rcases Nat.eq_zero_or_pos n with h0 | h0
        · subst h0
          obtain rfl : l = [] := List.eq_nil_of_length_eq_zero hlen
          simp at hj
        · obtain ⟨ad', e, _, hc⟩ := h2 h0
          injection e with e
          subst e
          exact hc j v hj)
      simpa [hlen] using this
    rw [run_bytesToString w _ n c _ hl, foldl_push_bytes]
    simp [strB, strOfNums, ByteArray.empty, ByteArray.emptyWithCapacity]
    rfl
/-- '[]byte("..")' -/
theorem text_n (l : List Nat) (n : Nat) (hn : l.length = n) (C : Array Value) (hC : (l.map enB).toArray = C) (hS : Sep w0 w L) :
    ∃ W, (convert 27 27 (.slice (some ⟨w.heap.size, 0, none⟩) n n)).run Try.prog (w.alloc (.cells C 5)) = .ok (.slice (some ⟨w.heap.size, 0, none⟩) n n) W ∧ RB W (some ⟨w.heap.size, 0, none⟩) n l ∧ Sep w0 W L := by
  subst hn hC
  refine ⟨_, Go.Lib.run_convert_bytes_const w 27 5 _ _ _ Try.underlying27 Try.underlying5, ⟨rfl, by simp, fun _ => ⟨_, rfl, by simp, fun j u hu => ?_⟩⟩, hS.grow ((Below.refl _ _).alloc (Nat.le_refl _) _)⟩
  have he : (⟨w.heap.size, 0, none⟩ : Addr).add j = ⟨w.heap.size, j, none⟩ := by unfold Addr.add; split <;> simp_all
  rw [he, cell_of_row _ _ j _ _ _ (heap_alloc_new w _), ← Array.getElem?_toList]
  exact hu
/-- a packet of a row is taken -/
theorem take_of {v : Value} {ps : List Pk} {g : Nat} {s : LS} (k : Nat) (p : Pk) (hk : ps[k]? = some p) (ho : p.o < 18446744073709551616) (ha : p.a < 18446744073709551616) (hd : p.d.length ≤ 1000000)
    (hw : s.most ≤ s.base + s.wait.length) (hl : s.wait.length ≤ 1048576) (hnx : s.next ≤ 1000000000000) (hg : s.got.length ≤ 1048576) (i : Nat) (hi : L[i]? = some (LinkAt g s)) (hS : Sep w0 w (PkX v ps :: L)) :
    ∃ (es : List EntP) (ds : List EntD) (b o : Nat) (B : Option Addr) (c vc : Nat), v = .slice (some ⟨b, o, none⟩) ps.length vc ∧ Sep w0 w (row 32 4 v es.length (entP es) :: (ds.map rowD ++ L)) ∧ w.cell? ⟨b, o + k * 4, none⟩ = some (.int .u32 (p.e : Int)) ∧ w.cell? ⟨b, o + k * 4 + 1, none⟩ = some (.int .u64 (p.o : Int)) ∧
      w.cell? ⟨b, o + k * 4 + 2, none⟩ = some (.int .u64 (p.a : Int)) ∧ w.cell? ⟨b, o + k * 4 + 3, none⟩ = some (.slice B p.d.length c) ∧ RB w B p.d.length p.d ∧
      (∀ W, Sep w0 W (row 32 4 v es.length (entP es) :: (ds.map rowD ++ L)) → Sep w0 W (PkX v ps :: L)) ∧
      (∀ W, Sep w0 W (row 32 4 v es.length (entP es) :: (ds.map rowD ++ L)) → Calls Try.prog 13 #[.pointer (some ⟨g, 0, none⟩), .agg #[.int .u32 (p.e : Int), .int .u64 (p.o : Int), .int .u64 (p.a : Int), .slice B p.d.length c]] W fun en w' =>
        en = .returned (.int .i64 (takeE s p)) ∧ Sep w0 w' (PkX v ps :: L.set i (LinkAt g (takeS s p)))) ∧
      (∀ W, Sep w0 W (row 32 4 v es.length (entP es) :: (ds.map rowD ++ L)) → W.cell? ⟨b, o + k * 4, none⟩ = some (.int .u32 (p.e : Int)) ∧ W.cell? ⟨b, o + k * 4 + 1, none⟩ = some (.int .u64 (p.o : Int)) ∧ W.cell? ⟨b, o + k * 4 + 2, none⟩ = some (.int .u64 (p.a : Int)) ∧ W.cell? ⟨b, o + k * 4 + 3, none⟩ = some (.slice B p.d.length c)) := by
  obtain ⟨es, ds, hes, hds, S⟩ := hS.openK
  obtain ⟨VA, vc, hv, -, -⟩ := own_slice (S.own 0 rfl)
  have hlen : es.length = ps.length := by rw [← hes, List.length_map]
  rw [← hes, List.getElem?_map] at hk
  obtain ⟨e, he1, rfl⟩ : ∃ e, es[k]? = some e ∧ e.2 = p := by
    cases hq : es[k]? with
    | none => rw [hq] at hk; cases hk
    | some e => rw [hq] at hk; exact ⟨e, rfl, by injection hk⟩
  obtain ⟨hkl, he2⟩ := List.getElem?_eq_some_iff.1 he1
  have hr := Reads.of_own (by have h := S.own 0 rfl; rwa [hv] at h)
  obtain ⟨b, o, hA, -, hc⟩ := Reads.elem (cells := fun e : EntP => e.2.cells e.1) (fun _ => rfl) (by decide) hr hkl
  rw [he2] at hc
  have hmem : (e.1, e.2.d) ∈ ds := hds e (by rw [← he2]; exact List.getElem_mem hkl)
  obtain ⟨B, c, h1, h2, -, h4⟩ := rb_of S.tail hmem
  refine ⟨es, ds, b, o, B, c, vc, by rw [hv, hA, hlen], S, hc 0 _ rfl, hc 1 _ rfl, hc 2 _ rfl, by rw [← h1]; exact hc 3 _ rfl, h4, fun W h => h.closeK hes hds, ?_, ?_⟩
  rotate_left
  · intro W hW
    have hr2 := Reads.of_own (by have h := hW.own 0 rfl; rwa [hv] at h)
    obtain ⟨b2, o2, hA2, -, hc2⟩ := Reads.elem (cells := fun e : EntP => e.2.cells e.1) (fun _ => rfl) (by decide) hr2 hkl
    rw [hA] at hA2
    injection hA2 with hA2
    injection hA2 with e1 e2
    subst e1 e2
    rw [he2] at hc2
    exact ⟨hc2 0 _ rfl, hc2 1 _ rfl, hc2 2 _ rfl, by rw [← h1]; exact hc2 3 _ rfl⟩
  intro W hW
  have hil := (List.getElem?_eq_some_iff.1 hi).1
  have hi2 : (row 32 4 v es.length (entP es) :: (ds.map rowD ++ L))[ds.length + i + 1]? = some (LinkAt g s) := by
    rw [List.getElem?_cons_succ, List.getElem?_append_right (by simp), List.length_map, Nat.add_sub_cancel_left]
    exact hi
  have hset : ∀ A, (row 32 4 v es.length (entP es) :: (ds.map rowD ++ L)).set (ds.length + i + 1) A = row 32 4 v es.length (entP es) :: (ds.map rowD ++ L.set i A) := by
    intro A
    rw [List.set_cons_succ, List.set_append_right _ _ (by simp), List.length_map, Nat.add_sub_cancel_left]
  refine (take_any (ds.length + i + 1) e.2 B e.2.d.length c ho ha ?_ h2 hd hw hl hnx hg hi2 hW).mono ?_
  · intro W2 s2 h
    rw [hset] at h
    obtain ⟨B', c', q1, -, -, q4⟩ := rb_of h.tail hmem
    rw [h1] at q1
    injection q1 with q1
    rw [q1]
    exact q4
  · rintro en w2 ⟨rfl, h⟩
    rw [hset] at h
    exact ⟨rfl, h.closeK hes hds⟩
end
end Go.Proofs.Ytpgiljjjpijepaa
