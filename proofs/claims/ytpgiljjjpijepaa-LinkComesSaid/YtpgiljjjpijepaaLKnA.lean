/- Rows that are made, texts as rows of the call's own: for the closed example. -/
import Derived.Test.YtpgiljjjpijepaaLCarry
import Derived.Laws.MakeOwn
namespace Go.Proofs.Ytpgiljjjpijepaa
open Go.RowKit
theorem run_make_bytes (n : Nat) (hn : n ≤ 2000000) (w : World) : (Instr.makeSlice 27 (.int .i64 (n : Int)) (.int .i64 (n : Int))).run Try.prog w = .ok (.slice (some ⟨w.heap.size, 0, none⟩) n n) (w.alloc (.cells (List.replicate n (enB 0)).toArray 5)) := by
  obtain ⟨i, hi, hz0, hz1, hz2⟩ := info_parts info5
  have hr := run_make (P := Try.prog) w 27 5 i (.int .u8 0) Try.underlying27 hi hz0 .i64 .i64 n n (by omega) (by omega) (by rw [hz2]; omega) (by omega)
  simp only [Int.toNat_natCast] at hr
  rw [hr, hz1, Nat.mul_one]
  congr 3
  apply Array.ext
  · simp [madeCells]
  · intro j h1 h2
    simp [madeCells, enB, Value.cells, Nat.mod_one]
/-- a block of bytes that nobody turns -/
def textA (b : Nat) (l : List Nat) : Asn :=
  ⟨fun F w => (∃ fr, w.heap[b]? = some (.cells (l.map enB).toArray 5 fr)) ∧ ∀ k, F k ↔ k = b, fun h hk => ⟨by obtain ⟨fr, hf⟩ := h.1; exact ⟨fr, (hk _ ((h.2 _).2 rfl)).trans hf⟩, h.2⟩, fun h k hk => by
    have hb := (h.2 k).1 hk
    obtain ⟨fr, hf⟩ := h.1
    subst hb
    exact (Array.getElem?_eq_some_iff.1 hf).1⟩
section
variable {w0 w w' : World} {L M : List Asn}
theorem Sep.boxText (h : Sep w0 w L) (l : List Nat) (fr : Nat × Nat) : Sep w0 (w.alloc (.cells (l.map enB).toArray 5 fr)) (textA w.heap.size l :: L) :=
  (h.growMore ((Below.refl _ _).alloc (Nat.le_refl _) _) (Bs := [textA w.heap.size l]) ⟨fun k => k = w.heap.size, ⟨⟨fr, heap_alloc_new w _⟩, fun _ => Iff.rfl⟩, fun k hk => by omega, trivial⟩).perm (List.perm_append_singleton _ _)
/-- 'make([]byte, n)' as a block -/
theorem make_cell (n : Nat) (hn : n ≤ 2000000) (m : Int) (hm : m = n) (hS : Sep w0 w L) : ∃ W, (Instr.makeSlice 27 (.int .i64 m) (.int .i64 m)).run Try.prog w = .ok (.slice (some ⟨w.heap.size, 0, none⟩) n n) W ∧ Sep w0 W (cell w.heap.size 5 (List.replicate n (enB 0)).toArray :: L) := by
  subst hm
  exact ⟨_, run_make_bytes n hn w, hS.boxF 5 _⟩
theorem close_row {b n : Nat} {cs : Array Value} (l : List Nat) (hl : l.length = n) (hn : n ≤ 2000000) (hc : cs.toList = l.map enB) (h : Sep w0 w (cell b 5 cs :: L)) : Sep w0 w (BRow (.slice (some ⟨b, 0, none⟩) n n) l :: L) := by
  subst hl
  have hs : cs.size = l.length := by rw [← Array.length_toList, hc, List.length_map]
  exact Sep.closeRow h (by simp) (Nat.le_refl _) (by unfold maxLen; omega) (by omega) (by rw [hc, Nat.mul_one]; exact List.take_of_length_le (by simp))
/-- n zeros -/
def zs (n : Nat) : List Nat := List.replicate n 0
theorem zs_len (n : Nat) : (zs n).length = n := List.length_replicate
theorem make_row (n : Nat) (hn : n ≤ 2000000) (m : Int) (hm : m = n) (hS : Sep w0 w L) : ∃ W, (Instr.makeSlice 27 (.int .i64 m) (.int .i64 m)).run Try.prog w = .ok (.slice (some ⟨w.heap.size, 0, none⟩) n n) W ∧ Sep w0 W (BRow (.slice (some ⟨w.heap.size, 0, none⟩) n n) (zs n) :: L) := by
  obtain ⟨W, h1, h2⟩ := make_cell n hn m hm hS
  exact ⟨W, h1, close_row (zs n) (zs_len n) hn (by simp [zs]) h2⟩
/-- a row that is built -/
theorem built_row (l : List Nat) (n : Nat) (hn : l.length = n) (hn2 : n ≤ 2000000) (C : Array Value) (hC : (l.map enB).toArray = C) (hS : Sep w0 w L) : ∃ W, w.alloc (.cells C 5) = W ∧ Sep w0 W (BRow (.slice (some ⟨w.heap.size, 0, none⟩) n n) l :: L) := by
  subst hC
  exact ⟨_, rfl, close_row l hn hn2 rfl (hS.boxF 5 _)⟩
theorem text_row (l : List Nat) (n : Nat) (hn : l.length = n) (C : Array Value) (hC : (l.map enB).toArray = C) (hS : Sep w0 w L) :
    ∃ W, (convert 27 27 (.slice (some ⟨w.heap.size, 0, none⟩) n n)).run Try.prog (w.alloc (.cells C 5)) = .ok (.slice (some ⟨w.heap.size, 0, none⟩) n n) W ∧ Sep w0 W (textA w.heap.size l :: L) := by
  subst hn hC
  exact ⟨_, Go.Lib.run_convert_bytes_const w 27 5 _ _ _ Try.underlying27 Try.underlying5, hS.boxText l _⟩
theorem text_reads {b n : Nat} {l : List Nat} (hn : l.length = n) (i : Nat) (hi : L[i]? = some (textA b l)) (hS : Sep w0 w L) : RB w (some ⟨b, 0, none⟩) n l := by
  subst hn
  obtain ⟨F, ⟨⟨fr, hA⟩, -⟩, -⟩ := hS.get i hi
  refine ⟨rfl, by simp, fun _ => ⟨_, rfl, (Array.getElem?_eq_some_iff.1 hA).1, fun j u hu => ?_⟩⟩
  have he : (⟨b, 0, none⟩ : Addr).add j = ⟨b, j, none⟩ := by unfold Addr.add; split <;> simp_all
  rw [he, cell_of_row _ _ j _ _ _ hA, ← Array.getElem?_toList]
  exact hu
theorem RB.nil (w : World) (c : Nat) : RB w none 0 [] ∧ 0 ≤ c := ⟨⟨rfl, Reads.none_⟩, Nat.zero_le _⟩
/-- a packet is taken whose data lie in the first one -/
theorem take_first {D : Asn} {g : Nat} {s : LS} {A : Option Addr} {c : Nat} (i : Nat) (p : Pk) (n : Nat) (hD : ∀ W M, Sep w0 W (D :: M) → RB W A n p.d) (hnc : n ≤ c) (ho : p.o < 18446744073709551616) (ha : p.a < 18446744073709551616) (hn6 : n ≤ 1000000)
    (hw : s.most ≤ s.base + s.wait.length) (hl : s.wait.length ≤ 1048576) (hnx : s.next ≤ 1000000000000) (hg : s.got.length ≤ 1048576) (hi : L[i]? = some (LinkAt g s)) (hS : Sep w0 w (D :: L)) :
    Calls Try.prog 13 #[.pointer (some ⟨g, 0, none⟩), .agg #[.int .u32 (p.e : Int), .int .u64 (p.o : Int), .int .u64 (p.a : Int), .slice A n c]] w fun en w' => en = .returned (.int .i64 (takeE s p)) ∧ Sep w0 w' (L.set i (LinkAt g (takeS s p))) := by
  refine (take_any (i + 1) p A n c ho ha (fun W s' h => ?_) hnc hn6 hw hl hnx hg (by rw [List.getElem?_cons_succ]; exact hi) hS).mono ?_
  · have h2 : Sep w0 W (D :: L.set i (LinkAt g s')) := h
    exact hD W _ h2
  · rintro en w2 ⟨rfl, h⟩
    have h2 : Sep w0 w2 (D :: L.set i (LinkAt g (takeS s p))) := h
    exact ⟨rfl, h2.tail⟩
theorem take_row {g : Nat} {s : LS} {A : Option Addr} {c : Nat} (i : Nat) (p : Pk) (n : Nat) (hn : p.d.length = n) (ho : p.o < 18446744073709551616) (ha : p.a < 18446744073709551616) (hn6 : n ≤ 1000000)
    (hw : s.most ≤ s.base + s.wait.length) (hl : s.wait.length ≤ 1048576) (hnx : s.next ≤ 1000000000000) (hg : s.got.length ≤ 1048576) (hi : L[i]? = some (LinkAt g s)) (hS : Sep w0 w (BRow (.slice A n c) p.d :: L)) :
    Calls Try.prog 13 #[.pointer (some ⟨g, 0, none⟩), .agg #[.int .u32 (p.e : Int), .int .u64 (p.o : Int), .int .u64 (p.a : Int), .slice A n c]] w fun en w' => en = .returned (.int .i64 (takeE s p)) ∧ Sep w0 w' (L.set i (LinkAt g (takeS s p))) := by
  subst hn
  exact take_first i p _ (fun _ _ h => (h.rb 0 rfl).1) (hS.rb 0 rfl).2.1 ho ha hn6 hw hl hnx hg hi hS
theorem take_text {g b : Nat} {s : LS} (i : Nat) (p : Pk) (n : Nat) (hn : p.d.length = n) (ho : p.o < 18446744073709551616) (ha : p.a < 18446744073709551616) (hn6 : n ≤ 1000000)
    (hw : s.most ≤ s.base + s.wait.length) (hl : s.wait.length ≤ 1048576) (hnx : s.next ≤ 1000000000000) (hg : s.got.length ≤ 1048576) (hi : L[i]? = some (LinkAt g s)) (hS : Sep w0 w (textA b p.d :: L)) :
    Calls Try.prog 13 #[.pointer (some ⟨g, 0, none⟩), .agg #[.int .u32 (p.e : Int), .int .u64 (p.o : Int), .int .u64 (p.a : Int), .slice (some ⟨b, 0, none⟩) n n]] w fun en w' => en = .returned (.int .i64 (takeE s p)) ∧ Sep w0 w' (L.set i (LinkAt g (takeS s p))) :=
  take_first i p n (fun _ _ h => text_reads hn 0 rfl h) (Nat.le_refl _) ho ha hn6 hw hl hnx hg hi hS
/-- a packet without data is taken -/
theorem take_bare {g : Nat} {s : LS} (i : Nat) (p : Pk) (hn : p.d = []) (ho : p.o < 18446744073709551616) (ha : p.a < 18446744073709551616)
    (hw : s.most ≤ s.base + s.wait.length) (hl : s.wait.length ≤ 1048576) (hnx : s.next ≤ 1000000000000) (hg : s.got.length ≤ 1048576) (hi : L[i]? = some (LinkAt g s)) (hS : Sep w0 w L) :
    Calls Try.prog 13 #[.pointer (some ⟨g, 0, none⟩), .agg #[.int .u32 (p.e : Int), .int .u64 (p.o : Int), .int .u64 (p.a : Int), .slice none 0 0]] w fun en w' => en = .returned (.int .i64 (takeE s p)) ∧ Sep w0 w' (L.set i (LinkAt g (takeS s p))) :=
  take_any i p none 0 0 ho ha (fun W s' h => by rw [hn]; exact (RB.nil W 0).1) (Nat.le_refl _) (by omega) hw hl hnx hg hi hS
end
end Go.Proofs.Ytpgiljjjpijepaa
