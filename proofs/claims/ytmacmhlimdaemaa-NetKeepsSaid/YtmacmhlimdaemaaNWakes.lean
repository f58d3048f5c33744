/- wakes of the net's law. -/
import Derived.Test.YtmacmhlimdaemaaNDouble
import Derived.Test.YtmacmhlimdaemaaExtLit
namespace Go.Proofs.Ytmacmhlimdaemaa.Net
open Go.RowKit Go.Proofs.YtmacmhlimdaemaaW.PrintWords Go.Proofs.Ytmacmhlimdaemaa.R Go.Proofs.Ytmacmhlimdaemaa.Pkt Go.Proofs.Ytmacmhlimdaemaa.Ext
section
variable {w0 w w' : World} {L M : List Asn}
theorem text_n (l : List Int) (n : Nat) (hn : l.length = n) (h6 : n ≤ 1000) (C : Array Value) (hC : (l.map enB).toArray = C) (hS : Sep w0 w L) : ∃ W, (convert 22 22 (.slice (some ⟨w.heap.size, 0, none⟩) n n)).run Try.prog (w.alloc (.cells C 5)) = .ok (.slice (some ⟨w.heap.size, 0, none⟩) n n) W ∧
    Kd.C (Kd.int .u8) W (some ⟨w.heap.size, 0, none⟩) n l ∧ Sep w0 W L := by
  subst hn hC
  refine ⟨_, Go.Lib.run_convert_bytes_const w 22 5 _ _ _ Try.underlying22 Try.underlying5, ?_, hS.grow ((Below.refl _ _).alloc (Nat.le_refl _) _)⟩
  exact litc_reads w _ 5 l (by omega) (heap_alloc_new _ _)
def fA : Fl := ⟨1, false, [97]⟩
def fB : Fl := ⟨2, true, [98]⟩
end
set_option maxRecDepth 100000 in
theorem wakes_any (w : World) : Calls Try.prog 30 #[] w fun e w' => e = .returned (.bool true) ∧ Below w.heap.size w w' := by
  go_enter Try.func30, Try.ntmps30
  go_wp2_with fail
  refine (new_any (Sep.start w)).mono ?_
  rintro e w1 ⟨g, rfl, S1⟩
  obtain ⟨W2, hc2, C2, S2⟩ := text_n [97] 1 rfl (by decide) #[.int .u8 97] rfl S1
  go_wp2_with fail
  refine (send_any fA _ 1 1 rfl (by decide) C2 (Nat.le_refl _) 0 rfl S2).mono ?_
  rw [show sendE ([] : List Fl) = 0 from rfl]
  rintro e w3 ⟨rfl, S3⟩
  replace S3 : Sep w w3 [NetAt g [fA] 0] := S3
  obtain ⟨W4, hc4, C4, S4⟩ := text_n [98] 1 rfl (by decide) #[.int .u8 98] rfl S3
  go_wp2_with fail
  refine (send_any fB _ 1 1 rfl (by decide) C4 (Nat.le_refl _) 0 rfl S4).mono ?_
  rw [show sendE [fA] = 0 from rfl]
  rintro e w5 ⟨rfl, S5⟩
  replace S5 : Sep w w5 [NetAt g [fA, fB] 0] := S5
  go_wp2_with fail
  refine (double_any 0 (by decide) (by intro f hf; simp only [List.mem_cons, List.not_mem_nil, or_false] at hf; rcases hf with rfl | rfl <;> decide) 0 rfl S5).mono ?_
  rw [show dblE [fA, fB] 0 = 0 from rfl]
  rintro e w6 ⟨rfl, S6⟩
  replace S6 : Sep w w6 [NetAt g [fA, fB, fA] 0] := S6
  go_wp2_with fail
  refine (take_any 1 (by decide) 0 rfl S6).mono ?_
  rw [show takeF [fA, fB, fA] 1 = fB from rfl, show takeE [fA, fB, fA] 1 = 0 from rfl]
  rintro e w7 ⟨v7, rfl, S7⟩
  replace S7 : Sep w w7 [BRow v7 [98], NetAt g [fA, fA] 0] := S7
  obtain ⟨a7, c7, rfl, -, -⟩ := own_slice (own_n 1 rfl S7 0 rfl)
  obtain ⟨W8, hW8, S8⟩ := S7.boxedF 48 #[.int .i64 2, .bool true, .slice a7 1 c7]
  have e8 : (convert 22 9 (.slice a7 1 c7)).run Try.prog W8 = .ok (.string ⟨#[98]⟩) W8 := string_bytes (own_bytes (i := 1) S8 rfl)
  have q0 := (S8.blk 0 rfl).at_ 0 rfl
  have q1 := (S8.blk 0 rfl).at_ 1 rfl
  have q2 := (S8.blk 0 rfl).at_ 2 rfl
  clear S7
  go_wp2_with (
    refine wpList_store_row rfl 48 (.tmp 5) (.tmp 23) rfl w7.heap.size #[.int .i64 2, .bool true, .slice a7 1 c7] rfl rfl 48 _ (Blk.new _ _ _) size48 rfl (fl_one _ _ _ _ _) ?_
    rw [World.setRow_alloc_new, hW8]
    clear hW8)
  refine (len_any 2 rfl S8).mono ?_
  rintro e w9 ⟨rfl, rfl⟩
  go_wp2_with fail
  refine (lose_any 2 (by decide) 2 rfl S8).mono ?_
  rw [show takeE [fA, fA] 2 = 5 from rfl]
  rintro e w10 ⟨rfl, S10⟩
  go_wp2_with fail
  go_ret
  exact ⟨rfl, S10.below⟩
end Go.Proofs.Ytmacmhlimdaemaa.Net
