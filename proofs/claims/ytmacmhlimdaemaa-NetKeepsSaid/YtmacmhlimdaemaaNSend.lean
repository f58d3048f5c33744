/- Send. -/
import Derived.Test.YtmacmhlimdaemaaNBase
import Derived.RegionTactic
import Derived.IntWalk
import Derived.Deep.RegionLaw
namespace Go.Proofs.Ytmacmhlimdaemaa.Net
open Go.RowKit Go.Proofs.YtmacmhlimdaemaaW.PrintWords Go.Proofs.Ytmacmhlimdaemaa.R Go.Proofs.Ytmacmhlimdaemaa.Pkt
section
variable {w0 w w' : World} {L M : List Asn}
theorem info48 : (Try.prog.info? 48).map (fun i => (i.zero, i.size, i.bytes)) = some (some (.agg #[.int .i64 0, .bool false, .slice none 0 0]), 3, 40) := by kernel_rfl
theorem send_full (g : Nat) (fs : List Fl) (k : Int) (f : Fl) (hf : 256 ≤ fs.length) (A : Option Addr) (n c : Nat) (hS : Sep w0 w (NetAt g fs k :: M)) :
    Calls Try.prog 32 #[.pointer (some ⟨g, 0, none⟩), f.agg (.slice A n c)] w fun en w' => en = .returned (.int .i64 3) ∧ Sep w0 w' (NetAt g fs k :: M) := by
  obtain ⟨v, es, hes, S⟩ := hS.openNet
  obtain ⟨a, cc, hv, -, -⟩ := (S.ownX 1 rfl).slice
  obtain ⟨m, hm⟩ : ∃ m, es.length = m := ⟨_, rfl⟩
  have hm2 : 256 ≤ m := by rw [← hm, ← List.length_map (·.2), hes]; exact hf
  rw [hm] at hv
  have Hv := Lib.hid hv
  obtain ⟨W1, hW1, S1⟩ := S.boxedF 48 #[.int .i64 f.c, .bool f.d, .slice A n c]
  have c0 := (S1.blk 1 rfl).at_ 0 rfl
  rw [hv] at c0
  have hd : decide ((256 : Int) ≤ (m : Int)) = true := decide_eq_true (by omega)
  unfold Fl.agg
  clear S hm hv hS hf
  go_enter Try.func32, Try.ntmps32
  go_wp2_with fail
  go_ret
  exact ⟨rfl, Sep.closeNet hes S1.tail⟩
theorem es_push {g : Nat} {v : Value} {es : List Ent} {fs : List Fl} {k : Int} {u : Value} {f : Fl} {n : Nat} (hn : es.length = n) (hes : es.map (·.2) = fs) (h : Sep w0 w (BRow u f.b :: cell g 80 #[v, .int .i64 k] :: rowX 48 3 v (n + 1) (entC es ++ f.cells u) :: (es.map rowE ++ M))) : Sep w0 w (NetAt g (fs ++ [f]) k :: M) := by
  refine Sep.closeNet (v := v) (es := es ++ [(u, f)]) (by rw [List.map_append, hes]; rfl) ?_
  rw [List.length_append, hn, entC_append, List.map_append, List.append_assoc]
  have he : entC [(u, f)] = f.cells u := by simp [entC]
  rw [he]
  refine h.perm ?_
  refine (List.Perm.swap _ _ _).trans (List.Perm.cons _ ((List.Perm.swap _ _ _).trans (List.Perm.cons _ ?_)))
  exact List.perm_middle.symm
theorem cells_one (f : Fl) (A : Option Addr) (n c : Nat) : ∀ u ∈ f.cells (.slice A n c), u.oneCell' = true := by
  intro u hu
  simp only [Fl.cells, List.mem_cons, List.not_mem_nil, or_false] at hu
  rcases hu with rfl | rfl | rfl <;> rfl
set_option maxRecDepth 100000 in
set_option maxHeartbeats 1000000 in
theorem send_room (g : Nat) (fs : List Fl) (k : Int) (f : Fl) (hf : fs.length < 256) (A : Option Addr) (n c : Nat) (hn : f.b.length = n) (hl : n ≤ 140737488351232) (hC : Kd.C (Kd.int .u8) w A n f.b) (hc : n ≤ c) (hS : Sep w0 w (NetAt g fs k :: M)) :
    Calls Try.prog 32 #[.pointer (some ⟨g, 0, none⟩), f.agg (.slice A n c)] w fun en w' => en = .returned (.int .i64 0) ∧ Sep w0 w' (NetAt g (fs ++ [f]) k :: M) := by
  obtain ⟨v, es, hes, S⟩ := hS.openNet
  obtain ⟨a, cc, hv, -, -⟩ := (S.ownX 1 rfl).slice
  obtain ⟨m, hm⟩ : ∃ m, es.length = m := ⟨_, rfl⟩
  have hm2 : m < 256 := by rw [← hm, ← List.length_map (·.2), hes]; exact hf
  rw [hm] at hv S
  subst hv
  obtain ⟨W1, hW1, S1⟩ := S.boxedF 48 #[.int .i64 f.c, .bool f.d, .slice A n c]
  have hb1 : Below w.heap.size w W1 := by rw [← hW1]; exact (Below.refl _ _).alloc (Nat.le_refl _) _
  have hd : decide ((256 : Int) ≤ (m : Int)) = false := decide_eq_false (by omega)
  have c0 := (S1.blk 1 rfl).at_ 0 rfl
  have ⟨b0, b1, b2⟩ : W1.cell? ⟨w.heap.size, 0, none⟩ = some (.int .i64 f.c) ∧ W1.cell? ⟨w.heap.size, 1, none⟩ = some (.bool f.d) ∧ W1.cell? ⟨w.heap.size, 2, none⟩ = some (.slice A n c) := ⟨(S1.blk 0 rfl).at_ 0 rfl, (S1.blk 0 rfl).at_ 1 rfl, (S1.blk 0 rfl).at_ 2 rfl⟩
  have HC := Lib.hid (Kd.C_below (Kd.C_below hC hb1) (Below.refl W1.heap.size W1).drew)
  obtain ⟨i48, hi48, hz0, hz1, hz2⟩ := info_parts info48
  have Hi := Lib.hid hi48
  have Hz0 := Lib.hid hz0
  have Hz1 := Lib.hid hz1
  have Hz2 := Lib.hid hz2
  have Hn := Lib.hid hn
  have Hl := Lib.hid hl
  have Hc := Lib.hid hc
  have Hm := Lib.hid hm
  have Hes := Lib.hid hes
  have HS := Lib.hid S1.drew
  have Hm1 : Hid (m + 1 ≤ maxLen) := Lib.hid (by unfold maxLen; omega)
  have Hm2 : Hid ((m + 1) * 40 ≤ 140737488355328) := Lib.hid (by omega)
  unfold Fl.agg
  clear hi48 hz0 hz1 hz2 hn hl hc hm hes S S1 hC hb1 hS hf
  go_enter Try.func32, Try.ntmps32
  go_upto_region 5 with (fail)
  go_region_law (first | (go_simp; go_at_call 53; refine (own_out f n Hn.out Hl.out A c HC.out Hc.out HS.out).mono ?_; rintro en w3 ⟨v3, rfl, S3⟩; obtain ⟨a3, c3, rfl, -, -⟩ := own_slice (own_n n Hn.out S3 0 rfl); obtain ⟨W4, hW4, S4⟩ := S3.boxedF 48 #[.int .i64 f.c, .bool f.d, .slice a3 n c3]; have d0 := (S3.blk 2 rfl).at_ 0 rfl; have e0 := (S4.blk 3 rfl).at_ 0 rfl; have HS4 := Lib.hid S4; clear S3 S4) | (refine step_append_x (P := Try.prog) rfl (.tmp 19) (.tmp 22) 55 rfl 48 i48 _ 3 40 Try.underlying55 Hi.out Hz0.out Hz1.out Hz2.out rfl (Nat.succ_pos 2) (.slice a m cc) m (entC es) rfl (HS4.out.ownX 4 rfl) (w3.heap.size + 1) (some ⟨w3.heap.size, 0, none⟩) 1 1 (f.cells (.slice a3 n c3)) rfl (Reads.of_blk (n := 1) (size := 3) (HS4.out.blk 0 rfl) rfl) (cells_one _ _ _ _) Hm1.out Hm2.out ?_; intro v5 w5 hown5 hg5 hat5; obtain ⟨a5, c5, rfl, -, -⟩ := hown5.slice; have S5 := (HS4.out.pushedX 4 rfl hown5 hg5 hat5).tail; have f0 := (S5.blk 2 rfl).at_ 0 rfl; have z0 := (S5.blk 2 rfl).frozen 0; clear hown5 hg5 hat5))
  all_goals
    have S6 := (S5.put 2 rfl 0 (.slice a5 (m + 1) c5)).drop 1
    clear S5 f0 z0 d0 e0 c0 b0 b1 b2
    generalize w5.setCell ⟨g, 0, none⟩ (.slice a5 (m + 1) c5) = w6 at S6 ⊢
    go_wp2_with fail
    go_ret
    exact ⟨rfl, es_push Hm.out Hes.out S6⟩
def sendS (fs : List Fl) (f : Fl) : List Fl := if fs.length < 256 then fs ++ [f] else fs
def sendE (fs : List Fl) : Int := if fs.length < 256 then 0 else 3
/-- Send, whatever there is -/
theorem send_any {g : Nat} {fs : List Fl} {k : Int} (f : Fl) (A : Option Addr) (n c : Nat) (hn : f.b.length = n) (hl : n ≤ 140737488351232) (hC : Kd.C (Kd.int .u8) w A n f.b) (hc : n ≤ c) (i : Nat) (hi : L[i]? = some (NetAt g fs k)) (hS : Sep w0 w L) :
    Calls Try.prog 32 #[.pointer (some ⟨g, 0, none⟩), .agg #[.int .i64 f.c, .bool f.d, .slice A n c]] w fun en w' => en = .returned (.int .i64 (sendE fs)) ∧ Sep w0 w' (L.set i (NetAt g (sendS fs f) k)) := by
  unfold sendE sendS
  by_cases hf : fs.length < 256
  · rw [if_pos hf, if_pos hf]
    exact (send_room g fs k f hf A n c hn hl hC hc (hS.pick i hi)).mono fun en w' ⟨he, h⟩ => ⟨he, h.back hi⟩
  · rw [if_neg hf, if_neg hf]
    exact (send_full g fs k f (by omega) A n c (hS.pick i hi)).mono fun en w' ⟨he, h⟩ => ⟨he, h.back hi⟩
/-- Len -/
theorem len_any {g : Nat} {fs : List Fl} {k : Int} (i : Nat) (hi : L[i]? = some (NetAt g fs k)) (hS : Sep w0 w L) :
    Calls Try.prog 39 #[.pointer (some ⟨g, 0, none⟩)] w fun en w' => en = .returned (.int .i64 (fs.length : Int)) ∧ w = w' := by
  obtain ⟨v, es, hes, S⟩ := (hS.pick i hi).openNet
  obtain ⟨a, cc, hv, -, -⟩ := (S.ownX 1 rfl).slice
  have c0 := (S.blk 0 rfl).at_ 0 rfl
  rw [← hes, List.length_map]
  obtain ⟨m, hm⟩ : ∃ m, es.length = m := ⟨_, rfl⟩
  rw [hm] at hv ⊢
  rw [hv] at c0
  clear S hv hm hes hS hi
  go_enter Try.func39, Try.ntmps39
  go_wp2_with fail
  go_ret
  exact ⟨rfl, rfl⟩
/-- Clashed -/
theorem clashed_any {g : Nat} {fs : List Fl} {k : Int} (i : Nat) (hi : L[i]? = some (NetAt g fs k)) (hS : Sep w0 w L) :
    Calls Try.prog 40 #[.pointer (some ⟨g, 0, none⟩)] w fun en w' => en = .returned (.int .i64 k) ∧ w = w' := by
  obtain ⟨v, es, hes, S⟩ := (hS.pick i hi).openNet
  have c0 := (S.blk 0 rfl).at_ 1 rfl
  clear S hes hS hi
  go_enter Try.func40, Try.ntmps40
  go_wp2_with fail
  go_ret
  exact ⟨rfl, rfl⟩
/-- New -/
theorem new_any (hS : Sep w0 w L) : Calls Try.prog 31 #[] w fun en w' => ∃ g, en = .returned (.pointer (some ⟨g, 0, none⟩)) ∧ Sep w0 w' (NetAt g [] 0 :: L) := by
  obtain ⟨W1, hW1, S1⟩ := hS.boxedF 80 #[.slice none 0 0, .int .i64 0]
  have HS := Lib.hid S1
  clear S1
  go_enter Try.func31, Try.ntmps31
  go_wp2_with fail
  go_ret
  refine ⟨_, rfl, Sep.closeNet (v := .slice none 0 0) (es := []) rfl ?_⟩
  have h := HS.out.nilX 48 3
  exact h.swap
end
end Go.Proofs.Ytmacmhlimdaemaa.Net
