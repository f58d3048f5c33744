/- step: a packet comes, is lost, is doubled. -/
import Derived.Test.YtpgiljjjpijepaaLStepT
namespace Go.Proofs.Ytpgiljjjpijepaa
open Go.RowKit
section
variable {w0 w w' : World} {L M : List Asn}
theorem side_ex (s : Bool) : ∃ si : Int, ∀ w, Calls Try.prog 23 #[.bool s] w fun en w' => en = .returned (.int .i64 si) ∧ w' = w := ⟨_, fun w => side_any s w⟩
theorem irow_cells {n c g : Nat} {ws : List (Bool × Pk)} (h : Sep w0 w L) (i : Nat) (hi : L[i]? = some (IRow (.slice (some ⟨g, 0, none⟩) n c) ws)) (hn : ws.length = n) : ∀ j u, (ws.map enI)[j]? = some u → w.cell? ⟨g, j, none⟩ = some u := by
  have h1 := h.own i hi
  rw [hn] at h1
  exact own_cells h1
def takePS (p : PS) (s : Bool) (q : Pk) (k : Nat) : PS := { p with l := upd p.l s (takeS (p.l s) q), ws := p.ws.eraseIdx k }
set_option maxRecDepth 100000 in
set_option maxHeartbeats 1000000 in
theorem step2_none {gp : Nat} {p : PS} (d : Nat) (hd : d % 6 = 2) (s : Bool) (a : Int) (A : Option Addr) (m c : Nat) (hlen : p.ws.length ≤ 1000000000) (h0 : p.ws = []) (hS : Sep w0 w (PairAt gp p :: M)) :
    Calls Try.prog 22 #[.pointer (some ⟨gp, 0, none⟩), .agg #[.int .u8 (d : Int), .bool s, .int .i64 a, .slice A m c]] w fun en w' => en = .returned (.bool true) ∧ Sep w0 w' (PairAt gp p :: M) := by
  have hdi : (d : Int) % 6 = 2 := by omega
  obtain ⟨xv, S⟩ := hS.openP2
  obtain ⟨g0, g1, vw0, vw1, vr0, vr1, y, t⟩ := xv
  obtain ⟨VA, vc, hv, hvc, -, -⟩ := S.pr 7 rfl
  obtain ⟨n, hn⟩ : ∃ n, p.ws.length = n := ⟨_, rfl⟩
  rw [List.length_map, hn] at hv hvc
  subst hv
  obtain ⟨W1, hW1, S1⟩ := S.boxedF 43 #[.int .u8 (d : Int), .bool s, .int .i64 a, .slice A m c]
  obtain ⟨xb, hxb⟩ : ∃ xb, w.heap.size = xb := ⟨_, rfl⟩
  rw [hxb] at S1
  have x0 : W1.cell? ⟨xb, 0, none⟩ = some (.int .u8 (d : Int)) := (S1.blk 0 rfl).at_ 0 rfl
  have x1 : W1.cell? ⟨xb, 1, none⟩ = some (.bool s) := (S1.blk 0 rfl).at_ 1 rfl
  have x2 : W1.cell? ⟨xb, 2, none⟩ = some (.int .i64 a) := (S1.blk 0 rfl).at_ 2 rfl
  have y6 : W1.cell? ⟨gp, 6, none⟩ = some (.slice VA n vc) := (S1.blk 1 rfl).at_ 6 rfl
  have hn63 : n ≤ 9223372036854775807 := by omega
  clear S hS
  go_enter Try.func22, Try.ntmps22
  go_wp2_with fail
  obtain ⟨si, hsi⟩ := side_ex s
  refine (hsi _).mono ?_
  rintro en W2 ⟨rfl, rfl⟩
  go_upto_region 2 with (fail)
  refine plain_under (fun w => w.cell? ⟨xb, 2, none⟩ = some (.int .i64 a) ∧ w.cell? ⟨gp, 6, none⟩ = some (.slice VA n vc)) (fun _ => true) (by kernel_rfl) ?_
  have hSS : W2.drew.cell? ⟨xb, 2, none⟩ = some (.int .i64 a) ∧ W2.drew.cell? ⟨gp, 6, none⟩ = some (.slice VA n vc) := ⟨x2, y6⟩
  have S2 := S1.drew
  have x0' : W2.drew.cell? ⟨xb, 0, none⟩ = some (.int .u8 (d : Int)) := x0
  clear x0 x1 x2 y6 S1 hW1
  generalize W2.drew = W3 at hSS S2 x0' ⊢
  simp only [List.size_toArray, List.length_cons, List.length_nil, Nat.reduceAdd, Array.replicate_succ, Array.replicate_zero, List.push_toArray, List.nil_append, List.cons_append]
  refine under_free (i := 0) (v := ?_) rfl (by kernel_rfl) (fun _ _ _ h => h) _ _ _ _ (by kernel_rfl) (by kernel_rfl) (Or.inl ⟨by rfl, ?_⟩) ?_
  rotate_left
  · intro w _
    go_simp
    try with_reducible rfl
  simp only [Act.put, List.setIfInBounds_toArray, List.set_cons_zero, List.set_cons_succ, List.getElem_toArray, List.getElem_cons_zero]
  refine under_take (i := 1) (v := ?_) rfl (by kernel_rfl) (by kernel_rfl) (fun _ _ _ h => h) _ _ _ _ (by kernel_rfl) (by kernel_rfl) (by kernel_rfl) (Or.inl ⟨by rfl, ?_⟩) hSS ?_
  rotate_left
  · intro w hSw
    obtain ⟨q0, q1⟩ := hSw
    go_simp
    try with_reducible rfl
  simp only [Act.put, List.setIfInBounds_toArray, List.set_cons_zero, List.set_cons_succ, List.getElem_toArray, List.getElem_cons_zero, List.getElem_cons_succ]
  refine under_free (i := 2) (v := ?_) rfl (by kernel_rfl) (fun _ _ _ h => h) _ _ _ _ (by kernel_rfl) (by kernel_rfl) (Or.inl ⟨by rfl, ?_⟩) ?_
  rotate_left
  · intro w _
    go_simp
    try with_reducible rfl
  simp only [Act.put, List.setIfInBounds_toArray, List.set_cons_zero, List.set_cons_succ, List.getElem_toArray, List.getElem_cons_zero, List.getElem_cons_succ]
  refine under_free (i := 3) (v := ?_) rfl (by kernel_rfl) (fun _ _ _ h => h) _ _ _ _ (by kernel_rfl) (by kernel_rfl) (Or.inl ⟨by rfl, ?_⟩) ?_
  rotate_left
  · intro w _
    go_simp
    try with_reducible rfl
  simp only [Act.put, List.setIfInBounds_toArray, List.set_cons_zero, List.set_cons_succ, List.getElem_toArray, List.getElem_cons_zero, List.getElem_cons_succ]
  refine under_free (i := 4) (v := ?_) rfl (by kernel_rfl) (fun _ _ _ h => h) _ _ _ _ (by kernel_rfl) (by kernel_rfl) (Or.inl ⟨by rfl, ?_⟩) ?_
  rotate_left
  · intro w _
    go_simp
    try with_reducible rfl
  simp only [Act.put, List.setIfInBounds_toArray, List.set_cons_zero, List.set_cons_succ, List.getElem_toArray, List.getElem_cons_zero, List.getElem_cons_succ]
  refine under_take (i := 5) (v := ?_) rfl (by kernel_rfl) (by kernel_rfl) (fun _ _ _ h => h) _ _ _ _ (by kernel_rfl) (by kernel_rfl) (by kernel_rfl) (Or.inl ⟨by rfl, ?_⟩) hSS ?_
  rotate_left
  · intro w hSw
    obtain ⟨q0, q1⟩ := hSw
    go_simp
    try with_reducible rfl
  simp only [Act.put, List.setIfInBounds_toArray, List.set_cons_zero, List.set_cons_succ, List.getElem_toArray, List.getElem_cons_zero, List.getElem_cons_succ]
  refine under_free (i := 6) (v := ?_) rfl (by kernel_rfl) (fun _ _ _ h => h) _ _ _ _ (by kernel_rfl) (by kernel_rfl) (Or.inl ⟨by rfl, ?_⟩) ?_
  rotate_left
  · intro w _
    go_simp
    try with_reducible rfl
  simp only [Act.put, List.setIfInBounds_toArray, List.set_cons_zero, List.set_cons_succ, List.getElem_toArray, List.getElem_cons_zero, List.getElem_cons_succ]
  refine under_one (i := 7) (by kernel_rfl) rfl ?_
  intro K hK
  go_simp
  refine (pick_any a n hn63 _).mono ?_
  rintro en w3 ⟨rfl, rfl⟩
  refine hK _ _ (fun _ => hSS) ?_
  clear hK K
  simp only [List.setIfInBounds_toArray, List.set_cons_zero, List.set_cons_succ]
  refine under_free (i := 8) (v := ?_) rfl (by kernel_rfl) (fun _ _ _ h => h) _ _ _ _ (by kernel_rfl) (by kernel_rfl) (Or.inl ⟨by rfl, ?_⟩) ?_
  rotate_left
  · intro w _
    go_simp
    try with_reducible rfl
  simp only [Act.put, List.setIfInBounds_toArray, List.set_cons_zero, List.set_cons_succ, List.getElem_toArray, List.getElem_cons_zero, List.getElem_cons_succ]
  refine under_done (by kernel_rfl) ?_ _
  clear hSS
  go_upto_region 5 with (fail)
  have hn0 : n = 0 := by rw [← hn, h0]; rfl
  have hpk : pickI a n = -1 := by unfold pickI; rw [if_pos hn0]
  simp only [hdi, hpk]
  have HS := Lib.hid S2
  clear x0' hdi hpk S2 hn0
  go_wp2_with fail
  go_ret
  refine ⟨rfl, ?_⟩
  exact Sep.closeP2 ⟨g0, g1, vw0, vw1, vr0, vr1, .slice VA n vc, t⟩ HS.out.tail
set_option maxRecDepth 100000 in
set_option maxHeartbeats 1000000 in
theorem step3_none {gp : Nat} {p : PS} (d : Nat) (hd : d % 6 = 3) (s : Bool) (a : Int) (A : Option Addr) (m c : Nat) (hlen : p.ws.length ≤ 1000000000) (h0 : p.ws = []) (hS : Sep w0 w (PairAt gp p :: M)) :
    Calls Try.prog 22 #[.pointer (some ⟨gp, 0, none⟩), .agg #[.int .u8 (d : Int), .bool s, .int .i64 a, .slice A m c]] w fun en w' => en = .returned (.bool true) ∧ Sep w0 w' (PairAt gp p :: M) := by
  have hdi : (d : Int) % 6 = 3 := by omega
  obtain ⟨xv, S⟩ := hS.openP2
  obtain ⟨g0, g1, vw0, vw1, vr0, vr1, y, t⟩ := xv
  obtain ⟨VA, vc, hv, hvc, -, -⟩ := S.pr 7 rfl
  obtain ⟨n, hn⟩ : ∃ n, p.ws.length = n := ⟨_, rfl⟩
  rw [List.length_map, hn] at hv hvc
  subst hv
  obtain ⟨W1, hW1, S1⟩ := S.boxedF 43 #[.int .u8 (d : Int), .bool s, .int .i64 a, .slice A m c]
  obtain ⟨xb, hxb⟩ : ∃ xb, w.heap.size = xb := ⟨_, rfl⟩
  rw [hxb] at S1
  have x0 : W1.cell? ⟨xb, 0, none⟩ = some (.int .u8 (d : Int)) := (S1.blk 0 rfl).at_ 0 rfl
  have x1 : W1.cell? ⟨xb, 1, none⟩ = some (.bool s) := (S1.blk 0 rfl).at_ 1 rfl
  have x2 : W1.cell? ⟨xb, 2, none⟩ = some (.int .i64 a) := (S1.blk 0 rfl).at_ 2 rfl
  have y6 : W1.cell? ⟨gp, 6, none⟩ = some (.slice VA n vc) := (S1.blk 1 rfl).at_ 6 rfl
  have hn63 : n ≤ 9223372036854775807 := by omega
  clear S hS
  go_enter Try.func22, Try.ntmps22
  go_wp2_with fail
  obtain ⟨si, hsi⟩ := side_ex s
  refine (hsi _).mono ?_
  rintro en W2 ⟨rfl, rfl⟩
  go_upto_region 2 with (fail)
  refine plain_under (fun w => w.cell? ⟨xb, 2, none⟩ = some (.int .i64 a) ∧ w.cell? ⟨gp, 6, none⟩ = some (.slice VA n vc)) (fun _ => true) (by kernel_rfl) ?_
  have hSS : W2.drew.cell? ⟨xb, 2, none⟩ = some (.int .i64 a) ∧ W2.drew.cell? ⟨gp, 6, none⟩ = some (.slice VA n vc) := ⟨x2, y6⟩
  have S2 := S1.drew
  have x0' : W2.drew.cell? ⟨xb, 0, none⟩ = some (.int .u8 (d : Int)) := x0
  clear x0 x1 x2 y6 S1 hW1
  generalize W2.drew = W3 at hSS S2 x0' ⊢
  simp only [List.size_toArray, List.length_cons, List.length_nil, Nat.reduceAdd, Array.replicate_succ, Array.replicate_zero, List.push_toArray, List.nil_append, List.cons_append]
  refine under_free (i := 0) (v := ?_) rfl (by kernel_rfl) (fun _ _ _ h => h) _ _ _ _ (by kernel_rfl) (by kernel_rfl) (Or.inl ⟨by rfl, ?_⟩) ?_
  rotate_left
  · intro w _
    go_simp
    try with_reducible rfl
  simp only [Act.put, List.setIfInBounds_toArray, List.set_cons_zero, List.set_cons_succ, List.getElem_toArray, List.getElem_cons_zero]
  refine under_take (i := 1) (v := ?_) rfl (by kernel_rfl) (by kernel_rfl) (fun _ _ _ h => h) _ _ _ _ (by kernel_rfl) (by kernel_rfl) (by kernel_rfl) (Or.inl ⟨by rfl, ?_⟩) hSS ?_
  rotate_left
  · intro w hSw
    obtain ⟨q0, q1⟩ := hSw
    go_simp
    try with_reducible rfl
  simp only [Act.put, List.setIfInBounds_toArray, List.set_cons_zero, List.set_cons_succ, List.getElem_toArray, List.getElem_cons_zero, List.getElem_cons_succ]
  refine under_free (i := 2) (v := ?_) rfl (by kernel_rfl) (fun _ _ _ h => h) _ _ _ _ (by kernel_rfl) (by kernel_rfl) (Or.inl ⟨by rfl, ?_⟩) ?_
  rotate_left
  · intro w _
    go_simp
    try with_reducible rfl
  simp only [Act.put, List.setIfInBounds_toArray, List.set_cons_zero, List.set_cons_succ, List.getElem_toArray, List.getElem_cons_zero, List.getElem_cons_succ]
  refine under_free (i := 3) (v := ?_) rfl (by kernel_rfl) (fun _ _ _ h => h) _ _ _ _ (by kernel_rfl) (by kernel_rfl) (Or.inl ⟨by rfl, ?_⟩) ?_
  rotate_left
  · intro w _
    go_simp
    try with_reducible rfl
  simp only [Act.put, List.setIfInBounds_toArray, List.set_cons_zero, List.set_cons_succ, List.getElem_toArray, List.getElem_cons_zero, List.getElem_cons_succ]
  refine under_free (i := 4) (v := ?_) rfl (by kernel_rfl) (fun _ _ _ h => h) _ _ _ _ (by kernel_rfl) (by kernel_rfl) (Or.inl ⟨by rfl, ?_⟩) ?_
  rotate_left
  · intro w _
    go_simp
    try with_reducible rfl
  simp only [Act.put, List.setIfInBounds_toArray, List.set_cons_zero, List.set_cons_succ, List.getElem_toArray, List.getElem_cons_zero, List.getElem_cons_succ]
  refine under_take (i := 5) (v := ?_) rfl (by kernel_rfl) (by kernel_rfl) (fun _ _ _ h => h) _ _ _ _ (by kernel_rfl) (by kernel_rfl) (by kernel_rfl) (Or.inl ⟨by rfl, ?_⟩) hSS ?_
  rotate_left
  · intro w hSw
    obtain ⟨q0, q1⟩ := hSw
    go_simp
    try with_reducible rfl
  simp only [Act.put, List.setIfInBounds_toArray, List.set_cons_zero, List.set_cons_succ, List.getElem_toArray, List.getElem_cons_zero, List.getElem_cons_succ]
  refine under_free (i := 6) (v := ?_) rfl (by kernel_rfl) (fun _ _ _ h => h) _ _ _ _ (by kernel_rfl) (by kernel_rfl) (Or.inl ⟨by rfl, ?_⟩) ?_
  rotate_left
  · intro w _
    go_simp
    try with_reducible rfl
  simp only [Act.put, List.setIfInBounds_toArray, List.set_cons_zero, List.set_cons_succ, List.getElem_toArray, List.getElem_cons_zero, List.getElem_cons_succ]
  refine under_one (i := 7) (by kernel_rfl) rfl ?_
  intro K hK
  go_simp
  refine (pick_any a n hn63 _).mono ?_
  rintro en w3 ⟨rfl, rfl⟩
  refine hK _ _ (fun _ => hSS) ?_
  clear hK K
  simp only [List.setIfInBounds_toArray, List.set_cons_zero, List.set_cons_succ]
  refine under_free (i := 8) (v := ?_) rfl (by kernel_rfl) (fun _ _ _ h => h) _ _ _ _ (by kernel_rfl) (by kernel_rfl) (Or.inl ⟨by rfl, ?_⟩) ?_
  rotate_left
  · intro w _
    go_simp
    try with_reducible rfl
  simp only [Act.put, List.setIfInBounds_toArray, List.set_cons_zero, List.set_cons_succ, List.getElem_toArray, List.getElem_cons_zero, List.getElem_cons_succ]
  refine under_done (by kernel_rfl) ?_ _
  clear hSS
  go_upto_region 5 with (fail)
  have hn0 : n = 0 := by rw [← hn, h0]; rfl
  have hpk : pickI a n = -1 := by unfold pickI; rw [if_pos hn0]
  simp only [hdi, hpk]
  have HS := Lib.hid S2
  clear x0' hdi hpk S2 hn0
  go_wp2_with fail
  go_ret
  refine ⟨rfl, ?_⟩
  exact Sep.closeP2 ⟨g0, g1, vw0, vw1, vr0, vr1, .slice VA n vc, t⟩ HS.out.tail
set_option maxRecDepth 100000 in
set_option maxHeartbeats 1000000 in
theorem step4_none {gp : Nat} {p : PS} (d : Nat) (hd : d % 6 = 4) (s : Bool) (a : Int) (A : Option Addr) (m c : Nat) (hlen : p.ws.length ≤ 1000000000) (h0 : p.ws = []) (hS : Sep w0 w (PairAt gp p :: M)) :
    Calls Try.prog 22 #[.pointer (some ⟨gp, 0, none⟩), .agg #[.int .u8 (d : Int), .bool s, .int .i64 a, .slice A m c]] w fun en w' => en = .returned (.bool true) ∧ Sep w0 w' (PairAt gp p :: M) := by
  have hdi : (d : Int) % 6 = 4 := by omega
  obtain ⟨xv, S⟩ := hS.openP2
  obtain ⟨g0, g1, vw0, vw1, vr0, vr1, y, t⟩ := xv
  obtain ⟨VA, vc, hv, hvc, -, -⟩ := S.pr 7 rfl
  obtain ⟨n, hn⟩ : ∃ n, p.ws.length = n := ⟨_, rfl⟩
  rw [List.length_map, hn] at hv hvc
  subst hv
  obtain ⟨W1, hW1, S1⟩ := S.boxedF 43 #[.int .u8 (d : Int), .bool s, .int .i64 a, .slice A m c]
  obtain ⟨xb, hxb⟩ : ∃ xb, w.heap.size = xb := ⟨_, rfl⟩
  rw [hxb] at S1
  have x0 : W1.cell? ⟨xb, 0, none⟩ = some (.int .u8 (d : Int)) := (S1.blk 0 rfl).at_ 0 rfl
  have x1 : W1.cell? ⟨xb, 1, none⟩ = some (.bool s) := (S1.blk 0 rfl).at_ 1 rfl
  have x2 : W1.cell? ⟨xb, 2, none⟩ = some (.int .i64 a) := (S1.blk 0 rfl).at_ 2 rfl
  have y6 : W1.cell? ⟨gp, 6, none⟩ = some (.slice VA n vc) := (S1.blk 1 rfl).at_ 6 rfl
  have hn63 : n ≤ 9223372036854775807 := by omega
  clear S hS
  go_enter Try.func22, Try.ntmps22
  go_wp2_with fail
  obtain ⟨si, hsi⟩ := side_ex s
  refine (hsi _).mono ?_
  rintro en W2 ⟨rfl, rfl⟩
  go_upto_region 2 with (fail)
  refine plain_under (fun w => w.cell? ⟨xb, 2, none⟩ = some (.int .i64 a) ∧ w.cell? ⟨gp, 6, none⟩ = some (.slice VA n vc)) (fun _ => true) (by kernel_rfl) ?_
  have hSS : W2.drew.cell? ⟨xb, 2, none⟩ = some (.int .i64 a) ∧ W2.drew.cell? ⟨gp, 6, none⟩ = some (.slice VA n vc) := ⟨x2, y6⟩
  have S2 := S1.drew
  have x0' : W2.drew.cell? ⟨xb, 0, none⟩ = some (.int .u8 (d : Int)) := x0
  clear x0 x1 x2 y6 S1 hW1
  generalize W2.drew = W3 at hSS S2 x0' ⊢
  simp only [List.size_toArray, List.length_cons, List.length_nil, Nat.reduceAdd, Array.replicate_succ, Array.replicate_zero, List.push_toArray, List.nil_append, List.cons_append]
  refine under_free (i := 0) (v := ?_) rfl (by kernel_rfl) (fun _ _ _ h => h) _ _ _ _ (by kernel_rfl) (by kernel_rfl) (Or.inl ⟨by rfl, ?_⟩) ?_
  rotate_left
  · intro w _
    go_simp
    try with_reducible rfl
  simp only [Act.put, List.setIfInBounds_toArray, List.set_cons_zero, List.set_cons_succ, List.getElem_toArray, List.getElem_cons_zero]
  refine under_take (i := 1) (v := ?_) rfl (by kernel_rfl) (by kernel_rfl) (fun _ _ _ h => h) _ _ _ _ (by kernel_rfl) (by kernel_rfl) (by kernel_rfl) (Or.inl ⟨by rfl, ?_⟩) hSS ?_
  rotate_left
  · intro w hSw
    obtain ⟨q0, q1⟩ := hSw
    go_simp
    try with_reducible rfl
  simp only [Act.put, List.setIfInBounds_toArray, List.set_cons_zero, List.set_cons_succ, List.getElem_toArray, List.getElem_cons_zero, List.getElem_cons_succ]
  refine under_free (i := 2) (v := ?_) rfl (by kernel_rfl) (fun _ _ _ h => h) _ _ _ _ (by kernel_rfl) (by kernel_rfl) (Or.inl ⟨by rfl, ?_⟩) ?_
  rotate_left
  · intro w _
    go_simp
    try with_reducible rfl
  simp only [Act.put, List.setIfInBounds_toArray, List.set_cons_zero, List.set_cons_succ, List.getElem_toArray, List.getElem_cons_zero, List.getElem_cons_succ]
  refine under_free (i := 3) (v := ?_) rfl (by kernel_rfl) (fun _ _ _ h => h) _ _ _ _ (by kernel_rfl) (by kernel_rfl) (Or.inl ⟨by rfl, ?_⟩) ?_
  rotate_left
  · intro w _
    go_simp
    try with_reducible rfl
  simp only [Act.put, List.setIfInBounds_toArray, List.set_cons_zero, List.set_cons_succ, List.getElem_toArray, List.getElem_cons_zero, List.getElem_cons_succ]
  refine under_free (i := 4) (v := ?_) rfl (by kernel_rfl) (fun _ _ _ h => h) _ _ _ _ (by kernel_rfl) (by kernel_rfl) (Or.inl ⟨by rfl, ?_⟩) ?_
  rotate_left
  · intro w _
    go_simp
    try with_reducible rfl
  simp only [Act.put, List.setIfInBounds_toArray, List.set_cons_zero, List.set_cons_succ, List.getElem_toArray, List.getElem_cons_zero, List.getElem_cons_succ]
  refine under_take (i := 5) (v := ?_) rfl (by kernel_rfl) (by kernel_rfl) (fun _ _ _ h => h) _ _ _ _ (by kernel_rfl) (by kernel_rfl) (by kernel_rfl) (Or.inl ⟨by rfl, ?_⟩) hSS ?_
  rotate_left
  · intro w hSw
    obtain ⟨q0, q1⟩ := hSw
    go_simp
    try with_reducible rfl
  simp only [Act.put, List.setIfInBounds_toArray, List.set_cons_zero, List.set_cons_succ, List.getElem_toArray, List.getElem_cons_zero, List.getElem_cons_succ]
  refine under_free (i := 6) (v := ?_) rfl (by kernel_rfl) (fun _ _ _ h => h) _ _ _ _ (by kernel_rfl) (by kernel_rfl) (Or.inl ⟨by rfl, ?_⟩) ?_
  rotate_left
  · intro w _
    go_simp
    try with_reducible rfl
  simp only [Act.put, List.setIfInBounds_toArray, List.set_cons_zero, List.set_cons_succ, List.getElem_toArray, List.getElem_cons_zero, List.getElem_cons_succ]
  refine under_one (i := 7) (by kernel_rfl) rfl ?_
  intro K hK
  go_simp
  refine (pick_any a n hn63 _).mono ?_
  rintro en w3 ⟨rfl, rfl⟩
  refine hK _ _ (fun _ => hSS) ?_
  clear hK K
  simp only [List.setIfInBounds_toArray, List.set_cons_zero, List.set_cons_succ]
  refine under_free (i := 8) (v := ?_) rfl (by kernel_rfl) (fun _ _ _ h => h) _ _ _ _ (by kernel_rfl) (by kernel_rfl) (Or.inl ⟨by rfl, ?_⟩) ?_
  rotate_left
  · intro w _
    go_simp
    try with_reducible rfl
  simp only [Act.put, List.setIfInBounds_toArray, List.set_cons_zero, List.set_cons_succ, List.getElem_toArray, List.getElem_cons_zero, List.getElem_cons_succ]
  refine under_done (by kernel_rfl) ?_ _
  clear hSS
  go_upto_region 5 with (fail)
  have hn0 : n = 0 := by rw [← hn, h0]; rfl
  have hpk : pickI a n = -1 := by unfold pickI; rw [if_pos hn0]
  simp only [hdi, hpk]
  have HS := Lib.hid S2
  clear x0' hdi hpk S2 hn0
  go_wp2_with fail
  go_ret
  refine ⟨rfl, ?_⟩
  exact Sep.closeP2 ⟨g0, g1, vw0, vw1, vr0, vr1, .slice VA n vc, t⟩ HS.out.tail
set_option maxRecDepth 100000 in
set_option maxHeartbeats 1000000 in
theorem step3_some {gp : Nat} {p : PS} (d : Nat) (hd : d % 6 = 3) (s : Bool) (a : Int) (A : Option Addr) (m c : Nat) (hlen : p.ws.length ≤ 1000000000) (k : Nat) (tt : Bool) (q : Pk) (hk : pickI a p.ws.length = (k : Int)) (hq : p.ws[k]? = some (tt, q)) (hS : Sep w0 w (PairAt gp p :: M)) :
    Calls Try.prog 22 #[.pointer (some ⟨gp, 0, none⟩), .agg #[.int .u8 (d : Int), .bool s, .int .i64 a, .slice A m c]] w fun en w' => en = .returned (.bool true) ∧ Sep w0 w' (PairAt gp { p with ws := p.ws.eraseIdx k } :: M) := by
  have hdi : (d : Int) % 6 = 3 := by omega
  obtain ⟨xv, S⟩ := hS.openP2
  obtain ⟨g0, g1, vw0, vw1, vr0, vr1, y, t⟩ := xv
  obtain ⟨VA, vc, hv, hvc, -, -⟩ := S.pr 7 rfl
  obtain ⟨n, hn⟩ : ∃ n, p.ws.length = n := ⟨_, rfl⟩
  rw [List.length_map, hn] at hv hvc
  subst hv
  obtain ⟨W1, hW1, S1⟩ := S.boxedF 43 #[.int .u8 (d : Int), .bool s, .int .i64 a, .slice A m c]
  obtain ⟨xb, hxb⟩ : ∃ xb, w.heap.size = xb := ⟨_, rfl⟩
  rw [hxb] at S1
  have x0 : W1.cell? ⟨xb, 0, none⟩ = some (.int .u8 (d : Int)) := (S1.blk 0 rfl).at_ 0 rfl
  have x1 : W1.cell? ⟨xb, 1, none⟩ = some (.bool s) := (S1.blk 0 rfl).at_ 1 rfl
  have x2 : W1.cell? ⟨xb, 2, none⟩ = some (.int .i64 a) := (S1.blk 0 rfl).at_ 2 rfl
  have y6 : W1.cell? ⟨gp, 6, none⟩ = some (.slice VA n vc) := (S1.blk 1 rfl).at_ 6 rfl
  have hn63 : n ≤ 9223372036854775807 := by omega
  clear S hS
  go_enter Try.func22, Try.ntmps22
  go_wp2_with fail
  obtain ⟨si, hsi⟩ := side_ex s
  refine (hsi _).mono ?_
  rintro en W2 ⟨rfl, rfl⟩
  go_upto_region 2 with (fail)
  refine plain_under (fun w => w.cell? ⟨xb, 2, none⟩ = some (.int .i64 a) ∧ w.cell? ⟨gp, 6, none⟩ = some (.slice VA n vc)) (fun _ => true) (by kernel_rfl) ?_
  have hSS : W2.drew.cell? ⟨xb, 2, none⟩ = some (.int .i64 a) ∧ W2.drew.cell? ⟨gp, 6, none⟩ = some (.slice VA n vc) := ⟨x2, y6⟩
  have S2 := S1.drew
  have x0' : W2.drew.cell? ⟨xb, 0, none⟩ = some (.int .u8 (d : Int)) := x0
  clear x0 x1 x2 y6 S1 hW1
  generalize W2.drew = W3 at hSS S2 x0' ⊢
  simp only [List.size_toArray, List.length_cons, List.length_nil, Nat.reduceAdd, Array.replicate_succ, Array.replicate_zero, List.push_toArray, List.nil_append, List.cons_append]
  refine under_free (i := 0) (v := ?_) rfl (by kernel_rfl) (fun _ _ _ h => h) _ _ _ _ (by kernel_rfl) (by kernel_rfl) (Or.inl ⟨by rfl, ?_⟩) ?_
  rotate_left
  · intro w _
    go_simp
    try with_reducible rfl
  simp only [Act.put, List.setIfInBounds_toArray, List.set_cons_zero, List.set_cons_succ, List.getElem_toArray, List.getElem_cons_zero]
  refine under_take (i := 1) (v := ?_) rfl (by kernel_rfl) (by kernel_rfl) (fun _ _ _ h => h) _ _ _ _ (by kernel_rfl) (by kernel_rfl) (by kernel_rfl) (Or.inl ⟨by rfl, ?_⟩) hSS ?_
  rotate_left
  · intro w hSw
    obtain ⟨q0, q1⟩ := hSw
    go_simp
    try with_reducible rfl
  simp only [Act.put, List.setIfInBounds_toArray, List.set_cons_zero, List.set_cons_succ, List.getElem_toArray, List.getElem_cons_zero, List.getElem_cons_succ]
  refine under_free (i := 2) (v := ?_) rfl (by kernel_rfl) (fun _ _ _ h => h) _ _ _ _ (by kernel_rfl) (by kernel_rfl) (Or.inl ⟨by rfl, ?_⟩) ?_
  rotate_left
  · intro w _
    go_simp
    try with_reducible rfl
  simp only [Act.put, List.setIfInBounds_toArray, List.set_cons_zero, List.set_cons_succ, List.getElem_toArray, List.getElem_cons_zero, List.getElem_cons_succ]
  refine under_free (i := 3) (v := ?_) rfl (by kernel_rfl) (fun _ _ _ h => h) _ _ _ _ (by kernel_rfl) (by kernel_rfl) (Or.inl ⟨by rfl, ?_⟩) ?_
  rotate_left
  · intro w _
    go_simp
    try with_reducible rfl
  simp only [Act.put, List.setIfInBounds_toArray, List.set_cons_zero, List.set_cons_succ, List.getElem_toArray, List.getElem_cons_zero, List.getElem_cons_succ]
  refine under_free (i := 4) (v := ?_) rfl (by kernel_rfl) (fun _ _ _ h => h) _ _ _ _ (by kernel_rfl) (by kernel_rfl) (Or.inl ⟨by rfl, ?_⟩) ?_
  rotate_left
  · intro w _
    go_simp
    try with_reducible rfl
  simp only [Act.put, List.setIfInBounds_toArray, List.set_cons_zero, List.set_cons_succ, List.getElem_toArray, List.getElem_cons_zero, List.getElem_cons_succ]
  refine under_take (i := 5) (v := ?_) rfl (by kernel_rfl) (by kernel_rfl) (fun _ _ _ h => h) _ _ _ _ (by kernel_rfl) (by kernel_rfl) (by kernel_rfl) (Or.inl ⟨by rfl, ?_⟩) hSS ?_
  rotate_left
  · intro w hSw
    obtain ⟨q0, q1⟩ := hSw
    go_simp
    try with_reducible rfl
  simp only [Act.put, List.setIfInBounds_toArray, List.set_cons_zero, List.set_cons_succ, List.getElem_toArray, List.getElem_cons_zero, List.getElem_cons_succ]
  refine under_free (i := 6) (v := ?_) rfl (by kernel_rfl) (fun _ _ _ h => h) _ _ _ _ (by kernel_rfl) (by kernel_rfl) (Or.inl ⟨by rfl, ?_⟩) ?_
  rotate_left
  · intro w _
    go_simp
    try with_reducible rfl
  simp only [Act.put, List.setIfInBounds_toArray, List.set_cons_zero, List.set_cons_succ, List.getElem_toArray, List.getElem_cons_zero, List.getElem_cons_succ]
  refine under_one (i := 7) (by kernel_rfl) rfl ?_
  intro K hK
  go_simp
  refine (pick_any a n hn63 _).mono ?_
  rintro en w3 ⟨rfl, rfl⟩
  refine hK _ _ (fun _ => hSS) ?_
  clear hK K
  simp only [List.setIfInBounds_toArray, List.set_cons_zero, List.set_cons_succ]
  refine under_free (i := 8) (v := ?_) rfl (by kernel_rfl) (fun _ _ _ h => h) _ _ _ _ (by kernel_rfl) (by kernel_rfl) (Or.inl ⟨by rfl, ?_⟩) ?_
  rotate_left
  · intro w _
    go_simp
    try with_reducible rfl
  simp only [Act.put, List.setIfInBounds_toArray, List.set_cons_zero, List.set_cons_succ, List.getElem_toArray, List.getElem_cons_zero, List.getElem_cons_succ]
  refine under_done (by kernel_rfl) ?_ _
  clear hSS
  go_upto_region 5 with (fail)
  have hpk : pickI a n = (k : Int) := by rw [← hn]; exact hk
  have hkn : k < n := by have h := (List.getElem?_eq_some_iff.1 hq).1; omega
  simp only [hdi, hpk]
  clear x0' hdi hpk
  have k0 : (0 : Int) ≤ (k : Int) := by omega
  have S3 := Sep.closeP2 (p := p) ⟨g0, g1, vw0, vw1, vr0, vr1, .slice VA n vc, t⟩ S2.tail
  have HO := Lib.hid (out_any k (by omega) hlen S3)
  clear S2 S3
  go_wp2_with fail
  refine HO.out.mono ?_
  rintro en w5 ⟨rfl, S4⟩
  go_wp2_with fail
  go_ret
  exact ⟨rfl, S4⟩
set_option maxRecDepth 100000 in
set_option maxHeartbeats 1000000 in
theorem step2_false {gp : Nat} {p : PS} (d : Nat) (hd : d % 6 = 2) (s : Bool) (a : Int) (A : Option Addr) (m c : Nat) (hlen : p.ws.length ≤ 1000000000) (k : Nat) (q : Pk) (hk : pickI a p.ws.length = (k : Int)) (hq : p.ws[k]? = some (false, q)) (ho : q.o < 18446744073709551616) (ha : q.a < 18446744073709551616) (hqd : q.d.length ≤ 1000000)
    (hw : (p.l false).most ≤ (p.l false).base + (p.l false).wait.length) (hl : (p.l false).wait.length ≤ 1048576) (hnx : (p.l false).next ≤ 1000000000000) (hg : (p.l false).got.length ≤ 1048576) (hS : Sep w0 w (PairAt gp p :: M)) :
    Calls Try.prog 22 #[.pointer (some ⟨gp, 0, none⟩), .agg #[.int .u8 (d : Int), .bool s, .int .i64 a, .slice A m c]] w fun en w' => en = .returned (.bool (takeE (p.l false) q == 0)) ∧ Sep w0 w' (PairAt gp (takePS p false q k) :: M) := by
  have hdi : (d : Int) % 6 = 2 := by omega
  obtain ⟨xv, S⟩ := hS.openP2
  obtain ⟨g0, g1, vw0, vw1, vr0, vr1, y, t⟩ := xv
  obtain ⟨VA, vc, hv, hvc, -, -⟩ := S.pr 7 rfl
  obtain ⟨n, hn⟩ : ∃ n, p.ws.length = n := ⟨_, rfl⟩
  rw [List.length_map, hn] at hv hvc
  subst hv
  obtain ⟨W1, hW1, S1⟩ := S.boxedF 43 #[.int .u8 (d : Int), .bool s, .int .i64 a, .slice A m c]
  obtain ⟨xb, hxb⟩ : ∃ xb, w.heap.size = xb := ⟨_, rfl⟩
  rw [hxb] at S1
  have x0 : W1.cell? ⟨xb, 0, none⟩ = some (.int .u8 (d : Int)) := (S1.blk 0 rfl).at_ 0 rfl
  have x1 : W1.cell? ⟨xb, 1, none⟩ = some (.bool s) := (S1.blk 0 rfl).at_ 1 rfl
  have x2 : W1.cell? ⟨xb, 2, none⟩ = some (.int .i64 a) := (S1.blk 0 rfl).at_ 2 rfl
  have y6 : W1.cell? ⟨gp, 6, none⟩ = some (.slice VA n vc) := (S1.blk 1 rfl).at_ 6 rfl
  have hn63 : n ≤ 9223372036854775807 := by omega
  clear S hS
  go_enter Try.func22, Try.ntmps22
  go_wp2_with fail
  obtain ⟨si, hsi⟩ := side_ex s
  refine (hsi _).mono ?_
  rintro en W2 ⟨rfl, rfl⟩
  go_upto_region 2 with (fail)
  refine plain_under (fun w => w.cell? ⟨xb, 2, none⟩ = some (.int .i64 a) ∧ w.cell? ⟨gp, 6, none⟩ = some (.slice VA n vc)) (fun _ => true) (by kernel_rfl) ?_
  have hSS : W2.drew.cell? ⟨xb, 2, none⟩ = some (.int .i64 a) ∧ W2.drew.cell? ⟨gp, 6, none⟩ = some (.slice VA n vc) := ⟨x2, y6⟩
  have S2 := S1.drew
  have x0' : W2.drew.cell? ⟨xb, 0, none⟩ = some (.int .u8 (d : Int)) := x0
  clear x0 x1 x2 y6 S1 hW1
  generalize W2.drew = W3 at hSS S2 x0' ⊢
  simp only [List.size_toArray, List.length_cons, List.length_nil, Nat.reduceAdd, Array.replicate_succ, Array.replicate_zero, List.push_toArray, List.nil_append, List.cons_append]
  refine under_free (i := 0) (v := ?_) rfl (by kernel_rfl) (fun _ _ _ h => h) _ _ _ _ (by kernel_rfl) (by kernel_rfl) (Or.inl ⟨by rfl, ?_⟩) ?_
  rotate_left
  · intro w _
    go_simp
    try with_reducible rfl
  simp only [Act.put, List.setIfInBounds_toArray, List.set_cons_zero, List.set_cons_succ, List.getElem_toArray, List.getElem_cons_zero]
  refine under_take (i := 1) (v := ?_) rfl (by kernel_rfl) (by kernel_rfl) (fun _ _ _ h => h) _ _ _ _ (by kernel_rfl) (by kernel_rfl) (by kernel_rfl) (Or.inl ⟨by rfl, ?_⟩) hSS ?_
  rotate_left
  · intro w hSw
    obtain ⟨q0, q1⟩ := hSw
    go_simp
    try with_reducible rfl
  simp only [Act.put, List.setIfInBounds_toArray, List.set_cons_zero, List.set_cons_succ, List.getElem_toArray, List.getElem_cons_zero, List.getElem_cons_succ]
  refine under_free (i := 2) (v := ?_) rfl (by kernel_rfl) (fun _ _ _ h => h) _ _ _ _ (by kernel_rfl) (by kernel_rfl) (Or.inl ⟨by rfl, ?_⟩) ?_
  rotate_left
  · intro w _
    go_simp
    try with_reducible rfl
  simp only [Act.put, List.setIfInBounds_toArray, List.set_cons_zero, List.set_cons_succ, List.getElem_toArray, List.getElem_cons_zero, List.getElem_cons_succ]
  refine under_free (i := 3) (v := ?_) rfl (by kernel_rfl) (fun _ _ _ h => h) _ _ _ _ (by kernel_rfl) (by kernel_rfl) (Or.inl ⟨by rfl, ?_⟩) ?_
  rotate_left
  · intro w _
    go_simp
    try with_reducible rfl
  simp only [Act.put, List.setIfInBounds_toArray, List.set_cons_zero, List.set_cons_succ, List.getElem_toArray, List.getElem_cons_zero, List.getElem_cons_succ]
  refine under_free (i := 4) (v := ?_) rfl (by kernel_rfl) (fun _ _ _ h => h) _ _ _ _ (by kernel_rfl) (by kernel_rfl) (Or.inl ⟨by rfl, ?_⟩) ?_
  rotate_left
  · intro w _
    go_simp
    try with_reducible rfl
  simp only [Act.put, List.setIfInBounds_toArray, List.set_cons_zero, List.set_cons_succ, List.getElem_toArray, List.getElem_cons_zero, List.getElem_cons_succ]
  refine under_take (i := 5) (v := ?_) rfl (by kernel_rfl) (by kernel_rfl) (fun _ _ _ h => h) _ _ _ _ (by kernel_rfl) (by kernel_rfl) (by kernel_rfl) (Or.inl ⟨by rfl, ?_⟩) hSS ?_
  rotate_left
  · intro w hSw
    obtain ⟨q0, q1⟩ := hSw
    go_simp
    try with_reducible rfl
  simp only [Act.put, List.setIfInBounds_toArray, List.set_cons_zero, List.set_cons_succ, List.getElem_toArray, List.getElem_cons_zero, List.getElem_cons_succ]
  refine under_free (i := 6) (v := ?_) rfl (by kernel_rfl) (fun _ _ _ h => h) _ _ _ _ (by kernel_rfl) (by kernel_rfl) (Or.inl ⟨by rfl, ?_⟩) ?_
  rotate_left
  · intro w _
    go_simp
    try with_reducible rfl
  simp only [Act.put, List.setIfInBounds_toArray, List.set_cons_zero, List.set_cons_succ, List.getElem_toArray, List.getElem_cons_zero, List.getElem_cons_succ]
  refine under_one (i := 7) (by kernel_rfl) rfl ?_
  intro K hK
  go_simp
  refine (pick_any a n hn63 _).mono ?_
  rintro en w3 ⟨rfl, rfl⟩
  refine hK _ _ (fun _ => hSS) ?_
  clear hK K
  simp only [List.setIfInBounds_toArray, List.set_cons_zero, List.set_cons_succ]
  refine under_free (i := 8) (v := ?_) rfl (by kernel_rfl) (fun _ _ _ h => h) _ _ _ _ (by kernel_rfl) (by kernel_rfl) (Or.inl ⟨by rfl, ?_⟩) ?_
  rotate_left
  · intro w _
    go_simp
    try with_reducible rfl
  simp only [Act.put, List.setIfInBounds_toArray, List.set_cons_zero, List.set_cons_succ, List.getElem_toArray, List.getElem_cons_zero, List.getElem_cons_succ]
  refine under_done (by kernel_rfl) ?_ _
  clear hSS
  go_upto_region 5 with (fail)
  have hpk : pickI a n = (k : Int) := by rw [← hn]; exact hk
  have hkn : k < n := by have h := (List.getElem?_eq_some_iff.1 hq).1; omega
  simp only [hdi, hpk]
  clear x0' hdi hpk
  have k0 : (0 : Int) ≤ (k : Int) := by omega
  obtain ⟨IA, ic, htt, -, -⟩ := own_slice (S2.own 9 rfl)
  rw [hn] at htt
  subst htt
  obtain ⟨ib, ic2, hib, -⟩ := (S2.own 9 rfl).form (by omega)
  injection hib with hib h2 h3
  subst hib
  clear h2 h3
  have hmapk : (p.ws.map (·.2))[k]? = some q := by rw [List.getElem?_map, hq]; rfl
  have hIk : (p.ws.map enI)[k]? = some (.int .i64 0) := by rw [List.getElem?_map, hq]; rfl
  have S3 : Sep w0 w3 (PkX (.slice VA n vc) (p.ws.map (·.2)) :: cell gp 49 (PV.cs ⟨g0, g1, vw0, vw1, vr0, vr1, .slice VA n vc, .slice (some ⟨ib, 0, none⟩) n ic⟩) :: LinkAt g0 (p.l false) :: LinkAt g1 (p.l true) :: BRow vw0 (p.wr false) :: BRow vw1 (p.wr true) :: BRow vr0 (p.rd false) :: BRow vr1 (p.rd true) :: IRow (.slice (some ⟨ib, 0, none⟩) n ic) p.ws :: M) := S2.ix 10 [8, 1, 2, 3, 4, 5, 6, 7, 9] [0] (by decide)
  clear S2
  obtain ⟨es, ds, b, o, QB, qc, vc2, hv2, S4, -, -, -, -, -, hclose, hT, hcells⟩ := take_of k q hmapk ho ha hqd hw hl hnx hg 1 rfl S3
  injection hv2 with hv2 h2 h3
  subst hv2
  clear h2 h3 S3
  obtain ⟨ql, hql⟩ : ∃ ql, q.d.length = ql := ⟨_, rfl⟩
  rw [hql] at hT hcells
  have facts : ∀ X : World, Sep w0 X (row 32 4 (.slice (some ⟨b, o, none⟩) n vc) es.length (entP es) :: (ds.map rowD ++ (cell gp 49 (PV.cs ⟨g0, g1, vw0, vw1, vr0, vr1, .slice (some ⟨b, o, none⟩) n vc, .slice (some ⟨ib, 0, none⟩) n ic⟩) :: LinkAt g0 (p.l false) :: LinkAt g1 (p.l true) :: BRow vw0 (p.wr false) :: BRow vw1 (p.wr true) :: BRow vr0 (p.rd false) :: BRow vr1 (p.rd true) :: IRow (.slice (some ⟨ib, 0, none⟩) n ic) p.ws :: M))) → X.cell? ⟨gp, 7, none⟩ = some (.slice (some ⟨ib, 0, none⟩) n ic) ∧ X.cell? ⟨ib, k, none⟩ = some (.int .i64 0) ∧ X.cell? ⟨gp, 0, none⟩ = some (.pointer (some ⟨g0, 0, none⟩)) ∧ X.cell? ⟨gp, 6, none⟩ = some (.slice (some ⟨b, o, none⟩) n vc) ∧ X.cell? ⟨b, o + k * 4, none⟩ = some (.int .u32 (q.e : Int)) ∧ X.cell? ⟨b, o + k * 4 + 1, none⟩ = some (.int .u64 (q.o : Int)) ∧ X.cell? ⟨b, o + k * 4 + 2, none⟩ = some (.int .u64 (q.a : Int)) ∧ X.cell? ⟨b, o + k * 4 + 3, none⟩ = some (.slice QB ql qc) := fun X h => by
    have h1 := hclose X h
    obtain ⟨r0, r1, r2, r3⟩ := hcells X h
    exact ⟨(h1.blk 1 rfl).at_ 7 rfl, irow_cells h1 8 rfl hn _ _ hIk, (h1.blk 1 rfl).at_ 0 rfl, (h1.blk 1 rfl).at_ 6 rfl, r0, r1, r2, r3⟩
  have hSS : w3.cell? ⟨gp, 7, none⟩ = some (.slice (some ⟨ib, 0, none⟩) n ic) ∧ w3.cell? ⟨ib, k, none⟩ = some (.int .i64 0) ∧ w3.cell? ⟨gp, 0, none⟩ = some (.pointer (some ⟨g0, 0, none⟩)) ∧ w3.cell? ⟨gp, 6, none⟩ = some (.slice (some ⟨b, o, none⟩) n vc) ∧ w3.cell? ⟨b, o + k * 4, none⟩ = some (.int .u32 (q.e : Int)) ∧ w3.cell? ⟨b, o + k * 4 + 1, none⟩ = some (.int .u64 (q.o : Int)) ∧ w3.cell? ⟨b, o + k * 4 + 2, none⟩ = some (.int .u64 (q.a : Int)) ∧ w3.cell? ⟨b, o + k * 4 + 3, none⟩ = some (.slice QB ql qc) := facts w3 S4
  go_upto_region 17 with (fail)
  refine plain_under (fun w => w.cell? ⟨gp, 7, none⟩ = some (.slice (some ⟨ib, 0, none⟩) n ic) ∧ w.cell? ⟨ib, k, none⟩ = some (.int .i64 0) ∧ w.cell? ⟨gp, 0, none⟩ = some (.pointer (some ⟨g0, 0, none⟩)) ∧ w.cell? ⟨gp, 6, none⟩ = some (.slice (some ⟨b, o, none⟩) n vc) ∧ w.cell? ⟨b, o + k * 4, none⟩ = some (.int .u32 (q.e : Int)) ∧ w.cell? ⟨b, o + k * 4 + 1, none⟩ = some (.int .u64 (q.o : Int)) ∧ w.cell? ⟨b, o + k * 4 + 2, none⟩ = some (.int .u64 (q.a : Int)) ∧ w.cell? ⟨b, o + k * 4 + 3, none⟩ = some (.slice QB ql qc)) (fun j => decide (j < 19)) (by kernel_rfl) ?_
  replace hSS : w3.drew.cell? ⟨gp, 7, none⟩ = some (.slice (some ⟨ib, 0, none⟩) n ic) ∧ w3.drew.cell? ⟨ib, k, none⟩ = some (.int .i64 0) ∧ w3.drew.cell? ⟨gp, 0, none⟩ = some (.pointer (some ⟨g0, 0, none⟩)) ∧ w3.drew.cell? ⟨gp, 6, none⟩ = some (.slice (some ⟨b, o, none⟩) n vc) ∧ w3.drew.cell? ⟨b, o + k * 4, none⟩ = some (.int .u32 (q.e : Int)) ∧ w3.drew.cell? ⟨b, o + k * 4 + 1, none⟩ = some (.int .u64 (q.o : Int)) ∧ w3.drew.cell? ⟨b, o + k * 4 + 2, none⟩ = some (.int .u64 (q.a : Int)) ∧ w3.drew.cell? ⟨b, o + k * 4 + 3, none⟩ = some (.slice QB ql qc) := facts _ S4.drew
  replace S4 := S4.drew
  generalize w3.drew = w4 at hSS S4 ⊢
  simp only [List.size_toArray, List.length_cons, List.length_nil, Nat.reduceAdd, Array.replicate_succ, Array.replicate_zero, List.push_toArray, List.nil_append, List.cons_append]
  refine under_free (i := 0) (v := ?_) rfl (by kernel_rfl) (fun _ _ _ h => h) _ _ _ _ (by kernel_rfl) (by kernel_rfl) (Or.inl ⟨by rfl, ?_⟩) ?_
  rotate_left
  · intro w _
    go_simp
    try with_reducible rfl
  simp only [Act.put, List.setIfInBounds_toArray, List.set_cons_zero, List.set_cons_succ, List.getElem_toArray, List.getElem_cons_zero]
  refine under_free (i := 1) (v := ?_) rfl (by kernel_rfl) (fun _ _ _ h => h) _ _ _ _ (by kernel_rfl) (by kernel_rfl) (Or.inl ⟨by rfl, ?_⟩) ?_
  rotate_left
  · intro w _
    go_simp
    try with_reducible rfl
  simp only [Act.put, List.setIfInBounds_toArray, List.set_cons_zero, List.set_cons_succ, List.getElem_toArray, List.getElem_cons_zero, List.getElem_cons_succ]
  refine under_free (i := 2) (v := ?_) rfl (by kernel_rfl) (fun _ _ _ h => h) _ _ _ _ (by kernel_rfl) (by kernel_rfl) (Or.inl ⟨by rfl, ?_⟩) ?_
  rotate_left
  · intro w _
    go_simp
    try with_reducible rfl
  simp only [Act.put, List.setIfInBounds_toArray, List.set_cons_zero, List.set_cons_succ, List.getElem_toArray, List.getElem_cons_zero, List.getElem_cons_succ]
  refine under_free (i := 3) (v := ?_) rfl (by kernel_rfl) (fun _ _ _ h => h) _ _ _ _ (by kernel_rfl) (by kernel_rfl) (Or.inl ⟨by rfl, ?_⟩) ?_
  rotate_left
  · intro w _
    go_simp
    try with_reducible rfl
  simp only [Act.put, List.setIfInBounds_toArray, List.set_cons_zero, List.set_cons_succ, List.getElem_toArray, List.getElem_cons_zero, List.getElem_cons_succ]
  refine under_take (i := 4) (v := ?_) rfl (by kernel_rfl) (by kernel_rfl) (fun _ _ _ h => h) _ _ _ _ (by kernel_rfl) (by kernel_rfl) (by kernel_rfl) (Or.inl ⟨by rfl, ?_⟩) hSS ?_
  rotate_left
  · intro w hSw
    obtain ⟨q0, q1, q2, q3, q4, q5, q6, q7⟩ := hSw
    go_simp
    try with_reducible rfl
  simp only [Act.put, List.setIfInBounds_toArray, List.set_cons_zero, List.set_cons_succ, List.getElem_toArray, List.getElem_cons_zero, List.getElem_cons_succ]
  refine under_free (i := 5) (v := ?_) rfl (by kernel_rfl) (fun _ _ _ h => h) _ _ _ _ (by kernel_rfl) (by kernel_rfl) (Or.inl ⟨by rfl, ?_⟩) ?_
  rotate_left
  · intro w _
    go_simp
    try with_reducible rfl
  simp only [Act.put, List.setIfInBounds_toArray, List.set_cons_zero, List.set_cons_succ, List.getElem_toArray, List.getElem_cons_zero, List.getElem_cons_succ]
  refine under_free (i := 6) (v := ?_) rfl (by kernel_rfl) (fun _ _ _ h => h) _ _ _ _ (by kernel_rfl) (by kernel_rfl) (Or.inl ⟨by rfl, ?_⟩) ?_
  rotate_left
  · intro w _
    go_simp
    try with_reducible rfl
  simp only [Act.put, List.setIfInBounds_toArray, List.set_cons_zero, List.set_cons_succ, List.getElem_toArray, List.getElem_cons_zero, List.getElem_cons_succ]
  refine under_take (i := 7) (v := ?_) rfl (by kernel_rfl) (by kernel_rfl) (fun _ _ _ h => h) _ _ _ _ (by kernel_rfl) (by kernel_rfl) (by kernel_rfl) (Or.inl ⟨by rfl, ?_⟩) hSS ?_
  rotate_left
  · intro w hSw
    obtain ⟨q0, q1, q2, q3, q4, q5, q6, q7⟩ := hSw
    go_simp
    try with_reducible rfl
  simp only [Act.put, List.setIfInBounds_toArray, List.set_cons_zero, List.set_cons_succ, List.getElem_toArray, List.getElem_cons_zero, List.getElem_cons_succ]
  refine under_free (i := 8) (v := ?_) rfl (by kernel_rfl) (fun _ _ _ h => h) _ _ _ _ (by kernel_rfl) (by kernel_rfl) (Or.inl ⟨by rfl, ?_⟩) ?_
  rotate_left
  · intro w _
    go_simp
    try with_reducible rfl
  simp only [Act.put, List.setIfInBounds_toArray, List.set_cons_zero, List.set_cons_succ, List.getElem_toArray, List.getElem_cons_zero, List.getElem_cons_succ]
  refine under_free (i := 9) (v := ?_) rfl (by kernel_rfl) (fun _ _ _ h => h) _ _ _ _ (by kernel_rfl) (by kernel_rfl) (Or.inl ⟨by rfl, ?_⟩) ?_
  rotate_left
  · intro w _
    go_simp
    try with_reducible rfl
  simp only [Act.put, List.setIfInBounds_toArray, List.set_cons_zero, List.set_cons_succ, List.getElem_toArray, List.getElem_cons_zero, List.getElem_cons_succ]
  refine under_free (i := 10) (v := ?_) rfl (by kernel_rfl) (fun _ _ _ h => h) _ _ _ _ (by kernel_rfl) (by kernel_rfl) (Or.inl ⟨by rfl, ?_⟩) ?_
  rotate_left
  · intro w _
    go_simp
    try with_reducible rfl
  simp only [Act.put, List.setIfInBounds_toArray, List.set_cons_zero, List.set_cons_succ, List.getElem_toArray, List.getElem_cons_zero, List.getElem_cons_succ]
  refine under_take (i := 11) (v := ?_) rfl (by kernel_rfl) (by kernel_rfl) (fun _ _ _ h => h) _ _ _ _ (by kernel_rfl) (by kernel_rfl) (by kernel_rfl) (Or.inl ⟨by rfl, ?_⟩) hSS ?_
  rotate_left
  · intro w hSw
    obtain ⟨q0, q1, q2, q3, q4, q5, q6, q7⟩ := hSw
    go_simp
    try with_reducible rfl
  simp only [Act.put, List.setIfInBounds_toArray, List.set_cons_zero, List.set_cons_succ, List.getElem_toArray, List.getElem_cons_zero, List.getElem_cons_succ]
  refine under_free (i := 12) (v := ?_) rfl (by kernel_rfl) (fun _ _ _ h => h) _ _ _ _ (by kernel_rfl) (by kernel_rfl) (Or.inl ⟨by rfl, ?_⟩) ?_
  rotate_left
  · intro w _
    go_simp
    try with_reducible rfl
  simp only [Act.put, List.setIfInBounds_toArray, List.set_cons_zero, List.set_cons_succ, List.getElem_toArray, List.getElem_cons_zero, List.getElem_cons_succ]
  refine under_free (i := 13) (v := ?_) rfl (by kernel_rfl) (fun _ _ _ h => h) _ _ _ _ (by kernel_rfl) (by kernel_rfl) (Or.inl ⟨by rfl, ?_⟩) ?_
  rotate_left
  · intro w _
    go_simp
    try with_reducible rfl
  simp only [Act.put, List.setIfInBounds_toArray, List.set_cons_zero, List.set_cons_succ, List.getElem_toArray, List.getElem_cons_zero, List.getElem_cons_succ]
  refine under_free (i := 14) (v := ?_) rfl (by kernel_rfl) (fun _ _ _ h => h) _ _ _ _ (by kernel_rfl) (by kernel_rfl) (Or.inl ⟨by rfl, ?_⟩) ?_
  rotate_left
  · intro w _
    go_simp
    try with_reducible rfl
  simp only [Act.put, List.setIfInBounds_toArray, List.set_cons_zero, List.set_cons_succ, List.getElem_toArray, List.getElem_cons_zero, List.getElem_cons_succ]
  refine under_take (i := 15) (v := ?_) rfl (by kernel_rfl) (by kernel_rfl) (fun _ _ _ h => h) _ _ _ _ (by kernel_rfl) (by kernel_rfl) (by kernel_rfl) (Or.inl ⟨by rfl, ?_⟩) hSS ?_
  rotate_left
  · intro w hSw
    obtain ⟨q0, q1, q2, q3, q4, q5, q6, q7⟩ := hSw
    go_simp
    try with_reducible rfl
  simp only [Act.put, List.setIfInBounds_toArray, List.set_cons_zero, List.set_cons_succ, List.getElem_toArray, List.getElem_cons_zero, List.getElem_cons_succ]
  refine under_free (i := 16) (v := ?_) rfl (by kernel_rfl) (fun _ _ _ h => h) _ _ _ _ (by kernel_rfl) (by kernel_rfl) (Or.inl ⟨by rfl, ?_⟩) ?_
  rotate_left
  · intro w _
    go_simp
    try with_reducible rfl
  simp only [Act.put, List.setIfInBounds_toArray, List.set_cons_zero, List.set_cons_succ, List.getElem_toArray, List.getElem_cons_zero, List.getElem_cons_succ]
  refine under_free (i := 17) (v := ?_) rfl (by kernel_rfl) (fun _ _ _ h => h) _ _ _ _ (by kernel_rfl) (by kernel_rfl) (Or.inl ⟨by rfl, ?_⟩) ?_
  rotate_left
  · intro w _
    go_simp
    try with_reducible rfl
  simp only [Act.put, List.setIfInBounds_toArray, List.set_cons_zero, List.set_cons_succ, List.getElem_toArray, List.getElem_cons_zero, List.getElem_cons_succ]
  refine under_take (i := 18) (v := ?_) rfl (by kernel_rfl) (by kernel_rfl) (fun _ _ _ h => h) _ _ _ _ (by kernel_rfl) (by kernel_rfl) (by kernel_rfl) (Or.inl ⟨by rfl, ?_⟩) hSS ?_
  rotate_left
  · intro w hSw
    obtain ⟨q0, q1, q2, q3, q4, q5, q6, q7⟩ := hSw
    go_simp
    try with_reducible rfl
  simp only [Act.put, List.setIfInBounds_toArray, List.set_cons_zero, List.set_cons_succ, List.getElem_toArray, List.getElem_cons_zero, List.getElem_cons_succ]
  refine under_one (i := 19) (by kernel_rfl) rfl ?_
  intro K hK
  go_simp
  refine (hT w4 S4).mono ?_
  rintro en w5 ⟨rfl, S5⟩
  refine hK _ _ (fun h => by cases h) ?_
  clear hK K hSS
  simp only [List.setIfInBounds_toArray, List.set_cons_zero, List.set_cons_succ]
  refine under_free (i := 20) (v := ?_) rfl (by kernel_rfl) (fun _ _ _ h => h) _ _ _ _ (by kernel_rfl) (by kernel_rfl) (Or.inl ⟨by rfl, ?_⟩) ?_
  rotate_left
  · intro w _
    go_simp
    try with_reducible rfl
  simp only [Act.put, List.setIfInBounds_toArray, List.set_cons_zero, List.set_cons_succ, List.getElem_toArray, List.getElem_cons_zero, List.getElem_cons_succ]
  refine under_done (by kernel_rfl) ?_ _
  have S6 : Sep w0 w5 (PkX (.slice (some ⟨b, o, none⟩) n vc) (p.ws.map (·.2)) :: cell gp 49 (PV.cs ⟨g0, g1, vw0, vw1, vr0, vr1, .slice (some ⟨b, o, none⟩) n vc, .slice (some ⟨ib, 0, none⟩) n ic⟩) :: LinkAt g0 (takeS (p.l false) q) :: LinkAt g1 (p.l true) :: BRow vw0 (p.wr false) :: BRow vw1 (p.wr true) :: BRow vr0 (p.rd false) :: BRow vr1 (p.rd true) :: IRow (.slice (some ⟨ib, 0, none⟩) n ic) p.ws :: M) := S5
  have S7 := Sep.closeP2 (p := { p with l := upd p.l false (takeS (p.l false) q) }) ⟨g0, g1, vw0, vw1, vr0, vr1, .slice (some ⟨b, o, none⟩) n vc, .slice (some ⟨ib, 0, none⟩) n ic⟩ (S6.ix 9 [1, 2, 3, 4, 5, 6, 7, 0, 8] [] (by decide))
  have HO := Lib.hid (out_any (p := { p with l := upd p.l false (takeS (p.l false) q) }) k (by show k < p.ws.length; omega) hlen S7)
  clear S4 S5 S6 S7 facts hT hcells hclose
  go_wp2_with fail
  refine HO.out.mono ?_
  rintro en w6 ⟨rfl, S8⟩
  go_wp2_with fail
  go_ret
  exact ⟨rfl, S8⟩
set_option maxRecDepth 100000 in
set_option maxHeartbeats 1000000 in
theorem step2_true {gp : Nat} {p : PS} (d : Nat) (hd : d % 6 = 2) (s : Bool) (a : Int) (A : Option Addr) (m c : Nat) (hlen : p.ws.length ≤ 1000000000) (k : Nat) (q : Pk) (hk : pickI a p.ws.length = (k : Int)) (hq : p.ws[k]? = some (true, q)) (ho : q.o < 18446744073709551616) (ha : q.a < 18446744073709551616) (hqd : q.d.length ≤ 1000000)
    (hw : (p.l true).most ≤ (p.l true).base + (p.l true).wait.length) (hl : (p.l true).wait.length ≤ 1048576) (hnx : (p.l true).next ≤ 1000000000000) (hg : (p.l true).got.length ≤ 1048576) (hS : Sep w0 w (PairAt gp p :: M)) :
    Calls Try.prog 22 #[.pointer (some ⟨gp, 0, none⟩), .agg #[.int .u8 (d : Int), .bool s, .int .i64 a, .slice A m c]] w fun en w' => en = .returned (.bool (takeE (p.l true) q == 0)) ∧ Sep w0 w' (PairAt gp (takePS p true q k) :: M) := by
  have hdi : (d : Int) % 6 = 2 := by omega
  obtain ⟨xv, S⟩ := hS.openP2
  obtain ⟨g0, g1, vw0, vw1, vr0, vr1, y, t⟩ := xv
  obtain ⟨VA, vc, hv, hvc, -, -⟩ := S.pr 7 rfl
  obtain ⟨n, hn⟩ : ∃ n, p.ws.length = n := ⟨_, rfl⟩
  rw [List.length_map, hn] at hv hvc
  subst hv
  obtain ⟨W1, hW1, S1⟩ := S.boxedF 43 #[.int .u8 (d : Int), .bool s, .int .i64 a, .slice A m c]
  obtain ⟨xb, hxb⟩ : ∃ xb, w.heap.size = xb := ⟨_, rfl⟩
  rw [hxb] at S1
  have x0 : W1.cell? ⟨xb, 0, none⟩ = some (.int .u8 (d : Int)) := (S1.blk 0 rfl).at_ 0 rfl
  have x1 : W1.cell? ⟨xb, 1, none⟩ = some (.bool s) := (S1.blk 0 rfl).at_ 1 rfl
  have x2 : W1.cell? ⟨xb, 2, none⟩ = some (.int .i64 a) := (S1.blk 0 rfl).at_ 2 rfl
  have y6 : W1.cell? ⟨gp, 6, none⟩ = some (.slice VA n vc) := (S1.blk 1 rfl).at_ 6 rfl
  have hn63 : n ≤ 9223372036854775807 := by omega
  clear S hS
  go_enter Try.func22, Try.ntmps22
  go_wp2_with fail
  obtain ⟨si, hsi⟩ := side_ex s
  refine (hsi _).mono ?_
  rintro en W2 ⟨rfl, rfl⟩
  go_upto_region 2 with (fail)
  refine plain_under (fun w => w.cell? ⟨xb, 2, none⟩ = some (.int .i64 a) ∧ w.cell? ⟨gp, 6, none⟩ = some (.slice VA n vc)) (fun _ => true) (by kernel_rfl) ?_
  have hSS : W2.drew.cell? ⟨xb, 2, none⟩ = some (.int .i64 a) ∧ W2.drew.cell? ⟨gp, 6, none⟩ = some (.slice VA n vc) := ⟨x2, y6⟩
  have S2 := S1.drew
  have x0' : W2.drew.cell? ⟨xb, 0, none⟩ = some (.int .u8 (d : Int)) := x0
  clear x0 x1 x2 y6 S1 hW1
  generalize W2.drew = W3 at hSS S2 x0' ⊢
  simp only [List.size_toArray, List.length_cons, List.length_nil, Nat.reduceAdd, Array.replicate_succ, Array.replicate_zero, List.push_toArray, List.nil_append, List.cons_append]
  refine under_free (i := 0) (v := ?_) rfl (by kernel_rfl) (fun _ _ _ h => h) _ _ _ _ (by kernel_rfl) (by kernel_rfl) (Or.inl ⟨by rfl, ?_⟩) ?_
  rotate_left
  · intro w _
    go_simp
    try with_reducible rfl
  simp only [Act.put, List.setIfInBounds_toArray, List.set_cons_zero, List.set_cons_succ, List.getElem_toArray, List.getElem_cons_zero]
  refine under_take (i := 1) (v := ?_) rfl (by kernel_rfl) (by kernel_rfl) (fun _ _ _ h => h) _ _ _ _ (by kernel_rfl) (by kernel_rfl) (by kernel_rfl) (Or.inl ⟨by rfl, ?_⟩) hSS ?_
  rotate_left
  · intro w hSw
    obtain ⟨q0, q1⟩ := hSw
    go_simp
    try with_reducible rfl
  simp only [Act.put, List.setIfInBounds_toArray, List.set_cons_zero, List.set_cons_succ, List.getElem_toArray, List.getElem_cons_zero, List.getElem_cons_succ]
  refine under_free (i := 2) (v := ?_) rfl (by kernel_rfl) (fun _ _ _ h => h) _ _ _ _ (by kernel_rfl) (by kernel_rfl) (Or.inl ⟨by rfl, ?_⟩) ?_
  rotate_left
  · intro w _
    go_simp
    try with_reducible rfl
  simp only [Act.put, List.setIfInBounds_toArray, List.set_cons_zero, List.set_cons_succ, List.getElem_toArray, List.getElem_cons_zero, List.getElem_cons_succ]
  refine under_free (i := 3) (v := ?_) rfl (by kernel_rfl) (fun _ _ _ h => h) _ _ _ _ (by kernel_rfl) (by kernel_rfl) (Or.inl ⟨by rfl, ?_⟩) ?_
  rotate_left
  · intro w _
    go_simp
    try with_reducible rfl
  simp only [Act.put, List.setIfInBounds_toArray, List.set_cons_zero, List.set_cons_succ, List.getElem_toArray, List.getElem_cons_zero, List.getElem_cons_succ]
  refine under_free (i := 4) (v := ?_) rfl (by kernel_rfl) (fun _ _ _ h => h) _ _ _ _ (by kernel_rfl) (by kernel_rfl) (Or.inl ⟨by rfl, ?_⟩) ?_
  rotate_left
  · intro w _
    go_simp
    try with_reducible rfl
  simp only [Act.put, List.setIfInBounds_toArray, List.set_cons_zero, List.set_cons_succ, List.getElem_toArray, List.getElem_cons_zero, List.getElem_cons_succ]
  refine under_take (i := 5) (v := ?_) rfl (by kernel_rfl) (by kernel_rfl) (fun _ _ _ h => h) _ _ _ _ (by kernel_rfl) (by kernel_rfl) (by kernel_rfl) (Or.inl ⟨by rfl, ?_⟩) hSS ?_
  rotate_left
  · intro w hSw
    obtain ⟨q0, q1⟩ := hSw
    go_simp
    try with_reducible rfl
  simp only [Act.put, List.setIfInBounds_toArray, List.set_cons_zero, List.set_cons_succ, List.getElem_toArray, List.getElem_cons_zero, List.getElem_cons_succ]
  refine under_free (i := 6) (v := ?_) rfl (by kernel_rfl) (fun _ _ _ h => h) _ _ _ _ (by kernel_rfl) (by kernel_rfl) (Or.inl ⟨by rfl, ?_⟩) ?_
  rotate_left
  · intro w _
    go_simp
    try with_reducible rfl
  simp only [Act.put, List.setIfInBounds_toArray, List.set_cons_zero, List.set_cons_succ, List.getElem_toArray, List.getElem_cons_zero, List.getElem_cons_succ]
  refine under_one (i := 7) (by kernel_rfl) rfl ?_
  intro K hK
  go_simp
  refine (pick_any a n hn63 _).mono ?_
  rintro en w3 ⟨rfl, rfl⟩
  refine hK _ _ (fun _ => hSS) ?_
  clear hK K
  simp only [List.setIfInBounds_toArray, List.set_cons_zero, List.set_cons_succ]
  refine under_free (i := 8) (v := ?_) rfl (by kernel_rfl) (fun _ _ _ h => h) _ _ _ _ (by kernel_rfl) (by kernel_rfl) (Or.inl ⟨by rfl, ?_⟩) ?_
  rotate_left
  · intro w _
    go_simp
    try with_reducible rfl
  simp only [Act.put, List.setIfInBounds_toArray, List.set_cons_zero, List.set_cons_succ, List.getElem_toArray, List.getElem_cons_zero, List.getElem_cons_succ]
  refine under_done (by kernel_rfl) ?_ _
  clear hSS
  go_upto_region 5 with (fail)
  have hpk : pickI a n = (k : Int) := by rw [← hn]; exact hk
  have hkn : k < n := by have h := (List.getElem?_eq_some_iff.1 hq).1; omega
  simp only [hdi, hpk]
  clear x0' hdi hpk
  have k0 : (0 : Int) ≤ (k : Int) := by omega
  obtain ⟨IA, ic, htt, -, -⟩ := own_slice (S2.own 9 rfl)
  rw [hn] at htt
  subst htt
  obtain ⟨ib, ic2, hib, -⟩ := (S2.own 9 rfl).form (by omega)
  injection hib with hib h2 h3
  subst hib
  clear h2 h3
  have hmapk : (p.ws.map (·.2))[k]? = some q := by rw [List.getElem?_map, hq]; rfl
  have hIk : (p.ws.map enI)[k]? = some (.int .i64 1) := by rw [List.getElem?_map, hq]; rfl
  have S3 : Sep w0 w3 (PkX (.slice VA n vc) (p.ws.map (·.2)) :: cell gp 49 (PV.cs ⟨g0, g1, vw0, vw1, vr0, vr1, .slice VA n vc, .slice (some ⟨ib, 0, none⟩) n ic⟩) :: LinkAt g0 (p.l false) :: LinkAt g1 (p.l true) :: BRow vw0 (p.wr false) :: BRow vw1 (p.wr true) :: BRow vr0 (p.rd false) :: BRow vr1 (p.rd true) :: IRow (.slice (some ⟨ib, 0, none⟩) n ic) p.ws :: M) := S2.ix 10 [8, 1, 2, 3, 4, 5, 6, 7, 9] [0] (by decide)
  clear S2
  obtain ⟨es, ds, b, o, QB, qc, vc2, hv2, S4, -, -, -, -, -, hclose, hT, hcells⟩ := take_of k q hmapk ho ha hqd hw hl hnx hg 2 rfl S3
  injection hv2 with hv2 h2 h3
  subst hv2
  clear h2 h3 S3
  obtain ⟨ql, hql⟩ : ∃ ql, q.d.length = ql := ⟨_, rfl⟩
  rw [hql] at hT hcells
  have facts : ∀ X : World, Sep w0 X (row 32 4 (.slice (some ⟨b, o, none⟩) n vc) es.length (entP es) :: (ds.map rowD ++ (cell gp 49 (PV.cs ⟨g0, g1, vw0, vw1, vr0, vr1, .slice (some ⟨b, o, none⟩) n vc, .slice (some ⟨ib, 0, none⟩) n ic⟩) :: LinkAt g0 (p.l false) :: LinkAt g1 (p.l true) :: BRow vw0 (p.wr false) :: BRow vw1 (p.wr true) :: BRow vr0 (p.rd false) :: BRow vr1 (p.rd true) :: IRow (.slice (some ⟨ib, 0, none⟩) n ic) p.ws :: M))) → X.cell? ⟨gp, 7, none⟩ = some (.slice (some ⟨ib, 0, none⟩) n ic) ∧ X.cell? ⟨ib, k, none⟩ = some (.int .i64 1) ∧ X.cell? ⟨gp, 1, none⟩ = some (.pointer (some ⟨g1, 0, none⟩)) ∧ X.cell? ⟨gp, 6, none⟩ = some (.slice (some ⟨b, o, none⟩) n vc) ∧ X.cell? ⟨b, o + k * 4, none⟩ = some (.int .u32 (q.e : Int)) ∧ X.cell? ⟨b, o + k * 4 + 1, none⟩ = some (.int .u64 (q.o : Int)) ∧ X.cell? ⟨b, o + k * 4 + 2, none⟩ = some (.int .u64 (q.a : Int)) ∧ X.cell? ⟨b, o + k * 4 + 3, none⟩ = some (.slice QB ql qc) := fun X h => by
    have h1 := hclose X h
    obtain ⟨r0, r1, r2, r3⟩ := hcells X h
    exact ⟨(h1.blk 1 rfl).at_ 7 rfl, irow_cells h1 8 rfl hn _ _ hIk, (h1.blk 1 rfl).at_ 1 rfl, (h1.blk 1 rfl).at_ 6 rfl, r0, r1, r2, r3⟩
  have hSS : w3.cell? ⟨gp, 7, none⟩ = some (.slice (some ⟨ib, 0, none⟩) n ic) ∧ w3.cell? ⟨ib, k, none⟩ = some (.int .i64 1) ∧ w3.cell? ⟨gp, 1, none⟩ = some (.pointer (some ⟨g1, 0, none⟩)) ∧ w3.cell? ⟨gp, 6, none⟩ = some (.slice (some ⟨b, o, none⟩) n vc) ∧ w3.cell? ⟨b, o + k * 4, none⟩ = some (.int .u32 (q.e : Int)) ∧ w3.cell? ⟨b, o + k * 4 + 1, none⟩ = some (.int .u64 (q.o : Int)) ∧ w3.cell? ⟨b, o + k * 4 + 2, none⟩ = some (.int .u64 (q.a : Int)) ∧ w3.cell? ⟨b, o + k * 4 + 3, none⟩ = some (.slice QB ql qc) := facts w3 S4
  go_upto_region 17 with (fail)
  refine plain_under (fun w => w.cell? ⟨gp, 7, none⟩ = some (.slice (some ⟨ib, 0, none⟩) n ic) ∧ w.cell? ⟨ib, k, none⟩ = some (.int .i64 1) ∧ w.cell? ⟨gp, 1, none⟩ = some (.pointer (some ⟨g1, 0, none⟩)) ∧ w.cell? ⟨gp, 6, none⟩ = some (.slice (some ⟨b, o, none⟩) n vc) ∧ w.cell? ⟨b, o + k * 4, none⟩ = some (.int .u32 (q.e : Int)) ∧ w.cell? ⟨b, o + k * 4 + 1, none⟩ = some (.int .u64 (q.o : Int)) ∧ w.cell? ⟨b, o + k * 4 + 2, none⟩ = some (.int .u64 (q.a : Int)) ∧ w.cell? ⟨b, o + k * 4 + 3, none⟩ = some (.slice QB ql qc)) (fun j => decide (j < 19)) (by kernel_rfl) ?_
  replace hSS : w3.drew.cell? ⟨gp, 7, none⟩ = some (.slice (some ⟨ib, 0, none⟩) n ic) ∧ w3.drew.cell? ⟨ib, k, none⟩ = some (.int .i64 1) ∧ w3.drew.cell? ⟨gp, 1, none⟩ = some (.pointer (some ⟨g1, 0, none⟩)) ∧ w3.drew.cell? ⟨gp, 6, none⟩ = some (.slice (some ⟨b, o, none⟩) n vc) ∧ w3.drew.cell? ⟨b, o + k * 4, none⟩ = some (.int .u32 (q.e : Int)) ∧ w3.drew.cell? ⟨b, o + k * 4 + 1, none⟩ = some (.int .u64 (q.o : Int)) ∧ w3.drew.cell? ⟨b, o + k * 4 + 2, none⟩ = some (.int .u64 (q.a : Int)) ∧ w3.drew.cell? ⟨b, o + k * 4 + 3, none⟩ = some (.slice QB ql qc) := facts _ S4.drew
  replace S4 := S4.drew
  generalize w3.drew = w4 at hSS S4 ⊢
  simp only [List.size_toArray, List.length_cons, List.length_nil, Nat.reduceAdd, Array.replicate_succ, Array.replicate_zero, List.push_toArray, List.nil_append, List.cons_append]
  refine under_free (i := 0) (v := ?_) rfl (by kernel_rfl) (fun _ _ _ h => h) _ _ _ _ (by kernel_rfl) (by kernel_rfl) (Or.inl ⟨by rfl, ?_⟩) ?_
  rotate_left
  · intro w _
    go_simp
    try with_reducible rfl
  simp only [Act.put, List.setIfInBounds_toArray, List.set_cons_zero, List.set_cons_succ, List.getElem_toArray, List.getElem_cons_zero]
  refine under_free (i := 1) (v := ?_) rfl (by kernel_rfl) (fun _ _ _ h => h) _ _ _ _ (by kernel_rfl) (by kernel_rfl) (Or.inl ⟨by rfl, ?_⟩) ?_
  rotate_left
  · intro w _
    go_simp
    try with_reducible rfl
  simp only [Act.put, List.setIfInBounds_toArray, List.set_cons_zero, List.set_cons_succ, List.getElem_toArray, List.getElem_cons_zero, List.getElem_cons_succ]
  refine under_free (i := 2) (v := ?_) rfl (by kernel_rfl) (fun _ _ _ h => h) _ _ _ _ (by kernel_rfl) (by kernel_rfl) (Or.inl ⟨by rfl, ?_⟩) ?_
  rotate_left
  · intro w _
    go_simp
    try with_reducible rfl
  simp only [Act.put, List.setIfInBounds_toArray, List.set_cons_zero, List.set_cons_succ, List.getElem_toArray, List.getElem_cons_zero, List.getElem_cons_succ]
  refine under_free (i := 3) (v := ?_) rfl (by kernel_rfl) (fun _ _ _ h => h) _ _ _ _ (by kernel_rfl) (by kernel_rfl) (Or.inl ⟨by rfl, ?_⟩) ?_
  rotate_left
  · intro w _
    go_simp
    try with_reducible rfl
  simp only [Act.put, List.setIfInBounds_toArray, List.set_cons_zero, List.set_cons_succ, List.getElem_toArray, List.getElem_cons_zero, List.getElem_cons_succ]
  refine under_take (i := 4) (v := ?_) rfl (by kernel_rfl) (by kernel_rfl) (fun _ _ _ h => h) _ _ _ _ (by kernel_rfl) (by kernel_rfl) (by kernel_rfl) (Or.inl ⟨by rfl, ?_⟩) hSS ?_
  rotate_left
  · intro w hSw
    obtain ⟨q0, q1, q2, q3, q4, q5, q6, q7⟩ := hSw
    go_simp
    try with_reducible rfl
  simp only [Act.put, List.setIfInBounds_toArray, List.set_cons_zero, List.set_cons_succ, List.getElem_toArray, List.getElem_cons_zero, List.getElem_cons_succ]
  refine under_free (i := 5) (v := ?_) rfl (by kernel_rfl) (fun _ _ _ h => h) _ _ _ _ (by kernel_rfl) (by kernel_rfl) (Or.inl ⟨by rfl, ?_⟩) ?_
  rotate_left
  · intro w _
    go_simp
    try with_reducible rfl
  simp only [Act.put, List.setIfInBounds_toArray, List.set_cons_zero, List.set_cons_succ, List.getElem_toArray, List.getElem_cons_zero, List.getElem_cons_succ]
  refine under_free (i := 6) (v := ?_) rfl (by kernel_rfl) (fun _ _ _ h => h) _ _ _ _ (by kernel_rfl) (by kernel_rfl) (Or.inl ⟨by rfl, ?_⟩) ?_
  rotate_left
  · intro w _
    go_simp
    try with_reducible rfl
  simp only [Act.put, List.setIfInBounds_toArray, List.set_cons_zero, List.set_cons_succ, List.getElem_toArray, List.getElem_cons_zero, List.getElem_cons_succ]
  refine under_take (i := 7) (v := ?_) rfl (by kernel_rfl) (by kernel_rfl) (fun _ _ _ h => h) _ _ _ _ (by kernel_rfl) (by kernel_rfl) (by kernel_rfl) (Or.inl ⟨by rfl, ?_⟩) hSS ?_
  rotate_left
  · intro w hSw
    obtain ⟨q0, q1, q2, q3, q4, q5, q6, q7⟩ := hSw
    go_simp
    try with_reducible rfl
  simp only [Act.put, List.setIfInBounds_toArray, List.set_cons_zero, List.set_cons_succ, List.getElem_toArray, List.getElem_cons_zero, List.getElem_cons_succ]
  refine under_free (i := 8) (v := ?_) rfl (by kernel_rfl) (fun _ _ _ h => h) _ _ _ _ (by kernel_rfl) (by kernel_rfl) (Or.inl ⟨by rfl, ?_⟩) ?_
  rotate_left
  · intro w _
    go_simp
    try with_reducible rfl
  simp only [Act.put, List.setIfInBounds_toArray, List.set_cons_zero, List.set_cons_succ, List.getElem_toArray, List.getElem_cons_zero, List.getElem_cons_succ]
  refine under_free (i := 9) (v := ?_) rfl (by kernel_rfl) (fun _ _ _ h => h) _ _ _ _ (by kernel_rfl) (by kernel_rfl) (Or.inl ⟨by rfl, ?_⟩) ?_
  rotate_left
  · intro w _
    go_simp
    try with_reducible rfl
  simp only [Act.put, List.setIfInBounds_toArray, List.set_cons_zero, List.set_cons_succ, List.getElem_toArray, List.getElem_cons_zero, List.getElem_cons_succ]
  refine under_free (i := 10) (v := ?_) rfl (by kernel_rfl) (fun _ _ _ h => h) _ _ _ _ (by kernel_rfl) (by kernel_rfl) (Or.inl ⟨by rfl, ?_⟩) ?_
  rotate_left
  · intro w _
    go_simp
    try with_reducible rfl
  simp only [Act.put, List.setIfInBounds_toArray, List.set_cons_zero, List.set_cons_succ, List.getElem_toArray, List.getElem_cons_zero, List.getElem_cons_succ]
  refine under_take (i := 11) (v := ?_) rfl (by kernel_rfl) (by kernel_rfl) (fun _ _ _ h => h) _ _ _ _ (by kernel_rfl) (by kernel_rfl) (by kernel_rfl) (Or.inl ⟨by rfl, ?_⟩) hSS ?_
  rotate_left
  · intro w hSw
    obtain ⟨q0, q1, q2, q3, q4, q5, q6, q7⟩ := hSw
    go_simp
    try with_reducible rfl
  simp only [Act.put, List.setIfInBounds_toArray, List.set_cons_zero, List.set_cons_succ, List.getElem_toArray, List.getElem_cons_zero, List.getElem_cons_succ]
  refine under_free (i := 12) (v := ?_) rfl (by kernel_rfl) (fun _ _ _ h => h) _ _ _ _ (by kernel_rfl) (by kernel_rfl) (Or.inl ⟨by rfl, ?_⟩) ?_
  rotate_left
  · intro w _
    go_simp
    try with_reducible rfl
  simp only [Act.put, List.setIfInBounds_toArray, List.set_cons_zero, List.set_cons_succ, List.getElem_toArray, List.getElem_cons_zero, List.getElem_cons_succ]
  refine under_free (i := 13) (v := ?_) rfl (by kernel_rfl) (fun _ _ _ h => h) _ _ _ _ (by kernel_rfl) (by kernel_rfl) (Or.inl ⟨by rfl, ?_⟩) ?_
  rotate_left
  · intro w _
    go_simp
    try with_reducible rfl
  simp only [Act.put, List.setIfInBounds_toArray, List.set_cons_zero, List.set_cons_succ, List.getElem_toArray, List.getElem_cons_zero, List.getElem_cons_succ]
  refine under_free (i := 14) (v := ?_) rfl (by kernel_rfl) (fun _ _ _ h => h) _ _ _ _ (by kernel_rfl) (by kernel_rfl) (Or.inl ⟨by rfl, ?_⟩) ?_
  rotate_left
  · intro w _
    go_simp
    try with_reducible rfl
  simp only [Act.put, List.setIfInBounds_toArray, List.set_cons_zero, List.set_cons_succ, List.getElem_toArray, List.getElem_cons_zero, List.getElem_cons_succ]
  refine under_take (i := 15) (v := ?_) rfl (by kernel_rfl) (by kernel_rfl) (fun _ _ _ h => h) _ _ _ _ (by kernel_rfl) (by kernel_rfl) (by kernel_rfl) (Or.inl ⟨by rfl, ?_⟩) hSS ?_
  rotate_left
  · intro w hSw
    obtain ⟨q0, q1, q2, q3, q4, q5, q6, q7⟩ := hSw
    go_simp
    try with_reducible rfl
  simp only [Act.put, List.setIfInBounds_toArray, List.set_cons_zero, List.set_cons_succ, List.getElem_toArray, List.getElem_cons_zero, List.getElem_cons_succ]
  refine under_free (i := 16) (v := ?_) rfl (by kernel_rfl) (fun _ _ _ h => h) _ _ _ _ (by kernel_rfl) (by kernel_rfl) (Or.inl ⟨by rfl, ?_⟩) ?_
  rotate_left
  · intro w _
    go_simp
    try with_reducible rfl
  simp only [Act.put, List.setIfInBounds_toArray, List.set_cons_zero, List.set_cons_succ, List.getElem_toArray, List.getElem_cons_zero, List.getElem_cons_succ]
  refine under_free (i := 17) (v := ?_) rfl (by kernel_rfl) (fun _ _ _ h => h) _ _ _ _ (by kernel_rfl) (by kernel_rfl) (Or.inl ⟨by rfl, ?_⟩) ?_
  rotate_left
  · intro w _
    go_simp
    try with_reducible rfl
  simp only [Act.put, List.setIfInBounds_toArray, List.set_cons_zero, List.set_cons_succ, List.getElem_toArray, List.getElem_cons_zero, List.getElem_cons_succ]
  refine under_take (i := 18) (v := ?_) rfl (by kernel_rfl) (by kernel_rfl) (fun _ _ _ h => h) _ _ _ _ (by kernel_rfl) (by kernel_rfl) (by kernel_rfl) (Or.inl ⟨by rfl, ?_⟩) hSS ?_
  rotate_left
  · intro w hSw
    obtain ⟨q0, q1, q2, q3, q4, q5, q6, q7⟩ := hSw
    go_simp
    try with_reducible rfl
  simp only [Act.put, List.setIfInBounds_toArray, List.set_cons_zero, List.set_cons_succ, List.getElem_toArray, List.getElem_cons_zero, List.getElem_cons_succ]
  refine under_one (i := 19) (by kernel_rfl) rfl ?_
  intro K hK
  go_simp
  refine (hT w4 S4).mono ?_
  rintro en w5 ⟨rfl, S5⟩
  refine hK _ _ (fun h => by cases h) ?_
  clear hK K hSS
  simp only [List.setIfInBounds_toArray, List.set_cons_zero, List.set_cons_succ]
  refine under_free (i := 20) (v := ?_) rfl (by kernel_rfl) (fun _ _ _ h => h) _ _ _ _ (by kernel_rfl) (by kernel_rfl) (Or.inl ⟨by rfl, ?_⟩) ?_
  rotate_left
  · intro w _
    go_simp
    try with_reducible rfl
  simp only [Act.put, List.setIfInBounds_toArray, List.set_cons_zero, List.set_cons_succ, List.getElem_toArray, List.getElem_cons_zero, List.getElem_cons_succ]
  refine under_done (by kernel_rfl) ?_ _
  have S6 : Sep w0 w5 (PkX (.slice (some ⟨b, o, none⟩) n vc) (p.ws.map (·.2)) :: cell gp 49 (PV.cs ⟨g0, g1, vw0, vw1, vr0, vr1, .slice (some ⟨b, o, none⟩) n vc, .slice (some ⟨ib, 0, none⟩) n ic⟩) :: LinkAt g0 (p.l false) :: LinkAt g1 (takeS (p.l true) q) :: BRow vw0 (p.wr false) :: BRow vw1 (p.wr true) :: BRow vr0 (p.rd false) :: BRow vr1 (p.rd true) :: IRow (.slice (some ⟨ib, 0, none⟩) n ic) p.ws :: M) := S5
  have S7 := Sep.closeP2 (p := { p with l := upd p.l true (takeS (p.l true) q) }) ⟨g0, g1, vw0, vw1, vr0, vr1, .slice (some ⟨b, o, none⟩) n vc, .slice (some ⟨ib, 0, none⟩) n ic⟩ (S6.ix 9 [1, 2, 3, 4, 5, 6, 7, 0, 8] [] (by decide))
  have HO := Lib.hid (out_any (p := { p with l := upd p.l true (takeS (p.l true) q) }) k (by show k < p.ws.length; omega) hlen S7)
  clear S4 S5 S6 S7 facts hT hcells hclose
  go_wp2_with fail
  refine HO.out.mono ?_
  rintro en w6 ⟨rfl, S8⟩
  go_wp2_with fail
  go_ret
  exact ⟨rfl, S8⟩
set_option maxRecDepth 100000 in
set_option maxHeartbeats 1000000 in
theorem step4_some {gp : Nat} {p : PS} (d : Nat) (hd : d % 6 = 4) (s : Bool) (a : Int) (A : Option Addr) (m c : Nat) (hlen : p.ws.length ≤ 1000000000) (k : Nat) (tt : Bool) (q : Pk) (hk : pickI a p.ws.length = (k : Int)) (hq : p.ws[k]? = some (tt, q)) (hS : Sep w0 w (PairAt gp p :: M)) :
    Calls Try.prog 22 #[.pointer (some ⟨gp, 0, none⟩), .agg #[.int .u8 (d : Int), .bool s, .int .i64 a, .slice A m c]] w fun en w' => en = .returned (.bool true) ∧ Sep w0 w' (PairAt gp { p with ws := p.ws ++ [(tt, q)] } :: M) := by
  have hdi : (d : Int) % 6 = 4 := by omega
  obtain ⟨xv, S⟩ := hS.openP2
  obtain ⟨g0, g1, vw0, vw1, vr0, vr1, y, t⟩ := xv
  obtain ⟨VA, vc, hv, hvc, -, -⟩ := S.pr 7 rfl
  obtain ⟨n, hn⟩ : ∃ n, p.ws.length = n := ⟨_, rfl⟩
  rw [List.length_map, hn] at hv hvc
  subst hv
  obtain ⟨W1, hW1, S1⟩ := S.boxedF 43 #[.int .u8 (d : Int), .bool s, .int .i64 a, .slice A m c]
  obtain ⟨xb, hxb⟩ : ∃ xb, w.heap.size = xb := ⟨_, rfl⟩
  rw [hxb] at S1
  have x0 : W1.cell? ⟨xb, 0, none⟩ = some (.int .u8 (d : Int)) := (S1.blk 0 rfl).at_ 0 rfl
  have x1 : W1.cell? ⟨xb, 1, none⟩ = some (.bool s) := (S1.blk 0 rfl).at_ 1 rfl
  have x2 : W1.cell? ⟨xb, 2, none⟩ = some (.int .i64 a) := (S1.blk 0 rfl).at_ 2 rfl
  have y6 : W1.cell? ⟨gp, 6, none⟩ = some (.slice VA n vc) := (S1.blk 1 rfl).at_ 6 rfl
  have hn63 : n ≤ 9223372036854775807 := by omega
  clear S hS
  go_enter Try.func22, Try.ntmps22
  go_wp2_with fail
  obtain ⟨si, hsi⟩ := side_ex s
  refine (hsi _).mono ?_
  rintro en W2 ⟨rfl, rfl⟩
  go_upto_region 2 with (fail)
  refine plain_under (fun w => w.cell? ⟨xb, 2, none⟩ = some (.int .i64 a) ∧ w.cell? ⟨gp, 6, none⟩ = some (.slice VA n vc)) (fun _ => true) (by kernel_rfl) ?_
  have hSS : W2.drew.cell? ⟨xb, 2, none⟩ = some (.int .i64 a) ∧ W2.drew.cell? ⟨gp, 6, none⟩ = some (.slice VA n vc) := ⟨x2, y6⟩
  have S2 := S1.drew
  have x0' : W2.drew.cell? ⟨xb, 0, none⟩ = some (.int .u8 (d : Int)) := x0
  clear x0 x1 x2 y6 S1 hW1
  generalize W2.drew = W3 at hSS S2 x0' ⊢
  simp only [List.size_toArray, List.length_cons, List.length_nil, Nat.reduceAdd, Array.replicate_succ, Array.replicate_zero, List.push_toArray, List.nil_append, List.cons_append]
  refine under_free (i := 0) (v := ?_) rfl (by kernel_rfl) (fun _ _ _ h => h) _ _ _ _ (by kernel_rfl) (by kernel_rfl) (Or.inl ⟨by rfl, ?_⟩) ?_
  rotate_left
  · intro w _
    go_simp
    try with_reducible rfl
  simp only [Act.put, List.setIfInBounds_toArray, List.set_cons_zero, List.set_cons_succ, List.getElem_toArray, List.getElem_cons_zero]
  refine under_take (i := 1) (v := ?_) rfl (by kernel_rfl) (by kernel_rfl) (fun _ _ _ h => h) _ _ _ _ (by kernel_rfl) (by kernel_rfl) (by kernel_rfl) (Or.inl ⟨by rfl, ?_⟩) hSS ?_
  rotate_left
  · intro w hSw
    obtain ⟨q0, q1⟩ := hSw
    go_simp
    try with_reducible rfl
  simp only [Act.put, List.setIfInBounds_toArray, List.set_cons_zero, List.set_cons_succ, List.getElem_toArray, List.getElem_cons_zero, List.getElem_cons_succ]
  refine under_free (i := 2) (v := ?_) rfl (by kernel_rfl) (fun _ _ _ h => h) _ _ _ _ (by kernel_rfl) (by kernel_rfl) (Or.inl ⟨by rfl, ?_⟩) ?_
  rotate_left
  · intro w _
    go_simp
    try with_reducible rfl
  simp only [Act.put, List.setIfInBounds_toArray, List.set_cons_zero, List.set_cons_succ, List.getElem_toArray, List.getElem_cons_zero, List.getElem_cons_succ]
  refine under_free (i := 3) (v := ?_) rfl (by kernel_rfl) (fun _ _ _ h => h) _ _ _ _ (by kernel_rfl) (by kernel_rfl) (Or.inl ⟨by rfl, ?_⟩) ?_
  rotate_left
  · intro w _
    go_simp
    try with_reducible rfl
  simp only [Act.put, List.setIfInBounds_toArray, List.set_cons_zero, List.set_cons_succ, List.getElem_toArray, List.getElem_cons_zero, List.getElem_cons_succ]
  refine under_free (i := 4) (v := ?_) rfl (by kernel_rfl) (fun _ _ _ h => h) _ _ _ _ (by kernel_rfl) (by kernel_rfl) (Or.inl ⟨by rfl, ?_⟩) ?_
  rotate_left
  · intro w _
    go_simp
    try with_reducible rfl
  simp only [Act.put, List.setIfInBounds_toArray, List.set_cons_zero, List.set_cons_succ, List.getElem_toArray, List.getElem_cons_zero, List.getElem_cons_succ]
  refine under_take (i := 5) (v := ?_) rfl (by kernel_rfl) (by kernel_rfl) (fun _ _ _ h => h) _ _ _ _ (by kernel_rfl) (by kernel_rfl) (by kernel_rfl) (Or.inl ⟨by rfl, ?_⟩) hSS ?_
  rotate_left
  · intro w hSw
    obtain ⟨q0, q1⟩ := hSw
    go_simp
    try with_reducible rfl
  simp only [Act.put, List.setIfInBounds_toArray, List.set_cons_zero, List.set_cons_succ, List.getElem_toArray, List.getElem_cons_zero, List.getElem_cons_succ]
  refine under_free (i := 6) (v := ?_) rfl (by kernel_rfl) (fun _ _ _ h => h) _ _ _ _ (by kernel_rfl) (by kernel_rfl) (Or.inl ⟨by rfl, ?_⟩) ?_
  rotate_left
  · intro w _
    go_simp
    try with_reducible rfl
  simp only [Act.put, List.setIfInBounds_toArray, List.set_cons_zero, List.set_cons_succ, List.getElem_toArray, List.getElem_cons_zero, List.getElem_cons_succ]
  refine under_one (i := 7) (by kernel_rfl) rfl ?_
  intro K hK
  go_simp
  refine (pick_any a n hn63 _).mono ?_
  rintro en w3 ⟨rfl, rfl⟩
  refine hK _ _ (fun _ => hSS) ?_
  clear hK K
  simp only [List.setIfInBounds_toArray, List.set_cons_zero, List.set_cons_succ]
  refine under_free (i := 8) (v := ?_) rfl (by kernel_rfl) (fun _ _ _ h => h) _ _ _ _ (by kernel_rfl) (by kernel_rfl) (Or.inl ⟨by rfl, ?_⟩) ?_
  rotate_left
  · intro w _
    go_simp
    try with_reducible rfl
  simp only [Act.put, List.setIfInBounds_toArray, List.set_cons_zero, List.set_cons_succ, List.getElem_toArray, List.getElem_cons_zero, List.getElem_cons_succ]
  refine under_done (by kernel_rfl) ?_ _
  clear hSS
  go_upto_region 5 with (fail)
  have hpk : pickI a n = (k : Int) := by rw [← hn]; exact hk
  have hkn : k < n := by have h := (List.getElem?_eq_some_iff.1 hq).1; omega
  simp only [hdi, hpk]
  clear x0' hdi hpk
  have k0 : (0 : Int) ≤ (k : Int) := by omega
  obtain ⟨IA, ic, htt, -, -⟩ := own_slice (S2.own 9 rfl)
  rw [hn] at htt
  subst htt
  obtain ⟨ib, ic2, hib, -⟩ := (S2.own 9 rfl).form (by omega)
  injection hib with hib h2 h3
  subst hib
  clear h2 h3
  have hIk : (p.ws.map enI)[k]? = some (enI (tt, q)) := by rw [List.getElem?_map, hq]; rfl
  have S3 : Sep w0 w3 (PkX (.slice VA n vc) (p.ws.map (·.2)) :: cell gp 49 (PV.cs ⟨g0, g1, vw0, vw1, vr0, vr1, .slice VA n vc, .slice (some ⟨ib, 0, none⟩) n ic⟩) :: IRow (.slice (some ⟨ib, 0, none⟩) n ic) p.ws :: LinkAt g0 (p.l false) :: LinkAt g1 (p.l true) :: BRow vw0 (p.wr false) :: BRow vw1 (p.wr true) :: BRow vr0 (p.rd false) :: BRow vr1 (p.rd true) :: M) := S2.ix 10 [8, 1, 9, 2, 3, 4, 5, 6, 7] [0] (by decide)
  clear S2
  obtain ⟨es, ds, hes, hds, S4⟩ := S3.openK
  have hesl : es.length = n := by have h := congrArg List.length hes; simpa [hn] using h
  have hek : ∃ e, es[k]? = some e ∧ e.2 = q := by
    have h : (es.map (·.2))[k]? = some q := by rw [hes, List.getElem?_map, hq]; rfl
    rw [List.getElem?_map] at h
    cases hx : es[k]? with
    | none => rw [hx] at h; cases h
    | some e => rw [hx] at h; exact ⟨e, rfl, by injection h⟩
  obtain ⟨e, he, heq⟩ := hek
  obtain ⟨hel, heg⟩ := List.getElem?_eq_some_iff.1 he
  have hmem : (e.1, q.d) ∈ ds := by rw [← heq]; exact hds e (by rw [← heg]; exact List.getElem_mem hel)
  obtain ⟨QB, qc, hu, -⟩ := rb_of S4.tail hmem
  obtain ⟨ql, hql⟩ : ∃ ql, q.d.length = ql := ⟨_, rfl⟩
  rw [hql] at hu
  obtain ⟨yb, yc2, hyb, -⟩ := (S4.own 0 rfl).form (by omega)
  injection hyb with hyb h2 h3
  subst hyb
  clear h2 h3
  obtain ⟨U, hU⟩ : ∃ U, ds.map rowD = U := ⟨_, rfl⟩
  rw [hU] at S4
  have S5 := S4.perm (List.Perm.cons _ (perm_float2 (cell gp 49 _) (IRow _ p.ws) U _))
  obtain ⟨T, hT⟩ : ∃ T, (U ++ (LinkAt g0 (p.l false) :: LinkAt g1 (p.l true) :: BRow vw0 (p.wr false) :: BRow vw1 (p.wr true) :: BRow vr0 (p.rd false) :: BRow vr1 (p.rd true) :: M)) = T := ⟨_, rfl⟩
  have S6 : Sep w0 w3 (row 32 4 (.slice (some ⟨yb, 0, none⟩) n vc) n (entP es) :: cell gp 49 #[.pointer (some ⟨g0, 0, none⟩), .pointer (some ⟨g1, 0, none⟩), vw0, vw1, vr0, vr1, .slice (some ⟨yb, 0, none⟩) n vc, .slice (some ⟨ib, 0, none⟩) n ic] :: row 3 1 (.slice (some ⟨ib, 0, none⟩) n ic) n (p.ws.map enI) :: T) := by
    have h := S5
    unfold IRow at h
    rw [hT, hesl, hn] at h
    exact h
  clear S3 S4 S5
  have hcell : q.cells e.1 = [.int .u32 (q.e : Int), .int .u64 (q.o : Int), .int .u64 (q.a : Int), .slice QB ql qc] := by rw [hu]; rfl
  have hgc : (es[k]'hel).2.cells (es[k]'hel).1 = [.int .u32 (q.e : Int), .int .u64 (q.o : Int), .int .u64 (q.a : Int), .slice QB ql qc] := by rw [heg, heq, hcell]
  have facts : ∀ {X : World} {R : List Asn}, Sep w0 X (row 32 4 (.slice (some ⟨yb, 0, none⟩) n vc) n (entP es) :: cell gp 49 #[.pointer (some ⟨g0, 0, none⟩), .pointer (some ⟨g1, 0, none⟩), vw0, vw1, vr0, vr1, .slice (some ⟨yb, 0, none⟩) n vc, .slice (some ⟨ib, 0, none⟩) n ic] :: R) → X.cell? ⟨gp, 6, none⟩ = some (.slice (some ⟨yb, 0, none⟩) n vc) ∧ X.cell? ⟨yb, k * 4, none⟩ = some (.int .u32 (q.e : Int)) ∧ X.cell? ⟨yb, k * 4 + 1, none⟩ = some (.int .u64 (q.o : Int)) ∧ X.cell? ⟨yb, k * 4 + 2, none⟩ = some (.int .u64 (q.a : Int)) ∧ X.cell? ⟨yb, k * 4 + 3, none⟩ = some (.slice QB ql qc) :=
    fun h => ⟨(h.blk 1 rfl).at_ 6 rfl, own_cells (h.own 0 rfl) _ _ (entP_get es k hel 0 _ (by rw [hgc]; rfl)), own_cells (h.own 0 rfl) _ _ (entP_get es k hel 1 _ (by rw [hgc]; rfl)), own_cells (h.own 0 rfl) _ _ (entP_get es k hel 2 _ (by rw [hgc]; rfl)), own_cells (h.own 0 rfl) _ _ (entP_get es k hel 3 _ (by rw [hgc]; rfl))⟩
  go_upto_region 25 with (fail)
  refine plain_under (fun w => w.cell? ⟨gp, 6, none⟩ = some (.slice (some ⟨yb, 0, none⟩) n vc) ∧ w.cell? ⟨yb, k * 4, none⟩ = some (.int .u32 (q.e : Int)) ∧ w.cell? ⟨yb, k * 4 + 1, none⟩ = some (.int .u64 (q.o : Int)) ∧ w.cell? ⟨yb, k * 4 + 2, none⟩ = some (.int .u64 (q.a : Int)) ∧ w.cell? ⟨yb, k * 4 + 3, none⟩ = some (.slice QB ql qc)) (fun j => decide (j < 13)) (by kernel_rfl) ?_
  have hSS : w3.drew.cell? ⟨gp, 6, none⟩ = some (.slice (some ⟨yb, 0, none⟩) n vc) ∧ w3.drew.cell? ⟨yb, k * 4, none⟩ = some (.int .u32 (q.e : Int)) ∧ w3.drew.cell? ⟨yb, k * 4 + 1, none⟩ = some (.int .u64 (q.o : Int)) ∧ w3.drew.cell? ⟨yb, k * 4 + 2, none⟩ = some (.int .u64 (q.a : Int)) ∧ w3.drew.cell? ⟨yb, k * 4 + 3, none⟩ = some (.slice QB ql qc) := facts S6.drew
  have S7 := S6.drew
  clear S6
  generalize w3.drew = w4 at hSS S7 ⊢
  simp only [List.size_toArray, List.length_cons, List.length_nil, Nat.reduceAdd, Array.replicate_succ, Array.replicate_zero, List.push_toArray, List.nil_append, List.cons_append]
  refine under_free (i := 0) (v := ?_) rfl (by kernel_rfl) (fun _ _ _ h => h) _ _ _ _ (by kernel_rfl) (by kernel_rfl) (Or.inl ⟨by rfl, ?_⟩) ?_
  rotate_left
  · intro w _
    go_simp
    try with_reducible rfl
  simp only [Act.put, List.setIfInBounds_toArray, List.set_cons_zero, List.set_cons_succ, List.getElem_toArray, List.getElem_cons_zero]
  refine under_free (i := 1) (v := ?_) rfl (by kernel_rfl) (fun _ _ _ h => h) _ _ _ _ (by kernel_rfl) (by kernel_rfl) (Or.inl ⟨by rfl, ?_⟩) ?_
  rotate_left
  · intro w _
    go_simp
    try with_reducible rfl
  simp only [Act.put, List.setIfInBounds_toArray, List.set_cons_zero, List.set_cons_succ, List.getElem_toArray, List.getElem_cons_zero, List.getElem_cons_succ]
  refine under_free (i := 2) (v := ?_) rfl (by kernel_rfl) (fun _ _ _ h => h) _ _ _ _ (by kernel_rfl) (by kernel_rfl) (Or.inl ⟨by rfl, ?_⟩) ?_
  rotate_left
  · intro w _
    go_simp
    try with_reducible rfl
  simp only [Act.put, List.setIfInBounds_toArray, List.set_cons_zero, List.set_cons_succ, List.getElem_toArray, List.getElem_cons_zero, List.getElem_cons_succ]
  refine under_free (i := 3) (v := ?_) rfl (by kernel_rfl) (fun _ _ _ h => h) _ _ _ _ (by kernel_rfl) (by kernel_rfl) (Or.inl ⟨by rfl, ?_⟩) ?_
  rotate_left
  · intro w _
    go_simp
    try with_reducible rfl
  simp only [Act.put, List.setIfInBounds_toArray, List.set_cons_zero, List.set_cons_succ, List.getElem_toArray, List.getElem_cons_zero, List.getElem_cons_succ]
  refine under_take (i := 4) (v := ?_) rfl (by kernel_rfl) (by kernel_rfl) (fun _ _ _ h => h) _ _ _ _ (by kernel_rfl) (by kernel_rfl) (by kernel_rfl) (Or.inl ⟨by rfl, ?_⟩) hSS ?_
  rotate_left
  · intro w hSw
    obtain ⟨q0, q1, q2, q3, q4⟩ := hSw
    go_simp
    try with_reducible rfl
  simp only [Act.put, List.setIfInBounds_toArray, List.set_cons_zero, List.set_cons_succ, List.getElem_toArray, List.getElem_cons_zero, List.getElem_cons_succ]
  refine under_free (i := 5) (v := ?_) rfl (by kernel_rfl) (fun _ _ _ h => h) _ _ _ _ (by kernel_rfl) (by kernel_rfl) (Or.inl ⟨by rfl, ?_⟩) ?_
  rotate_left
  · intro w _
    go_simp
    try with_reducible rfl
  simp only [Act.put, List.setIfInBounds_toArray, List.set_cons_zero, List.set_cons_succ, List.getElem_toArray, List.getElem_cons_zero, List.getElem_cons_succ]
  refine under_free (i := 6) (v := ?_) rfl (by kernel_rfl) (fun _ _ _ h => h) _ _ _ _ (by kernel_rfl) (by kernel_rfl) (Or.inl ⟨by rfl, ?_⟩) ?_
  rotate_left
  · intro w _
    go_simp
    try with_reducible rfl
  simp only [Act.put, List.setIfInBounds_toArray, List.set_cons_zero, List.set_cons_succ, List.getElem_toArray, List.getElem_cons_zero, List.getElem_cons_succ]
  refine under_free (i := 7) (v := ?_) rfl (by kernel_rfl) (fun _ _ _ h => h) _ _ _ _ (by kernel_rfl) (by kernel_rfl) (Or.inl ⟨by rfl, ?_⟩) ?_
  rotate_left
  · intro w _
    go_simp
    try with_reducible rfl
  simp only [Act.put, List.setIfInBounds_toArray, List.set_cons_zero, List.set_cons_succ, List.getElem_toArray, List.getElem_cons_zero, List.getElem_cons_succ]
  refine under_take (i := 8) (v := ?_) rfl (by kernel_rfl) (by kernel_rfl) (fun _ _ _ h => h) _ _ _ _ (by kernel_rfl) (by kernel_rfl) (by kernel_rfl) (Or.inl ⟨by rfl, ?_⟩) hSS ?_
  rotate_left
  · intro w hSw
    obtain ⟨q0, q1, q2, q3, q4⟩ := hSw
    go_simp
    try with_reducible rfl
  simp only [Act.put, List.setIfInBounds_toArray, List.set_cons_zero, List.set_cons_succ, List.getElem_toArray, List.getElem_cons_zero, List.getElem_cons_succ]
  refine under_free (i := 9) (v := ?_) rfl (by kernel_rfl) (fun _ _ _ h => h) _ _ _ _ (by kernel_rfl) (by kernel_rfl) (Or.inl ⟨by rfl, ?_⟩) ?_
  rotate_left
  · intro w _
    go_simp
    try with_reducible rfl
  simp only [Act.put, List.setIfInBounds_toArray, List.set_cons_zero, List.set_cons_succ, List.getElem_toArray, List.getElem_cons_zero, List.getElem_cons_succ]
  refine under_free (i := 10) (v := ?_) rfl (by kernel_rfl) (fun _ _ _ h => h) _ _ _ _ (by kernel_rfl) (by kernel_rfl) (Or.inl ⟨by rfl, ?_⟩) ?_
  rotate_left
  · intro w _
    go_simp
    try with_reducible rfl
  simp only [Act.put, List.setIfInBounds_toArray, List.set_cons_zero, List.set_cons_succ, List.getElem_toArray, List.getElem_cons_zero, List.getElem_cons_succ]
  refine under_take (i := 11) (v := ?_) rfl (by kernel_rfl) (by kernel_rfl) (fun _ _ _ h => h) _ _ _ _ (by kernel_rfl) (by kernel_rfl) (by kernel_rfl) (Or.inl ⟨by rfl, ?_⟩) hSS ?_
  rotate_left
  · intro w hSw
    obtain ⟨q0, q1, q2, q3, q4⟩ := hSw
    go_simp
    try with_reducible rfl
  simp only [Act.put, List.setIfInBounds_toArray, List.set_cons_zero, List.set_cons_succ, List.getElem_toArray, List.getElem_cons_zero, List.getElem_cons_succ]
  refine under_one (i := 12) (by kernel_rfl) rfl ?_
  intro K hK
  go_simp
  have S8 := S7.boxF 32 #[.int .u32 (q.e : Int), .int .u64 (q.o : Int), .int .u64 (q.a : Int), .slice QB ql qc]
  have hWs : w4.heap.size < (w4.alloc (.cells #[.int .u32 (q.e : Int), .int .u64 (q.o : Int), .int .u64 (q.a : Int), .slice QB ql qc] 32)).heap.size := by simp
  replace hSS := facts S8.tail
  refine hK _ _ (fun _ => hSS) ?_
  clear hK K S7
  generalize w4.heap.size = nb at S8 hWs ⊢
  generalize w4.alloc (.cells #[.int .u32 (q.e : Int), .int .u64 (q.o : Int), .int .u64 (q.a : Int), .slice QB ql qc] 32) = w5 at S8 hSS hWs ⊢
  simp only [List.setIfInBounds_toArray, List.set_cons_zero, List.set_cons_succ]
  refine under_one (i := 13) (by kernel_rfl) rfl ?_
  intro K hK
  obtain ⟨i32, hi32, hz0, hz1, hz2⟩ := info_parts info32
  have hrd : Reads w5 w5.heap.size 4 (some ⟨nb, 0, none⟩) 1 [.int .u32 (q.e : Int), .int .u64 (q.o : Int), .int .u64 (q.a : Int), .slice QB ql qc] := by
    refine ⟨rfl, fun _ => ⟨_, rfl, hWs, fun j x hj => ?_⟩⟩
    have hb := (S8.blk 0 rfl).cell j
    have he : (⟨nb, 0, none⟩ : Addr).add j = ⟨nb, j, none⟩ := by unfold Addr.add; split <;> simp_all
    rw [he, hb, ← Array.getElem?_toList]
    exact hj
  have hone : ∀ x ∈ [Value.int .u32 (q.e : Int), .int .u64 (q.o : Int), .int .u64 (q.a : Int), .slice QB ql qc], x.oneCell' = true := by
    intro x hx
    simp only [List.mem_cons, List.not_mem_nil, or_false] at hx
    rcases hx with rfl | rfl | rfl | rfl <;> rfl
  refine step_append_any _ rfl (.tmp 156) (.tmp 164) 28 rfl 0 32 i32 _ 4 48 Try.underlying28 hi32 hz0 hz1 hz2 rfl (by omega) (.slice (some ⟨yb, 0, none⟩) n vc) n _ rfl (S8.own 1 rfl) _ (some ⟨nb, 0, none⟩) 1 1 _ rfl hrd hone (by unfold maxLen; omega) (by omega) (Nat.zero_le _) ?_
  intro v6 w6 hown hg hat
  have S9 := S8.pushed 1 rfl hown hg hat
  refine hK _ _ (fun h => by cases h) ?_
  clear hK K hown hg hat hrd hone S8 hWs hi32 hz0 hz1 hz2 hSS facts
  obtain ⟨a6, c6, hv6, -, -⟩ := own_slice (S9.own 1 rfl)
  subst hv6
  have z6 := (S9.blk 2 rfl).frozen 6
  have k6 := (S9.blk 2 rfl).at_ 6 rfl
  simp only [Act.put, List.setIfInBounds_toArray, List.set_cons_zero, List.set_cons_succ, List.getElem_toArray, List.getElem_cons_zero, List.getElem_cons_succ]
  refine under_free (i := 14) (v := ?_) rfl (by kernel_rfl) (fun _ _ _ h => h) _ _ _ _ (by kernel_rfl) (by kernel_rfl) (Or.inl ⟨by rfl, ?_⟩) ?_
  rotate_left
  · intro w _
    go_simp
    try with_reducible rfl
  simp only [Act.put, List.setIfInBounds_toArray, List.set_cons_zero, List.set_cons_succ, List.getElem_toArray, List.getElem_cons_zero, List.getElem_cons_succ]
  refine under_free (i := 15) (v := ?_) rfl (by kernel_rfl) (fun _ _ _ h => h) _ _ _ _ (by kernel_rfl) (by kernel_rfl) (Or.inl ⟨by rfl, ?_⟩) ?_
  rotate_left
  · intro w _
    go_simp
    try with_reducible rfl
  simp only [Act.put, List.setIfInBounds_toArray, List.set_cons_zero, List.set_cons_succ, List.getElem_toArray, List.getElem_cons_zero, List.getElem_cons_succ]
  refine under_one (i := 16) (by kernel_rfl) rfl ?_
  intro K hK
  go_simp
  have S10 := (S9.put 2 rfl 6 (.slice a6 (n + 1) c6)).tail
  refine hK _ _ (fun h => by cases h) ?_
  clear hK K S9 z6 k6
  refine under_done (by kernel_rfl) ?_ _
  generalize w6.setCell ⟨gp, 6, none⟩ (.slice a6 (n + 1) c6) = w7 at S10 ⊢
  have S11 : Sep w0 w7 (row 3 1 (.slice (some ⟨ib, 0, none⟩) n ic) n (p.ws.map enI) :: cell gp 49 #[.pointer (some ⟨g0, 0, none⟩), .pointer (some ⟨g1, 0, none⟩), vw0, vw1, vr0, vr1, .slice a6 (n + 1) c6, .slice (some ⟨ib, 0, none⟩) n ic] :: row 32 4 (.slice a6 (n + 1) c6) (n + 1) (entP es ++ [.int .u32 (q.e : Int), .int .u64 (q.o : Int), .int .u64 (q.a : Int), .slice QB ql qc]) :: T) := S10.ix 3 [2, 1, 0] [] (by decide)
  clear S10
  have facts : ∀ {X : World} {R : List Asn}, Sep w0 X (row 3 1 (.slice (some ⟨ib, 0, none⟩) n ic) n (p.ws.map enI) :: cell gp 49 #[.pointer (some ⟨g0, 0, none⟩), .pointer (some ⟨g1, 0, none⟩), vw0, vw1, vr0, vr1, .slice a6 (n + 1) c6, .slice (some ⟨ib, 0, none⟩) n ic] :: R) → X.cell? ⟨gp, 7, none⟩ = some (.slice (some ⟨ib, 0, none⟩) n ic) ∧ X.cell? ⟨ib, k, none⟩ = some (enI (tt, q)) :=
    fun h => ⟨(h.blk 1 rfl).at_ 7 rfl, own_cells (h.own 0 rfl) _ _ hIk⟩
  go_upto_region 26 with (fail)
  refine plain_under (fun w => w.cell? ⟨gp, 7, none⟩ = some (.slice (some ⟨ib, 0, none⟩) n ic) ∧ w.cell? ⟨ib, k, none⟩ = some (enI (tt, q))) (fun j => decide (j < 13)) (by kernel_rfl) ?_
  have hSS : w7.drew.cell? ⟨gp, 7, none⟩ = some (.slice (some ⟨ib, 0, none⟩) n ic) ∧ w7.drew.cell? ⟨ib, k, none⟩ = some (enI (tt, q)) := facts S11.drew
  have S12 := S11.drew
  clear S11
  generalize w7.drew = w8 at hSS S12 ⊢
  obtain ⟨ti, hti⟩ : ∃ ti : Int, enI (tt, q) = .int .i64 ti := ⟨_, rfl⟩
  rw [hti] at hSS
  simp only [hti] at facts ⊢
  simp only [List.size_toArray, List.length_cons, List.length_nil, Nat.reduceAdd, Array.replicate_succ, Array.replicate_zero, List.push_toArray, List.nil_append, List.cons_append]
  refine under_free (i := 0) (v := ?_) rfl (by kernel_rfl) (fun _ _ _ h => h) _ _ _ _ (by kernel_rfl) (by kernel_rfl) (Or.inl ⟨by rfl, ?_⟩) ?_
  rotate_left
  · intro w _
    go_simp
    try with_reducible rfl
  simp only [Act.put, List.setIfInBounds_toArray, List.set_cons_zero, List.set_cons_succ, List.getElem_toArray, List.getElem_cons_zero]
  refine under_free (i := 1) (v := ?_) rfl (by kernel_rfl) (fun _ _ _ h => h) _ _ _ _ (by kernel_rfl) (by kernel_rfl) (Or.inl ⟨by rfl, ?_⟩) ?_
  rotate_left
  · intro w _
    go_simp
    try with_reducible rfl
  simp only [Act.put, List.setIfInBounds_toArray, List.set_cons_zero, List.set_cons_succ, List.getElem_toArray, List.getElem_cons_zero, List.getElem_cons_succ]
  refine under_free (i := 2) (v := ?_) rfl (by kernel_rfl) (fun _ _ _ h => h) _ _ _ _ (by kernel_rfl) (by kernel_rfl) (Or.inl ⟨by rfl, ?_⟩) ?_
  rotate_left
  · intro w _
    go_simp
    try with_reducible rfl
  simp only [Act.put, List.setIfInBounds_toArray, List.set_cons_zero, List.set_cons_succ, List.getElem_toArray, List.getElem_cons_zero, List.getElem_cons_succ]
  refine under_free (i := 3) (v := ?_) rfl (by kernel_rfl) (fun _ _ _ h => h) _ _ _ _ (by kernel_rfl) (by kernel_rfl) (Or.inl ⟨by rfl, ?_⟩) ?_
  rotate_left
  · intro w _
    go_simp
    try with_reducible rfl
  simp only [Act.put, List.setIfInBounds_toArray, List.set_cons_zero, List.set_cons_succ, List.getElem_toArray, List.getElem_cons_zero, List.getElem_cons_succ]
  refine under_take (i := 4) (v := ?_) rfl (by kernel_rfl) (by kernel_rfl) (fun _ _ _ h => h) _ _ _ _ (by kernel_rfl) (by kernel_rfl) (by kernel_rfl) (Or.inl ⟨by rfl, ?_⟩) hSS ?_
  rotate_left
  · intro w hSw
    obtain ⟨q0, q1⟩ := hSw
    go_simp
    try with_reducible rfl
  simp only [Act.put, List.setIfInBounds_toArray, List.set_cons_zero, List.set_cons_succ, List.getElem_toArray, List.getElem_cons_zero, List.getElem_cons_succ]
  refine under_free (i := 5) (v := ?_) rfl (by kernel_rfl) (fun _ _ _ h => h) _ _ _ _ (by kernel_rfl) (by kernel_rfl) (Or.inl ⟨by rfl, ?_⟩) ?_
  rotate_left
  · intro w _
    go_simp
    try with_reducible rfl
  simp only [Act.put, List.setIfInBounds_toArray, List.set_cons_zero, List.set_cons_succ, List.getElem_toArray, List.getElem_cons_zero, List.getElem_cons_succ]
  refine under_free (i := 6) (v := ?_) rfl (by kernel_rfl) (fun _ _ _ h => h) _ _ _ _ (by kernel_rfl) (by kernel_rfl) (Or.inl ⟨by rfl, ?_⟩) ?_
  rotate_left
  · intro w _
    go_simp
    try with_reducible rfl
  simp only [Act.put, List.setIfInBounds_toArray, List.set_cons_zero, List.set_cons_succ, List.getElem_toArray, List.getElem_cons_zero, List.getElem_cons_succ]
  refine under_free (i := 7) (v := ?_) rfl (by kernel_rfl) (fun _ _ _ h => h) _ _ _ _ (by kernel_rfl) (by kernel_rfl) (Or.inl ⟨by rfl, ?_⟩) ?_
  rotate_left
  · intro w _
    go_simp
    try with_reducible rfl
  simp only [Act.put, List.setIfInBounds_toArray, List.set_cons_zero, List.set_cons_succ, List.getElem_toArray, List.getElem_cons_zero, List.getElem_cons_succ]
  refine under_take (i := 8) (v := ?_) rfl (by kernel_rfl) (by kernel_rfl) (fun _ _ _ h => h) _ _ _ _ (by kernel_rfl) (by kernel_rfl) (by kernel_rfl) (Or.inl ⟨by rfl, ?_⟩) hSS ?_
  rotate_left
  · intro w hSw
    obtain ⟨q0, q1⟩ := hSw
    go_simp
    try with_reducible rfl
  simp only [Act.put, List.setIfInBounds_toArray, List.set_cons_zero, List.set_cons_succ, List.getElem_toArray, List.getElem_cons_zero, List.getElem_cons_succ]
  refine under_free (i := 9) (v := ?_) rfl (by kernel_rfl) (fun _ _ _ h => h) _ _ _ _ (by kernel_rfl) (by kernel_rfl) (Or.inl ⟨by rfl, ?_⟩) ?_
  rotate_left
  · intro w _
    go_simp
    try with_reducible rfl
  simp only [Act.put, List.setIfInBounds_toArray, List.set_cons_zero, List.set_cons_succ, List.getElem_toArray, List.getElem_cons_zero, List.getElem_cons_succ]
  refine under_free (i := 10) (v := ?_) rfl (by kernel_rfl) (fun _ _ _ h => h) _ _ _ _ (by kernel_rfl) (by kernel_rfl) (Or.inl ⟨by rfl, ?_⟩) ?_
  rotate_left
  · intro w _
    go_simp
    try with_reducible rfl
  simp only [Act.put, List.setIfInBounds_toArray, List.set_cons_zero, List.set_cons_succ, List.getElem_toArray, List.getElem_cons_zero, List.getElem_cons_succ]
  refine under_take (i := 11) (v := ?_) rfl (by kernel_rfl) (by kernel_rfl) (fun _ _ _ h => h) _ _ _ _ (by kernel_rfl) (by kernel_rfl) (by kernel_rfl) (Or.inl ⟨by rfl, ?_⟩) hSS ?_
  rotate_left
  · intro w hSw
    obtain ⟨q0, q1⟩ := hSw
    go_simp
    try with_reducible rfl
  simp only [Act.put, List.setIfInBounds_toArray, List.set_cons_zero, List.set_cons_succ, List.getElem_toArray, List.getElem_cons_zero, List.getElem_cons_succ]
  refine under_one (i := 12) (by kernel_rfl) rfl ?_
  intro K hK
  go_simp
  have S13 := S12.boxF 3 #[.int .i64 ti]
  have hWs : w8.heap.size < (w8.alloc (.cells #[.int .i64 ti] 3)).heap.size := by simp
  replace hSS := facts S13.tail
  refine hK _ _ (fun _ => hSS) ?_
  clear hK K S12
  generalize w8.heap.size = nb at S13 hWs ⊢
  generalize w8.alloc (.cells #[.int .i64 ti] 3) = w9 at S13 hSS hWs ⊢
  simp only [List.setIfInBounds_toArray, List.set_cons_zero, List.set_cons_succ]
  refine under_one (i := 13) (by kernel_rfl) rfl ?_
  intro K hK
  obtain ⟨i3, hi3, hz0, hz1, hz2⟩ := info_parts info3
  have hrd : Reads w9 w9.heap.size 1 (some ⟨nb, 0, none⟩) 1 [.int .i64 ti] := by
    refine ⟨rfl, fun _ => ⟨_, rfl, hWs, fun j x hj => ?_⟩⟩
    have hb := (S13.blk 0 rfl).cell j
    have he : (⟨nb, 0, none⟩ : Addr).add j = ⟨nb, j, none⟩ := by unfold Addr.add; split <;> simp_all
    rw [he, hb, ← Array.getElem?_toList]
    exact hj
  refine step_append_any _ rfl (.tmp 172) (.tmp 180) 47 rfl 0 3 i3 _ 1 8 Try.underlying47 hi3 hz0 hz1 hz2 rfl (by omega) (.slice (some ⟨ib, 0, none⟩) n ic) n _ rfl (S13.own 1 rfl) _ (some ⟨nb, 0, none⟩) 1 1 _ rfl hrd (by intro u hu; rw [List.mem_singleton] at hu; subst hu; rfl) (by unfold maxLen; omega) (by omega) (Nat.zero_le _) ?_
  intro v10 w10 hown hg hat
  have S14 := S13.pushed 1 rfl hown hg hat
  refine hK _ _ (fun h => by cases h) ?_
  clear hK K hown hg hat hrd S13 hWs hi3 hz0 hz1 hz2 hSS facts
  obtain ⟨a10, c10, hv10, -, -⟩ := own_slice (S14.own 1 rfl)
  subst hv10
  have z10 := (S14.blk 2 rfl).frozen 7
  have k10 := (S14.blk 2 rfl).at_ 7 rfl
  simp only [Act.put, List.setIfInBounds_toArray, List.set_cons_zero, List.set_cons_succ, List.getElem_toArray, List.getElem_cons_zero, List.getElem_cons_succ]
  refine under_free (i := 14) (v := ?_) rfl (by kernel_rfl) (fun _ _ _ h => h) _ _ _ _ (by kernel_rfl) (by kernel_rfl) (Or.inl ⟨by rfl, ?_⟩) ?_
  rotate_left
  · intro w _
    go_simp
    try with_reducible rfl
  simp only [Act.put, List.setIfInBounds_toArray, List.set_cons_zero, List.set_cons_succ, List.getElem_toArray, List.getElem_cons_zero, List.getElem_cons_succ]
  refine under_free (i := 15) (v := ?_) rfl (by kernel_rfl) (fun _ _ _ h => h) _ _ _ _ (by kernel_rfl) (by kernel_rfl) (Or.inl ⟨by rfl, ?_⟩) ?_
  rotate_left
  · intro w _
    go_simp
    try with_reducible rfl
  simp only [Act.put, List.setIfInBounds_toArray, List.set_cons_zero, List.set_cons_succ, List.getElem_toArray, List.getElem_cons_zero, List.getElem_cons_succ]
  refine under_one (i := 16) (by kernel_rfl) rfl ?_
  intro K hK
  go_simp
  have S15 := (S14.put 2 rfl 7 (.slice a10 (n + 1) c10)).tail
  refine hK _ _ (fun h => by cases h) ?_
  clear hK K S14 z10 k10
  refine under_done (by kernel_rfl) ?_ _
  generalize w10.setCell ⟨gp, 7, none⟩ (.slice a10 (n + 1) c10) = w11 at S15 ⊢
  have HS := Lib.hid S15
  clear S15
  go_wp2_with fail
  go_ret
  refine ⟨rfl, ?_⟩
  have S16 : Sep w0 w11 (row 32 4 (.slice a6 (n + 1) c6) (n + 1) (entP es ++ [.int .u32 (q.e : Int), .int .u64 (q.o : Int), .int .u64 (q.a : Int), .slice QB ql qc]) :: cell gp 49 #[.pointer (some ⟨g0, 0, none⟩), .pointer (some ⟨g1, 0, none⟩), vw0, vw1, vr0, vr1, .slice a6 (n + 1) c6, .slice a10 (n + 1) c10] :: row 3 1 (.slice a10 (n + 1) c10) (n + 1) (p.ws.map enI ++ [.int .i64 ti]) :: T) := HS.out.ix 3 [2, 1, 0] [] (by decide)
  have hP : entP (es ++ [e]) = entP es ++ [.int .u32 (q.e : Int), .int .u64 (q.o : Int), .int .u64 (q.a : Int), .slice QB ql qc] := by
    rw [entP_append, ← hcell, ← heq]
    congr 1
  have hI : (p.ws ++ [(tt, q)]).map enI = p.ws.map enI ++ [.int .i64 ti] := by rw [List.map_append, List.map_singleton, hti]
  have S17 : Sep w0 w11 (row 32 4 (.slice a6 (n + 1) c6) (es ++ [e]).length (entP (es ++ [e])) :: (ds.map rowD ++ (cell gp 49 #[.pointer (some ⟨g0, 0, none⟩), .pointer (some ⟨g1, 0, none⟩), vw0, vw1, vr0, vr1, .slice a6 (n + 1) c6, .slice a10 (n + 1) c10] :: IRow (.slice a10 (n + 1) c10) (p.ws ++ [(tt, q)]) :: LinkAt g0 (p.l false) :: LinkAt g1 (p.l true) :: BRow vw0 (p.wr false) :: BRow vw1 (p.wr true) :: BRow vr0 (p.rd false) :: BRow vr1 (p.rd true) :: M))) := by
    unfold IRow
    rw [hI, hP, List.length_append, List.length_append, List.length_singleton, List.length_singleton, hesl, hn, hU]
    rw [← hT] at S16
    exact S16.perm (.cons _ (perm_float2 _ _ _ _).symm)
  have S18 := Sep.closeK (ps := (p.ws ++ [(tt, q)]).map (·.2)) (by rw [List.map_append, List.map_append, hes, List.map_singleton, List.map_singleton, heq]) (fun x hx => by
    rcases List.mem_append.1 hx with hx | hx
    · exact hds x hx
    · rw [List.mem_singleton] at hx; subst hx; rw [heq]; exact hmem) S17
  exact Sep.closeP2 (p := { p with ws := p.ws ++ [(tt, q)] }) ⟨g0, g1, vw0, vw1, vr0, vr1, .slice a6 (n + 1) c6, .slice a10 (n + 1) c10⟩ (S18.ix 9 [1, 3, 4, 5, 6, 7, 8, 0, 2] [] (by decide))
end
end Go.Proofs.Ytpgiljjjpijepaa
