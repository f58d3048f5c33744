/- A packet under way is no more. -/
import Derived.Test.YtpgiljjjpijepaaLPair
namespace Go.Proofs.Ytpgiljjjpijepaa
open Go.RowKit
section
variable {w0 w w' : World} {L M : List Asn}
theorem perm_float2 (a b : Asn) (U R : List Asn) : (U ++ (a :: b :: R)).Perm (a :: b :: (U ++ R)) := by
  have h := (List.perm_append_comm (l₁ := U) (l₂ := [a, b])).append_right R
  simpa using h
theorem entP_one_of {es : List EntP} (h : ∀ e ∈ es, e.1.oneCell' = true) : ∀ u ∈ entP es, u.oneCell' = true := by
  intro u hu
  unfold entP at hu
  obtain ⟨e, he, hu⟩ := List.mem_flatMap.1 hu
  exact oneP e.1 (h e he) e.2 u hu
set_option maxRecDepth 100000 in
set_option maxHeartbeats 1000000 in
theorem out_any {gp : Nat} {p : PS} (k : Nat) (hk : k < p.ws.length) (hlen : p.ws.length ≤ 1000000000) (hS : Sep w0 w (PairAt gp p :: M)) :
    Calls Try.prog 38 #[.pointer (some ⟨gp, 0, none⟩), .int .i64 (k : Int)] w fun en w' => en = .returned (.tuple #[]) ∧ Sep w0 w' (PairAt gp { p with ws := p.ws.eraseIdx k } :: M) := by
  obtain ⟨x, S⟩ := hS.openP2
  obtain ⟨g0, g1, vw0, vw1, vr0, vr1, y, t⟩ := x
  have S0 : Sep w0 w (PkX y (p.ws.map (·.2)) :: cell gp 49 (PV.cs ⟨g0, g1, vw0, vw1, vr0, vr1, y, t⟩) :: IRow t p.ws :: LinkAt g0 (p.l false) :: LinkAt g1 (p.l true) :: BRow vw0 (p.wr false) :: BRow vw1 (p.wr true) :: BRow vr0 (p.rd false) :: BRow vr1 (p.rd true) :: M) := S.ix 9 [7, 0, 8, 1, 2, 3, 4, 5, 6] [] (by decide)
  clear S
  obtain ⟨es, ds, hes, hds, S2⟩ := S0.openK
  have hone : ∀ u ∈ entP es, u.oneCell' = true := entP_one_of fun e he => by
    obtain ⟨B, c, h1, -⟩ := rb_of S2.tail (hds e he)
    rw [h1]; rfl
  obtain ⟨U, hU⟩ : ∃ U, ds.map rowD = U := ⟨_, rfl⟩
  rw [hU] at S2
  have hesl : es.length = p.ws.length := by have h := congrArg List.length hes; simpa using h
  obtain ⟨n, hn⟩ : ∃ n, p.ws.length = n := ⟨_, rfl⟩
  rw [hn] at hesl hk hlen
  obtain ⟨VA, vc, hv, hvc, -⟩ := own_slice (S2.own 0 rfl)
  rw [hesl] at hv hvc S2
  subst hv
  have S1 := S2.perm (List.Perm.cons _ (perm_float2 (cell gp 49 _) (IRow t p.ws) U _))
  obtain ⟨IA, ic, ht, hic, -⟩ := own_slice (S1.own 2 rfl)
  rw [hn] at ht hic
  subst ht
  have S1' : Sep w0 w (row 32 4 (.slice VA n vc) n (entP es) :: cell gp 49 #[.pointer (some ⟨g0, 0, none⟩), .pointer (some ⟨g1, 0, none⟩), vw0, vw1, vr0, vr1, .slice VA n vc, .slice IA n ic] :: row 3 1 (.slice IA n ic) n (p.ws.map enI) :: (U ++ (LinkAt g0 (p.l false) :: LinkAt g1 (p.l true) :: BRow vw0 (p.wr false) :: BRow vw1 (p.wr true) :: BRow vr0 (p.rd false) :: BRow vr1 (p.rd true) :: M))) := by
    have h := S1
    unfold IRow at h
    rw [hn] at h
    exact h
  clear S1
  have S1 := S1'
  clear S1'
  generalize hT : (U ++ (LinkAt g0 (p.l false) :: LinkAt g1 (p.l true) :: BRow vw0 (p.wr false) :: BRow vw1 (p.wr true) :: BRow vr0 (p.rd false) :: BRow vr1 (p.rd true) :: M)) = T at S1
  clear S2 S0 hS
  have q0 : w.cell? ⟨gp, 6, none⟩ = some (.slice VA n vc) := (S1.blk 1 rfl).at_ 6 rfl
  have sl1 := part_hi 28 4 Try.underlying28 size28 .i64 VA n vc k (by omega)
  have sl2 : ∀ w, (Instr.slice 28 (.slice VA n vc) (some (.int .i64 ((k : Int) + 1))) none none).run Try.prog w = .ok (.slice (subV VA vc (k + 1) 4) (n - (k + 1)) (vc - (k + 1))) w := fun w => part_lo 28 4 Try.underlying28 size28 .i64 VA n vc (k + 1) (by omega) w
  have sl3 := part_hi 47 1 Try.underlying47 size47 .i64 IA n ic k (by omega)
  have sl4 : ∀ w, (Instr.slice 47 (.slice IA n ic) (some (.int .i64 ((k : Int) + 1))) none none).run Try.prog w = .ok (.slice (subV IA ic (k + 1) 1) (n - (k + 1)) (ic - (k + 1))) w := fun w => part_lo 47 1 Try.underlying47 size47 .i64 IA n ic (k + 1) (by omega) w
  have honI : ∀ u ∈ p.ws.map enI, u.oneCell' = true := fun u hu => by obtain ⟨e, -, rfl⟩ := List.mem_map.1 hu; rfl
  have i1 : IntKind.i64.wrap ((k : Int) + 1) = (k : Int) + 1 := IntWalk.i64_in _ (by omega)
  go_enter Try.func38, Try.ntmps38
  go_upto_region 0 with (fail)
  refine plain_under (fun w => w.cell? ⟨gp, 6, none⟩ = some (.slice VA n vc)) (fun j => decide (j < 19)) (by kernel_rfl) ?_
  have hSS : w.drew.cell? ⟨gp, 6, none⟩ = some (.slice VA n vc) := q0
  replace S1 := S1.drew
  clear q0
  generalize w.drew = W1 at hSS S1 ⊢
  simp only [List.size_toArray, List.length_cons, List.length_nil, Nat.reduceAdd, Array.replicate_succ, Array.replicate_zero, List.push_toArray, List.nil_append, List.cons_append]
  refine under_take (i := 0) (v := ?_) rfl (by kernel_rfl) (by kernel_rfl) (fun _ _ _ h => h) _ _ _ _ (by kernel_rfl) (by kernel_rfl) (by kernel_rfl) (Or.inl ⟨by rfl, ?_⟩) hSS ?_
  rotate_left
  · intro w q0
    go_simp
    try with_reducible rfl
  simp only [Act.put, List.setIfInBounds_toArray, List.set_cons_zero, List.set_cons_succ, List.getElem_toArray, List.getElem_cons_zero]
  refine under_take (i := 2) (v := ?_) rfl (by kernel_rfl) (by kernel_rfl) (fun _ _ _ h => h) _ _ _ _ (by kernel_rfl) (by kernel_rfl) (by kernel_rfl) (Or.inl ⟨by rfl, ?_⟩) hSS ?_
  rotate_left
  · intro w q0
    go_simp
    try with_reducible rfl
  simp only [Act.put, List.setIfInBounds_toArray, List.set_cons_zero, List.set_cons_succ, List.getElem_toArray, List.getElem_cons_zero, List.getElem_cons_succ]
  refine under_take (i := 3) (v := ?_) rfl (by kernel_rfl) (by kernel_rfl) (fun _ _ _ h => h) _ _ _ _ (by kernel_rfl) (by kernel_rfl) (by kernel_rfl) (Or.inl ⟨by rfl, ?_⟩) hSS ?_
  rotate_left
  · intro w q0
    go_simp
    try with_reducible rfl
  simp only [Act.put, List.setIfInBounds_toArray, List.set_cons_zero, List.set_cons_succ, List.getElem_toArray, List.getElem_cons_zero, List.getElem_cons_succ]
  refine under_take (i := 4) (v := ?_) rfl (by kernel_rfl) (by kernel_rfl) (fun _ _ _ h => h) _ _ _ _ (by kernel_rfl) (by kernel_rfl) (by kernel_rfl) (Or.inl ⟨by rfl, ?_⟩) hSS ?_
  rotate_left
  · intro w q0
    go_simp
    try with_reducible rfl
  simp only [Act.put, List.setIfInBounds_toArray, List.set_cons_zero, List.set_cons_succ, List.getElem_toArray, List.getElem_cons_zero, List.getElem_cons_succ]
  refine under_take (i := 5) (v := ?_) rfl (by kernel_rfl) (by kernel_rfl) (fun _ _ _ h => h) _ _ _ _ (by kernel_rfl) (by kernel_rfl) (by kernel_rfl) (Or.inl ⟨by rfl, ?_⟩) hSS ?_
  rotate_left
  · intro w q0
    go_simp
    try with_reducible rfl
  simp only [Act.put, List.setIfInBounds_toArray, List.set_cons_zero, List.set_cons_succ, List.getElem_toArray, List.getElem_cons_zero, List.getElem_cons_succ]
  refine under_take (i := 6) (v := ?_) rfl (by kernel_rfl) (by kernel_rfl) (fun _ _ _ h => h) _ _ _ _ (by kernel_rfl) (by kernel_rfl) (by kernel_rfl) (Or.inl ⟨by rfl, ?_⟩) hSS ?_
  rotate_left
  · intro w q0
    go_simp
    try with_reducible rfl
  simp only [Act.put, List.setIfInBounds_toArray, List.set_cons_zero, List.set_cons_succ, List.getElem_toArray, List.getElem_cons_zero, List.getElem_cons_succ]
  refine under_take (i := 7) (v := ?_) rfl (by kernel_rfl) (by kernel_rfl) (fun _ _ _ h => h) _ _ _ _ (by kernel_rfl) (by kernel_rfl) (by kernel_rfl) (Or.inl ⟨by rfl, ?_⟩) hSS ?_
  rotate_left
  · intro w q0
    go_simp
    try with_reducible rfl
  simp only [Act.put, List.setIfInBounds_toArray, List.set_cons_zero, List.set_cons_succ, List.getElem_toArray, List.getElem_cons_zero, List.getElem_cons_succ]
  refine under_take (i := 9) (v := ?_) rfl (by kernel_rfl) (by kernel_rfl) (fun _ _ _ h => h) _ _ _ _ (by kernel_rfl) (by kernel_rfl) (by kernel_rfl) (Or.inl ⟨by rfl, ?_⟩) hSS ?_
  rotate_left
  · intro w q0
    go_simp
    try with_reducible rfl
  simp only [Act.put, List.setIfInBounds_toArray, List.set_cons_zero, List.set_cons_succ, List.getElem_toArray, List.getElem_cons_zero, List.getElem_cons_succ]
  refine under_take (i := 10) (v := ?_) rfl (by kernel_rfl) (by kernel_rfl) (fun _ _ _ h => h) _ _ _ _ (by kernel_rfl) (by kernel_rfl) (by kernel_rfl) (Or.inl ⟨by rfl, ?_⟩) hSS ?_
  rotate_left
  · intro w q0
    go_simp
    try with_reducible rfl
  simp only [Act.put, List.setIfInBounds_toArray, List.set_cons_zero, List.set_cons_succ, List.getElem_toArray, List.getElem_cons_zero, List.getElem_cons_succ]
  refine under_take (i := 11) (v := ?_) rfl (by kernel_rfl) (by kernel_rfl) (fun _ _ _ h => h) _ _ _ _ (by kernel_rfl) (by kernel_rfl) (by kernel_rfl) (Or.inl ⟨by rfl, ?_⟩) hSS ?_
  rotate_left
  · intro w q0
    go_simp
    try with_reducible rfl
  simp only [Act.put, List.setIfInBounds_toArray, List.set_cons_zero, List.set_cons_succ, List.getElem_toArray, List.getElem_cons_zero, List.getElem_cons_succ]
  refine under_take (i := 12) (v := ?_) rfl (by kernel_rfl) (by kernel_rfl) (fun _ _ _ h => h) _ _ _ _ (by kernel_rfl) (by kernel_rfl) (by kernel_rfl) (Or.inl ⟨by rfl, ?_⟩) hSS ?_
  rotate_left
  · intro w q0
    go_simp
    try with_reducible rfl
  simp only [Act.put, List.setIfInBounds_toArray, List.set_cons_zero, List.set_cons_succ, List.getElem_toArray, List.getElem_cons_zero, List.getElem_cons_succ]
  refine under_take (i := 13) (v := ?_) rfl (by kernel_rfl) (by kernel_rfl) (fun _ _ _ h => h) _ _ _ _ (by kernel_rfl) (by kernel_rfl) (by kernel_rfl) (Or.inl ⟨by rfl, ?_⟩) hSS ?_
  rotate_left
  · intro w q0
    go_simp
    try with_reducible rfl
  simp only [Act.put, List.setIfInBounds_toArray, List.set_cons_zero, List.set_cons_succ, List.getElem_toArray, List.getElem_cons_zero, List.getElem_cons_succ]
  refine under_take (i := 14) (v := ?_) rfl (by kernel_rfl) (by kernel_rfl) (fun _ _ _ h => h) _ _ _ _ (by kernel_rfl) (by kernel_rfl) (by kernel_rfl) (Or.inl ⟨by rfl, ?_⟩) hSS ?_
  rotate_left
  · intro w q0
    go_simp
    try with_reducible rfl
  simp only [Act.put, List.setIfInBounds_toArray, List.set_cons_zero, List.set_cons_succ, List.getElem_toArray, List.getElem_cons_zero, List.getElem_cons_succ]
  refine under_take (i := 15) (v := ?_) rfl (by kernel_rfl) (by kernel_rfl) (fun _ _ _ h => h) _ _ _ _ (by kernel_rfl) (by kernel_rfl) (by kernel_rfl) (Or.inl ⟨by rfl, ?_⟩) hSS ?_
  rotate_left
  · intro w q0
    go_simp
    try with_reducible rfl
  simp only [Act.put, List.setIfInBounds_toArray, List.set_cons_zero, List.set_cons_succ, List.getElem_toArray, List.getElem_cons_zero, List.getElem_cons_succ]
  refine under_one (i := 1) (by kernel_rfl) rfl ?_
  intro K hK
  go_simp
  have S2 := S1.boxF 32 #[]
  have hnb : W1.heap.size < (W1.alloc (.cells #[] 32)).heap.size := by simp
  refine hK _ _ (fun _ => (S2.blk 2 rfl).at_ 6 rfl) ?_
  clear hK K S1 hSS
  generalize W1.heap.size = nb at S2 hnb ⊢
  generalize W1.alloc (.cells #[] 32) = W2 at S2 hnb ⊢
  have S3 := Sep.closeRow (size := 4) (n := 0) (c := 0) (xs := []) S2 rfl (Nat.le_refl _) (Nat.zero_le _) rfl rfl
  clear S2 hnb
  simp only [List.setIfInBounds_toArray, List.set_cons_zero, List.set_cons_succ]
  refine under_one (i := 8) (by kernel_rfl) rfl ?_
  intro K hK
  obtain ⟨i32, hi32, hz0, hz1, hz2⟩ := info_parts info32
  have hr := (Reads.of_own (S3.own 1 rfl)).takes k (by omega)
  refine step_append_any _ rfl (.tmp 5) (.tmp 11) 28 rfl 0 32 i32 _ 4 48 Try.underlying28 hi32 hz0 hz1 hz2 rfl (by omega) (.slice (some ⟨nb, 0, none⟩) 0 0) 0 [] rfl (S3.own 0 rfl) _ VA k vc _ rfl hr (fun u hu => hone u (List.mem_of_mem_take hu)) (by unfold maxLen; omega) (by omega) (Nat.zero_le _) ?_
  intro v4 w4 hown hg hat
  rw [Nat.zero_add, List.nil_append] at hown
  have S4 := S3.pushed 0 rfl hown hg hat
  refine hK _ _ (fun _ => (S4.blk 2 rfl).at_ 6 rfl) ?_
  clear hK K hown hg hat hr S3
  obtain ⟨a4, c4, hv4, -, -⟩ := own_slice (S4.own 0 rfl)
  subst hv4
  simp only [Act.put, List.setIfInBounds_toArray, List.set_cons_zero, List.set_cons_succ, List.getElem_toArray, List.getElem_cons_zero, List.getElem_cons_succ]
  refine under_one (i := 16) (by kernel_rfl) rfl ?_
  intro K hK
  have hr := (Reads.of_own (S4.own 1 rfl)).parts (k + 1) vc (by omega) hvc
  refine step_append_any _ rfl (.tmp 12) (.tmp 19) 28 rfl 0 32 i32 _ 4 48 Try.underlying28 hi32 hz0 hz1 hz2 rfl (by omega) (.slice a4 k c4) k _ rfl (S4.own 0 rfl) _ (subV VA vc (k + 1) 4) (n - (k + 1)) (vc - (k + 1)) _ rfl hr (fun u hu => hone u (List.mem_of_mem_drop hu)) (by unfold maxLen; omega) (by omega) (Nat.zero_le _) ?_
  intro v5 w5 hown hg hat
  have S5 := S4.pushed 0 rfl hown hg hat
  refine hK _ _ (fun _ => (S5.blk 2 rfl).at_ 6 rfl) ?_
  clear hK K hown hg hat hr S4
  obtain ⟨a5, c5, hv5, -, -⟩ := own_slice (S5.own 0 rfl)
  subst hv5
  have z5 := (S5.blk 2 rfl).frozen 6
  have hSS := (S5.blk 2 rfl).at_ 6 rfl
  simp only [Act.put, List.setIfInBounds_toArray, List.set_cons_zero, List.set_cons_succ, List.getElem_toArray, List.getElem_cons_zero, List.getElem_cons_succ]
  refine under_take (i := 17) (v := ?_) rfl (by kernel_rfl) (by kernel_rfl) (fun _ _ _ h => h) _ _ _ _ (by kernel_rfl) (by kernel_rfl) (by kernel_rfl) (Or.inl ⟨by rfl, ?_⟩) hSS ?_
  rotate_left
  · intro w q0
    go_simp
    try with_reducible rfl
  simp only [Act.put, List.setIfInBounds_toArray, List.set_cons_zero, List.set_cons_succ, List.getElem_toArray, List.getElem_cons_zero, List.getElem_cons_succ]
  refine under_take (i := 18) (v := ?_) rfl (by kernel_rfl) (by kernel_rfl) (fun _ _ _ h => h) _ _ _ _ (by kernel_rfl) (by kernel_rfl) (by kernel_rfl) (Or.inl ⟨by rfl, ?_⟩) hSS ?_
  rotate_left
  · intro w q0
    go_simp
    try with_reducible rfl
  simp only [Act.put, List.setIfInBounds_toArray, List.set_cons_zero, List.set_cons_succ, List.getElem_toArray, List.getElem_cons_zero, List.getElem_cons_succ]
  refine under_one (i := 19) (by kernel_rfl) rfl ?_
  intro K hK
  go_simp
  have S6 := S5.put 2 rfl 6 (.slice a5 (k + (n - (k + 1))) c5)
  refine hK _ _ (fun h => by cases h) ?_
  clear hK K S5 z5 hSS
  refine under_done (by kernel_rfl) ?_ _

  generalize w5.setCell ⟨gp, 6, none⟩ (.slice a5 (k + (n - (k + 1))) c5) = w6 at S6 ⊢
  have S7 : Sep w0 w6 (row 3 1 (.slice IA n ic) n (p.ws.map enI) :: cell gp 49 #[.pointer (some ⟨g0, 0, none⟩), .pointer (some ⟨g1, 0, none⟩), vw0, vw1, vr0, vr1, .slice a5 (k + (n - (k + 1))) c5, .slice IA n ic] :: row 32 4 (.slice a5 (k + (n - (k + 1))) c5) (k + (n - (k + 1))) ((entP es).take (k * 4) ++ (entP es).drop ((k + 1) * 4)) :: T) := S6.ix 4 [3, 2, 0] [1] (by decide)
  clear S6
  have q0 : w6.cell? ⟨gp, 7, none⟩ = some (.slice IA n ic) := (S7.blk 1 rfl).at_ 7 rfl
  go_upto_region 1 with (fail)
  refine plain_under (fun w => w.cell? ⟨gp, 7, none⟩ = some (.slice IA n ic)) (fun j => decide (j < 19)) (by kernel_rfl) ?_
  have hSS : w6.drew.cell? ⟨gp, 7, none⟩ = some (.slice IA n ic) := q0
  have S1 := S7.drew
  clear q0 S7
  generalize w6.drew = W1 at hSS S1 ⊢
  simp only [List.size_toArray, List.length_cons, List.length_nil, Nat.reduceAdd, Array.replicate_succ, Array.replicate_zero, List.push_toArray, List.nil_append, List.cons_append]
  refine under_take (i := 0) (v := ?_) rfl (by kernel_rfl) (by kernel_rfl) (fun _ _ _ h => h) _ _ _ _ (by kernel_rfl) (by kernel_rfl) (by kernel_rfl) (Or.inl ⟨by rfl, ?_⟩) hSS ?_
  rotate_left
  · intro w q0
    go_simp
    try with_reducible rfl
  simp only [Act.put, List.setIfInBounds_toArray, List.set_cons_zero, List.set_cons_succ, List.getElem_toArray, List.getElem_cons_zero]
  refine under_take (i := 2) (v := ?_) rfl (by kernel_rfl) (by kernel_rfl) (fun _ _ _ h => h) _ _ _ _ (by kernel_rfl) (by kernel_rfl) (by kernel_rfl) (Or.inl ⟨by rfl, ?_⟩) hSS ?_
  rotate_left
  · intro w q0
    go_simp
    try with_reducible rfl
  simp only [Act.put, List.setIfInBounds_toArray, List.set_cons_zero, List.set_cons_succ, List.getElem_toArray, List.getElem_cons_zero, List.getElem_cons_succ]
  refine under_take (i := 3) (v := ?_) rfl (by kernel_rfl) (by kernel_rfl) (fun _ _ _ h => h) _ _ _ _ (by kernel_rfl) (by kernel_rfl) (by kernel_rfl) (Or.inl ⟨by rfl, ?_⟩) hSS ?_
  rotate_left
  · intro w q0
    go_simp
    try with_reducible rfl
  simp only [Act.put, List.setIfInBounds_toArray, List.set_cons_zero, List.set_cons_succ, List.getElem_toArray, List.getElem_cons_zero, List.getElem_cons_succ]
  refine under_take (i := 4) (v := ?_) rfl (by kernel_rfl) (by kernel_rfl) (fun _ _ _ h => h) _ _ _ _ (by kernel_rfl) (by kernel_rfl) (by kernel_rfl) (Or.inl ⟨by rfl, ?_⟩) hSS ?_
  rotate_left
  · intro w q0
    go_simp
    try with_reducible rfl
  simp only [Act.put, List.setIfInBounds_toArray, List.set_cons_zero, List.set_cons_succ, List.getElem_toArray, List.getElem_cons_zero, List.getElem_cons_succ]
  refine under_take (i := 5) (v := ?_) rfl (by kernel_rfl) (by kernel_rfl) (fun _ _ _ h => h) _ _ _ _ (by kernel_rfl) (by kernel_rfl) (by kernel_rfl) (Or.inl ⟨by rfl, ?_⟩) hSS ?_
  rotate_left
  · intro w q0
    go_simp
    try with_reducible rfl
  simp only [Act.put, List.setIfInBounds_toArray, List.set_cons_zero, List.set_cons_succ, List.getElem_toArray, List.getElem_cons_zero, List.getElem_cons_succ]
  refine under_take (i := 6) (v := ?_) rfl (by kernel_rfl) (by kernel_rfl) (fun _ _ _ h => h) _ _ _ _ (by kernel_rfl) (by kernel_rfl) (by kernel_rfl) (Or.inl ⟨by rfl, ?_⟩) hSS ?_
  rotate_left
  · intro w q0
    go_simp
    try with_reducible rfl
  simp only [Act.put, List.setIfInBounds_toArray, List.set_cons_zero, List.set_cons_succ, List.getElem_toArray, List.getElem_cons_zero, List.getElem_cons_succ]
  refine under_take (i := 7) (v := ?_) rfl (by kernel_rfl) (by kernel_rfl) (fun _ _ _ h => h) _ _ _ _ (by kernel_rfl) (by kernel_rfl) (by kernel_rfl) (Or.inl ⟨by rfl, ?_⟩) hSS ?_
  rotate_left
  · intro w q0
    go_simp
    try with_reducible rfl
  simp only [Act.put, List.setIfInBounds_toArray, List.set_cons_zero, List.set_cons_succ, List.getElem_toArray, List.getElem_cons_zero, List.getElem_cons_succ]
  refine under_take (i := 9) (v := ?_) rfl (by kernel_rfl) (by kernel_rfl) (fun _ _ _ h => h) _ _ _ _ (by kernel_rfl) (by kernel_rfl) (by kernel_rfl) (Or.inl ⟨by rfl, ?_⟩) hSS ?_
  rotate_left
  · intro w q0
    go_simp
    try with_reducible rfl
  simp only [Act.put, List.setIfInBounds_toArray, List.set_cons_zero, List.set_cons_succ, List.getElem_toArray, List.getElem_cons_zero, List.getElem_cons_succ]
  refine under_take (i := 10) (v := ?_) rfl (by kernel_rfl) (by kernel_rfl) (fun _ _ _ h => h) _ _ _ _ (by kernel_rfl) (by kernel_rfl) (by kernel_rfl) (Or.inl ⟨by rfl, ?_⟩) hSS ?_
  rotate_left
  · intro w q0
    go_simp
    try with_reducible rfl
  simp only [Act.put, List.setIfInBounds_toArray, List.set_cons_zero, List.set_cons_succ, List.getElem_toArray, List.getElem_cons_zero, List.getElem_cons_succ]
  refine under_take (i := 11) (v := ?_) rfl (by kernel_rfl) (by kernel_rfl) (fun _ _ _ h => h) _ _ _ _ (by kernel_rfl) (by kernel_rfl) (by kernel_rfl) (Or.inl ⟨by rfl, ?_⟩) hSS ?_
  rotate_left
  · intro w q0
    go_simp
    try with_reducible rfl
  simp only [Act.put, List.setIfInBounds_toArray, List.set_cons_zero, List.set_cons_succ, List.getElem_toArray, List.getElem_cons_zero, List.getElem_cons_succ]
  refine under_take (i := 12) (v := ?_) rfl (by kernel_rfl) (by kernel_rfl) (fun _ _ _ h => h) _ _ _ _ (by kernel_rfl) (by kernel_rfl) (by kernel_rfl) (Or.inl ⟨by rfl, ?_⟩) hSS ?_
  rotate_left
  · intro w q0
    go_simp
    try with_reducible rfl
  simp only [Act.put, List.setIfInBounds_toArray, List.set_cons_zero, List.set_cons_succ, List.getElem_toArray, List.getElem_cons_zero, List.getElem_cons_succ]
  refine under_take (i := 13) (v := ?_) rfl (by kernel_rfl) (by kernel_rfl) (fun _ _ _ h => h) _ _ _ _ (by kernel_rfl) (by kernel_rfl) (by kernel_rfl) (Or.inl ⟨by rfl, ?_⟩) hSS ?_
  rotate_left
  · intro w q0
    go_simp
    try with_reducible rfl
  simp only [Act.put, List.setIfInBounds_toArray, List.set_cons_zero, List.set_cons_succ, List.getElem_toArray, List.getElem_cons_zero, List.getElem_cons_succ]
  refine under_take (i := 14) (v := ?_) rfl (by kernel_rfl) (by kernel_rfl) (fun _ _ _ h => h) _ _ _ _ (by kernel_rfl) (by kernel_rfl) (by kernel_rfl) (Or.inl ⟨by rfl, ?_⟩) hSS ?_
  rotate_left
  · intro w q0
    go_simp
    try with_reducible rfl
  simp only [Act.put, List.setIfInBounds_toArray, List.set_cons_zero, List.set_cons_succ, List.getElem_toArray, List.getElem_cons_zero, List.getElem_cons_succ]
  refine under_take (i := 15) (v := ?_) rfl (by kernel_rfl) (by kernel_rfl) (fun _ _ _ h => h) _ _ _ _ (by kernel_rfl) (by kernel_rfl) (by kernel_rfl) (Or.inl ⟨by rfl, ?_⟩) hSS ?_
  rotate_left
  · intro w q0
    go_simp
    try with_reducible rfl
  simp only [Act.put, List.setIfInBounds_toArray, List.set_cons_zero, List.set_cons_succ, List.getElem_toArray, List.getElem_cons_zero, List.getElem_cons_succ]
  refine under_one (i := 1) (by kernel_rfl) rfl ?_
  intro K hK
  go_simp
  have S2 := S1.boxF 3 #[]
  have hnb : W1.heap.size < (W1.alloc (.cells #[] 3)).heap.size := by simp
  refine hK _ _ (fun _ => (S2.blk 2 rfl).at_ 7 rfl) ?_
  clear hK K S1 hSS
  generalize W1.heap.size = nb at S2 hnb ⊢
  generalize W1.alloc (.cells #[] 3) = W2 at S2 hnb ⊢
  have S3 := Sep.closeRow (size := 1) (n := 0) (c := 0) (xs := []) S2 rfl (Nat.le_refl _) (Nat.zero_le _) rfl rfl
  clear S2 hnb
  simp only [List.setIfInBounds_toArray, List.set_cons_zero, List.set_cons_succ]
  refine under_one (i := 8) (by kernel_rfl) rfl ?_
  intro K hK
  obtain ⟨i3, hi3, hy0, hy1, hy2⟩ := info_parts info3
  have hr := (Reads.of_own (S3.own 1 rfl)).takes k (by omega)
  refine step_append_any _ rfl (.tmp 24) (.tmp 30) 47 rfl 0 3 i3 _ 1 8 Try.underlying47 hi3 hy0 hy1 hy2 rfl (by omega) (.slice (some ⟨nb, 0, none⟩) 0 0) 0 [] rfl (S3.own 0 rfl) _ IA k ic _ rfl hr (fun u hu => honI u (List.mem_of_mem_take hu)) (by unfold maxLen; omega) (by omega) (Nat.zero_le _) ?_
  intro v4 w4 hown hg hat
  rw [Nat.zero_add, List.nil_append] at hown
  have S4 := S3.pushed 0 rfl hown hg hat
  refine hK _ _ (fun _ => (S4.blk 2 rfl).at_ 7 rfl) ?_
  clear hK K hown hg hat hr S3
  obtain ⟨b4, d4, hv4, -, -⟩ := own_slice (S4.own 0 rfl)
  subst hv4
  simp only [Act.put, List.setIfInBounds_toArray, List.set_cons_zero, List.set_cons_succ, List.getElem_toArray, List.getElem_cons_zero, List.getElem_cons_succ]
  refine under_one (i := 16) (by kernel_rfl) rfl ?_
  intro K hK
  have hr := (Reads.of_own (S4.own 1 rfl)).parts (k + 1) ic (by omega) hic
  refine step_append_any _ rfl (.tmp 31) (.tmp 38) 47 rfl 0 3 i3 _ 1 8 Try.underlying47 hi3 hy0 hy1 hy2 rfl (by omega) (.slice b4 k d4) k _ rfl (S4.own 0 rfl) _ (subV IA ic (k + 1) 1) (n - (k + 1)) (ic - (k + 1)) _ rfl hr (fun u hu => honI u (List.mem_of_mem_drop hu)) (by unfold maxLen; omega) (by omega) (Nat.zero_le _) ?_
  intro v5 w5 hown hg hat
  have S5 := S4.pushed 0 rfl hown hg hat
  refine hK _ _ (fun _ => (S5.blk 2 rfl).at_ 7 rfl) ?_
  clear hK K hown hg hat hr S4
  obtain ⟨b5, d5, hv5, -, -⟩ := own_slice (S5.own 0 rfl)
  subst hv5
  have z5 := (S5.blk 2 rfl).frozen 7
  have hSS := (S5.blk 2 rfl).at_ 7 rfl
  simp only [Act.put, List.setIfInBounds_toArray, List.set_cons_zero, List.set_cons_succ, List.getElem_toArray, List.getElem_cons_zero, List.getElem_cons_succ]
  refine under_take (i := 17) (v := ?_) rfl (by kernel_rfl) (by kernel_rfl) (fun _ _ _ h => h) _ _ _ _ (by kernel_rfl) (by kernel_rfl) (by kernel_rfl) (Or.inl ⟨by rfl, ?_⟩) hSS ?_
  rotate_left
  · intro w q0
    go_simp
    try with_reducible rfl
  simp only [Act.put, List.setIfInBounds_toArray, List.set_cons_zero, List.set_cons_succ, List.getElem_toArray, List.getElem_cons_zero, List.getElem_cons_succ]
  refine under_take (i := 18) (v := ?_) rfl (by kernel_rfl) (by kernel_rfl) (fun _ _ _ h => h) _ _ _ _ (by kernel_rfl) (by kernel_rfl) (by kernel_rfl) (Or.inl ⟨by rfl, ?_⟩) hSS ?_
  rotate_left
  · intro w q0
    go_simp
    try with_reducible rfl
  simp only [Act.put, List.setIfInBounds_toArray, List.set_cons_zero, List.set_cons_succ, List.getElem_toArray, List.getElem_cons_zero, List.getElem_cons_succ]
  refine under_one (i := 19) (by kernel_rfl) rfl ?_
  intro K hK
  go_simp
  have S6 := S5.put 2 rfl 7 (.slice b5 (k + (n - (k + 1))) d5)
  refine hK _ _ (fun h => by cases h) ?_
  clear hK K S5 z5 hSS
  refine under_done (by kernel_rfl) ?_ _

  go_end0
  refine ⟨rfl, ?_⟩
  generalize w5.setCell ⟨gp, 7, none⟩ (.slice b5 (k + (n - (k + 1))) d5) = w9 at S6 ⊢
  have hes1 : (es.eraseIdx k).map (·.2) = (p.ws.eraseIdx k).map (·.2) := by
    rw [List.eraseIdx_eq_take_drop_succ, List.eraseIdx_eq_take_drop_succ, List.map_append, List.map_append, List.map_take, List.map_drop, List.map_take, List.map_drop, hes]
  have hle : (es.eraseIdx k).length = k + (n - (k + 1)) := by rw [List.length_eraseIdx, if_pos (by omega)]; omega
  have hlw : (p.ws.eraseIdx k).length = k + (n - (k + 1)) := by rw [List.length_eraseIdx, if_pos (by omega)]; omega
  have hP : entP (es.eraseIdx k) = (entP es).take (k * 4) ++ (entP es).drop ((k + 1) * 4) := by rw [List.eraseIdx_eq_take_drop_succ, entP_append, entP_take, entP_drop]
  have hI : (p.ws.eraseIdx k).map enI = (p.ws.map enI).take (k * 1) ++ (p.ws.map enI).drop ((k + 1) * 1) := by rw [List.eraseIdx_eq_take_drop_succ, List.map_append, List.map_take, List.map_drop, Nat.mul_one, Nat.mul_one]
  have S7 := S6.ix 4 [3, 0, 2] [1] (by decide)
  have S8 : Sep w0 w9 (row 32 4 (.slice a5 (k + (n - (k + 1))) c5) (k + (n - (k + 1))) ((entP es).take (k * 4) ++ (entP es).drop ((k + 1) * 4)) :: row 3 1 (.slice b5 (k + (n - (k + 1))) d5) (k + (n - (k + 1))) ((p.ws.map enI).take (k * 1) ++ (p.ws.map enI).drop ((k + 1) * 1)) :: cell gp 49 #[.pointer (some ⟨g0, 0, none⟩), .pointer (some ⟨g1, 0, none⟩), vw0, vw1, vr0, vr1, .slice a5 (k + (n - (k + 1))) c5, .slice b5 (k + (n - (k + 1))) d5] :: T) := S7
  rw [← hP, ← hI, ← hT, ← hU] at S8
  have S9 : Sep w0 w9 (row 32 4 (.slice a5 (k + (n - (k + 1))) c5) (es.eraseIdx k).length (entP (es.eraseIdx k)) :: (ds.map rowD ++ (IRow (.slice b5 (k + (n - (k + 1))) d5) (p.ws.eraseIdx k) :: cell gp 49 #[.pointer (some ⟨g0, 0, none⟩), .pointer (some ⟨g1, 0, none⟩), vw0, vw1, vr0, vr1, .slice a5 (k + (n - (k + 1))) c5, .slice b5 (k + (n - (k + 1))) d5] :: LinkAt g0 (p.l false) :: LinkAt g1 (p.l true) :: BRow vw0 (p.wr false) :: BRow vw1 (p.wr true) :: BRow vr0 (p.rd false) :: BRow vr1 (p.rd true) :: M))) := by
    unfold IRow
    rw [hle, hlw]
    exact S8.perm (.cons _ (perm_float2 _ _ _ _).symm)
  have S10 := Sep.closeK hes1 (fun e he => hds e (List.mem_of_mem_eraseIdx he)) S9
  exact Sep.closeP2 (p := { p with ws := p.ws.eraseIdx k }) ⟨g0, g1, vw0, vw1, vr0, vr1, .slice a5 (k + (n - (k + 1))) c5, .slice b5 (k + (n - (k + 1))) d5⟩ (S10.ix 9 [2, 3, 4, 5, 6, 7, 8, 0, 1] [] (by decide))
end
end Go.Proofs.Ytpgiljjjpijepaa
