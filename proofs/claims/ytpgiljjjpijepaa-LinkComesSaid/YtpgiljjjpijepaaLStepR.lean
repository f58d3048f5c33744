/- step: one of two links is read. -/
import Derived.Test.YtpgiljjjpijepaaLStepW
namespace Go.Proofs.Ytpgiljjjpijepaa
open Go.RowKit
section
variable {w0 w w' : World} {L M : List Asn}
def readPS (p : PS) (s : Bool) (a : Int) : PS := { p with l := upd p.l s (readL (p.l s) (1 + pickI a 300)), rd := upd p.rd s (p.rd s ++ readB (p.l s) (1 + pickI a 300)) }
set_option maxRecDepth 100000 in
set_option maxHeartbeats 1000000 in
theorem step5_false {gp : Nat} {p : PS} (d : Nat) (hd : d % 6 = 5) (a : Int) (A : Option Addr) (m c : Nat) (hlen : p.ws.length ≤ 1000000000) (hg : (p.l false).got.length ≤ 1048576) (hrd : (p.rd false).length ≤ 1000000000) (hS : Sep w0 w (PairAt gp p :: M)) :
    Calls Try.prog 22 #[.pointer (some ⟨gp, 0, none⟩), .agg #[.int .u8 (d : Int), .bool false, .int .i64 a, .slice A m c]] w fun en w' => en = .returned (.bool true) ∧ Sep w0 w' (PairAt gp (readPS p false a) :: M) := by
  have hdi : (d : Int) % 6 = 5 := by omega
  obtain ⟨xv, S⟩ := hS.openP2
  obtain ⟨g0, g1, vw0, vw1, vr0, vr1, y, t⟩ := xv
  obtain ⟨VA, vc, hv, hvc, -, -⟩ := S.pr 7 rfl
  obtain ⟨n, hn⟩ : ∃ n, p.ws.length = n := ⟨_, rfl⟩
  rw [List.length_map, hn] at hv hvc
  subst hv
  obtain ⟨W1, hW1, S1⟩ := S.boxedF 43 #[.int .u8 (d : Int), .bool false, .int .i64 a, .slice A m c]
  obtain ⟨xb, hxb⟩ : ∃ xb, w.heap.size = xb := ⟨_, rfl⟩
  rw [hxb] at S1
  have x0 : W1.cell? ⟨xb, 0, none⟩ = some (.int .u8 (d : Int)) := (S1.blk 0 rfl).at_ 0 rfl
  have x1 : W1.cell? ⟨xb, 1, none⟩ = some (.bool false) := (S1.blk 0 rfl).at_ 1 rfl
  have x2 : W1.cell? ⟨xb, 2, none⟩ = some (.int .i64 a) := (S1.blk 0 rfl).at_ 2 rfl
  have y6 : W1.cell? ⟨gp, 6, none⟩ = some (.slice VA n vc) := (S1.blk 1 rfl).at_ 6 rfl
  have hn63 : n ≤ 9223372036854775807 := by omega
  clear S hS
  go_enter Try.func22, Try.ntmps22
  go_wp2_with fail
  refine (side_any false _).mono ?_
  rintro en W2 ⟨rfl, rfl⟩
  go_upto_region 2 with (fail)
  refine plain_under (fun w => w.cell? ⟨xb, 2, none⟩ = some (.int .i64 a) ∧ w.cell? ⟨gp, 6, none⟩ = some (.slice VA n vc)) (fun _ => true) (by kernel_rfl) ?_
  have hSS : W2.drew.cell? ⟨xb, 2, none⟩ = some (.int .i64 a) ∧ W2.drew.cell? ⟨gp, 6, none⟩ = some (.slice VA n vc) := ⟨x2, y6⟩
  have S2 := S1.drew
  have x0' : W2.drew.cell? ⟨xb, 0, none⟩ = some (.int .u8 (d : Int)) := x0
  clear x0 x1 x2 y6 S1 hW1
  generalize W2.drew = W3 at hSS S2 x0' ⊢
  simp only [List.size_toArray, List.length_cons, List.length_nil, Nat.reduceAdd, Array.replicate_succ, Array.replicate_zero, List.push_toArray, List.nil_append, List.cons_append]
  refine under_free (i := 0) (v := ?_) rfl (by kernel_rfl) (fun _ _ _ h => h) _ _ _ _ (by kernel_rfl) (by kernel_rfl) (Or.inl ⟨by rfl, ?_⟩) ?_
  rotate_left
  · intro w _
    go_simp
    try with_reducible rfl
  simp only [Act.put, List.setIfInBounds_toArray, List.set_cons_zero, List.set_cons_succ, List.getElem_toArray, List.getElem_cons_zero]
  refine under_take (i := 1) (v := ?_) rfl (by kernel_rfl) (by kernel_rfl) (fun _ _ _ h => h) _ _ _ _ (by kernel_rfl) (by kernel_rfl) (by kernel_rfl) (Or.inl ⟨by rfl, ?_⟩) hSS ?_
  rotate_left
  · intro w hSw
    obtain ⟨q0, q1⟩ := hSw
    go_simp
    try with_reducible rfl
  simp only [Act.put, List.setIfInBounds_toArray, List.set_cons_zero, List.set_cons_succ, List.getElem_toArray, List.getElem_cons_zero, List.getElem_cons_succ]
  refine under_free (i := 2) (v := ?_) rfl (by kernel_rfl) (fun _ _ _ h => h) _ _ _ _ (by kernel_rfl) (by kernel_rfl) (Or.inl ⟨by rfl, ?_⟩) ?_
  rotate_left
  · intro w _
    go_simp
    try with_reducible rfl
  simp only [Act.put, List.setIfInBounds_toArray, List.set_cons_zero, List.set_cons_succ, List.getElem_toArray, List.getElem_cons_zero, List.getElem_cons_succ]
  refine under_free (i := 3) (v := ?_) rfl (by kernel_rfl) (fun _ _ _ h => h) _ _ _ _ (by kernel_rfl) (by kernel_rfl) (Or.inl ⟨by rfl, ?_⟩) ?_
  rotate_left
  · intro w _
    go_simp
    try with_reducible rfl
  simp only [Act.put, List.setIfInBounds_toArray, List.set_cons_zero, List.set_cons_succ, List.getElem_toArray, List.getElem_cons_zero, List.getElem_cons_succ]
  refine under_free (i := 4) (v := ?_) rfl (by kernel_rfl) (fun _ _ _ h => h) _ _ _ _ (by kernel_rfl) (by kernel_rfl) (Or.inl ⟨by rfl, ?_⟩) ?_
  rotate_left
  · intro w _
    go_simp
    try with_reducible rfl
  simp only [Act.put, List.setIfInBounds_toArray, List.set_cons_zero, List.set_cons_succ, List.getElem_toArray, List.getElem_cons_zero, List.getElem_cons_succ]
  refine under_take (i := 5) (v := ?_) rfl (by kernel_rfl) (by kernel_rfl) (fun _ _ _ h => h) _ _ _ _ (by kernel_rfl) (by kernel_rfl) (by kernel_rfl) (Or.inl ⟨by rfl, ?_⟩) hSS ?_
  rotate_left
  · intro w hSw
    obtain ⟨q0, q1⟩ := hSw
    go_simp
    try with_reducible rfl
  simp only [Act.put, List.setIfInBounds_toArray, List.set_cons_zero, List.set_cons_succ, List.getElem_toArray, List.getElem_cons_zero, List.getElem_cons_succ]
  refine under_free (i := 6) (v := ?_) rfl (by kernel_rfl) (fun _ _ _ h => h) _ _ _ _ (by kernel_rfl) (by kernel_rfl) (Or.inl ⟨by rfl, ?_⟩) ?_
  rotate_left
  · intro w _
    go_simp
    try with_reducible rfl
  simp only [Act.put, List.setIfInBounds_toArray, List.set_cons_zero, List.set_cons_succ, List.getElem_toArray, List.getElem_cons_zero, List.getElem_cons_succ]
  refine under_one (i := 7) (by kernel_rfl) rfl ?_
  intro K hK
  go_simp
  refine (pick_any a n hn63 _).mono ?_
  rintro en w3 ⟨rfl, rfl⟩
  refine hK _ _ (fun _ => hSS) ?_
  clear hK K
  simp only [List.setIfInBounds_toArray, List.set_cons_zero, List.set_cons_succ]
  refine under_free (i := 8) (v := ?_) rfl (by kernel_rfl) (fun _ _ _ h => h) _ _ _ _ (by kernel_rfl) (by kernel_rfl) (Or.inl ⟨by rfl, ?_⟩) ?_
  rotate_left
  · intro w _
    go_simp
    try with_reducible rfl
  simp only [Act.put, List.setIfInBounds_toArray, List.set_cons_zero, List.set_cons_succ, List.getElem_toArray, List.getElem_cons_zero, List.getElem_cons_succ]
  refine under_done (by kernel_rfl) ?_ _
  clear hSS
  go_upto_region 5 with (fail)
  simp only [hdi]
  clear x0' hdi
  obtain ⟨RA, rc, hvr, hrc, -⟩ := own_slice (S2.own 6 rfl)
  obtain ⟨rn, hrn⟩ : ∃ rn, (p.rd false).length = rn := ⟨_, rfl⟩
  rw [hrn] at hvr hrc hrd
  subst hvr
  have facts : ∀ {X : World} {La Lb : LS} {vv : Value} {nn : Nat} {xx : List Value}, Sep w0 X (cell xb 43 #[.int .u8 (d : Int), .bool false, .int .i64 a, .slice A m c] :: cell gp 49 (PV.cs ⟨g0, g1, vw0, vw1, .slice RA rn rc, vr1, .slice VA n vc, t⟩) :: LinkAt g0 La :: LinkAt g1 Lb :: BRow vw0 (p.wr false) :: BRow vw1 (p.wr true) :: row 5 1 vv nn xx :: BRow vr1 (p.rd true) :: PkX (.slice VA n vc) (p.ws.map (·.2)) :: IRow t p.ws :: M) → X.cell? ⟨gp, 4, none⟩ = some (.slice RA rn rc) ∧ X.cell? ⟨gp, 0, none⟩ = some (.pointer (some ⟨g0, 0, none⟩)) ∧ X.cell? ⟨xb, 2, none⟩ = some (.int .i64 a) :=
    fun h => ⟨(h.blk 1 rfl).at_ 4 rfl, (h.blk 1 rfl).at_ 0 rfl, (h.blk 0 rfl).at_ 2 rfl⟩
  have hp300 := pickI_lt a 300 (by omega)
  have i1 : IntKind.i64.wrap (1 + pickI a 300) = 1 + pickI a 300 := IntWalk.i64_in _ (by omega)
  go_upto_region 4 with (fail)
  refine plain_under (fun w => w.cell? ⟨gp, 4, none⟩ = some (.slice RA rn rc) ∧ w.cell? ⟨gp, 0, none⟩ = some (.pointer (some ⟨g0, 0, none⟩)) ∧ w.cell? ⟨xb, 2, none⟩ = some (.int .i64 a)) (fun j => decide (j < 23)) (by kernel_rfl) ?_
  have hSS : w3.drew.cell? ⟨gp, 4, none⟩ = some (.slice RA rn rc) ∧ w3.drew.cell? ⟨gp, 0, none⟩ = some (.pointer (some ⟨g0, 0, none⟩)) ∧ w3.drew.cell? ⟨xb, 2, none⟩ = some (.int .i64 a) := facts S2.drew
  have S3 := S2.drew
  clear S2
  generalize w3.drew = w4 at hSS S3 ⊢
  simp only [List.size_toArray, List.length_cons, List.length_nil, Nat.reduceAdd, Array.replicate_succ, Array.replicate_zero, List.push_toArray, List.nil_append, List.cons_append]
  refine under_free (i := 0) (v := ?_) rfl (by kernel_rfl) (fun _ _ _ h => h) _ _ _ _ (by kernel_rfl) (by kernel_rfl) (Or.inl ⟨by rfl, ?_⟩) ?_
  rotate_left
  · intro w _
    go_simp
    try with_reducible rfl
  simp only [Act.put, List.setIfInBounds_toArray, List.set_cons_zero, List.set_cons_succ, List.getElem_toArray, List.getElem_cons_zero]
  refine under_free (i := 1) (v := ?_) rfl (by kernel_rfl) (fun _ _ _ h => h) _ _ _ _ (by kernel_rfl) (by kernel_rfl) (Or.inl ⟨by rfl, ?_⟩) ?_
  rotate_left
  · intro w _
    go_simp
    try with_reducible rfl
  simp only [Act.put, List.setIfInBounds_toArray, List.set_cons_zero, List.set_cons_succ, List.getElem_toArray, List.getElem_cons_zero, List.getElem_cons_succ]
  refine under_free (i := 2) (v := ?_) rfl (by kernel_rfl) (fun _ _ _ h => h) _ _ _ _ (by kernel_rfl) (by kernel_rfl) (Or.inl ⟨by rfl, ?_⟩) ?_
  rotate_left
  · intro w _
    go_simp
    try with_reducible rfl
  simp only [Act.put, List.setIfInBounds_toArray, List.set_cons_zero, List.set_cons_succ, List.getElem_toArray, List.getElem_cons_zero, List.getElem_cons_succ]
  refine under_free (i := 3) (v := ?_) rfl (by kernel_rfl) (fun _ _ _ h => h) _ _ _ _ (by kernel_rfl) (by kernel_rfl) (Or.inl ⟨by rfl, ?_⟩) ?_
  rotate_left
  · intro w _
    go_simp
    try with_reducible rfl
  simp only [Act.put, List.setIfInBounds_toArray, List.set_cons_zero, List.set_cons_succ, List.getElem_toArray, List.getElem_cons_zero, List.getElem_cons_succ]
  refine under_free (i := 4) (v := ?_) rfl (by kernel_rfl) (fun _ _ _ h => h) _ _ _ _ (by kernel_rfl) (by kernel_rfl) (Or.inl ⟨by rfl, ?_⟩) ?_
  rotate_left
  · intro w _
    go_simp
    try with_reducible rfl
  simp only [Act.put, List.setIfInBounds_toArray, List.set_cons_zero, List.set_cons_succ, List.getElem_toArray, List.getElem_cons_zero, List.getElem_cons_succ]
  refine under_free (i := 5) (v := ?_) rfl (by kernel_rfl) (fun _ _ _ h => h) _ _ _ _ (by kernel_rfl) (by kernel_rfl) (Or.inl ⟨by rfl, ?_⟩) ?_
  rotate_left
  · intro w _
    go_simp
    try with_reducible rfl
  simp only [Act.put, List.setIfInBounds_toArray, List.set_cons_zero, List.set_cons_succ, List.getElem_toArray, List.getElem_cons_zero, List.getElem_cons_succ]
  refine under_free (i := 6) (v := ?_) rfl (by kernel_rfl) (fun _ _ _ h => h) _ _ _ _ (by kernel_rfl) (by kernel_rfl) (Or.inl ⟨by rfl, ?_⟩) ?_
  rotate_left
  · intro w _
    go_simp
    try with_reducible rfl
  simp only [Act.put, List.setIfInBounds_toArray, List.set_cons_zero, List.set_cons_succ, List.getElem_toArray, List.getElem_cons_zero, List.getElem_cons_succ]
  refine under_take (i := 7) (v := ?_) rfl (by kernel_rfl) (by kernel_rfl) (fun _ _ _ h => h) _ _ _ _ (by kernel_rfl) (by kernel_rfl) (by kernel_rfl) (Or.inl ⟨by rfl, ?_⟩) hSS ?_
  rotate_left
  · intro w hSw
    obtain ⟨q0, q1, q2⟩ := hSw
    go_simp
    try with_reducible rfl
  simp only [Act.put, List.setIfInBounds_toArray, List.set_cons_zero, List.set_cons_succ, List.getElem_toArray, List.getElem_cons_zero, List.getElem_cons_succ]
  refine under_free (i := 8) (v := ?_) rfl (by kernel_rfl) (fun _ _ _ h => h) _ _ _ _ (by kernel_rfl) (by kernel_rfl) (Or.inl ⟨by rfl, ?_⟩) ?_
  rotate_left
  · intro w _
    go_simp
    try with_reducible rfl
  simp only [Act.put, List.setIfInBounds_toArray, List.set_cons_zero, List.set_cons_succ, List.getElem_toArray, List.getElem_cons_zero, List.getElem_cons_succ]
  refine under_free (i := 9) (v := ?_) rfl (by kernel_rfl) (fun _ _ _ h => h) _ _ _ _ (by kernel_rfl) (by kernel_rfl) (Or.inl ⟨by rfl, ?_⟩) ?_
  rotate_left
  · intro w _
    go_simp
    try with_reducible rfl
  simp only [Act.put, List.setIfInBounds_toArray, List.set_cons_zero, List.set_cons_succ, List.getElem_toArray, List.getElem_cons_zero, List.getElem_cons_succ]
  refine under_free (i := 10) (v := ?_) rfl (by kernel_rfl) (fun _ _ _ h => h) _ _ _ _ (by kernel_rfl) (by kernel_rfl) (Or.inl ⟨by rfl, ?_⟩) ?_
  rotate_left
  · intro w _
    go_simp
    try with_reducible rfl
  simp only [Act.put, List.setIfInBounds_toArray, List.set_cons_zero, List.set_cons_succ, List.getElem_toArray, List.getElem_cons_zero, List.getElem_cons_succ]
  refine under_free (i := 11) (v := ?_) rfl (by kernel_rfl) (fun _ _ _ h => h) _ _ _ _ (by kernel_rfl) (by kernel_rfl) (Or.inl ⟨by rfl, ?_⟩) ?_
  rotate_left
  · intro w _
    go_simp
    try with_reducible rfl
  simp only [Act.put, List.setIfInBounds_toArray, List.set_cons_zero, List.set_cons_succ, List.getElem_toArray, List.getElem_cons_zero, List.getElem_cons_succ]
  refine under_free (i := 12) (v := ?_) rfl (by kernel_rfl) (fun _ _ _ h => h) _ _ _ _ (by kernel_rfl) (by kernel_rfl) (Or.inl ⟨by rfl, ?_⟩) ?_
  rotate_left
  · intro w _
    go_simp
    try with_reducible rfl
  simp only [Act.put, List.setIfInBounds_toArray, List.set_cons_zero, List.set_cons_succ, List.getElem_toArray, List.getElem_cons_zero, List.getElem_cons_succ]
  refine under_take (i := 13) (v := ?_) rfl (by kernel_rfl) (by kernel_rfl) (fun _ _ _ h => h) _ _ _ _ (by kernel_rfl) (by kernel_rfl) (by kernel_rfl) (Or.inl ⟨by rfl, ?_⟩) hSS ?_
  rotate_left
  · intro w hSw
    obtain ⟨q0, q1, q2⟩ := hSw
    go_simp
    try with_reducible rfl
  simp only [Act.put, List.setIfInBounds_toArray, List.set_cons_zero, List.set_cons_succ, List.getElem_toArray, List.getElem_cons_zero, List.getElem_cons_succ]
  refine under_free (i := 14) (v := ?_) rfl (by kernel_rfl) (fun _ _ _ h => h) _ _ _ _ (by kernel_rfl) (by kernel_rfl) (Or.inl ⟨by rfl, ?_⟩) ?_
  rotate_left
  · intro w _
    go_simp
    try with_reducible rfl
  simp only [Act.put, List.setIfInBounds_toArray, List.set_cons_zero, List.set_cons_succ, List.getElem_toArray, List.getElem_cons_zero, List.getElem_cons_succ]
  refine under_take (i := 15) (v := ?_) rfl (by kernel_rfl) (by kernel_rfl) (fun _ _ _ h => h) _ _ _ _ (by kernel_rfl) (by kernel_rfl) (by kernel_rfl) (Or.inl ⟨by rfl, ?_⟩) hSS ?_
  rotate_left
  · intro w hSw
    obtain ⟨q0, q1, q2⟩ := hSw
    go_simp
    try with_reducible rfl
  simp only [Act.put, List.setIfInBounds_toArray, List.set_cons_zero, List.set_cons_succ, List.getElem_toArray, List.getElem_cons_zero, List.getElem_cons_succ]
  refine under_free (i := 20) (v := ?_) rfl (by kernel_rfl) (fun _ _ _ h => h) _ _ _ _ (by kernel_rfl) (by kernel_rfl) (Or.inl ⟨by rfl, ?_⟩) ?_
  rotate_left
  · intro w _
    go_simp
    try with_reducible rfl
  simp only [Act.put, List.setIfInBounds_toArray, List.set_cons_zero, List.set_cons_succ, List.getElem_toArray, List.getElem_cons_zero, List.getElem_cons_succ]
  refine under_free (i := 21) (v := ?_) rfl (by kernel_rfl) (fun _ _ _ h => h) _ _ _ _ (by kernel_rfl) (by kernel_rfl) (Or.inl ⟨by rfl, ?_⟩) ?_
  rotate_left
  · intro w _
    go_simp
    try with_reducible rfl
  simp only [Act.put, List.setIfInBounds_toArray, List.set_cons_zero, List.set_cons_succ, List.getElem_toArray, List.getElem_cons_zero, List.getElem_cons_succ]
  refine under_one (i := 16) (by kernel_rfl) rfl ?_
  intro K hK
  go_simp
  refine (pick_any a 300 (by omega) _).mono ?_
  rintro en w5 ⟨rfl, rfl⟩
  refine hK _ _ (fun _ => hSS) ?_
  clear hK K
  simp only [List.setIfInBounds_toArray, List.set_cons_zero, List.set_cons_succ]
  refine under_free (i := 17) (v := ?_) rfl (by kernel_rfl) (fun _ _ _ h => h) _ _ _ _ (by kernel_rfl) (by kernel_rfl) (Or.inl ⟨by rfl, ?_⟩) ?_
  rotate_left
  · intro w _
    go_simp
    try with_reducible rfl
  simp only [Act.put, List.setIfInBounds_toArray, List.set_cons_zero, List.set_cons_succ, List.getElem_toArray, List.getElem_cons_zero, List.getElem_cons_succ]
  refine under_one (i := 18) (by kernel_rfl) rfl ?_
  intro K hK
  go_simp
  refine (read_any (1 + pickI a 300) hg 2 rfl S3).mono ?_
  rintro en w6 ⟨v6, rfl, S4⟩
  replace S4 : Sep w0 w6 (BRow v6 (readB (p.l false) (1 + pickI a 300)) :: cell xb 43 #[.int .u8 (d : Int), .bool false, .int .i64 a, .slice A m c] :: cell gp 49 (PV.cs ⟨g0, g1, vw0, vw1, .slice RA rn rc, vr1, .slice VA n vc, t⟩) :: LinkAt g0 (readL (p.l false) (1 + pickI a 300)) :: LinkAt g1 (p.l true) :: BRow vw0 (p.wr false) :: BRow vw1 (p.wr true) :: BRow (.slice RA rn rc) (p.rd false) :: BRow vr1 (p.rd true) :: PkX (.slice VA n vc) (p.ws.map (·.2)) :: IRow t p.ws :: M) := S4
  replace hSS := facts S4.tail
  refine hK _ _ (fun _ => hSS) ?_
  clear hK K S3
  obtain ⟨A6, c6, hv6, -, -, hR6⟩ := S4.bform 0 rfl
  subst hv6
  simp only [List.setIfInBounds_toArray, List.set_cons_zero, List.set_cons_succ]
  refine under_one (i := 19) (by kernel_rfl) rfl ?_
  intro K hK
  obtain ⟨i5, hi5, hz0, hz1, hz2⟩ := info_parts info5
  have hbl : (readB (p.l false) (1 + pickI a 300)).length ≤ 1048576 := by unfold readB; rw [List.length_take]; omega
  refine step_append_any _ rfl (.tmp 31) (.tmp 42) 27 rfl 0 5 i5 _ 1 1 Try.underlying27 hi5 hz0 hz1 hz2 rfl (by omega) (.slice RA rn rc) rn ((p.rd false).map enB) rfl (by have h := S4.own 7 rfl; rwa [hrn] at h) _ A6 _ c6 _ rfl hR6.2 (enB_one _) (by unfold maxLen; omega) (by omega) (Nat.zero_le _) ?_
  intro v7 w7 hown hgr hat
  have hl2 : (p.rd false ++ readB (p.l false) (1 + pickI a 300)).length = rn + (readB (p.l false) (1 + pickI a 300)).length := by rw [List.length_append, hrn]
  have hown2 : w7.ownsRow 0 5 1 v7 (p.rd false ++ readB (p.l false) (1 + pickI a 300)).length ((p.rd false ++ readB (p.l false) (1 + pickI a 300)).map enB) := by rw [hl2, List.map_append]; exact hown
  have S5 := S4.pushed 7 rfl hown2 hgr hat
  replace hSS : w7.cell? ⟨gp, 4, none⟩ = some (.slice RA rn rc) ∧ w7.cell? ⟨gp, 0, none⟩ = some (.pointer (some ⟨g0, 0, none⟩)) ∧ w7.cell? ⟨xb, 2, none⟩ = some (.int .i64 a) := facts S5.tail
  refine hK _ _ (fun _ => hSS) ?_
  clear hK K hown hown2 hgr hat S4 hR6 facts
  obtain ⟨b7, d7, hv7, -, -⟩ := own_slice (S5.own 7 rfl)
  rw [hl2] at hv7
  subst hv7
  have z7 := (S5.blk 2 rfl).frozen 4
  have k7 := hSS.1
  simp only [Act.put, List.setIfInBounds_toArray, List.set_cons_zero, List.set_cons_succ, List.getElem_toArray, List.getElem_cons_zero, List.getElem_cons_succ]
  refine under_free (i := 22) (v := ?_) rfl (by kernel_rfl) (fun _ _ _ h => h) _ _ _ _ (by kernel_rfl) (by kernel_rfl) (Or.inl ⟨by rfl, ?_⟩) ?_
  rotate_left
  · intro w _
    go_simp
    try with_reducible rfl
  simp only [Act.put, List.setIfInBounds_toArray, List.set_cons_zero, List.set_cons_succ, List.getElem_toArray, List.getElem_cons_zero, List.getElem_cons_succ]
  refine under_one (i := 23) (by kernel_rfl) rfl ?_
  intro K hK
  go_simp
  have S6 := S5.put 2 rfl 4 (.slice b7 (rn + (readB (p.l false) (1 + pickI a 300)).length) d7)
  refine hK _ _ (fun h => by cases h) ?_
  clear hK K S5 z7 k7 hSS
  refine under_done (by kernel_rfl) ?_ _
  have HS := Lib.hid S6
  clear S6
  go_wp2_with fail
  go_ret
  refine ⟨rfl, ?_⟩
  exact Sep.closeP2 (p := readPS p false a) ⟨g0, g1, vw0, vw1, .slice b7 (rn + (readB (p.l false) (1 + pickI a 300)).length) d7, vr1, .slice VA n vc, t⟩ HS.out.tail.tail
set_option maxRecDepth 100000 in
set_option maxHeartbeats 1000000 in
theorem step5_true {gp : Nat} {p : PS} (d : Nat) (hd : d % 6 = 5) (a : Int) (A : Option Addr) (m c : Nat) (hlen : p.ws.length ≤ 1000000000) (hg : (p.l true).got.length ≤ 1048576) (hrd : (p.rd true).length ≤ 1000000000) (hS : Sep w0 w (PairAt gp p :: M)) :
    Calls Try.prog 22 #[.pointer (some ⟨gp, 0, none⟩), .agg #[.int .u8 (d : Int), .bool true, .int .i64 a, .slice A m c]] w fun en w' => en = .returned (.bool true) ∧ Sep w0 w' (PairAt gp (readPS p true a) :: M) := by
  have hdi : (d : Int) % 6 = 5 := by omega
  obtain ⟨xv, S⟩ := hS.openP2
  obtain ⟨g0, g1, vw0, vw1, vr0, vr1, y, t⟩ := xv
  obtain ⟨VA, vc, hv, hvc, -, -⟩ := S.pr 7 rfl
  obtain ⟨n, hn⟩ : ∃ n, p.ws.length = n := ⟨_, rfl⟩
  rw [List.length_map, hn] at hv hvc
  subst hv
  obtain ⟨W1, hW1, S1⟩ := S.boxedF 43 #[.int .u8 (d : Int), .bool true, .int .i64 a, .slice A m c]
  obtain ⟨xb, hxb⟩ : ∃ xb, w.heap.size = xb := ⟨_, rfl⟩
  rw [hxb] at S1
  have x0 : W1.cell? ⟨xb, 0, none⟩ = some (.int .u8 (d : Int)) := (S1.blk 0 rfl).at_ 0 rfl
  have x1 : W1.cell? ⟨xb, 1, none⟩ = some (.bool true) := (S1.blk 0 rfl).at_ 1 rfl
  have x2 : W1.cell? ⟨xb, 2, none⟩ = some (.int .i64 a) := (S1.blk 0 rfl).at_ 2 rfl
  have y6 : W1.cell? ⟨gp, 6, none⟩ = some (.slice VA n vc) := (S1.blk 1 rfl).at_ 6 rfl
  have hn63 : n ≤ 9223372036854775807 := by omega
  clear S hS
  go_enter Try.func22, Try.ntmps22
  go_wp2_with fail
  refine (side_any true _).mono ?_
  rintro en W2 ⟨rfl, rfl⟩
  go_upto_region 2 with (fail)
  refine plain_under (fun w => w.cell? ⟨xb, 2, none⟩ = some (.int .i64 a) ∧ w.cell? ⟨gp, 6, none⟩ = some (.slice VA n vc)) (fun _ => true) (by kernel_rfl) ?_
  have hSS : W2.drew.cell? ⟨xb, 2, none⟩ = some (.int .i64 a) ∧ W2.drew.cell? ⟨gp, 6, none⟩ = some (.slice VA n vc) := ⟨x2, y6⟩
  have S2 := S1.drew
  have x0' : W2.drew.cell? ⟨xb, 0, none⟩ = some (.int .u8 (d : Int)) := x0
  clear x0 x1 x2 y6 S1 hW1
  generalize W2.drew = W3 at hSS S2 x0' ⊢
  simp only [List.size_toArray, List.length_cons, List.length_nil, Nat.reduceAdd, Array.replicate_succ, Array.replicate_zero, List.push_toArray, List.nil_append, List.cons_append]
  refine under_free (i := 0) (v := ?_) rfl (by kernel_rfl) (fun _ _ _ h => h) _ _ _ _ (by kernel_rfl) (by kernel_rfl) (Or.inl ⟨by rfl, ?_⟩) ?_
  rotate_left
  · intro w _
    go_simp
    try with_reducible rfl
  simp only [Act.put, List.setIfInBounds_toArray, List.set_cons_zero, List.set_cons_succ, List.getElem_toArray, List.getElem_cons_zero]
  refine under_take (i := 1) (v := ?_) rfl (by kernel_rfl) (by kernel_rfl) (fun _ _ _ h => h) _ _ _ _ (by kernel_rfl) (by kernel_rfl) (by kernel_rfl) (Or.inl ⟨by rfl, ?_⟩) hSS ?_
  rotate_left
  · intro w hSw
    obtain ⟨q0, q1⟩ := hSw
    go_simp
    try with_reducible rfl
  simp only [Act.put, List.setIfInBounds_toArray, List.set_cons_zero, List.set_cons_succ, List.getElem_toArray, List.getElem_cons_zero, List.getElem_cons_succ]
  refine under_free (i := 2) (v := ?_) rfl (by kernel_rfl) (fun _ _ _ h => h) _ _ _ _ (by kernel_rfl) (by kernel_rfl) (Or.inl ⟨by rfl, ?_⟩) ?_
  rotate_left
  · intro w _
    go_simp
    try with_reducible rfl
  simp only [Act.put, List.setIfInBounds_toArray, List.set_cons_zero, List.set_cons_succ, List.getElem_toArray, List.getElem_cons_zero, List.getElem_cons_succ]
  refine under_free (i := 3) (v := ?_) rfl (by kernel_rfl) (fun _ _ _ h => h) _ _ _ _ (by kernel_rfl) (by kernel_rfl) (Or.inl ⟨by rfl, ?_⟩) ?_
  rotate_left
  · intro w _
    go_simp
    try with_reducible rfl
  simp only [Act.put, List.setIfInBounds_toArray, List.set_cons_zero, List.set_cons_succ, List.getElem_toArray, List.getElem_cons_zero, List.getElem_cons_succ]
  refine under_free (i := 4) (v := ?_) rfl (by kernel_rfl) (fun _ _ _ h => h) _ _ _ _ (by kernel_rfl) (by kernel_rfl) (Or.inl ⟨by rfl, ?_⟩) ?_
  rotate_left
  · intro w _
    go_simp
    try with_reducible rfl
  simp only [Act.put, List.setIfInBounds_toArray, List.set_cons_zero, List.set_cons_succ, List.getElem_toArray, List.getElem_cons_zero, List.getElem_cons_succ]
  refine under_take (i := 5) (v := ?_) rfl (by kernel_rfl) (by kernel_rfl) (fun _ _ _ h => h) _ _ _ _ (by kernel_rfl) (by kernel_rfl) (by kernel_rfl) (Or.inl ⟨by rfl, ?_⟩) hSS ?_
  rotate_left
  · intro w hSw
    obtain ⟨q0, q1⟩ := hSw
    go_simp
    try with_reducible rfl
  simp only [Act.put, List.setIfInBounds_toArray, List.set_cons_zero, List.set_cons_succ, List.getElem_toArray, List.getElem_cons_zero, List.getElem_cons_succ]
  refine under_free (i := 6) (v := ?_) rfl (by kernel_rfl) (fun _ _ _ h => h) _ _ _ _ (by kernel_rfl) (by kernel_rfl) (Or.inl ⟨by rfl, ?_⟩) ?_
  rotate_left
  · intro w _
    go_simp
    try with_reducible rfl
  simp only [Act.put, List.setIfInBounds_toArray, List.set_cons_zero, List.set_cons_succ, List.getElem_toArray, List.getElem_cons_zero, List.getElem_cons_succ]
  refine under_one (i := 7) (by kernel_rfl) rfl ?_
  intro K hK
  go_simp
  refine (pick_any a n hn63 _).mono ?_
  rintro en w3 ⟨rfl, rfl⟩
  refine hK _ _ (fun _ => hSS) ?_
  clear hK K
  simp only [List.setIfInBounds_toArray, List.set_cons_zero, List.set_cons_succ]
  refine under_free (i := 8) (v := ?_) rfl (by kernel_rfl) (fun _ _ _ h => h) _ _ _ _ (by kernel_rfl) (by kernel_rfl) (Or.inl ⟨by rfl, ?_⟩) ?_
  rotate_left
  · intro w _
    go_simp
    try with_reducible rfl
  simp only [Act.put, List.setIfInBounds_toArray, List.set_cons_zero, List.set_cons_succ, List.getElem_toArray, List.getElem_cons_zero, List.getElem_cons_succ]
  refine under_done (by kernel_rfl) ?_ _
  clear hSS
  go_upto_region 5 with (fail)
  simp only [hdi]
  clear x0' hdi
  obtain ⟨RA, rc, hvr, hrc, -⟩ := own_slice (S2.own 7 rfl)
  obtain ⟨rn, hrn⟩ : ∃ rn, (p.rd true).length = rn := ⟨_, rfl⟩
  rw [hrn] at hvr hrc hrd
  subst hvr
  have facts : ∀ {X : World} {La Lb : LS} {vv : Value} {nn : Nat} {xx : List Value}, Sep w0 X (cell xb 43 #[.int .u8 (d : Int), .bool true, .int .i64 a, .slice A m c] :: cell gp 49 (PV.cs ⟨g0, g1, vw0, vw1, vr0, .slice RA rn rc, .slice VA n vc, t⟩) :: LinkAt g0 La :: LinkAt g1 Lb :: BRow vw0 (p.wr false) :: BRow vw1 (p.wr true) :: BRow vr0 (p.rd false) :: row 5 1 vv nn xx :: PkX (.slice VA n vc) (p.ws.map (·.2)) :: IRow t p.ws :: M) → X.cell? ⟨gp, 5, none⟩ = some (.slice RA rn rc) ∧ X.cell? ⟨gp, 1, none⟩ = some (.pointer (some ⟨g1, 0, none⟩)) ∧ X.cell? ⟨xb, 2, none⟩ = some (.int .i64 a) :=
    fun h => ⟨(h.blk 1 rfl).at_ 5 rfl, (h.blk 1 rfl).at_ 1 rfl, (h.blk 0 rfl).at_ 2 rfl⟩
  have hp300 := pickI_lt a 300 (by omega)
  have i1 : IntKind.i64.wrap (1 + pickI a 300) = 1 + pickI a 300 := IntWalk.i64_in _ (by omega)
  go_upto_region 4 with (fail)
  refine plain_under (fun w => w.cell? ⟨gp, 5, none⟩ = some (.slice RA rn rc) ∧ w.cell? ⟨gp, 1, none⟩ = some (.pointer (some ⟨g1, 0, none⟩)) ∧ w.cell? ⟨xb, 2, none⟩ = some (.int .i64 a)) (fun j => decide (j < 23)) (by kernel_rfl) ?_
  have hSS : w3.drew.cell? ⟨gp, 5, none⟩ = some (.slice RA rn rc) ∧ w3.drew.cell? ⟨gp, 1, none⟩ = some (.pointer (some ⟨g1, 0, none⟩)) ∧ w3.drew.cell? ⟨xb, 2, none⟩ = some (.int .i64 a) := facts S2.drew
  have S3 := S2.drew
  clear S2
  generalize w3.drew = w4 at hSS S3 ⊢
  simp only [List.size_toArray, List.length_cons, List.length_nil, Nat.reduceAdd, Array.replicate_succ, Array.replicate_zero, List.push_toArray, List.nil_append, List.cons_append]
  refine under_free (i := 0) (v := ?_) rfl (by kernel_rfl) (fun _ _ _ h => h) _ _ _ _ (by kernel_rfl) (by kernel_rfl) (Or.inl ⟨by rfl, ?_⟩) ?_
  rotate_left
  · intro w _
    go_simp
    try with_reducible rfl
  simp only [Act.put, List.setIfInBounds_toArray, List.set_cons_zero, List.set_cons_succ, List.getElem_toArray, List.getElem_cons_zero]
  refine under_free (i := 1) (v := ?_) rfl (by kernel_rfl) (fun _ _ _ h => h) _ _ _ _ (by kernel_rfl) (by kernel_rfl) (Or.inl ⟨by rfl, ?_⟩) ?_
  rotate_left
  · intro w _
    go_simp
    try with_reducible rfl
  simp only [Act.put, List.setIfInBounds_toArray, List.set_cons_zero, List.set_cons_succ, List.getElem_toArray, List.getElem_cons_zero, List.getElem_cons_succ]
  refine under_free (i := 2) (v := ?_) rfl (by kernel_rfl) (fun _ _ _ h => h) _ _ _ _ (by kernel_rfl) (by kernel_rfl) (Or.inl ⟨by rfl, ?_⟩) ?_
  rotate_left
  · intro w _
    go_simp
    try with_reducible rfl
  simp only [Act.put, List.setIfInBounds_toArray, List.set_cons_zero, List.set_cons_succ, List.getElem_toArray, List.getElem_cons_zero, List.getElem_cons_succ]
  refine under_free (i := 3) (v := ?_) rfl (by kernel_rfl) (fun _ _ _ h => h) _ _ _ _ (by kernel_rfl) (by kernel_rfl) (Or.inl ⟨by rfl, ?_⟩) ?_
  rotate_left
  · intro w _
    go_simp
    try with_reducible rfl
  simp only [Act.put, List.setIfInBounds_toArray, List.set_cons_zero, List.set_cons_succ, List.getElem_toArray, List.getElem_cons_zero, List.getElem_cons_succ]
  refine under_free (i := 4) (v := ?_) rfl (by kernel_rfl) (fun _ _ _ h => h) _ _ _ _ (by kernel_rfl) (by kernel_rfl) (Or.inl ⟨by rfl, ?_⟩) ?_
  rotate_left
  · intro w _
    go_simp
    try with_reducible rfl
  simp only [Act.put, List.setIfInBounds_toArray, List.set_cons_zero, List.set_cons_succ, List.getElem_toArray, List.getElem_cons_zero, List.getElem_cons_succ]
  refine under_free (i := 5) (v := ?_) rfl (by kernel_rfl) (fun _ _ _ h => h) _ _ _ _ (by kernel_rfl) (by kernel_rfl) (Or.inl ⟨by rfl, ?_⟩) ?_
  rotate_left
  · intro w _
    go_simp
    try with_reducible rfl
  simp only [Act.put, List.setIfInBounds_toArray, List.set_cons_zero, List.set_cons_succ, List.getElem_toArray, List.getElem_cons_zero, List.getElem_cons_succ]
  refine under_free (i := 6) (v := ?_) rfl (by kernel_rfl) (fun _ _ _ h => h) _ _ _ _ (by kernel_rfl) (by kernel_rfl) (Or.inl ⟨by rfl, ?_⟩) ?_
  rotate_left
  · intro w _
    go_simp
    try with_reducible rfl
  simp only [Act.put, List.setIfInBounds_toArray, List.set_cons_zero, List.set_cons_succ, List.getElem_toArray, List.getElem_cons_zero, List.getElem_cons_succ]
  refine under_take (i := 7) (v := ?_) rfl (by kernel_rfl) (by kernel_rfl) (fun _ _ _ h => h) _ _ _ _ (by kernel_rfl) (by kernel_rfl) (by kernel_rfl) (Or.inl ⟨by rfl, ?_⟩) hSS ?_
  rotate_left
  · intro w hSw
    obtain ⟨q0, q1, q2⟩ := hSw
    go_simp
    try with_reducible rfl
  simp only [Act.put, List.setIfInBounds_toArray, List.set_cons_zero, List.set_cons_succ, List.getElem_toArray, List.getElem_cons_zero, List.getElem_cons_succ]
  refine under_free (i := 8) (v := ?_) rfl (by kernel_rfl) (fun _ _ _ h => h) _ _ _ _ (by kernel_rfl) (by kernel_rfl) (Or.inl ⟨by rfl, ?_⟩) ?_
  rotate_left
  · intro w _
    go_simp
    try with_reducible rfl
  simp only [Act.put, List.setIfInBounds_toArray, List.set_cons_zero, List.set_cons_succ, List.getElem_toArray, List.getElem_cons_zero, List.getElem_cons_succ]
  refine under_free (i := 9) (v := ?_) rfl (by kernel_rfl) (fun _ _ _ h => h) _ _ _ _ (by kernel_rfl) (by kernel_rfl) (Or.inl ⟨by rfl, ?_⟩) ?_
  rotate_left
  · intro w _
    go_simp
    try with_reducible rfl
  simp only [Act.put, List.setIfInBounds_toArray, List.set_cons_zero, List.set_cons_succ, List.getElem_toArray, List.getElem_cons_zero, List.getElem_cons_succ]
  refine under_free (i := 10) (v := ?_) rfl (by kernel_rfl) (fun _ _ _ h => h) _ _ _ _ (by kernel_rfl) (by kernel_rfl) (Or.inl ⟨by rfl, ?_⟩) ?_
  rotate_left
  · intro w _
    go_simp
    try with_reducible rfl
  simp only [Act.put, List.setIfInBounds_toArray, List.set_cons_zero, List.set_cons_succ, List.getElem_toArray, List.getElem_cons_zero, List.getElem_cons_succ]
  refine under_free (i := 11) (v := ?_) rfl (by kernel_rfl) (fun _ _ _ h => h) _ _ _ _ (by kernel_rfl) (by kernel_rfl) (Or.inl ⟨by rfl, ?_⟩) ?_
  rotate_left
  · intro w _
    go_simp
    try with_reducible rfl
  simp only [Act.put, List.setIfInBounds_toArray, List.set_cons_zero, List.set_cons_succ, List.getElem_toArray, List.getElem_cons_zero, List.getElem_cons_succ]
  refine under_free (i := 12) (v := ?_) rfl (by kernel_rfl) (fun _ _ _ h => h) _ _ _ _ (by kernel_rfl) (by kernel_rfl) (Or.inl ⟨by rfl, ?_⟩) ?_
  rotate_left
  · intro w _
    go_simp
    try with_reducible rfl
  simp only [Act.put, List.setIfInBounds_toArray, List.set_cons_zero, List.set_cons_succ, List.getElem_toArray, List.getElem_cons_zero, List.getElem_cons_succ]
  refine under_take (i := 13) (v := ?_) rfl (by kernel_rfl) (by kernel_rfl) (fun _ _ _ h => h) _ _ _ _ (by kernel_rfl) (by kernel_rfl) (by kernel_rfl) (Or.inl ⟨by rfl, ?_⟩) hSS ?_
  rotate_left
  · intro w hSw
    obtain ⟨q0, q1, q2⟩ := hSw
    go_simp
    try with_reducible rfl
  simp only [Act.put, List.setIfInBounds_toArray, List.set_cons_zero, List.set_cons_succ, List.getElem_toArray, List.getElem_cons_zero, List.getElem_cons_succ]
  refine under_free (i := 14) (v := ?_) rfl (by kernel_rfl) (fun _ _ _ h => h) _ _ _ _ (by kernel_rfl) (by kernel_rfl) (Or.inl ⟨by rfl, ?_⟩) ?_
  rotate_left
  · intro w _
    go_simp
    try with_reducible rfl
  simp only [Act.put, List.setIfInBounds_toArray, List.set_cons_zero, List.set_cons_succ, List.getElem_toArray, List.getElem_cons_zero, List.getElem_cons_succ]
  refine under_take (i := 15) (v := ?_) rfl (by kernel_rfl) (by kernel_rfl) (fun _ _ _ h => h) _ _ _ _ (by kernel_rfl) (by kernel_rfl) (by kernel_rfl) (Or.inl ⟨by rfl, ?_⟩) hSS ?_
  rotate_left
  · intro w hSw
    obtain ⟨q0, q1, q2⟩ := hSw
    go_simp
    try with_reducible rfl
  simp only [Act.put, List.setIfInBounds_toArray, List.set_cons_zero, List.set_cons_succ, List.getElem_toArray, List.getElem_cons_zero, List.getElem_cons_succ]
  refine under_free (i := 20) (v := ?_) rfl (by kernel_rfl) (fun _ _ _ h => h) _ _ _ _ (by kernel_rfl) (by kernel_rfl) (Or.inl ⟨by rfl, ?_⟩) ?_
  rotate_left
  · intro w _
    go_simp
    try with_reducible rfl
  simp only [Act.put, List.setIfInBounds_toArray, List.set_cons_zero, List.set_cons_succ, List.getElem_toArray, List.getElem_cons_zero, List.getElem_cons_succ]
  refine under_free (i := 21) (v := ?_) rfl (by kernel_rfl) (fun _ _ _ h => h) _ _ _ _ (by kernel_rfl) (by kernel_rfl) (Or.inl ⟨by rfl, ?_⟩) ?_
  rotate_left
  · intro w _
    go_simp
    try with_reducible rfl
  simp only [Act.put, List.setIfInBounds_toArray, List.set_cons_zero, List.set_cons_succ, List.getElem_toArray, List.getElem_cons_zero, List.getElem_cons_succ]
  refine under_one (i := 16) (by kernel_rfl) rfl ?_
  intro K hK
  go_simp
  refine (pick_any a 300 (by omega) _).mono ?_
  rintro en w5 ⟨rfl, rfl⟩
  refine hK _ _ (fun _ => hSS) ?_
  clear hK K
  simp only [List.setIfInBounds_toArray, List.set_cons_zero, List.set_cons_succ]
  refine under_free (i := 17) (v := ?_) rfl (by kernel_rfl) (fun _ _ _ h => h) _ _ _ _ (by kernel_rfl) (by kernel_rfl) (Or.inl ⟨by rfl, ?_⟩) ?_
  rotate_left
  · intro w _
    go_simp
    try with_reducible rfl
  simp only [Act.put, List.setIfInBounds_toArray, List.set_cons_zero, List.set_cons_succ, List.getElem_toArray, List.getElem_cons_zero, List.getElem_cons_succ]
  refine under_one (i := 18) (by kernel_rfl) rfl ?_
  intro K hK
  go_simp
  refine (read_any (1 + pickI a 300) hg 3 rfl S3).mono ?_
  rintro en w6 ⟨v6, rfl, S4⟩
  replace S4 : Sep w0 w6 (BRow v6 (readB (p.l true) (1 + pickI a 300)) :: cell xb 43 #[.int .u8 (d : Int), .bool true, .int .i64 a, .slice A m c] :: cell gp 49 (PV.cs ⟨g0, g1, vw0, vw1, vr0, .slice RA rn rc, .slice VA n vc, t⟩) :: LinkAt g0 (p.l false) :: LinkAt g1 (readL (p.l true) (1 + pickI a 300)) :: BRow vw0 (p.wr false) :: BRow vw1 (p.wr true) :: BRow vr0 (p.rd false) :: BRow (.slice RA rn rc) (p.rd true) :: PkX (.slice VA n vc) (p.ws.map (·.2)) :: IRow t p.ws :: M) := S4
  replace hSS := facts S4.tail
  refine hK _ _ (fun _ => hSS) ?_
  clear hK K S3
  obtain ⟨A6, c6, hv6, -, -, hR6⟩ := S4.bform 0 rfl
  subst hv6
  simp only [List.setIfInBounds_toArray, List.set_cons_zero, List.set_cons_succ]
  refine under_one (i := 19) (by kernel_rfl) rfl ?_
  intro K hK
  obtain ⟨i5, hi5, hz0, hz1, hz2⟩ := info_parts info5
  have hbl : (readB (p.l true) (1 + pickI a 300)).length ≤ 1048576 := by unfold readB; rw [List.length_take]; omega
  refine step_append_any _ rfl (.tmp 31) (.tmp 42) 27 rfl 0 5 i5 _ 1 1 Try.underlying27 hi5 hz0 hz1 hz2 rfl (by omega) (.slice RA rn rc) rn ((p.rd true).map enB) rfl (by have h := S4.own 8 rfl; rwa [hrn] at h) _ A6 _ c6 _ rfl hR6.2 (enB_one _) (by unfold maxLen; omega) (by omega) (Nat.zero_le _) ?_
  intro v7 w7 hown hgr hat
  have hl2 : (p.rd true ++ readB (p.l true) (1 + pickI a 300)).length = rn + (readB (p.l true) (1 + pickI a 300)).length := by rw [List.length_append, hrn]
  have hown2 : w7.ownsRow 0 5 1 v7 (p.rd true ++ readB (p.l true) (1 + pickI a 300)).length ((p.rd true ++ readB (p.l true) (1 + pickI a 300)).map enB) := by rw [hl2, List.map_append]; exact hown
  have S5 := S4.pushed 8 rfl hown2 hgr hat
  replace hSS : w7.cell? ⟨gp, 5, none⟩ = some (.slice RA rn rc) ∧ w7.cell? ⟨gp, 1, none⟩ = some (.pointer (some ⟨g1, 0, none⟩)) ∧ w7.cell? ⟨xb, 2, none⟩ = some (.int .i64 a) := facts S5.tail
  refine hK _ _ (fun _ => hSS) ?_
  clear hK K hown hown2 hgr hat S4 hR6 facts
  obtain ⟨b7, d7, hv7, -, -⟩ := own_slice (S5.own 8 rfl)
  rw [hl2] at hv7
  subst hv7
  have z7 := (S5.blk 2 rfl).frozen 5
  have k7 := hSS.1
  simp only [Act.put, List.setIfInBounds_toArray, List.set_cons_zero, List.set_cons_succ, List.getElem_toArray, List.getElem_cons_zero, List.getElem_cons_succ]
  refine under_free (i := 22) (v := ?_) rfl (by kernel_rfl) (fun _ _ _ h => h) _ _ _ _ (by kernel_rfl) (by kernel_rfl) (Or.inl ⟨by rfl, ?_⟩) ?_
  rotate_left
  · intro w _
    go_simp
    try with_reducible rfl
  simp only [Act.put, List.setIfInBounds_toArray, List.set_cons_zero, List.set_cons_succ, List.getElem_toArray, List.getElem_cons_zero, List.getElem_cons_succ]
  refine under_one (i := 23) (by kernel_rfl) rfl ?_
  intro K hK
  go_simp
  have S6 := S5.put 2 rfl 5 (.slice b7 (rn + (readB (p.l true) (1 + pickI a 300)).length) d7)
  refine hK _ _ (fun h => by cases h) ?_
  clear hK K S5 z7 k7 hSS
  refine under_done (by kernel_rfl) ?_ _
  have HS := Lib.hid S6
  clear S6
  go_wp2_with fail
  go_ret
  refine ⟨rfl, ?_⟩
  exact Sep.closeP2 (p := readPS p true a) ⟨g0, g1, vw0, vw1, vr0, .slice b7 (rn + (readB (p.l true) (1 + pickI a 300)).length) d7, .slice VA n vc, t⟩ HS.out.tail.tail
theorem step5_any {gp : Nat} {p : PS} (d : Nat) (hd : d % 6 = 5) (s : Bool) (a : Int) (A : Option Addr) (m c : Nat) (hlen : p.ws.length ≤ 1000000000) (hg : (p.l s).got.length ≤ 1048576) (hrd : (p.rd s).length ≤ 1000000000) (hS : Sep w0 w (PairAt gp p :: M)) :
    Calls Try.prog 22 #[.pointer (some ⟨gp, 0, none⟩), .agg #[.int .u8 (d : Int), .bool s, .int .i64 a, .slice A m c]] w fun en w' => en = .returned (.bool true) ∧ Sep w0 w' (PairAt gp (readPS p s a) :: M) := by
  cases s
  · exact step5_false d hd a A m c hlen hg hrd hS
  · exact step5_true d hd a A m c hlen hg hrd hS
end
end Go.Proofs.Ytpgiljjjpijepaa
