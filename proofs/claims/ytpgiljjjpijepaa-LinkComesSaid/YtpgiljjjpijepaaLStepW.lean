/- step: one of two links writes. -/
import Derived.Test.YtpgiljjjpijepaaLOut
namespace Go.Proofs.Ytpgiljjjpijepaa
open Go.RowKit
section
variable {w0 w w' : World} {L M : List Asn}
def writeP (p : PS) (s : Bool) (b : List Nat) : PS := if writeE (p.l s) b.length = 0 then { p with l := upd p.l s (writeS (p.l s) b), wr := upd p.wr s (p.wr s ++ b) } else p
set_option maxRecDepth 100000 in
set_option maxHeartbeats 1000000 in
theorem step0_false {gp : Nat} {p : PS} (d : Nat) (hd : d % 6 = 0) (a : Int) (b : List Nat) (A : Option Addr) (m c : Nat) (hlen : p.ws.length ≤ 1000000000) (hm : m ≤ 1000000) (hR : RB w0 A m b) (hww : (p.l false).wait.length ≤ 1048576) (hwr : (p.wr false).length ≤ 1000000000) (hS : Sep w0 w (PairAt gp p :: M)) :
    Calls Try.prog 22 #[.pointer (some ⟨gp, 0, none⟩), .agg #[.int .u8 (d : Int), .bool false, .int .i64 a, .slice A m c]] w fun en w' => en = .returned (.bool true) ∧ Sep w0 w' (PairAt gp (writeP p false b) :: M) := by
  have hdi : (d : Int) % 6 = 0 := by omega
  obtain ⟨xv, S⟩ := hS.openP2
  obtain ⟨g0, g1, vw0, vw1, vr0, vr1, y, t⟩ := xv
  obtain ⟨VA, vc, hv, hvc, -, -⟩ := S.pr 7 rfl
  obtain ⟨n, hn⟩ : ∃ n, p.ws.length = n := ⟨_, rfl⟩
  rw [List.length_map, hn] at hv hvc
  subst hv
  obtain ⟨W1, hW1, S1⟩ := S.boxedF 43 #[.int .u8 (d : Int), .bool false, .int .i64 a, .slice A m c]
  obtain ⟨xb, hxb⟩ : ∃ xb, w.heap.size = xb := ⟨_, rfl⟩
  rw [hxb] at S1
  have x0 : W1.cell? ⟨xb, 0, none⟩ = some (.int .u8 (d : Int)) := (S1.blk 0 rfl).at_ 0 rfl
  have x1 : W1.cell? ⟨xb, 1, none⟩ = some (.bool false) := (S1.blk 0 rfl).at_ 1 rfl
  have x2 : W1.cell? ⟨xb, 2, none⟩ = some (.int .i64 a) := (S1.blk 0 rfl).at_ 2 rfl
  have y6 : W1.cell? ⟨gp, 6, none⟩ = some (.slice VA n vc) := (S1.blk 1 rfl).at_ 6 rfl
  have hn63 : n ≤ 9223372036854775807 := by omega
  clear S hS
  go_enter Try.func22, Try.ntmps22
  go_wp2_with fail
  refine (side_any false _).mono ?_
  rintro en W2 ⟨rfl, rfl⟩
  go_upto_region 2 with (fail)
  refine plain_under (fun w => w.cell? ⟨xb, 2, none⟩ = some (.int .i64 a) ∧ w.cell? ⟨gp, 6, none⟩ = some (.slice VA n vc)) (fun _ => true) (by kernel_rfl) ?_
  have hSS : W2.drew.cell? ⟨xb, 2, none⟩ = some (.int .i64 a) ∧ W2.drew.cell? ⟨gp, 6, none⟩ = some (.slice VA n vc) := ⟨x2, y6⟩
  have S2 := S1.drew
  have x0' : W2.drew.cell? ⟨xb, 0, none⟩ = some (.int .u8 (d : Int)) := x0
  clear x0 x1 x2 y6 S1 hW1
  generalize W2.drew = W3 at hSS S2 x0' ⊢
  simp only [List.size_toArray, List.length_cons, List.length_nil, Nat.reduceAdd, Array.replicate_succ, Array.replicate_zero, List.push_toArray, List.nil_append, List.cons_append]
  refine under_free (i := 0) (v := ?_) rfl (by kernel_rfl) (fun _ _ _ h => h) _ _ _ _ (by kernel_rfl) (by kernel_rfl) (Or.inl ⟨by rfl, ?_⟩) ?_
  rotate_left
  · intro w _
    go_simp
    try with_reducible rfl
  simp only [Act.put, List.setIfInBounds_toArray, List.set_cons_zero, List.set_cons_succ, List.getElem_toArray, List.getElem_cons_zero]
  refine under_take (i := 1) (v := ?_) rfl (by kernel_rfl) (by kernel_rfl) (fun _ _ _ h => h) _ _ _ _ (by kernel_rfl) (by kernel_rfl) (by kernel_rfl) (Or.inl ⟨by rfl, ?_⟩) hSS ?_
  rotate_left
  · intro w hSw
    obtain ⟨q0, q1⟩ := hSw
    go_simp
    try with_reducible rfl
  simp only [Act.put, List.setIfInBounds_toArray, List.set_cons_zero, List.set_cons_succ, List.getElem_toArray, List.getElem_cons_zero, List.getElem_cons_succ]
  refine under_free (i := 2) (v := ?_) rfl (by kernel_rfl) (fun _ _ _ h => h) _ _ _ _ (by kernel_rfl) (by kernel_rfl) (Or.inl ⟨by rfl, ?_⟩) ?_
  rotate_left
  · intro w _
    go_simp
    try with_reducible rfl
  simp only [Act.put, List.setIfInBounds_toArray, List.set_cons_zero, List.set_cons_succ, List.getElem_toArray, List.getElem_cons_zero, List.getElem_cons_succ]
  refine under_free (i := 3) (v := ?_) rfl (by kernel_rfl) (fun _ _ _ h => h) _ _ _ _ (by kernel_rfl) (by kernel_rfl) (Or.inl ⟨by rfl, ?_⟩) ?_
  rotate_left
  · intro w _
    go_simp
    try with_reducible rfl
  simp only [Act.put, List.setIfInBounds_toArray, List.set_cons_zero, List.set_cons_succ, List.getElem_toArray, List.getElem_cons_zero, List.getElem_cons_succ]
  refine under_free (i := 4) (v := ?_) rfl (by kernel_rfl) (fun _ _ _ h => h) _ _ _ _ (by kernel_rfl) (by kernel_rfl) (Or.inl ⟨by rfl, ?_⟩) ?_
  rotate_left
  · intro w _
    go_simp
    try with_reducible rfl
  simp only [Act.put, List.setIfInBounds_toArray, List.set_cons_zero, List.set_cons_succ, List.getElem_toArray, List.getElem_cons_zero, List.getElem_cons_succ]
  refine under_take (i := 5) (v := ?_) rfl (by kernel_rfl) (by kernel_rfl) (fun _ _ _ h => h) _ _ _ _ (by kernel_rfl) (by kernel_rfl) (by kernel_rfl) (Or.inl ⟨by rfl, ?_⟩) hSS ?_
  rotate_left
  · intro w hSw
    obtain ⟨q0, q1⟩ := hSw
    go_simp
    try with_reducible rfl
  simp only [Act.put, List.setIfInBounds_toArray, List.set_cons_zero, List.set_cons_succ, List.getElem_toArray, List.getElem_cons_zero, List.getElem_cons_succ]
  refine under_free (i := 6) (v := ?_) rfl (by kernel_rfl) (fun _ _ _ h => h) _ _ _ _ (by kernel_rfl) (by kernel_rfl) (Or.inl ⟨by rfl, ?_⟩) ?_
  rotate_left
  · intro w _
    go_simp
    try with_reducible rfl
  simp only [Act.put, List.setIfInBounds_toArray, List.set_cons_zero, List.set_cons_succ, List.getElem_toArray, List.getElem_cons_zero, List.getElem_cons_succ]
  refine under_one (i := 7) (by kernel_rfl) rfl ?_
  intro K hK
  go_simp
  refine (pick_any a n hn63 _).mono ?_
  rintro en w3 ⟨rfl, rfl⟩
  refine hK _ _ (fun _ => hSS) ?_
  clear hK K
  simp only [List.setIfInBounds_toArray, List.set_cons_zero, List.set_cons_succ]
  refine under_free (i := 8) (v := ?_) rfl (by kernel_rfl) (fun _ _ _ h => h) _ _ _ _ (by kernel_rfl) (by kernel_rfl) (Or.inl ⟨by rfl, ?_⟩) ?_
  rotate_left
  · intro w _
    go_simp
    try with_reducible rfl
  simp only [Act.put, List.setIfInBounds_toArray, List.set_cons_zero, List.set_cons_succ, List.getElem_toArray, List.getElem_cons_zero, List.getElem_cons_succ]
  refine under_done (by kernel_rfl) ?_ _
  clear hSS
  go_upto_region 5 with (fail)
  simp only [hdi]
  clear x0' hdi
  have y0 : w3.cell? ⟨gp, 0, none⟩ = some (.pointer (some ⟨g0, 0, none⟩)) := (S2.blk 1 rfl).at_ 0 rfl
  have y1 : w3.cell? ⟨xb, 3, none⟩ = some (.slice A m c) := (S2.blk 0 rfl).at_ 3 rfl
  go_upto_region 6 with (fail)
  refine plain_under (fun w => w.cell? ⟨gp, 0, none⟩ = some (.pointer (some ⟨g0, 0, none⟩)) ∧ w.cell? ⟨xb, 3, none⟩ = some (.slice A m c)) (fun _ => true) (by kernel_rfl) ?_
  have hSS : w3.drew.cell? ⟨gp, 0, none⟩ = some (.pointer (some ⟨g0, 0, none⟩)) ∧ w3.drew.cell? ⟨xb, 3, none⟩ = some (.slice A m c) := ⟨y0, y1⟩
  have S3 := S2.drew
  clear y0 y1 S2
  generalize w3.drew = w4 at hSS S3 ⊢
  simp only [List.size_toArray, List.length_cons, List.length_nil, Nat.reduceAdd, Array.replicate_succ, Array.replicate_zero, List.push_toArray, List.nil_append, List.cons_append]
  refine under_free (i := 0) (v := ?_) rfl (by kernel_rfl) (fun _ _ _ h => h) _ _ _ _ (by kernel_rfl) (by kernel_rfl) (Or.inl ⟨by rfl, ?_⟩) ?_
  rotate_left
  · intro w _
    go_simp
    try with_reducible rfl
  simp only [Act.put, List.setIfInBounds_toArray, List.set_cons_zero, List.set_cons_succ, List.getElem_toArray, List.getElem_cons_zero]
  refine under_free (i := 1) (v := ?_) rfl (by kernel_rfl) (fun _ _ _ h => h) _ _ _ _ (by kernel_rfl) (by kernel_rfl) (Or.inl ⟨by rfl, ?_⟩) ?_
  rotate_left
  · intro w _
    go_simp
    try with_reducible rfl
  simp only [Act.put, List.setIfInBounds_toArray, List.set_cons_zero, List.set_cons_succ, List.getElem_toArray, List.getElem_cons_zero, List.getElem_cons_succ]
  refine under_free (i := 2) (v := ?_) rfl (by kernel_rfl) (fun _ _ _ h => h) _ _ _ _ (by kernel_rfl) (by kernel_rfl) (Or.inl ⟨by rfl, ?_⟩) ?_
  rotate_left
  · intro w _
    go_simp
    try with_reducible rfl
  simp only [Act.put, List.setIfInBounds_toArray, List.set_cons_zero, List.set_cons_succ, List.getElem_toArray, List.getElem_cons_zero, List.getElem_cons_succ]
  refine under_free (i := 3) (v := ?_) rfl (by kernel_rfl) (fun _ _ _ h => h) _ _ _ _ (by kernel_rfl) (by kernel_rfl) (Or.inl ⟨by rfl, ?_⟩) ?_
  rotate_left
  · intro w _
    go_simp
    try with_reducible rfl
  simp only [Act.put, List.setIfInBounds_toArray, List.set_cons_zero, List.set_cons_succ, List.getElem_toArray, List.getElem_cons_zero, List.getElem_cons_succ]
  refine under_free (i := 4) (v := ?_) rfl (by kernel_rfl) (fun _ _ _ h => h) _ _ _ _ (by kernel_rfl) (by kernel_rfl) (Or.inl ⟨by rfl, ?_⟩) ?_
  rotate_left
  · intro w _
    go_simp
    try with_reducible rfl
  simp only [Act.put, List.setIfInBounds_toArray, List.set_cons_zero, List.set_cons_succ, List.getElem_toArray, List.getElem_cons_zero, List.getElem_cons_succ]
  refine under_take (i := 5) (v := ?_) rfl (by kernel_rfl) (by kernel_rfl) (fun _ _ _ h => h) _ _ _ _ (by kernel_rfl) (by kernel_rfl) (by kernel_rfl) (Or.inl ⟨by rfl, ?_⟩) hSS ?_
  rotate_left
  · intro w hSw
    obtain ⟨q0, q1⟩ := hSw
    go_simp
    try with_reducible rfl
  simp only [Act.put, List.setIfInBounds_toArray, List.set_cons_zero, List.set_cons_succ, List.getElem_toArray, List.getElem_cons_zero, List.getElem_cons_succ]
  refine under_free (i := 6) (v := ?_) rfl (by kernel_rfl) (fun _ _ _ h => h) _ _ _ _ (by kernel_rfl) (by kernel_rfl) (Or.inl ⟨by rfl, ?_⟩) ?_
  rotate_left
  · intro w _
    go_simp
    try with_reducible rfl
  simp only [Act.put, List.setIfInBounds_toArray, List.set_cons_zero, List.set_cons_succ, List.getElem_toArray, List.getElem_cons_zero, List.getElem_cons_succ]
  refine under_take (i := 7) (v := ?_) rfl (by kernel_rfl) (by kernel_rfl) (fun _ _ _ h => h) _ _ _ _ (by kernel_rfl) (by kernel_rfl) (by kernel_rfl) (Or.inl ⟨by rfl, ?_⟩) hSS ?_
  rotate_left
  · intro w hSw
    obtain ⟨q0, q1⟩ := hSw
    go_simp
    try with_reducible rfl
  simp only [Act.put, List.setIfInBounds_toArray, List.set_cons_zero, List.set_cons_succ, List.getElem_toArray, List.getElem_cons_zero, List.getElem_cons_succ]
  refine under_one (i := 8) (by kernel_rfl) rfl ?_
  intro K hK
  go_simp
  refine (write_any b A m c (hR.below S3.below) hww 2 rfl S3).mono ?_
  rintro en w5 ⟨rfl, S4⟩
  replace S4 : Sep w0 w5 (cell xb 43 #[.int .u8 (d : Int), .bool false, .int .i64 a, .slice A m c] :: cell gp 49 (PV.cs ⟨g0, g1, vw0, vw1, vr0, vr1, .slice VA n vc, t⟩) :: LinkAt g0 (writeS (p.l false) b) :: LinkAt g1 (p.l true) :: BRow vw0 (p.wr false) :: BRow vw1 (p.wr true) :: BRow vr0 (p.rd false) :: BRow vr1 (p.rd true) :: PkX (.slice VA n vc) (p.ws.map (·.2)) :: IRow t p.ws :: M) := S4
  replace hSS : w5.cell? ⟨gp, 0, none⟩ = some (.pointer (some ⟨g0, 0, none⟩)) ∧ w5.cell? ⟨xb, 3, none⟩ = some (.slice A m c) := ⟨(S4.blk 1 rfl).at_ 0 rfl, (S4.blk 0 rfl).at_ 3 rfl⟩
  refine hK _ _ (fun _ => hSS) ?_
  clear hK K S3
  simp only [List.setIfInBounds_toArray, List.set_cons_zero, List.set_cons_succ]
  refine under_free (i := 9) (v := ?_) rfl (by kernel_rfl) (fun _ _ _ h => h) _ _ _ _ (by kernel_rfl) (by kernel_rfl) (Or.inl ⟨by rfl, ?_⟩) ?_
  rotate_left
  · intro w _
    go_simp
    try with_reducible rfl
  simp only [Act.put, List.setIfInBounds_toArray, List.set_cons_zero, List.set_cons_succ, List.getElem_toArray, List.getElem_cons_zero, List.getElem_cons_succ]
  refine under_done (by kernel_rfl) ?_ _
  clear hSS
  have hbm := hR.1
  by_cases hE : writeE (p.l false) m = 0
  · have hE1 : (writeE (p.l false) m == 0) = true := by rw [hE]; rfl
    have hfull : Hid (writeP p false b = { p with l := upd p.l false (writeS (p.l false) b), wr := upd p.wr false (p.wr false ++ b) }) := Lib.hid (by unfold writeP; rw [hbm, if_pos hE])
    have HE := Lib.hid hE
    clear hE
    obtain ⟨BA, bc, hvb, hbc, -⟩ := own_slice (S4.own 4 rfl)
    obtain ⟨bm, hbl⟩ : ∃ bm, (p.wr false).length = bm := ⟨_, rfl⟩
    rw [hbl] at hvb hbc hwr
    subst hvb
    have y0 : w5.cell? ⟨gp, 2, none⟩ = some (.slice BA bm bc) := (S4.blk 1 rfl).at_ 2 rfl
    have y1 : w5.cell? ⟨xb, 3, none⟩ = some (.slice A m c) := (S4.blk 0 rfl).at_ 3 rfl
    go_upto_region 7 with (fail)
    refine plain_under (fun w => w.cell? ⟨gp, 2, none⟩ = some (.slice BA bm bc) ∧ w.cell? ⟨xb, 3, none⟩ = some (.slice A m c)) (fun j => decide (j < 14)) (by kernel_rfl) ?_
    have hSS : w5.drew.cell? ⟨gp, 2, none⟩ = some (.slice BA bm bc) ∧ w5.drew.cell? ⟨xb, 3, none⟩ = some (.slice A m c) := ⟨y0, y1⟩
    have S5 := S4.drew
    clear y0 y1 S4
    generalize w5.drew = w6 at hSS S5 ⊢
    simp only [List.size_toArray, List.length_cons, List.length_nil, Nat.reduceAdd, Array.replicate_succ, Array.replicate_zero, List.push_toArray, List.nil_append, List.cons_append]
    refine under_free (i := 0) (v := ?_) rfl (by kernel_rfl) (fun _ _ _ h => h) _ _ _ _ (by kernel_rfl) (by kernel_rfl) (Or.inl ⟨by rfl, ?_⟩) ?_
    rotate_left
    · intro w _
      go_simp
      try with_reducible rfl
    simp only [Act.put, List.setIfInBounds_toArray, List.set_cons_zero, List.set_cons_succ, List.getElem_toArray, List.getElem_cons_zero]
    refine under_free (i := 1) (v := ?_) rfl (by kernel_rfl) (fun _ _ _ h => h) _ _ _ _ (by kernel_rfl) (by kernel_rfl) (Or.inl ⟨by rfl, ?_⟩) ?_
    rotate_left
    · intro w _
      go_simp
      try with_reducible rfl
    simp only [Act.put, List.setIfInBounds_toArray, List.set_cons_zero, List.set_cons_succ, List.getElem_toArray, List.getElem_cons_zero, List.getElem_cons_succ]
    refine under_free (i := 2) (v := ?_) rfl (by kernel_rfl) (fun _ _ _ h => h) _ _ _ _ (by kernel_rfl) (by kernel_rfl) (Or.inl ⟨by rfl, ?_⟩) ?_
    rotate_left
    · intro w _
      go_simp
      try with_reducible rfl
    simp only [Act.put, List.setIfInBounds_toArray, List.set_cons_zero, List.set_cons_succ, List.getElem_toArray, List.getElem_cons_zero, List.getElem_cons_succ]
    refine under_free (i := 3) (v := ?_) rfl (by kernel_rfl) (fun _ _ _ h => h) _ _ _ _ (by kernel_rfl) (by kernel_rfl) (Or.inl ⟨by rfl, ?_⟩) ?_
    rotate_left
    · intro w _
      go_simp
      try with_reducible rfl
    simp only [Act.put, List.setIfInBounds_toArray, List.set_cons_zero, List.set_cons_succ, List.getElem_toArray, List.getElem_cons_zero, List.getElem_cons_succ]
    refine under_free (i := 4) (v := ?_) rfl (by kernel_rfl) (fun _ _ _ h => h) _ _ _ _ (by kernel_rfl) (by kernel_rfl) (Or.inl ⟨by rfl, ?_⟩) ?_
    rotate_left
    · intro w _
      go_simp
      try with_reducible rfl
    simp only [Act.put, List.setIfInBounds_toArray, List.set_cons_zero, List.set_cons_succ, List.getElem_toArray, List.getElem_cons_zero, List.getElem_cons_succ]
    refine under_free (i := 5) (v := ?_) rfl (by kernel_rfl) (fun _ _ _ h => h) _ _ _ _ (by kernel_rfl) (by kernel_rfl) (Or.inl ⟨by rfl, ?_⟩) ?_
    rotate_left
    · intro w _
      go_simp
      try with_reducible rfl
    simp only [Act.put, List.setIfInBounds_toArray, List.set_cons_zero, List.set_cons_succ, List.getElem_toArray, List.getElem_cons_zero, List.getElem_cons_succ]
    refine under_free (i := 6) (v := ?_) rfl (by kernel_rfl) (fun _ _ _ h => h) _ _ _ _ (by kernel_rfl) (by kernel_rfl) (Or.inl ⟨by rfl, ?_⟩) ?_
    rotate_left
    · intro w _
      go_simp
      try with_reducible rfl
    simp only [Act.put, List.setIfInBounds_toArray, List.set_cons_zero, List.set_cons_succ, List.getElem_toArray, List.getElem_cons_zero, List.getElem_cons_succ]
    refine under_take (i := 7) (v := ?_) rfl (by kernel_rfl) (by kernel_rfl) (fun _ _ _ h => h) _ _ _ _ (by kernel_rfl) (by kernel_rfl) (by kernel_rfl) (Or.inl ⟨by rfl, ?_⟩) hSS ?_
    rotate_left
    · intro w hSw
      obtain ⟨q0, q1⟩ := hSw
      go_simp
      try with_reducible rfl
    simp only [Act.put, List.setIfInBounds_toArray, List.set_cons_zero, List.set_cons_succ, List.getElem_toArray, List.getElem_cons_zero, List.getElem_cons_succ]
    refine under_free (i := 8) (v := ?_) rfl (by kernel_rfl) (fun _ _ _ h => h) _ _ _ _ (by kernel_rfl) (by kernel_rfl) (Or.inl ⟨by rfl, ?_⟩) ?_
    rotate_left
    · intro w _
      go_simp
      try with_reducible rfl
    simp only [Act.put, List.setIfInBounds_toArray, List.set_cons_zero, List.set_cons_succ, List.getElem_toArray, List.getElem_cons_zero, List.getElem_cons_succ]
    refine under_take (i := 9) (v := ?_) rfl (by kernel_rfl) (by kernel_rfl) (fun _ _ _ h => h) _ _ _ _ (by kernel_rfl) (by kernel_rfl) (by kernel_rfl) (Or.inl ⟨by rfl, ?_⟩) hSS ?_
    rotate_left
    · intro w hSw
      obtain ⟨q0, q1⟩ := hSw
      go_simp
      try with_reducible rfl
    simp only [Act.put, List.setIfInBounds_toArray, List.set_cons_zero, List.set_cons_succ, List.getElem_toArray, List.getElem_cons_zero, List.getElem_cons_succ]
    refine under_free (i := 11) (v := ?_) rfl (by kernel_rfl) (fun _ _ _ h => h) _ _ _ _ (by kernel_rfl) (by kernel_rfl) (Or.inl ⟨by rfl, ?_⟩) ?_
    rotate_left
    · intro w _
      go_simp
      try with_reducible rfl
    simp only [Act.put, List.setIfInBounds_toArray, List.set_cons_zero, List.set_cons_succ, List.getElem_toArray, List.getElem_cons_zero, List.getElem_cons_succ]
    refine under_free (i := 12) (v := ?_) rfl (by kernel_rfl) (fun _ _ _ h => h) _ _ _ _ (by kernel_rfl) (by kernel_rfl) (Or.inl ⟨by rfl, ?_⟩) ?_
    rotate_left
    · intro w _
      go_simp
      try with_reducible rfl
    simp only [Act.put, List.setIfInBounds_toArray, List.set_cons_zero, List.set_cons_succ, List.getElem_toArray, List.getElem_cons_zero, List.getElem_cons_succ]
    refine under_one (i := 10) (by kernel_rfl) rfl ?_
    intro K hK
    obtain ⟨i5, hi5, hz0, hz1, hz2⟩ := info_parts info5
    have hr := (hR.below S5.below).2
    refine step_append_any _ rfl (.tmp 66) (.tmp 68) 27 rfl 0 5 i5 _ 1 1 Try.underlying27 hi5 hz0 hz1 hz2 rfl (by omega) (.slice BA bm bc) bm ((p.wr false).map enB) rfl (by have h := S5.own 4 rfl; rwa [hbl] at h) _ A m c _ rfl hr (enB_one _) (by unfold maxLen; omega) (by omega) (Nat.zero_le _) ?_
    intro v7 w7 hown hg hat
    have hl2 : (p.wr false ++ b).length = bm + m := by rw [List.length_append, hbl, hbm]
    have hown2 : w7.ownsRow 0 5 1 v7 (p.wr false ++ b).length ((p.wr false ++ b).map enB) := by rw [hl2, List.map_append]; exact hown
    have S6 := S5.pushed 4 rfl hown2 hg hat
    replace hSS : w7.cell? ⟨gp, 2, none⟩ = some (.slice BA bm bc) ∧ w7.cell? ⟨xb, 3, none⟩ = some (.slice A m c) := ⟨(S6.blk 1 rfl).at_ 2 rfl, (S6.blk 0 rfl).at_ 3 rfl⟩
    refine hK _ _ (fun _ => hSS) ?_
    clear hK K hown hown2 hg hat hr S5
    obtain ⟨b7, d7, hv7, -, -⟩ := own_slice (S6.own 4 rfl)
    rw [hl2] at hv7
    subst hv7
    have z7 := (S6.blk 1 rfl).frozen 2
    have k7 := hSS.1
    simp only [Act.put, List.setIfInBounds_toArray, List.set_cons_zero, List.set_cons_succ, List.getElem_toArray, List.getElem_cons_zero, List.getElem_cons_succ]
    refine under_free (i := 13) (v := ?_) rfl (by kernel_rfl) (fun _ _ _ h => h) _ _ _ _ (by kernel_rfl) (by kernel_rfl) (Or.inl ⟨by rfl, ?_⟩) ?_
    rotate_left
    · intro w _
      go_simp
      try with_reducible rfl
    simp only [Act.put, List.setIfInBounds_toArray, List.set_cons_zero, List.set_cons_succ, List.getElem_toArray, List.getElem_cons_zero, List.getElem_cons_succ]
    refine under_one (i := 14) (by kernel_rfl) rfl ?_
    intro K hK
    go_simp
    have S7 := S6.put 1 rfl 2 (.slice b7 (bm + m) d7)
    refine hK _ _ (fun h => by cases h) ?_
    clear hK K S6 z7 k7 hSS
    refine under_done (by kernel_rfl) ?_ _
    go_wp2_with fail
    go_ret
    refine ⟨rfl, ?_⟩
    rw [hfull.out]
    exact Sep.closeP2 ⟨g0, g1, .slice b7 (bm + m) d7, vw1, vr0, vr1, .slice VA n vc, t⟩ S7.tail
  · have hE1 : (writeE (p.l false) m == 0) = false := by simpa using hE
    have hfull : Hid (writeP p false b = p) := Lib.hid (by unfold writeP; rw [hbm, if_neg hE])
    have hsame : writeS (p.l false) b = p.l false := by
      unfold writeE at hE
      unfold writeS
      rw [hbm]
      split
      · rfl
      · rw [if_neg (by assumption)] at hE; exact absurd rfl hE
    rw [hsame] at S4
    clear hE
    go_wp2_with fail
    go_ret
    refine ⟨rfl, ?_⟩
    rw [hfull.out]
    exact Sep.closeP2 ⟨g0, g1, vw0, vw1, vr0, vr1, .slice VA n vc, t⟩ S4.tail
set_option maxRecDepth 100000 in
set_option maxHeartbeats 1000000 in
theorem step0_true {gp : Nat} {p : PS} (d : Nat) (hd : d % 6 = 0) (a : Int) (b : List Nat) (A : Option Addr) (m c : Nat) (hlen : p.ws.length ≤ 1000000000) (hm : m ≤ 1000000) (hR : RB w0 A m b) (hww : (p.l true).wait.length ≤ 1048576) (hwr : (p.wr true).length ≤ 1000000000) (hS : Sep w0 w (PairAt gp p :: M)) :
    Calls Try.prog 22 #[.pointer (some ⟨gp, 0, none⟩), .agg #[.int .u8 (d : Int), .bool true, .int .i64 a, .slice A m c]] w fun en w' => en = .returned (.bool true) ∧ Sep w0 w' (PairAt gp (writeP p true b) :: M) := by
  have hdi : (d : Int) % 6 = 0 := by omega
  obtain ⟨xv, S⟩ := hS.openP2
  obtain ⟨g0, g1, vw0, vw1, vr0, vr1, y, t⟩ := xv
  obtain ⟨VA, vc, hv, hvc, -, -⟩ := S.pr 7 rfl
  obtain ⟨n, hn⟩ : ∃ n, p.ws.length = n := ⟨_, rfl⟩
  rw [List.length_map, hn] at hv hvc
  subst hv
  obtain ⟨W1, hW1, S1⟩ := S.boxedF 43 #[.int .u8 (d : Int), .bool true, .int .i64 a, .slice A m c]
  obtain ⟨xb, hxb⟩ : ∃ xb, w.heap.size = xb := ⟨_, rfl⟩
  rw [hxb] at S1
  have x0 : W1.cell? ⟨xb, 0, none⟩ = some (.int .u8 (d : Int)) := (S1.blk 0 rfl).at_ 0 rfl
  have x1 : W1.cell? ⟨xb, 1, none⟩ = some (.bool true) := (S1.blk 0 rfl).at_ 1 rfl
  have x2 : W1.cell? ⟨xb, 2, none⟩ = some (.int .i64 a) := (S1.blk 0 rfl).at_ 2 rfl
  have y6 : W1.cell? ⟨gp, 6, none⟩ = some (.slice VA n vc) := (S1.blk 1 rfl).at_ 6 rfl
  have hn63 : n ≤ 9223372036854775807 := by omega
  clear S hS
  go_enter Try.func22, Try.ntmps22
  go_wp2_with fail
  refine (side_any true _).mono ?_
  rintro en W2 ⟨rfl, rfl⟩
  go_upto_region 2 with (fail)
  refine plain_under (fun w => w.cell? ⟨xb, 2, none⟩ = some (.int .i64 a) ∧ w.cell? ⟨gp, 6, none⟩ = some (.slice VA n vc)) (fun _ => true) (by kernel_rfl) ?_
  have hSS : W2.drew.cell? ⟨xb, 2, none⟩ = some (.int .i64 a) ∧ W2.drew.cell? ⟨gp, 6, none⟩ = some (.slice VA n vc) := ⟨x2, y6⟩
  have S2 := S1.drew
  have x0' : W2.drew.cell? ⟨xb, 0, none⟩ = some (.int .u8 (d : Int)) := x0
  clear x0 x1 x2 y6 S1 hW1
  generalize W2.drew = W3 at hSS S2 x0' ⊢
  simp only [List.size_toArray, List.length_cons, List.length_nil, Nat.reduceAdd, Array.replicate_succ, Array.replicate_zero, List.push_toArray, List.nil_append, List.cons_append]
  refine under_free (i := 0) (v := ?_) rfl (by kernel_rfl) (fun _ _ _ h => h) _ _ _ _ (by kernel_rfl) (by kernel_rfl) (Or.inl ⟨by rfl, ?_⟩) ?_
  rotate_left
  · intro w _
    go_simp
    try with_reducible rfl
  simp only [Act.put, List.setIfInBounds_toArray, List.set_cons_zero, List.set_cons_succ, List.getElem_toArray, List.getElem_cons_zero]
  refine under_take (i := 1) (v := ?_) rfl (by kernel_rfl) (by kernel_rfl) (fun _ _ _ h => h) _ _ _ _ (by kernel_rfl) (by kernel_rfl) (by kernel_rfl) (Or.inl ⟨by rfl, ?_⟩) hSS ?_
  rotate_left
  · intro w hSw
    obtain ⟨q0, q1⟩ := hSw
    go_simp
    try with_reducible rfl
  simp only [Act.put, List.setIfInBounds_toArray, List.set_cons_zero, List.set_cons_succ, List.getElem_toArray, List.getElem_cons_zero, List.getElem_cons_succ]
  refine under_free (i := 2) (v := ?_) rfl (by kernel_rfl) (fun _ _ _ h => h) _ _ _ _ (by kernel_rfl) (by kernel_rfl) (Or.inl ⟨by rfl, ?_⟩) ?_
  rotate_left
  · intro w _
    go_simp
    try with_reducible rfl
  simp only [Act.put, List.setIfInBounds_toArray, List.set_cons_zero, List.set_cons_succ, List.getElem_toArray, List.getElem_cons_zero, List.getElem_cons_succ]
  refine under_free (i := 3) (v := ?_) rfl (by kernel_rfl) (fun _ _ _ h => h) _ _ _ _ (by kernel_rfl) (by kernel_rfl) (Or.inl ⟨by rfl, ?_⟩) ?_
  rotate_left
  · intro w _
    go_simp
    try with_reducible rfl
  simp only [Act.put, List.setIfInBounds_toArray, List.set_cons_zero, List.set_cons_succ, List.getElem_toArray, List.getElem_cons_zero, List.getElem_cons_succ]
  refine under_free (i := 4) (v := ?_) rfl (by kernel_rfl) (fun _ _ _ h => h) _ _ _ _ (by kernel_rfl) (by kernel_rfl) (Or.inl ⟨by rfl, ?_⟩) ?_
  rotate_left
  · intro w _
    go_simp
    try with_reducible rfl
  simp only [Act.put, List.setIfInBounds_toArray, List.set_cons_zero, List.set_cons_succ, List.getElem_toArray, List.getElem_cons_zero, List.getElem_cons_succ]
  refine under_take (i := 5) (v := ?_) rfl (by kernel_rfl) (by kernel_rfl) (fun _ _ _ h => h) _ _ _ _ (by kernel_rfl) (by kernel_rfl) (by kernel_rfl) (Or.inl ⟨by rfl, ?_⟩) hSS ?_
  rotate_left
  · intro w hSw
    obtain ⟨q0, q1⟩ := hSw
    go_simp
    try with_reducible rfl
  simp only [Act.put, List.setIfInBounds_toArray, List.set_cons_zero, List.set_cons_succ, List.getElem_toArray, List.getElem_cons_zero, List.getElem_cons_succ]
  refine under_free (i := 6) (v := ?_) rfl (by kernel_rfl) (fun _ _ _ h => h) _ _ _ _ (by kernel_rfl) (by kernel_rfl) (Or.inl ⟨by rfl, ?_⟩) ?_
  rotate_left
  · intro w _
    go_simp
    try with_reducible rfl
  simp only [Act.put, List.setIfInBounds_toArray, List.set_cons_zero, List.set_cons_succ, List.getElem_toArray, List.getElem_cons_zero, List.getElem_cons_succ]
  refine under_one (i := 7) (by kernel_rfl) rfl ?_
  intro K hK
  go_simp
  refine (pick_any a n hn63 _).mono ?_
  rintro en w3 ⟨rfl, rfl⟩
  refine hK _ _ (fun _ => hSS) ?_
  clear hK K
  simp only [List.setIfInBounds_toArray, List.set_cons_zero, List.set_cons_succ]
  refine under_free (i := 8) (v := ?_) rfl (by kernel_rfl) (fun _ _ _ h => h) _ _ _ _ (by kernel_rfl) (by kernel_rfl) (Or.inl ⟨by rfl, ?_⟩) ?_
  rotate_left
  · intro w _
    go_simp
    try with_reducible rfl
  simp only [Act.put, List.setIfInBounds_toArray, List.set_cons_zero, List.set_cons_succ, List.getElem_toArray, List.getElem_cons_zero, List.getElem_cons_succ]
  refine under_done (by kernel_rfl) ?_ _
  clear hSS
  go_upto_region 5 with (fail)
  simp only [hdi]
  clear x0' hdi
  have y0 : w3.cell? ⟨gp, 1, none⟩ = some (.pointer (some ⟨g1, 0, none⟩)) := (S2.blk 1 rfl).at_ 1 rfl
  have y1 : w3.cell? ⟨xb, 3, none⟩ = some (.slice A m c) := (S2.blk 0 rfl).at_ 3 rfl
  go_upto_region 6 with (fail)
  refine plain_under (fun w => w.cell? ⟨gp, 1, none⟩ = some (.pointer (some ⟨g1, 0, none⟩)) ∧ w.cell? ⟨xb, 3, none⟩ = some (.slice A m c)) (fun _ => true) (by kernel_rfl) ?_
  have hSS : w3.drew.cell? ⟨gp, 1, none⟩ = some (.pointer (some ⟨g1, 0, none⟩)) ∧ w3.drew.cell? ⟨xb, 3, none⟩ = some (.slice A m c) := ⟨y0, y1⟩
  have S3 := S2.drew
  clear y0 y1 S2
  generalize w3.drew = w4 at hSS S3 ⊢
  simp only [List.size_toArray, List.length_cons, List.length_nil, Nat.reduceAdd, Array.replicate_succ, Array.replicate_zero, List.push_toArray, List.nil_append, List.cons_append]
  refine under_free (i := 0) (v := ?_) rfl (by kernel_rfl) (fun _ _ _ h => h) _ _ _ _ (by kernel_rfl) (by kernel_rfl) (Or.inl ⟨by rfl, ?_⟩) ?_
  rotate_left
  · intro w _
    go_simp
    try with_reducible rfl
  simp only [Act.put, List.setIfInBounds_toArray, List.set_cons_zero, List.set_cons_succ, List.getElem_toArray, List.getElem_cons_zero]
  refine under_free (i := 1) (v := ?_) rfl (by kernel_rfl) (fun _ _ _ h => h) _ _ _ _ (by kernel_rfl) (by kernel_rfl) (Or.inl ⟨by rfl, ?_⟩) ?_
  rotate_left
  · intro w _
    go_simp
    try with_reducible rfl
  simp only [Act.put, List.setIfInBounds_toArray, List.set_cons_zero, List.set_cons_succ, List.getElem_toArray, List.getElem_cons_zero, List.getElem_cons_succ]
  refine under_free (i := 2) (v := ?_) rfl (by kernel_rfl) (fun _ _ _ h => h) _ _ _ _ (by kernel_rfl) (by kernel_rfl) (Or.inl ⟨by rfl, ?_⟩) ?_
  rotate_left
  · intro w _
    go_simp
    try with_reducible rfl
  simp only [Act.put, List.setIfInBounds_toArray, List.set_cons_zero, List.set_cons_succ, List.getElem_toArray, List.getElem_cons_zero, List.getElem_cons_succ]
  refine under_free (i := 3) (v := ?_) rfl (by kernel_rfl) (fun _ _ _ h => h) _ _ _ _ (by kernel_rfl) (by kernel_rfl) (Or.inl ⟨by rfl, ?_⟩) ?_
  rotate_left
  · intro w _
    go_simp
    try with_reducible rfl
  simp only [Act.put, List.setIfInBounds_toArray, List.set_cons_zero, List.set_cons_succ, List.getElem_toArray, List.getElem_cons_zero, List.getElem_cons_succ]
  refine under_free (i := 4) (v := ?_) rfl (by kernel_rfl) (fun _ _ _ h => h) _ _ _ _ (by kernel_rfl) (by kernel_rfl) (Or.inl ⟨by rfl, ?_⟩) ?_
  rotate_left
  · intro w _
    go_simp
    try with_reducible rfl
  simp only [Act.put, List.setIfInBounds_toArray, List.set_cons_zero, List.set_cons_succ, List.getElem_toArray, List.getElem_cons_zero, List.getElem_cons_succ]
  refine under_take (i := 5) (v := ?_) rfl (by kernel_rfl) (by kernel_rfl) (fun _ _ _ h => h) _ _ _ _ (by kernel_rfl) (by kernel_rfl) (by kernel_rfl) (Or.inl ⟨by rfl, ?_⟩) hSS ?_
  rotate_left
  · intro w hSw
    obtain ⟨q0, q1⟩ := hSw
    go_simp
    try with_reducible rfl
  simp only [Act.put, List.setIfInBounds_toArray, List.set_cons_zero, List.set_cons_succ, List.getElem_toArray, List.getElem_cons_zero, List.getElem_cons_succ]
  refine under_free (i := 6) (v := ?_) rfl (by kernel_rfl) (fun _ _ _ h => h) _ _ _ _ (by kernel_rfl) (by kernel_rfl) (Or.inl ⟨by rfl, ?_⟩) ?_
  rotate_left
  · intro w _
    go_simp
    try with_reducible rfl
  simp only [Act.put, List.setIfInBounds_toArray, List.set_cons_zero, List.set_cons_succ, List.getElem_toArray, List.getElem_cons_zero, List.getElem_cons_succ]
  refine under_take (i := 7) (v := ?_) rfl (by kernel_rfl) (by kernel_rfl) (fun _ _ _ h => h) _ _ _ _ (by kernel_rfl) (by kernel_rfl) (by kernel_rfl) (Or.inl ⟨by rfl, ?_⟩) hSS ?_
  rotate_left
  · intro w hSw
    obtain ⟨q0, q1⟩ := hSw
    go_simp
    try with_reducible rfl
  simp only [Act.put, List.setIfInBounds_toArray, List.set_cons_zero, List.set_cons_succ, List.getElem_toArray, List.getElem_cons_zero, List.getElem_cons_succ]
  refine under_one (i := 8) (by kernel_rfl) rfl ?_
  intro K hK
  go_simp
  refine (write_any b A m c (hR.below S3.below) hww 3 rfl S3).mono ?_
  rintro en w5 ⟨rfl, S4⟩
  replace S4 : Sep w0 w5 (cell xb 43 #[.int .u8 (d : Int), .bool true, .int .i64 a, .slice A m c] :: cell gp 49 (PV.cs ⟨g0, g1, vw0, vw1, vr0, vr1, .slice VA n vc, t⟩) :: LinkAt g0 (p.l false) :: LinkAt g1 (writeS (p.l true) b) :: BRow vw0 (p.wr false) :: BRow vw1 (p.wr true) :: BRow vr0 (p.rd false) :: BRow vr1 (p.rd true) :: PkX (.slice VA n vc) (p.ws.map (·.2)) :: IRow t p.ws :: M) := S4
  replace hSS : w5.cell? ⟨gp, 1, none⟩ = some (.pointer (some ⟨g1, 0, none⟩)) ∧ w5.cell? ⟨xb, 3, none⟩ = some (.slice A m c) := ⟨(S4.blk 1 rfl).at_ 1 rfl, (S4.blk 0 rfl).at_ 3 rfl⟩
  refine hK _ _ (fun _ => hSS) ?_
  clear hK K S3
  simp only [List.setIfInBounds_toArray, List.set_cons_zero, List.set_cons_succ]
  refine under_free (i := 9) (v := ?_) rfl (by kernel_rfl) (fun _ _ _ h => h) _ _ _ _ (by kernel_rfl) (by kernel_rfl) (Or.inl ⟨by rfl, ?_⟩) ?_
  rotate_left
  · intro w _
    go_simp
    try with_reducible rfl
  simp only [Act.put, List.setIfInBounds_toArray, List.set_cons_zero, List.set_cons_succ, List.getElem_toArray, List.getElem_cons_zero, List.getElem_cons_succ]
  refine under_done (by kernel_rfl) ?_ _
  clear hSS
  have hbm := hR.1
  by_cases hE : writeE (p.l true) m = 0
  · have hE1 : (writeE (p.l true) m == 0) = true := by rw [hE]; rfl
    have hfull : Hid (writeP p true b = { p with l := upd p.l true (writeS (p.l true) b), wr := upd p.wr true (p.wr true ++ b) }) := Lib.hid (by unfold writeP; rw [hbm, if_pos hE])
    have HE := Lib.hid hE
    clear hE
    obtain ⟨BA, bc, hvb, hbc, -⟩ := own_slice (S4.own 5 rfl)
    obtain ⟨bm, hbl⟩ : ∃ bm, (p.wr true).length = bm := ⟨_, rfl⟩
    rw [hbl] at hvb hbc hwr
    subst hvb
    have y0 : w5.cell? ⟨gp, 3, none⟩ = some (.slice BA bm bc) := (S4.blk 1 rfl).at_ 3 rfl
    have y1 : w5.cell? ⟨xb, 3, none⟩ = some (.slice A m c) := (S4.blk 0 rfl).at_ 3 rfl
    go_upto_region 7 with (fail)
    refine plain_under (fun w => w.cell? ⟨gp, 3, none⟩ = some (.slice BA bm bc) ∧ w.cell? ⟨xb, 3, none⟩ = some (.slice A m c)) (fun j => decide (j < 14)) (by kernel_rfl) ?_
    have hSS : w5.drew.cell? ⟨gp, 3, none⟩ = some (.slice BA bm bc) ∧ w5.drew.cell? ⟨xb, 3, none⟩ = some (.slice A m c) := ⟨y0, y1⟩
    have S5 := S4.drew
    clear y0 y1 S4
    generalize w5.drew = w6 at hSS S5 ⊢
    simp only [List.size_toArray, List.length_cons, List.length_nil, Nat.reduceAdd, Array.replicate_succ, Array.replicate_zero, List.push_toArray, List.nil_append, List.cons_append]
    refine under_free (i := 0) (v := ?_) rfl (by kernel_rfl) (fun _ _ _ h => h) _ _ _ _ (by kernel_rfl) (by kernel_rfl) (Or.inl ⟨by rfl, ?_⟩) ?_
    rotate_left
    · intro w _
      go_simp
      try with_reducible rfl
    simp only [Act.put, List.setIfInBounds_toArray, List.set_cons_zero, List.set_cons_succ, List.getElem_toArray, List.getElem_cons_zero]
    refine under_free (i := 1) (v := ?_) rfl (by kernel_rfl) (fun _ _ _ h => h) _ _ _ _ (by kernel_rfl) (by kernel_rfl) (Or.inl ⟨by rfl, ?_⟩) ?_
    rotate_left
    · intro w _
      go_simp
      try with_reducible rfl
    simp only [Act.put, List.setIfInBounds_toArray, List.set_cons_zero, List.set_cons_succ, List.getElem_toArray, List.getElem_cons_zero, List.getElem_cons_succ]
    refine under_free (i := 2) (v := ?_) rfl (by kernel_rfl) (fun _ _ _ h => h) _ _ _ _ (by kernel_rfl) (by kernel_rfl) (Or.inl ⟨by rfl, ?_⟩) ?_
    rotate_left
    · intro w _
      go_simp
      try with_reducible rfl
    simp only [Act.put, List.setIfInBounds_toArray, List.set_cons_zero, List.set_cons_succ, List.getElem_toArray, List.getElem_cons_zero, List.getElem_cons_succ]
    refine under_free (i := 3) (v := ?_) rfl (by kernel_rfl) (fun _ _ _ h => h) _ _ _ _ (by kernel_rfl) (by kernel_rfl) (Or.inl ⟨by rfl, ?_⟩) ?_
    rotate_left
    · intro w _
      go_simp
      try with_reducible rfl
    simp only [Act.put, List.setIfInBounds_toArray, List.set_cons_zero, List.set_cons_succ, List.getElem_toArray, List.getElem_cons_zero, List.getElem_cons_succ]
    refine under_free (i := 4) (v := ?_) rfl (by kernel_rfl) (fun _ _ _ h => h) _ _ _ _ (by kernel_rfl) (by kernel_rfl) (Or.inl ⟨by rfl, ?_⟩) ?_
    rotate_left
    · intro w _
      go_simp
      try with_reducible rfl
    simp only [Act.put, List.setIfInBounds_toArray, List.set_cons_zero, List.set_cons_succ, List.getElem_toArray, List.getElem_cons_zero, List.getElem_cons_succ]
    refine under_free (i := 5) (v := ?_) rfl (by kernel_rfl) (fun _ _ _ h => h) _ _ _ _ (by kernel_rfl) (by kernel_rfl) (Or.inl ⟨by rfl, ?_⟩) ?_
    rotate_left
    · intro w _
      go_simp
      try with_reducible rfl
    simp only [Act.put, List.setIfInBounds_toArray, List.set_cons_zero, List.set_cons_succ, List.getElem_toArray, List.getElem_cons_zero, List.getElem_cons_succ]
    refine under_free (i := 6) (v := ?_) rfl (by kernel_rfl) (fun _ _ _ h => h) _ _ _ _ (by kernel_rfl) (by kernel_rfl) (Or.inl ⟨by rfl, ?_⟩) ?_
    rotate_left
    · intro w _
      go_simp
      try with_reducible rfl
    simp only [Act.put, List.setIfInBounds_toArray, List.set_cons_zero, List.set_cons_succ, List.getElem_toArray, List.getElem_cons_zero, List.getElem_cons_succ]
    refine under_take (i := 7) (v := ?_) rfl (by kernel_rfl) (by kernel_rfl) (fun _ _ _ h => h) _ _ _ _ (by kernel_rfl) (by kernel_rfl) (by kernel_rfl) (Or.inl ⟨by rfl, ?_⟩) hSS ?_
    rotate_left
    · intro w hSw
      obtain ⟨q0, q1⟩ := hSw
      go_simp
      try with_reducible rfl
    simp only [Act.put, List.setIfInBounds_toArray, List.set_cons_zero, List.set_cons_succ, List.getElem_toArray, List.getElem_cons_zero, List.getElem_cons_succ]
    refine under_free (i := 8) (v := ?_) rfl (by kernel_rfl) (fun _ _ _ h => h) _ _ _ _ (by kernel_rfl) (by kernel_rfl) (Or.inl ⟨by rfl, ?_⟩) ?_
    rotate_left
    · intro w _
      go_simp
      try with_reducible rfl
    simp only [Act.put, List.setIfInBounds_toArray, List.set_cons_zero, List.set_cons_succ, List.getElem_toArray, List.getElem_cons_zero, List.getElem_cons_succ]
    refine under_take (i := 9) (v := ?_) rfl (by kernel_rfl) (by kernel_rfl) (fun _ _ _ h => h) _ _ _ _ (by kernel_rfl) (by kernel_rfl) (by kernel_rfl) (Or.inl ⟨by rfl, ?_⟩) hSS ?_
    rotate_left
    · intro w hSw
      obtain ⟨q0, q1⟩ := hSw
      go_simp
      try with_reducible rfl
    simp only [Act.put, List.setIfInBounds_toArray, List.set_cons_zero, List.set_cons_succ, List.getElem_toArray, List.getElem_cons_zero, List.getElem_cons_succ]
    refine under_free (i := 11) (v := ?_) rfl (by kernel_rfl) (fun _ _ _ h => h) _ _ _ _ (by kernel_rfl) (by kernel_rfl) (Or.inl ⟨by rfl, ?_⟩) ?_
    rotate_left
    · intro w _
      go_simp
      try with_reducible rfl
    simp only [Act.put, List.setIfInBounds_toArray, List.set_cons_zero, List.set_cons_succ, List.getElem_toArray, List.getElem_cons_zero, List.getElem_cons_succ]
    refine under_free (i := 12) (v := ?_) rfl (by kernel_rfl) (fun _ _ _ h => h) _ _ _ _ (by kernel_rfl) (by kernel_rfl) (Or.inl ⟨by rfl, ?_⟩) ?_
    rotate_left
    · intro w _
      go_simp
      try with_reducible rfl
    simp only [Act.put, List.setIfInBounds_toArray, List.set_cons_zero, List.set_cons_succ, List.getElem_toArray, List.getElem_cons_zero, List.getElem_cons_succ]
    refine under_one (i := 10) (by kernel_rfl) rfl ?_
    intro K hK
    obtain ⟨i5, hi5, hz0, hz1, hz2⟩ := info_parts info5
    have hr := (hR.below S5.below).2
    refine step_append_any _ rfl (.tmp 66) (.tmp 68) 27 rfl 0 5 i5 _ 1 1 Try.underlying27 hi5 hz0 hz1 hz2 rfl (by omega) (.slice BA bm bc) bm ((p.wr true).map enB) rfl (by have h := S5.own 5 rfl; rwa [hbl] at h) _ A m c _ rfl hr (enB_one _) (by unfold maxLen; omega) (by omega) (Nat.zero_le _) ?_
    intro v7 w7 hown hg hat
    have hl2 : (p.wr true ++ b).length = bm + m := by rw [List.length_append, hbl, hbm]
    have hown2 : w7.ownsRow 0 5 1 v7 (p.wr true ++ b).length ((p.wr true ++ b).map enB) := by rw [hl2, List.map_append]; exact hown
    have S6 := S5.pushed 5 rfl hown2 hg hat
    replace hSS : w7.cell? ⟨gp, 3, none⟩ = some (.slice BA bm bc) ∧ w7.cell? ⟨xb, 3, none⟩ = some (.slice A m c) := ⟨(S6.blk 1 rfl).at_ 3 rfl, (S6.blk 0 rfl).at_ 3 rfl⟩
    refine hK _ _ (fun _ => hSS) ?_
    clear hK K hown hown2 hg hat hr S5
    obtain ⟨b7, d7, hv7, -, -⟩ := own_slice (S6.own 5 rfl)
    rw [hl2] at hv7
    subst hv7
    have z7 := (S6.blk 1 rfl).frozen 3
    have k7 := hSS.1
    simp only [Act.put, List.setIfInBounds_toArray, List.set_cons_zero, List.set_cons_succ, List.getElem_toArray, List.getElem_cons_zero, List.getElem_cons_succ]
    refine under_free (i := 13) (v := ?_) rfl (by kernel_rfl) (fun _ _ _ h => h) _ _ _ _ (by kernel_rfl) (by kernel_rfl) (Or.inl ⟨by rfl, ?_⟩) ?_
    rotate_left
    · intro w _
      go_simp
      try with_reducible rfl
    simp only [Act.put, List.setIfInBounds_toArray, List.set_cons_zero, List.set_cons_succ, List.getElem_toArray, List.getElem_cons_zero, List.getElem_cons_succ]
    refine under_one (i := 14) (by kernel_rfl) rfl ?_
    intro K hK
    go_simp
    have S7 := S6.put 1 rfl 3 (.slice b7 (bm + m) d7)
    refine hK _ _ (fun h => by cases h) ?_
    clear hK K S6 z7 k7 hSS
    refine under_done (by kernel_rfl) ?_ _
    go_wp2_with fail
    go_ret
    refine ⟨rfl, ?_⟩
    rw [hfull.out]
    exact Sep.closeP2 ⟨g0, g1, vw0, .slice b7 (bm + m) d7, vr0, vr1, .slice VA n vc, t⟩ S7.tail
  · have hE1 : (writeE (p.l true) m == 0) = false := by simpa using hE
    have hfull : Hid (writeP p true b = p) := Lib.hid (by unfold writeP; rw [hbm, if_neg hE])
    have hsame : writeS (p.l true) b = p.l true := by
      unfold writeE at hE
      unfold writeS
      rw [hbm]
      split
      · rfl
      · rw [if_neg (by assumption)] at hE; exact absurd rfl hE
    rw [hsame] at S4
    clear hE
    go_wp2_with fail
    go_ret
    refine ⟨rfl, ?_⟩
    rw [hfull.out]
    exact Sep.closeP2 ⟨g0, g1, vw0, vw1, vr0, vr1, .slice VA n vc, t⟩ S4.tail
theorem step0_any {gp : Nat} {p : PS} (d : Nat) (hd : d % 6 = 0) (s : Bool) (a : Int) (b : List Nat) (A : Option Addr) (m c : Nat) (hlen : p.ws.length ≤ 1000000000) (hm : m ≤ 1000000) (hR : RB w0 A m b) (hww : (p.l s).wait.length ≤ 1048576) (hwr : (p.wr s).length ≤ 1000000000) (hS : Sep w0 w (PairAt gp p :: M)) :
    Calls Try.prog 22 #[.pointer (some ⟨gp, 0, none⟩), .agg #[.int .u8 (d : Int), .bool s, .int .i64 a, .slice A m c]] w fun en w' => en = .returned (.bool true) ∧ Sep w0 w' (PairAt gp (writeP p s b) :: M) := by
  cases s
  · exact step0_false d hd a b A m c hlen hm hR hww hwr hS
  · exact step0_true d hd a b A m c hlen hm hR hww hwr hS
end
end Go.Proofs.Ytpgiljjjpijepaa
