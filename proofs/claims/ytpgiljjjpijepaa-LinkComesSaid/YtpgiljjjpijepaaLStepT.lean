/- step: one of two links ticks. -/
import Derived.Test.YtpgiljjjpijepaaLOut
namespace Go.Proofs.Ytpgiljjjpijepaa
open Go.RowKit
section
variable {w0 w w' : World} {L M : List Asn}
def tickPS (p : PS) (s : Bool) : PS := { p with l := upd p.l s (tickS (p.l s)), ws := p.ws ++ (tickP (p.l s)).map fun q => (!s, q) }
theorem tickP_len {s : LS} (hI : Inv s) : (tickP s).length ≤ 2000 := by
  have h := pieces_len 1024 (lateS s) (by have := hI.late.lo; omega)
  unfold tickP told
  split
  · split <;> simp
  · omega
theorem own_cells {e : TypeId} {size n c g : Nat} {xs : List Value} (h : w.ownsRow 0 e size (.slice (some ⟨g, 0, none⟩) n c) n xs) : ∀ j u, xs[j]? = some u → w.cell? ⟨g, j, none⟩ = some u := (ownsX.of_own h).cells rfl
theorem perm_float22 (a b : Asn) (U V R : List Asn) : (U ++ (V ++ (a :: b :: R))).Perm (a :: b :: (U ++ (V ++ R))) := by
  have h := (List.perm_append_comm (l₁ := U ++ V) (l₂ := [a, b])).append_right R
  simpa using h
theorem perm_float3 (a b c : Asn) (U R : List Asn) : (U ++ (a :: b :: c :: R)).Perm (a :: b :: c :: (U ++ R)) := by
  have h := (List.perm_append_comm (l₁ := U) (l₂ := [a, b, c])).append_right R
  simpa using h
set_option maxRecDepth 100000 in
set_option maxHeartbeats 1000000 in
theorem step1_false {gp : Nat} {p : PS} (d : Nat) (hd : d % 6 = 1) (a : Int) (A : Option Addr) (m c : Nat) (hlen : p.ws.length ≤ 1000000000) (hI : Inv (p.l false)) (ht : (p.l false).ticks ≤ 1000) (hS : Sep w0 w (PairAt gp p :: M)) :
    Calls Try.prog 22 #[.pointer (some ⟨gp, 0, none⟩), .agg #[.int .u8 (d : Int), .bool false, .int .i64 a, .slice A m c]] w fun en w' => en = .returned (.bool true) ∧ Sep w0 w' (PairAt gp (tickPS p false) :: M) := by
  have hdi : (d : Int) % 6 = 1 := by omega
  obtain ⟨xv, S⟩ := hS.openP2
  obtain ⟨g0, g1, vw0, vw1, vr0, vr1, y, t⟩ := xv
  obtain ⟨VA, vc, hv, hvc, -, -⟩ := S.pr 7 rfl
  obtain ⟨n, hn⟩ : ∃ n, p.ws.length = n := ⟨_, rfl⟩
  rw [List.length_map, hn] at hv hvc
  subst hv
  obtain ⟨W1, hW1, S1⟩ := S.boxedF 43 #[.int .u8 (d : Int), .bool false, .int .i64 a, .slice A m c]
  obtain ⟨xb, hxb⟩ : ∃ xb, w.heap.size = xb := ⟨_, rfl⟩
  rw [hxb] at S1
  have x0 : W1.cell? ⟨xb, 0, none⟩ = some (.int .u8 (d : Int)) := (S1.blk 0 rfl).at_ 0 rfl
  have x1 : W1.cell? ⟨xb, 1, none⟩ = some (.bool false) := (S1.blk 0 rfl).at_ 1 rfl
  have x2 : W1.cell? ⟨xb, 2, none⟩ = some (.int .i64 a) := (S1.blk 0 rfl).at_ 2 rfl
  have y6 : W1.cell? ⟨gp, 6, none⟩ = some (.slice VA n vc) := (S1.blk 1 rfl).at_ 6 rfl
  have hn63 : n ≤ 9223372036854775807 := by omega
  clear S hS
  go_enter Try.func22, Try.ntmps22
  go_wp2_with fail
  refine (side_any false _).mono ?_
  rintro en W2 ⟨rfl, rfl⟩
  go_upto_region 2 with (fail)
  refine plain_under (fun w => w.cell? ⟨xb, 2, none⟩ = some (.int .i64 a) ∧ w.cell? ⟨gp, 6, none⟩ = some (.slice VA n vc)) (fun _ => true) (by kernel_rfl) ?_
  have hSS : W2.drew.cell? ⟨xb, 2, none⟩ = some (.int .i64 a) ∧ W2.drew.cell? ⟨gp, 6, none⟩ = some (.slice VA n vc) := ⟨x2, y6⟩
  have S2 := S1.drew
  have x0' : W2.drew.cell? ⟨xb, 0, none⟩ = some (.int .u8 (d : Int)) := x0
  clear x0 x1 x2 y6 S1 hW1
  generalize W2.drew = W3 at hSS S2 x0' ⊢
  simp only [List.size_toArray, List.length_cons, List.length_nil, Nat.reduceAdd, Array.replicate_succ, Array.replicate_zero, List.push_toArray, List.nil_append, List.cons_append]
  refine under_free (i := 0) (v := ?_) rfl (by kernel_rfl) (fun _ _ _ h => h) _ _ _ _ (by kernel_rfl) (by kernel_rfl) (Or.inl ⟨by rfl, ?_⟩) ?_
  rotate_left
  · intro w _
    go_simp
    try with_reducible rfl
  simp only [Act.put, List.setIfInBounds_toArray, List.set_cons_zero, List.set_cons_succ, List.getElem_toArray, List.getElem_cons_zero]
  refine under_take (i := 1) (v := ?_) rfl (by kernel_rfl) (by kernel_rfl) (fun _ _ _ h => h) _ _ _ _ (by kernel_rfl) (by kernel_rfl) (by kernel_rfl) (Or.inl ⟨by rfl, ?_⟩) hSS ?_
  rotate_left
  · intro w hSw
    obtain ⟨q0, q1⟩ := hSw
    go_simp
    try with_reducible rfl
  simp only [Act.put, List.setIfInBounds_toArray, List.set_cons_zero, List.set_cons_succ, List.getElem_toArray, List.getElem_cons_zero, List.getElem_cons_succ]
  refine under_free (i := 2) (v := ?_) rfl (by kernel_rfl) (fun _ _ _ h => h) _ _ _ _ (by kernel_rfl) (by kernel_rfl) (Or.inl ⟨by rfl, ?_⟩) ?_
  rotate_left
  · intro w _
    go_simp
    try with_reducible rfl
  simp only [Act.put, List.setIfInBounds_toArray, List.set_cons_zero, List.set_cons_succ, List.getElem_toArray, List.getElem_cons_zero, List.getElem_cons_succ]
  refine under_free (i := 3) (v := ?_) rfl (by kernel_rfl) (fun _ _ _ h => h) _ _ _ _ (by kernel_rfl) (by kernel_rfl) (Or.inl ⟨by rfl, ?_⟩) ?_
  rotate_left
  · intro w _
    go_simp
    try with_reducible rfl
  simp only [Act.put, List.setIfInBounds_toArray, List.set_cons_zero, List.set_cons_succ, List.getElem_toArray, List.getElem_cons_zero, List.getElem_cons_succ]
  refine under_free (i := 4) (v := ?_) rfl (by kernel_rfl) (fun _ _ _ h => h) _ _ _ _ (by kernel_rfl) (by kernel_rfl) (Or.inl ⟨by rfl, ?_⟩) ?_
  rotate_left
  · intro w _
    go_simp
    try with_reducible rfl
  simp only [Act.put, List.setIfInBounds_toArray, List.set_cons_zero, List.set_cons_succ, List.getElem_toArray, List.getElem_cons_zero, List.getElem_cons_succ]
  refine under_take (i := 5) (v := ?_) rfl (by kernel_rfl) (by kernel_rfl) (fun _ _ _ h => h) _ _ _ _ (by kernel_rfl) (by kernel_rfl) (by kernel_rfl) (Or.inl ⟨by rfl, ?_⟩) hSS ?_
  rotate_left
  · intro w hSw
    obtain ⟨q0, q1⟩ := hSw
    go_simp
    try with_reducible rfl
  simp only [Act.put, List.setIfInBounds_toArray, List.set_cons_zero, List.set_cons_succ, List.getElem_toArray, List.getElem_cons_zero, List.getElem_cons_succ]
  refine under_free (i := 6) (v := ?_) rfl (by kernel_rfl) (fun _ _ _ h => h) _ _ _ _ (by kernel_rfl) (by kernel_rfl) (Or.inl ⟨by rfl, ?_⟩) ?_
  rotate_left
  · intro w _
    go_simp
    try with_reducible rfl
  simp only [Act.put, List.setIfInBounds_toArray, List.set_cons_zero, List.set_cons_succ, List.getElem_toArray, List.getElem_cons_zero, List.getElem_cons_succ]
  refine under_one (i := 7) (by kernel_rfl) rfl ?_
  intro K hK
  go_simp
  refine (pick_any a n hn63 _).mono ?_
  rintro en w3 ⟨rfl, rfl⟩
  refine hK _ _ (fun _ => hSS) ?_
  clear hK K
  simp only [List.setIfInBounds_toArray, List.set_cons_zero, List.set_cons_succ]
  refine under_free (i := 8) (v := ?_) rfl (by kernel_rfl) (fun _ _ _ h => h) _ _ _ _ (by kernel_rfl) (by kernel_rfl) (Or.inl ⟨by rfl, ?_⟩) ?_
  rotate_left
  · intro w _
    go_simp
    try with_reducible rfl
  simp only [Act.put, List.setIfInBounds_toArray, List.set_cons_zero, List.set_cons_succ, List.getElem_toArray, List.getElem_cons_zero, List.getElem_cons_succ]
  refine under_done (by kernel_rfl) ?_ _
  clear hSS
  go_upto_region 5 with (fail)
  simp only [hdi]
  clear x0' hdi
  have y0 : w3.cell? ⟨gp, 0, none⟩ = some (.pointer (some ⟨g0, 0, none⟩)) := (S2.blk 1 rfl).at_ 0 rfl
  have HT := Lib.hid (tick_any hI ht 2 rfl S2)
  go_wp2_with fail
  refine HT.out.mono ?_
  rintro en w4 ⟨v7, rfl, S3⟩
  clear HT y0 S2
  replace S3 : Sep w0 w4 (PkX v7 (tickP (p.l false)) :: cell xb 43 #[.int .u8 (d : Int), .bool false, .int .i64 a, .slice A m c] :: cell gp 49 (PV.cs ⟨g0, g1, vw0, vw1, vr0, vr1, .slice VA n vc, t⟩) :: LinkAt g0 (tickS (p.l false)) :: LinkAt g1 (p.l true) :: BRow vw0 (p.wr false) :: BRow vw1 (p.wr true) :: BRow vr0 (p.rd false) :: BRow vr1 (p.rd true) :: PkX (.slice VA n vc) (p.ws.map (·.2)) :: IRow t p.ws :: M) := S3
  have hlm : (tickP (p.l false)).length ≤ 2000 := tickP_len hI
  obtain ⟨ps, hps⟩ : ∃ ps, tickP (p.l false) = ps := ⟨_, rfl⟩
  rw [hps] at S3 hlm
  have S4 : Sep w0 w4 (PkX v7 ps :: cell gp 49 (PV.cs ⟨g0, g1, vw0, vw1, vr0, vr1, .slice VA n vc, t⟩) :: IRow t p.ws :: PkX (.slice VA n vc) (p.ws.map (·.2)) :: LinkAt g0 (tickS (p.l false)) :: LinkAt g1 (p.l true) :: BRow vw0 (p.wr false) :: BRow vw1 (p.wr true) :: BRow vr0 (p.rd false) :: BRow vr1 (p.rd true) :: M) := S3.ix 11 [0, 2, 10, 9, 3, 4, 5, 6, 7, 8] [1] (by decide)
  obtain ⟨les, lds, hles, hlds, S5⟩ := S4.openK
  obtain ⟨U, hU⟩ : ∃ U, lds.map rowD = U := ⟨_, rfl⟩
  rw [hU] at S5
  have S6 := S5.perm (List.Perm.cons _ (perm_float3 _ _ _ U _))
  clear S3 S4 S5
  have S7 : Sep w0 w4 (PkX (.slice VA n vc) (p.ws.map (·.2)) :: row 32 4 v7 les.length (entP les) :: cell gp 49 (PV.cs ⟨g0, g1, vw0, vw1, vr0, vr1, .slice VA n vc, t⟩) :: IRow t p.ws :: (U ++ (LinkAt g0 (tickS (p.l false)) :: LinkAt g1 (p.l true) :: BRow vw0 (p.wr false) :: BRow vw1 (p.wr true) :: BRow vr0 (p.rd false) :: BRow vr1 (p.rd true) :: M))) := S6.ix 4 [3, 0, 1, 2] [] (by decide)
  obtain ⟨es, ds, hes, hds, S8⟩ := S7.openK
  clear S6 S7
  have hesl : es.length = n := by have h := congrArg List.length hes; simpa [hn] using h
  have hlel : les.length = ps.length := by rw [← hles, List.length_map]
  rw [hesl] at S8
  obtain ⟨T, hT⟩ : ∃ T, ds.map rowD ++ (U ++ (LinkAt g0 (tickS (p.l false)) :: LinkAt g1 (p.l true) :: BRow vw0 (p.wr false) :: BRow vw1 (p.wr true) :: BRow vr0 (p.rd false) :: BRow vr1 (p.rd true) :: M)) = T := ⟨_, rfl⟩
  have S9 : Sep w0 w4 (row 32 4 (.slice VA n vc) n (entP es) :: row 32 4 v7 les.length (entP les) :: cell gp 49 (PV.cs ⟨g0, g1, vw0, vw1, vr0, vr1, .slice VA n vc, t⟩) :: IRow t p.ws :: T) := by
    rw [← hT]
    exact S8.perm (List.Perm.cons _ (perm_float3 _ _ _ (ds.map rowD) _))
  clear S8
  have hdat : ∀ {W : World}, Sep w0 W T → ∀ e ∈ les, ∃ B c, e.1 = .slice B e.2.d.length c := by
    intro W h e he
    rw [← hT, ← hU] at h
    obtain ⟨B, c, h1, -⟩ := rb_of (h.dropAll) (hlds e he)
    exact ⟨B, c, h1⟩
  obtain ⟨lm, hlml⟩ : ∃ lm, les.length = lm := ⟨_, rfl⟩
  obtain ⟨LA, lc, hv7, -, -⟩ := own_slice (S9.own 1 rfl)
  rw [hlml] at hv7 hlel S9
  subst hv7
  obtain ⟨IA, ic, htt, -, -⟩ := own_slice (S9.own 3 rfl)
  rw [hn] at htt
  subst htt
  have S10 : Sep w0 w4 (row 32 4 (.slice VA n vc) n (entP es) :: row 32 4 (.slice LA lm lc) lm (entP les) :: cell gp 49 #[.pointer (some ⟨g0, 0, none⟩), .pointer (some ⟨g1, 0, none⟩), vw0, vw1, vr0, vr1, .slice VA n vc, .slice IA n ic] :: row 3 1 (.slice IA n ic) n (p.ws.map enI) :: T) := by
    have h := S9
    unfold IRow at h
    rw [hn] at h
    exact h
  clear S9
  have hlm2 : lm ≤ 2000 := by omega
  go_wp2_with fail
  go_loopw [8] (fun q wr => ∃ (i : Nat) (YA IA : Option Addr) (yc ic : Nat), i ≤ lm ∧ q = .int .i64 (i : Int) ∧ Sep w0 wr (row 32 4 (.slice YA (n + i) yc) (n + i) (entP es ++ entP (les.take i)) :: row 32 4 (.slice LA lm lc) lm (entP les) :: cell gp 49 #[.pointer (some ⟨g0, 0, none⟩), .pointer (some ⟨g1, 0, none⟩), vw0, vw1, vr0, vr1, .slice YA (n + i) yc, .slice IA (n + i) ic] :: row 3 1 (.slice IA (n + i) ic) (n + i) (p.ws.map enI ++ List.replicate i (.int .i64 1)) :: T)) (fun q _ => lm - (intOf q).toNat)
  case atStart => exact ⟨0, VA, IA, vc, ic, Nat.zero_le _, rfl, by simpa [entP] using S10⟩
  case round =>
    clear S10
    obtain ⟨i, YA, IA, yc, ic, hi, rfl, S11⟩ := hrel
    by_cases hlt : i < lm
    · have hlt' : (i : Int) < (lm : Int) := by omega
      obtain ⟨e, he⟩ : ∃ e, les[i]? = some e := ⟨_, List.getElem?_eq_getElem (by rw [hlml]; exact hlt)⟩
      obtain ⟨hil, heq⟩ := List.getElem?_eq_some_iff.1 he
      obtain ⟨DB, dc, hdb⟩ := hdat (S11.ix 4 [] [0, 1, 2, 3] (by decide)) e (by rw [← heq]; exact List.getElem_mem hil)
      obtain ⟨dl, hdl⟩ : ∃ dl, e.2.d.length = dl := ⟨_, rfl⟩
      rw [hdl] at hdb
      obtain ⟨lb, lcap, hlb, -⟩ := (S11.own 1 rfl).form (by omega)
      injection hlb with hlb h2 h3
      subst hlb
      clear h2 h3
      have cs := own_cells (S11.own 1 rfl)
      have hcell : e.2.cells e.1 = [.int .u32 (e.2.e : Int), .int .u64 (e.2.o : Int), .int .u64 (e.2.a : Int), .slice DB dl dc] := by rw [hdb]; rfl
      have cs2 : ∀ j u, [Value.int .u32 (e.2.e : Int), .int .u64 (e.2.o : Int), .int .u64 (e.2.a : Int), .slice DB dl dc][j]? = some u → wr.cell? ⟨lb, i * 4 + j, none⟩ = some u := fun j u hu => cs _ u (entP_get les i hil j u (by rw [heq, hcell]; exact hu))
      have y0 : wr.cell? ⟨gp, 6, none⟩ = some (.slice YA (n + i) yc) := (S11.blk 2 rfl).at_ 6 rfl
      have y1 : wr.cell? ⟨lb, i * 4, none⟩ = some (.int .u32 (e.2.e : Int)) := cs2 0 _ rfl
      have y2 : wr.cell? ⟨lb, i * 4 + 1, none⟩ = some (.int .u64 (e.2.o : Int)) := cs2 1 _ rfl
      have y3 : wr.cell? ⟨lb, i * 4 + 2, none⟩ = some (.int .u64 (e.2.a : Int)) := cs2 2 _ rfl
      have y4 : wr.cell? ⟨lb, i * 4 + 3, none⟩ = some (.slice DB dl dc) := cs2 3 _ rfl
      have facts : ∀ {X : World} {nb : Nat} {nc : Array Value} {v' : Value} {n' : Nat} {xs' : List Value}, Sep w0 X (cell nb 32 nc :: row 32 4 v' n' xs' :: row 32 4 (.slice (some ⟨lb, 0, none⟩) lm lc) lm (entP les) :: cell gp 49 #[.pointer (some ⟨g0, 0, none⟩), .pointer (some ⟨g1, 0, none⟩), vw0, vw1, vr0, vr1, .slice YA (n + i) yc, .slice IA (n + i) ic] :: row 3 1 (.slice IA (n + i) ic) (n + i) (p.ws.map enI ++ List.replicate i (.int .i64 1)) :: T) →
          X.cell? ⟨gp, 6, none⟩ = some (.slice YA (n + i) yc) ∧ X.cell? ⟨lb, i * 4, none⟩ = some (.int .u32 (e.2.e : Int)) ∧ X.cell? ⟨lb, i * 4 + 1, none⟩ = some (.int .u64 (e.2.o : Int)) ∧ X.cell? ⟨lb, i * 4 + 2, none⟩ = some (.int .u64 (e.2.a : Int)) ∧ X.cell? ⟨lb, i * 4 + 3, none⟩ = some (.slice DB dl dc) := fun h => ⟨(h.blk 3 rfl).at_ 6 rfl, own_cells (h.own 2 rfl) _ _ (entP_get les i hil 0 _ (by rw [heq, hcell]; rfl)), own_cells (h.own 2 rfl) _ _ (entP_get les i hil 1 _ (by rw [heq, hcell]; rfl)), own_cells (h.own 2 rfl) _ _ (entP_get les i hil 2 _ (by rw [heq, hcell]; rfl)), own_cells (h.own 2 rfl) _ _ (entP_get les i hil 3 _ (by rw [heq, hcell]; rfl))⟩
      have s4 : (0 : Int) ≤ (i : Int) := by omega
      clear cs cs2
      go_upto_region 13 with (fail)
      refine plain_under (fun w => w.cell? ⟨gp, 6, none⟩ = some (.slice YA (n + i) yc) ∧ w.cell? ⟨lb, i * 4, none⟩ = some (.int .u32 (e.2.e : Int)) ∧ w.cell? ⟨lb, i * 4 + 1, none⟩ = some (.int .u64 (e.2.o : Int)) ∧ w.cell? ⟨lb, i * 4 + 2, none⟩ = some (.int .u64 (e.2.a : Int)) ∧ w.cell? ⟨lb, i * 4 + 3, none⟩ = some (.slice DB dl dc)) (fun j => decide (j < 13)) (by kernel_rfl) ?_
      have hSS : wr.drew.cell? ⟨gp, 6, none⟩ = some (.slice YA (n + i) yc) ∧ wr.drew.cell? ⟨lb, i * 4, none⟩ = some (.int .u32 (e.2.e : Int)) ∧ wr.drew.cell? ⟨lb, i * 4 + 1, none⟩ = some (.int .u64 (e.2.o : Int)) ∧ wr.drew.cell? ⟨lb, i * 4 + 2, none⟩ = some (.int .u64 (e.2.a : Int)) ∧ wr.drew.cell? ⟨lb, i * 4 + 3, none⟩ = some (.slice DB dl dc) := ⟨y0, y1, y2, y3, y4⟩
      have S12 := S11.drew
      clear y0 y1 y2 y3 y4 S11
      generalize wr.drew = w12 at hSS S12 ⊢
      simp only [List.size_toArray, List.length_cons, List.length_nil, Nat.reduceAdd, Array.replicate_succ, Array.replicate_zero, List.push_toArray, List.nil_append, List.cons_append]
      refine under_free (i := 0) (v := ?_) rfl (by kernel_rfl) (fun _ _ _ h => h) _ _ _ _ (by kernel_rfl) (by kernel_rfl) (Or.inl ⟨by rfl, ?_⟩) ?_
      rotate_left
      · intro w _
        go_simp
        try with_reducible rfl
      simp only [Act.put, List.setIfInBounds_toArray, List.set_cons_zero, List.set_cons_succ, List.getElem_toArray, List.getElem_cons_zero]
      refine under_free (i := 1) (v := ?_) rfl (by kernel_rfl) (fun _ _ _ h => h) _ _ _ _ (by kernel_rfl) (by kernel_rfl) (Or.inl ⟨by rfl, ?_⟩) ?_
      rotate_left
      · intro w _
        go_simp
        try with_reducible rfl
      simp only [Act.put, List.setIfInBounds_toArray, List.set_cons_zero, List.set_cons_succ, List.getElem_toArray, List.getElem_cons_zero, List.getElem_cons_succ]
      refine under_free (i := 2) (v := ?_) rfl (by kernel_rfl) (fun _ _ _ h => h) _ _ _ _ (by kernel_rfl) (by kernel_rfl) (Or.inl ⟨by rfl, ?_⟩) ?_
      rotate_left
      · intro w _
        go_simp
        try with_reducible rfl
      simp only [Act.put, List.setIfInBounds_toArray, List.set_cons_zero, List.set_cons_succ, List.getElem_toArray, List.getElem_cons_zero, List.getElem_cons_succ]
      refine under_free (i := 3) (v := ?_) rfl (by kernel_rfl) (fun _ _ _ h => h) _ _ _ _ (by kernel_rfl) (by kernel_rfl) (Or.inl ⟨by rfl, ?_⟩) ?_
      rotate_left
      · intro w _
        go_simp
        try with_reducible rfl
      simp only [Act.put, List.setIfInBounds_toArray, List.set_cons_zero, List.set_cons_succ, List.getElem_toArray, List.getElem_cons_zero, List.getElem_cons_succ]
      refine under_take (i := 4) (v := ?_) rfl (by kernel_rfl) (by kernel_rfl) (fun _ _ _ h => h) _ _ _ _ (by kernel_rfl) (by kernel_rfl) (by kernel_rfl) (Or.inl ⟨by rfl, ?_⟩) hSS ?_
      rotate_left
      · intro w hSw
        obtain ⟨q0, q1, q2, q3, q4⟩ := hSw
        go_simp
        try with_reducible rfl
      simp only [Act.put, List.setIfInBounds_toArray, List.set_cons_zero, List.set_cons_succ, List.getElem_toArray, List.getElem_cons_zero, List.getElem_cons_succ]
      refine under_free (i := 5) (v := ?_) rfl (by kernel_rfl) (fun _ _ _ h => h) _ _ _ _ (by kernel_rfl) (by kernel_rfl) (Or.inl ⟨by rfl, ?_⟩) ?_
      rotate_left
      · intro w _
        go_simp
        try with_reducible rfl
      simp only [Act.put, List.setIfInBounds_toArray, List.set_cons_zero, List.set_cons_succ, List.getElem_toArray, List.getElem_cons_zero, List.getElem_cons_succ]
      refine under_free (i := 6) (v := ?_) rfl (by kernel_rfl) (fun _ _ _ h => h) _ _ _ _ (by kernel_rfl) (by kernel_rfl) (Or.inl ⟨by rfl, ?_⟩) ?_
      rotate_left
      · intro w _
        go_simp
        try with_reducible rfl
      simp only [Act.put, List.setIfInBounds_toArray, List.set_cons_zero, List.set_cons_succ, List.getElem_toArray, List.getElem_cons_zero, List.getElem_cons_succ]
      refine under_free (i := 7) (v := ?_) rfl (by kernel_rfl) (fun _ _ _ h => h) _ _ _ _ (by kernel_rfl) (by kernel_rfl) (Or.inl ⟨by rfl, ?_⟩) ?_
      rotate_left
      · intro w _
        go_simp
        try with_reducible rfl
      simp only [Act.put, List.setIfInBounds_toArray, List.set_cons_zero, List.set_cons_succ, List.getElem_toArray, List.getElem_cons_zero, List.getElem_cons_succ]
      refine under_take (i := 8) (v := ?_) rfl (by kernel_rfl) (by kernel_rfl) (fun _ _ _ h => h) _ _ _ _ (by kernel_rfl) (by kernel_rfl) (by kernel_rfl) (Or.inl ⟨by rfl, ?_⟩) hSS ?_
      rotate_left
      · intro w hSw
        obtain ⟨q0, q1, q2, q3, q4⟩ := hSw
        go_simp
        try with_reducible rfl
      simp only [Act.put, List.setIfInBounds_toArray, List.set_cons_zero, List.set_cons_succ, List.getElem_toArray, List.getElem_cons_zero, List.getElem_cons_succ]
      refine under_one (i := 9) (by kernel_rfl) rfl ?_
      intro K hK
      go_simp
      have S13 := S12.boxF 32 #[.int .u32 (e.2.e : Int), .int .u64 (e.2.o : Int), .int .u64 (e.2.a : Int), .slice DB dl dc]
      have hWs : w12.heap.size < (w12.alloc (.cells #[.int .u32 (e.2.e : Int), .int .u64 (e.2.o : Int), .int .u64 (e.2.a : Int), .slice DB dl dc] 32)).heap.size := by simp
      replace hSS := facts S13
      refine hK _ _ (fun _ => hSS) ?_
      clear hK K S12
      generalize w12.heap.size = nb at S13 hWs ⊢
      generalize w12.alloc (.cells #[.int .u32 (e.2.e : Int), .int .u64 (e.2.o : Int), .int .u64 (e.2.a : Int), .slice DB dl dc] 32) = w13 at S13 hSS hWs ⊢
      simp only [List.setIfInBounds_toArray, List.set_cons_zero, List.set_cons_succ]
      refine under_one (i := 10) (by kernel_rfl) rfl ?_
      intro K hK
      obtain ⟨i32, hi32, hz0, hz1, hz2⟩ := info_parts info32
      have hrd : Reads w13 w13.heap.size 4 (some ⟨nb, 0, none⟩) 1 [.int .u32 (e.2.e : Int), .int .u64 (e.2.o : Int), .int .u64 (e.2.a : Int), .slice DB dl dc] := by
        refine ⟨rfl, fun _ => ⟨_, rfl, hWs, fun j x hj => ?_⟩⟩
        have hb := (S13.blk 0 rfl).cell j
        have he : (⟨nb, 0, none⟩ : Addr).add j = ⟨nb, j, none⟩ := by unfold Addr.add; split <;> simp_all
        rw [he, hb, ← Array.getElem?_toList]
        exact hj
      have hone : ∀ x ∈ [Value.int .u32 (e.2.e : Int), .int .u64 (e.2.o : Int), .int .u64 (e.2.a : Int), .slice DB dl dc], x.oneCell' = true := by
        intro x hx
        simp only [List.mem_cons, List.not_mem_nil, or_false] at hx
        rcases hx with rfl | rfl | rfl | rfl <;> rfl
      refine step_append_any _ rfl (.tmp 92) (.tmp 97) 28 rfl 0 32 i32 _ 4 48 Try.underlying28 hi32 hz0 hz1 hz2 rfl (by omega) (.slice YA (n + i) yc) (n + i) _ rfl (S13.own 1 rfl) _ (some ⟨nb, 0, none⟩) 1 1 _ rfl hrd hone (by unfold maxLen; omega) (by omega) (Nat.zero_le _) ?_
      intro v15 w15 hown hg hat
      have S15 := S13.pushed 1 rfl hown hg hat
      replace hSS := facts S15
      refine hK _ _ (fun _ => hSS) ?_
      clear hK K hown hg hat hrd hone S13 hWs hi32 hz0 hz1 hz2
      obtain ⟨a5, c5, hv15, -, -⟩ := own_slice (S15.own 1 rfl)
      subst hv15
      have z15 := (S15.blk 3 rfl).frozen 6
      have k15 := hSS.1
      simp only [Act.put, List.setIfInBounds_toArray, List.set_cons_zero, List.set_cons_succ, List.getElem_toArray, List.getElem_cons_zero, List.getElem_cons_succ]
      refine under_free (i := 11) (v := ?_) rfl (by kernel_rfl) (fun _ _ _ h => h) _ _ _ _ (by kernel_rfl) (by kernel_rfl) (Or.inl ⟨by rfl, ?_⟩) ?_
      rotate_left
      · intro w _
        go_simp
        try with_reducible rfl
      simp only [Act.put, List.setIfInBounds_toArray, List.set_cons_zero, List.set_cons_succ, List.getElem_toArray, List.getElem_cons_zero, List.getElem_cons_succ]
      refine under_free (i := 12) (v := ?_) rfl (by kernel_rfl) (fun _ _ _ h => h) _ _ _ _ (by kernel_rfl) (by kernel_rfl) (Or.inl ⟨by rfl, ?_⟩) ?_
      rotate_left
      · intro w _
        go_simp
        try with_reducible rfl
      simp only [Act.put, List.setIfInBounds_toArray, List.set_cons_zero, List.set_cons_succ, List.getElem_toArray, List.getElem_cons_zero, List.getElem_cons_succ]
      refine under_one (i := 13) (by kernel_rfl) rfl ?_
      intro K hK
      go_simp
      have S16 := S15.put 3 rfl 6 (.slice a5 (n + i + 1) c5)
      refine hK _ _ (fun h => by cases h) ?_
      clear hK K S15 z15 k15 hSS
      refine under_done (by kernel_rfl) ?_ _
      have S17 := S16.tail
      generalize w15.setCell ⟨gp, 6, none⟩ (.slice a5 (n + i + 1) c5) = w17 at S17 ⊢
      clear facts S16
      have k7 : w17.cell? ⟨gp, 7, none⟩ = some (.slice IA (n + i) ic) := (S17.blk 2 rfl).at_ 7 rfl
      obtain ⟨W18, hW18, S18⟩ := S17.boxedF 3 #[.int .i64 1]
      have hn18 : w17.heap.size < W18.heap.size := by rw [← hW18]; simp
      obtain ⟨nb, hnb⟩ : ∃ nb, w17.heap.size = nb := ⟨_, rfl⟩
      rw [hnb] at S18 hn18
      have HS18 := Lib.hid S18
      have Hn18 := Lib.hid hn18
      have Hni := Lib.hid (show n + i + 1 ≤ 2000000000 by omega)
      have k18 : W18.cell? ⟨gp, 7, none⟩ = some (.slice IA (n + i) ic) := (S18.blk 3 rfl).at_ 7 rfl
      clear S17 S18 hn18
      go_wp2_with (
        at_builtin
        obtain ⟨i3, hi3, hy0, hy1, hy2⟩ := info_parts info3
        have hrd : Reads W18 W18.heap.size 1 (some ⟨nb, 0, none⟩) 1 [.int .i64 1] := by
          refine ⟨rfl, fun _ => ⟨_, rfl, Hn18.out, fun j x hj => ?_⟩⟩
          have hb := (HS18.out.blk 0 rfl).cell j
          have he : (⟨nb, 0, none⟩ : Addr).add j = ⟨nb, j, none⟩ := by unfold Addr.add; split <;> simp_all
          rw [he, hb, ← Array.getElem?_toList]
          exact hj
        refine wpList_append_any _ rfl (.tmp 105) (.tmp 108) 47 rfl 0 3 i3 _ 1 8 Try.underlying47 hi3 hy0 hy1 hy2 rfl (by omega) (.slice IA (n + i) ic) (n + i) _ rfl (HS18.out.own 4 rfl) _ (some ⟨nb, 0, none⟩) 1 1 _ rfl hrd (by intro u hu; rw [List.mem_singleton] at hu; subst hu; rfl) (by have := Hni.out; unfold maxLen; omega) (by have := Hni.out; omega) (Nat.zero_le _) ?_
        intro v19 w19 hown hg hat
        have S19 := HS18.out.pushed 4 rfl hown hg hat
        obtain ⟨a19, c19, hv19, -, -⟩ := own_slice (S19.own 4 rfl)
        subst hv19
        have k19 := (S19.blk 3 rfl).at_ 7 rfl
        have z19 := (S19.blk 3 rfl).frozen 7
        have HS20 := Lib.hid (S19.put 3 rfl 7 (.slice a19 (n + i + 1) c19))
        clear hown hg hat hrd S19 k18 k7 hi3 hy0 hy1 hy2)
      go_roundw
      case measure => simp [intOf]; omega
      case rel =>
        refine ⟨i + 1, a5, a19, c5, c19, hlt, by go_num, ?_⟩
        have hte : les.take (i + 1) = les.take i ++ [e] := by rw [List.take_add_one, he]; rfl
        have h1 : entP es ++ entP (les.take (i + 1)) = entP es ++ entP (les.take i) ++ [.int .u32 (e.2.e : Int), .int .u64 (e.2.o : Int), .int .u64 (e.2.a : Int), .slice DB dl dc] := by
          rw [hte, entP_append, List.append_assoc, ← hcell]
          congr 2
        have h2 : p.ws.map enI ++ List.replicate (i + 1) (Value.int .i64 1) = p.ws.map enI ++ List.replicate i (Value.int .i64 1) ++ [.int .i64 1] := by rw [List.append_assoc, ← List.replicate_succ']
        rw [h1, h2]
        exact HS20.out.tail
    · have hil : i = lm := by omega
      subst hil
      have HS := Lib.hid S11
      clear S11 hdat hlt hi
      go_wp2_with fail
      go_ret
      refine ⟨rfl, ?_⟩
      have S12 := HS.out
      rw [List.take_of_length_le (by omega)] at S12
      have S13 : Sep w0 wr (row 32 4 (.slice YA (n + i) yc) (n + i) (entP es ++ entP les) :: cell gp 49 #[.pointer (some ⟨g0, 0, none⟩), .pointer (some ⟨g1, 0, none⟩), vw0, vw1, vr0, vr1, .slice YA (n + i) yc, .slice IA (n + i) ic] :: row 3 1 (.slice IA (n + i) ic) (n + i) (p.ws.map enI ++ List.replicate i (.int .i64 1)) :: T) := S12.ix 4 [0, 2, 3] [1] (by decide)
      have hnew : (tickPS p false).ws = p.ws ++ ps.map fun q => (true, q) := by unfold tickPS; rw [hps]; rfl
      have hws : (es ++ les).map (·.2) = (tickPS p false).ws.map (·.2) := by rw [hnew, List.map_append, List.map_append, hes, hles, List.map_map]; congr 1; exact (List.map_id _).symm
      have hwl : (tickPS p false).ws.length = n + i := by rw [hnew, List.length_append, List.length_map, hn, hlel]
      have hwI : (tickPS p false).ws.map enI = p.ws.map enI ++ List.replicate i (.int .i64 1) := by
        rw [hnew, List.map_append, List.map_map]
        congr 1
        rw [hlel]
        exact List.eq_replicate_iff.2 ⟨by simp, fun b hb => by obtain ⟨q, -, rfl⟩ := List.mem_map.1 hb; rfl⟩
      have hds2 : InD (es ++ les) (ds ++ lds) := by
        intro e he
        rcases List.mem_append.1 he with he | he
        · exact List.mem_append_left _ (hds e he)
        · exact List.mem_append_right _ (hlds e he)
      have S14 : Sep w0 wr (row 32 4 (.slice YA (n + i) yc) (es ++ les).length (entP (es ++ les)) :: ((ds ++ lds).map rowD ++ (cell gp 49 #[.pointer (some ⟨g0, 0, none⟩), .pointer (some ⟨g1, 0, none⟩), vw0, vw1, vr0, vr1, .slice YA (n + i) yc, .slice IA (n + i) ic] :: IRow (.slice IA (n + i) ic) (tickPS p false).ws :: LinkAt g0 (tickS (p.l false)) :: LinkAt g1 (p.l true) :: BRow vw0 (p.wr false) :: BRow vw1 (p.wr true) :: BRow vr0 (p.rd false) :: BRow vr1 (p.rd true) :: M))) := by
        unfold IRow
        rw [hwl, hwI, List.length_append, hesl, hlml, entP_append, List.map_append, List.append_assoc, hU]
        rw [← hT] at S13
        exact S13.perm (.cons _ (perm_float22 _ _ _ _ _).symm)
      have S15 := Sep.closeK hws hds2 S14
      exact Sep.closeP2 (p := tickPS p false) ⟨g0, g1, vw0, vw1, vr0, vr1, .slice YA (n + i) yc, .slice IA (n + i) ic⟩ (S15.ix 9 [1, 3, 4, 5, 6, 7, 8, 0, 2] [] (by decide))
set_option maxRecDepth 100000 in
set_option maxHeartbeats 1000000 in
theorem step1_true {gp : Nat} {p : PS} (d : Nat) (hd : d % 6 = 1) (a : Int) (A : Option Addr) (m c : Nat) (hlen : p.ws.length ≤ 1000000000) (hI : Inv (p.l true)) (ht : (p.l true).ticks ≤ 1000) (hS : Sep w0 w (PairAt gp p :: M)) :
    Calls Try.prog 22 #[.pointer (some ⟨gp, 0, none⟩), .agg #[.int .u8 (d : Int), .bool true, .int .i64 a, .slice A m c]] w fun en w' => en = .returned (.bool true) ∧ Sep w0 w' (PairAt gp (tickPS p true) :: M) := by
  have hdi : (d : Int) % 6 = 1 := by omega
  obtain ⟨xv, S⟩ := hS.openP2
  obtain ⟨g0, g1, vw0, vw1, vr0, vr1, y, t⟩ := xv
  obtain ⟨VA, vc, hv, hvc, -, -⟩ := S.pr 7 rfl
  obtain ⟨n, hn⟩ : ∃ n, p.ws.length = n := ⟨_, rfl⟩
  rw [List.length_map, hn] at hv hvc
  subst hv
  obtain ⟨W1, hW1, S1⟩ := S.boxedF 43 #[.int .u8 (d : Int), .bool true, .int .i64 a, .slice A m c]
  obtain ⟨xb, hxb⟩ : ∃ xb, w.heap.size = xb := ⟨_, rfl⟩
  rw [hxb] at S1
  have x0 : W1.cell? ⟨xb, 0, none⟩ = some (.int .u8 (d : Int)) := (S1.blk 0 rfl).at_ 0 rfl
  have x1 : W1.cell? ⟨xb, 1, none⟩ = some (.bool true) := (S1.blk 0 rfl).at_ 1 rfl
  have x2 : W1.cell? ⟨xb, 2, none⟩ = some (.int .i64 a) := (S1.blk 0 rfl).at_ 2 rfl
  have y6 : W1.cell? ⟨gp, 6, none⟩ = some (.slice VA n vc) := (S1.blk 1 rfl).at_ 6 rfl
  have hn63 : n ≤ 9223372036854775807 := by omega
  clear S hS
  go_enter Try.func22, Try.ntmps22
  go_wp2_with fail
  refine (side_any true _).mono ?_
  rintro en W2 ⟨rfl, rfl⟩
  go_upto_region 2 with (fail)
  refine plain_under (fun w => w.cell? ⟨xb, 2, none⟩ = some (.int .i64 a) ∧ w.cell? ⟨gp, 6, none⟩ = some (.slice VA n vc)) (fun _ => true) (by kernel_rfl) ?_
  have hSS : W2.drew.cell? ⟨xb, 2, none⟩ = some (.int .i64 a) ∧ W2.drew.cell? ⟨gp, 6, none⟩ = some (.slice VA n vc) := ⟨x2, y6⟩
  have S2 := S1.drew
  have x0' : W2.drew.cell? ⟨xb, 0, none⟩ = some (.int .u8 (d : Int)) := x0
  clear x0 x1 x2 y6 S1 hW1
  generalize W2.drew = W3 at hSS S2 x0' ⊢
  simp only [List.size_toArray, List.length_cons, List.length_nil, Nat.reduceAdd, Array.replicate_succ, Array.replicate_zero, List.push_toArray, List.nil_append, List.cons_append]
  refine under_free (i := 0) (v := ?_) rfl (by kernel_rfl) (fun _ _ _ h => h) _ _ _ _ (by kernel_rfl) (by kernel_rfl) (Or.inl ⟨by rfl, ?_⟩) ?_
  rotate_left
  · intro w _
    go_simp
    try with_reducible rfl
  simp only [Act.put, List.setIfInBounds_toArray, List.set_cons_zero, List.set_cons_succ, List.getElem_toArray, List.getElem_cons_zero]
  refine under_take (i := 1) (v := ?_) rfl (by kernel_rfl) (by kernel_rfl) (fun _ _ _ h => h) _ _ _ _ (by kernel_rfl) (by kernel_rfl) (by kernel_rfl) (Or.inl ⟨by rfl, ?_⟩) hSS ?_
  rotate_left
  · intro w hSw
    obtain ⟨q0, q1⟩ := hSw
    go_simp
    try with_reducible rfl
  simp only [Act.put, List.setIfInBounds_toArray, List.set_cons_zero, List.set_cons_succ, List.getElem_toArray, List.getElem_cons_zero, List.getElem_cons_succ]
  refine under_free (i := 2) (v := ?_) rfl (by kernel_rfl) (fun _ _ _ h => h) _ _ _ _ (by kernel_rfl) (by kernel_rfl) (Or.inl ⟨by rfl, ?_⟩) ?_
  rotate_left
  · intro w _
    go_simp
    try with_reducible rfl
  simp only [Act.put, List.setIfInBounds_toArray, List.set_cons_zero, List.set_cons_succ, List.getElem_toArray, List.getElem_cons_zero, List.getElem_cons_succ]
  refine under_free (i := 3) (v := ?_) rfl (by kernel_rfl) (fun _ _ _ h => h) _ _ _ _ (by kernel_rfl) (by kernel_rfl) (Or.inl ⟨by rfl, ?_⟩) ?_
  rotate_left
  · intro w _
    go_simp
    try with_reducible rfl
  simp only [Act.put, List.setIfInBounds_toArray, List.set_cons_zero, List.set_cons_succ, List.getElem_toArray, List.getElem_cons_zero, List.getElem_cons_succ]
  refine under_free (i := 4) (v := ?_) rfl (by kernel_rfl) (fun _ _ _ h => h) _ _ _ _ (by kernel_rfl) (by kernel_rfl) (Or.inl ⟨by rfl, ?_⟩) ?_
  rotate_left
  · intro w _
    go_simp
    try with_reducible rfl
  simp only [Act.put, List.setIfInBounds_toArray, List.set_cons_zero, List.set_cons_succ, List.getElem_toArray, List.getElem_cons_zero, List.getElem_cons_succ]
  refine under_take (i := 5) (v := ?_) rfl (by kernel_rfl) (by kernel_rfl) (fun _ _ _ h => h) _ _ _ _ (by kernel_rfl) (by kernel_rfl) (by kernel_rfl) (Or.inl ⟨by rfl, ?_⟩) hSS ?_
  rotate_left
  · intro w hSw
    obtain ⟨q0, q1⟩ := hSw
    go_simp
    try with_reducible rfl
  simp only [Act.put, List.setIfInBounds_toArray, List.set_cons_zero, List.set_cons_succ, List.getElem_toArray, List.getElem_cons_zero, List.getElem_cons_succ]
  refine under_free (i := 6) (v := ?_) rfl (by kernel_rfl) (fun _ _ _ h => h) _ _ _ _ (by kernel_rfl) (by kernel_rfl) (Or.inl ⟨by rfl, ?_⟩) ?_
  rotate_left
  · intro w _
    go_simp
    try with_reducible rfl
  simp only [Act.put, List.setIfInBounds_toArray, List.set_cons_zero, List.set_cons_succ, List.getElem_toArray, List.getElem_cons_zero, List.getElem_cons_succ]
  refine under_one (i := 7) (by kernel_rfl) rfl ?_
  intro K hK
  go_simp
  refine (pick_any a n hn63 _).mono ?_
  rintro en w3 ⟨rfl, rfl⟩
  refine hK _ _ (fun _ => hSS) ?_
  clear hK K
  simp only [List.setIfInBounds_toArray, List.set_cons_zero, List.set_cons_succ]
  refine under_free (i := 8) (v := ?_) rfl (by kernel_rfl) (fun _ _ _ h => h) _ _ _ _ (by kernel_rfl) (by kernel_rfl) (Or.inl ⟨by rfl, ?_⟩) ?_
  rotate_left
  · intro w _
    go_simp
    try with_reducible rfl
  simp only [Act.put, List.setIfInBounds_toArray, List.set_cons_zero, List.set_cons_succ, List.getElem_toArray, List.getElem_cons_zero, List.getElem_cons_succ]
  refine under_done (by kernel_rfl) ?_ _
  clear hSS
  go_upto_region 5 with (fail)
  simp only [hdi]
  clear x0' hdi
  have y0 : w3.cell? ⟨gp, 1, none⟩ = some (.pointer (some ⟨g1, 0, none⟩)) := (S2.blk 1 rfl).at_ 1 rfl
  have HT := Lib.hid (tick_any hI ht 3 rfl S2)
  go_wp2_with fail
  refine HT.out.mono ?_
  rintro en w4 ⟨v7, rfl, S3⟩
  clear HT y0 S2
  replace S3 : Sep w0 w4 (PkX v7 (tickP (p.l true)) :: cell xb 43 #[.int .u8 (d : Int), .bool true, .int .i64 a, .slice A m c] :: cell gp 49 (PV.cs ⟨g0, g1, vw0, vw1, vr0, vr1, .slice VA n vc, t⟩) :: LinkAt g0 (p.l false) :: LinkAt g1 (tickS (p.l true)) :: BRow vw0 (p.wr false) :: BRow vw1 (p.wr true) :: BRow vr0 (p.rd false) :: BRow vr1 (p.rd true) :: PkX (.slice VA n vc) (p.ws.map (·.2)) :: IRow t p.ws :: M) := S3
  have hlm : (tickP (p.l true)).length ≤ 2000 := tickP_len hI
  obtain ⟨ps, hps⟩ : ∃ ps, tickP (p.l true) = ps := ⟨_, rfl⟩
  rw [hps] at S3 hlm
  have S4 : Sep w0 w4 (PkX v7 ps :: cell gp 49 (PV.cs ⟨g0, g1, vw0, vw1, vr0, vr1, .slice VA n vc, t⟩) :: IRow t p.ws :: PkX (.slice VA n vc) (p.ws.map (·.2)) :: LinkAt g0 (p.l false) :: LinkAt g1 (tickS (p.l true)) :: BRow vw0 (p.wr false) :: BRow vw1 (p.wr true) :: BRow vr0 (p.rd false) :: BRow vr1 (p.rd true) :: M) := S3.ix 11 [0, 2, 10, 9, 3, 4, 5, 6, 7, 8] [1] (by decide)
  obtain ⟨les, lds, hles, hlds, S5⟩ := S4.openK
  obtain ⟨U, hU⟩ : ∃ U, lds.map rowD = U := ⟨_, rfl⟩
  rw [hU] at S5
  have S6 := S5.perm (List.Perm.cons _ (perm_float3 _ _ _ U _))
  clear S3 S4 S5
  have S7 : Sep w0 w4 (PkX (.slice VA n vc) (p.ws.map (·.2)) :: row 32 4 v7 les.length (entP les) :: cell gp 49 (PV.cs ⟨g0, g1, vw0, vw1, vr0, vr1, .slice VA n vc, t⟩) :: IRow t p.ws :: (U ++ (LinkAt g0 (p.l false) :: LinkAt g1 (tickS (p.l true)) :: BRow vw0 (p.wr false) :: BRow vw1 (p.wr true) :: BRow vr0 (p.rd false) :: BRow vr1 (p.rd true) :: M))) := S6.ix 4 [3, 0, 1, 2] [] (by decide)
  obtain ⟨es, ds, hes, hds, S8⟩ := S7.openK
  clear S6 S7
  have hesl : es.length = n := by have h := congrArg List.length hes; simpa [hn] using h
  have hlel : les.length = ps.length := by rw [← hles, List.length_map]
  rw [hesl] at S8
  obtain ⟨T, hT⟩ : ∃ T, ds.map rowD ++ (U ++ (LinkAt g0 (p.l false) :: LinkAt g1 (tickS (p.l true)) :: BRow vw0 (p.wr false) :: BRow vw1 (p.wr true) :: BRow vr0 (p.rd false) :: BRow vr1 (p.rd true) :: M)) = T := ⟨_, rfl⟩
  have S9 : Sep w0 w4 (row 32 4 (.slice VA n vc) n (entP es) :: row 32 4 v7 les.length (entP les) :: cell gp 49 (PV.cs ⟨g0, g1, vw0, vw1, vr0, vr1, .slice VA n vc, t⟩) :: IRow t p.ws :: T) := by
    rw [← hT]
    exact S8.perm (List.Perm.cons _ (perm_float3 _ _ _ (ds.map rowD) _))
  clear S8
  have hdat : ∀ {W : World}, Sep w0 W T → ∀ e ∈ les, ∃ B c, e.1 = .slice B e.2.d.length c := by
    intro W h e he
    rw [← hT, ← hU] at h
    obtain ⟨B, c, h1, -⟩ := rb_of (h.dropAll) (hlds e he)
    exact ⟨B, c, h1⟩
  obtain ⟨lm, hlml⟩ : ∃ lm, les.length = lm := ⟨_, rfl⟩
  obtain ⟨LA, lc, hv7, -, -⟩ := own_slice (S9.own 1 rfl)
  rw [hlml] at hv7 hlel S9
  subst hv7
  obtain ⟨IA, ic, htt, -, -⟩ := own_slice (S9.own 3 rfl)
  rw [hn] at htt
  subst htt
  have S10 : Sep w0 w4 (row 32 4 (.slice VA n vc) n (entP es) :: row 32 4 (.slice LA lm lc) lm (entP les) :: cell gp 49 #[.pointer (some ⟨g0, 0, none⟩), .pointer (some ⟨g1, 0, none⟩), vw0, vw1, vr0, vr1, .slice VA n vc, .slice IA n ic] :: row 3 1 (.slice IA n ic) n (p.ws.map enI) :: T) := by
    have h := S9
    unfold IRow at h
    rw [hn] at h
    exact h
  clear S9
  have hlm2 : lm ≤ 2000 := by omega
  go_wp2_with fail
  go_loopw [8] (fun q wr => ∃ (i : Nat) (YA IA : Option Addr) (yc ic : Nat), i ≤ lm ∧ q = .int .i64 (i : Int) ∧ Sep w0 wr (row 32 4 (.slice YA (n + i) yc) (n + i) (entP es ++ entP (les.take i)) :: row 32 4 (.slice LA lm lc) lm (entP les) :: cell gp 49 #[.pointer (some ⟨g0, 0, none⟩), .pointer (some ⟨g1, 0, none⟩), vw0, vw1, vr0, vr1, .slice YA (n + i) yc, .slice IA (n + i) ic] :: row 3 1 (.slice IA (n + i) ic) (n + i) (p.ws.map enI ++ List.replicate i (.int .i64 0)) :: T)) (fun q _ => lm - (intOf q).toNat)
  case atStart => exact ⟨0, VA, IA, vc, ic, Nat.zero_le _, rfl, by simpa [entP] using S10⟩
  case round =>
    clear S10
    obtain ⟨i, YA, IA, yc, ic, hi, rfl, S11⟩ := hrel
    by_cases hlt : i < lm
    · have hlt' : (i : Int) < (lm : Int) := by omega
      obtain ⟨e, he⟩ : ∃ e, les[i]? = some e := ⟨_, List.getElem?_eq_getElem (by rw [hlml]; exact hlt)⟩
      obtain ⟨hil, heq⟩ := List.getElem?_eq_some_iff.1 he
      obtain ⟨DB, dc, hdb⟩ := hdat (S11.ix 4 [] [0, 1, 2, 3] (by decide)) e (by rw [← heq]; exact List.getElem_mem hil)
      obtain ⟨dl, hdl⟩ : ∃ dl, e.2.d.length = dl := ⟨_, rfl⟩
      rw [hdl] at hdb
      obtain ⟨lb, lcap, hlb, -⟩ := (S11.own 1 rfl).form (by omega)
      injection hlb with hlb h2 h3
      subst hlb
      clear h2 h3
      have cs := own_cells (S11.own 1 rfl)
      have hcell : e.2.cells e.1 = [.int .u32 (e.2.e : Int), .int .u64 (e.2.o : Int), .int .u64 (e.2.a : Int), .slice DB dl dc] := by rw [hdb]; rfl
      have cs2 : ∀ j u, [Value.int .u32 (e.2.e : Int), .int .u64 (e.2.o : Int), .int .u64 (e.2.a : Int), .slice DB dl dc][j]? = some u → wr.cell? ⟨lb, i * 4 + j, none⟩ = some u := fun j u hu => cs _ u (entP_get les i hil j u (by rw [heq, hcell]; exact hu))
      have y0 : wr.cell? ⟨gp, 6, none⟩ = some (.slice YA (n + i) yc) := (S11.blk 2 rfl).at_ 6 rfl
      have y1 : wr.cell? ⟨lb, i * 4, none⟩ = some (.int .u32 (e.2.e : Int)) := cs2 0 _ rfl
      have y2 : wr.cell? ⟨lb, i * 4 + 1, none⟩ = some (.int .u64 (e.2.o : Int)) := cs2 1 _ rfl
      have y3 : wr.cell? ⟨lb, i * 4 + 2, none⟩ = some (.int .u64 (e.2.a : Int)) := cs2 2 _ rfl
      have y4 : wr.cell? ⟨lb, i * 4 + 3, none⟩ = some (.slice DB dl dc) := cs2 3 _ rfl
      have facts : ∀ {X : World} {nb : Nat} {nc : Array Value} {v' : Value} {n' : Nat} {xs' : List Value}, Sep w0 X (cell nb 32 nc :: row 32 4 v' n' xs' :: row 32 4 (.slice (some ⟨lb, 0, none⟩) lm lc) lm (entP les) :: cell gp 49 #[.pointer (some ⟨g0, 0, none⟩), .pointer (some ⟨g1, 0, none⟩), vw0, vw1, vr0, vr1, .slice YA (n + i) yc, .slice IA (n + i) ic] :: row 3 1 (.slice IA (n + i) ic) (n + i) (p.ws.map enI ++ List.replicate i (.int .i64 0)) :: T) →
          X.cell? ⟨gp, 6, none⟩ = some (.slice YA (n + i) yc) ∧ X.cell? ⟨lb, i * 4, none⟩ = some (.int .u32 (e.2.e : Int)) ∧ X.cell? ⟨lb, i * 4 + 1, none⟩ = some (.int .u64 (e.2.o : Int)) ∧ X.cell? ⟨lb, i * 4 + 2, none⟩ = some (.int .u64 (e.2.a : Int)) ∧ X.cell? ⟨lb, i * 4 + 3, none⟩ = some (.slice DB dl dc) := fun h => ⟨(h.blk 3 rfl).at_ 6 rfl, own_cells (h.own 2 rfl) _ _ (entP_get les i hil 0 _ (by rw [heq, hcell]; rfl)), own_cells (h.own 2 rfl) _ _ (entP_get les i hil 1 _ (by rw [heq, hcell]; rfl)), own_cells (h.own 2 rfl) _ _ (entP_get les i hil 2 _ (by rw [heq, hcell]; rfl)), own_cells (h.own 2 rfl) _ _ (entP_get les i hil 3 _ (by rw [heq, hcell]; rfl))⟩
      have s4 : (0 : Int) ≤ (i : Int) := by omega
      clear cs cs2
      go_upto_region 13 with (fail)
      refine plain_under (fun w => w.cell? ⟨gp, 6, none⟩ = some (.slice YA (n + i) yc) ∧ w.cell? ⟨lb, i * 4, none⟩ = some (.int .u32 (e.2.e : Int)) ∧ w.cell? ⟨lb, i * 4 + 1, none⟩ = some (.int .u64 (e.2.o : Int)) ∧ w.cell? ⟨lb, i * 4 + 2, none⟩ = some (.int .u64 (e.2.a : Int)) ∧ w.cell? ⟨lb, i * 4 + 3, none⟩ = some (.slice DB dl dc)) (fun j => decide (j < 13)) (by kernel_rfl) ?_
      have hSS : wr.drew.cell? ⟨gp, 6, none⟩ = some (.slice YA (n + i) yc) ∧ wr.drew.cell? ⟨lb, i * 4, none⟩ = some (.int .u32 (e.2.e : Int)) ∧ wr.drew.cell? ⟨lb, i * 4 + 1, none⟩ = some (.int .u64 (e.2.o : Int)) ∧ wr.drew.cell? ⟨lb, i * 4 + 2, none⟩ = some (.int .u64 (e.2.a : Int)) ∧ wr.drew.cell? ⟨lb, i * 4 + 3, none⟩ = some (.slice DB dl dc) := ⟨y0, y1, y2, y3, y4⟩
      have S12 := S11.drew
      clear y0 y1 y2 y3 y4 S11
      generalize wr.drew = w12 at hSS S12 ⊢
      simp only [List.size_toArray, List.length_cons, List.length_nil, Nat.reduceAdd, Array.replicate_succ, Array.replicate_zero, List.push_toArray, List.nil_append, List.cons_append]
      refine under_free (i := 0) (v := ?_) rfl (by kernel_rfl) (fun _ _ _ h => h) _ _ _ _ (by kernel_rfl) (by kernel_rfl) (Or.inl ⟨by rfl, ?_⟩) ?_
      rotate_left
      · intro w _
        go_simp
        try with_reducible rfl
      simp only [Act.put, List.setIfInBounds_toArray, List.set_cons_zero, List.set_cons_succ, List.getElem_toArray, List.getElem_cons_zero]
      refine under_free (i := 1) (v := ?_) rfl (by kernel_rfl) (fun _ _ _ h => h) _ _ _ _ (by kernel_rfl) (by kernel_rfl) (Or.inl ⟨by rfl, ?_⟩) ?_
      rotate_left
      · intro w _
        go_simp
        try with_reducible rfl
      simp only [Act.put, List.setIfInBounds_toArray, List.set_cons_zero, List.set_cons_succ, List.getElem_toArray, List.getElem_cons_zero, List.getElem_cons_succ]
      refine under_free (i := 2) (v := ?_) rfl (by kernel_rfl) (fun _ _ _ h => h) _ _ _ _ (by kernel_rfl) (by kernel_rfl) (Or.inl ⟨by rfl, ?_⟩) ?_
      rotate_left
      · intro w _
        go_simp
        try with_reducible rfl
      simp only [Act.put, List.setIfInBounds_toArray, List.set_cons_zero, List.set_cons_succ, List.getElem_toArray, List.getElem_cons_zero, List.getElem_cons_succ]
      refine under_free (i := 3) (v := ?_) rfl (by kernel_rfl) (fun _ _ _ h => h) _ _ _ _ (by kernel_rfl) (by kernel_rfl) (Or.inl ⟨by rfl, ?_⟩) ?_
      rotate_left
      · intro w _
        go_simp
        try with_reducible rfl
      simp only [Act.put, List.setIfInBounds_toArray, List.set_cons_zero, List.set_cons_succ, List.getElem_toArray, List.getElem_cons_zero, List.getElem_cons_succ]
      refine under_take (i := 4) (v := ?_) rfl (by kernel_rfl) (by kernel_rfl) (fun _ _ _ h => h) _ _ _ _ (by kernel_rfl) (by kernel_rfl) (by kernel_rfl) (Or.inl ⟨by rfl, ?_⟩) hSS ?_
      rotate_left
      · intro w hSw
        obtain ⟨q0, q1, q2, q3, q4⟩ := hSw
        go_simp
        try with_reducible rfl
      simp only [Act.put, List.setIfInBounds_toArray, List.set_cons_zero, List.set_cons_succ, List.getElem_toArray, List.getElem_cons_zero, List.getElem_cons_succ]
      refine under_free (i := 5) (v := ?_) rfl (by kernel_rfl) (fun _ _ _ h => h) _ _ _ _ (by kernel_rfl) (by kernel_rfl) (Or.inl ⟨by rfl, ?_⟩) ?_
      rotate_left
      · intro w _
        go_simp
        try with_reducible rfl
      simp only [Act.put, List.setIfInBounds_toArray, List.set_cons_zero, List.set_cons_succ, List.getElem_toArray, List.getElem_cons_zero, List.getElem_cons_succ]
      refine under_free (i := 6) (v := ?_) rfl (by kernel_rfl) (fun _ _ _ h => h) _ _ _ _ (by kernel_rfl) (by kernel_rfl) (Or.inl ⟨by rfl, ?_⟩) ?_
      rotate_left
      · intro w _
        go_simp
        try with_reducible rfl
      simp only [Act.put, List.setIfInBounds_toArray, List.set_cons_zero, List.set_cons_succ, List.getElem_toArray, List.getElem_cons_zero, List.getElem_cons_succ]
      refine under_free (i := 7) (v := ?_) rfl (by kernel_rfl) (fun _ _ _ h => h) _ _ _ _ (by kernel_rfl) (by kernel_rfl) (Or.inl ⟨by rfl, ?_⟩) ?_
      rotate_left
      · intro w _
        go_simp
        try with_reducible rfl
      simp only [Act.put, List.setIfInBounds_toArray, List.set_cons_zero, List.set_cons_succ, List.getElem_toArray, List.getElem_cons_zero, List.getElem_cons_succ]
      refine under_take (i := 8) (v := ?_) rfl (by kernel_rfl) (by kernel_rfl) (fun _ _ _ h => h) _ _ _ _ (by kernel_rfl) (by kernel_rfl) (by kernel_rfl) (Or.inl ⟨by rfl, ?_⟩) hSS ?_
      rotate_left
      · intro w hSw
        obtain ⟨q0, q1, q2, q3, q4⟩ := hSw
        go_simp
        try with_reducible rfl
      simp only [Act.put, List.setIfInBounds_toArray, List.set_cons_zero, List.set_cons_succ, List.getElem_toArray, List.getElem_cons_zero, List.getElem_cons_succ]
      refine under_one (i := 9) (by kernel_rfl) rfl ?_
      intro K hK
      go_simp
      have S13 := S12.boxF 32 #[.int .u32 (e.2.e : Int), .int .u64 (e.2.o : Int), .int .u64 (e.2.a : Int), .slice DB dl dc]
      have hWs : w12.heap.size < (w12.alloc (.cells #[.int .u32 (e.2.e : Int), .int .u64 (e.2.o : Int), .int .u64 (e.2.a : Int), .slice DB dl dc] 32)).heap.size := by simp
      replace hSS := facts S13
      refine hK _ _ (fun _ => hSS) ?_
      clear hK K S12
      generalize w12.heap.size = nb at S13 hWs ⊢
      generalize w12.alloc (.cells #[.int .u32 (e.2.e : Int), .int .u64 (e.2.o : Int), .int .u64 (e.2.a : Int), .slice DB dl dc] 32) = w13 at S13 hSS hWs ⊢
      simp only [List.setIfInBounds_toArray, List.set_cons_zero, List.set_cons_succ]
      refine under_one (i := 10) (by kernel_rfl) rfl ?_
      intro K hK
      obtain ⟨i32, hi32, hz0, hz1, hz2⟩ := info_parts info32
      have hrd : Reads w13 w13.heap.size 4 (some ⟨nb, 0, none⟩) 1 [.int .u32 (e.2.e : Int), .int .u64 (e.2.o : Int), .int .u64 (e.2.a : Int), .slice DB dl dc] := by
        refine ⟨rfl, fun _ => ⟨_, rfl, hWs, fun j x hj => ?_⟩⟩
        have hb := (S13.blk 0 rfl).cell j
        have he : (⟨nb, 0, none⟩ : Addr).add j = ⟨nb, j, none⟩ := by unfold Addr.add; split <;> simp_all
        rw [he, hb, ← Array.getElem?_toList]
        exact hj
      have hone : ∀ x ∈ [Value.int .u32 (e.2.e : Int), .int .u64 (e.2.o : Int), .int .u64 (e.2.a : Int), .slice DB dl dc], x.oneCell' = true := by
        intro x hx
        simp only [List.mem_cons, List.not_mem_nil, or_false] at hx
        rcases hx with rfl | rfl | rfl | rfl <;> rfl
      refine step_append_any _ rfl (.tmp 92) (.tmp 97) 28 rfl 0 32 i32 _ 4 48 Try.underlying28 hi32 hz0 hz1 hz2 rfl (by omega) (.slice YA (n + i) yc) (n + i) _ rfl (S13.own 1 rfl) _ (some ⟨nb, 0, none⟩) 1 1 _ rfl hrd hone (by unfold maxLen; omega) (by omega) (Nat.zero_le _) ?_
      intro v15 w15 hown hg hat
      have S15 := S13.pushed 1 rfl hown hg hat
      replace hSS := facts S15
      refine hK _ _ (fun _ => hSS) ?_
      clear hK K hown hg hat hrd hone S13 hWs hi32 hz0 hz1 hz2
      obtain ⟨a5, c5, hv15, -, -⟩ := own_slice (S15.own 1 rfl)
      subst hv15
      have z15 := (S15.blk 3 rfl).frozen 6
      have k15 := hSS.1
      simp only [Act.put, List.setIfInBounds_toArray, List.set_cons_zero, List.set_cons_succ, List.getElem_toArray, List.getElem_cons_zero, List.getElem_cons_succ]
      refine under_free (i := 11) (v := ?_) rfl (by kernel_rfl) (fun _ _ _ h => h) _ _ _ _ (by kernel_rfl) (by kernel_rfl) (Or.inl ⟨by rfl, ?_⟩) ?_
      rotate_left
      · intro w _
        go_simp
        try with_reducible rfl
      simp only [Act.put, List.setIfInBounds_toArray, List.set_cons_zero, List.set_cons_succ, List.getElem_toArray, List.getElem_cons_zero, List.getElem_cons_succ]
      refine under_free (i := 12) (v := ?_) rfl (by kernel_rfl) (fun _ _ _ h => h) _ _ _ _ (by kernel_rfl) (by kernel_rfl) (Or.inl ⟨by rfl, ?_⟩) ?_
      rotate_left
      · intro w _
        go_simp
        try with_reducible rfl
      simp only [Act.put, List.setIfInBounds_toArray, List.set_cons_zero, List.set_cons_succ, List.getElem_toArray, List.getElem_cons_zero, List.getElem_cons_succ]
      refine under_one (i := 13) (by kernel_rfl) rfl ?_
      intro K hK
      go_simp
      have S16 := S15.put 3 rfl 6 (.slice a5 (n + i + 1) c5)
      refine hK _ _ (fun h => by cases h) ?_
      clear hK K S15 z15 k15 hSS
      refine under_done (by kernel_rfl) ?_ _
      have S17 := S16.tail
      generalize w15.setCell ⟨gp, 6, none⟩ (.slice a5 (n + i + 1) c5) = w17 at S17 ⊢
      clear facts S16
      have k7 : w17.cell? ⟨gp, 7, none⟩ = some (.slice IA (n + i) ic) := (S17.blk 2 rfl).at_ 7 rfl
      obtain ⟨W18, hW18, S18⟩ := S17.boxedF 3 #[.int .i64 0]
      have hn18 : w17.heap.size < W18.heap.size := by rw [← hW18]; simp
      obtain ⟨nb, hnb⟩ : ∃ nb, w17.heap.size = nb := ⟨_, rfl⟩
      rw [hnb] at S18 hn18
      have HS18 := Lib.hid S18
      have Hn18 := Lib.hid hn18
      have Hni := Lib.hid (show n + i + 1 ≤ 2000000000 by omega)
      have k18 : W18.cell? ⟨gp, 7, none⟩ = some (.slice IA (n + i) ic) := (S18.blk 3 rfl).at_ 7 rfl
      clear S17 S18 hn18
      go_wp2_with (
        at_builtin
        obtain ⟨i3, hi3, hy0, hy1, hy2⟩ := info_parts info3
        have hrd : Reads W18 W18.heap.size 1 (some ⟨nb, 0, none⟩) 1 [.int .i64 0] := by
          refine ⟨rfl, fun _ => ⟨_, rfl, Hn18.out, fun j x hj => ?_⟩⟩
          have hb := (HS18.out.blk 0 rfl).cell j
          have he : (⟨nb, 0, none⟩ : Addr).add j = ⟨nb, j, none⟩ := by unfold Addr.add; split <;> simp_all
          rw [he, hb, ← Array.getElem?_toList]
          exact hj
        refine wpList_append_any _ rfl (.tmp 105) (.tmp 108) 47 rfl 0 3 i3 _ 1 8 Try.underlying47 hi3 hy0 hy1 hy2 rfl (by omega) (.slice IA (n + i) ic) (n + i) _ rfl (HS18.out.own 4 rfl) _ (some ⟨nb, 0, none⟩) 1 1 _ rfl hrd (by intro u hu; rw [List.mem_singleton] at hu; subst hu; rfl) (by have := Hni.out; unfold maxLen; omega) (by have := Hni.out; omega) (Nat.zero_le _) ?_
        intro v19 w19 hown hg hat
        have S19 := HS18.out.pushed 4 rfl hown hg hat
        obtain ⟨a19, c19, hv19, -, -⟩ := own_slice (S19.own 4 rfl)
        subst hv19
        have k19 := (S19.blk 3 rfl).at_ 7 rfl
        have z19 := (S19.blk 3 rfl).frozen 7
        have HS20 := Lib.hid (S19.put 3 rfl 7 (.slice a19 (n + i + 1) c19))
        clear hown hg hat hrd S19 k18 k7 hi3 hy0 hy1 hy2)
      go_roundw
      case measure => simp [intOf]; omega
      case rel =>
        refine ⟨i + 1, a5, a19, c5, c19, hlt, by go_num, ?_⟩
        have hte : les.take (i + 1) = les.take i ++ [e] := by rw [List.take_add_one, he]; rfl
        have h1 : entP es ++ entP (les.take (i + 1)) = entP es ++ entP (les.take i) ++ [.int .u32 (e.2.e : Int), .int .u64 (e.2.o : Int), .int .u64 (e.2.a : Int), .slice DB dl dc] := by
          rw [hte, entP_append, List.append_assoc, ← hcell]
          congr 2
        have h2 : p.ws.map enI ++ List.replicate (i + 1) (Value.int .i64 0) = p.ws.map enI ++ List.replicate i (Value.int .i64 0) ++ [.int .i64 0] := by rw [List.append_assoc, ← List.replicate_succ']
        rw [h1, h2]
        exact HS20.out.tail
    · have hil : i = lm := by omega
      subst hil
      have HS := Lib.hid S11
      clear S11 hdat hlt hi
      go_wp2_with fail
      go_ret
      refine ⟨rfl, ?_⟩
      have S12 := HS.out
      rw [List.take_of_length_le (by omega)] at S12
      have S13 : Sep w0 wr (row 32 4 (.slice YA (n + i) yc) (n + i) (entP es ++ entP les) :: cell gp 49 #[.pointer (some ⟨g0, 0, none⟩), .pointer (some ⟨g1, 0, none⟩), vw0, vw1, vr0, vr1, .slice YA (n + i) yc, .slice IA (n + i) ic] :: row 3 1 (.slice IA (n + i) ic) (n + i) (p.ws.map enI ++ List.replicate i (.int .i64 0)) :: T) := S12.ix 4 [0, 2, 3] [1] (by decide)
      have hnew : (tickPS p true).ws = p.ws ++ ps.map fun q => (false, q) := by unfold tickPS; rw [hps]; rfl
      have hws : (es ++ les).map (·.2) = (tickPS p true).ws.map (·.2) := by rw [hnew, List.map_append, List.map_append, hes, hles, List.map_map]; congr 1; exact (List.map_id _).symm
      have hwl : (tickPS p true).ws.length = n + i := by rw [hnew, List.length_append, List.length_map, hn, hlel]
      have hwI : (tickPS p true).ws.map enI = p.ws.map enI ++ List.replicate i (.int .i64 0) := by
        rw [hnew, List.map_append, List.map_map]
        congr 1
        rw [hlel]
        exact List.eq_replicate_iff.2 ⟨by simp, fun b hb => by obtain ⟨q, -, rfl⟩ := List.mem_map.1 hb; rfl⟩
      have hds2 : InD (es ++ les) (ds ++ lds) := by
        intro e he
        rcases List.mem_append.1 he with he | he
        · exact List.mem_append_left _ (hds e he)
        · exact List.mem_append_right _ (hlds e he)
      have S14 : Sep w0 wr (row 32 4 (.slice YA (n + i) yc) (es ++ les).length (entP (es ++ les)) :: ((ds ++ lds).map rowD ++ (cell gp 49 #[.pointer (some ⟨g0, 0, none⟩), .pointer (some ⟨g1, 0, none⟩), vw0, vw1, vr0, vr1, .slice YA (n + i) yc, .slice IA (n + i) ic] :: IRow (.slice IA (n + i) ic) (tickPS p true).ws :: LinkAt g0 (p.l false) :: LinkAt g1 (tickS (p.l true)) :: BRow vw0 (p.wr false) :: BRow vw1 (p.wr true) :: BRow vr0 (p.rd false) :: BRow vr1 (p.rd true) :: M))) := by
        unfold IRow
        rw [hwl, hwI, List.length_append, hesl, hlml, entP_append, List.map_append, List.append_assoc, hU]
        rw [← hT] at S13
        exact S13.perm (.cons _ (perm_float22 _ _ _ _ _).symm)
      have S15 := Sep.closeK hws hds2 S14
      exact Sep.closeP2 (p := tickPS p true) ⟨g0, g1, vw0, vw1, vr0, vr1, .slice YA (n + i) yc, .slice IA (n + i) ic⟩ (S15.ix 9 [1, 3, 4, 5, 6, 7, 8, 0, 2] [] (by decide))
theorem step1_any {gp : Nat} {p : PS} (d : Nat) (hd : d % 6 = 1) (s : Bool) (a : Int) (A : Option Addr) (m c : Nat) (hlen : p.ws.length ≤ 1000000000) (hI : Inv (p.l s)) (ht : (p.l s).ticks ≤ 1000) (hS : Sep w0 w (PairAt gp p :: M)) :
    Calls Try.prog 22 #[.pointer (some ⟨gp, 0, none⟩), .agg #[.int .u8 (d : Int), .bool s, .int .i64 a, .slice A m c]] w fun en w' => en = .returned (.bool true) ∧ Sep w0 w' (PairAt gp (tickPS p s) :: M) := by
  cases s
  · exact step1_false d hd a A m c hlen hI ht hS
  · exact step1_true d hd a A m c hlen hI ht hS
end
end Go.Proofs.Ytpgiljjjpijepaa
