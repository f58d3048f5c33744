/- Same packets. -/
import Derived.Test.YtpgiljjjpijepaaLRefT
namespace Go.Proofs.Ytpgiljjjpijepaa
open Go.RowKit
section
variable {w0 w w' : World} {L M : List Asn}
set_option maxRecDepth 100000 in
theorem same_any (p : Pk) (A B : Option Addr) (n c d : Nat) (hA : RB w A n p.d) (hB : RB w B n p.d) (hS : Sep w0 w L) : Calls Try.prog 39 #[.agg #[.int .u32 (p.e : Int), .int .u64 (p.o : Int), .int .u64 (p.a : Int), .slice A n c], .agg #[.int .u32 (p.e : Int), .int .u64 (p.o : Int), .int .u64 (p.a : Int), .slice B n d]] w fun en w' => en = .returned (.bool true) ∧ Sep w0 w' L := by
  obtain ⟨W1, hW1, S1⟩ := hS.boxedF 32 #[.int .u32 (p.e : Int), .int .u64 (p.o : Int), .int .u64 (p.a : Int), .slice A n c]
  obtain ⟨b1, hb1⟩ : ∃ b, w.heap.size = b := ⟨_, rfl⟩
  rw [hb1] at S1
  obtain ⟨W2, hW2, S2⟩ := S1.boxedF 32 #[.int .u32 (p.e : Int), .int .u64 (p.o : Int), .int .u64 (p.a : Int), .slice B n d]
  obtain ⟨b2, hb2⟩ : ∃ b, W1.heap.size = b := ⟨_, rfl⟩
  rw [hb2] at S2
  have hbel : Below w.heap.size w W2 := by rw [← hW2, ← hW1]; exact ((Below.refl _ _).alloc (Nat.le_refl _) _).alloc (by simp) _
  obtain ⟨x, hx⟩ : ∃ x, strB p.d = x := ⟨_, rfl⟩
  have k1 : (convert 27 9 (.slice A n c)).run Try.prog W2 = .ok (.string x) W2 := by rw [← hx]; exact str_conv (hA.below hbel)
  have k2 : (convert 27 9 (.slice B n d)).run Try.prog W2 = .ok (.string x) W2 := by rw [← hx]; exact str_conv (hB.below hbel)
  have u0 := (S2.blk 1 rfl).at_ 0 rfl
  have u1 := (S2.blk 1 rfl).at_ 1 rfl
  have u2' := (S2.blk 1 rfl).at_ 2 rfl
  have u3' := (S2.blk 1 rfl).at_ 3 rfl
  have v0 := (S2.blk 0 rfl).at_ 0 rfl
  have v1 := (S2.blk 0 rfl).at_ 1 rfl
  have v2 := (S2.blk 0 rfl).at_ 2 rfl
  have v3 := (S2.blk 0 rfl).at_ 3 rfl
  have HS := Lib.hid S2
  clear S1 S2 hS hA hB hbel hx
  go_enter Try.func39, Try.ntmps39
  go_wp2_with fail
  go_ret
  exact ⟨rfl, HS.out.tail.tail⟩
theorem perm_mid2 (r b : Asn) (U R : List Asn) : (r :: (U ++ (b :: R))).Perm (b :: r :: (U ++ R)) := (List.Perm.cons _ List.perm_middle).trans (List.Perm.swap _ _ _)
theorem perm_two (r2 r1 : Asn) (G D R : List Asn) : (r2 :: (G ++ (r1 :: (D ++ R)))).Perm (r1 :: r2 :: (D ++ (G ++ R))) := by
  refine (List.Perm.cons _ List.perm_middle).trans ((List.Perm.swap _ _ _).trans (.cons _ (.cons _ ?_)))
  have h := (List.perm_append_comm (l₁ := G) (l₂ := D)).append_right R
  simpa using h
set_option maxRecDepth 100000 in
set_option maxHeartbeats 2000000 in
theorem packets_any (v1 v2 : Value) (ps : List Pk) (hlen : ps.length ≤ 100000) (hS : Sep w0 w (PkX v1 ps :: PkX v2 ps :: L)) : Calls Try.prog 27 #[v1, v2] w fun en w' => en = .returned (.bool true) ∧ Sep w0 w' (PkX v1 ps :: PkX v2 ps :: L) := by
  obtain ⟨es, ds, hes, hds, S1⟩ := hS.openK
  have S2 : Sep w0 w (PkX v2 ps :: row 32 4 v1 es.length (entP es) :: (ds.map rowD ++ L)) := S1.perm (perm_mid2 _ _ _ _)
  obtain ⟨fs, gs, hfs, hgs, S3⟩ := S2.openK
  obtain ⟨n, hn⟩ : ∃ n, ps.length = n := ⟨_, rfl⟩
  rw [hn] at hlen
  have hesl : es.length = n := by rw [← hn, ← hes, List.length_map]
  have hfsl : fs.length = n := by rw [← hn, ← hfs, List.length_map]
  rw [hesl, hfsl] at S3
  have S4' := S3.perm (perm_two _ _ _ _ _)
  obtain ⟨A1, r1, hv1, -, -⟩ := own_slice (S4'.own 0 rfl)
  obtain ⟨A2, r2, hv2, -, -⟩ := own_slice (S4'.own 1 rfl)
  subst hv1 hv2
  have S4 : Sep w0 w (row 32 4 (.slice A1 n r1) n (entP es) :: row 32 4 (.slice A2 n r2) n (entP fs) :: (ds.map rowD ++ (gs.map rowD ++ L))) := S4'
  clear S4'
  have hfin : Hid (∀ W, Sep w0 W (row 32 4 (.slice A1 n r1) n (entP es) :: row 32 4 (.slice A2 n r2) n (entP fs) :: (ds.map rowD ++ (gs.map rowD ++ L))) → Sep w0 W (PkX (.slice A1 n r1) ps :: PkX (.slice A2 n r2) ps :: L)) := Lib.hid fun W h => by
    have h1 : Sep w0 W (row 32 4 (.slice A2 n r2) fs.length (entP fs) :: (gs.map rowD ++ (row 32 4 (.slice A1 n r1) n (entP es) :: (ds.map rowD ++ L)))) := by rw [hfsl]; exact h.perm (perm_two _ _ _ _ _).symm
    have h2 := Sep.closeK hfs hgs h1
    have h3 : Sep w0 W (row 32 4 (.slice A1 n r1) es.length (entP es) :: (ds.map rowD ++ (PkX (.slice A2 n r2) ps :: L))) := by rw [hesl]; exact h2.perm (perm_mid2 _ _ _ _).symm
    exact Sep.closeK hes hds h3
  have Hd := Lib.hid (And.intro hes (And.intro hfs (And.intro hds (And.intro hgs (And.intro hesl (And.intro hfsl hn))))))
  clear S1 S2 S3 hS hes hfs hds hgs hesl hfsl hn
  have H4 := Lib.hid S4
  clear S4
  go_enter Try.func27, Try.ntmps27
  go_wp2_with fail
  go_loopw [5] (fun p5 wr => ∃ k : Nat, k ≤ n ∧ p5 = .int .i64 (k : Int) ∧ Sep w0 wr (row 32 4 (.slice A1 n r1) n (entP es) :: row 32 4 (.slice A2 n r2) n (entP fs) :: (ds.map rowD ++ (gs.map rowD ++ L)))) (fun p5 _ => n - (intOf p5).toNat)
  case atStart => exact ⟨0, Nat.zero_le _, rfl, H4.out⟩
  case round =>
    clear H4
    obtain ⟨k, hk, rfl, S5⟩ := hrel
    by_cases hlt : k < n
    · have hlt' : (k : Int) < (n : Int) := by omega
      obtain ⟨hes, hfs, hds, hgs, hesl, hfsl, hn⟩ := Hd.out
      obtain ⟨q, hq⟩ : ∃ q, ps[k]? = some q := ⟨_, List.getElem?_eq_getElem (by omega)⟩
      have pick : ∀ (xs : List EntP), xs.map (·.2) = ps → ∃ e, ∃ h : k < xs.length, xs[k] = e ∧ e.2 = q := fun xs hx => by
        have h1 : (xs.map (·.2))[k]? = some q := by rw [hx]; exact hq
        rw [List.getElem?_map] at h1
        cases hy : xs[k]? with
        | none => rw [hy] at h1; cases h1
        | some e =>
          rw [hy] at h1
          obtain ⟨h2, h3⟩ := List.getElem?_eq_some_iff.1 hy
          exact ⟨e, h2, h3, by injection h1⟩
      obtain ⟨e, hel, heg, heq⟩ := pick es hes
      obtain ⟨f, hfl, hfg, hfq⟩ := pick fs hfs
      obtain ⟨D1, c1, hu1, -, -, hR1⟩ := rb_of S5.tail.tail (hds e (by rw [← heg]; exact List.getElem_mem hel))
      obtain ⟨D2, c2, hu2, -, -, hR2⟩ := rb_of S5.tail.tail.dropAll (hgs f (by rw [← hfg]; exact List.getElem_mem hfl))
      rw [heq] at hu1 hR1
      rw [hfq] at hu2 hR2
      obtain ⟨dl, hdl⟩ : ∃ dl, q.d.length = dl := ⟨_, rfl⟩
      rw [hdl] at hu1 hR1 hu2 hR2
      obtain ⟨b1, x1, hb1, -⟩ := (S5.own 0 rfl).form (by omega)
      injection hb1 with hb1 h2 h3
      subst hb1
      clear h2 h3
      obtain ⟨b2, x2, hb2, -⟩ := (S5.own 1 rfl).form (by omega)
      injection hb2 with hb2 h2 h3
      subst hb2
      clear h2 h3
      have hc1 : es[k].2.cells es[k].1 = [.int .u32 (q.e : Int), .int .u64 (q.o : Int), .int .u64 (q.a : Int), .slice D1 dl c1] := by rw [heg, heq, hu1]; rfl
      have hc2 : fs[k].2.cells fs[k].1 = [.int .u32 (q.e : Int), .int .u64 (q.o : Int), .int .u64 (q.a : Int), .slice D2 dl c2] := by rw [hfg, hfq, hu2]; rfl
      have facts : ∀ {X : World}, Sep w0 X (row 32 4 (.slice (some ⟨b1, 0, none⟩) n r1) n (entP es) :: row 32 4 (.slice (some ⟨b2, 0, none⟩) n r2) n (entP fs) :: (ds.map rowD ++ (gs.map rowD ++ L))) → X.cell? ⟨b1, k * 4, none⟩ = some (.int .u32 (q.e : Int)) ∧ X.cell? ⟨b1, k * 4 + 1, none⟩ = some (.int .u64 (q.o : Int)) ∧ X.cell? ⟨b1, k * 4 + 2, none⟩ = some (.int .u64 (q.a : Int)) ∧ X.cell? ⟨b1, k * 4 + 3, none⟩ = some (.slice D1 dl c1) ∧ X.cell? ⟨b2, k * 4, none⟩ = some (.int .u32 (q.e : Int)) ∧ X.cell? ⟨b2, k * 4 + 1, none⟩ = some (.int .u64 (q.o : Int)) ∧ X.cell? ⟨b2, k * 4 + 2, none⟩ = some (.int .u64 (q.a : Int)) ∧ X.cell? ⟨b2, k * 4 + 3, none⟩ = some (.slice D2 dl c2) := fun h => ⟨own_cells (h.own 0 rfl) _ _ (entP_get es k hel 0 _ (by rw [hc1]; rfl)), own_cells (h.own 0 rfl) _ _ (entP_get es k hel 1 _ (by rw [hc1]; rfl)), own_cells (h.own 0 rfl) _ _ (entP_get es k hel 2 _ (by rw [hc1]; rfl)), own_cells (h.own 0 rfl) _ _ (entP_get es k hel 3 _ (by rw [hc1]; rfl)),
        own_cells (h.own 1 rfl) _ _ (entP_get fs k hfl 0 _ (by rw [hc2]; rfl)), own_cells (h.own 1 rfl) _ _ (entP_get fs k hfl 1 _ (by rw [hc2]; rfl)), own_cells (h.own 1 rfl) _ _ (entP_get fs k hfl 2 _ (by rw [hc2]; rfl)), own_cells (h.own 1 rfl) _ _ (entP_get fs k hfl 3 _ (by rw [hc2]; rfl))⟩
      have s4 : (0 : Int) ≤ (k : Int) := by omega
      have hSS : wr.drew.cell? ⟨b1, k * 4, none⟩ = some (.int .u32 (q.e : Int)) ∧ wr.drew.cell? ⟨b1, k * 4 + 1, none⟩ = some (.int .u64 (q.o : Int)) ∧ wr.drew.cell? ⟨b1, k * 4 + 2, none⟩ = some (.int .u64 (q.a : Int)) ∧ wr.drew.cell? ⟨b1, k * 4 + 3, none⟩ = some (.slice D1 dl c1) ∧ wr.drew.cell? ⟨b2, k * 4, none⟩ = some (.int .u32 (q.e : Int)) ∧ wr.drew.cell? ⟨b2, k * 4 + 1, none⟩ = some (.int .u64 (q.o : Int)) ∧ wr.drew.cell? ⟨b2, k * 4 + 2, none⟩ = some (.int .u64 (q.a : Int)) ∧ wr.drew.cell? ⟨b2, k * 4 + 3, none⟩ = some (.slice D2 dl c2) := facts S5.drew
      have HC : Hid (∀ W, Below wr.heap.size wr W → Sep w0 W (row 32 4 (.slice (some ⟨b1, 0, none⟩) n r1) n (entP es) :: row 32 4 (.slice (some ⟨b2, 0, none⟩) n r2) n (entP fs) :: (ds.map rowD ++ (gs.map rowD ++ L))) → Calls Try.prog 39 #[.agg #[.int .u32 (q.e : Int), .int .u64 (q.o : Int), .int .u64 (q.a : Int), .slice D1 dl c1], .agg #[.int .u32 (q.e : Int), .int .u64 (q.o : Int), .int .u64 (q.a : Int), .slice D2 dl c2]] W fun en w' => en = .returned (.bool true) ∧ Sep w0 w' (row 32 4 (.slice (some ⟨b1, 0, none⟩) n r1) n (entP es) :: row 32 4 (.slice (some ⟨b2, 0, none⟩) n r2) n (entP fs) :: (ds.map rowD ++ (gs.map rowD ++ L)))) := Lib.hid fun W hb hS => same_any q D1 D2 dl c1 c2 (hR1.below hb) (hR2.below hb) hS
      have S6 := S5.drew
      have hbd : Below wr.heap.size wr wr.drew := (Below.refl _ _).drew
      clear S5 hes hfs hds hgs hesl hfsl hn pick heg heq hfg hfq hu1 hR1 hu2 hR2 hdl hc1 hc2 facts
      go_upto_region 6 with (fail)
      refine plain_under (fun w => w.cell? ⟨b1, k * 4, none⟩ = some (.int .u32 (q.e : Int)) ∧ w.cell? ⟨b1, k * 4 + 1, none⟩ = some (.int .u64 (q.o : Int)) ∧ w.cell? ⟨b1, k * 4 + 2, none⟩ = some (.int .u64 (q.a : Int)) ∧ w.cell? ⟨b1, k * 4 + 3, none⟩ = some (.slice D1 dl c1) ∧ w.cell? ⟨b2, k * 4, none⟩ = some (.int .u32 (q.e : Int)) ∧ w.cell? ⟨b2, k * 4 + 1, none⟩ = some (.int .u64 (q.o : Int)) ∧ w.cell? ⟨b2, k * 4 + 2, none⟩ = some (.int .u64 (q.a : Int)) ∧ w.cell? ⟨b2, k * 4 + 3, none⟩ = some (.slice D2 dl c2)) (fun j => decide (j < 8)) (by kernel_rfl) ?_
      generalize wr.drew = w5 at hSS S6 hbd ⊢
      simp only [List.size_toArray, List.length_cons, List.length_nil, Nat.reduceAdd, Array.replicate_succ, Array.replicate_zero, List.push_toArray, List.nil_append, List.cons_append]
      refine under_free (i := 0) (v := ?_) rfl (by kernel_rfl) (fun _ _ _ h => h) _ _ _ _ (by kernel_rfl) (by kernel_rfl) (Or.inl ⟨by rfl, ?_⟩) ?_
      rotate_left
      · intro w _
        go_simp
        try with_reducible rfl
      simp only [Act.put, List.setIfInBounds_toArray, List.set_cons_zero, List.set_cons_succ, List.getElem_toArray, List.getElem_cons_zero]
      refine under_free (i := 1) (v := ?_) rfl (by kernel_rfl) (fun _ _ _ h => h) _ _ _ _ (by kernel_rfl) (by kernel_rfl) (Or.inl ⟨by rfl, ?_⟩) ?_
      rotate_left
      · intro w _
        go_simp
        try with_reducible rfl
      simp only [Act.put, List.setIfInBounds_toArray, List.set_cons_zero, List.set_cons_succ, List.getElem_toArray, List.getElem_cons_zero, List.getElem_cons_succ]
      refine under_free (i := 2) (v := ?_) rfl (by kernel_rfl) (fun _ _ _ h => h) _ _ _ _ (by kernel_rfl) (by kernel_rfl) (Or.inl ⟨by rfl, ?_⟩) ?_
      rotate_left
      · intro w _
        go_simp
        try with_reducible rfl
      simp only [Act.put, List.setIfInBounds_toArray, List.set_cons_zero, List.set_cons_succ, List.getElem_toArray, List.getElem_cons_zero, List.getElem_cons_succ]
      refine under_take (i := 3) (v := ?_) rfl (by kernel_rfl) (by kernel_rfl) (fun _ _ _ h => h) _ _ _ _ (by kernel_rfl) (by kernel_rfl) (by kernel_rfl) (Or.inl ⟨by rfl, ?_⟩) hSS ?_
      rotate_left
      · intro w hSw
        obtain ⟨q0, q1, q2, q3, q4, q5, q6, q7⟩ := hSw
        go_simp
        try with_reducible rfl
      simp only [Act.put, List.setIfInBounds_toArray, List.set_cons_zero, List.set_cons_succ, List.getElem_toArray, List.getElem_cons_zero, List.getElem_cons_succ]
      refine under_free (i := 4) (v := ?_) rfl (by kernel_rfl) (fun _ _ _ h => h) _ _ _ _ (by kernel_rfl) (by kernel_rfl) (Or.inl ⟨by rfl, ?_⟩) ?_
      rotate_left
      · intro w _
        go_simp
        try with_reducible rfl
      simp only [Act.put, List.setIfInBounds_toArray, List.set_cons_zero, List.set_cons_succ, List.getElem_toArray, List.getElem_cons_zero, List.getElem_cons_succ]
      refine under_free (i := 5) (v := ?_) rfl (by kernel_rfl) (fun _ _ _ h => h) _ _ _ _ (by kernel_rfl) (by kernel_rfl) (Or.inl ⟨by rfl, ?_⟩) ?_
      rotate_left
      · intro w _
        go_simp
        try with_reducible rfl
      simp only [Act.put, List.setIfInBounds_toArray, List.set_cons_zero, List.set_cons_succ, List.getElem_toArray, List.getElem_cons_zero, List.getElem_cons_succ]
      refine under_free (i := 6) (v := ?_) rfl (by kernel_rfl) (fun _ _ _ h => h) _ _ _ _ (by kernel_rfl) (by kernel_rfl) (Or.inl ⟨by rfl, ?_⟩) ?_
      rotate_left
      · intro w _
        go_simp
        try with_reducible rfl
      simp only [Act.put, List.setIfInBounds_toArray, List.set_cons_zero, List.set_cons_succ, List.getElem_toArray, List.getElem_cons_zero, List.getElem_cons_succ]
      refine under_take (i := 7) (v := ?_) rfl (by kernel_rfl) (by kernel_rfl) (fun _ _ _ h => h) _ _ _ _ (by kernel_rfl) (by kernel_rfl) (by kernel_rfl) (Or.inl ⟨by rfl, ?_⟩) hSS ?_
      rotate_left
      · intro w hSw
        obtain ⟨q0, q1, q2, q3, q4, q5, q6, q7⟩ := hSw
        go_simp
        try with_reducible rfl
      simp only [Act.put, List.setIfInBounds_toArray, List.set_cons_zero, List.set_cons_succ, List.getElem_toArray, List.getElem_cons_zero, List.getElem_cons_succ]
      refine under_one (i := 8) (by kernel_rfl) rfl ?_
      intro K hK
      go_simp
      refine (HC.out _ hbd S6).mono ?_
      rintro en w7 ⟨rfl, S8⟩
      refine hK _ _ (fun h => by cases h) ?_
      clear hK K S6 hSS HC hbd
      simp only [List.setIfInBounds_toArray, List.set_cons_zero, List.set_cons_succ]
      refine under_one (i := 9) (by kernel_rfl) rfl ?_
      intro K hK
      go_simp
      refine hK _ _ (fun h => by cases h) ?_
      clear hK K
      simp only [List.setIfInBounds_toArray, List.set_cons_zero, List.set_cons_succ]
      refine under_done (by kernel_rfl) ?_ _
      have H8 := Lib.hid S8
      clear S8
      go_wp2_with fail
      go_roundw
      case measure => simp [intOf]; omega
      case rel => exact ⟨k + 1, hlt, by go_num, H8.out⟩
    · have H5 := Lib.hid S5
      clear S5
      go_wp2_with fail
      go_ret
      exact ⟨rfl, hfin.out _ H5.out⟩
end
end Go.Proofs.Ytpgiljjjpijepaa
