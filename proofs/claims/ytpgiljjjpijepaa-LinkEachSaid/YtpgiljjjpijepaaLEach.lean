/- LinkEach: each packet that is told has what it must. -/
import Derived.Test.YtpgiljjjpijepaaLBegins
namespace Go.Proofs.Ytpgiljjjpijepaa
open Go.RowKit
theorem tick_len {e : Nat} {L : LS} {wr : List Nat} (h : LInv e L wr) : (tickP L).length ≤ 2000 := by
  obtain ⟨-, a2, -, -, -, -, -, -, a9⟩ := late_same L
  have hlo := h.lo
  have h1 := pieces_len 1024 (lateS L) (by omega)
  unfold tickP told
  split
  · split <;> simp
  · omega
theorem stepS_tick {p : PS} {x : St} (h : x.d % 6 = 1) : stepS p x = tickPS p x.s := by
  unfold stepS
  rw [if_neg (by omega), if_pos h]
theorem base_take {e : Nat} {p : PS} {x : St} {t : Bool} {q : Pk} (hP : PInv e p) (hd : x.d % 6 = 2) (hy : at? p x.a = some (t, q)) : ∀ s, ((stepS p x).l s).base = if s = t then max (p.l t).base q.a else (p.l s).base := by
  intro s
  obtain ⟨-, -, h3, h4⟩ := hP.take t q _ hy
  have h : stepS p x = takePS p t q (pickN x.a p.ws.length) := by
    unfold stepS
    rw [if_neg (by omega), if_neg (by omega), if_neg (by omega), hy]
    simp only [if_pos hd]
  rw [h]
  by_cases hs : s = t
  · subst hs
    rw [if_pos rfl, h3, h4]
  · rw [if_neg hs]
    show (upd p.l t _ s).base = _
    rw [upd_ne _ _ _ _ hs]
theorem base_same {e : Nat} {p : PS} {x : St} (hP : PInv e p) (hd : x.d % 6 ≠ 2 ∨ p.ws = []) : ∀ s, ((stepS p x).l s).base = (p.l s).base := by
  intro s
  have hu : ∀ L : LS, L.base = (p.l x.s).base → (upd p.l x.s L s).base = (p.l s).base := by
    intro L h
    by_cases hs : s = x.s
    · subst hs; rw [upd_self, h]
    · rw [upd_ne _ _ _ _ hs]
  unfold stepS
  split
  · unfold writeP
    split
    · refine hu _ ?_
      unfold writeS
      split <;> rfl
    · rfl
  split
  · exact hu _ (tick_facts (hP.l x.s)).2.1
  split
  · exact hu _ rfl
  split
  · rfl
  · rename_i y hy
    have hne : x.d % 6 ≠ 2 := by
      rcases hd with hd | hd
      · exact hd
      · unfold at? at hy
        rw [hd] at hy
        simp at hy
    rw [if_neg hne]
    split <;> rfl
theorem Sep.eqL {w0 w : World} {L M : List Asn} (h : Sep w0 w L) (he : L = M) : Sep w0 w M := he ▸ h
theorem below_drewN (w : World) (n : Nat) : Below w.heap.size w (w.drewN n) := ⟨rfl, rfl, rfl, Nat.le_refl _, fun _ _ => rfl⟩
theorem perm9 (a b c d e f g h i : Asn) (U : List Asn) : (a :: b :: c :: d :: e :: f :: g :: h :: i :: U).Perm (U ++ [a, b, c, d, e, f, g, h, i]) := List.perm_append_comm (l₁ := [a, b, c, d, e, f, g, h, i])
theorem size43 : (Try.prog.info? 43).map (·.size) = some 4 := by kernel_rfl
theorem st_one (d : Int) (s : Bool) (a : Int) (D : Option Addr) (n m : Nat) : #[Value.int .u8 d, .bool s, .int .i64 a, .slice D n m].all (·.oneCell') = true := by kernel_rfl
theorem size32 : (Try.prog.info? 32).map (·.size) = some 4 := by kernel_rfl
theorem pk_one (e o a : Int) (D : Option Addr) (n m : Nat) : #[Value.int .u32 e, .int .u64 o, .int .u64 a, .slice D n m].all (·.oneCell') = true := by kernel_rfl
set_option maxRecDepth 100000 in
set_option maxHeartbeats 40000000 in
theorem each_any (e : Nat) (l : List Sv) (A : Option Addr) (c : Nat) (w : World) (hr : Reads w w.heap.size 4 A l.length (l.flatMap Sv.cs)) (hok : ∀ v ∈ l, v.ok w) : Calls Try.prog 4 #[.int .u32 (e : Int), .slice A l.length c] w fun en w' => en = .returned (.bool true) ∧ Below w.heap.size w w' := by
  have HG := Lib.hid (great_any l A c w hr)
  have HR := Lib.hid hr
  obtain ⟨n, hn⟩ : ∃ n, l.length = n := ⟨_, rfl⟩
  cases hgr : greatB l with
  | true =>
    rw [hn] at HG
    rw [hgr] at HG
    rw [hn]
    clear hr hn
    go_enter Try.func4, Try.ntmps4
    go_wp2_with fail
    refine HG.out.mono ?_
    rintro en w1 ⟨rfl, rfl⟩
    go_wp2_with fail
    go_ret
    exact ⟨rfl, Below.refl _ _⟩
  | false =>
  obtain ⟨hn150, hb700⟩ := great_no hgr
  rw [hn] at HG hn150
  rw [hgr] at HG
  have Hn := Lib.hid hn
  rw [hn]
  have Hok := Lib.hid hok
  have Hb7 := Lib.hid hb700
  clear hr hn hok hb700 hgr
  go_enter Try.func4, Try.ntmps4
  go_wp2_with fail
  refine HG.out.mono ?_
  rintro en w1 ⟨rfl, rfl⟩
  go_wp2_with fail
  refine (two_any e (Sep.start w)).mono ?_
  rintro en w2 ⟨gp, rfl, S2⟩
  obtain ⟨W3, hW3, S3⟩ := S2.boxedF 41 #[.int .u64 0, .int .u64 0]
  obtain ⟨ab, hab⟩ : ∃ ab, w2.heap.size = ab := ⟨_, rfl⟩
  rw [hab] at S3
  have S3' := S3.swap
  clear S2 S3
  go_wp2_with fail
  go_loopw [7, 8, 9, 10, 11, 12, 13, 14, 15] (fun p7 _ _ _ _ _ _ _ _ wr => ∃ (i : Nat) (p : PS), i ≤ n ∧ p7 = .int .i64 (i : Int) ∧ Hid (PN e i p) ∧ Sep w wr [PairAt gp p, cell ab 41 #[.int .u64 ((p.l false).base : Int), .int .u64 ((p.l true).base : Int)]]) (fun p7 _ _ _ _ _ _ _ _ _ => n - (intOf p7).toNat)
  case atStart => exact ⟨0, newP e, Nat.zero_le _, rfl, Lib.hid (PN.new e), S3'⟩
  case round =>
    clear S3' HG hW3 hab
    obtain ⟨i, p, hi, rfl, hP, S3⟩ := hrel
    by_cases hlt : i < n
    · have hlt' : (i : Int) < (n : Int) := by omega
      have hil : i < l.length := by have := Hn.out; omega
      obtain ⟨b, o, rfl, hbB, hcell⟩ := HR.out.elem (cells := Sv.cs) (fun _ => rfl) (by decide) hil
      obtain ⟨v, hv⟩ : ∃ v, l[i] = v := ⟨_, rfl⟩
      rw [hv] at hcell
      have hvm : v ∈ l := by rw [← hv]; exact List.getElem_mem hil
      have hvo := Hok.out v hvm
      have hv7 := Hb7.out v hvm
      obtain ⟨hP2, hR2⟩ := hP.out.step v.x hv7
      have HP2 := Lib.hid hP2
      have hk : ∀ j u, v.cs[j]? = some u → wr.cell? ⟨b, o + i * 4 + j, none⟩ = some u := fun j u hu => (S3.below.cell (p := ⟨b, o + i * 4 + j, none⟩) hbB).trans (hcell j u hu)
      have r0 : wr.cell? ⟨b, o + i * 4, none⟩ = some (.int .u8 (v.x.d : Int)) := hk 0 _ rfl
      have r1 : wr.cell? ⟨b, o + i * 4 + 1, none⟩ = some (.bool v.x.s) := hk 1 _ rfl
      have r2 : wr.cell? ⟨b, o + i * 4 + 2, none⟩ = some (.int .i64 v.x.a) := hk 2 _ rfl
      have r3 : wr.cell? ⟨b, o + i * 4 + 3, none⟩ = some (.slice v.A v.x.b.length v.c) := hk 3 _ rfl
      have s4 : (0 : Int) ≤ (i : Int) := by omega
      have hvR := hvo.at_
      obtain ⟨vm, hvm2⟩ : ∃ m, v.x.b.length = m := ⟨_, rfl⟩
      rw [hvm2] at r3 hv7 hvR
      obtain ⟨WX, hWX, S1⟩ := S3.boxedF 43 #[.int .u8 (v.x.d : Int), .bool v.x.s, .int .i64 v.x.a, .slice v.A vm v.c]
      obtain ⟨xb, hxb⟩ : ∃ b, wr.heap.size = b := ⟨_, rfl⟩
      rw [hxb] at S1
      have HXB := Lib.hid hxb
      obtain ⟨wn, hwn⟩ : ∃ n, p.ws.length = n := ⟨_, rfl⟩
      have hwnb : wn ≤ 300000 := by have := hP.out.ws; omega
      have y6e : ∃ YA yc, WX.cell? ⟨gp, 6, none⟩ = some (.slice YA wn yc) := by
        obtain ⟨pv, SO⟩ := S1.swap.openP2
        obtain ⟨YA, yc, h1, -⟩ := SO.pr 7 rfl
        rw [List.length_map, hwn] at h1
        exact ⟨YA, yc, by rw [← h1]; exact (SO.blk 0 rfl).at_ 6 rfl⟩
      obtain ⟨YA, yc, y6⟩ := y6e
      have x2 : WX.cell? ⟨xb, 2, none⟩ = some (.int .i64 v.x.a) := (S1.blk 0 rfl).at_ 2 rfl
      have HSt : Hid (∀ W M, Sep w W (PairAt gp p :: M) → Calls Try.prog 22 #[.pointer (some ⟨gp, 0, none⟩), .agg #[.int .u8 (v.x.d : Int), .bool v.x.s, .int .i64 v.x.a, .slice v.A vm v.c]] W fun en w' => en = .returned (.bool (stepR p v.x)) ∧ Sep w w' (PairAt gp (stepS p v.x) :: M)) := Lib.hid fun W M h => step_any (gp := gp) v.x v.A vm v.c (hP.out.fit (by omega)) (by omega) hvR h
      clear hk hcell hv hvm hvo hvm2 S3
      go_upto_region 9 with (refine wpList_store_row rfl 43 (.tmp 8) (.tmp 29) rfl xb #[.int .u8 (v.x.d : Int), .bool v.x.s, .int .i64 v.x.a, .slice v.A vm v.c] rfl rfl 43 _ (by rw [← HXB.out]; exact Blk.new _ _ _) size43 rfl (st_one _ _ _ _ _ _) ?_; rw [← HXB.out, World.setRow_alloc_new, hWX, HXB.out])
      refine plain_under (fun w => w.cell? ⟨xb, 2, none⟩ = some (.int .i64 v.x.a) ∧ w.cell? ⟨gp, 6, none⟩ = some (.slice YA wn yc)) (fun _ => true) (by kernel_rfl) ?_
      have hSS : WX.drew.cell? ⟨xb, 2, none⟩ = some (.int .i64 v.x.a) ∧ WX.drew.cell? ⟨gp, 6, none⟩ = some (.slice YA wn yc) := ⟨x2, y6⟩
      have SX := S1.drew
      have hb9 : ∀ g o, WX.drew.cell? ⟨g, o, none⟩ = WX.cell? ⟨g, o, none⟩ := fun _ _ => rfl
      clear x2 y6 hWX
      generalize WX.drew = W9 at hSS SX hb9 ⊢
      simp only [List.size_toArray, List.length_cons, List.length_nil, Nat.reduceAdd, Array.replicate_succ, Array.replicate_zero, List.push_toArray, List.nil_append, List.cons_append]
      refine under_free (i := 0) (v := ?_) rfl (by kernel_rfl) (fun _ _ _ h => h) _ _ _ _ (by kernel_rfl) (by kernel_rfl) (Or.inl ⟨by rfl, ?_⟩) ?_
      rotate_left
      · intro w _
        go_simp
        try with_reducible rfl
      simp only [Act.put, List.setIfInBounds_toArray, List.set_cons_zero, List.set_cons_succ, List.getElem_toArray, List.getElem_cons_zero]
      refine under_take (i := 1) (v := ?_) rfl (by kernel_rfl) (by kernel_rfl) (fun _ _ _ h => h) _ _ _ _ (by kernel_rfl) (by kernel_rfl) (by kernel_rfl) (Or.inl ⟨by rfl, ?_⟩) hSS ?_
      rotate_left
      · intro w hSw
        obtain ⟨q0, q1⟩ := hSw
        go_simp
        try with_reducible rfl
      simp only [Act.put, List.setIfInBounds_toArray, List.set_cons_zero, List.set_cons_succ, List.getElem_toArray, List.getElem_cons_zero, List.getElem_cons_succ]
      refine under_free (i := 2) (v := ?_) rfl (by kernel_rfl) (fun _ _ _ h => h) _ _ _ _ (by kernel_rfl) (by kernel_rfl) (Or.inl ⟨by rfl, ?_⟩) ?_
      rotate_left
      · intro w _
        go_simp
        try with_reducible rfl
      simp only [Act.put, List.setIfInBounds_toArray, List.set_cons_zero, List.set_cons_succ, List.getElem_toArray, List.getElem_cons_zero, List.getElem_cons_succ]
      refine under_free (i := 3) (v := ?_) rfl (by kernel_rfl) (fun _ _ _ h => h) _ _ _ _ (by kernel_rfl) (by kernel_rfl) (Or.inl ⟨by rfl, ?_⟩) ?_
      rotate_left
      · intro w _
        go_simp
        try with_reducible rfl
      simp only [Act.put, List.setIfInBounds_toArray, List.set_cons_zero, List.set_cons_succ, List.getElem_toArray, List.getElem_cons_zero, List.getElem_cons_succ]
      refine under_free (i := 4) (v := ?_) rfl (by kernel_rfl) (fun _ _ _ h => h) _ _ _ _ (by kernel_rfl) (by kernel_rfl) (Or.inl ⟨by rfl, ?_⟩) ?_
      rotate_left
      · intro w _
        go_simp
        try with_reducible rfl
      simp only [Act.put, List.setIfInBounds_toArray, List.set_cons_zero, List.set_cons_succ, List.getElem_toArray, List.getElem_cons_zero, List.getElem_cons_succ]
      refine under_take (i := 5) (v := ?_) rfl (by kernel_rfl) (by kernel_rfl) (fun _ _ _ h => h) _ _ _ _ (by kernel_rfl) (by kernel_rfl) (by kernel_rfl) (Or.inl ⟨by rfl, ?_⟩) hSS ?_
      rotate_left
      · intro w hSw
        obtain ⟨q0, q1⟩ := hSw
        go_simp
        try with_reducible rfl
      simp only [Act.put, List.setIfInBounds_toArray, List.set_cons_zero, List.set_cons_succ, List.getElem_toArray, List.getElem_cons_zero, List.getElem_cons_succ]
      refine under_free (i := 6) (v := ?_) rfl (by kernel_rfl) (fun _ _ _ h => h) _ _ _ _ (by kernel_rfl) (by kernel_rfl) (Or.inl ⟨by rfl, ?_⟩) ?_
      rotate_left
      · intro w _
        go_simp
        try with_reducible rfl
      simp only [Act.put, List.setIfInBounds_toArray, List.set_cons_zero, List.set_cons_succ, List.getElem_toArray, List.getElem_cons_zero, List.getElem_cons_succ]
      refine under_one (i := 7) (by kernel_rfl) rfl ?_
      intro K hK
      go_simp
      refine (pick_any v.x.a wn (by omega) _).mono ?_
      rintro en w3 ⟨rfl, rfl⟩
      refine hK _ _ (fun _ => hSS) ?_
      clear hK K
      simp only [List.setIfInBounds_toArray, List.set_cons_zero, List.set_cons_succ]
      refine under_free (i := 8) (v := ?_) rfl (by kernel_rfl) (fun _ _ _ h => h) _ _ _ _ (by kernel_rfl) (by kernel_rfl) (Or.inl ⟨by rfl, ?_⟩) ?_
      rotate_left
      · intro w _
        go_simp
        try with_reducible rfl
      simp only [Act.put, List.setIfInBounds_toArray, List.set_cons_zero, List.set_cons_succ, List.getElem_toArray, List.getElem_cons_zero, List.getElem_cons_succ]
      refine under_done (by kernel_rfl) ?_ _
      have y6r := hSS.2
      clear hSS hb9
      have x0k : w3.cell? ⟨xb, 0, none⟩ = some (.int .u8 (v.x.d : Int)) := (SX.blk 0 rfl).at_ 0 rfl
      have y6k : w3.cell? ⟨gp, 6, none⟩ = some (.slice YA wn yc) := y6r
      clear y6r r0 r1 r2 r3 s4
      by_cases hd2 : v.x.d % 6 = 2
      · cases hy : at? p v.x.a with
        | none =>
          have hw0 := at_none hy
          clear hy
          as_aux_lemma =>
          have hdm : (v.x.d : Int) % 6 = 2 := by omega
          have hpk : pickI v.x.a wn = -1 := by unfold pickI; rw [if_pos (by rw [← hwn, hw0]; rfl)]
          simp only [hpk]
          clear hpk
          have x0 : w3.cell? ⟨xb, 0, none⟩ = some (.int .u8 (v.x.d : Int)) := (SX.blk 0 rfl).at_ 0 rfl
          have x1 : w3.cell? ⟨xb, 1, none⟩ = some (.bool v.x.s) := (SX.blk 0 rfl).at_ 1 rfl
          have x2 : w3.cell? ⟨xb, 2, none⟩ = some (.int .i64 v.x.a) := (SX.blk 0 rfl).at_ 2 rfl
          have x3 : w3.cell? ⟨xb, 3, none⟩ = some (.slice v.A vm v.c) := (SX.blk 0 rfl).at_ 3 rfl
          -- the step
          have HS := Lib.hid (HSt.out _ _ SX.swap)
          rw [hR2] at HS
          go_wp2_with fail
          refine HS.out.mono ?_
          rintro en w4 ⟨rfl, S4⟩
          have hmx0 : ∀ s, ((stepS p v.x).l s).base = (p.l s).base := base_same hP.out.inv (.inr hw0)
          have hb0 := hmx0 false
          have hb1 := hmx0 true
          replace S4 : Sep w w4 (PairAt gp (stepS p v.x) :: [cell xb 43 #[.int .u8 (v.x.d : Int), .bool v.x.s, .int .i64 v.x.a, .slice v.A vm v.c], cell ab 41 #[.int .u64 ((p.l false).base : Int), .int .u64 ((p.l true).base : Int)]]) := S4
          have x0' : w4.cell? ⟨xb, 0, none⟩ = some (.int .u8 (v.x.d : Int)) := (S4.blk 1 rfl).at_ 0 rfl
          have S5 := S4.drop 1
          clear HS S4
          go_wp2_with fail
          go_roundw
          case measure => simp [intOf]; omega
          case rel => exact ⟨i + 1, _, hlt, by go_num, HP2, by
            have h := S5
            rw [hb0, hb1]
            exact h⟩
        | some y =>
          obtain ⟨tt, q⟩ := y
          cases tt
          · have hdm : (v.x.d : Int) % 6 = 2 := by omega
            have hk := at_some hy
            rw [hwn] at hk
            obtain ⟨k, hkk⟩ : ∃ k, pickN v.x.a p.ws.length = k := ⟨_, rfl⟩
            have hyk : p.ws[k]? = some (false, q) := by rw [← hkk]; exact hy
            rw [← hwn, hkk] at hk
            rw [hwn] at hk
            simp only [hk]
            have hkn : k < wn := by have h := (List.getElem?_eq_some_iff.1 hyk).1; omega
            have k0 : (0 : Int) ≤ (k : Int) := by omega
            -- the cells
            obtain ⟨pv, SO⟩ := SX.swap.openP2
            obtain ⟨g0, g1, vw0, vw1, vr0, vr1, vy, vt⟩ := pv
            have z6 := (SO.blk 0 rfl).at_ 6 rfl
            rw [y6k] at z6
            injection z6 with z6
            have z6' : .slice YA wn yc = vy := z6
            subst z6'
            clear z6
            obtain ⟨IA, ic, htt, -, -⟩ := own_slice (SO.own 8 rfl)
            rw [hwn] at htt
            dsimp only at htt
            subst htt
            obtain ⟨ib, ic2, hib, -⟩ := (SO.own 8 rfl).form (by omega)
            injection hib with hib h2 h3
            subst hib
            clear h2 h3
            have hIk : (p.ws.map enI)[k]? = some (.int .i64 0) := by rw [List.getElem?_map, hyk]; rfl
            obtain ⟨PA, pc, hpa, -, -, hpr⟩ := SO.pr 7 rfl
            have hmapk : (p.ws.map (·.2))[k]? = some q := by rw [List.getElem?_map, hyk]; rfl
            obtain ⟨yb, yo, DB, dc, hA, -, -, r2, -⟩ := hpr.elem hmapk
            injection hpa with hpa h2 h3
            subst hpa
            subst hA
            clear h2 h3
            have hSS : w3.drew.cell? ⟨gp, 7, none⟩ = some (.slice (some ⟨ib, 0, none⟩) wn ic) ∧ w3.drew.cell? ⟨ib, k, none⟩ = some (.int .i64 0) ∧ w3.drew.cell? ⟨ab, 0, none⟩ = some (.int .u64 ((p.l false).base : Int)) ∧ w3.drew.cell? ⟨gp, 6, none⟩ = some (.slice (some ⟨yb, yo, none⟩) wn yc) ∧ w3.drew.cell? ⟨yb, yo + k * 4 + 2, none⟩ = some (.int .u64 (q.a : Int)) := ⟨(SO.blk 0 rfl).at_ 7 rfl, irow_cells SO 8 rfl hwn _ _ hIk, (SO.blk 10 rfl).at_ 0 rfl, (SO.blk 0 rfl).at_ 6 rfl, r2⟩
            have hAz : w3.drew.frozen? ⟨ab, 0, none⟩ = false := (SO.blk 10 rfl).frozen 0
            have HHY := Lib.hid hy
            have HK := Lib.hid hyk
            clear hy hyk hk hkk
            by_cases hlt2 : (p.l false).base < q.a
            · as_aux_lemma =>
              have hm1 : ((p.l false).base : Int) < (q.a : Int) := by omega
              have HMX : Hid (max (p.l false).base q.a = q.a) := Lib.hid (by omega)
              clear hlt2
              have SD := SX.drew
              clear SO hpr r2 hIk hmapk SX y6k hP2
              go_upto_region 11 with (fail)
              refine plain_under (fun w => w.cell? ⟨gp, 7, none⟩ = some (.slice (some ⟨ib, 0, none⟩) wn ic) ∧ w.cell? ⟨ib, k, none⟩ = some (.int .i64 0) ∧ w.cell? ⟨ab, 0, none⟩ = some (.int .u64 ((p.l false).base : Int)) ∧ w.cell? ⟨gp, 6, none⟩ = some (.slice (some ⟨yb, yo, none⟩) wn yc) ∧ w.cell? ⟨yb, yo + k * 4 + 2, none⟩ = some (.int .u64 (q.a : Int))) (fun j => decide (j < 26)) (by kernel_rfl) ?_
              generalize w3.drew = w10 at hSS hAz SD ⊢
              simp only [List.size_toArray, List.length_cons, List.length_nil, Nat.reduceAdd, Array.replicate_succ, Array.replicate_zero, List.push_toArray, List.nil_append, List.cons_append]
              refine under_free (i := 0) (v := ?_) rfl (by kernel_rfl) (fun _ _ _ h => h) _ _ _ _ (by kernel_rfl) (by kernel_rfl) (Or.inl ⟨by rfl, ?_⟩) ?_
              rotate_left
              · intro w _
                go_simp
                try with_reducible rfl
              simp only [Act.put, List.setIfInBounds_toArray, List.set_cons_zero, List.set_cons_succ, List.getElem_toArray, List.getElem_cons_zero]
              refine under_free (i := 1) (v := ?_) rfl (by kernel_rfl) (fun _ _ _ h => h) _ _ _ _ (by kernel_rfl) (by kernel_rfl) (Or.inl ⟨by rfl, ?_⟩) ?_
              rotate_left
              · intro w _
                go_simp
                try with_reducible rfl
              simp only [Act.put, List.setIfInBounds_toArray, List.set_cons_zero, List.set_cons_succ, List.getElem_toArray, List.getElem_cons_zero, List.getElem_cons_succ]
              refine under_free (i := 2) (v := ?_) rfl (by kernel_rfl) (fun _ _ _ h => h) _ _ _ _ (by kernel_rfl) (by kernel_rfl) (Or.inl ⟨by rfl, ?_⟩) ?_
              rotate_left
              · intro w _
                go_simp
                try with_reducible rfl
              simp only [Act.put, List.setIfInBounds_toArray, List.set_cons_zero, List.set_cons_succ, List.getElem_toArray, List.getElem_cons_zero, List.getElem_cons_succ]
              refine under_take (i := 3) (v := ?_) rfl (by kernel_rfl) (by kernel_rfl) (fun _ _ _ h => h) _ _ _ _ (by kernel_rfl) (by kernel_rfl) (by kernel_rfl) (Or.inl ⟨by rfl, ?_⟩) hSS ?_
              rotate_left
              · intro w hSw
                obtain ⟨q0, q1, q2, q3, q4⟩ := hSw
                go_simp
                try with_reducible rfl
              simp only [Act.put, List.setIfInBounds_toArray, List.set_cons_zero, List.set_cons_succ, List.getElem_toArray, List.getElem_cons_zero, List.getElem_cons_succ]
              refine under_free (i := 4) (v := ?_) rfl (by kernel_rfl) (fun _ _ _ h => h) _ _ _ _ (by kernel_rfl) (by kernel_rfl) (Or.inl ⟨by rfl, ?_⟩) ?_
              rotate_left
              · intro w _
                go_simp
                try with_reducible rfl
              simp only [Act.put, List.setIfInBounds_toArray, List.set_cons_zero, List.set_cons_succ, List.getElem_toArray, List.getElem_cons_zero, List.getElem_cons_succ]
              refine under_free (i := 5) (v := ?_) rfl (by kernel_rfl) (fun _ _ _ h => h) _ _ _ _ (by kernel_rfl) (by kernel_rfl) (Or.inl ⟨by rfl, ?_⟩) ?_
              rotate_left
              · intro w _
                go_simp
                try with_reducible rfl
              simp only [Act.put, List.setIfInBounds_toArray, List.set_cons_zero, List.set_cons_succ, List.getElem_toArray, List.getElem_cons_zero, List.getElem_cons_succ]
              refine under_take (i := 6) (v := ?_) rfl (by kernel_rfl) (by kernel_rfl) (fun _ _ _ h => h) _ _ _ _ (by kernel_rfl) (by kernel_rfl) (by kernel_rfl) (Or.inl ⟨by rfl, ?_⟩) hSS ?_
              rotate_left
              · intro w hSw
                obtain ⟨q0, q1, q2, q3, q4⟩ := hSw
                go_simp
                try with_reducible rfl
              simp only [Act.put, List.setIfInBounds_toArray, List.set_cons_zero, List.set_cons_succ, List.getElem_toArray, List.getElem_cons_zero, List.getElem_cons_succ]
              refine under_free (i := 7) (v := ?_) rfl (by kernel_rfl) (fun _ _ _ h => h) _ _ _ _ (by kernel_rfl) (by kernel_rfl) (Or.inl ⟨by rfl, ?_⟩) ?_
              rotate_left
              · intro w _
                go_simp
                try with_reducible rfl
              simp only [Act.put, List.setIfInBounds_toArray, List.set_cons_zero, List.set_cons_succ, List.getElem_toArray, List.getElem_cons_zero, List.getElem_cons_succ]
              refine under_free (i := 8) (v := ?_) rfl (by kernel_rfl) (fun _ _ _ h => h) _ _ _ _ (by kernel_rfl) (by kernel_rfl) (Or.inl ⟨by rfl, ?_⟩) ?_
              rotate_left
              · intro w _
                go_simp
                try with_reducible rfl
              simp only [Act.put, List.setIfInBounds_toArray, List.set_cons_zero, List.set_cons_succ, List.getElem_toArray, List.getElem_cons_zero, List.getElem_cons_succ]
              refine under_free (i := 9) (v := ?_) rfl (by kernel_rfl) (fun _ _ _ h => h) _ _ _ _ (by kernel_rfl) (by kernel_rfl) (Or.inl ⟨by rfl, ?_⟩) ?_
              rotate_left
              · intro w _
                go_simp
                try with_reducible rfl
              simp only [Act.put, List.setIfInBounds_toArray, List.set_cons_zero, List.set_cons_succ, List.getElem_toArray, List.getElem_cons_zero, List.getElem_cons_succ]
              refine under_take (i := 10) (v := ?_) rfl (by kernel_rfl) (by kernel_rfl) (fun _ _ _ h => h) _ _ _ _ (by kernel_rfl) (by kernel_rfl) (by kernel_rfl) (Or.inl ⟨by rfl, ?_⟩) hSS ?_
              rotate_left
              · intro w hSw
                obtain ⟨q0, q1, q2, q3, q4⟩ := hSw
                go_simp
                try with_reducible rfl
              simp only [Act.put, List.setIfInBounds_toArray, List.set_cons_zero, List.set_cons_succ, List.getElem_toArray, List.getElem_cons_zero, List.getElem_cons_succ]
              refine under_free (i := 11) (v := ?_) rfl (by kernel_rfl) (fun _ _ _ h => h) _ _ _ _ (by kernel_rfl) (by kernel_rfl) (Or.inl ⟨by rfl, ?_⟩) ?_
              rotate_left
              · intro w _
                go_simp
                try with_reducible rfl
              simp only [Act.put, List.setIfInBounds_toArray, List.set_cons_zero, List.set_cons_succ, List.getElem_toArray, List.getElem_cons_zero, List.getElem_cons_succ]
              refine under_free (i := 12) (v := ?_) rfl (by kernel_rfl) (fun _ _ _ h => h) _ _ _ _ (by kernel_rfl) (by kernel_rfl) (Or.inl ⟨by rfl, ?_⟩) ?_
              rotate_left
              · intro w _
                go_simp
                try with_reducible rfl
              simp only [Act.put, List.setIfInBounds_toArray, List.set_cons_zero, List.set_cons_succ, List.getElem_toArray, List.getElem_cons_zero, List.getElem_cons_succ]
              refine under_take (i := 13) (v := ?_) rfl (by kernel_rfl) (by kernel_rfl) (fun _ _ _ h => h) _ _ _ _ (by kernel_rfl) (by kernel_rfl) (by kernel_rfl) (Or.inl ⟨by rfl, ?_⟩) hSS ?_
              rotate_left
              · intro w hSw
                obtain ⟨q0, q1, q2, q3, q4⟩ := hSw
                go_simp
                try with_reducible rfl
              simp only [Act.put, List.setIfInBounds_toArray, List.set_cons_zero, List.set_cons_succ, List.getElem_toArray, List.getElem_cons_zero, List.getElem_cons_succ]
              refine under_free (i := 14) (v := ?_) rfl (by kernel_rfl) (fun _ _ _ h => h) _ _ _ _ (by kernel_rfl) (by kernel_rfl) (Or.inl ⟨by rfl, ?_⟩) ?_
              rotate_left
              · intro w _
                go_simp
                try with_reducible rfl
              simp only [Act.put, List.setIfInBounds_toArray, List.set_cons_zero, List.set_cons_succ, List.getElem_toArray, List.getElem_cons_zero, List.getElem_cons_succ]
              refine under_take (i := 15) (v := ?_) rfl (by kernel_rfl) (by kernel_rfl) (fun _ _ _ h => h) _ _ _ _ (by kernel_rfl) (by kernel_rfl) (by kernel_rfl) (Or.inl ⟨by rfl, ?_⟩) hSS ?_
              rotate_left
              · intro w hSw
                obtain ⟨q0, q1, q2, q3, q4⟩ := hSw
                go_simp
                try with_reducible rfl
              simp only [Act.put, List.setIfInBounds_toArray, List.set_cons_zero, List.set_cons_succ, List.getElem_toArray, List.getElem_cons_zero, List.getElem_cons_succ]
              refine under_free (i := 16) (v := ?_) rfl (by kernel_rfl) (fun _ _ _ h => h) _ _ _ _ (by kernel_rfl) (by kernel_rfl) (Or.inl ⟨by rfl, ?_⟩) ?_
              rotate_left
              · intro w _
                go_simp
                try with_reducible rfl
              simp only [Act.put, List.setIfInBounds_toArray, List.set_cons_zero, List.set_cons_succ, List.getElem_toArray, List.getElem_cons_zero, List.getElem_cons_succ]
              refine under_free (i := 17) (v := ?_) rfl (by kernel_rfl) (fun _ _ _ h => h) _ _ _ _ (by kernel_rfl) (by kernel_rfl) (Or.inl ⟨by rfl, ?_⟩) ?_
              rotate_left
              · intro w _
                go_simp
                try with_reducible rfl
              simp only [Act.put, List.setIfInBounds_toArray, List.set_cons_zero, List.set_cons_succ, List.getElem_toArray, List.getElem_cons_zero, List.getElem_cons_succ]
              refine under_free (i := 18) (v := ?_) rfl (by kernel_rfl) (fun _ _ _ h => h) _ _ _ _ (by kernel_rfl) (by kernel_rfl) (Or.inl ⟨by rfl, ?_⟩) ?_
              rotate_left
              · intro w _
                go_simp
                try with_reducible rfl
              simp only [Act.put, List.setIfInBounds_toArray, List.set_cons_zero, List.set_cons_succ, List.getElem_toArray, List.getElem_cons_zero, List.getElem_cons_succ]
              refine under_take (i := 19) (v := ?_) rfl (by kernel_rfl) (by kernel_rfl) (fun _ _ _ h => h) _ _ _ _ (by kernel_rfl) (by kernel_rfl) (by kernel_rfl) (Or.inl ⟨by rfl, ?_⟩) hSS ?_
              rotate_left
              · intro w hSw
                obtain ⟨q0, q1, q2, q3, q4⟩ := hSw
                go_simp
                try with_reducible rfl
              simp only [Act.put, List.setIfInBounds_toArray, List.set_cons_zero, List.set_cons_succ, List.getElem_toArray, List.getElem_cons_zero, List.getElem_cons_succ]
              refine under_free (i := 20) (v := ?_) rfl (by kernel_rfl) (fun _ _ _ h => h) _ _ _ _ (by kernel_rfl) (by kernel_rfl) (Or.inl ⟨by rfl, ?_⟩) ?_
              rotate_left
              · intro w _
                go_simp
                try with_reducible rfl
              simp only [Act.put, List.setIfInBounds_toArray, List.set_cons_zero, List.set_cons_succ, List.getElem_toArray, List.getElem_cons_zero, List.getElem_cons_succ]
              refine under_free (i := 21) (v := ?_) rfl (by kernel_rfl) (fun _ _ _ h => h) _ _ _ _ (by kernel_rfl) (by kernel_rfl) (Or.inl ⟨by rfl, ?_⟩) ?_
              rotate_left
              · intro w _
                go_simp
                try with_reducible rfl
              simp only [Act.put, List.setIfInBounds_toArray, List.set_cons_zero, List.set_cons_succ, List.getElem_toArray, List.getElem_cons_zero, List.getElem_cons_succ]
              refine under_free (i := 22) (v := ?_) rfl (by kernel_rfl) (fun _ _ _ h => h) _ _ _ _ (by kernel_rfl) (by kernel_rfl) (Or.inl ⟨by rfl, ?_⟩) ?_
              rotate_left
              · intro w _
                go_simp
                try with_reducible rfl
              simp only [Act.put, List.setIfInBounds_toArray, List.set_cons_zero, List.set_cons_succ, List.getElem_toArray, List.getElem_cons_zero, List.getElem_cons_succ]
              refine under_take (i := 23) (v := ?_) rfl (by kernel_rfl) (by kernel_rfl) (fun _ _ _ h => h) _ _ _ _ (by kernel_rfl) (by kernel_rfl) (by kernel_rfl) (Or.inl ⟨by rfl, ?_⟩) hSS ?_
              rotate_left
              · intro w hSw
                obtain ⟨q0, q1, q2, q3, q4⟩ := hSw
                go_simp
                try with_reducible rfl
              simp only [Act.put, List.setIfInBounds_toArray, List.set_cons_zero, List.set_cons_succ, List.getElem_toArray, List.getElem_cons_zero, List.getElem_cons_succ]
              refine under_free (i := 24) (v := ?_) rfl (by kernel_rfl) (fun _ _ _ h => h) _ _ _ _ (by kernel_rfl) (by kernel_rfl) (Or.inl ⟨by rfl, ?_⟩) ?_
              rotate_left
              · intro w _
                go_simp
                try with_reducible rfl
              simp only [Act.put, List.setIfInBounds_toArray, List.set_cons_zero, List.set_cons_succ, List.getElem_toArray, List.getElem_cons_zero, List.getElem_cons_succ]
              refine under_free (i := 25) (v := ?_) rfl (by kernel_rfl) (fun _ _ _ h => h) _ _ _ _ (by kernel_rfl) (by kernel_rfl) (Or.inl ⟨by rfl, ?_⟩) ?_
              rotate_left
              · intro w _
                go_simp
                try with_reducible rfl
              simp only [Act.put, List.setIfInBounds_toArray, List.set_cons_zero, List.set_cons_succ, List.getElem_toArray, List.getElem_cons_zero, List.getElem_cons_succ]
              refine under_one (i := 26) (by kernel_rfl) rfl ?_
              intro K hK
              go_simp
              refine hK _ _ (fun h => by cases h) ?_
              clear hK K
              refine under_done (by kernel_rfl) ?_ _
              have S12 := SD.put 2 rfl 0 (.int .u64 (q.a : Int))
              generalize w10.setCell ⟨ab, 0, none⟩ (.int .u64 (q.a : Int)) = w12 at S12 ⊢
              replace S12 : Sep w w12 (cell xb 43 #[.int .u8 (v.x.d : Int), .bool v.x.s, .int .i64 v.x.a, .slice v.A vm v.c] :: PairAt gp p :: [cell ab 41 #[.int .u64 (q.a : Int), .int .u64 ((p.l true).base : Int)]]) := S12
              clear SD hSS hAz
              have z6 : ∃ YA yc, w12.cell? ⟨gp, 6, none⟩ = some (.slice YA wn yc) := by
                obtain ⟨pv, SO⟩ := S12.swap.openP2
                obtain ⟨YA, yc, h1, -⟩ := SO.pr 7 rfl
                rw [List.length_map, hwn] at h1
                exact ⟨YA, yc, by rw [← h1]; exact (SO.blk 0 rfl).at_ 6 rfl⟩
              obtain ⟨YA2, yc2, z6⟩ := z6
              have x0 : w12.cell? ⟨xb, 0, none⟩ = some (.int .u8 (v.x.d : Int)) := (S12.blk 0 rfl).at_ 0 rfl
              have x1 : w12.cell? ⟨xb, 1, none⟩ = some (.bool v.x.s) := (S12.blk 0 rfl).at_ 1 rfl
              have x2 : w12.cell? ⟨xb, 2, none⟩ = some (.int .i64 v.x.a) := (S12.blk 0 rfl).at_ 2 rfl
              have x3 : w12.cell? ⟨xb, 3, none⟩ = some (.slice v.A vm v.c) := (S12.blk 0 rfl).at_ 3 rfl
              have SX := S12
              clear S12
              -- the step
              have HS := Lib.hid (HSt.out _ _ SX.swap)
              rw [hR2] at HS
              go_wp2_with fail
              refine HS.out.mono ?_
              rintro en w4 ⟨rfl, S4⟩
              have hmx0 : ∀ s, ((stepS p v.x).l s).base = if s = false then max (p.l false).base q.a else (p.l s).base := base_take hP.out.inv hd2 HHY.out
              rw [HMX.out] at hmx0
              have hb0 : ((stepS p v.x).l false).base = q.a := hmx0 false
              have hb1 : ((stepS p v.x).l true).base = (p.l true).base := hmx0 true
              replace S4 : Sep w w4 (PairAt gp (stepS p v.x) :: [cell xb 43 #[.int .u8 (v.x.d : Int), .bool v.x.s, .int .i64 v.x.a, .slice v.A vm v.c], cell ab 41 #[.int .u64 (q.a : Int), .int .u64 ((p.l true).base : Int)]]) := S4
              have x0' : w4.cell? ⟨xb, 0, none⟩ = some (.int .u8 (v.x.d : Int)) := (S4.blk 1 rfl).at_ 0 rfl
              have S5 := S4.drop 1
              clear HS S4
              go_wp2_with fail
              go_roundw
              case measure => simp [intOf]; omega
              case rel => exact ⟨i + 1, _, hlt, by go_num, HP2, by
                have h := S5
                rw [hb0, hb1]
                exact h⟩
            · as_aux_lemma =>
              have hm1 : ¬ ((p.l false).base : Int) < (q.a : Int) := by omega
              have HMX : Hid (max (p.l false).base q.a = (p.l false).base) := Lib.hid (by omega)
              clear hlt2
              have SD := SX.drew
              clear SO hpr r2 hIk hmapk SX y6k hP2
              go_upto_region 11 with (fail)
              refine plain_under (fun w => w.cell? ⟨gp, 7, none⟩ = some (.slice (some ⟨ib, 0, none⟩) wn ic) ∧ w.cell? ⟨ib, k, none⟩ = some (.int .i64 0) ∧ w.cell? ⟨ab, 0, none⟩ = some (.int .u64 ((p.l false).base : Int)) ∧ w.cell? ⟨gp, 6, none⟩ = some (.slice (some ⟨yb, yo, none⟩) wn yc) ∧ w.cell? ⟨yb, yo + k * 4 + 2, none⟩ = some (.int .u64 (q.a : Int))) (fun j => decide (j < 26)) (by kernel_rfl) ?_
              generalize w3.drew = w10 at hSS hAz SD ⊢
              simp only [List.size_toArray, List.length_cons, List.length_nil, Nat.reduceAdd, Array.replicate_succ, Array.replicate_zero, List.push_toArray, List.nil_append, List.cons_append]
              refine under_free (i := 0) (v := ?_) rfl (by kernel_rfl) (fun _ _ _ h => h) _ _ _ _ (by kernel_rfl) (by kernel_rfl) (Or.inl ⟨by rfl, ?_⟩) ?_
              rotate_left
              · intro w _
                go_simp
                try with_reducible rfl
              simp only [Act.put, List.setIfInBounds_toArray, List.set_cons_zero, List.set_cons_succ, List.getElem_toArray, List.getElem_cons_zero]
              refine under_free (i := 1) (v := ?_) rfl (by kernel_rfl) (fun _ _ _ h => h) _ _ _ _ (by kernel_rfl) (by kernel_rfl) (Or.inl ⟨by rfl, ?_⟩) ?_
              rotate_left
              · intro w _
                go_simp
                try with_reducible rfl
              simp only [Act.put, List.setIfInBounds_toArray, List.set_cons_zero, List.set_cons_succ, List.getElem_toArray, List.getElem_cons_zero, List.getElem_cons_succ]
              refine under_free (i := 2) (v := ?_) rfl (by kernel_rfl) (fun _ _ _ h => h) _ _ _ _ (by kernel_rfl) (by kernel_rfl) (Or.inl ⟨by rfl, ?_⟩) ?_
              rotate_left
              · intro w _
                go_simp
                try with_reducible rfl
              simp only [Act.put, List.setIfInBounds_toArray, List.set_cons_zero, List.set_cons_succ, List.getElem_toArray, List.getElem_cons_zero, List.getElem_cons_succ]
              refine under_take (i := 3) (v := ?_) rfl (by kernel_rfl) (by kernel_rfl) (fun _ _ _ h => h) _ _ _ _ (by kernel_rfl) (by kernel_rfl) (by kernel_rfl) (Or.inl ⟨by rfl, ?_⟩) hSS ?_
              rotate_left
              · intro w hSw
                obtain ⟨q0, q1, q2, q3, q4⟩ := hSw
                go_simp
                try with_reducible rfl
              simp only [Act.put, List.setIfInBounds_toArray, List.set_cons_zero, List.set_cons_succ, List.getElem_toArray, List.getElem_cons_zero, List.getElem_cons_succ]
              refine under_free (i := 4) (v := ?_) rfl (by kernel_rfl) (fun _ _ _ h => h) _ _ _ _ (by kernel_rfl) (by kernel_rfl) (Or.inl ⟨by rfl, ?_⟩) ?_
              rotate_left
              · intro w _
                go_simp
                try with_reducible rfl
              simp only [Act.put, List.setIfInBounds_toArray, List.set_cons_zero, List.set_cons_succ, List.getElem_toArray, List.getElem_cons_zero, List.getElem_cons_succ]
              refine under_free (i := 5) (v := ?_) rfl (by kernel_rfl) (fun _ _ _ h => h) _ _ _ _ (by kernel_rfl) (by kernel_rfl) (Or.inl ⟨by rfl, ?_⟩) ?_
              rotate_left
              · intro w _
                go_simp
                try with_reducible rfl
              simp only [Act.put, List.setIfInBounds_toArray, List.set_cons_zero, List.set_cons_succ, List.getElem_toArray, List.getElem_cons_zero, List.getElem_cons_succ]
              refine under_take (i := 6) (v := ?_) rfl (by kernel_rfl) (by kernel_rfl) (fun _ _ _ h => h) _ _ _ _ (by kernel_rfl) (by kernel_rfl) (by kernel_rfl) (Or.inl ⟨by rfl, ?_⟩) hSS ?_
              rotate_left
              · intro w hSw
                obtain ⟨q0, q1, q2, q3, q4⟩ := hSw
                go_simp
                try with_reducible rfl
              simp only [Act.put, List.setIfInBounds_toArray, List.set_cons_zero, List.set_cons_succ, List.getElem_toArray, List.getElem_cons_zero, List.getElem_cons_succ]
              refine under_free (i := 7) (v := ?_) rfl (by kernel_rfl) (fun _ _ _ h => h) _ _ _ _ (by kernel_rfl) (by kernel_rfl) (Or.inl ⟨by rfl, ?_⟩) ?_
              rotate_left
              · intro w _
                go_simp
                try with_reducible rfl
              simp only [Act.put, List.setIfInBounds_toArray, List.set_cons_zero, List.set_cons_succ, List.getElem_toArray, List.getElem_cons_zero, List.getElem_cons_succ]
              refine under_free (i := 8) (v := ?_) rfl (by kernel_rfl) (fun _ _ _ h => h) _ _ _ _ (by kernel_rfl) (by kernel_rfl) (Or.inl ⟨by rfl, ?_⟩) ?_
              rotate_left
              · intro w _
                go_simp
                try with_reducible rfl
              simp only [Act.put, List.setIfInBounds_toArray, List.set_cons_zero, List.set_cons_succ, List.getElem_toArray, List.getElem_cons_zero, List.getElem_cons_succ]
              refine under_free (i := 9) (v := ?_) rfl (by kernel_rfl) (fun _ _ _ h => h) _ _ _ _ (by kernel_rfl) (by kernel_rfl) (Or.inl ⟨by rfl, ?_⟩) ?_
              rotate_left
              · intro w _
                go_simp
                try with_reducible rfl
              simp only [Act.put, List.setIfInBounds_toArray, List.set_cons_zero, List.set_cons_succ, List.getElem_toArray, List.getElem_cons_zero, List.getElem_cons_succ]
              refine under_take (i := 10) (v := ?_) rfl (by kernel_rfl) (by kernel_rfl) (fun _ _ _ h => h) _ _ _ _ (by kernel_rfl) (by kernel_rfl) (by kernel_rfl) (Or.inl ⟨by rfl, ?_⟩) hSS ?_
              rotate_left
              · intro w hSw
                obtain ⟨q0, q1, q2, q3, q4⟩ := hSw
                go_simp
                try with_reducible rfl
              simp only [Act.put, List.setIfInBounds_toArray, List.set_cons_zero, List.set_cons_succ, List.getElem_toArray, List.getElem_cons_zero, List.getElem_cons_succ]
              refine under_free (i := 11) (v := ?_) rfl (by kernel_rfl) (fun _ _ _ h => h) _ _ _ _ (by kernel_rfl) (by kernel_rfl) (Or.inl ⟨by rfl, ?_⟩) ?_
              rotate_left
              · intro w _
                go_simp
                try with_reducible rfl
              simp only [Act.put, List.setIfInBounds_toArray, List.set_cons_zero, List.set_cons_succ, List.getElem_toArray, List.getElem_cons_zero, List.getElem_cons_succ]
              refine under_free (i := 12) (v := ?_) rfl (by kernel_rfl) (fun _ _ _ h => h) _ _ _ _ (by kernel_rfl) (by kernel_rfl) (Or.inl ⟨by rfl, ?_⟩) ?_
              rotate_left
              · intro w _
                go_simp
                try with_reducible rfl
              simp only [Act.put, List.setIfInBounds_toArray, List.set_cons_zero, List.set_cons_succ, List.getElem_toArray, List.getElem_cons_zero, List.getElem_cons_succ]
              refine under_take (i := 13) (v := ?_) rfl (by kernel_rfl) (by kernel_rfl) (fun _ _ _ h => h) _ _ _ _ (by kernel_rfl) (by kernel_rfl) (by kernel_rfl) (Or.inl ⟨by rfl, ?_⟩) hSS ?_
              rotate_left
              · intro w hSw
                obtain ⟨q0, q1, q2, q3, q4⟩ := hSw
                go_simp
                try with_reducible rfl
              simp only [Act.put, List.setIfInBounds_toArray, List.set_cons_zero, List.set_cons_succ, List.getElem_toArray, List.getElem_cons_zero, List.getElem_cons_succ]
              refine under_free (i := 14) (v := ?_) rfl (by kernel_rfl) (fun _ _ _ h => h) _ _ _ _ (by kernel_rfl) (by kernel_rfl) (Or.inl ⟨by rfl, ?_⟩) ?_
              rotate_left
              · intro w _
                go_simp
                try with_reducible rfl
              simp only [Act.put, List.setIfInBounds_toArray, List.set_cons_zero, List.set_cons_succ, List.getElem_toArray, List.getElem_cons_zero, List.getElem_cons_succ]
              refine under_take (i := 15) (v := ?_) rfl (by kernel_rfl) (by kernel_rfl) (fun _ _ _ h => h) _ _ _ _ (by kernel_rfl) (by kernel_rfl) (by kernel_rfl) (Or.inl ⟨by rfl, ?_⟩) hSS ?_
              rotate_left
              · intro w hSw
                obtain ⟨q0, q1, q2, q3, q4⟩ := hSw
                go_simp
                try with_reducible rfl
              simp only [Act.put, List.setIfInBounds_toArray, List.set_cons_zero, List.set_cons_succ, List.getElem_toArray, List.getElem_cons_zero, List.getElem_cons_succ]
              refine under_free (i := 16) (v := ?_) rfl (by kernel_rfl) (fun _ _ _ h => h) _ _ _ _ (by kernel_rfl) (by kernel_rfl) (Or.inl ⟨by rfl, ?_⟩) ?_
              rotate_left
              · intro w _
                go_simp
                try with_reducible rfl
              simp only [Act.put, List.setIfInBounds_toArray, List.set_cons_zero, List.set_cons_succ, List.getElem_toArray, List.getElem_cons_zero, List.getElem_cons_succ]
              refine under_free (i := 17) (v := ?_) rfl (by kernel_rfl) (fun _ _ _ h => h) _ _ _ _ (by kernel_rfl) (by kernel_rfl) (Or.inl ⟨by rfl, ?_⟩) ?_
              rotate_left
              · intro w _
                go_simp
                try with_reducible rfl
              simp only [Act.put, List.setIfInBounds_toArray, List.set_cons_zero, List.set_cons_succ, List.getElem_toArray, List.getElem_cons_zero, List.getElem_cons_succ]
              refine under_free (i := 18) (v := ?_) rfl (by kernel_rfl) (fun _ _ _ h => h) _ _ _ _ (by kernel_rfl) (by kernel_rfl) (Or.inl ⟨by rfl, ?_⟩) ?_
              rotate_left
              · intro w _
                go_simp
                try with_reducible rfl
              simp only [Act.put, List.setIfInBounds_toArray, List.set_cons_zero, List.set_cons_succ, List.getElem_toArray, List.getElem_cons_zero, List.getElem_cons_succ]
              refine under_take (i := 19) (v := ?_) rfl (by kernel_rfl) (by kernel_rfl) (fun _ _ _ h => h) _ _ _ _ (by kernel_rfl) (by kernel_rfl) (by kernel_rfl) (Or.inl ⟨by rfl, ?_⟩) hSS ?_
              rotate_left
              · intro w hSw
                obtain ⟨q0, q1, q2, q3, q4⟩ := hSw
                go_simp
                try with_reducible rfl
              simp only [Act.put, List.setIfInBounds_toArray, List.set_cons_zero, List.set_cons_succ, List.getElem_toArray, List.getElem_cons_zero, List.getElem_cons_succ]
              refine under_free (i := 20) (v := ?_) rfl (by kernel_rfl) (fun _ _ _ h => h) _ _ _ _ (by kernel_rfl) (by kernel_rfl) (Or.inl ⟨by rfl, ?_⟩) ?_
              rotate_left
              · intro w _
                go_simp
                try with_reducible rfl
              simp only [Act.put, List.setIfInBounds_toArray, List.set_cons_zero, List.set_cons_succ, List.getElem_toArray, List.getElem_cons_zero, List.getElem_cons_succ]
              refine under_free (i := 21) (v := ?_) rfl (by kernel_rfl) (fun _ _ _ h => h) _ _ _ _ (by kernel_rfl) (by kernel_rfl) (Or.inl ⟨by rfl, ?_⟩) ?_
              rotate_left
              · intro w _
                go_simp
                try with_reducible rfl
              simp only [Act.put, List.setIfInBounds_toArray, List.set_cons_zero, List.set_cons_succ, List.getElem_toArray, List.getElem_cons_zero, List.getElem_cons_succ]
              refine under_free (i := 22) (v := ?_) rfl (by kernel_rfl) (fun _ _ _ h => h) _ _ _ _ (by kernel_rfl) (by kernel_rfl) (Or.inl ⟨by rfl, ?_⟩) ?_
              rotate_left
              · intro w _
                go_simp
                try with_reducible rfl
              simp only [Act.put, List.setIfInBounds_toArray, List.set_cons_zero, List.set_cons_succ, List.getElem_toArray, List.getElem_cons_zero, List.getElem_cons_succ]
              refine under_take (i := 23) (v := ?_) rfl (by kernel_rfl) (by kernel_rfl) (fun _ _ _ h => h) _ _ _ _ (by kernel_rfl) (by kernel_rfl) (by kernel_rfl) (Or.inl ⟨by rfl, ?_⟩) hSS ?_
              rotate_left
              · intro w hSw
                obtain ⟨q0, q1, q2, q3, q4⟩ := hSw
                go_simp
                try with_reducible rfl
              simp only [Act.put, List.setIfInBounds_toArray, List.set_cons_zero, List.set_cons_succ, List.getElem_toArray, List.getElem_cons_zero, List.getElem_cons_succ]
              refine under_free (i := 24) (v := ?_) rfl (by kernel_rfl) (fun _ _ _ h => h) _ _ _ _ (by kernel_rfl) (by kernel_rfl) (Or.inl ⟨by rfl, ?_⟩) ?_
              rotate_left
              · intro w _
                go_simp
                try with_reducible rfl
              simp only [Act.put, List.setIfInBounds_toArray, List.set_cons_zero, List.set_cons_succ, List.getElem_toArray, List.getElem_cons_zero, List.getElem_cons_succ]
              refine under_free (i := 25) (v := ?_) rfl (by kernel_rfl) (fun _ _ _ h => h) _ _ _ _ (by kernel_rfl) (by kernel_rfl) (Or.inl ⟨by rfl, ?_⟩) ?_
              rotate_left
              · intro w _
                go_simp
                try with_reducible rfl
              simp only [Act.put, List.setIfInBounds_toArray, List.set_cons_zero, List.set_cons_succ, List.getElem_toArray, List.getElem_cons_zero, List.getElem_cons_succ]
              refine under_one (i := 26) (by kernel_rfl) rfl ?_
              intro K hK
              go_simp
              refine hK _ _ (fun h => by cases h) ?_
              clear hK K
              refine under_done (by kernel_rfl) ?_ _
              have S12 := SD.put 2 rfl 0 (.int .u64 ((p.l false).base : Int))
              generalize w10.setCell ⟨ab, 0, none⟩ (.int .u64 ((p.l false).base : Int)) = w12 at S12 ⊢
              replace S12 : Sep w w12 (cell xb 43 #[.int .u8 (v.x.d : Int), .bool v.x.s, .int .i64 v.x.a, .slice v.A vm v.c] :: PairAt gp p :: [cell ab 41 #[.int .u64 ((p.l false).base : Int), .int .u64 ((p.l true).base : Int)]]) := S12
              clear SD hSS hAz
              have z6 : ∃ YA yc, w12.cell? ⟨gp, 6, none⟩ = some (.slice YA wn yc) := by
                obtain ⟨pv, SO⟩ := S12.swap.openP2
                obtain ⟨YA, yc, h1, -⟩ := SO.pr 7 rfl
                rw [List.length_map, hwn] at h1
                exact ⟨YA, yc, by rw [← h1]; exact (SO.blk 0 rfl).at_ 6 rfl⟩
              obtain ⟨YA2, yc2, z6⟩ := z6
              have x0 : w12.cell? ⟨xb, 0, none⟩ = some (.int .u8 (v.x.d : Int)) := (S12.blk 0 rfl).at_ 0 rfl
              have x1 : w12.cell? ⟨xb, 1, none⟩ = some (.bool v.x.s) := (S12.blk 0 rfl).at_ 1 rfl
              have x2 : w12.cell? ⟨xb, 2, none⟩ = some (.int .i64 v.x.a) := (S12.blk 0 rfl).at_ 2 rfl
              have x3 : w12.cell? ⟨xb, 3, none⟩ = some (.slice v.A vm v.c) := (S12.blk 0 rfl).at_ 3 rfl
              have SX := S12
              clear S12
              -- the step
              have HS := Lib.hid (HSt.out _ _ SX.swap)
              rw [hR2] at HS
              go_wp2_with fail
              refine HS.out.mono ?_
              rintro en w4 ⟨rfl, S4⟩
              have hmx0 : ∀ s, ((stepS p v.x).l s).base = if s = false then max (p.l false).base q.a else (p.l s).base := base_take hP.out.inv hd2 HHY.out
              rw [HMX.out] at hmx0
              have hb0 : ((stepS p v.x).l false).base = (p.l false).base := hmx0 false
              have hb1 : ((stepS p v.x).l true).base = (p.l true).base := hmx0 true
              replace S4 : Sep w w4 (PairAt gp (stepS p v.x) :: [cell xb 43 #[.int .u8 (v.x.d : Int), .bool v.x.s, .int .i64 v.x.a, .slice v.A vm v.c], cell ab 41 #[.int .u64 ((p.l false).base : Int), .int .u64 ((p.l true).base : Int)]]) := S4
              have x0' : w4.cell? ⟨xb, 0, none⟩ = some (.int .u8 (v.x.d : Int)) := (S4.blk 1 rfl).at_ 0 rfl
              have S5 := S4.drop 1
              clear HS S4
              go_wp2_with fail
              go_roundw
              case measure => simp [intOf]; omega
              case rel => exact ⟨i + 1, _, hlt, by go_num, HP2, by
                have h := S5
                rw [hb0, hb1]
                exact h⟩
          · have hdm : (v.x.d : Int) % 6 = 2 := by omega
            have hk := at_some hy
            rw [hwn] at hk
            obtain ⟨k, hkk⟩ : ∃ k, pickN v.x.a p.ws.length = k := ⟨_, rfl⟩
            have hyk : p.ws[k]? = some (true, q) := by rw [← hkk]; exact hy
            rw [← hwn, hkk] at hk
            rw [hwn] at hk
            simp only [hk]
            have hkn : k < wn := by have h := (List.getElem?_eq_some_iff.1 hyk).1; omega
            have k0 : (0 : Int) ≤ (k : Int) := by omega
            -- the cells
            obtain ⟨pv, SO⟩ := SX.swap.openP2
            obtain ⟨g0, g1, vw0, vw1, vr0, vr1, vy, vt⟩ := pv
            have z6 := (SO.blk 0 rfl).at_ 6 rfl
            rw [y6k] at z6
            injection z6 with z6
            have z6' : .slice YA wn yc = vy := z6
            subst z6'
            clear z6
            obtain ⟨IA, ic, htt, -, -⟩ := own_slice (SO.own 8 rfl)
            rw [hwn] at htt
            dsimp only at htt
            subst htt
            obtain ⟨ib, ic2, hib, -⟩ := (SO.own 8 rfl).form (by omega)
            injection hib with hib h2 h3
            subst hib
            clear h2 h3
            have hIk : (p.ws.map enI)[k]? = some (.int .i64 1) := by rw [List.getElem?_map, hyk]; rfl
            obtain ⟨PA, pc, hpa, -, -, hpr⟩ := SO.pr 7 rfl
            have hmapk : (p.ws.map (·.2))[k]? = some q := by rw [List.getElem?_map, hyk]; rfl
            obtain ⟨yb, yo, DB, dc, hA, -, -, r2, -⟩ := hpr.elem hmapk
            injection hpa with hpa h2 h3
            subst hpa
            subst hA
            clear h2 h3
            have hSS : w3.drew.cell? ⟨gp, 7, none⟩ = some (.slice (some ⟨ib, 0, none⟩) wn ic) ∧ w3.drew.cell? ⟨ib, k, none⟩ = some (.int .i64 1) ∧ w3.drew.cell? ⟨ab, 1, none⟩ = some (.int .u64 ((p.l true).base : Int)) ∧ w3.drew.cell? ⟨gp, 6, none⟩ = some (.slice (some ⟨yb, yo, none⟩) wn yc) ∧ w3.drew.cell? ⟨yb, yo + k * 4 + 2, none⟩ = some (.int .u64 (q.a : Int)) := ⟨(SO.blk 0 rfl).at_ 7 rfl, irow_cells SO 8 rfl hwn _ _ hIk, (SO.blk 10 rfl).at_ 1 rfl, (SO.blk 0 rfl).at_ 6 rfl, r2⟩
            have hAz : w3.drew.frozen? ⟨ab, 1, none⟩ = false := (SO.blk 10 rfl).frozen 1
            have HHY := Lib.hid hy
            have HK := Lib.hid hyk
            clear hy hyk hk hkk
            by_cases hlt2 : (p.l true).base < q.a
            · as_aux_lemma =>
              have hm1 : ((p.l true).base : Int) < (q.a : Int) := by omega
              have HMX : Hid (max (p.l true).base q.a = q.a) := Lib.hid (by omega)
              clear hlt2
              have SD := SX.drew
              clear SO hpr r2 hIk hmapk SX y6k hP2
              go_upto_region 11 with (fail)
              refine plain_under (fun w => w.cell? ⟨gp, 7, none⟩ = some (.slice (some ⟨ib, 0, none⟩) wn ic) ∧ w.cell? ⟨ib, k, none⟩ = some (.int .i64 1) ∧ w.cell? ⟨ab, 1, none⟩ = some (.int .u64 ((p.l true).base : Int)) ∧ w.cell? ⟨gp, 6, none⟩ = some (.slice (some ⟨yb, yo, none⟩) wn yc) ∧ w.cell? ⟨yb, yo + k * 4 + 2, none⟩ = some (.int .u64 (q.a : Int))) (fun j => decide (j < 26)) (by kernel_rfl) ?_
              generalize w3.drew = w10 at hSS hAz SD ⊢
              simp only [List.size_toArray, List.length_cons, List.length_nil, Nat.reduceAdd, Array.replicate_succ, Array.replicate_zero, List.push_toArray, List.nil_append, List.cons_append]
              refine under_free (i := 0) (v := ?_) rfl (by kernel_rfl) (fun _ _ _ h => h) _ _ _ _ (by kernel_rfl) (by kernel_rfl) (Or.inl ⟨by rfl, ?_⟩) ?_
              rotate_left
              · intro w _
                go_simp
                try with_reducible rfl
              simp only [Act.put, List.setIfInBounds_toArray, List.set_cons_zero, List.set_cons_succ, List.getElem_toArray, List.getElem_cons_zero]
              refine under_free (i := 1) (v := ?_) rfl (by kernel_rfl) (fun _ _ _ h => h) _ _ _ _ (by kernel_rfl) (by kernel_rfl) (Or.inl ⟨by rfl, ?_⟩) ?_
              rotate_left
              · intro w _
                go_simp
                try with_reducible rfl
              simp only [Act.put, List.setIfInBounds_toArray, List.set_cons_zero, List.set_cons_succ, List.getElem_toArray, List.getElem_cons_zero, List.getElem_cons_succ]
              refine under_free (i := 2) (v := ?_) rfl (by kernel_rfl) (fun _ _ _ h => h) _ _ _ _ (by kernel_rfl) (by kernel_rfl) (Or.inl ⟨by rfl, ?_⟩) ?_
              rotate_left
              · intro w _
                go_simp
                try with_reducible rfl
              simp only [Act.put, List.setIfInBounds_toArray, List.set_cons_zero, List.set_cons_succ, List.getElem_toArray, List.getElem_cons_zero, List.getElem_cons_succ]
              refine under_take (i := 3) (v := ?_) rfl (by kernel_rfl) (by kernel_rfl) (fun _ _ _ h => h) _ _ _ _ (by kernel_rfl) (by kernel_rfl) (by kernel_rfl) (Or.inl ⟨by rfl, ?_⟩) hSS ?_
              rotate_left
              · intro w hSw
                obtain ⟨q0, q1, q2, q3, q4⟩ := hSw
                go_simp
                try with_reducible rfl
              simp only [Act.put, List.setIfInBounds_toArray, List.set_cons_zero, List.set_cons_succ, List.getElem_toArray, List.getElem_cons_zero, List.getElem_cons_succ]
              refine under_free (i := 4) (v := ?_) rfl (by kernel_rfl) (fun _ _ _ h => h) _ _ _ _ (by kernel_rfl) (by kernel_rfl) (Or.inl ⟨by rfl, ?_⟩) ?_
              rotate_left
              · intro w _
                go_simp
                try with_reducible rfl
              simp only [Act.put, List.setIfInBounds_toArray, List.set_cons_zero, List.set_cons_succ, List.getElem_toArray, List.getElem_cons_zero, List.getElem_cons_succ]
              refine under_free (i := 5) (v := ?_) rfl (by kernel_rfl) (fun _ _ _ h => h) _ _ _ _ (by kernel_rfl) (by kernel_rfl) (Or.inl ⟨by rfl, ?_⟩) ?_
              rotate_left
              · intro w _
                go_simp
                try with_reducible rfl
              simp only [Act.put, List.setIfInBounds_toArray, List.set_cons_zero, List.set_cons_succ, List.getElem_toArray, List.getElem_cons_zero, List.getElem_cons_succ]
              refine under_take (i := 6) (v := ?_) rfl (by kernel_rfl) (by kernel_rfl) (fun _ _ _ h => h) _ _ _ _ (by kernel_rfl) (by kernel_rfl) (by kernel_rfl) (Or.inl ⟨by rfl, ?_⟩) hSS ?_
              rotate_left
              · intro w hSw
                obtain ⟨q0, q1, q2, q3, q4⟩ := hSw
                go_simp
                try with_reducible rfl
              simp only [Act.put, List.setIfInBounds_toArray, List.set_cons_zero, List.set_cons_succ, List.getElem_toArray, List.getElem_cons_zero, List.getElem_cons_succ]
              refine under_free (i := 7) (v := ?_) rfl (by kernel_rfl) (fun _ _ _ h => h) _ _ _ _ (by kernel_rfl) (by kernel_rfl) (Or.inl ⟨by rfl, ?_⟩) ?_
              rotate_left
              · intro w _
                go_simp
                try with_reducible rfl
              simp only [Act.put, List.setIfInBounds_toArray, List.set_cons_zero, List.set_cons_succ, List.getElem_toArray, List.getElem_cons_zero, List.getElem_cons_succ]
              refine under_free (i := 8) (v := ?_) rfl (by kernel_rfl) (fun _ _ _ h => h) _ _ _ _ (by kernel_rfl) (by kernel_rfl) (Or.inl ⟨by rfl, ?_⟩) ?_
              rotate_left
              · intro w _
                go_simp
                try with_reducible rfl
              simp only [Act.put, List.setIfInBounds_toArray, List.set_cons_zero, List.set_cons_succ, List.getElem_toArray, List.getElem_cons_zero, List.getElem_cons_succ]
              refine under_free (i := 9) (v := ?_) rfl (by kernel_rfl) (fun _ _ _ h => h) _ _ _ _ (by kernel_rfl) (by kernel_rfl) (Or.inl ⟨by rfl, ?_⟩) ?_
              rotate_left
              · intro w _
                go_simp
                try with_reducible rfl
              simp only [Act.put, List.setIfInBounds_toArray, List.set_cons_zero, List.set_cons_succ, List.getElem_toArray, List.getElem_cons_zero, List.getElem_cons_succ]
              refine under_take (i := 10) (v := ?_) rfl (by kernel_rfl) (by kernel_rfl) (fun _ _ _ h => h) _ _ _ _ (by kernel_rfl) (by kernel_rfl) (by kernel_rfl) (Or.inl ⟨by rfl, ?_⟩) hSS ?_
              rotate_left
              · intro w hSw
                obtain ⟨q0, q1, q2, q3, q4⟩ := hSw
                go_simp
                try with_reducible rfl
              simp only [Act.put, List.setIfInBounds_toArray, List.set_cons_zero, List.set_cons_succ, List.getElem_toArray, List.getElem_cons_zero, List.getElem_cons_succ]
              refine under_free (i := 11) (v := ?_) rfl (by kernel_rfl) (fun _ _ _ h => h) _ _ _ _ (by kernel_rfl) (by kernel_rfl) (Or.inl ⟨by rfl, ?_⟩) ?_
              rotate_left
              · intro w _
                go_simp
                try with_reducible rfl
              simp only [Act.put, List.setIfInBounds_toArray, List.set_cons_zero, List.set_cons_succ, List.getElem_toArray, List.getElem_cons_zero, List.getElem_cons_succ]
              refine under_free (i := 12) (v := ?_) rfl (by kernel_rfl) (fun _ _ _ h => h) _ _ _ _ (by kernel_rfl) (by kernel_rfl) (Or.inl ⟨by rfl, ?_⟩) ?_
              rotate_left
              · intro w _
                go_simp
                try with_reducible rfl
              simp only [Act.put, List.setIfInBounds_toArray, List.set_cons_zero, List.set_cons_succ, List.getElem_toArray, List.getElem_cons_zero, List.getElem_cons_succ]
              refine under_take (i := 13) (v := ?_) rfl (by kernel_rfl) (by kernel_rfl) (fun _ _ _ h => h) _ _ _ _ (by kernel_rfl) (by kernel_rfl) (by kernel_rfl) (Or.inl ⟨by rfl, ?_⟩) hSS ?_
              rotate_left
              · intro w hSw
                obtain ⟨q0, q1, q2, q3, q4⟩ := hSw
                go_simp
                try with_reducible rfl
              simp only [Act.put, List.setIfInBounds_toArray, List.set_cons_zero, List.set_cons_succ, List.getElem_toArray, List.getElem_cons_zero, List.getElem_cons_succ]
              refine under_free (i := 14) (v := ?_) rfl (by kernel_rfl) (fun _ _ _ h => h) _ _ _ _ (by kernel_rfl) (by kernel_rfl) (Or.inl ⟨by rfl, ?_⟩) ?_
              rotate_left
              · intro w _
                go_simp
                try with_reducible rfl
              simp only [Act.put, List.setIfInBounds_toArray, List.set_cons_zero, List.set_cons_succ, List.getElem_toArray, List.getElem_cons_zero, List.getElem_cons_succ]
              refine under_take (i := 15) (v := ?_) rfl (by kernel_rfl) (by kernel_rfl) (fun _ _ _ h => h) _ _ _ _ (by kernel_rfl) (by kernel_rfl) (by kernel_rfl) (Or.inl ⟨by rfl, ?_⟩) hSS ?_
              rotate_left
              · intro w hSw
                obtain ⟨q0, q1, q2, q3, q4⟩ := hSw
                go_simp
                try with_reducible rfl
              simp only [Act.put, List.setIfInBounds_toArray, List.set_cons_zero, List.set_cons_succ, List.getElem_toArray, List.getElem_cons_zero, List.getElem_cons_succ]
              refine under_free (i := 16) (v := ?_) rfl (by kernel_rfl) (fun _ _ _ h => h) _ _ _ _ (by kernel_rfl) (by kernel_rfl) (Or.inl ⟨by rfl, ?_⟩) ?_
              rotate_left
              · intro w _
                go_simp
                try with_reducible rfl
              simp only [Act.put, List.setIfInBounds_toArray, List.set_cons_zero, List.set_cons_succ, List.getElem_toArray, List.getElem_cons_zero, List.getElem_cons_succ]
              refine under_free (i := 17) (v := ?_) rfl (by kernel_rfl) (fun _ _ _ h => h) _ _ _ _ (by kernel_rfl) (by kernel_rfl) (Or.inl ⟨by rfl, ?_⟩) ?_
              rotate_left
              · intro w _
                go_simp
                try with_reducible rfl
              simp only [Act.put, List.setIfInBounds_toArray, List.set_cons_zero, List.set_cons_succ, List.getElem_toArray, List.getElem_cons_zero, List.getElem_cons_succ]
              refine under_free (i := 18) (v := ?_) rfl (by kernel_rfl) (fun _ _ _ h => h) _ _ _ _ (by kernel_rfl) (by kernel_rfl) (Or.inl ⟨by rfl, ?_⟩) ?_
              rotate_left
              · intro w _
                go_simp
                try with_reducible rfl
              simp only [Act.put, List.setIfInBounds_toArray, List.set_cons_zero, List.set_cons_succ, List.getElem_toArray, List.getElem_cons_zero, List.getElem_cons_succ]
              refine under_take (i := 19) (v := ?_) rfl (by kernel_rfl) (by kernel_rfl) (fun _ _ _ h => h) _ _ _ _ (by kernel_rfl) (by kernel_rfl) (by kernel_rfl) (Or.inl ⟨by rfl, ?_⟩) hSS ?_
              rotate_left
              · intro w hSw
                obtain ⟨q0, q1, q2, q3, q4⟩ := hSw
                go_simp
                try with_reducible rfl
              simp only [Act.put, List.setIfInBounds_toArray, List.set_cons_zero, List.set_cons_succ, List.getElem_toArray, List.getElem_cons_zero, List.getElem_cons_succ]
              refine under_free (i := 20) (v := ?_) rfl (by kernel_rfl) (fun _ _ _ h => h) _ _ _ _ (by kernel_rfl) (by kernel_rfl) (Or.inl ⟨by rfl, ?_⟩) ?_
              rotate_left
              · intro w _
                go_simp
                try with_reducible rfl
              simp only [Act.put, List.setIfInBounds_toArray, List.set_cons_zero, List.set_cons_succ, List.getElem_toArray, List.getElem_cons_zero, List.getElem_cons_succ]
              refine under_free (i := 21) (v := ?_) rfl (by kernel_rfl) (fun _ _ _ h => h) _ _ _ _ (by kernel_rfl) (by kernel_rfl) (Or.inl ⟨by rfl, ?_⟩) ?_
              rotate_left
              · intro w _
                go_simp
                try with_reducible rfl
              simp only [Act.put, List.setIfInBounds_toArray, List.set_cons_zero, List.set_cons_succ, List.getElem_toArray, List.getElem_cons_zero, List.getElem_cons_succ]
              refine under_free (i := 22) (v := ?_) rfl (by kernel_rfl) (fun _ _ _ h => h) _ _ _ _ (by kernel_rfl) (by kernel_rfl) (Or.inl ⟨by rfl, ?_⟩) ?_
              rotate_left
              · intro w _
                go_simp
                try with_reducible rfl
              simp only [Act.put, List.setIfInBounds_toArray, List.set_cons_zero, List.set_cons_succ, List.getElem_toArray, List.getElem_cons_zero, List.getElem_cons_succ]
              refine under_take (i := 23) (v := ?_) rfl (by kernel_rfl) (by kernel_rfl) (fun _ _ _ h => h) _ _ _ _ (by kernel_rfl) (by kernel_rfl) (by kernel_rfl) (Or.inl ⟨by rfl, ?_⟩) hSS ?_
              rotate_left
              · intro w hSw
                obtain ⟨q0, q1, q2, q3, q4⟩ := hSw
                go_simp
                try with_reducible rfl
              simp only [Act.put, List.setIfInBounds_toArray, List.set_cons_zero, List.set_cons_succ, List.getElem_toArray, List.getElem_cons_zero, List.getElem_cons_succ]
              refine under_free (i := 24) (v := ?_) rfl (by kernel_rfl) (fun _ _ _ h => h) _ _ _ _ (by kernel_rfl) (by kernel_rfl) (Or.inl ⟨by rfl, ?_⟩) ?_
              rotate_left
              · intro w _
                go_simp
                try with_reducible rfl
              simp only [Act.put, List.setIfInBounds_toArray, List.set_cons_zero, List.set_cons_succ, List.getElem_toArray, List.getElem_cons_zero, List.getElem_cons_succ]
              refine under_free (i := 25) (v := ?_) rfl (by kernel_rfl) (fun _ _ _ h => h) _ _ _ _ (by kernel_rfl) (by kernel_rfl) (Or.inl ⟨by rfl, ?_⟩) ?_
              rotate_left
              · intro w _
                go_simp
                try with_reducible rfl
              simp only [Act.put, List.setIfInBounds_toArray, List.set_cons_zero, List.set_cons_succ, List.getElem_toArray, List.getElem_cons_zero, List.getElem_cons_succ]
              refine under_one (i := 26) (by kernel_rfl) rfl ?_
              intro K hK
              go_simp
              refine hK _ _ (fun h => by cases h) ?_
              clear hK K
              refine under_done (by kernel_rfl) ?_ _
              have S12 := SD.put 2 rfl 1 (.int .u64 (q.a : Int))
              generalize w10.setCell ⟨ab, 1, none⟩ (.int .u64 (q.a : Int)) = w12 at S12 ⊢
              replace S12 : Sep w w12 (cell xb 43 #[.int .u8 (v.x.d : Int), .bool v.x.s, .int .i64 v.x.a, .slice v.A vm v.c] :: PairAt gp p :: [cell ab 41 #[.int .u64 ((p.l false).base : Int), .int .u64 (q.a : Int)]]) := S12
              clear SD hSS hAz
              have z6 : ∃ YA yc, w12.cell? ⟨gp, 6, none⟩ = some (.slice YA wn yc) := by
                obtain ⟨pv, SO⟩ := S12.swap.openP2
                obtain ⟨YA, yc, h1, -⟩ := SO.pr 7 rfl
                rw [List.length_map, hwn] at h1
                exact ⟨YA, yc, by rw [← h1]; exact (SO.blk 0 rfl).at_ 6 rfl⟩
              obtain ⟨YA2, yc2, z6⟩ := z6
              have x0 : w12.cell? ⟨xb, 0, none⟩ = some (.int .u8 (v.x.d : Int)) := (S12.blk 0 rfl).at_ 0 rfl
              have x1 : w12.cell? ⟨xb, 1, none⟩ = some (.bool v.x.s) := (S12.blk 0 rfl).at_ 1 rfl
              have x2 : w12.cell? ⟨xb, 2, none⟩ = some (.int .i64 v.x.a) := (S12.blk 0 rfl).at_ 2 rfl
              have x3 : w12.cell? ⟨xb, 3, none⟩ = some (.slice v.A vm v.c) := (S12.blk 0 rfl).at_ 3 rfl
              have SX := S12
              clear S12
              -- the step
              have HS := Lib.hid (HSt.out _ _ SX.swap)
              rw [hR2] at HS
              go_wp2_with fail
              refine HS.out.mono ?_
              rintro en w4 ⟨rfl, S4⟩
              have hmx0 : ∀ s, ((stepS p v.x).l s).base = if s = true then max (p.l true).base q.a else (p.l s).base := base_take hP.out.inv hd2 HHY.out
              rw [HMX.out] at hmx0
              have hb0 : ((stepS p v.x).l false).base = (p.l false).base := hmx0 false
              have hb1 : ((stepS p v.x).l true).base = q.a := hmx0 true
              replace S4 : Sep w w4 (PairAt gp (stepS p v.x) :: [cell xb 43 #[.int .u8 (v.x.d : Int), .bool v.x.s, .int .i64 v.x.a, .slice v.A vm v.c], cell ab 41 #[.int .u64 ((p.l false).base : Int), .int .u64 (q.a : Int)]]) := S4
              have x0' : w4.cell? ⟨xb, 0, none⟩ = some (.int .u8 (v.x.d : Int)) := (S4.blk 1 rfl).at_ 0 rfl
              have S5 := S4.drop 1
              clear HS S4
              go_wp2_with fail
              go_roundw
              case measure => simp [intOf]; omega
              case rel => exact ⟨i + 1, _, hlt, by go_num, HP2, by
                have h := S5
                rw [hb0, hb1]
                exact h⟩
            · as_aux_lemma =>
              have hm1 : ¬ ((p.l true).base : Int) < (q.a : Int) := by omega
              have HMX : Hid (max (p.l true).base q.a = (p.l true).base) := Lib.hid (by omega)
              clear hlt2
              have SD := SX.drew
              clear SO hpr r2 hIk hmapk SX y6k hP2
              go_upto_region 11 with (fail)
              refine plain_under (fun w => w.cell? ⟨gp, 7, none⟩ = some (.slice (some ⟨ib, 0, none⟩) wn ic) ∧ w.cell? ⟨ib, k, none⟩ = some (.int .i64 1) ∧ w.cell? ⟨ab, 1, none⟩ = some (.int .u64 ((p.l true).base : Int)) ∧ w.cell? ⟨gp, 6, none⟩ = some (.slice (some ⟨yb, yo, none⟩) wn yc) ∧ w.cell? ⟨yb, yo + k * 4 + 2, none⟩ = some (.int .u64 (q.a : Int))) (fun j => decide (j < 26)) (by kernel_rfl) ?_
              generalize w3.drew = w10 at hSS hAz SD ⊢
              simp only [List.size_toArray, List.length_cons, List.length_nil, Nat.reduceAdd, Array.replicate_succ, Array.replicate_zero, List.push_toArray, List.nil_append, List.cons_append]
              refine under_free (i := 0) (v := ?_) rfl (by kernel_rfl) (fun _ _ _ h => h) _ _ _ _ (by kernel_rfl) (by kernel_rfl) (Or.inl ⟨by rfl, ?_⟩) ?_
              rotate_left
              · intro w _
                go_simp
                try with_reducible rfl
              simp only [Act.put, List.setIfInBounds_toArray, List.set_cons_zero, List.set_cons_succ, List.getElem_toArray, List.getElem_cons_zero]
              refine under_free (i := 1) (v := ?_) rfl (by kernel_rfl) (fun _ _ _ h => h) _ _ _ _ (by kernel_rfl) (by kernel_rfl) (Or.inl ⟨by rfl, ?_⟩) ?_
              rotate_left
              · intro w _
                go_simp
                try with_reducible rfl
              simp only [Act.put, List.setIfInBounds_toArray, List.set_cons_zero, List.set_cons_succ, List.getElem_toArray, List.getElem_cons_zero, List.getElem_cons_succ]
              refine under_free (i := 2) (v := ?_) rfl (by kernel_rfl) (fun _ _ _ h => h) _ _ _ _ (by kernel_rfl) (by kernel_rfl) (Or.inl ⟨by rfl, ?_⟩) ?_
              rotate_left
              · intro w _
                go_simp
                try with_reducible rfl
              simp only [Act.put, List.setIfInBounds_toArray, List.set_cons_zero, List.set_cons_succ, List.getElem_toArray, List.getElem_cons_zero, List.getElem_cons_succ]
              refine under_take (i := 3) (v := ?_) rfl (by kernel_rfl) (by kernel_rfl) (fun _ _ _ h => h) _ _ _ _ (by kernel_rfl) (by kernel_rfl) (by kernel_rfl) (Or.inl ⟨by rfl, ?_⟩) hSS ?_
              rotate_left
              · intro w hSw
                obtain ⟨q0, q1, q2, q3, q4⟩ := hSw
                go_simp
                try with_reducible rfl
              simp only [Act.put, List.setIfInBounds_toArray, List.set_cons_zero, List.set_cons_succ, List.getElem_toArray, List.getElem_cons_zero, List.getElem_cons_succ]
              refine under_free (i := 4) (v := ?_) rfl (by kernel_rfl) (fun _ _ _ h => h) _ _ _ _ (by kernel_rfl) (by kernel_rfl) (Or.inl ⟨by rfl, ?_⟩) ?_
              rotate_left
              · intro w _
                go_simp
                try with_reducible rfl
              simp only [Act.put, List.setIfInBounds_toArray, List.set_cons_zero, List.set_cons_succ, List.getElem_toArray, List.getElem_cons_zero, List.getElem_cons_succ]
              refine under_free (i := 5) (v := ?_) rfl (by kernel_rfl) (fun _ _ _ h => h) _ _ _ _ (by kernel_rfl) (by kernel_rfl) (Or.inl ⟨by rfl, ?_⟩) ?_
              rotate_left
              · intro w _
                go_simp
                try with_reducible rfl
              simp only [Act.put, List.setIfInBounds_toArray, List.set_cons_zero, List.set_cons_succ, List.getElem_toArray, List.getElem_cons_zero, List.getElem_cons_succ]
              refine under_take (i := 6) (v := ?_) rfl (by kernel_rfl) (by kernel_rfl) (fun _ _ _ h => h) _ _ _ _ (by kernel_rfl) (by kernel_rfl) (by kernel_rfl) (Or.inl ⟨by rfl, ?_⟩) hSS ?_
              rotate_left
              · intro w hSw
                obtain ⟨q0, q1, q2, q3, q4⟩ := hSw
                go_simp
                try with_reducible rfl
              simp only [Act.put, List.setIfInBounds_toArray, List.set_cons_zero, List.set_cons_succ, List.getElem_toArray, List.getElem_cons_zero, List.getElem_cons_succ]
              refine under_free (i := 7) (v := ?_) rfl (by kernel_rfl) (fun _ _ _ h => h) _ _ _ _ (by kernel_rfl) (by kernel_rfl) (Or.inl ⟨by rfl, ?_⟩) ?_
              rotate_left
              · intro w _
                go_simp
                try with_reducible rfl
              simp only [Act.put, List.setIfInBounds_toArray, List.set_cons_zero, List.set_cons_succ, List.getElem_toArray, List.getElem_cons_zero, List.getElem_cons_succ]
              refine under_free (i := 8) (v := ?_) rfl (by kernel_rfl) (fun _ _ _ h => h) _ _ _ _ (by kernel_rfl) (by kernel_rfl) (Or.inl ⟨by rfl, ?_⟩) ?_
              rotate_left
              · intro w _
                go_simp
                try with_reducible rfl
              simp only [Act.put, List.setIfInBounds_toArray, List.set_cons_zero, List.set_cons_succ, List.getElem_toArray, List.getElem_cons_zero, List.getElem_cons_succ]
              refine under_free (i := 9) (v := ?_) rfl (by kernel_rfl) (fun _ _ _ h => h) _ _ _ _ (by kernel_rfl) (by kernel_rfl) (Or.inl ⟨by rfl, ?_⟩) ?_
              rotate_left
              · intro w _
                go_simp
                try with_reducible rfl
              simp only [Act.put, List.setIfInBounds_toArray, List.set_cons_zero, List.set_cons_succ, List.getElem_toArray, List.getElem_cons_zero, List.getElem_cons_succ]
              refine under_take (i := 10) (v := ?_) rfl (by kernel_rfl) (by kernel_rfl) (fun _ _ _ h => h) _ _ _ _ (by kernel_rfl) (by kernel_rfl) (by kernel_rfl) (Or.inl ⟨by rfl, ?_⟩) hSS ?_
              rotate_left
              · intro w hSw
                obtain ⟨q0, q1, q2, q3, q4⟩ := hSw
                go_simp
                try with_reducible rfl
              simp only [Act.put, List.setIfInBounds_toArray, List.set_cons_zero, List.set_cons_succ, List.getElem_toArray, List.getElem_cons_zero, List.getElem_cons_succ]
              refine under_free (i := 11) (v := ?_) rfl (by kernel_rfl) (fun _ _ _ h => h) _ _ _ _ (by kernel_rfl) (by kernel_rfl) (Or.inl ⟨by rfl, ?_⟩) ?_
              rotate_left
              · intro w _
                go_simp
                try with_reducible rfl
              simp only [Act.put, List.setIfInBounds_toArray, List.set_cons_zero, List.set_cons_succ, List.getElem_toArray, List.getElem_cons_zero, List.getElem_cons_succ]
              refine under_free (i := 12) (v := ?_) rfl (by kernel_rfl) (fun _ _ _ h => h) _ _ _ _ (by kernel_rfl) (by kernel_rfl) (Or.inl ⟨by rfl, ?_⟩) ?_
              rotate_left
              · intro w _
                go_simp
                try with_reducible rfl
              simp only [Act.put, List.setIfInBounds_toArray, List.set_cons_zero, List.set_cons_succ, List.getElem_toArray, List.getElem_cons_zero, List.getElem_cons_succ]
              refine under_take (i := 13) (v := ?_) rfl (by kernel_rfl) (by kernel_rfl) (fun _ _ _ h => h) _ _ _ _ (by kernel_rfl) (by kernel_rfl) (by kernel_rfl) (Or.inl ⟨by rfl, ?_⟩) hSS ?_
              rotate_left
              · intro w hSw
                obtain ⟨q0, q1, q2, q3, q4⟩ := hSw
                go_simp
                try with_reducible rfl
              simp only [Act.put, List.setIfInBounds_toArray, List.set_cons_zero, List.set_cons_succ, List.getElem_toArray, List.getElem_cons_zero, List.getElem_cons_succ]
              refine under_free (i := 14) (v := ?_) rfl (by kernel_rfl) (fun _ _ _ h => h) _ _ _ _ (by kernel_rfl) (by kernel_rfl) (Or.inl ⟨by rfl, ?_⟩) ?_
              rotate_left
              · intro w _
                go_simp
                try with_reducible rfl
              simp only [Act.put, List.setIfInBounds_toArray, List.set_cons_zero, List.set_cons_succ, List.getElem_toArray, List.getElem_cons_zero, List.getElem_cons_succ]
              refine under_take (i := 15) (v := ?_) rfl (by kernel_rfl) (by kernel_rfl) (fun _ _ _ h => h) _ _ _ _ (by kernel_rfl) (by kernel_rfl) (by kernel_rfl) (Or.inl ⟨by rfl, ?_⟩) hSS ?_
              rotate_left
              · intro w hSw
                obtain ⟨q0, q1, q2, q3, q4⟩ := hSw
                go_simp
                try with_reducible rfl
              simp only [Act.put, List.setIfInBounds_toArray, List.set_cons_zero, List.set_cons_succ, List.getElem_toArray, List.getElem_cons_zero, List.getElem_cons_succ]
              refine under_free (i := 16) (v := ?_) rfl (by kernel_rfl) (fun _ _ _ h => h) _ _ _ _ (by kernel_rfl) (by kernel_rfl) (Or.inl ⟨by rfl, ?_⟩) ?_
              rotate_left
              · intro w _
                go_simp
                try with_reducible rfl
              simp only [Act.put, List.setIfInBounds_toArray, List.set_cons_zero, List.set_cons_succ, List.getElem_toArray, List.getElem_cons_zero, List.getElem_cons_succ]
              refine under_free (i := 17) (v := ?_) rfl (by kernel_rfl) (fun _ _ _ h => h) _ _ _ _ (by kernel_rfl) (by kernel_rfl) (Or.inl ⟨by rfl, ?_⟩) ?_
              rotate_left
              · intro w _
                go_simp
                try with_reducible rfl
              simp only [Act.put, List.setIfInBounds_toArray, List.set_cons_zero, List.set_cons_succ, List.getElem_toArray, List.getElem_cons_zero, List.getElem_cons_succ]
              refine under_free (i := 18) (v := ?_) rfl (by kernel_rfl) (fun _ _ _ h => h) _ _ _ _ (by kernel_rfl) (by kernel_rfl) (Or.inl ⟨by rfl, ?_⟩) ?_
              rotate_left
              · intro w _
                go_simp
                try with_reducible rfl
              simp only [Act.put, List.setIfInBounds_toArray, List.set_cons_zero, List.set_cons_succ, List.getElem_toArray, List.getElem_cons_zero, List.getElem_cons_succ]
              refine under_take (i := 19) (v := ?_) rfl (by kernel_rfl) (by kernel_rfl) (fun _ _ _ h => h) _ _ _ _ (by kernel_rfl) (by kernel_rfl) (by kernel_rfl) (Or.inl ⟨by rfl, ?_⟩) hSS ?_
              rotate_left
              · intro w hSw
                obtain ⟨q0, q1, q2, q3, q4⟩ := hSw
                go_simp
                try with_reducible rfl
              simp only [Act.put, List.setIfInBounds_toArray, List.set_cons_zero, List.set_cons_succ, List.getElem_toArray, List.getElem_cons_zero, List.getElem_cons_succ]
              refine under_free (i := 20) (v := ?_) rfl (by kernel_rfl) (fun _ _ _ h => h) _ _ _ _ (by kernel_rfl) (by kernel_rfl) (Or.inl ⟨by rfl, ?_⟩) ?_
              rotate_left
              · intro w _
                go_simp
                try with_reducible rfl
              simp only [Act.put, List.setIfInBounds_toArray, List.set_cons_zero, List.set_cons_succ, List.getElem_toArray, List.getElem_cons_zero, List.getElem_cons_succ]
              refine under_free (i := 21) (v := ?_) rfl (by kernel_rfl) (fun _ _ _ h => h) _ _ _ _ (by kernel_rfl) (by kernel_rfl) (Or.inl ⟨by rfl, ?_⟩) ?_
              rotate_left
              · intro w _
                go_simp
                try with_reducible rfl
              simp only [Act.put, List.setIfInBounds_toArray, List.set_cons_zero, List.set_cons_succ, List.getElem_toArray, List.getElem_cons_zero, List.getElem_cons_succ]
              refine under_free (i := 22) (v := ?_) rfl (by kernel_rfl) (fun _ _ _ h => h) _ _ _ _ (by kernel_rfl) (by kernel_rfl) (Or.inl ⟨by rfl, ?_⟩) ?_
              rotate_left
              · intro w _
                go_simp
                try with_reducible rfl
              simp only [Act.put, List.setIfInBounds_toArray, List.set_cons_zero, List.set_cons_succ, List.getElem_toArray, List.getElem_cons_zero, List.getElem_cons_succ]
              refine under_take (i := 23) (v := ?_) rfl (by kernel_rfl) (by kernel_rfl) (fun _ _ _ h => h) _ _ _ _ (by kernel_rfl) (by kernel_rfl) (by kernel_rfl) (Or.inl ⟨by rfl, ?_⟩) hSS ?_
              rotate_left
              · intro w hSw
                obtain ⟨q0, q1, q2, q3, q4⟩ := hSw
                go_simp
                try with_reducible rfl
              simp only [Act.put, List.setIfInBounds_toArray, List.set_cons_zero, List.set_cons_succ, List.getElem_toArray, List.getElem_cons_zero, List.getElem_cons_succ]
              refine under_free (i := 24) (v := ?_) rfl (by kernel_rfl) (fun _ _ _ h => h) _ _ _ _ (by kernel_rfl) (by kernel_rfl) (Or.inl ⟨by rfl, ?_⟩) ?_
              rotate_left
              · intro w _
                go_simp
                try with_reducible rfl
              simp only [Act.put, List.setIfInBounds_toArray, List.set_cons_zero, List.set_cons_succ, List.getElem_toArray, List.getElem_cons_zero, List.getElem_cons_succ]
              refine under_free (i := 25) (v := ?_) rfl (by kernel_rfl) (fun _ _ _ h => h) _ _ _ _ (by kernel_rfl) (by kernel_rfl) (Or.inl ⟨by rfl, ?_⟩) ?_
              rotate_left
              · intro w _
                go_simp
                try with_reducible rfl
              simp only [Act.put, List.setIfInBounds_toArray, List.set_cons_zero, List.set_cons_succ, List.getElem_toArray, List.getElem_cons_zero, List.getElem_cons_succ]
              refine under_one (i := 26) (by kernel_rfl) rfl ?_
              intro K hK
              go_simp
              refine hK _ _ (fun h => by cases h) ?_
              clear hK K
              refine under_done (by kernel_rfl) ?_ _
              have S12 := SD.put 2 rfl 1 (.int .u64 ((p.l true).base : Int))
              generalize w10.setCell ⟨ab, 1, none⟩ (.int .u64 ((p.l true).base : Int)) = w12 at S12 ⊢
              replace S12 : Sep w w12 (cell xb 43 #[.int .u8 (v.x.d : Int), .bool v.x.s, .int .i64 v.x.a, .slice v.A vm v.c] :: PairAt gp p :: [cell ab 41 #[.int .u64 ((p.l false).base : Int), .int .u64 ((p.l true).base : Int)]]) := S12
              clear SD hSS hAz
              have z6 : ∃ YA yc, w12.cell? ⟨gp, 6, none⟩ = some (.slice YA wn yc) := by
                obtain ⟨pv, SO⟩ := S12.swap.openP2
                obtain ⟨YA, yc, h1, -⟩ := SO.pr 7 rfl
                rw [List.length_map, hwn] at h1
                exact ⟨YA, yc, by rw [← h1]; exact (SO.blk 0 rfl).at_ 6 rfl⟩
              obtain ⟨YA2, yc2, z6⟩ := z6
              have x0 : w12.cell? ⟨xb, 0, none⟩ = some (.int .u8 (v.x.d : Int)) := (S12.blk 0 rfl).at_ 0 rfl
              have x1 : w12.cell? ⟨xb, 1, none⟩ = some (.bool v.x.s) := (S12.blk 0 rfl).at_ 1 rfl
              have x2 : w12.cell? ⟨xb, 2, none⟩ = some (.int .i64 v.x.a) := (S12.blk 0 rfl).at_ 2 rfl
              have x3 : w12.cell? ⟨xb, 3, none⟩ = some (.slice v.A vm v.c) := (S12.blk 0 rfl).at_ 3 rfl
              have SX := S12
              clear S12
              -- the step
              have HS := Lib.hid (HSt.out _ _ SX.swap)
              rw [hR2] at HS
              go_wp2_with fail
              refine HS.out.mono ?_
              rintro en w4 ⟨rfl, S4⟩
              have hmx0 : ∀ s, ((stepS p v.x).l s).base = if s = true then max (p.l true).base q.a else (p.l s).base := base_take hP.out.inv hd2 HHY.out
              rw [HMX.out] at hmx0
              have hb0 : ((stepS p v.x).l false).base = (p.l false).base := hmx0 false
              have hb1 : ((stepS p v.x).l true).base = (p.l true).base := hmx0 true
              replace S4 : Sep w w4 (PairAt gp (stepS p v.x) :: [cell xb 43 #[.int .u8 (v.x.d : Int), .bool v.x.s, .int .i64 v.x.a, .slice v.A vm v.c], cell ab 41 #[.int .u64 ((p.l false).base : Int), .int .u64 ((p.l true).base : Int)]]) := S4
              have x0' : w4.cell? ⟨xb, 0, none⟩ = some (.int .u8 (v.x.d : Int)) := (S4.blk 1 rfl).at_ 0 rfl
              have S5 := S4.drop 1
              clear HS S4
              go_wp2_with fail
              go_roundw
              case measure => simp [intOf]; omega
              case rel => exact ⟨i + 1, _, hlt, by go_num, HP2, by
                have h := S5
                rw [hb0, hb1]
                exact h⟩
      · have hd2i : (((v.x.d : Int) % 6) == 2) = false := by simp; omega
        by_cases hd1 : v.x.d % 6 = 1
        · have hst1 := stepS_tick (p := p) hd1
          have HD1 := Lib.hid hd1
          cases hsd : v.x.s
          · as_aux_lemma =>
            have hdm : (v.x.d : Int) % 6 = 1 := by omega
            have HSD := Lib.hid hsd
            rw [hsd] at hst1 SX HSt
            have x0 : w3.cell? ⟨xb, 0, none⟩ = some (.int .u8 (v.x.d : Int)) := (SX.blk 0 rfl).at_ 0 rfl
            have x1 : w3.cell? ⟨xb, 1, none⟩ = some (.bool false) := (SX.blk 0 rfl).at_ 1 rfl
            have x2 : w3.cell? ⟨xb, 2, none⟩ = some (.int .i64 v.x.a) := (SX.blk 0 rfl).at_ 2 rfl
            have x3 : w3.cell? ⟨xb, 3, none⟩ = some (.slice v.A vm v.c) := (SX.blk 0 rfl).at_ 3 rfl
            have HS := Lib.hid (HSt.out _ _ SX.swap)
            rw [hR2] at HS
            clear HSt hsd
            go_wp2_with fail
            refine HS.out.mono ?_
            rintro en w4 ⟨rfl, S4⟩
            rw [hst1] at S4
            clear HS x0 x1 x2 x3 y6k x0k SX
            obtain ⟨f1, f2, f3, f4, f5, f6, f7, f8⟩ := tick_facts (hP.out.inv.l false)
            obtain ⟨qs, hqs⟩ : ∃ qs, tickP (p.l false) = qs := ⟨_, rfl⟩
            rw [hqs] at f8
            obtain ⟨tl, htl⟩ : ∃ tl, qs.length = tl := ⟨_, rfl⟩
            have hws2 : (tickPS p false).ws = p.ws ++ qs.map fun q => (!false, q) := by unfold tickPS; rw [hqs]
            have hwl2 : (tickPS p false).ws.length = wn + tl := by rw [hws2, List.length_append, List.length_map, hwn, htl]
            obtain ⟨pv, SO⟩ := S4.openP2
            obtain ⟨g0, g1, vw0, vw1, vr0, vr1, vy, vt⟩ := pv
            have x0' : w4.cell? ⟨xb, 0, none⟩ = some (.int .u8 (v.x.d : Int)) := (SO.blk 9 rfl).at_ 0 rfl
            have x1' : w4.cell? ⟨xb, 1, none⟩ = some (.bool false) := (SO.blk 9 rfl).at_ 1 rfl
            have S5 : Sep w w4 (PkX vy ((tickPS p false).ws.map (·.2)) :: cell gp 49 (PV.cs ⟨g0, g1, vw0, vw1, vr0, vr1, vy, vt⟩) :: LinkAt g0 (tickS (p.l false)) :: LinkAt g1 (p.l true) :: BRow vw0 (p.wr false) :: BRow vw1 (p.wr true) :: BRow vr0 (p.rd false) :: BRow vr1 (p.rd true) :: IRow vt (tickPS p false).ws :: [cell ab 41 #[.int .u64 ((p.l false).base : Int), .int .u64 ((p.l true).base : Int)]]) := SO.ix 11 [7, 0, 1, 2, 3, 4, 5, 6, 8, 10] [9] (by decide)
            obtain ⟨es, ds, hes, hds, S6⟩ := S5.openK
            have hesl : es.length = wn + tl := by have h := congrArg List.length hes; rw [List.length_map, List.length_map, hwl2] at h; exact h
            obtain ⟨YB, yc2, hvy, hyc2, -⟩ := own_slice (S6.own 0 rfl)
            rw [hesl] at hvy hyc2 S6
            subst hvy
            obtain ⟨U, hU⟩ : ∃ U, ds.map rowD = U := ⟨_, rfl⟩
            rw [hU] at S6
            have S7 := S6.perm (List.Perm.cons _ List.perm_append_comm)
            clear S4 SO S5 S6
            have hsl : ∃ TA tc, (∀ w, (Instr.slice 28 (.slice YB (wn + tl) yc2) (some (.int .i64 (wn : Int))) none none).run Try.prog w = .ok (.slice TA tl tc) w) ∧ (0 < tl → ∃ yb, YB = some ⟨yb, 0, none⟩ ∧ TA = some ⟨yb, wn * 4, none⟩) := by
              have h := part_lo 28 4 Try.underlying28 size28 .i64 YB (wn + tl) yc2 wn (by omega)
              rw [Nat.add_sub_cancel_left] at h
              refine ⟨_, _, h, fun hp => ?_⟩
              obtain ⟨yb, y2, hyb, -⟩ := (S7.own 0 rfl).form (by omega)
              injection hyb with hyb _ _
              subst hyb
              refine ⟨yb, rfl, ?_⟩
              unfold subV
              rw [if_neg (by omega)]
              simp [Addr.add]
              omega
            obtain ⟨TA, tc, hsl, hTA⟩ := hsl
            have y6 : w4.cell? ⟨gp, 6, none⟩ = some (.slice YB (wn + tl) yc2) := (S7.blk 1 rfl).at_ 6 rfl
            have htlb : tl ≤ 2000 := by rw [← htl, ← hqs]; exact tick_len (hP.out.inv.l false)
            have HF := Lib.hid (And.intro f1 (And.intro f2 (And.intro f3 (And.intro f4 (And.intro f7 f8)))))
            have HT := Lib.hid (And.intro hqs (And.intro htl (And.intro hws2 (And.intro hes (And.intro hds (And.intro hesl hU))))))
            clear f1 f2 f3 f4 f5 f6 f7 f8 hqs htl hws2 hes hds hesl hU hst1 hd1 hd2i hd2
            have H7 := Lib.hid S7
            clear S7
            go_wp2_with fail
            refine (side_any false _).mono ?_
            rintro en w5 ⟨rfl, rfl⟩
            clear x0' x1'
            go_wp2_with fail
            have S8 := H7.out
            clear H7 y6
            go_loopw [13, 14, 15] (fun p13 _ _ wi => ∃ j : Nat, j ≤ tl ∧ p13 = .int .i64 (j : Int) ∧ Sep w wi (row 32 4 (.slice YB (wn + tl) yc2) (wn + tl) (entP es) :: cell gp 49 #[.pointer (some ⟨g0, 0, none⟩), .pointer (some ⟨g1, 0, none⟩), vw0, vw1, vr0, vr1, .slice YB (wn + tl) yc2, vt] :: LinkAt g0 (tickS (p.l false)) :: LinkAt g1 (p.l true) :: BRow vw0 (p.wr false) :: BRow vw1 (p.wr true) :: BRow vr0 (p.rd false) :: BRow vr1 (p.rd true) :: IRow vt (tickPS p false).ws :: cell ab 41 #[.int .u64 ((p.l false).base : Int), .int .u64 ((p.l true).base : Int)] :: U)) (fun p13 _ _ _ => tl - (intOf p13).toNat)
            case atStart => exact ⟨0, Nat.zero_le _, rfl, S8⟩
            case round =>
              clear S8
              obtain ⟨j, hj, rfl, S9⟩ := hrel
              by_cases hjt : j < tl
              · have hjt' : (j : Int) < (tl : Int) := by omega
                obtain ⟨hqs, htl, hws2, hes, hds, hesl, hU⟩ := HT.out
                obtain ⟨f1, f2, f3, f4, f7, f8⟩ := HF.out
                obtain ⟨yb, rfl, rfl⟩ := hTA (by omega)
                obtain ⟨q, hq⟩ : ∃ q, qs[j]? = some q := ⟨_, List.getElem?_eq_getElem (by omega)⟩
                have hqm : q ∈ tickP (p.l false) := by rw [hqs]; exact List.mem_of_getElem? hq
                have hq2 := f8 q (by rw [← hqs]; exact hqm)
                have hek : ∃ e2, es[wn + j]? = some e2 ∧ e2.2 = q := by
                  have h : (es.map (·.2))[wn + j]? = some q := by
                    rw [hes, hws2, List.map_append, List.getElem?_append_right (by rw [List.length_map, hwn]; omega), List.length_map, hwn, Nat.add_sub_cancel_left, List.map_map, List.getElem?_map, hq]
                    rfl
                  rw [List.getElem?_map] at h
                  cases hx : es[wn + j]? with
                  | none => rw [hx] at h; cases h
                  | some e => rw [hx] at h; exact ⟨e, rfl, by injection h⟩
                obtain ⟨e2, he2, heq⟩ := hek
                obtain ⟨hel, heg⟩ := List.getElem?_eq_some_iff.1 he2
                have hdat := rb_of (L := []) (by have h := S9.ix 10 [] [0, 1, 2, 3, 4, 5, 6, 7, 8, 9] (by decide); rw [← hU] at h; simpa using h) (hds e2 (by rw [← heg]; exact List.getElem_mem hel))
                obtain ⟨DB, dc, hu, -, -, hRD⟩ := hdat
                rw [heq] at hu hRD
                obtain ⟨dl, hdl⟩ : ∃ dl, q.d.length = dl := ⟨_, rfl⟩
                rw [hdl] at hu hRD
                obtain ⟨hK, hqa, hqlo, hqwin, hq1⟩ := hq2
                obtain ⟨qo, hqo⟩ : ∃ x, q.o = x := ⟨_, rfl⟩
                obtain ⟨qa, hqae⟩ : ∃ x, q.a = x := ⟨_, rfl⟩
                have hcellv : (es[wn + j]'hel).2.cells (es[wn + j]'hel).1 = [.int .u32 (e : Int), .int .u64 (qo : Int), .int .u64 (qa : Int), .slice DB dl dc] := by rw [heg, heq, hu]; unfold Pk.cells; rw [hK.ep, hqo, hqae]
                have hcs : ∀ k u, [Value.int .u32 (e : Int), .int .u64 (qo : Int), .int .u64 (qa : Int), .slice DB dl dc][k]? = some u → wr.cell? ⟨yb, wn * 4 + j * 4 + k, none⟩ = some u := fun k u hk => by
                  rw [show wn * 4 + j * 4 + k = (wn + j) * 4 + k by omega]
                  exact own_cells (S9.own 0 rfl) _ _ (entP_get es (wn + j) hel k u (by rw [hcellv]; exact hk))
                have c0 : wr.cell? ⟨yb, wn * 4 + j * 4, none⟩ = some (.int .u32 (e : Int)) := hcs 0 _ rfl
                have c1 : wr.cell? ⟨yb, wn * 4 + j * 4 + 1, none⟩ = some (.int .u64 (qo : Int)) := hcs 1 _ rfl
                have c2 : wr.cell? ⟨yb, wn * 4 + j * 4 + 2, none⟩ = some (.int .u64 (qa : Int)) := hcs 2 _ rfl
                have c3 : wr.cell? ⟨yb, wn * 4 + j * 4 + 3, none⟩ = some (.slice DB dl dc) := hcs 3 _ rfl
                have s4 : (0 : Int) ≤ (j : Int) := by omega
                obtain ⟨WQ, hWQ, S10⟩ := S9.boxedF 32 #[.int .u32 (e : Int), .int .u64 (qo : Int), .int .u64 (qa : Int), .slice DB dl dc]
                obtain ⟨qx, hqx⟩ : ∃ b, wr.heap.size = b := ⟨_, rfl⟩
                rw [hqx] at S10
                have HQX := Lib.hid hqx
                -- the row that was written, what was read and came
                obtain ⟨WA, wc, hww, hwc, -, hRW⟩ := S10.bform 5 rfl
                obtain ⟨RA, rc, hrr, -, -, -⟩ := S10.bform 7 rfl
                obtain ⟨wrn, hwrn⟩ : ∃ n, (p.wr false).length = n := ⟨_, rfl⟩
                obtain ⟨rn, hrn⟩ : ∃ n, (p.rd false).length = n := ⟨_, rfl⟩
                rw [hwrn] at hww hwc hRW
                rw [hrn] at hrr
                subst hww hrr
                obtain ⟨gl, hgl⟩ : ∃ n, (tickS (p.l false)).got.length = n := ⟨_, rfl⟩
                have hPK : Hid (∀ k, Calls Try.prog 15 #[.pointer (some ⟨g0, 0, none⟩)] (WQ.drewN k) fun en w' => en = .returned (.int .i64 (gl : Int)) ∧ w' = WQ.drewN k) := Lib.hid fun k => (peek_any 3 rfl (S10.drewN k)).mono fun _ _ ⟨h1, h2⟩ => ⟨by rw [h1, hgl], h2.symm⟩
                obtain ⟨bs, hbs⟩ : ∃ n, (p.l false).base = n := ⟨_, rfl⟩
                have hc := hP.out.inv.c false
                have hg1 := congrArg List.length hc.got
                have hg2 := hc.nx
                have hg3 := (hP.out.inv.l true).mw
                have hg4 := hP.out.wr true
                have hg5 := hP.out.wr false
                have hg6 := f1.mw
                have hg7 := hK.om
                have hg8 := hK.len
                change (p.l false).next ≤ (p.l true).most at hg2
                change (p.rd false ++ (p.l false).got).length = ((p.wr true).take (p.l false).next).length at hg1
                rw [List.length_append, List.length_take, hrn, ← f4, hgl] at hg1
                rw [hqo, hdl] at hg7 hqwin
                rw [hwrn] at hg5 hg6
                rw [hdl] at hg8 hq1
                rw [hqo] at hqlo
                rw [hbs] at hqlo hqwin
                rw [hqae] at hqa
                have hsum : (rn : Int) + (gl : Int) = (qa : Int) := by omega
                have j1 : IntKind.i64.wrap (qa : Int) = (qa : Int) := IntWalk.i64_in _ (by omega)
                have j2 : IntKind.u64.wrap (qa : Int) = (qa : Int) := u64_in (by omega) (by omega)
                have j3 : IntKind.u64.wrap (dl : Int) = (dl : Int) := u64_in (by omega) (by omega)
                have j4 : IntKind.u64.wrap ((qo : Int) + (dl : Int)) = (qo : Int) + (dl : Int) := u64_in (by omega) (by omega)
                have j5 : IntKind.u64.wrap ((bs : Int) + 1024) = (bs : Int) + 1024 := u64_in (by omega) (by omega)
                have j6 : IntKind.u64.wrap (wrn : Int) = (wrn : Int) := u64_in (by omega) (by omega)
                have k1 : decide ((256 : Int) < (dl : Int)) = false := decide_eq_false (by omega)
                have k2 : decide (256 < dl) = false := decide_eq_false (by omega)
                have k3 : decide ((qo : Int) < (bs : Int)) = false := decide_eq_false (by omega)
                have k4 : decide (qo < bs) = false := decide_eq_false (by omega)
                have k5 : decide ((bs : Int) + 1024 < (qo : Int) + (dl : Int)) = false := decide_eq_false (by omega)
                have k6 : decide ((wrn : Int) < (qo : Int) + (dl : Int)) = false := decide_eq_false (by omega)
                have hslc : ∀ w, (Instr.slice 27 (.slice WA wrn wc) (some (.int .u64 (qo : Int))) (some (.int .u64 ((qo : Int) + (dl : Int)))) none).run Try.prog w = .ok (.slice (subB WA wc qo) dl (wc - qo)) w := by
                  intro w
                  have h := slice_lh .u64 WA wrn wc qo (qo + dl) (by omega) (by omega) w
                  rw [Nat.add_sub_cancel_left, Int.natCast_add] at h
                  exact h
                obtain ⟨xs, hxs⟩ : ∃ xs, strB q.d = xs := ⟨_, rfl⟩
                have HCV : Hid (∀ X, Below WQ.heap.size WQ X → (convert 27 9 (.slice (subB WA wc qo) dl (wc - qo))).run Try.prog X = .ok (.string xs) X ∧ (convert 27 9 (.slice DB dl dc)).run Try.prog X = .ok (.string xs) X) := Lib.hid fun X hb => by
                  have h1 := (((hRW.below hb).drop qo (by omega) hwc).take dl (by omega))
                  have hd := hK.d
                  rw [hdl, hqo] at hd
                  rw [← hd] at h1
                  have hb2 : Below wr.heap.size wr WQ := by rw [← hWQ]; exact (Below.refl _ _).alloc (Nat.le_refl _) _
                  have h2 := (hRD.below hb2).below hb
                  have g1 := str_conv (c := wc - qo) h1
                  have g2 := str_conv (c := dc) h2
                  rw [hxs] at g1 g2
                  exact ⟨g1, g2⟩
                have u0 : WQ.cell? ⟨qx, 0, none⟩ = some (.int .u32 (e : Int)) := (S10.blk 0 rfl).at_ 0 rfl
                have u1 : WQ.cell? ⟨qx, 1, none⟩ = some (.int .u64 (qo : Int)) := (S10.blk 0 rfl).at_ 1 rfl
                have u2' : WQ.cell? ⟨qx, 2, none⟩ = some (.int .u64 (qa : Int)) := (S10.blk 0 rfl).at_ 2 rfl
                have u3' : WQ.cell? ⟨qx, 3, none⟩ = some (.slice DB dl dc) := (S10.blk 0 rfl).at_ 3 rfl
                have g0' : WQ.cell? ⟨gp, 4, none⟩ = some (.slice RA rn rc) := (S10.blk 2 rfl).at_ 4 rfl
                have g1' : WQ.cell? ⟨gp, 0, none⟩ = some (.pointer (some ⟨g0, 0, none⟩)) := (S10.blk 2 rfl).at_ 0 rfl
                have g2' : WQ.cell? ⟨gp, 2, none⟩ = some (.slice WA wrn wc) := (S10.blk 2 rfl).at_ 2 rfl
                have a0' : WQ.cell? ⟨ab, 0, none⟩ = some (.int .u64 (bs : Int)) := by rw [← hbs]; exact (S10.blk 10 rfl).at_ 0 rfl
                have hq1' : dl = 0 → tl = 1 := fun h => by have h2 := hq1 h; rw [htl] at h2; exact h2
                have H10 := Lib.hid S10
                clear S9 S10 hqs htl hws2 hes hds hesl hU f1 f2 f3 f4 f7 f8 hq hqm he2 hel heg heq hK hqa hqlo hqwin hq1 hqo hqae hcellv hcs hc hg1 hg2 hg3 hg4 hg5 hg6 hg7 hg8 hbs hgl hrn hwrn hRW hRD hxs hdl hu hwc
                have hq2' : (dl = 0 ∧ tl = 1) ∨ 0 < dl := by omega
                go_upto_region 22 with (refine wpList_store_row rfl 32 (.tmp 14) (.tmp 103) rfl qx #[.int .u32 (e : Int), .int .u64 (qo : Int), .int .u64 (qa : Int), .slice DB dl dc] rfl rfl 32 _ (by rw [← HQX.out]; exact Blk.new _ _ _) size32 rfl (pk_one _ _ _ _ _ _) ?_; rw [← HQX.out, World.setRow_alloc_new, hWQ, HQX.out])
                clear c0 c1 c2 c3 hWQ hqx
                rcases hq2' with ⟨hz1, hz2⟩ | hpos
                · as_aux_lemma =>
                  have n0 : ((dl : Int) == 0) = true := by simp; omega
                  have n1 : (dl == 0) = true := by simp; omega
                  have n2 : decide ((1 : Int) < (tl : Int)) = false := decide_eq_false (by omega)
                  have n3 : decide (1 < tl) = false := decide_eq_false (by omega)
                  clear hz1 hz2
                  go_upto_region 23 with (fail)
                  go_quiet (exact Calls.quiet_of_same (hPK.out _))
                  go_upto_region 25 with (fail)
                  have HCW := HCV.out (WQ.drewN nq).drew (below_drewN _ nq).drew
                  have S11 := (H10.out.drewN nq).drew
                  have hSS : (WQ.drewN nq).drew.cell? ⟨gp, 2, none⟩ = some (.slice WA wrn wc) ∧ (WQ.drewN nq).drew.cell? ⟨qx, 1, none⟩ = some (.int .u64 (qo : Int)) ∧ (WQ.drewN nq).drew.cell? ⟨qx, 3, none⟩ = some (.slice DB dl dc) ∧ (convert 27 9 (.slice (subB WA wc qo) dl (wc - qo))).run Try.prog (WQ.drewN nq).drew = .ok (.string xs) (WQ.drewN nq).drew ∧ (convert 27 9 (.slice DB dl dc)).run Try.prog (WQ.drewN nq).drew = .ok (.string xs) (WQ.drewN nq).drew := ⟨g2', u1, u3', HCW.1, HCW.2⟩
                  refine plain_under (fun w => w.cell? ⟨gp, 2, none⟩ = some (.slice WA wrn wc) ∧ w.cell? ⟨qx, 1, none⟩ = some (.int .u64 (qo : Int)) ∧ w.cell? ⟨qx, 3, none⟩ = some (.slice DB dl dc) ∧ (convert 27 9 (.slice (subB WA wc qo) dl (wc - qo))).run Try.prog w = .ok (.string xs) w ∧ (convert 27 9 (.slice DB dl dc)).run Try.prog w = .ok (.string xs) w) (fun _ => true) (by kernel_rfl) ?_
                  generalize (WQ.drewN nq).drew = w12 at hSS S11 ⊢
                  simp only [List.size_toArray, List.length_cons, List.length_nil, Nat.reduceAdd, Array.replicate_succ, Array.replicate_zero, List.push_toArray, List.nil_append, List.cons_append]
                  refine under_free (i := 0) (v := ?_) rfl (by kernel_rfl) (fun _ _ _ h => h) _ _ _ _ (by kernel_rfl) (by kernel_rfl) (Or.inl ⟨by rfl, ?_⟩) ?_
                  rotate_left
                  · intro w _
                    go_simp
                    try with_reducible rfl
                  simp only [Act.put, List.setIfInBounds_toArray, List.set_cons_zero, List.set_cons_succ, List.getElem_toArray, List.getElem_cons_zero]
                  refine under_free (i := 1) (v := ?_) rfl (by kernel_rfl) (fun _ _ _ h => h) _ _ _ _ (by kernel_rfl) (by kernel_rfl) (Or.inl ⟨by rfl, ?_⟩) ?_
                  rotate_left
                  · intro w _
                    go_simp
                    try with_reducible rfl
                  simp only [Act.put, List.setIfInBounds_toArray, List.set_cons_zero, List.set_cons_succ, List.getElem_toArray, List.getElem_cons_zero, List.getElem_cons_succ]
                  refine under_free (i := 2) (v := ?_) rfl (by kernel_rfl) (fun _ _ _ h => h) _ _ _ _ (by kernel_rfl) (by kernel_rfl) (Or.inl ⟨by rfl, ?_⟩) ?_
                  rotate_left
                  · intro w _
                    go_simp
                    try with_reducible rfl
                  simp only [Act.put, List.setIfInBounds_toArray, List.set_cons_zero, List.set_cons_succ, List.getElem_toArray, List.getElem_cons_zero, List.getElem_cons_succ]
                  refine under_free (i := 3) (v := ?_) rfl (by kernel_rfl) (fun _ _ _ h => h) _ _ _ _ (by kernel_rfl) (by kernel_rfl) (Or.inl ⟨by rfl, ?_⟩) ?_
                  rotate_left
                  · intro w _
                    go_simp
                    try with_reducible rfl
                  simp only [Act.put, List.setIfInBounds_toArray, List.set_cons_zero, List.set_cons_succ, List.getElem_toArray, List.getElem_cons_zero, List.getElem_cons_succ]
                  refine under_free (i := 4) (v := ?_) rfl (by kernel_rfl) (fun _ _ _ h => h) _ _ _ _ (by kernel_rfl) (by kernel_rfl) (Or.inl ⟨by rfl, ?_⟩) ?_
                  rotate_left
                  · intro w _
                    go_simp
                    try with_reducible rfl
                  simp only [Act.put, List.setIfInBounds_toArray, List.set_cons_zero, List.set_cons_succ, List.getElem_toArray, List.getElem_cons_zero, List.getElem_cons_succ]
                  refine under_take (i := 5) (v := ?_) rfl (by kernel_rfl) (by kernel_rfl) (fun _ _ _ h => h) _ _ _ _ (by kernel_rfl) (by kernel_rfl) (by kernel_rfl) (Or.inl ⟨by rfl, ?_⟩) hSS ?_
                  rotate_left
                  · intro w hSw
                    obtain ⟨q0, q1, q2, q3, q4⟩ := hSw
                    go_simp
                    try with_reducible rfl
                  simp only [Act.put, List.setIfInBounds_toArray, List.set_cons_zero, List.set_cons_succ, List.getElem_toArray, List.getElem_cons_zero, List.getElem_cons_succ]
                  refine under_free (i := 6) (v := ?_) rfl (by kernel_rfl) (fun _ _ _ h => h) _ _ _ _ (by kernel_rfl) (by kernel_rfl) (Or.inl ⟨by rfl, ?_⟩) ?_
                  rotate_left
                  · intro w _
                    go_simp
                    try with_reducible rfl
                  simp only [Act.put, List.setIfInBounds_toArray, List.set_cons_zero, List.set_cons_succ, List.getElem_toArray, List.getElem_cons_zero, List.getElem_cons_succ]
                  refine under_take (i := 7) (v := ?_) rfl (by kernel_rfl) (by kernel_rfl) (fun _ _ _ h => h) _ _ _ _ (by kernel_rfl) (by kernel_rfl) (by kernel_rfl) (Or.inl ⟨by rfl, ?_⟩) hSS ?_
                  rotate_left
                  · intro w hSw
                    obtain ⟨q0, q1, q2, q3, q4⟩ := hSw
                    go_simp
                    try with_reducible rfl
                  simp only [Act.put, List.setIfInBounds_toArray, List.set_cons_zero, List.set_cons_succ, List.getElem_toArray, List.getElem_cons_zero, List.getElem_cons_succ]
                  refine under_free (i := 8) (v := ?_) rfl (by kernel_rfl) (fun _ _ _ h => h) _ _ _ _ (by kernel_rfl) (by kernel_rfl) (Or.inl ⟨by rfl, ?_⟩) ?_
                  rotate_left
                  · intro w _
                    go_simp
                    try with_reducible rfl
                  simp only [Act.put, List.setIfInBounds_toArray, List.set_cons_zero, List.set_cons_succ, List.getElem_toArray, List.getElem_cons_zero, List.getElem_cons_succ]
                  refine under_take (i := 9) (v := ?_) rfl (by kernel_rfl) (by kernel_rfl) (fun _ _ _ h => h) _ _ _ _ (by kernel_rfl) (by kernel_rfl) (by kernel_rfl) (Or.inl ⟨by rfl, ?_⟩) hSS ?_
                  rotate_left
                  · intro w hSw
                    obtain ⟨q0, q1, q2, q3, q4⟩ := hSw
                    go_simp
                    try with_reducible rfl
                  simp only [Act.put, List.setIfInBounds_toArray, List.set_cons_zero, List.set_cons_succ, List.getElem_toArray, List.getElem_cons_zero, List.getElem_cons_succ]
                  refine under_free (i := 10) (v := ?_) rfl (by kernel_rfl) (fun _ _ _ h => h) _ _ _ _ (by kernel_rfl) (by kernel_rfl) (Or.inl ⟨by rfl, ?_⟩) ?_
                  rotate_left
                  · intro w _
                    go_simp
                    try with_reducible rfl
                  simp only [Act.put, List.setIfInBounds_toArray, List.set_cons_zero, List.set_cons_succ, List.getElem_toArray, List.getElem_cons_zero, List.getElem_cons_succ]
                  refine under_free (i := 11) (v := ?_) rfl (by kernel_rfl) (fun _ _ _ h => h) _ _ _ _ (by kernel_rfl) (by kernel_rfl) (Or.inl ⟨by rfl, ?_⟩) ?_
                  rotate_left
                  · intro w _
                    go_simp
                    try with_reducible rfl
                  simp only [Act.put, List.setIfInBounds_toArray, List.set_cons_zero, List.set_cons_succ, List.getElem_toArray, List.getElem_cons_zero, List.getElem_cons_succ]
                  refine under_free (i := 12) (v := ?_) rfl (by kernel_rfl) (fun _ _ _ h => h) _ _ _ _ (by kernel_rfl) (by kernel_rfl) (Or.inl ⟨by rfl, ?_⟩) ?_
                  rotate_left
                  · intro w _
                    go_simp
                    try with_reducible rfl
                  simp only [Act.put, List.setIfInBounds_toArray, List.set_cons_zero, List.set_cons_succ, List.getElem_toArray, List.getElem_cons_zero, List.getElem_cons_succ]
                  refine under_take (i := 13) (v := ?_) rfl (by kernel_rfl) (by kernel_rfl) (fun _ _ _ h => h) _ _ _ _ (by kernel_rfl) (by kernel_rfl) (by kernel_rfl) (Or.inl ⟨by rfl, ?_⟩) hSS ?_
                  rotate_left
                  · intro w hSw
                    obtain ⟨q0, q1, q2, q3, q4⟩ := hSw
                    go_simp
                    try with_reducible rfl
                  simp only [Act.put, List.setIfInBounds_toArray, List.set_cons_zero, List.set_cons_succ, List.getElem_toArray, List.getElem_cons_zero, List.getElem_cons_succ]
                  refine under_free (i := 14) (v := ?_) rfl (by kernel_rfl) (fun _ _ _ h => h) _ _ _ _ (by kernel_rfl) (by kernel_rfl) (Or.inl ⟨by rfl, ?_⟩) ?_
                  rotate_left
                  · intro w _
                    go_simp
                    try with_reducible rfl
                  simp only [Act.put, List.setIfInBounds_toArray, List.set_cons_zero, List.set_cons_succ, List.getElem_toArray, List.getElem_cons_zero, List.getElem_cons_succ]
                  refine under_take (i := 15) (v := ?_) rfl (by kernel_rfl) (by kernel_rfl) (fun _ _ _ h => h) _ _ _ _ (by kernel_rfl) (by kernel_rfl) (by kernel_rfl) (Or.inl ⟨by rfl, ?_⟩) hSS ?_
                  rotate_left
                  · intro w hSw
                    obtain ⟨q0, q1, q2, q3, q4⟩ := hSw
                    go_simp
                    try with_reducible rfl
                  simp only [Act.put, List.setIfInBounds_toArray, List.set_cons_zero, List.set_cons_succ, List.getElem_toArray, List.getElem_cons_zero, List.getElem_cons_succ]
                  refine under_take (i := 16) (v := ?_) rfl (by kernel_rfl) (by kernel_rfl) (fun _ _ _ h => h) _ _ _ _ (by kernel_rfl) (by kernel_rfl) (by kernel_rfl) (Or.inl ⟨by rfl, ?_⟩) hSS ?_
                  rotate_left
                  · intro w hSw
                    obtain ⟨q0, q1, q2, q3, q4⟩ := hSw
                    go_simp
                    try with_reducible rfl
                  simp only [Act.put, List.setIfInBounds_toArray, List.set_cons_zero, List.set_cons_succ, List.getElem_toArray, List.getElem_cons_zero, List.getElem_cons_succ]
                  refine under_free (i := 17) (v := ?_) rfl (by kernel_rfl) (fun _ _ _ h => h) _ _ _ _ (by kernel_rfl) (by kernel_rfl) (Or.inl ⟨by rfl, ?_⟩) ?_
                  rotate_left
                  · intro w _
                    go_simp
                    try with_reducible rfl
                  simp only [Act.put, List.setIfInBounds_toArray, List.set_cons_zero, List.set_cons_succ, List.getElem_toArray, List.getElem_cons_zero, List.getElem_cons_succ]
                  refine under_done (by kernel_rfl) ?_ _
                  go_wp2_with fail
                  go_roundw
                  case measure => simp [intOf]; omega
                  case rel => exact ⟨j + 1, hjt, by go_num, S11.tail⟩
                · as_aux_lemma =>
                  have n0 : ((dl : Int) == 0) = false := by simp; omega
                  have n1 : (dl == 0) = false := by simp; omega
                  clear hpos
                  go_upto_region 23 with (fail)
                  go_quiet (exact Calls.quiet_of_same (hPK.out _))
                  go_upto_region 25 with (fail)
                  have HCW := HCV.out (WQ.drewN nq).drew (below_drewN _ nq).drew
                  have S11 := (H10.out.drewN nq).drew
                  have hSS : (WQ.drewN nq).drew.cell? ⟨gp, 2, none⟩ = some (.slice WA wrn wc) ∧ (WQ.drewN nq).drew.cell? ⟨qx, 1, none⟩ = some (.int .u64 (qo : Int)) ∧ (WQ.drewN nq).drew.cell? ⟨qx, 3, none⟩ = some (.slice DB dl dc) ∧ (convert 27 9 (.slice (subB WA wc qo) dl (wc - qo))).run Try.prog (WQ.drewN nq).drew = .ok (.string xs) (WQ.drewN nq).drew ∧ (convert 27 9 (.slice DB dl dc)).run Try.prog (WQ.drewN nq).drew = .ok (.string xs) (WQ.drewN nq).drew := ⟨g2', u1, u3', HCW.1, HCW.2⟩
                  refine plain_under (fun w => w.cell? ⟨gp, 2, none⟩ = some (.slice WA wrn wc) ∧ w.cell? ⟨qx, 1, none⟩ = some (.int .u64 (qo : Int)) ∧ w.cell? ⟨qx, 3, none⟩ = some (.slice DB dl dc) ∧ (convert 27 9 (.slice (subB WA wc qo) dl (wc - qo))).run Try.prog w = .ok (.string xs) w ∧ (convert 27 9 (.slice DB dl dc)).run Try.prog w = .ok (.string xs) w) (fun _ => true) (by kernel_rfl) ?_
                  generalize (WQ.drewN nq).drew = w12 at hSS S11 ⊢
                  simp only [List.size_toArray, List.length_cons, List.length_nil, Nat.reduceAdd, Array.replicate_succ, Array.replicate_zero, List.push_toArray, List.nil_append, List.cons_append]
                  refine under_free (i := 0) (v := ?_) rfl (by kernel_rfl) (fun _ _ _ h => h) _ _ _ _ (by kernel_rfl) (by kernel_rfl) (Or.inl ⟨by rfl, ?_⟩) ?_
                  rotate_left
                  · intro w _
                    go_simp
                    try with_reducible rfl
                  simp only [Act.put, List.setIfInBounds_toArray, List.set_cons_zero, List.set_cons_succ, List.getElem_toArray, List.getElem_cons_zero]
                  refine under_free (i := 1) (v := ?_) rfl (by kernel_rfl) (fun _ _ _ h => h) _ _ _ _ (by kernel_rfl) (by kernel_rfl) (Or.inl ⟨by rfl, ?_⟩) ?_
                  rotate_left
                  · intro w _
                    go_simp
                    try with_reducible rfl
                  simp only [Act.put, List.setIfInBounds_toArray, List.set_cons_zero, List.set_cons_succ, List.getElem_toArray, List.getElem_cons_zero, List.getElem_cons_succ]
                  refine under_free (i := 2) (v := ?_) rfl (by kernel_rfl) (fun _ _ _ h => h) _ _ _ _ (by kernel_rfl) (by kernel_rfl) (Or.inl ⟨by rfl, ?_⟩) ?_
                  rotate_left
                  · intro w _
                    go_simp
                    try with_reducible rfl
                  simp only [Act.put, List.setIfInBounds_toArray, List.set_cons_zero, List.set_cons_succ, List.getElem_toArray, List.getElem_cons_zero, List.getElem_cons_succ]
                  refine under_free (i := 3) (v := ?_) rfl (by kernel_rfl) (fun _ _ _ h => h) _ _ _ _ (by kernel_rfl) (by kernel_rfl) (Or.inl ⟨by rfl, ?_⟩) ?_
                  rotate_left
                  · intro w _
                    go_simp
                    try with_reducible rfl
                  simp only [Act.put, List.setIfInBounds_toArray, List.set_cons_zero, List.set_cons_succ, List.getElem_toArray, List.getElem_cons_zero, List.getElem_cons_succ]
                  refine under_free (i := 4) (v := ?_) rfl (by kernel_rfl) (fun _ _ _ h => h) _ _ _ _ (by kernel_rfl) (by kernel_rfl) (Or.inl ⟨by rfl, ?_⟩) ?_
                  rotate_left
                  · intro w _
                    go_simp
                    try with_reducible rfl
                  simp only [Act.put, List.setIfInBounds_toArray, List.set_cons_zero, List.set_cons_succ, List.getElem_toArray, List.getElem_cons_zero, List.getElem_cons_succ]
                  refine under_take (i := 5) (v := ?_) rfl (by kernel_rfl) (by kernel_rfl) (fun _ _ _ h => h) _ _ _ _ (by kernel_rfl) (by kernel_rfl) (by kernel_rfl) (Or.inl ⟨by rfl, ?_⟩) hSS ?_
                  rotate_left
                  · intro w hSw
                    obtain ⟨q0, q1, q2, q3, q4⟩ := hSw
                    go_simp
                    try with_reducible rfl
                  simp only [Act.put, List.setIfInBounds_toArray, List.set_cons_zero, List.set_cons_succ, List.getElem_toArray, List.getElem_cons_zero, List.getElem_cons_succ]
                  refine under_free (i := 6) (v := ?_) rfl (by kernel_rfl) (fun _ _ _ h => h) _ _ _ _ (by kernel_rfl) (by kernel_rfl) (Or.inl ⟨by rfl, ?_⟩) ?_
                  rotate_left
                  · intro w _
                    go_simp
                    try with_reducible rfl
                  simp only [Act.put, List.setIfInBounds_toArray, List.set_cons_zero, List.set_cons_succ, List.getElem_toArray, List.getElem_cons_zero, List.getElem_cons_succ]
                  refine under_take (i := 7) (v := ?_) rfl (by kernel_rfl) (by kernel_rfl) (fun _ _ _ h => h) _ _ _ _ (by kernel_rfl) (by kernel_rfl) (by kernel_rfl) (Or.inl ⟨by rfl, ?_⟩) hSS ?_
                  rotate_left
                  · intro w hSw
                    obtain ⟨q0, q1, q2, q3, q4⟩ := hSw
                    go_simp
                    try with_reducible rfl
                  simp only [Act.put, List.setIfInBounds_toArray, List.set_cons_zero, List.set_cons_succ, List.getElem_toArray, List.getElem_cons_zero, List.getElem_cons_succ]
                  refine under_free (i := 8) (v := ?_) rfl (by kernel_rfl) (fun _ _ _ h => h) _ _ _ _ (by kernel_rfl) (by kernel_rfl) (Or.inl ⟨by rfl, ?_⟩) ?_
                  rotate_left
                  · intro w _
                    go_simp
                    try with_reducible rfl
                  simp only [Act.put, List.setIfInBounds_toArray, List.set_cons_zero, List.set_cons_succ, List.getElem_toArray, List.getElem_cons_zero, List.getElem_cons_succ]
                  refine under_take (i := 9) (v := ?_) rfl (by kernel_rfl) (by kernel_rfl) (fun _ _ _ h => h) _ _ _ _ (by kernel_rfl) (by kernel_rfl) (by kernel_rfl) (Or.inl ⟨by rfl, ?_⟩) hSS ?_
                  rotate_left
                  · intro w hSw
                    obtain ⟨q0, q1, q2, q3, q4⟩ := hSw
                    go_simp
                    try with_reducible rfl
                  simp only [Act.put, List.setIfInBounds_toArray, List.set_cons_zero, List.set_cons_succ, List.getElem_toArray, List.getElem_cons_zero, List.getElem_cons_succ]
                  refine under_free (i := 10) (v := ?_) rfl (by kernel_rfl) (fun _ _ _ h => h) _ _ _ _ (by kernel_rfl) (by kernel_rfl) (Or.inl ⟨by rfl, ?_⟩) ?_
                  rotate_left
                  · intro w _
                    go_simp
                    try with_reducible rfl
                  simp only [Act.put, List.setIfInBounds_toArray, List.set_cons_zero, List.set_cons_succ, List.getElem_toArray, List.getElem_cons_zero, List.getElem_cons_succ]
                  refine under_free (i := 11) (v := ?_) rfl (by kernel_rfl) (fun _ _ _ h => h) _ _ _ _ (by kernel_rfl) (by kernel_rfl) (Or.inl ⟨by rfl, ?_⟩) ?_
                  rotate_left
                  · intro w _
                    go_simp
                    try with_reducible rfl
                  simp only [Act.put, List.setIfInBounds_toArray, List.set_cons_zero, List.set_cons_succ, List.getElem_toArray, List.getElem_cons_zero, List.getElem_cons_succ]
                  refine under_free (i := 12) (v := ?_) rfl (by kernel_rfl) (fun _ _ _ h => h) _ _ _ _ (by kernel_rfl) (by kernel_rfl) (Or.inl ⟨by rfl, ?_⟩) ?_
                  rotate_left
                  · intro w _
                    go_simp
                    try with_reducible rfl
                  simp only [Act.put, List.setIfInBounds_toArray, List.set_cons_zero, List.set_cons_succ, List.getElem_toArray, List.getElem_cons_zero, List.getElem_cons_succ]
                  refine under_take (i := 13) (v := ?_) rfl (by kernel_rfl) (by kernel_rfl) (fun _ _ _ h => h) _ _ _ _ (by kernel_rfl) (by kernel_rfl) (by kernel_rfl) (Or.inl ⟨by rfl, ?_⟩) hSS ?_
                  rotate_left
                  · intro w hSw
                    obtain ⟨q0, q1, q2, q3, q4⟩ := hSw
                    go_simp
                    try with_reducible rfl
                  simp only [Act.put, List.setIfInBounds_toArray, List.set_cons_zero, List.set_cons_succ, List.getElem_toArray, List.getElem_cons_zero, List.getElem_cons_succ]
                  refine under_free (i := 14) (v := ?_) rfl (by kernel_rfl) (fun _ _ _ h => h) _ _ _ _ (by kernel_rfl) (by kernel_rfl) (Or.inl ⟨by rfl, ?_⟩) ?_
                  rotate_left
                  · intro w _
                    go_simp
                    try with_reducible rfl
                  simp only [Act.put, List.setIfInBounds_toArray, List.set_cons_zero, List.set_cons_succ, List.getElem_toArray, List.getElem_cons_zero, List.getElem_cons_succ]
                  refine under_take (i := 15) (v := ?_) rfl (by kernel_rfl) (by kernel_rfl) (fun _ _ _ h => h) _ _ _ _ (by kernel_rfl) (by kernel_rfl) (by kernel_rfl) (Or.inl ⟨by rfl, ?_⟩) hSS ?_
                  rotate_left
                  · intro w hSw
                    obtain ⟨q0, q1, q2, q3, q4⟩ := hSw
                    go_simp
                    try with_reducible rfl
                  simp only [Act.put, List.setIfInBounds_toArray, List.set_cons_zero, List.set_cons_succ, List.getElem_toArray, List.getElem_cons_zero, List.getElem_cons_succ]
                  refine under_take (i := 16) (v := ?_) rfl (by kernel_rfl) (by kernel_rfl) (fun _ _ _ h => h) _ _ _ _ (by kernel_rfl) (by kernel_rfl) (by kernel_rfl) (Or.inl ⟨by rfl, ?_⟩) hSS ?_
                  rotate_left
                  · intro w hSw
                    obtain ⟨q0, q1, q2, q3, q4⟩ := hSw
                    go_simp
                    try with_reducible rfl
                  simp only [Act.put, List.setIfInBounds_toArray, List.set_cons_zero, List.set_cons_succ, List.getElem_toArray, List.getElem_cons_zero, List.getElem_cons_succ]
                  refine under_free (i := 17) (v := ?_) rfl (by kernel_rfl) (fun _ _ _ h => h) _ _ _ _ (by kernel_rfl) (by kernel_rfl) (Or.inl ⟨by rfl, ?_⟩) ?_
                  rotate_left
                  · intro w _
                    go_simp
                    try with_reducible rfl
                  simp only [Act.put, List.setIfInBounds_toArray, List.set_cons_zero, List.set_cons_succ, List.getElem_toArray, List.getElem_cons_zero, List.getElem_cons_succ]
                  refine under_done (by kernel_rfl) ?_ _
                  go_wp2_with fail
                  go_roundw
                  case measure => simp [intOf]; omega
                  case rel => exact ⟨j + 1, hjt, by go_num, S11.tail⟩
              · have H9 := Lib.hid S9
                clear S9
                go_wp2_with fail
                go_roundw
                case measure => simp [intOf]; omega
                case rel =>
                  obtain ⟨hqs, htl, hws2, hes, hds, hesl, hU⟩ := HT.out
                  have h2 := HP2.out
                  rw [stepS_tick HD1.out, HSD.out] at h2
                  refine ⟨i + 1, tickPS p false, hlt, by go_num, Lib.hid h2, ?_⟩
                  have h3 : Sep w wr (row 32 4 (.slice YB (wn + tl) yc2) es.length (entP es) :: (ds.map rowD ++ (cell gp 49 (PV.cs ⟨g0, g1, vw0, vw1, vr0, vr1, .slice YB (wn + tl) yc2, vt⟩) :: LinkAt g0 (tickS (p.l false)) :: LinkAt g1 (p.l true) :: BRow vw0 (p.wr false) :: BRow vw1 (p.wr true) :: BRow vr0 (p.rd false) :: BRow vr1 (p.rd true) :: IRow vt (tickPS p false).ws :: [cell ab 41 #[.int .u64 ((p.l false).base : Int), .int .u64 ((p.l true).base : Int)]]))) := by
                    rw [hesl, hU]
                    exact H9.out.perm (List.Perm.cons _ (perm9 _ _ _ _ _ _ _ _ _ U))
                  have h4 := Sep.closeK hes hds h3
                  have h5 := Sep.closeP2 (p := tickPS p false) ⟨g0, g1, vw0, vw1, vr0, vr1, .slice YB (wn + tl) yc2, vt⟩ (h4.ix 9 [1, 2, 3, 4, 5, 6, 7, 0, 8] [] (by decide))
                  have hb : ((tickPS p false).l false).base = (p.l false).base := HF.out.2.1
                  refine h5.eqL ?_
                  show _ :: [cell ab 41 _] = _ :: [cell ab 41 _]
                  rw [hb]
                  rfl
          · as_aux_lemma =>
            have hdm : (v.x.d : Int) % 6 = 1 := by omega
            have HSD := Lib.hid hsd
            rw [hsd] at hst1 SX HSt
            have x0 : w3.cell? ⟨xb, 0, none⟩ = some (.int .u8 (v.x.d : Int)) := (SX.blk 0 rfl).at_ 0 rfl
            have x1 : w3.cell? ⟨xb, 1, none⟩ = some (.bool true) := (SX.blk 0 rfl).at_ 1 rfl
            have x2 : w3.cell? ⟨xb, 2, none⟩ = some (.int .i64 v.x.a) := (SX.blk 0 rfl).at_ 2 rfl
            have x3 : w3.cell? ⟨xb, 3, none⟩ = some (.slice v.A vm v.c) := (SX.blk 0 rfl).at_ 3 rfl
            have HS := Lib.hid (HSt.out _ _ SX.swap)
            rw [hR2] at HS
            clear HSt hsd
            go_wp2_with fail
            refine HS.out.mono ?_
            rintro en w4 ⟨rfl, S4⟩
            rw [hst1] at S4
            clear HS x0 x1 x2 x3 y6k x0k SX
            obtain ⟨f1, f2, f3, f4, f5, f6, f7, f8⟩ := tick_facts (hP.out.inv.l true)
            obtain ⟨qs, hqs⟩ : ∃ qs, tickP (p.l true) = qs := ⟨_, rfl⟩
            rw [hqs] at f8
            obtain ⟨tl, htl⟩ : ∃ tl, qs.length = tl := ⟨_, rfl⟩
            have hws2 : (tickPS p true).ws = p.ws ++ qs.map fun q => (!true, q) := by unfold tickPS; rw [hqs]
            have hwl2 : (tickPS p true).ws.length = wn + tl := by rw [hws2, List.length_append, List.length_map, hwn, htl]
            obtain ⟨pv, SO⟩ := S4.openP2
            obtain ⟨g0, g1, vw0, vw1, vr0, vr1, vy, vt⟩ := pv
            have x0' : w4.cell? ⟨xb, 0, none⟩ = some (.int .u8 (v.x.d : Int)) := (SO.blk 9 rfl).at_ 0 rfl
            have x1' : w4.cell? ⟨xb, 1, none⟩ = some (.bool true) := (SO.blk 9 rfl).at_ 1 rfl
            have S5 : Sep w w4 (PkX vy ((tickPS p true).ws.map (·.2)) :: cell gp 49 (PV.cs ⟨g0, g1, vw0, vw1, vr0, vr1, vy, vt⟩) :: LinkAt g0 (p.l false) :: LinkAt g1 (tickS (p.l true)) :: BRow vw0 (p.wr false) :: BRow vw1 (p.wr true) :: BRow vr0 (p.rd false) :: BRow vr1 (p.rd true) :: IRow vt (tickPS p true).ws :: [cell ab 41 #[.int .u64 ((p.l false).base : Int), .int .u64 ((p.l true).base : Int)]]) := SO.ix 11 [7, 0, 1, 2, 3, 4, 5, 6, 8, 10] [9] (by decide)
            obtain ⟨es, ds, hes, hds, S6⟩ := S5.openK
            have hesl : es.length = wn + tl := by have h := congrArg List.length hes; rw [List.length_map, List.length_map, hwl2] at h; exact h
            obtain ⟨YB, yc2, hvy, hyc2, -⟩ := own_slice (S6.own 0 rfl)
            rw [hesl] at hvy hyc2 S6
            subst hvy
            obtain ⟨U, hU⟩ : ∃ U, ds.map rowD = U := ⟨_, rfl⟩
            rw [hU] at S6
            have S7 := S6.perm (List.Perm.cons _ List.perm_append_comm)
            clear S4 SO S5 S6
            have hsl : ∃ TA tc, (∀ w, (Instr.slice 28 (.slice YB (wn + tl) yc2) (some (.int .i64 (wn : Int))) none none).run Try.prog w = .ok (.slice TA tl tc) w) ∧ (0 < tl → ∃ yb, YB = some ⟨yb, 0, none⟩ ∧ TA = some ⟨yb, wn * 4, none⟩) := by
              have h := part_lo 28 4 Try.underlying28 size28 .i64 YB (wn + tl) yc2 wn (by omega)
              rw [Nat.add_sub_cancel_left] at h
              refine ⟨_, _, h, fun hp => ?_⟩
              obtain ⟨yb, y2, hyb, -⟩ := (S7.own 0 rfl).form (by omega)
              injection hyb with hyb _ _
              subst hyb
              refine ⟨yb, rfl, ?_⟩
              unfold subV
              rw [if_neg (by omega)]
              simp [Addr.add]
              omega
            obtain ⟨TA, tc, hsl, hTA⟩ := hsl
            have y6 : w4.cell? ⟨gp, 6, none⟩ = some (.slice YB (wn + tl) yc2) := (S7.blk 1 rfl).at_ 6 rfl
            have htlb : tl ≤ 2000 := by rw [← htl, ← hqs]; exact tick_len (hP.out.inv.l true)
            have HF := Lib.hid (And.intro f1 (And.intro f2 (And.intro f3 (And.intro f4 (And.intro f7 f8)))))
            have HT := Lib.hid (And.intro hqs (And.intro htl (And.intro hws2 (And.intro hes (And.intro hds (And.intro hesl hU))))))
            clear f1 f2 f3 f4 f5 f6 f7 f8 hqs htl hws2 hes hds hesl hU hst1 hd1 hd2i hd2
            have H7 := Lib.hid S7
            clear S7
            go_wp2_with fail
            refine (side_any true _).mono ?_
            rintro en w5 ⟨rfl, rfl⟩
            clear x0' x1'
            go_wp2_with fail
            have S8 := H7.out
            clear H7 y6
            go_loopw [13, 14, 15] (fun p13 _ _ wi => ∃ j : Nat, j ≤ tl ∧ p13 = .int .i64 (j : Int) ∧ Sep w wi (row 32 4 (.slice YB (wn + tl) yc2) (wn + tl) (entP es) :: cell gp 49 #[.pointer (some ⟨g0, 0, none⟩), .pointer (some ⟨g1, 0, none⟩), vw0, vw1, vr0, vr1, .slice YB (wn + tl) yc2, vt] :: LinkAt g0 (p.l false) :: LinkAt g1 (tickS (p.l true)) :: BRow vw0 (p.wr false) :: BRow vw1 (p.wr true) :: BRow vr0 (p.rd false) :: BRow vr1 (p.rd true) :: IRow vt (tickPS p true).ws :: cell ab 41 #[.int .u64 ((p.l false).base : Int), .int .u64 ((p.l true).base : Int)] :: U)) (fun p13 _ _ _ => tl - (intOf p13).toNat)
            case atStart => exact ⟨0, Nat.zero_le _, rfl, S8⟩
            case round =>
              clear S8
              obtain ⟨j, hj, rfl, S9⟩ := hrel
              by_cases hjt : j < tl
              · have hjt' : (j : Int) < (tl : Int) := by omega
                obtain ⟨hqs, htl, hws2, hes, hds, hesl, hU⟩ := HT.out
                obtain ⟨f1, f2, f3, f4, f7, f8⟩ := HF.out
                obtain ⟨yb, rfl, rfl⟩ := hTA (by omega)
                obtain ⟨q, hq⟩ : ∃ q, qs[j]? = some q := ⟨_, List.getElem?_eq_getElem (by omega)⟩
                have hqm : q ∈ tickP (p.l true) := by rw [hqs]; exact List.mem_of_getElem? hq
                have hq2 := f8 q (by rw [← hqs]; exact hqm)
                have hek : ∃ e2, es[wn + j]? = some e2 ∧ e2.2 = q := by
                  have h : (es.map (·.2))[wn + j]? = some q := by
                    rw [hes, hws2, List.map_append, List.getElem?_append_right (by rw [List.length_map, hwn]; omega), List.length_map, hwn, Nat.add_sub_cancel_left, List.map_map, List.getElem?_map, hq]
                    rfl
                  rw [List.getElem?_map] at h
                  cases hx : es[wn + j]? with
                  | none => rw [hx] at h; cases h
                  | some e => rw [hx] at h; exact ⟨e, rfl, by injection h⟩
                obtain ⟨e2, he2, heq⟩ := hek
                obtain ⟨hel, heg⟩ := List.getElem?_eq_some_iff.1 he2
                have hdat := rb_of (L := []) (by have h := S9.ix 10 [] [0, 1, 2, 3, 4, 5, 6, 7, 8, 9] (by decide); rw [← hU] at h; simpa using h) (hds e2 (by rw [← heg]; exact List.getElem_mem hel))
                obtain ⟨DB, dc, hu, -, -, hRD⟩ := hdat
                rw [heq] at hu hRD
                obtain ⟨dl, hdl⟩ : ∃ dl, q.d.length = dl := ⟨_, rfl⟩
                rw [hdl] at hu hRD
                obtain ⟨hK, hqa, hqlo, hqwin, hq1⟩ := hq2
                obtain ⟨qo, hqo⟩ : ∃ x, q.o = x := ⟨_, rfl⟩
                obtain ⟨qa, hqae⟩ : ∃ x, q.a = x := ⟨_, rfl⟩
                have hcellv : (es[wn + j]'hel).2.cells (es[wn + j]'hel).1 = [.int .u32 (e : Int), .int .u64 (qo : Int), .int .u64 (qa : Int), .slice DB dl dc] := by rw [heg, heq, hu]; unfold Pk.cells; rw [hK.ep, hqo, hqae]
                have hcs : ∀ k u, [Value.int .u32 (e : Int), .int .u64 (qo : Int), .int .u64 (qa : Int), .slice DB dl dc][k]? = some u → wr.cell? ⟨yb, wn * 4 + j * 4 + k, none⟩ = some u := fun k u hk => by
                  rw [show wn * 4 + j * 4 + k = (wn + j) * 4 + k by omega]
                  exact own_cells (S9.own 0 rfl) _ _ (entP_get es (wn + j) hel k u (by rw [hcellv]; exact hk))
                have c0 : wr.cell? ⟨yb, wn * 4 + j * 4, none⟩ = some (.int .u32 (e : Int)) := hcs 0 _ rfl
                have c1 : wr.cell? ⟨yb, wn * 4 + j * 4 + 1, none⟩ = some (.int .u64 (qo : Int)) := hcs 1 _ rfl
                have c2 : wr.cell? ⟨yb, wn * 4 + j * 4 + 2, none⟩ = some (.int .u64 (qa : Int)) := hcs 2 _ rfl
                have c3 : wr.cell? ⟨yb, wn * 4 + j * 4 + 3, none⟩ = some (.slice DB dl dc) := hcs 3 _ rfl
                have s4 : (0 : Int) ≤ (j : Int) := by omega
                obtain ⟨WQ, hWQ, S10⟩ := S9.boxedF 32 #[.int .u32 (e : Int), .int .u64 (qo : Int), .int .u64 (qa : Int), .slice DB dl dc]
                obtain ⟨qx, hqx⟩ : ∃ b, wr.heap.size = b := ⟨_, rfl⟩
                rw [hqx] at S10
                have HQX := Lib.hid hqx
                -- the row that was written, what was read and came
                obtain ⟨WA, wc, hww, hwc, -, hRW⟩ := S10.bform 6 rfl
                obtain ⟨RA, rc, hrr, -, -, -⟩ := S10.bform 8 rfl
                obtain ⟨wrn, hwrn⟩ : ∃ n, (p.wr true).length = n := ⟨_, rfl⟩
                obtain ⟨rn, hrn⟩ : ∃ n, (p.rd true).length = n := ⟨_, rfl⟩
                rw [hwrn] at hww hwc hRW
                rw [hrn] at hrr
                subst hww hrr
                obtain ⟨gl, hgl⟩ : ∃ n, (tickS (p.l true)).got.length = n := ⟨_, rfl⟩
                have hPK : Hid (∀ k, Calls Try.prog 15 #[.pointer (some ⟨g1, 0, none⟩)] (WQ.drewN k) fun en w' => en = .returned (.int .i64 (gl : Int)) ∧ w' = WQ.drewN k) := Lib.hid fun k => (peek_any 4 rfl (S10.drewN k)).mono fun _ _ ⟨h1, h2⟩ => ⟨by rw [h1, hgl], h2.symm⟩
                obtain ⟨bs, hbs⟩ : ∃ n, (p.l true).base = n := ⟨_, rfl⟩
                have hc := hP.out.inv.c true
                have hg1 := congrArg List.length hc.got
                have hg2 := hc.nx
                have hg3 := (hP.out.inv.l false).mw
                have hg4 := hP.out.wr false
                have hg5 := hP.out.wr true
                have hg6 := f1.mw
                have hg7 := hK.om
                have hg8 := hK.len
                change (p.l true).next ≤ (p.l false).most at hg2
                change (p.rd true ++ (p.l true).got).length = ((p.wr false).take (p.l true).next).length at hg1
                rw [List.length_append, List.length_take, hrn, ← f4, hgl] at hg1
                rw [hqo, hdl] at hg7 hqwin
                rw [hwrn] at hg5 hg6
                rw [hdl] at hg8 hq1
                rw [hqo] at hqlo
                rw [hbs] at hqlo hqwin
                rw [hqae] at hqa
                have hsum : (rn : Int) + (gl : Int) = (qa : Int) := by omega
                have j1 : IntKind.i64.wrap (qa : Int) = (qa : Int) := IntWalk.i64_in _ (by omega)
                have j2 : IntKind.u64.wrap (qa : Int) = (qa : Int) := u64_in (by omega) (by omega)
                have j3 : IntKind.u64.wrap (dl : Int) = (dl : Int) := u64_in (by omega) (by omega)
                have j4 : IntKind.u64.wrap ((qo : Int) + (dl : Int)) = (qo : Int) + (dl : Int) := u64_in (by omega) (by omega)
                have j5 : IntKind.u64.wrap ((bs : Int) + 1024) = (bs : Int) + 1024 := u64_in (by omega) (by omega)
                have j6 : IntKind.u64.wrap (wrn : Int) = (wrn : Int) := u64_in (by omega) (by omega)
                have k1 : decide ((256 : Int) < (dl : Int)) = false := decide_eq_false (by omega)
                have k2 : decide (256 < dl) = false := decide_eq_false (by omega)
                have k3 : decide ((qo : Int) < (bs : Int)) = false := decide_eq_false (by omega)
                have k4 : decide (qo < bs) = false := decide_eq_false (by omega)
                have k5 : decide ((bs : Int) + 1024 < (qo : Int) + (dl : Int)) = false := decide_eq_false (by omega)
                have k6 : decide ((wrn : Int) < (qo : Int) + (dl : Int)) = false := decide_eq_false (by omega)
                have hslc : ∀ w, (Instr.slice 27 (.slice WA wrn wc) (some (.int .u64 (qo : Int))) (some (.int .u64 ((qo : Int) + (dl : Int)))) none).run Try.prog w = .ok (.slice (subB WA wc qo) dl (wc - qo)) w := by
                  intro w
                  have h := slice_lh .u64 WA wrn wc qo (qo + dl) (by omega) (by omega) w
                  rw [Nat.add_sub_cancel_left, Int.natCast_add] at h
                  exact h
                obtain ⟨xs, hxs⟩ : ∃ xs, strB q.d = xs := ⟨_, rfl⟩
                have HCV : Hid (∀ X, Below WQ.heap.size WQ X → (convert 27 9 (.slice (subB WA wc qo) dl (wc - qo))).run Try.prog X = .ok (.string xs) X ∧ (convert 27 9 (.slice DB dl dc)).run Try.prog X = .ok (.string xs) X) := Lib.hid fun X hb => by
                  have h1 := (((hRW.below hb).drop qo (by omega) hwc).take dl (by omega))
                  have hd := hK.d
                  rw [hdl, hqo] at hd
                  rw [← hd] at h1
                  have hb2 : Below wr.heap.size wr WQ := by rw [← hWQ]; exact (Below.refl _ _).alloc (Nat.le_refl _) _
                  have h2 := (hRD.below hb2).below hb
                  have g1 := str_conv (c := wc - qo) h1
                  have g2 := str_conv (c := dc) h2
                  rw [hxs] at g1 g2
                  exact ⟨g1, g2⟩
                have u0 : WQ.cell? ⟨qx, 0, none⟩ = some (.int .u32 (e : Int)) := (S10.blk 0 rfl).at_ 0 rfl
                have u1 : WQ.cell? ⟨qx, 1, none⟩ = some (.int .u64 (qo : Int)) := (S10.blk 0 rfl).at_ 1 rfl
                have u2' : WQ.cell? ⟨qx, 2, none⟩ = some (.int .u64 (qa : Int)) := (S10.blk 0 rfl).at_ 2 rfl
                have u3' : WQ.cell? ⟨qx, 3, none⟩ = some (.slice DB dl dc) := (S10.blk 0 rfl).at_ 3 rfl
                have g0' : WQ.cell? ⟨gp, 5, none⟩ = some (.slice RA rn rc) := (S10.blk 2 rfl).at_ 5 rfl
                have g1' : WQ.cell? ⟨gp, 1, none⟩ = some (.pointer (some ⟨g1, 0, none⟩)) := (S10.blk 2 rfl).at_ 1 rfl
                have g2' : WQ.cell? ⟨gp, 3, none⟩ = some (.slice WA wrn wc) := (S10.blk 2 rfl).at_ 3 rfl
                have a0' : WQ.cell? ⟨ab, 1, none⟩ = some (.int .u64 (bs : Int)) := by rw [← hbs]; exact (S10.blk 10 rfl).at_ 1 rfl
                have hq1' : dl = 0 → tl = 1 := fun h => by have h2 := hq1 h; rw [htl] at h2; exact h2
                have H10 := Lib.hid S10
                clear S9 S10 hqs htl hws2 hes hds hesl hU f1 f2 f3 f4 f7 f8 hq hqm he2 hel heg heq hK hqa hqlo hqwin hq1 hqo hqae hcellv hcs hc hg1 hg2 hg3 hg4 hg5 hg6 hg7 hg8 hbs hgl hrn hwrn hRW hRD hxs hdl hu hwc
                have hq2' : (dl = 0 ∧ tl = 1) ∨ 0 < dl := by omega
                go_upto_region 22 with (refine wpList_store_row rfl 32 (.tmp 14) (.tmp 103) rfl qx #[.int .u32 (e : Int), .int .u64 (qo : Int), .int .u64 (qa : Int), .slice DB dl dc] rfl rfl 32 _ (by rw [← HQX.out]; exact Blk.new _ _ _) size32 rfl (pk_one _ _ _ _ _ _) ?_; rw [← HQX.out, World.setRow_alloc_new, hWQ, HQX.out])
                clear c0 c1 c2 c3 hWQ hqx
                rcases hq2' with ⟨hz1, hz2⟩ | hpos
                · as_aux_lemma =>
                  have n0 : ((dl : Int) == 0) = true := by simp; omega
                  have n1 : (dl == 0) = true := by simp; omega
                  have n2 : decide ((1 : Int) < (tl : Int)) = false := decide_eq_false (by omega)
                  have n3 : decide (1 < tl) = false := decide_eq_false (by omega)
                  clear hz1 hz2
                  go_upto_region 23 with (fail)
                  go_quiet (exact Calls.quiet_of_same (hPK.out _))
                  go_upto_region 25 with (fail)
                  have HCW := HCV.out (WQ.drewN nq).drew (below_drewN _ nq).drew
                  have S11 := (H10.out.drewN nq).drew
                  have hSS : (WQ.drewN nq).drew.cell? ⟨gp, 3, none⟩ = some (.slice WA wrn wc) ∧ (WQ.drewN nq).drew.cell? ⟨qx, 1, none⟩ = some (.int .u64 (qo : Int)) ∧ (WQ.drewN nq).drew.cell? ⟨qx, 3, none⟩ = some (.slice DB dl dc) ∧ (convert 27 9 (.slice (subB WA wc qo) dl (wc - qo))).run Try.prog (WQ.drewN nq).drew = .ok (.string xs) (WQ.drewN nq).drew ∧ (convert 27 9 (.slice DB dl dc)).run Try.prog (WQ.drewN nq).drew = .ok (.string xs) (WQ.drewN nq).drew := ⟨g2', u1, u3', HCW.1, HCW.2⟩
                  refine plain_under (fun w => w.cell? ⟨gp, 3, none⟩ = some (.slice WA wrn wc) ∧ w.cell? ⟨qx, 1, none⟩ = some (.int .u64 (qo : Int)) ∧ w.cell? ⟨qx, 3, none⟩ = some (.slice DB dl dc) ∧ (convert 27 9 (.slice (subB WA wc qo) dl (wc - qo))).run Try.prog w = .ok (.string xs) w ∧ (convert 27 9 (.slice DB dl dc)).run Try.prog w = .ok (.string xs) w) (fun _ => true) (by kernel_rfl) ?_
                  generalize (WQ.drewN nq).drew = w12 at hSS S11 ⊢
                  simp only [List.size_toArray, List.length_cons, List.length_nil, Nat.reduceAdd, Array.replicate_succ, Array.replicate_zero, List.push_toArray, List.nil_append, List.cons_append]
                  refine under_free (i := 0) (v := ?_) rfl (by kernel_rfl) (fun _ _ _ h => h) _ _ _ _ (by kernel_rfl) (by kernel_rfl) (Or.inl ⟨by rfl, ?_⟩) ?_
                  rotate_left
                  · intro w _
                    go_simp
                    try with_reducible rfl
                  simp only [Act.put, List.setIfInBounds_toArray, List.set_cons_zero, List.set_cons_succ, List.getElem_toArray, List.getElem_cons_zero]
                  refine under_free (i := 1) (v := ?_) rfl (by kernel_rfl) (fun _ _ _ h => h) _ _ _ _ (by kernel_rfl) (by kernel_rfl) (Or.inl ⟨by rfl, ?_⟩) ?_
                  rotate_left
                  · intro w _
                    go_simp
                    try with_reducible rfl
                  simp only [Act.put, List.setIfInBounds_toArray, List.set_cons_zero, List.set_cons_succ, List.getElem_toArray, List.getElem_cons_zero, List.getElem_cons_succ]
                  refine under_free (i := 2) (v := ?_) rfl (by kernel_rfl) (fun _ _ _ h => h) _ _ _ _ (by kernel_rfl) (by kernel_rfl) (Or.inl ⟨by rfl, ?_⟩) ?_
                  rotate_left
                  · intro w _
                    go_simp
                    try with_reducible rfl
                  simp only [Act.put, List.setIfInBounds_toArray, List.set_cons_zero, List.set_cons_succ, List.getElem_toArray, List.getElem_cons_zero, List.getElem_cons_succ]
                  refine under_free (i := 3) (v := ?_) rfl (by kernel_rfl) (fun _ _ _ h => h) _ _ _ _ (by kernel_rfl) (by kernel_rfl) (Or.inl ⟨by rfl, ?_⟩) ?_
                  rotate_left
                  · intro w _
                    go_simp
                    try with_reducible rfl
                  simp only [Act.put, List.setIfInBounds_toArray, List.set_cons_zero, List.set_cons_succ, List.getElem_toArray, List.getElem_cons_zero, List.getElem_cons_succ]
                  refine under_free (i := 4) (v := ?_) rfl (by kernel_rfl) (fun _ _ _ h => h) _ _ _ _ (by kernel_rfl) (by kernel_rfl) (Or.inl ⟨by rfl, ?_⟩) ?_
                  rotate_left
                  · intro w _
                    go_simp
                    try with_reducible rfl
                  simp only [Act.put, List.setIfInBounds_toArray, List.set_cons_zero, List.set_cons_succ, List.getElem_toArray, List.getElem_cons_zero, List.getElem_cons_succ]
                  refine under_take (i := 5) (v := ?_) rfl (by kernel_rfl) (by kernel_rfl) (fun _ _ _ h => h) _ _ _ _ (by kernel_rfl) (by kernel_rfl) (by kernel_rfl) (Or.inl ⟨by rfl, ?_⟩) hSS ?_
                  rotate_left
                  · intro w hSw
                    obtain ⟨q0, q1, q2, q3, q4⟩ := hSw
                    go_simp
                    try with_reducible rfl
                  simp only [Act.put, List.setIfInBounds_toArray, List.set_cons_zero, List.set_cons_succ, List.getElem_toArray, List.getElem_cons_zero, List.getElem_cons_succ]
                  refine under_free (i := 6) (v := ?_) rfl (by kernel_rfl) (fun _ _ _ h => h) _ _ _ _ (by kernel_rfl) (by kernel_rfl) (Or.inl ⟨by rfl, ?_⟩) ?_
                  rotate_left
                  · intro w _
                    go_simp
                    try with_reducible rfl
                  simp only [Act.put, List.setIfInBounds_toArray, List.set_cons_zero, List.set_cons_succ, List.getElem_toArray, List.getElem_cons_zero, List.getElem_cons_succ]
                  refine under_take (i := 7) (v := ?_) rfl (by kernel_rfl) (by kernel_rfl) (fun _ _ _ h => h) _ _ _ _ (by kernel_rfl) (by kernel_rfl) (by kernel_rfl) (Or.inl ⟨by rfl, ?_⟩) hSS ?_
                  rotate_left
                  · intro w hSw
                    obtain ⟨q0, q1, q2, q3, q4⟩ := hSw
                    go_simp
                    try with_reducible rfl
                  simp only [Act.put, List.setIfInBounds_toArray, List.set_cons_zero, List.set_cons_succ, List.getElem_toArray, List.getElem_cons_zero, List.getElem_cons_succ]
                  refine under_free (i := 8) (v := ?_) rfl (by kernel_rfl) (fun _ _ _ h => h) _ _ _ _ (by kernel_rfl) (by kernel_rfl) (Or.inl ⟨by rfl, ?_⟩) ?_
                  rotate_left
                  · intro w _
                    go_simp
                    try with_reducible rfl
                  simp only [Act.put, List.setIfInBounds_toArray, List.set_cons_zero, List.set_cons_succ, List.getElem_toArray, List.getElem_cons_zero, List.getElem_cons_succ]
                  refine under_take (i := 9) (v := ?_) rfl (by kernel_rfl) (by kernel_rfl) (fun _ _ _ h => h) _ _ _ _ (by kernel_rfl) (by kernel_rfl) (by kernel_rfl) (Or.inl ⟨by rfl, ?_⟩) hSS ?_
                  rotate_left
                  · intro w hSw
                    obtain ⟨q0, q1, q2, q3, q4⟩ := hSw
                    go_simp
                    try with_reducible rfl
                  simp only [Act.put, List.setIfInBounds_toArray, List.set_cons_zero, List.set_cons_succ, List.getElem_toArray, List.getElem_cons_zero, List.getElem_cons_succ]
                  refine under_free (i := 10) (v := ?_) rfl (by kernel_rfl) (fun _ _ _ h => h) _ _ _ _ (by kernel_rfl) (by kernel_rfl) (Or.inl ⟨by rfl, ?_⟩) ?_
                  rotate_left
                  · intro w _
                    go_simp
                    try with_reducible rfl
                  simp only [Act.put, List.setIfInBounds_toArray, List.set_cons_zero, List.set_cons_succ, List.getElem_toArray, List.getElem_cons_zero, List.getElem_cons_succ]
                  refine under_free (i := 11) (v := ?_) rfl (by kernel_rfl) (fun _ _ _ h => h) _ _ _ _ (by kernel_rfl) (by kernel_rfl) (Or.inl ⟨by rfl, ?_⟩) ?_
                  rotate_left
                  · intro w _
                    go_simp
                    try with_reducible rfl
                  simp only [Act.put, List.setIfInBounds_toArray, List.set_cons_zero, List.set_cons_succ, List.getElem_toArray, List.getElem_cons_zero, List.getElem_cons_succ]
                  refine under_free (i := 12) (v := ?_) rfl (by kernel_rfl) (fun _ _ _ h => h) _ _ _ _ (by kernel_rfl) (by kernel_rfl) (Or.inl ⟨by rfl, ?_⟩) ?_
                  rotate_left
                  · intro w _
                    go_simp
                    try with_reducible rfl
                  simp only [Act.put, List.setIfInBounds_toArray, List.set_cons_zero, List.set_cons_succ, List.getElem_toArray, List.getElem_cons_zero, List.getElem_cons_succ]
                  refine under_take (i := 13) (v := ?_) rfl (by kernel_rfl) (by kernel_rfl) (fun _ _ _ h => h) _ _ _ _ (by kernel_rfl) (by kernel_rfl) (by kernel_rfl) (Or.inl ⟨by rfl, ?_⟩) hSS ?_
                  rotate_left
                  · intro w hSw
                    obtain ⟨q0, q1, q2, q3, q4⟩ := hSw
                    go_simp
                    try with_reducible rfl
                  simp only [Act.put, List.setIfInBounds_toArray, List.set_cons_zero, List.set_cons_succ, List.getElem_toArray, List.getElem_cons_zero, List.getElem_cons_succ]
                  refine under_free (i := 14) (v := ?_) rfl (by kernel_rfl) (fun _ _ _ h => h) _ _ _ _ (by kernel_rfl) (by kernel_rfl) (Or.inl ⟨by rfl, ?_⟩) ?_
                  rotate_left
                  · intro w _
                    go_simp
                    try with_reducible rfl
                  simp only [Act.put, List.setIfInBounds_toArray, List.set_cons_zero, List.set_cons_succ, List.getElem_toArray, List.getElem_cons_zero, List.getElem_cons_succ]
                  refine under_take (i := 15) (v := ?_) rfl (by kernel_rfl) (by kernel_rfl) (fun _ _ _ h => h) _ _ _ _ (by kernel_rfl) (by kernel_rfl) (by kernel_rfl) (Or.inl ⟨by rfl, ?_⟩) hSS ?_
                  rotate_left
                  · intro w hSw
                    obtain ⟨q0, q1, q2, q3, q4⟩ := hSw
                    go_simp
                    try with_reducible rfl
                  simp only [Act.put, List.setIfInBounds_toArray, List.set_cons_zero, List.set_cons_succ, List.getElem_toArray, List.getElem_cons_zero, List.getElem_cons_succ]
                  refine under_take (i := 16) (v := ?_) rfl (by kernel_rfl) (by kernel_rfl) (fun _ _ _ h => h) _ _ _ _ (by kernel_rfl) (by kernel_rfl) (by kernel_rfl) (Or.inl ⟨by rfl, ?_⟩) hSS ?_
                  rotate_left
                  · intro w hSw
                    obtain ⟨q0, q1, q2, q3, q4⟩ := hSw
                    go_simp
                    try with_reducible rfl
                  simp only [Act.put, List.setIfInBounds_toArray, List.set_cons_zero, List.set_cons_succ, List.getElem_toArray, List.getElem_cons_zero, List.getElem_cons_succ]
                  refine under_free (i := 17) (v := ?_) rfl (by kernel_rfl) (fun _ _ _ h => h) _ _ _ _ (by kernel_rfl) (by kernel_rfl) (Or.inl ⟨by rfl, ?_⟩) ?_
                  rotate_left
                  · intro w _
                    go_simp
                    try with_reducible rfl
                  simp only [Act.put, List.setIfInBounds_toArray, List.set_cons_zero, List.set_cons_succ, List.getElem_toArray, List.getElem_cons_zero, List.getElem_cons_succ]
                  refine under_done (by kernel_rfl) ?_ _
                  go_wp2_with fail
                  go_roundw
                  case measure => simp [intOf]; omega
                  case rel => exact ⟨j + 1, hjt, by go_num, S11.tail⟩
                · as_aux_lemma =>
                  have n0 : ((dl : Int) == 0) = false := by simp; omega
                  have n1 : (dl == 0) = false := by simp; omega
                  clear hpos
                  go_upto_region 23 with (fail)
                  go_quiet (exact Calls.quiet_of_same (hPK.out _))
                  go_upto_region 25 with (fail)
                  have HCW := HCV.out (WQ.drewN nq).drew (below_drewN _ nq).drew
                  have S11 := (H10.out.drewN nq).drew
                  have hSS : (WQ.drewN nq).drew.cell? ⟨gp, 3, none⟩ = some (.slice WA wrn wc) ∧ (WQ.drewN nq).drew.cell? ⟨qx, 1, none⟩ = some (.int .u64 (qo : Int)) ∧ (WQ.drewN nq).drew.cell? ⟨qx, 3, none⟩ = some (.slice DB dl dc) ∧ (convert 27 9 (.slice (subB WA wc qo) dl (wc - qo))).run Try.prog (WQ.drewN nq).drew = .ok (.string xs) (WQ.drewN nq).drew ∧ (convert 27 9 (.slice DB dl dc)).run Try.prog (WQ.drewN nq).drew = .ok (.string xs) (WQ.drewN nq).drew := ⟨g2', u1, u3', HCW.1, HCW.2⟩
                  refine plain_under (fun w => w.cell? ⟨gp, 3, none⟩ = some (.slice WA wrn wc) ∧ w.cell? ⟨qx, 1, none⟩ = some (.int .u64 (qo : Int)) ∧ w.cell? ⟨qx, 3, none⟩ = some (.slice DB dl dc) ∧ (convert 27 9 (.slice (subB WA wc qo) dl (wc - qo))).run Try.prog w = .ok (.string xs) w ∧ (convert 27 9 (.slice DB dl dc)).run Try.prog w = .ok (.string xs) w) (fun _ => true) (by kernel_rfl) ?_
                  generalize (WQ.drewN nq).drew = w12 at hSS S11 ⊢
                  simp only [List.size_toArray, List.length_cons, List.length_nil, Nat.reduceAdd, Array.replicate_succ, Array.replicate_zero, List.push_toArray, List.nil_append, List.cons_append]
                  refine under_free (i := 0) (v := ?_) rfl (by kernel_rfl) (fun _ _ _ h => h) _ _ _ _ (by kernel_rfl) (by kernel_rfl) (Or.inl ⟨by rfl, ?_⟩) ?_
                  rotate_left
                  · intro w _
                    go_simp
                    try with_reducible rfl
                  simp only [Act.put, List.setIfInBounds_toArray, List.set_cons_zero, List.set_cons_succ, List.getElem_toArray, List.getElem_cons_zero]
                  refine under_free (i := 1) (v := ?_) rfl (by kernel_rfl) (fun _ _ _ h => h) _ _ _ _ (by kernel_rfl) (by kernel_rfl) (Or.inl ⟨by rfl, ?_⟩) ?_
                  rotate_left
                  · intro w _
                    go_simp
                    try with_reducible rfl
                  simp only [Act.put, List.setIfInBounds_toArray, List.set_cons_zero, List.set_cons_succ, List.getElem_toArray, List.getElem_cons_zero, List.getElem_cons_succ]
                  refine under_free (i := 2) (v := ?_) rfl (by kernel_rfl) (fun _ _ _ h => h) _ _ _ _ (by kernel_rfl) (by kernel_rfl) (Or.inl ⟨by rfl, ?_⟩) ?_
                  rotate_left
                  · intro w _
                    go_simp
                    try with_reducible rfl
                  simp only [Act.put, List.setIfInBounds_toArray, List.set_cons_zero, List.set_cons_succ, List.getElem_toArray, List.getElem_cons_zero, List.getElem_cons_succ]
                  refine under_free (i := 3) (v := ?_) rfl (by kernel_rfl) (fun _ _ _ h => h) _ _ _ _ (by kernel_rfl) (by kernel_rfl) (Or.inl ⟨by rfl, ?_⟩) ?_
                  rotate_left
                  · intro w _
                    go_simp
                    try with_reducible rfl
                  simp only [Act.put, List.setIfInBounds_toArray, List.set_cons_zero, List.set_cons_succ, List.getElem_toArray, List.getElem_cons_zero, List.getElem_cons_succ]
                  refine under_free (i := 4) (v := ?_) rfl (by kernel_rfl) (fun _ _ _ h => h) _ _ _ _ (by kernel_rfl) (by kernel_rfl) (Or.inl ⟨by rfl, ?_⟩) ?_
                  rotate_left
                  · intro w _
                    go_simp
                    try with_reducible rfl
                  simp only [Act.put, List.setIfInBounds_toArray, List.set_cons_zero, List.set_cons_succ, List.getElem_toArray, List.getElem_cons_zero, List.getElem_cons_succ]
                  refine under_take (i := 5) (v := ?_) rfl (by kernel_rfl) (by kernel_rfl) (fun _ _ _ h => h) _ _ _ _ (by kernel_rfl) (by kernel_rfl) (by kernel_rfl) (Or.inl ⟨by rfl, ?_⟩) hSS ?_
                  rotate_left
                  · intro w hSw
                    obtain ⟨q0, q1, q2, q3, q4⟩ := hSw
                    go_simp
                    try with_reducible rfl
                  simp only [Act.put, List.setIfInBounds_toArray, List.set_cons_zero, List.set_cons_succ, List.getElem_toArray, List.getElem_cons_zero, List.getElem_cons_succ]
                  refine under_free (i := 6) (v := ?_) rfl (by kernel_rfl) (fun _ _ _ h => h) _ _ _ _ (by kernel_rfl) (by kernel_rfl) (Or.inl ⟨by rfl, ?_⟩) ?_
                  rotate_left
                  · intro w _
                    go_simp
                    try with_reducible rfl
                  simp only [Act.put, List.setIfInBounds_toArray, List.set_cons_zero, List.set_cons_succ, List.getElem_toArray, List.getElem_cons_zero, List.getElem_cons_succ]
                  refine under_take (i := 7) (v := ?_) rfl (by kernel_rfl) (by kernel_rfl) (fun _ _ _ h => h) _ _ _ _ (by kernel_rfl) (by kernel_rfl) (by kernel_rfl) (Or.inl ⟨by rfl, ?_⟩) hSS ?_
                  rotate_left
                  · intro w hSw
                    obtain ⟨q0, q1, q2, q3, q4⟩ := hSw
                    go_simp
                    try with_reducible rfl
                  simp only [Act.put, List.setIfInBounds_toArray, List.set_cons_zero, List.set_cons_succ, List.getElem_toArray, List.getElem_cons_zero, List.getElem_cons_succ]
                  refine under_free (i := 8) (v := ?_) rfl (by kernel_rfl) (fun _ _ _ h => h) _ _ _ _ (by kernel_rfl) (by kernel_rfl) (Or.inl ⟨by rfl, ?_⟩) ?_
                  rotate_left
                  · intro w _
                    go_simp
                    try with_reducible rfl
                  simp only [Act.put, List.setIfInBounds_toArray, List.set_cons_zero, List.set_cons_succ, List.getElem_toArray, List.getElem_cons_zero, List.getElem_cons_succ]
                  refine under_take (i := 9) (v := ?_) rfl (by kernel_rfl) (by kernel_rfl) (fun _ _ _ h => h) _ _ _ _ (by kernel_rfl) (by kernel_rfl) (by kernel_rfl) (Or.inl ⟨by rfl, ?_⟩) hSS ?_
                  rotate_left
                  · intro w hSw
                    obtain ⟨q0, q1, q2, q3, q4⟩ := hSw
                    go_simp
                    try with_reducible rfl
                  simp only [Act.put, List.setIfInBounds_toArray, List.set_cons_zero, List.set_cons_succ, List.getElem_toArray, List.getElem_cons_zero, List.getElem_cons_succ]
                  refine under_free (i := 10) (v := ?_) rfl (by kernel_rfl) (fun _ _ _ h => h) _ _ _ _ (by kernel_rfl) (by kernel_rfl) (Or.inl ⟨by rfl, ?_⟩) ?_
                  rotate_left
                  · intro w _
                    go_simp
                    try with_reducible rfl
                  simp only [Act.put, List.setIfInBounds_toArray, List.set_cons_zero, List.set_cons_succ, List.getElem_toArray, List.getElem_cons_zero, List.getElem_cons_succ]
                  refine under_free (i := 11) (v := ?_) rfl (by kernel_rfl) (fun _ _ _ h => h) _ _ _ _ (by kernel_rfl) (by kernel_rfl) (Or.inl ⟨by rfl, ?_⟩) ?_
                  rotate_left
                  · intro w _
                    go_simp
                    try with_reducible rfl
                  simp only [Act.put, List.setIfInBounds_toArray, List.set_cons_zero, List.set_cons_succ, List.getElem_toArray, List.getElem_cons_zero, List.getElem_cons_succ]
                  refine under_free (i := 12) (v := ?_) rfl (by kernel_rfl) (fun _ _ _ h => h) _ _ _ _ (by kernel_rfl) (by kernel_rfl) (Or.inl ⟨by rfl, ?_⟩) ?_
                  rotate_left
                  · intro w _
                    go_simp
                    try with_reducible rfl
                  simp only [Act.put, List.setIfInBounds_toArray, List.set_cons_zero, List.set_cons_succ, List.getElem_toArray, List.getElem_cons_zero, List.getElem_cons_succ]
                  refine under_take (i := 13) (v := ?_) rfl (by kernel_rfl) (by kernel_rfl) (fun _ _ _ h => h) _ _ _ _ (by kernel_rfl) (by kernel_rfl) (by kernel_rfl) (Or.inl ⟨by rfl, ?_⟩) hSS ?_
                  rotate_left
                  · intro w hSw
                    obtain ⟨q0, q1, q2, q3, q4⟩ := hSw
                    go_simp
                    try with_reducible rfl
                  simp only [Act.put, List.setIfInBounds_toArray, List.set_cons_zero, List.set_cons_succ, List.getElem_toArray, List.getElem_cons_zero, List.getElem_cons_succ]
                  refine under_free (i := 14) (v := ?_) rfl (by kernel_rfl) (fun _ _ _ h => h) _ _ _ _ (by kernel_rfl) (by kernel_rfl) (Or.inl ⟨by rfl, ?_⟩) ?_
                  rotate_left
                  · intro w _
                    go_simp
                    try with_reducible rfl
                  simp only [Act.put, List.setIfInBounds_toArray, List.set_cons_zero, List.set_cons_succ, List.getElem_toArray, List.getElem_cons_zero, List.getElem_cons_succ]
                  refine under_take (i := 15) (v := ?_) rfl (by kernel_rfl) (by kernel_rfl) (fun _ _ _ h => h) _ _ _ _ (by kernel_rfl) (by kernel_rfl) (by kernel_rfl) (Or.inl ⟨by rfl, ?_⟩) hSS ?_
                  rotate_left
                  · intro w hSw
                    obtain ⟨q0, q1, q2, q3, q4⟩ := hSw
                    go_simp
                    try with_reducible rfl
                  simp only [Act.put, List.setIfInBounds_toArray, List.set_cons_zero, List.set_cons_succ, List.getElem_toArray, List.getElem_cons_zero, List.getElem_cons_succ]
                  refine under_take (i := 16) (v := ?_) rfl (by kernel_rfl) (by kernel_rfl) (fun _ _ _ h => h) _ _ _ _ (by kernel_rfl) (by kernel_rfl) (by kernel_rfl) (Or.inl ⟨by rfl, ?_⟩) hSS ?_
                  rotate_left
                  · intro w hSw
                    obtain ⟨q0, q1, q2, q3, q4⟩ := hSw
                    go_simp
                    try with_reducible rfl
                  simp only [Act.put, List.setIfInBounds_toArray, List.set_cons_zero, List.set_cons_succ, List.getElem_toArray, List.getElem_cons_zero, List.getElem_cons_succ]
                  refine under_free (i := 17) (v := ?_) rfl (by kernel_rfl) (fun _ _ _ h => h) _ _ _ _ (by kernel_rfl) (by kernel_rfl) (Or.inl ⟨by rfl, ?_⟩) ?_
                  rotate_left
                  · intro w _
                    go_simp
                    try with_reducible rfl
                  simp only [Act.put, List.setIfInBounds_toArray, List.set_cons_zero, List.set_cons_succ, List.getElem_toArray, List.getElem_cons_zero, List.getElem_cons_succ]
                  refine under_done (by kernel_rfl) ?_ _
                  go_wp2_with fail
                  go_roundw
                  case measure => simp [intOf]; omega
                  case rel => exact ⟨j + 1, hjt, by go_num, S11.tail⟩
              · have H9 := Lib.hid S9
                clear S9
                go_wp2_with fail
                go_roundw
                case measure => simp [intOf]; omega
                case rel =>
                  obtain ⟨hqs, htl, hws2, hes, hds, hesl, hU⟩ := HT.out
                  have h2 := HP2.out
                  rw [stepS_tick HD1.out, HSD.out] at h2
                  refine ⟨i + 1, tickPS p true, hlt, by go_num, Lib.hid h2, ?_⟩
                  have h3 : Sep w wr (row 32 4 (.slice YB (wn + tl) yc2) es.length (entP es) :: (ds.map rowD ++ (cell gp 49 (PV.cs ⟨g0, g1, vw0, vw1, vr0, vr1, .slice YB (wn + tl) yc2, vt⟩) :: LinkAt g0 (p.l false) :: LinkAt g1 (tickS (p.l true)) :: BRow vw0 (p.wr false) :: BRow vw1 (p.wr true) :: BRow vr0 (p.rd false) :: BRow vr1 (p.rd true) :: IRow vt (tickPS p true).ws :: [cell ab 41 #[.int .u64 ((p.l false).base : Int), .int .u64 ((p.l true).base : Int)]]))) := by
                    rw [hesl, hU]
                    exact H9.out.perm (List.Perm.cons _ (perm9 _ _ _ _ _ _ _ _ _ U))
                  have h4 := Sep.closeK hes hds h3
                  have h5 := Sep.closeP2 (p := tickPS p true) ⟨g0, g1, vw0, vw1, vr0, vr1, .slice YB (wn + tl) yc2, vt⟩ (h4.ix 9 [1, 2, 3, 4, 5, 6, 7, 0, 8] [] (by decide))
                  have hb : ((tickPS p true).l true).base = (p.l true).base := HF.out.2.1
                  refine h5.eqL ?_
                  show _ :: [cell ab 41 _] = _ :: [cell ab 41 _]
                  rw [hb]
                  rfl
        · as_aux_lemma =>
          have hd1i : (((v.x.d : Int) % 6) != 1) = true := by simp; omega
          have x0 : w3.cell? ⟨xb, 0, none⟩ = some (.int .u8 (v.x.d : Int)) := (SX.blk 0 rfl).at_ 0 rfl
          have x1 : w3.cell? ⟨xb, 1, none⟩ = some (.bool v.x.s) := (SX.blk 0 rfl).at_ 1 rfl
          have x2 : w3.cell? ⟨xb, 2, none⟩ = some (.int .i64 v.x.a) := (SX.blk 0 rfl).at_ 2 rfl
          have x3 : w3.cell? ⟨xb, 3, none⟩ = some (.slice v.A vm v.c) := (SX.blk 0 rfl).at_ 3 rfl
          -- the step
          have HS := Lib.hid (HSt.out _ _ SX.swap)
          rw [hR2] at HS
          go_wp2_with fail
          refine HS.out.mono ?_
          rintro en w4 ⟨rfl, S4⟩
          have hmx0 : ∀ s, ((stepS p v.x).l s).base = (p.l s).base := base_same hP.out.inv (.inl hd2)
          have hb0 := hmx0 false
          have hb1 := hmx0 true
          replace S4 : Sep w w4 (PairAt gp (stepS p v.x) :: [cell xb 43 #[.int .u8 (v.x.d : Int), .bool v.x.s, .int .i64 v.x.a, .slice v.A vm v.c], cell ab 41 #[.int .u64 ((p.l false).base : Int), .int .u64 ((p.l true).base : Int)]]) := S4
          have x0' : w4.cell? ⟨xb, 0, none⟩ = some (.int .u8 (v.x.d : Int)) := (S4.blk 1 rfl).at_ 0 rfl
          have S5 := S4.drop 1
          clear HS S4
          go_wp2_with fail
          go_roundw
          case measure => simp [intOf]; omega
          case rel => exact ⟨i + 1, _, hlt, by go_num, HP2, by
            have h := S5
            rw [hb0, hb1]
            exact h⟩
    · have H3 := Lib.hid S3
      clear S3
      go_wp2_with fail
      refine (carries_any _).mono ?_
      rintro en w5 ⟨rfl, b5⟩
      have S5 := H3.out.grow b5
      go_wp2_with fail
      go_ret
      exact ⟨rfl, S5.below⟩
end Go.Proofs.Ytpgiljjjpijepaa
