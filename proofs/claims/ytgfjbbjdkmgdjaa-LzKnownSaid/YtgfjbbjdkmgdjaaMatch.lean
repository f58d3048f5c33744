/- The walk of lz.Match. -/
import Derived.Test.YtgfjbbjdkmgdjaaStart
import Derived.Deep.LoopGhost
import Derived.Deep.QuietTactic
import Derived.BigQuiet
import Derived.Test.YtgfjbbjdkmgdjaaWMore
namespace Go.Proofs.Ytgfjbbjdkmgdjaa.Ext
open Go.RowKit Go.Proofs.YtgfjbbjdkmgdjaaW.PrintWords Go.Proofs.YtgfjbbjdkmgdjaaW.PrintMore Go.Proofs.Ytgfjbbjdkmgdjaa.Lz
theorem info3 : (Try.prog.info? 3).map (fun i => (i.zero, i.size, i.bytes)) = some (some (.int .i64 0), 1, 8) := by kernel_rfl
/-- tokens' cells, one behind the other -/
def toksC (ts : List Tok) : List Value := ts.flatMap fun t => (tokC t).toList
def OutRow (w : World) (base : Nat) (v : Value) (ts : List Tok) : Prop := w.ownsRow base 26 3 v ts.length (toksC ts)
theorem info26 : (Try.prog.info? 26).map (fun i => (i.zero, i.size, i.bytes)) = some (some (.agg #[.int .u8 0, .int .i64 0, .int .i64 0]), 3, 24) := by kernel_rfl
theorem reads_blk {w : World} {g B : Nat} {t : TypeId} {x : Tok} (h : Blk w g t (tokC x)) (hB : g < B) : Reads w B 3 (some ⟨g, 0, none⟩) 1 (tokC x).toList := by
  refine ⟨rfl, fun _ => ⟨_, rfl, hB, fun j u hu => ?_⟩⟩
  have he : (⟨g, 0, none⟩ : Addr).add j = ⟨g, j, none⟩ := by unfold Addr.add; split <;> simp_all
  rw [he, h.cell j, ← Array.getElem?_toList]
  exact hu
theorem tokC_one {x : Tok} : ∀ u ∈ (tokC x).toList, u.oneCell' = true := by
  intro u hu
  simp only [tokC, List.mem_cons, List.not_mem_nil, or_false] at hu
  rcases hu with h | h | h <;> subst h <;> rfl
theorem toksC_snoc (ts : List Tok) (t : Tok) : toksC ts ++ (tokC t).toList = toksC (ts ++ [t]) := by simp [toksC]
theorem outrow_ge {w : World} {base : Nat} {v : Value} {ts : List Tok} (h : OutRow w base v ts) : ∀ k, v.ownBlock = some k → base ≤ k := by
  intro k hk
  rcases h.2 with ⟨rfl, _⟩ | ⟨g, cap, _, rfl, hg, _⟩
  · simp [Value.ownBlock] at hk
  · simp [Value.ownBlock] at hk
    omega
theorem outrow_lt {w : World} {base : Nat} {v : Value} {ts : List Tok} (h : OutRow w base v ts) : ∀ k, v.ownBlock = some k → k < w.heap.size := by
  intro k hk
  rcases h.2 with ⟨rfl, _⟩ | ⟨g, cap, _, rfl, _, hg, _⟩
  · simp [Value.ownBlock] at hk
  · simp [Value.ownBlock] at hk
    subst hk
    exact Blk.lt (t := 26) hg
theorem own_grown {w w' : World} {base : Nat} {v : Value} {ts : List Tok} (h : OutRow w base v ts) (hb : Below w.heap.size w w') : OutRow w' base v ts := pw_own_below h hb
theorem own_map_ne {w : World} {base n gm km : Nat} {v : Value} {xs : List Value} {M : T3 → Nat} (h : w.ownsRow base 26 3 v n xs) (hm : TMap w gm km M) : v.ownBlock ≠ some gm := by
  rcases h.2 with ⟨rfl, _⟩ | ⟨g', cap, cur, rfl, _, hh, _⟩
  · simp [Value.ownBlock]
  · intro he
    have : g' = gm := by simpa [Value.ownBlock] using he
    subst this
    exact hm.ne (t := 26) hh rfl
theorem OutRow.cong {w w' : World} {base : Nat} {v : Value} {ts : List Tok} (h : OutRow w base v ts) (hb : ∀ k, v.ownBlock = some k → w'.heap[k]? = w.heap[k]?) : OutRow w' base v ts := by
  rcases h with ⟨h1, ⟨rfl, h2⟩ | ⟨g, cap, cur, rfl, hg, hh, h2⟩⟩
  · exact ⟨h1, .inl ⟨rfl, h2⟩⟩
  · exact ⟨h1, .inr ⟨g, cap, cur, rfl, hg, (hb g rfl).trans hh, h2⟩⟩
theorem grown_all {A : Option Addr} {n c base : Nat} {l : List Nat} {B gm g4 gs g5 km a ga g8 : Nat} {w w' : World} {u : Value} {ts : List Tok} {ca c8 : Array Value} (hO : Own A n c l B gm g4 gs g5 km a w) (hA : Blk w ga 3 ca) (h8 : Blk w g8 26 c8) (hout : OutRow w base u ts) (h8n : u.ownBlock ≠ some g8) (ob : Obj) (hg : (w.alloc ob).grownBy w' u.ownBlock) :
    Own A n c l B gm g4 gs g5 km a w' ∧ Blk w' ga 3 ca ∧ Blk w' g8 26 c8 :=
  ⟨⟨(hO.b1.alloc ob).grown hg (own_blk_ne hout hO.b1 (by decide)).symm, (hO.b4.alloc ob).grown hg (own_blk_ne hout hO.b4 (by decide)).symm, (hO.m.alloc ob).kept hg (own_map_ne hout hO.m).symm,
    (hO.bs.alloc ob).grown hg (own_blk_ne hout hO.bs (by decide)).symm, (hO.b5.alloc ob).grown hg (own_blk_ne hout hO.b5 (by decide)).symm⟩,
   (hA.alloc ob).grown hg (own_blk_ne hout hA (by decide)).symm, (h8.alloc ob).grown hg h8n.symm⟩
theorem note_own (A : Option Addr) (n c : Nat) (l : List Nat) (B gm g4 gs g5 km a ga base : Nat) (ca : Array Value) (v : Value) (ts : List Tok) (w : World) (hr : Reads w w.heap.size 1 A n (l.map encB)) (hl : ∀ c ∈ l, c < 256) (ha : a < n) (hn : n ≤ 140737488351232) (hc : n ≤ c)
    (hO : Own A n c l B gm g4 gs g5 km a w) (hA : Blk w ga 3 ca) (hne : ga ≠ gs) (hout : OutRow w base v ts) (h1 : B ≤ gs) (h2 : B ≤ gm) (hkm : km ≤ a) :
    Calls Try.prog 15 #[.int .i64 (a : Int), .pointer (some ⟨B, 0, none⟩), .pointer (some ⟨g4, 0, none⟩), .pointer (some ⟨g5, 0, none⟩)] w fun e w' =>
      e = .returned (.tuple #[]) ∧ Own A n c l B gm g4 gs g5 (km + 1) (a + 1) w' ∧ Blk w' ga 3 ca ∧ OutRow w' base v ts ∧ Below B w w' := by
  refine (note_any A n c l a B g4 g5 gm gs km w hr hl ha hn hc hO.b1 hO.b4 hO.b5 hO.m hO.bs (by simp only [maxLen]; omega)).mono ?_
  rintro e w' ⟨rfl, hs, hm, hB, hk⟩
  have kb : ∀ {g : Nat} {t : TypeId} {cs : Array Value}, Blk w g t cs → g ≠ gs → Blk w' g t cs := fun {g} {t} {cs} hb hne => (hk g hb.lt hne (hO.m.ne hb)).trans hb
  exact ⟨rfl, ⟨kb hO.b1 (hO.b1.ne_ hO.bs (by decide)), kb hO.b4 (hO.b4.ne_ hO.bs (by decide)), hm, hs, kb hO.b5 (hO.b5.ne_ hO.bs (by decide))⟩, kb hA hne,
    hout.cong fun k e => hk k (outrow_lt hout k e) (fun h => own_blk_ne hout hO.bs (by decide) (h ▸ e)) (fun h => own_map_ne hout hO.m (h ▸ e)), hB B h1 h2⟩
theorem emit_fuel (l : List Nat) : ∀ d f f' a, l.length - a ≤ d → d ≤ f → d ≤ f' → emit l f a = emit l f' a
  | 0, f, f', a, h, _, _ => by rw [emit_end l f a (by omega), emit_end l f' a (by omega)]
  | d + 1, f, f', a, h, h1, h2 => by
    by_cases ha : a < l.length
    · obtain ⟨g, rfl⟩ : ∃ g, f = g + 1 := ⟨f - 1, by omega⟩
      obtain ⟨g', rfl⟩ : ∃ g', f' = g' + 1 := ⟨f' - 1, by omega⟩
      rw [emit_step l g a ha, emit_step l g' a ha, emit_fuel l d g g' _ (by omega) (by omega) (by omega)]
    · rw [emit_end l f a ha, emit_end l f' a ha]
theorem emit_go (l : List Nat) (f a : Nat) (h : a < l.length) (hf : l.length - a ≤ f) : emit l f a = tokAt l a :: emit l (l.length - (a + max (tokAt l a).len 1)) (a + max (tokAt l a).len 1) := by
  obtain ⟨g, rfl⟩ : ∃ g, f = g + 1 := ⟨f - 1, by omega⟩
  rw [emit_step l g a h, emit_fuel l (l.length - (a + max (tokAt l a).len 1)) g _ _ (Nat.le_refl _) (by omega) (Nat.le_refl _)]
def mx (x : Nat) : Nat := max x 1
theorem max2_mx (k k' : IntKind) (x : Nat) : Builtin.max2 (.int k (x : Int)) (.int k' 1) = pure (.int k ((mx x : Nat) : Int)) := by
  rw [max2_int]
  congr 2
  unfold mx
  split <;> omega
attribute [local go_sem] max2_mx max_two
set_option maxRecDepth 100000 in
set_option maxHeartbeats 4000000 in
theorem match_walk (A : Option Addr) (c : Nat) (l : List Int) (hl : okM l = true) (w : World) (hr : Kd.C (Kd.int .u8) w A l.length l) (hc : l.length ≤ c) :
    Calls Try.prog 10 #[.slice A l.length c] w fun e w' => ∃ v, e = .returned v ∧ OutRow w' w.heap.size v (matchS (nat l)) ∧ Below w.heap.size w w' := by
  have hlen := okM_len hl
  have hmf : ∀ (fn : Fn) (first cap : Array Value) (w : World), (Instr.makeFunc fn first cap).run Try.prog w = .ok (.func fn first cap) w := fun _ _ _ _ => rfl
  have hmm := @run_makeMap Try.prog
  obtain ⟨i0, hi0, hz0, hz1, hz2⟩ := info_parts info3
  have hH := Lib.hid hi0
  have Hz0 := Lib.hid hz0
  have Hz1 := Lib.hid hz1
  have Hz2 := Lib.hid hz2
  clear hi0 hz0 hz1 hz2
  obtain ⟨n, hn⟩ : ∃ n, l.length = n := ⟨_, rfl⟩
  have hby : i0.bytes * n ≤ 281474976710656 := by rw [Hz2.out]; omega
  have Hby := Lib.hid hby
  have hnm : n ≤ maxLen := by unfold maxLen; omega
  have HR := Lib.hid hr
  have hcn : n ≤ c := by omega
  rw [hn]
  have Hn := Lib.hid hn
  clear hby hn hr hc
  go_enter Try.func10, Try.ntmps10
  go_wp2_with (
    refine wpList_make_full _ rfl (.tmp 13) (.tmp 13) 39 rfl w.heap.size 3 i0 (.int .i64 0) 1 Try.underlying39 hH.out Hz0.out Hz1.out .i64 .i64 _ _ n rfl rfl rfl rfl Hby.out hnm (by simp; omega) ?_
    intro w1 hown1 hg1)
  obtain ⟨hOwn, hBa, hBel, hlt1⟩ := start A n c (nat l) w w1 (by simpa using hown1) hg1
  clear hown1 hg1 hH Hz0 Hz1 Hz2 Hby hmm
  generalize eW : (w1.alloc (.cells #[.slice (some ⟨w.heap.size + 1 + 1 + 1, 0, none⟩) n n] 39)).alloc (.cells #[.int .i64 0] 3) = W at hOwn hBa hBel ⊢
  clear eW
  generalize eg5 : w1.heap.size = g5 at hOwn hBa hlt1 ⊢
  generalize egs : w.heap.size + 1 + 1 + 1 = gs at hOwn hlt1 ⊢
  generalize eg4 : w.heap.size + 1 + 1 = g4 at hOwn egs ⊢
  generalize egm : w.heap.size + 1 = gm at hOwn eg4 ⊢
  generalize egB : w.heap.size = B at hOwn hBel egm ⊢
  have o1 : B < gm := by omega
  have o2 : gm < g4 := by omega
  have o3 : g4 < gs := by omega
  have HB := Lib.hid egB
  clear eg5 egs eg4 egm egB
  generalize ega : g5 + 1 = ga at hBa ⊢
  have o4 : gs < ga := by omega
  have o5 : g5 < ga := by omega
  clear ega
  have hout : OutRow W B (.slice none 0 0) [] := ⟨rfl, .inl ⟨rfl, rfl⟩⟩
  have hem : Hid (matchS (nat l) = [] ++ emit (nat l) n 0) := Lib.hid (by unfold matchS; rw [nat_length, Hn.out]; rfl)
  go_loopg [3, 7] n (fun g v p wr => ∃ (a ga km : Nat) (ts : List Tok), Hid (a + g = n) ∧ a ≤ n ∧ p = .pointer (some ⟨ga, 0, none⟩) ∧ Own A n c (nat l) B gm g4 gs g5 km a wr ∧ km ≤ a ∧ Blk wr ga 3 #[.int .i64 (a : Int)] ∧ gs < ga ∧
    OutRow wr B v ts ∧ ts.length ≤ a ∧ Hid (matchS (nat l) = ts ++ emit (nat l) (n - a) a) ∧ Below B w wr)
  case atStart => exact ⟨0, ga, 0, [], Lib.hid (by omega), by omega, rfl, hOwn, Nat.le_refl _, hBa, o4, hout, Nat.le_refl _, hem, hBel⟩
  case round =>
    clear hOwn hBa hBel hout hem o5 o4 hlt1
    obtain ⟨a, ga, km, ts, Hg, ha, rfl, hOwn, hkm, hBa, hgs, hout, hts, Hem, hBel⟩ := hrel
    have xa := hBa.one
    have x1 := hOwn.b1.one
    have ha0 : (0 : Int) ≤ (a : Int) := by omega
    have hnn : (n : Int) ≤ 1000000 := by have := Hn.out; omega
    by_cases hlt : a < n
    · have hlt' : (a : Int) < (n : Int) := by omega
      have hrW : Reads wr B 1 A n ((nat l).map encB) := by
        have h1 := reads_nat HR.out hl
        rw [Hn.out, HB.out] at h1
        exact h1.below hBel
      obtain ⟨b, o, rfl, hbB, hal, hca⟩ := hrW.byte hlt
      have hat := at_get (nat l) a hal
      rw [← hat] at hca
      have Hat := Lib.hid hat
      clear hat
      have hta : (a : Int).toNat = a := rfl
      have xa2 : ∀ ob : Obj, (wr.alloc ob).cell? ⟨ga, 0, none⟩ = some (.int .i64 (a : Int)) := fun ob => (hBa.alloc ob).one
      have x12 : ∀ ob : Obj, (wr.alloc ob).cell? ⟨B, 0, none⟩ = some (.slice (some ⟨b, o, none⟩) n c) := fun ob => (hOwn.b1.alloc ob).one
      go_upto_if 30 with (fail)
      obtain ⟨W0, hW0, k8, hB8, hz8⟩ := boxes1 wr #[.int .u8 ((at_ (nat l) a : Nat) : Int), .int .i64 0, .int .i64 0] 26
      rw [hW0]
      clear hW0 xa2 x12
      have hO0 := hOwn.below hB8
      have hA0 := hBa.below hB8 hBa.lt
      have hR0 := hrW.below (hB8.mono (Nat.le_of_lt hOwn.b1.lt))
      have hout0 : OutRow W0 B u3 ts := own_grown hout hB8
      have hBel0 : Below B w W0 := hBel.trans (hB8.mono (Nat.le_of_lt hOwn.b1.lt))
      generalize eg8 : wr.heap.size = g8 at k8 hB8 hz8 ⊢
      have o8 : ga < g8 := eg8 ▸ hBa.lt
      have o85 : g5 < g8 := eg8 ▸ hOwn.b5.lt
      have o8B : B < g8 := eg8 ▸ hOwn.b1.lt
      go_cut [] (fun wx => Blk wx g8 26 (tokC (tokAt (nat l) a)) ∧ Below g8 W0 wx)
      case first =>
        by_cases h3 : a + 3 ≤ n
        · have h3' : decide ((a : Int) + 3 ≤ (n : Int)) = true := decide_eq_true (by omega)
          have f4 := hO0.b4.one
          have f1 := hO0.b1.one
          have fa := hA0.one
          obtain ⟨_, _, e0, _, hk0, c0⟩ := hR0.byte (k := a) (by omega)
          obtain ⟨_, _, e1, _, hk1, c1⟩ := hR0.byte (k := a + 1) (by omega)
          obtain ⟨_, _, e2, _, hk2, c2⟩ := hR0.byte (k := a + 2) (by omega)
          injection e0 with e0; injection e0 with ea0 eb0; subst ea0; subst eb0
          injection e1 with e1; injection e1 with ea1 eb1; subst ea1; subst eb1
          injection e2 with e2; injection e2 with ea2 eb2; subst ea2; subst eb2
          rw [← at_get] at c0 c1 c2
          rw [← Nat.add_assoc] at c1 c2
          have ht : okT (trip (nat l) a) := ⟨by have := nat_lt hl _ (List.getElem_mem hk0); rwa [← at_get] at this, by have := nat_lt hl _ (List.getElem_mem hk1); rwa [← at_get] at this, by have := nat_lt hl _ (List.getElem_mem hk2); rwa [← at_get] at this⟩
          have hlk : (Instr.lookup 38 (.map (some gm)) (.agg #[.int .u8 ((at_ (nat l) a : Nat) : Int), .int .u8 ((at_ (nat l) (a + 1) : Nat) : Int), .int .u8 ((at_ (nat l) (a + 2) : Nat) : Int)]) false).run Try.prog W0 = .ok (.int .i64 ((lastF (nat l) a (trip (nat l) a) : Nat) : Int)) W0 := hO0.m.look _ ht
          have hlkn : ∀ k, (Instr.lookup 38 (.map (some gm)) (.agg #[.int .u8 ((at_ (nat l) a : Nat) : Int), .int .u8 ((at_ (nat l) (a + 1) : Nat) : Int), .int .u8 ((at_ (nat l) (a + 2) : Nat) : Int)]) false).run Try.prog (W0.drewN k) = .ok (.int .i64 ((lastF (nat l) a (trip (nat l) a) : Nat) : Int)) (W0.drewN k) := fun k => (hO0.m.drewN k).look _ ht
          have i3 : (a : Int) ≤ (a : Int) + 3 := by omega
          have hti3 : ((a : Int) + 3).toNat = a + 3 := by omega
          have htt : a + 3 - a = 3 := by omega
          have haa := fun (w : World) => run_arrayAt w (some ⟨b, o + a, none⟩) (c - a)
          have i1 : (a : Int) + 3 ≤ (n : Int) := by omega
          have i2 : (a : Int) + 3 ≤ (c : Int) := by omega
          have s3 : IntKind.i64.wrap ((a : Int) + 3) = (a : Int) + 3 := IntWalk.i64_in _ (by omega)
          clear hk0 hk1 hk2 ht
          go_upto_region 10 with (fail)
          go_quiet (fail)
          clear hlk hlkn haa s3 c0 c1 c2 hti3 htt i3
          go_wp2_with fail
          go_loopw [10] (fun pv wx => ∃ q p : Nat, pv = .int .i64 (p : Int) ∧ Hid (p = lastF (nat l) q (trip (nat l) a)) ∧ q ≤ a ∧ Hid (a - q ≤ 32768) ∧ Blk wx g8 26 (tokC (tokOf (nat l) a (bestTo (nat l) a (a - q)))) ∧ Below g8 W0 wx) (fun pv _ => (intOf pv).toNat)
          case atStart => exact ⟨a, _, rfl, Lib.hid rfl, Nat.le_refl _, Lib.hid (by omega), by rw [Nat.sub_self]; exact k8.drewN nq, pw_below_drewN (Below.refl _ _) nq⟩
          case round =>
            obtain ⟨q, p, rfl, Hp, hq, Hq, hb8, hbx⟩ := hrel
            have z1 := hb8.at_ 1 (v := .int .i64 ((tokOf (nat l) a (bestTo (nat l) a (a - q))).len : Int)) rfl
            rw [tokOf_len] at z1
            obtain ⟨bl, hbl⟩ : ∃ bl, (bestTo (nat l) a (a - q)).1 = bl := ⟨_, rfl⟩
            rw [hbl] at z1
            have Hbl := Lib.hid hbl
            clear hbl
            have q1 : Blk wr B 22 #[.slice (some ⟨b, o, none⟩) n c] := hO0.b1.below hbx o8B
            have q5 := hO0.b5.below hbx o85
            have qs := hO0.bs.below hbx (Nat.lt_trans hgs o8)
            have qa := hA0.below hbx o8
            have w1' := q1.one
            have w5 := q5.one
            have wa := qa.one
            rcases p with _ | p
            · have hp0 : decide ((0 : Int) < ((0 : Nat) : Int)) = false := rfl
              go_wp2_with fail
              go_meet
              refine ⟨?_, hbx⟩
              unfold tokAt
              rw [chain_none _ a q hq Hq.out Hp.out.symm]
              exact hb8
            · have e1 : ((p + 1 : Nat) : Int) = (p : Int) + 1 := by omega
              rw [e1]
              clear e1
              obtain ⟨hpq, hp3, hpt, _⟩ := lastF_hit _ _ _ _ Hp.out.symm
              rw [nat_length, Hn.out] at hp3
              have Hpt := Lib.hid hpt
              clear hpt
              have hp1 : (0 : Int) < (p : Int) + 1 := by omega
              have hp2 : (p : Int) + 1 ≤ 1000000 := by omega
              have hps : (p : Int) + 1 - 1 = (p : Int) := by omega
              by_cases hfar : 32768 < a - p
              · have d1 : decide ((a : Int) - (p : Int) ≤ 32768) = false := decide_eq_false (by omega)
                go_wp2_with fail
                go_meet
                refine ⟨?_, hbx⟩
                unfold tokAt
                rw [chain_far _ a q p hq Hq.out Hp.out.symm hfar]
                exact hb8
              · have d1 : (a : Int) - (p : Int) ≤ 32768 := by omega
                by_cases hfull : 258 ≤ bl
                · have d2 : decide ((bl : Int) < 258) = false := decide_eq_false (by omega)
                  go_wp2_with fail
                  go_meet
                  refine ⟨?_, hbx⟩
                  unfold tokAt
                  rw [chain_full _ a q hq Hq.out (by rw [Hbl.out]; exact hfull)]
                  exact hb8
                · have d2 : (bl : Int) < 258 := by omega
                  have hCr : Kd.C (Kd.int .u8) wr (some ⟨b, o, none⟩) l.length l := Kd.C_below HR.out (HB.out.symm ▸ (hBel0.trans (hbx.mono (Nat.le_of_lt o8B))))
                  have hT := try_any (some ⟨b, o, none⟩) c l hl a p (by omega) (by rw [Hn.out]; exact ha) (bestTo (nat l) a (a - q)) B ga g8 wr hCr (by rw [Hn.out]; exact hcn) (by rw [Hn.out]; exact q1) qa hb8
                  rw [chain_step _ a q p hq Hp.out.symm] at hT
                  have HT := Lib.hid hT
                  have HCr := Lib.hid hCr
                  clear hT hCr
                  go_wp2_with fail
                  refine HT.out.mono ?_
                  rintro e w3 ⟨rfl, hb3, hbel3⟩
                  have hb4 := hbel3 g8 (Nat.le_refl _)
                  have v5 := (q5.below hb4 o85).one
                  have vs := (qs.below hb4 (Nat.lt_trans hgs o8)).at_ p (ahd_get (nat l) n a p (by omega))
                  rw [if_pos ⟨by omega, hp3⟩, Hpt.out] at vs
                  have hpn : (p : Int) < (n : Int) := by omega
                  have hp00 : (0 : Int) ≤ (p : Int) := by omega
                  have htp : (p : Int).toNat = p := rfl
                  go_wp2_with fail
                  go_roundw
                  case rel => exact ⟨p, _, rfl, Lib.hid rfl, by omega, Lib.hid (by omega), hb3, hbx.trans hb4⟩
                  case measure => have := lastF_le (nat l) (trip (nat l) a) p; simp [intOf]; omega
        · have h3' : decide ((a : Int) + 3 ≤ (n : Int)) = false := decide_eq_false (by omega)
          go_wp2_with fail
          go_meet
          refine ⟨?_, Below.refl _ _⟩
          unfold tokAt
          rw [chain_short _ a (by rw [nat_length, Hn.out]; exact h3)]
          exact k8
      case rest =>
        obtain ⟨hb8, hbx⟩ := hcut
        obtain ⟨tk, htk⟩ : ∃ tk, tokAt (nat l) a = tk := ⟨_, rfl⟩
        rw [htk] at hb8
        have Htk := Lib.hid htk
        have hlen1 : a + mx tk.len ≤ n := by unfold mx; rw [← Hn.out, ← nat_length, ← htk]; exact tokAt_end (nat l) a (by rw [nat_length, Hn.out]; exact hlt)
        clear htk
        have z0 := hb8.at_ 0 (v := .int .u8 (tk.byte : Int)) rfl
        have z1 := hb8.at_ 1 (v := .int .i64 (tk.len : Int)) rfl
        have z2 := hb8.at_ 2 (v := .int .i64 (tk.dist : Int)) rfl
        have hO1 : Own (some ⟨b, o, none⟩) n c (nat l) B gm g4 gs g5 km a wc := hO0.keep fun k _ hk => hbx.block k (by rcases hk with h | h | h | h | h <;> omega)
        have hwz : g8 + 1 ≤ wc.heap.size := by have := hbx.size; omega
        have hbW : Below g8 wr wc := hB8.trans hbx
        have hout1 : OutRow wc B u3 ts := own_grown hout (eg8.symm ▸ hbW)
        obtain ⟨i6, hi6, hy0, hy1, hy2⟩ := info_parts info26
        have hI := Lib.hid hi6
        have Hy0 := Lib.hid hy0
        have Hy1 := Lib.hid hy1
        have Hy2 := Lib.hid hy2
        clear hi6 hy0 hy1 hy2
        have htsn : ts.length + 1 ≤ 1000000 := by omega
        have Hts := Lib.hid htsn
        clear htsn
        go_wp2_with (
          at_builtin
          refine wpList_append_any _ rfl (.tmp 63) (.tmp 65) 23 rfl B 26 i6 _ 3 24 Try.underlying23 hI.out Hy0.out Hy1.out Hy2.out rfl (by omega) u3 ts.length (toksC ts) rfl
            (pw_own_below hout1 ((Below.refl _ _).alloc (Nat.le_refl _) _)) (wc.heap.size + 1) (some ⟨wc.heap.size, 0, none⟩) 1 1 (tokC tk).toList rfl (reads_blk (Blk.new _ _ _) (by omega)) tokC_one (by simp only [maxLen]; have := Hts.out; omega) (by have := Hts.out; omega) (by rw [World.size_alloc]; omega) ?_
          intro v1 w3 hown3 hg3 hat3
          obtain ⟨hO3, hA3, h83⟩ := grown_all hO1 (hA0.below hbx o8) hb8 hout1 (fun e => by have := outrow_lt hout _ e; omega) _ hg3
          have hout3 : OutRow w3 B v1 (ts ++ [tk]) := by
            have := hown3
            rw [toksC_snoc] at this
            unfold OutRow
            rw [List.length_append]
            exact this
          have hB3 : Below B w w3 := ((hBel0.trans (hbx.mono (Nat.le_of_lt o8B))).alloc (by omega) _).grown hg3 (by rw [World.size_alloc]; omega) (outrow_ge hout1)
          have y1 := h83.at_ 1 (v := .int .i64 (tk.len : Int)) rfl
          clear hown3 hg3 hat3 z0 z1 z2)
        have hM1 : 1 ≤ mx tk.len := by unfold mx; omega
        obtain ⟨M, hM⟩ : ∃ M, mx tk.len = M := ⟨_, rfl⟩
        rw [hM] at hlen1 hM1 ⊢
        have HM := Lib.hid hM
        clear hM
        have Hg2 := hgs
        go_loopw [70] (fun pv wx => ∃ (j km' : Nat), pv = .int .i64 (j : Int) ∧ j ≤ M ∧ Own (some ⟨b, o, none⟩) n c (nat l) B gm g4 gs g5 km' (a + j) wx ∧ km' ≤ a + j ∧ Blk wx ga 3 #[.int .i64 ((a + j : Nat) : Int)] ∧ OutRow wx B v1 (ts ++ [tk]) ∧ Below B w wx) (fun pv _ => M - (intOf pv).toNat)
        case atStart => exact ⟨0, km, rfl, Nat.zero_le _, hO3, hkm, hA3, hout3, hB3⟩
        case round =>
          clear hO3 hA3 h83 hout3 hB3 hbx hb8 hO1 hout1 hO0 hA0 hR0 hout0 hBel0 hB8 hbW hOwn hBa hrW hout hBel
          obtain ⟨j, km', rfl, hj, hO, hkm', hA, hout, hBel⟩ := hrel
          have xa := hA.one
          by_cases hjM : j < M
          · have hj' : (j : Int) < (M : Int) := by omega
            have hrd := reads_nat HR.out hl
            rw [Hn.out, HB.out] at hrd
            have hrd2 := Reads.more (hrd.below hBel) (Nat.le_of_lt hO.b1.lt)
            have hN := note_own _ n c (nat l) B gm g4 gs g5 km' (a + j) ga B _ v1 _ _ hrd2 (nat_lt hl) (by omega) (by omega) hcn hO hA (by omega) hout (by omega) (by omega) hkm'
            have HN := Lib.hid hN
            clear hN hrd hrd2
            have hj0 : (0 : Int) ≤ (j : Int) := by omega
            have hjb : (a : Int) + (j : Int) < 1000000 := by omega
            obtain ⟨q, hq⟩ : ∃ q, a + j = q := ⟨_, rfl⟩
            have hj1 : a + (j + 1) = q + 1 := by omega
            have Hj1 := Lib.hid hj1
            have hqn : q < n := by omega
            rw [hq] at xa HN
            have Hq := Lib.hid hq
            clear hj1 hq
            go_wp2_with fail
            refine HN.out.mono ?_
            rintro e w4 ⟨rfl, hO4, hA4, hout4, hB4⟩
            have xa4 := hA4.one
            have fa4 := hA4.frozen 0
            go_wp2_with fail
            go_roundw
            case measure => simp [intOf]; omega
            case rel =>
              refine ⟨j + 1, km' + 1, rfl, hjM, ?_⟩
              rw [Hj1.out]
              refine ⟨hO4.far (p := ⟨ga, 0, none⟩) (by show ga ≠ B; omega) (hO4.m.ne hA4) (by show ga ≠ g4; omega) (by show ga ≠ gs; omega) (hA4.ne_ hO4.b5 (by decide)) _, by have := Hq.out; omega, hA4.set_ 0 _, hout4.cong fun k e => Below.heap_setCell _ _ _ k (fun h => own_blk_ne hout4 hA4 (by decide) (e.trans (congrArg some h))), (hBel.trans hB4).setCell (by show B ≤ ga; omega) _⟩
          · obtain rfl : j = M := by omega
            have hj' : decide ((j : Int) < (j : Int)) = false := decide_eq_false (by omega)
            go_wp2_with fail
            have hbox := Blk.new wr 3 #[.int .i64 ((a + j : Nat) : Int)]
            go_roundg (gk - j)
            case measure => have := Hg.out; omega
            case rel =>
              refine ⟨a + j, wr.heap.size, km', ts ++ [tk], Lib.hid (by have := Hg.out; omega), hlen1, rfl, hO.below ((Below.refl _ _).alloc (Nat.le_refl _) _), hkm', hbox, by have := hO.bs.lt; omega, hout.cong fun k e => Below.heap_alloc _ _ k (outrow_lt hout k e), ?_, ?_, hBel.trans ((Below.refl _ _).alloc (by have := hO.b1.lt; omega) _)⟩
              · rw [List.length_append]; simp; omega
              · refine Lib.hid ?_
                rw [Hem.out, emit_go (nat l) (n - a) a (by rw [nat_length, Hn.out]; exact hlt) (by rw [nat_length, Hn.out]; exact Nat.le_refl _), Htk.out, ← (show mx tk.len = max tk.len 1 from rfl), HM.out, nat_length, Hn.out, List.append_assoc]
                rfl
    · have hf : decide ((a : Int) < (n : Int)) = false := decide_eq_false (by omega)
      obtain rfl : a = n := by omega
      go_wp2_with fail
      go_ret
      refine ⟨_, rfl, ?_, HB.out.symm ▸ hBel⟩
      show OutRow wr w.heap.size u3 _
      rw [HB.out, Hem.out, emit_end _ _ _ (by rw [nat_length, Hn.out]; omega), List.append_nil]
      exact hout
end Go.Proofs.Ytgfjbbjdkmgdjaa.Ext
