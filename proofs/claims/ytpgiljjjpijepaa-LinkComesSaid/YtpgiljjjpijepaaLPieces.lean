/- The pieces that may be sent: the iterator. -/
import Derived.Test.YtpgiljjjpijepaaLPk
import Derived.Shelf.Abstract
import Derived.OwnWalkIn
import Derived.TacticsInMore
import Derived.LoopNIn
import Derived.LoopIn
import Derived.ControlIn
import Derived.StillTailTactics
namespace Go.Proofs.Ytpgiljjjpijepaa
open Go.RowKit Go.Shelf
def kOf (s : LS) : Nat := min (min (s.wait.length - (s.sent - s.base)) 256) (1024 - (s.sent - s.base))
def pieceS (s : LS) : LS := { s with sent := s.sent + kOf s, most := max s.most (s.sent + kOf s) }
def pieceP (s : LS) : Pk := ⟨s.epoch, s.sent, s.next, (s.wait.drop (s.sent - s.base)).take (kOf s)⟩
def pieces (s : LS) : LS × List Pk := if _h : kOf s = 0 then (s, []) else ((pieces (pieceS s)).1, pieceP s :: (pieces (pieceS s)).2)
termination_by s.base + 1024 - s.sent
decreasing_by all_goals (simp only [pieceS, kOf] at *; omega)
structure Inv (s : LS) : Prop where
  lo : s.base ≤ s.sent
  hi : s.sent ≤ s.base + s.wait.length
  wl : s.wait.length ≤ 1048576
  b : s.base ≤ 1000000000000
  m : s.most ≤ 2000000000000
  win : s.sent ≤ s.base + 1024
theorem Inv.piece {s : LS} (h : Inv s) : Inv (pieceS s) := by
  obtain ⟨h1, h2, h3, h4, h5, h6⟩ := h
  refine ⟨?_, ?_, h3, h4, ?_, ?_⟩ <;> (simp only [pieceS, kOf]; omega)
def sentOf (g : Nat) (w : World) : Int := match w.cell? ⟨g, 2, none⟩ with | some v => intOf v | none => 0
section
variable {w0 w w' : World} {L M : List Asn}
theorem sentOf_at {g : Nat} {s : LS} (hS : Sep w0 w L) (i : Nat) (hi : L[i]? = some (LinkAt g s)) : sentOf g w = (s.sent : Int) := by
  obtain ⟨vw, vg, S⟩ := (hS.pick i hi).openL
  have c2 : w.cell? ⟨g, 2, none⟩ = some (.int .u64 (s.sent : Int)) := (S.blk 0 rfl).at_ 2 rfl
  unfold sentOf
  rw [c2]
  rfl
theorem meas_sent (a x y : Nat) (X Y : Int) (hX : X = (x : Int)) (hY : Y = (y : Int)) (h : y < x) (hb : x ≤ a) : a - X.toNat < a - Y.toNat := by subst hX hY; simp; omega
set_option maxRecDepth 100000 in
theorem pieces_any (n l D g ob B : Nat) (O : Obj) (R : List Pk → List Asn)
    (hY : ∀ s ps u p W, p.e = s.epoch → p.a = s.next → ps.length ≤ B → Sep w0 W (objA l O :: objA D (.deferred (some [])) :: LinkAt g s :: cell ob 85 #[.pointer (some ⟨g, 0, none⟩)] :: BRow u p.d :: R ps) →
      YieldAt Fence.wide (n - 1) Try.prog l #[.int .u64 (p.o : Int), u] W fun e W' => e = .returned (.bool true) ∧ Sep w0 W' (objA l O :: objA D (.deferred (some [])) :: LinkAt g s :: cell ob 85 #[.pointer (some ⟨g, 0, none⟩)] :: R (ps ++ [p])))
    (s : LS) (ps : List Pk) (hI : Inv s) (hB : (ps ++ (pieces s).2).length ≤ B) (hS : Sep w0 w (objA l O :: objA D (.deferred (some [])) :: LinkAt g s :: cell ob 85 #[.pointer (some ⟨g, 0, none⟩)] :: R ps)) :
    CallsIn Fence.wide n Try.prog 40 #[.func (.yield l) #[] #[], .pointer (some ⟨ob, 0, none⟩)] w fun e W' => (∃ v, e = .returned v) ∧ Sep w0 W' (objA l O :: objA D (.deferred (some [])) :: LinkAt g (pieces s).1 :: cell ob 85 #[.pointer (some ⟨g, 0, none⟩)] :: R (ps ++ (pieces s).2)) := by
  refine callsIn_of_wp Try.func40 rfl trivial ?_ rfl
  refine wpIn_wide.2 ?_
  simp only [Try.ntmps40, List.size_toArray, List.length_cons, List.length_nil, Nat.reduceAdd, Nat.reduceSub, Array.replicate_succ, Array.replicate_zero, List.push_toArray, List.append_toArray, List.nil_append, List.cons_append]
  go_wp2_with fail
  go_loopw [3, 4, 5] (fun _ _ _ wr => ∃ s' ps', Inv s' ∧ (pieces s).1 = (pieces s').1 ∧ ps ++ (pieces s).2 = ps' ++ (pieces s').2 ∧ s'.base = s.base ∧ Sep w0 wr (objA l O :: objA D (.deferred (some [])) :: LinkAt g s' :: cell ob 85 #[.pointer (some ⟨g, 0, none⟩)] :: R ps')) (fun _ _ _ wr => s.base + 1024 - (sentOf g wr).toNat)
  case atStart => exact ⟨s, ps, hI, rfl, rfl, rfl, hS⟩
  case round =>
    obtain ⟨s1, ps1, hI1, he1, he2, hb, hS1⟩ := hrel
    have HBL : Hid (ps1.length ≤ B) := Lib.hid (by rw [he2, List.length_append] at hB; omega)
    clear hS hI hB
    have HSent := Lib.hid (sentOf_at hS1 2 rfl)
    have S0 : Sep w0 wr (LinkAt g s1 :: objA l O :: objA D (.deferred (some [])) :: cell ob 85 #[.pointer (some ⟨g, 0, none⟩)] :: R ps1) := hS1.pick 2 rfl
    obtain ⟨vw, vg, S⟩ := S0.openL
    obtain ⟨A, cw, hv, hcw, hcm, hR⟩ := S.bform 1 rfl
    obtain ⟨m, hm⟩ : ∃ m, s1.wait.length = m := ⟨_, rfl⟩
    obtain ⟨q, hq⟩ : ∃ q, s1.sent - s1.base = q := ⟨_, rfl⟩
    rw [hm] at hv hcw hR
    subst hv
    have HI := Lib.hid hI1
    obtain ⟨h1, h2, h3, h4, h5, h6⟩ := hI1
    rw [hm] at h2 h3
    have x0 : wr.cell? ⟨ob, 0, none⟩ = some (.pointer (some ⟨g, 0, none⟩)) := (S.blk 5 rfl).at_ 0 rfl
    have c0 : wr.cell? ⟨g, 0, none⟩ = some (.slice A m cw) := (S.blk 0 rfl).at_ 0 rfl
    have c1 : wr.cell? ⟨g, 1, none⟩ = some (.int .u64 (s1.base : Int)) := (S.blk 0 rfl).at_ 1 rfl
    have c2 : wr.cell? ⟨g, 2, none⟩ = some (.int .u64 (s1.sent : Int)) := (S.blk 0 rfl).at_ 2 rfl
    have c3 : wr.cell? ⟨g, 3, none⟩ = some (.int .u64 (s1.most : Int)) := (S.blk 0 rfl).at_ 3 rfl
    have z2 := (S.blk 0 rfl).frozen 2
    have z3 := (S.blk 0 rfl).frozen 3
    have i0 : IntKind.u64.wrap ((s1.sent : Int) - (s1.base : Int)) = (q : Int) := by rw [u64_in (by omega) (by omega)]; omega
    have i1 : IntKind.i64.wrap (q : Int) = (q : Int) := IntWalk.i64_in _ (by omega)
    have i2 : IntKind.i64.wrap ((m : Int) - (q : Int)) = (m : Int) - (q : Int) := IntWalk.i64_in _ (by omega)
    have i3 : IntKind.i64.wrap (1024 - (q : Int)) = 1024 - (q : Int) := IntWalk.i64_in _ (by omega)
    have HS := Lib.hid S
    have hfin : Hid (∀ W s' R', Sep w0 W (cell g 76 (s'.cs (.slice A m cw) vg) :: BRow (.slice A m cw) s'.wait :: BRow vg s'.got :: objA l O :: objA D (.deferred (some [])) :: cell ob 85 #[.pointer (some ⟨g, 0, none⟩)] :: R') → Sep w0 W (objA l O :: objA D (.deferred (some [])) :: LinkAt g s' :: cell ob 85 #[.pointer (some ⟨g, 0, none⟩)] :: R')) := Lib.hid fun W s' R' h => h.closeL.perm (List.perm_middle (a := LinkAt g s') (l₁ := [objA l O, objA D (.deferred (some []))])).symm
    obtain ⟨k, hk⟩ : ∃ k, kOf s1 = k := ⟨_, rfl⟩
    have hk' : min (min (m - q) 256) (1024 - q) = k := by rw [← hk]; unfold kOf; rw [hm, hq]
    have e0 : (if (1024 : Int) - (q : Int) < (if 256 < (m : Int) - (q : Int) then 256 else (m : Int) - (q : Int)) then 1024 - (q : Int) else if 256 < (m : Int) - (q : Int) then 256 else (m : Int) - (q : Int)) = (k : Int) := by
      rw [← hk']
      split <;> split <;> omega
    have HR := Lib.hid hR
    have HN := Lib.hid hcw
    have HF := Lib.hid (And.intro he1 (And.intro he2 (And.intro hb (And.intro hm (And.intro hq (And.intro hk hk'))))))
    clear S S0 hS1 hR hcm hcw he1 he2 hb hm hq hk hk' h1 h2 h3 h4 h5 h6
    go_upto_region 0 with (fail)
    go_quiet (fail)
    go_upto_region 2 with (fail)
    clear e0
    by_cases hk0 : k = 0
    · subst hk0
      go_wp2_with fail
      refine bodyPost_ret (results_none rfl _ _ _) rfl ?_
      obtain ⟨he1, he2, -, -, -, hk, -⟩ := HF.out
      have hp : pieces s1 = (s1, []) := by rw [pieces, dif_pos hk]
      rw [he1, he2, hp, List.append_nil]
      exact ⟨⟨_, rfl⟩, hfin.out _ s1 _ (HS.out.drewN _)⟩
    have e1 : decide ((k : Int) ≤ 0) = false := decide_eq_false (by omega)
    have e2 : (k == 0) = false := by simp [hk0]
    have i4 : IntKind.u64.wrap (k : Int) = (k : Int) := by obtain ⟨-, -, -, -, -, -, h⟩ := HF.out; exact u64_in (by omega) (by omega)
    have i5 : IntKind.u64.wrap ((s1.sent : Int) + (k : Int)) = (s1.sent : Int) + (k : Int) := by obtain ⟨-, -, -, -, -, -, h⟩ := HF.out; have := HI.out.hi; have := HI.out.wl; have := HI.out.b; exact u64_in (by omega) (by omega)
    have e3 : (if (s1.most : Int) < (s1.sent : Int) + (k : Int) then (s1.sent : Int) + (k : Int) else (s1.most : Int)) = ((max s1.most (s1.sent + k) : Nat) : Int) := by split <;> omega
    have HS1 := Lib.hid ((HS.out.drewN nq).put 0 rfl 2 (.int .u64 ((s1.sent : Int) + (k : Int))))
    go_upto_region 5 with (fail)
    generalize (wr.drewN nq).setCell ⟨g, 2, none⟩ (.int .u64 ((s1.sent : Int) + (k : Int))) = W5 at HS1 ⊢
    have x0' : W5.cell? ⟨ob, 0, none⟩ = some (.pointer (some ⟨g, 0, none⟩)) := (HS1.out.blk 5 rfl).at_ 0 rfl
    have c2' : W5.cell? ⟨g, 2, none⟩ = some (.int .u64 ((s1.sent : Int) + (k : Int))) := (HS1.out.blk 0 rfl).at_ 2 rfl
    have c3' : W5.cell? ⟨g, 3, none⟩ = some (.int .u64 (s1.most : Int)) := (HS1.out.blk 0 rfl).at_ 3 rfl
    have z3' := (HS1.out.blk 0 rfl).frozen 3
    have HS2 : Hid (Sep w0 (W5.setCell ⟨g, 3, none⟩ (.int .u64 ((max s1.most (s1.sent + k) : Nat) : Int))).drew _) := Lib.hid (HS1.out.put 0 rfl 3 (.int .u64 ((max s1.most (s1.sent + k) : Nat) : Int))).drew
    clear x0 c0 c1 c2 c3 z2 z3 i0 i1 i2 i3 i4 i5
    go_still_tail 12, (by kernel_rfl)
    go_upto_region 6 with (fail)
    generalize (W5.setCell ⟨g, 3, none⟩ (.int .u64 ((max s1.most (s1.sent + k) : Nat) : Int))).drew = W6 at HS2 ⊢
    clear x0' c2' c3' z3' HS1
    have S6 : Sep w0 W6 (cell g 76 ((pieceS s1).cs (.slice A m cw) vg) :: BRow (.slice A m cw) (pieceS s1).wait :: BRow vg (pieceS s1).got :: objA l O :: objA D (.deferred (some [])) :: cell ob 85 #[.pointer (some ⟨g, 0, none⟩)] :: R ps1) := by
      have h := HS2.out
      obtain ⟨-, -, -, -, -, hk, -⟩ := HF.out
      unfold pieceS
      rw [hk]
      exact h
    clear HS2
    have x0 : W6.cell? ⟨ob, 0, none⟩ = some (.pointer (some ⟨g, 0, none⟩)) := (S6.blk 5 rfl).at_ 0 rfl
    have c0 : W6.cell? ⟨g, 0, none⟩ = some (.slice A m cw) := (S6.blk 0 rfl).at_ 0 rfl
    have hqk : q + k ≤ m := by obtain ⟨-, -, -, -, -, -, h⟩ := HF.out; omega
    have hd : ((s1.wait.drop q).take k).length = k := by obtain ⟨-, -, -, hm, -, -, -⟩ := HF.out; rw [List.length_take, List.length_drop, hm]; omega
    have i6 : IntKind.i64.wrap ((q : Int) + (k : Int)) = (q : Int) + (k : Int) := IntWalk.i64_in _ (by have := HI.out.wl; obtain ⟨-, -, -, hm, -, -, -⟩ := HF.out; omega)
    have hsl : ∀ w, (Instr.slice 27 (.slice A m cw) (some (.int .i64 (q : Int))) (some (.int .i64 ((q : Int) + (k : Int)))) none).run Try.prog w = .ok (.slice (subB A cw q) k (cw - q)) w := by
      intro w
      have h := slice_lh .i64 A m cw q (q + k) (by omega) (by have := HN.out; omega) w
      rw [Nat.add_sub_cancel_left, Int.natCast_add] at h
      exact h
    have hR6 : RB W6 (subB A cw q) k ((s1.wait.drop q).take k) := by
      obtain ⟨-, -, -, hm, -, -, -⟩ := HF.out
      have h := (S6.rb 1 rfl).1
      exact (h.drop q (by omega) HN.out).take k (by omega)
    have HC := Lib.hid (clone_any ((s1.wait.drop q).take k) k (by have := HI.out.wl; obtain ⟨-, -, -, hm, -, -, -⟩ := HF.out; omega) (subB A cw q) (cw - q) hR6 S6)
    have Hy : Hid (∀ u W, Sep w0 W (BRow u ((s1.wait.drop q).take k) :: cell g 76 ((pieceS s1).cs (.slice A m cw) vg) :: BRow (.slice A m cw) (pieceS s1).wait :: BRow vg (pieceS s1).got :: objA l O :: objA D (.deferred (some [])) :: cell ob 85 #[.pointer (some ⟨g, 0, none⟩)] :: R ps1) →
        YieldAt Fence.wide (n - 1) Try.prog l #[.int .u64 (s1.sent : Int), u] W fun e W' => e = .returned (.bool true) ∧ Sep w0 W' (objA l O :: objA D (.deferred (some [])) :: LinkAt g (pieceS s1) :: cell ob 85 #[.pointer (some ⟨g, 0, none⟩)] :: R (ps1 ++ [pieceP s1]))) := Lib.hid (by
      intro u W hS
      obtain ⟨-, -, -, hm, hq, hk, -⟩ := HF.out
      have h := hY (pieceS s1) ps1 u (pieceP s1) W rfl rfl (HBL.out) (by
        have h1 := hfin.out W (pieceS s1) (BRow u ((s1.wait.drop q).take k) :: R ps1) (hS.perm (List.perm_middle (a := BRow u ((s1.wait.drop q).take k)) (l₁ := [cell g 76 ((pieceS s1).cs (.slice A m cw) vg), BRow (.slice A m cw) (pieceS s1).wait, BRow vg (pieceS s1).got, objA l O, objA D (.deferred (some [])), cell ob 85 #[.pointer (some ⟨g, 0, none⟩)]])).symm)
        have hd : (pieceP s1).d = (s1.wait.drop q).take k := by unfold pieceP; rw [hq, hk]
        rw [hd]
        exact h1)
      exact h)
    clear hR6 hqk S6 hY hd HN
    refine (wpIn_wide (n := n)).1 ?_
    gi_wp2_with (
      refine ⟨trivial, (fun h => by cases h), ?_⟩
      gi_at_call 37
      refine (callsIn_wide.2 HC.out).mono ?_
      rintro e W7 ⟨u, rfl, S7⟩
      obtain ⟨fn, tmps, assign, body, hy, hRd⟩ := Hy.out u W7 S7
      clear HC)
    refine ⟨(fun h => by cases h), hRd.mono ?_⟩
    rintro e W8 ⟨rfl, S8⟩
    gi_wp2_with fail
    go_wp2_with fail
    go_roundw
    case rel =>
      obtain ⟨he1, he2, hb, hm, hq, hk, hkm⟩ := HF.out
      have hp : pieces s1 = ((pieces (pieceS s1)).1, pieceP s1 :: (pieces (pieceS s1)).2) := by rw [pieces, dif_neg (by rw [hk]; exact hk0)]
      refine ⟨pieceS s1, ps1 ++ [pieceP s1], HI.out.piece, ?_, ?_, hb, S8⟩
      · rw [he1, hp]
      · rw [he2, hp, List.append_assoc]; rfl
    case measure =>
      obtain ⟨he1, he2, hb, hm, hq, hk, hkm⟩ := HF.out
      have h8 := sentOf_at S8 2 rfl
      have := HI.out.lo
      have := HI.out.win
      exact meas_sent _ (s1.sent + k) s1.sent _ _ (by rw [h8]; unfold pieceS; rw [hk]) HSent.out (by omega) (by omega)
end
end Go.Proofs.Ytpgiljjjpijepaa
