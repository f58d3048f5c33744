/- spend: one flight like that that was sent may come once more, or less. -/
import Derived.Test.YtmacmhlimdaemaaNActs
import Derived.Test.YtmacmhlimdaemaaPktPure
namespace Go.Proofs.Ytmacmhlimdaemaa
open Go.RowKit
section
variable {w0 w : World} {L : List Asn}
theorem ownsX.put {e : TypeId} {size n b c : Nat} {xs : List Value} (h : ownsX w e size (.slice (some ⟨b, 0, none⟩) n c) n xs) (j : Nat) (u : Value) : ownsX (w.setCell ⟨b, j, none⟩ u) e size (.slice (some ⟨b, 0, none⟩) n c) n (xs.set j u) := by
  obtain ⟨h1, ⟨h2, _⟩ | ⟨g, cap, cur, hv, hg, hnc, hcm, hcs, ht⟩⟩ := h
  · cases h2
  · injection hv with e1 e2 e3
    injection e1 with e1
    injection e1 with e1
    subst e1 e3
    have hb : Blk w b e cur := hg
    refine ⟨by rw [List.length_set]; exact h1, .inr ⟨b, c, cur.setIfInBounds j u, rfl, hb.set_ j u, hnc, hcm, by simpa using hcs, ?_⟩⟩
    rw [Array.toList_setIfInBounds, List.take_set, ht]
theorem ownsX.frozen {e : TypeId} {size n b c : Nat} {xs : List Value} (h : ownsX w e size (.slice (some ⟨b, 0, none⟩) n c) n xs) (j : Nat) : w.frozen? ⟨b, j, none⟩ = false := by
  obtain ⟨h1, ⟨h2, _⟩ | ⟨g, cap, cur, hv, hg, hnc, hcm, hcs, ht⟩⟩ := h
  · cases h2
  · injection hv with e1 e2 e3
    injection e1 with e1
    injection e1 with e1
    subst e1
    exact Blk.frozen (show Blk w b e cur from hg) j
theorem Sep.putX {e : TypeId} {size n b c : Nat} {xs : List Value} (h : Sep w0 w L) (i : Nat) (hi : L[i]? = some (rowX e size (.slice (some ⟨b, 0, none⟩) n c) n xs)) (j : Nat) (u : Value) :
    Sep w0 (w.setCell ⟨b, j, none⟩ u) (L.set i (rowX e size (.slice (some ⟨b, 0, none⟩) n c) n (xs.set j u))) := by
  obtain ⟨F, hA, hF, hup⟩ := h.step i hi
  exact hup _ _ F (Only.setCell (p := ⟨b, j, none⟩) (Only.refl F w) (.inl ((hA.2 b).2 rfl)) u) ⟨hA.1.put j u, hA.2⟩ fun k hk => .inl hk
end
end Go.Proofs.Ytmacmhlimdaemaa
namespace Go.Proofs.Ytmacmhlimdaemaa.Net
open Go.RowKit Go.Proofs.YtmacmhlimdaemaaW.PrintWords Go.Proofs.Ytmacmhlimdaemaa.R Go.Proofs.Ytmacmhlimdaemaa.Pkt
def enI (x : Int) : Value := .int .i64 x
theorem fl_same {a b : Fl} (ha : ∀ x ∈ a.b, 0 ≤ x ∧ x < 256) (hb : ∀ x ∈ b.b, 0 ≤ x ∧ x < 256) (h1 : a.c = b.c) (h2 : a.d = b.d) (h3 : (strOfNums a.b).toList = (strOfNums b.b).toList) : a = b := by
  have h := (str_eq ha hb).1 h3
  cases a; cases b
  simp only at h1 h2 h
  subst h1 h2 h
  rfl
section
variable {w0 w w' : World} {L M : List Asn} {A : Option Addr} {ss : List Fl}
/-- there is one that may be spent -/
def Has (ss : List Fl) (ls : List Int) (f : Fl) : Prop := ∃ (j : Nat) (x : Int), ss[j]? = some f ∧ ls[j]? = some x ∧ 0 < x
set_option maxRecDepth 100000 in
theorem spend_any (n : Nat) (ls : List Int) (f : Fl) (D : Option Addr) (m cf cs b cl : Nat) (by_ : Int) (hln : ls.length = n) (hsn : ss.length = n) (hn : n ≤ 1000) (hA : FR w A ss) (hss : ∀ s ∈ ss, ∀ x ∈ s.b, 0 ≤ x ∧ x < 256) (hf : ∀ x ∈ f.b, 0 ≤ x ∧ x < 256)
    (hm : f.b.length = m) (hC : Kd.C (Kd.int .u8) w D m f.b) (hhas : Has ss ls f) (hls : ∀ x ∈ ls, 0 ≤ x ∧ x ≤ 1000) (hby : -1000 ≤ by_ ∧ by_ ≤ 1000)
    (i : Nat) (hi : L[i]? = some (rowX 3 1 (.slice (some ⟨b, 0, none⟩) n cl) n (ls.map enI))) (hS : Sep w0 w L) :
    Calls Try.prog 38 #[.slice A n cs, .slice (some ⟨b, 0, none⟩) n cl, .agg #[.int .i64 f.c, .bool f.d, .slice D m cf], .int .i64 by_] w fun en w' =>
      en = .returned (.bool true) ∧ ∃ j x, ss[j]? = some f ∧ ls[j]? = some x ∧ 0 < x ∧ Sep w0 w' (L.set i (rowX 3 1 (.slice (some ⟨b, 0, none⟩) n cl) n ((ls.set j (x + by_)).map enI))) := by
  obtain ⟨W1, hW1, S1⟩ := hS.boxedF 48 #[.int .i64 f.c, .bool f.d, .slice D m cf]
  have hb1 : Below w.heap.size w W1 := by rw [← hW1]; exact (Below.refl _ _).alloc (Nat.le_refl _) _
  have HA := Lib.hid (hA.below hb1)
  have HC := Kd.C_below hC hb1
  have x0 : W1.cell? ⟨w.heap.size, 0, none⟩ = some (.int .i64 f.c) := (S1.blk 0 rfl).at_ 0 rfl
  have x1 : W1.cell? ⟨w.heap.size, 1, none⟩ = some (.bool f.d) := (S1.blk 0 rfl).at_ 1 rfl
  have x2 : W1.cell? ⟨w.heap.size, 2, none⟩ = some (.slice D m cf) := (S1.blk 0 rfl).at_ 2 rfl
  have e2 := fun x => run_text (c := cf) hm HC x
  have hi1 : (cell w.heap.size 48 #[.int .i64 f.c, .bool f.d, .slice D m cf] :: L)[i + 1]? = some (rowX 3 1 (.slice (some ⟨b, 0, none⟩) n cl) n (ls.map enI)) := by rw [List.getElem?_cons_succ]; exact hi
  have OX := Lib.hid (S1.ownX (i + 1) hi1)
  have HP := Lib.hid (fun (q j : Nat) (x : Int) => show Sep w0 ((W1.drewN q).setCell ⟨b, j, none⟩ (enI x)) (L.set i (rowX 3 1 (.slice (some ⟨b, 0, none⟩) n cl) n ((ls.set j x).map enI))) by
    have h := ((S1.drewN q).putX (i + 1) hi1 j (enI x)).tail
    rwa [← List.map_set] at h)
  have Hn := Lib.hid hsn
  have Hl := Lib.hid hln
  have Hss := Lib.hid hss
  have Hff := Lib.hid hf
  have Hls := Lib.hid hls
  have Hhas := Lib.hid hhas
  obtain ⟨fc, hfc⟩ : ∃ x, f.c = x := ⟨_, rfl⟩
  obtain ⟨fd, hfd⟩ : ∃ x, f.d = x := ⟨_, rfl⟩
  obtain ⟨fb, hfb⟩ : ∃ x, strOfNums f.b = x := ⟨_, rfl⟩
  rw [hfc] at x0 hW1 ⊢
  rw [hfd] at x1 hW1 ⊢
  simp only [hfb] at e2
  have Hfc := Lib.hid hfc
  have Hfd := Lib.hid hfd
  have Hfb := Lib.hid hfb
  obtain ⟨gx, hgx⟩ : ∃ x, w.heap.size = x := ⟨_, rfl⟩
  rw [hgx] at x0 x1 x2
  clear hA hss hf hm hC hhas hls hi hS S1 hb1 HC hi1 hln hsn hfc hfd hfb
  go_enter Try.func38, Try.ntmps38
  go_wp2_with fail
  clear hW1 hgx
  go_loopw [9] (fun p wr => ∃ k q : Nat, k ≤ n ∧ p = .int .i64 (k : Int) ∧ Hid (∀ j x, ss[j]? = some f → ls[j]? = some x → j < k → ¬ 0 < x) ∧ Hid (wr = W1.drewN q)) (fun p _ => n - (intOf p).toNat)
  case atStart => exact ⟨0, 0, Nat.zero_le _, rfl, Lib.hid fun j x _ _ h => by omega, rfl⟩
  case round =>
    obtain ⟨k, q, hk, rfl, hno, hw⟩ := hrel
    have hw' : wr = W1.drewN q := hw.out
    subst hw'
    clear hw
    by_cases hlt : k < n
    · have hlt' : (k : Int) < (n : Int) := by omega
      have hkl : k < ls.length := by have := Hl.out; omega
      have hks : k < ss.length := by have := Hn.out; omega
      obtain ⟨x, hx⟩ : ∃ x, ls[k] = x := ⟨_, rfl⟩
      have l0 : W1.cell? ⟨b, k, none⟩ = some (.int .i64 x) := OX.out.cells rfl k (enI x) (by rw [List.getElem?_map, List.getElem?_eq_getElem hkl, hx]; rfl)
      have z0 := OX.out.frozen k
      have hxb := Hls.out x (hx ▸ List.getElem_mem hkl)
      have hx2 : Hid (ls[k]? = some x) := Lib.hid (by rw [List.getElem?_eq_getElem hkl, hx])
      obtain ⟨a, o, E, d, rfl, r0, r1, r2, -, hD⟩ := HA.out.elem hks
      obtain ⟨s, hs⟩ : ∃ s, ss[k] = s := ⟨_, rfl⟩
      rw [hs] at r0 r1 r2 hD
      obtain ⟨ms, hms⟩ : ∃ m, s.b.length = m := ⟨_, rfl⟩
      have e1 := fun x => run_text (c := d) hms (hms ▸ hD) x
      rw [hms] at r2
      have hs2 : Hid (ss[k]? = some s) := Lib.hid (by rw [List.getElem?_eq_getElem hks, hs])
      have hsb := Lib.hid (Hss.out s (hs ▸ List.getElem_mem hks))
      obtain ⟨sc, hsc⟩ : ∃ x, s.c = x := ⟨_, rfl⟩
      obtain ⟨sd, hsd⟩ : ∃ x, s.d = x := ⟨_, rfl⟩
      obtain ⟨sb, hsb'⟩ : ∃ x, strOfNums s.b = x := ⟨_, rfl⟩
      rw [hsc] at r0
      rw [hsd] at r1
      simp only [hsb'] at e1
      have Hsc := Lib.hid hsc
      have Hsd := Lib.hid hsd
      have Hsb := Lib.hid hsb'
      have hgo : Hid (¬ (0 < x ∧ sc = fc ∧ sd = fd ∧ sb.toList = fb.toList) → ∀ j x, ss[j]? = some f → ls[j]? = some x → j < k + 1 → ¬ 0 < x) := Lib.hid (by
        intro hne j y h1 h2 hj hy
        by_cases hjk : j < k
        · exact hno.out j y h1 h2 hjk hy
        · obtain rfl : j = k := by omega
          rw [hx2.out] at h2
          rw [hs2.out] at h1
          injection h1 with h1
          injection h2 with h2
          subst h1 h2
          exact hne ⟨hy, Hsc.out.symm.trans Hfc.out, Hsd.out.symm.trans Hfd.out, by rw [← Hsb.out, ← Hfb.out]⟩)
      have hyes : Hid (sc = fc → sd = fd → sb.toList = fb.toList → ss[k]? = some f) := Lib.hid (by
        intro h1 h2 h3
        rw [hs2.out, fl_same hsb.out Hff.out (by rw [Hsc.out, Hfc.out, h1]) (by rw [Hsd.out, Hfd.out, h2]) (by rw [Hsb.out, Hfb.out, h3])])
      have s3 : (k : Int).toNat = k := rfl
      have s4 : (0 : Int) ≤ (k : Int) := by omega
      clear hx hs hD hms hsc hsd hsb' hkl hks
      by_cases hx0 : 0 < x
      · have d0 : decide (0 < x) = true := decide_eq_true hx0
        by_cases hc : sc = fc
        · subst hc
          by_cases hd : sd = fd
          · subst hd
            by_cases hb : sb.toList = fb.toList
            · have hy := Lib.hid (hyes.out rfl rfl hb)
              have c0 : (sb.toList == fb.toList) = true := by simp [hb]
              have i1 : IntKind.i64.wrap (x + by_) = x + by_ := IntWalk.i64_in _ (by omega)
              clear hgo hyes hno hb
              go_upto_region 4 with (fail)
              go_quiet (fail)
              go_wp2_with fail
              go_ret
              exact ⟨rfl, k, x, hy.out, hx2.out, hx0, HP.out (q + nq) k (x + by_)⟩
            · have c0 : (sb.toList == fb.toList) = false := by simp [hb]
              have hg := Lib.hid (hgo.out fun h => hb h.2.2.2)
              clear hgo hyes hno hb
              go_upto_region 4 with (fail)
              go_quiet (fail)
              go_wp2_with fail
              exact ⟨⟨k + 1, q + nq, hlt, by go_num, hg, rfl⟩, by simp [intOf]; omega⟩
          · have hg := Lib.hid (hgo.out fun h => hd h.2.2.1)
            obtain rfl : fd = !sd := by cases sd <;> cases fd <;> simp_all
            clear hgo hyes hno hd
            cases sd with
            | true =>
              go_upto_region 4 with (fail)
              go_quiet (fail)
              go_wp2_with fail
              exact ⟨⟨k + 1, q + nq, hlt, by go_num, hg, rfl⟩, by simp [intOf]; omega⟩
            | false =>
              go_upto_region 4 with (fail)
              go_quiet (fail)
              go_wp2_with fail
              exact ⟨⟨k + 1, q + nq, hlt, by go_num, hg, rfl⟩, by simp [intOf]; omega⟩
        · have c0 : (sc == fc) = false := by simp [hc]
          have hg := Lib.hid (hgo.out fun h => hc h.2.1)
          clear hgo hyes hno
          go_upto_region 4 with (fail)
          go_quiet (fail)
          go_wp2_with fail
          exact ⟨⟨k + 1, q + nq, hlt, by go_num, hg, rfl⟩, by simp [intOf]; omega⟩
      · have d0 : decide (0 < x) = false := decide_eq_false hx0
        have hg := Lib.hid (hgo.out fun h => hx0 h.1)
        clear hgo hyes hno
        go_upto_region 4 with (fail)
        go_quiet (fail)
        go_wp2_with fail
        exact ⟨⟨k + 1, q + nq, hlt, by go_num, hg, rfl⟩, by simp [intOf]; omega⟩
    · exfalso
      obtain ⟨j, x, h1, h2, h3⟩ := Hhas.out
      exact hno.out j x h1 h2 (by have := (List.getElem?_eq_some_iff.1 h2).1; have := Hl.out; omega) h3
end
end Go.Proofs.Ytmacmhlimdaemaa.Net
