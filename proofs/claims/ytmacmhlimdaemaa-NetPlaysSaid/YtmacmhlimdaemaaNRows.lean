/- alike: two rows of flights that are the same. Flights: all of a net's flights, each with bytes of its own. -/
import Derived.Test.YtmacmhlimdaemaaNOps
import Derived.Deep.QuietTactic
import Derived.LoopTactic
import Derived.LoopN
namespace Go.Proofs.Ytmacmhlimdaemaa.Net
open Go.RowKit Go.Proofs.YtmacmhlimdaemaaW.PrintWords Go.Proofs.Ytmacmhlimdaemaa.R Go.Proofs.Ytmacmhlimdaemaa.Pkt
/-- a row of flights that can be read -/
def FR (w : World) (A : Option Addr) (fs : List Fl) : Prop :=
  ∃ es : List Ent, es.map (·.2) = fs ∧ Reads w w.heap.size 3 A es.length (entC es) ∧ ∀ e ∈ es, ∃ B c, e.1 = .slice B e.2.b.length c ∧ e.2.b.length ≤ c ∧ Kd.C (Kd.int .u8) w B e.2.b.length e.2.b
section
variable {w w' : World} {A B : Option Addr} {fs : List Fl}
theorem FR.elem (h : FR w A fs) {k : Nat} (hk : k < fs.length) : ∃ b o D c, A = some ⟨b, o, none⟩ ∧ w.cell? ⟨b, o + k * 3, none⟩ = some (.int .i64 fs[k].c) ∧ w.cell? ⟨b, o + k * 3 + 1, none⟩ = some (.bool fs[k].d) ∧ w.cell? ⟨b, o + k * 3 + 2, none⟩ = some (.slice D fs[k].b.length c) ∧
    fs[k].b.length ≤ c ∧ Kd.C (Kd.int .u8) w D fs[k].b.length fs[k].b := by
  obtain ⟨es, rfl, hr, he⟩ := h
  have hkl : k < es.length := by simpa using hk
  obtain ⟨b, o, hA, -, hc⟩ := Reads.elem (cells := fun e : Ent => e.2.cells e.1) (fun _ => rfl) (by decide) hr hkl
  obtain ⟨D, c, h1, h2, h3⟩ := he _ (List.getElem_mem hkl)
  have hf : (es.map (·.2))[k] = es[k].2 := by simp
  rw [hf]
  refine ⟨b, o, D, c, hA, hc 0 _ rfl, hc 1 _ rfl, ?_, h2, h3⟩
  rw [← h1]
  exact hc 2 _ rfl
theorem run_text {l : List Int} {n : Nat} {D : Option Addr} {c : Nat} (hn : l.length = n) (hC : Kd.C (Kd.int .u8) w D n l) (q : Nat) : (convert 22 9 (.slice D n c)).run Try.prog (w.drewN q) = .ok (.string (strOfNums l)) (w.drewN q) := by
  subst hn
  have h : Kd.C (Kd.int .u8) (w.drewN q) D l.length l := hC
  exact Kd.C_string Try.underlying22 Try.underlying5 Try.underlying9 h
theorem alike_same (ca cb : Nat) (hA : FR w A fs) (hB : FR w B fs) (hn : fs.length < 1000000) :
    Calls Try.prog 37 #[.slice A fs.length ca, .slice B fs.length cb] w fun en w' => en = .returned (.bool true) ∧ ∃ k, w' = w.drewN k := by
  have HA := Lib.hid hA
  have HB := Lib.hid hB
  obtain ⟨n, hn'⟩ : ∃ n, fs.length = n := ⟨_, rfl⟩
  rw [hn'] at hn ⊢
  have Hn := Lib.hid hn'
  clear hn' hA hB
  go_enter Try.func37, Try.ntmps37
  go_wp2_with fail
  go_loopw [5] (fun p wr => ∃ k q : Nat, k ≤ n ∧ p = .int .i64 (k : Int) ∧ Hid (wr = w.drewN q)) (fun p _ => n - (intOf p).toNat)
  case atStart => exact ⟨0, 0, Nat.zero_le _, rfl, rfl⟩
  case round =>
    obtain ⟨k, q, hk, rfl, hw⟩ := hrel
    have hw' : wr = w.drewN q := hw.out
    subst hw'
    clear hw
    by_cases hlt : k < n
    · have hlt' : (k : Int) < (n : Int) := by omega
      have hl : k < fs.length := by have := Hn.out; omega
      obtain ⟨a, o, D, c, rfl, r0, r1, r2, -, hC⟩ := HA.out.elem hl
      obtain ⟨b, p, E, d, rfl, t0, t1, t2, -, hD⟩ := HB.out.elem hl
      obtain ⟨m, hm⟩ : ∃ m, fs[k].b.length = m := ⟨_, rfl⟩
      have e1 := fun x => run_text (c := c) hm (hm ▸ hC) x
      have e2 := fun x => run_text (c := d) hm (hm ▸ hD) x
      rw [hm] at r2 t2
      clear hC hD hm
      generalize fs[k].c = x0 at *
      generalize fs[k].d = x1 at *
      generalize strOfNums fs[k].b = x2 at *
      have s3 : (k : Int).toNat = k := rfl
      have s4 : (0 : Int) ≤ (k : Int) := by omega
      go_upto_region 6 with (fail)
      go_quiet (fail)
      go_wp2_with fail
      exact ⟨⟨k + 1, q + nq, hlt, by go_num, rfl⟩, by simp [intOf]; omega⟩
    · go_wp2_with fail
      go_ret
      exact ⟨rfl, _, rfl⟩
end
end Go.Proofs.Ytmacmhlimdaemaa.Net
namespace Go.Proofs.Ytmacmhlimdaemaa
open Go.RowKit
section
variable {P : Program} {w : World}
theorem wpList_append_x {ops : Array Oper} {rest : List Oper} {o : Oper} {a : Act} {Q : Exit → Act → World → Prop} (hgd : o.guard = none) (s x : Operand) (t : TypeId)
    (ho : o.op = .call { callee := .builtin .append, args := #[s, x], argTypes := #[t, t] })
    (e : TypeId) (i : TypeInfo) (z : Value) (size bytes : Nat) (ht : P.underlying t = some (.slice e)) (hi : P.info? e = some i) (hz : i.zero = some z)
    (hsize : i.size = size) (hby : i.bytes = bytes) (hzs : z.cells.size = size) (hsz : 0 < size)
    (v : Value) (n : Nat) (xs : List Value) (hs : a.eval s = v) (hown : ownsX w e size v n xs)
    (B : Nat) (A : Option Addr) (m c : Nat) (news : List Value) (hx : a.eval x = .slice A m c) (hr : Reads w B size A m news) (h1 : ∀ u ∈ news, u.oneCell' = true)
    (h63 : n + m ≤ maxLen) (hbytes : (n + m) * bytes ≤ 140737488355328)
    (h : ∀ v' w', ownsX w' e size v' (n + m) (xs ++ news) → w.grownBy w' v.ownBlock → (v'.ownBlock = v.ownBlock ∨ v'.ownBlock = some w.heap.size) → wpList P ops Q rest (a.put o.dst v') w') : wpList P ops Q (o :: rest) a w :=
  wpList_plain hgd fun _ hK => wp_append_x s x t ho e i z size bytes ht hi hz hsize hby hzs hsz v n xs hs hown B A m c news hx hr h1 h63 hbytes fun v' w' h2 h3 h4 => hK _ _ (h v' w' h2 h3 h4)
end
end Go.Proofs.Ytmacmhlimdaemaa
namespace Go.Proofs.Ytmacmhlimdaemaa.Net
open Go.RowKit Go.Proofs.YtmacmhlimdaemaaW.PrintWords Go.Proofs.Ytmacmhlimdaemaa.R Go.Proofs.Ytmacmhlimdaemaa.Pkt
/-- a row of flights of the call's own -/
def FlX (v : Value) (fs : List Fl) : Asn := exA fun x : { es : List Ent // es.map (·.2) = fs } => bund (rowX 48 3 v x.1.length (entC x.1) :: x.1.map rowE)
section
variable {w0 w w' : World} {L M : List Asn}
theorem _root_.Go.Proofs.Ytmacmhlimdaemaa.Sep.openF {v : Value} {fs : List Fl} (h : Sep w0 w (FlX v fs :: L)) : ∃ es : List Ent, es.map (·.2) = fs ∧ Sep w0 w (rowX 48 3 v es.length (entC es) :: (es.map rowE ++ L)) := by
  obtain ⟨⟨es, hx⟩, h⟩ := h.openE
  exact ⟨es, hx, h.unbund⟩
theorem _root_.Go.Proofs.Ytmacmhlimdaemaa.Sep.closeF {v : Value} {fs : List Fl} {es : List Ent} (hx : es.map (·.2) = fs) (h : Sep w0 w (rowX 48 3 v es.length (entC es) :: (es.map rowE ++ L))) : Sep w0 w (FlX v fs :: L) := by
  have h1 : Sep w0 w ((rowX 48 3 v es.length (entC es) :: es.map rowE) ++ L) := h
  exact Sep.closeE (P := fun x : { es : List Ent // es.map (·.2) = fs } => bund (rowX 48 3 v x.1.length (entC x.1) :: x.1.map rowE)) ⟨es, hx⟩ h1.bund
/-- such a row can be read -/
theorem fr_of {v : Value} {es : List Ent} (h : Sep w0 w L) (i : Nat) (hi : L[i]? = some (rowX 48 3 v es.length (entC es))) (he : ∀ j (hj : j < es.length), L[i + 1 + j]? = some (rowE es[j])) :
    ∃ A c, v = .slice A es.length c ∧ es.length ≤ c ∧ c ≤ maxLen ∧ FR w A (es.map (·.2)) ∧ (0 < es.length → ∃ b, A = some ⟨b, 0, none⟩) := by
  have ox := h.ownX i hi
  have hb : ∀ e ∈ es, ∃ B c, e.1 = .slice B e.2.b.length c ∧ e.2.b.length ≤ c ∧ Kd.C (Kd.int .u8) w B e.2.b.length e.2.b := by
    intro e hm
    obtain ⟨j, hj, rfl⟩ := List.getElem_of_mem hm
    obtain ⟨A, c, h1, h2, h3⟩ := reads_bytes (own_bytes h (he j hj))
    exact ⟨A, c, h1, h2, h3⟩
  rcases Nat.eq_zero_or_pos es.length with h0 | h0
  · obtain ⟨a, c, hv, h1, h2⟩ := ox.slice
    refine ⟨a, c, hv, h1, h2, ⟨es, rfl, ⟨ox.1, fun hn => by omega⟩, hb⟩, fun hn => by omega⟩
  · obtain ⟨b, c, hv, h1, h2⟩ := ox.form h0
    subst hv
    have hlt : b < w.heap.size := by
      have hc := ox.cells (g := b) rfl 0 _ (List.getElem?_eq_getElem (by rw [entC_len]; omega))
      exact World.block_lt_of_cell? w ⟨b, 0, none⟩ hc
    refine ⟨some ⟨b, 0, none⟩, c, rfl, h1, h2, ⟨es, rfl, ⟨ox.1, fun hn => ?_⟩, hb⟩, fun _ => ⟨b, rfl⟩⟩
    obtain ⟨ad, e1, _, e2⟩ := ox.reads.2 hn
    injection e1 with e1
    subst e1
    exact ⟨_, rfl, hlt, e2⟩
theorem _root_.Go.Proofs.Ytmacmhlimdaemaa.Sep.fr {v : Value} {fs : List Fl} (h : Sep w0 w L) (i : Nat) (hi : L[i]? = some (FlX v fs)) : ∃ A c, v = .slice A fs.length c ∧ fs.length ≤ c ∧ c ≤ maxLen ∧ FR w A fs ∧ (0 < fs.length → ∃ b, A = some ⟨b, 0, none⟩) := by
  obtain ⟨es, rfl, S⟩ := (h.pick i hi).openF
  have := fr_of (es := es) S 0 rfl (fun j hj => by
    rw [Nat.zero_add, Nat.add_comm, List.getElem?_cons_succ, List.getElem?_append_left (by simpa using hj), List.getElem?_map, List.getElem?_eq_getElem hj]; rfl)
  rwa [List.length_map]
theorem _root_.Go.Proofs.Ytmacmhlimdaemaa.Sep.nilF (h : Sep w0 w L) : Sep w0 w (FlX (.slice none 0 0) [] :: L) := Sep.closeF (es := []) rfl (h.nilX 48 3)
theorem FR.below {A : Option Addr} {fs : List Fl} (h : FR w A fs) (hb : Below w.heap.size w w') : FR w' A fs := by
  obtain ⟨es, h1, h2, h3⟩ := h
  exact ⟨es, h1, ⟨h2.1, fun hn => by obtain ⟨ad, e1, e2, e3⟩ := (h2.below hb).2 hn; exact ⟨ad, e1, Nat.lt_of_lt_of_le e2 hb.size, e3⟩⟩, fun e he => by obtain ⟨B, c, q1, q2, q3⟩ := h3 e he; exact ⟨B, c, q1, q2, Kd.C_below q3 hb⟩⟩
end
section
variable {w0 w w' : World} {L M : List Asn}
theorem fl_push {u v' : Value} {es : List Ent} {fs : List Fl} {f : Fl} (hes : es.map (·.2) = fs) (h : Sep w0 w (BRow u f.b :: rowX 48 3 v' (es.length + 1) (entC es ++ f.cells u) :: (es.map rowE ++ M))) : Sep w0 w (FlX v' (fs ++ [f]) :: M) := by
  refine Sep.closeF (es := es ++ [(u, f)]) (by rw [List.map_append, hes]; rfl) ?_
  rw [List.length_append, entC_append, List.map_append, List.append_assoc]
  have he : entC [(u, f)] = f.cells u := by simp [entC]
  rw [he]
  refine h.perm ?_
  exact (List.Perm.swap _ _ _).trans (List.Perm.cons _ List.perm_middle.symm)
theorem midB (x a b c : Asn) (E M : List Asn) : (x :: (E ++ (a :: b :: c :: M))).Perm (b :: x :: (E ++ (a :: c :: M))) := by
  have h := List.perm_middle (a := b) (l₁ := x :: (E ++ [a])) (l₂ := c :: M)
  simpa using h
theorem take_next (fs : List Fl) (j : Nat) (f : Fl) (hj : j < fs.length) (hf : fs[j] = f) : fs.take (j + 1) = fs.take j ++ [f] := by
  rw [List.take_add_one, List.getElem?_eq_getElem hj, hf]; rfl
set_option maxRecDepth 100000 in
set_option maxHeartbeats 1000000 in
theorem flights_in (g : Nat) (fs : List Fl) (k : Int) (hm2 : fs.length ≤ 1000) (hl : ∀ f ∈ fs, f.b.length ≤ 1000000) (hS : Sep w0 w (NetAt g fs k :: M)) :
    Calls Try.prog 36 #[.pointer (some ⟨g, 0, none⟩)] w fun en w' => ∃ v, en = .returned v ∧ Sep w0 w' (FlX v fs :: NetAt g fs k :: M) := by
  obtain ⟨v, es, hes, S⟩ := hS.openNet
  have hln : es.length = fs.length := by rw [← hes, List.length_map]
  have hM : Hid (∀ wr u, Sep w0 wr (FlX u fs :: cell g 80 #[v, .int .i64 k] :: rowX 48 3 v es.length (entC es) :: (es.map rowE ++ M)) → Sep w0 wr (FlX u fs :: NetAt g fs k :: M)) := Lib.hid fun wr u h => by
    have h1 := Sep.closeNet hes ((h.perm (List.perm_middle (l₁ := cell g 80 #[v, .int .i64 k] :: rowX 48 3 v es.length (entC es) :: es.map rowE) (l₂ := M)).symm) : Sep w0 wr (cell g 80 #[v, .int .i64 k] :: rowX 48 3 v es.length (entC es) :: (es.map rowE ++ (FlX u fs :: M))))
    exact h1.swap
  have hE : Hid (∀ wr A, Sep w0 wr (A :: cell g 80 #[v, .int .i64 k] :: rowX 48 3 v es.length (entC es) :: (es.map rowE ++ M)) → ∃ A c, v = .slice A es.length c ∧ es.length ≤ c ∧ c ≤ maxLen ∧ FR wr A fs ∧ (0 < es.length → ∃ b, A = some ⟨b, 0, none⟩)) := Lib.hid fun wr A h => by
    rw [← hes]
    exact fr_of (es := es) h 2 rfl (fun j hj => by
      rw [show 2 + 1 + j = j + 1 + 1 + 1 by omega, List.getElem?_cons_succ, List.getElem?_cons_succ, List.getElem?_cons_succ, List.getElem?_append_left (by simpa using hj), List.getElem?_map, List.getElem?_eq_getElem hj]; rfl)
  obtain ⟨a, cc, hv, -, -⟩ := (S.ownX 1 rfl).slice
  have g0 := (S.blk 0 rfl).at_ 0 rfl
  obtain ⟨Lst, hL⟩ : ∃ Lst, cell g 80 #[v, .int .i64 k] :: rowX 48 3 v es.length (entC es) :: (es.map rowE ++ M) = Lst := ⟨_, rfl⟩
  rw [hL] at S
  have HL := Lib.hid hL
  obtain ⟨m, hm⟩ : ∃ m, es.length = m := ⟨_, rfl⟩
  rw [hm] at hv hln
  have Hm := Lib.hid hm
  have Hln := Lib.hid hln
  rw [hv] at g0
  have Hv := Lib.hid hv
  obtain ⟨i48, hi48, hz0, hz1, hz2⟩ := info_parts info48
  have Hi := Lib.hid hi48
  have Hz0 := Lib.hid hz0
  have Hz1 := Lib.hid hz1
  have Hz2 := Lib.hid hz2
  have S0 := S.nilF
  have hm3 : m ≤ 1000 := by omega
  clear hi48 hz0 hz1 hz2 hL hm hln hv hm2 S hS
  go_enter Try.func36, Try.ntmps36
  go_wp2_with fail
  clear g0
  go_loopw [3, 13] (fun u p wr => ∃ j : Nat, j ≤ m ∧ p = .int .i64 (j : Int) ∧ Sep w0 wr (FlX u (fs.take j) :: Lst)) (fun _ p _ => m - (intOf p).toNat)
  case atStart => exact ⟨0, Nat.zero_le _, rfl, S0⟩
  case round =>
    clear S0
    obtain ⟨j, hj, rfl, hS⟩ := hrel
    by_cases hlt : j < m
    · have hlt' : (j : Int) < (m : Int) := by omega
      have hjf : j < fs.length := by have := Hln.out; omega
      have hS' := hS
      rw [← HL.out] at hS'
      obtain ⟨A, c, hv, -, -, hfr, hb⟩ := hE.out _ _ hS'
      obtain ⟨b, rfl⟩ := hb (by have := Hm.out; omega)
      have hv2 := Hv.out.symm.trans hv
      injection hv2 with e1 e2 e3
      clear e2
      subst e1 e3
      obtain ⟨b', o', D, c', hA, r0, r1, r2, hc', hC⟩ := hfr.elem hjf
      injection hA with hA
      injection hA with hA hA2
      subst hA hA2
      obtain ⟨f, hf⟩ : ∃ f, fs[j] = f := ⟨_, rfl⟩
      rw [hf] at r0 r1 r2 hC hc'
      have hlf : f.b.length ≤ 1000000 := hl f (hf ▸ List.getElem_mem hjf)
      obtain ⟨n, hn⟩ : ∃ n, f.b.length = n := ⟨_, rfl⟩
      rw [hn] at r2 hC hc' hlf
      have Hn := Lib.hid hn
      have Hf := Lib.hid hf
      rw [Nat.zero_add] at r0 r1 r2
      obtain ⟨W1, hW1, S1⟩ := hS.boxedF 48 #[.int .i64 f.c, .bool f.d, .slice D n c']
      have hb1 : Below wr.heap.size wr W1 := by rw [← hW1]; exact (Below.refl _ _).alloc (Nat.le_refl _) _
      have HC := Lib.hid (Kd.C_below hC hb1)
      have q0 := (S1.blk 0 rfl).at_ 0 rfl
      have q1 := (S1.blk 0 rfl).at_ 1 rfl
      have q2 := (S1.blk 0 rfl).at_ 2 rfl
      have s3 : (j : Int).toNat = j := rfl
      have s4 : (0 : Int) ≤ (j : Int) := by omega
      have HS := Lib.hid hS
      have Hl := Lib.hid hlf
      have Hc := Lib.hid hc'
      have HS1 := Lib.hid S1
      clear hS hS' hv hfr hb hC hn hf S1 hb1 hlf hc'
      go_wp2_with (
        refine wpList_store_row rfl 48 (.tmp 5) (.tmp 16) rfl wr.heap.size #[.int .i64 f.c, .bool f.d, .slice D n c'] rfl rfl 48 _ (Blk.new _ _ _) size48 rfl (fl_one _ _ _ _ _) ?_
        rw [World.setRow_alloc_new, hW1]
        clear hW1 r0 r1 r2)
      refine (own_out f n Hn.out (by have := Hl.out; omega) D c' HC.out Hc.out HS1.out).mono ?_
      rintro en w3 ⟨v3, rfl, S3⟩
      obtain ⟨a3, c3, rfl, -, -⟩ := own_slice (own_n n Hn.out S3 0 rfl)
      obtain ⟨W4, hW4, S4⟩ := S3.boxedF 48 #[.int .i64 f.c, .bool f.d, .slice a3 n c3]
      obtain ⟨en, hen, S5⟩ := (S4.pick 3 rfl).openF
      have hel : en.length = j := by rw [← List.length_map (·.2), hen, List.length_take]; omega
      have O5 := Lib.hid (S5.ownX 0 rfl)
      have Hm1 : Hid (en.length + 1 ≤ maxLen) := Lib.hid (by unfold maxLen; omega)
      have Hm2 : Hid ((en.length + 1) * 40 ≤ 140737488355328) := Lib.hid (by omega)
      have R4 := Lib.hid (Reads.of_blk (n := 1) (size := 3) (S4.blk 0 rfl) rfl)
      have HS5 := Lib.hid S5
      have HS4 := Lib.hid S4
      have Hen := Lib.hid hen
      clear q0 q1 q2 S3 S4 S5 hen hel
      go_wp2_with (
        at_builtin
        refine wpList_append_x rfl (.tmp 17) (.tmp 20) 55 rfl 48 i48 _ 3 40 Try.underlying55 Hi.out Hz0.out Hz1.out Hz2.out rfl (Nat.succ_pos 2) _ _ (entC en) rfl O5.out (w3.heap.size + 1) (some ⟨w3.heap.size, 0, none⟩) 1 1 (f.cells (.slice a3 n c3)) rfl R4.out (cells_one _ _ _ _) Hm1.out Hm2.out ?_
        intro v5 w5 hown5 hg5 hat5
        have S6 := HS5.out.pushedX 0 rfl hown5 hg5 hat5
        clear hown5 hg5 hat5)
      go_roundw
      case measure => simp [intOf]; omega
      case rel =>
        refine ⟨j + 1, hlt, by go_num, ?_⟩
        rw [take_next fs j f hjf Hf.out]
        have S7 := (S6.perm (midB _ _ _ _ _ _))
        exact ((fl_push Hen.out S7).drop 1).drop 1
    · obtain rfl : j = m := by omega
      have hf : decide ((j : Int) < (j : Int)) = false := decide_eq_false (by omega)
      go_wp2_with fail
      go_ret
      refine ⟨_, rfl, ?_⟩
      rw [List.take_of_length_le (by have := Hln.out; omega), ← HL.out] at hS
      exact hM.out _ _ hS
/-- Flights, whatever there is -/
theorem flights_any {g : Nat} {fs : List Fl} {k : Int} (hm2 : fs.length ≤ 1000) (hl : ∀ f ∈ fs, f.b.length ≤ 1000000) (i : Nat) (hi : L[i]? = some (NetAt g fs k)) (hS : Sep w0 w L) :
    Calls Try.prog 36 #[.pointer (some ⟨g, 0, none⟩)] w fun en w' => ∃ v, en = .returned v ∧ Sep w0 w' (FlX v fs :: L) :=
  (flights_in g fs k hm2 hl (hS.pick i hi)).mono fun _ _ ⟨v, he, h⟩ => ⟨v, he, h.perm (.cons _ (perm_pick hi))⟩
end
end Go.Proofs.Ytmacmhlimdaemaa.Net
