/- Words on memory, more: a list of assertions as one; an assertion for some value; rows whose capacity was cut. -/
import Derived.Test.YtpgiljjjpijepaaSep
namespace Go.Proofs.Ytpgiljjjpijepaa
open Go.RowKit
/-- several assertions on blocks that are apart, as one -/
def bund (L : List Asn) : Asn :=
  ⟨fun F w => Hold w L F ∧ ∀ k, F k → k < w.heap.size ∧ ∃ o, w.heap[k]? = some o, fun {F w w'} h hk => ⟨h.1.keep fun k _ hF => hk k hF, fun k hF => by
    obtain ⟨_, o, ho⟩ := h.2 k hF
    have h2 := (hk k hF).trans ho
    exact ⟨(Array.getElem?_eq_some_iff.1 h2).1, o, h2⟩⟩, fun h k hF => (h.2 k hF).1⟩
/-- an assertion for some value -/
def exA {α : Type} (P : α → Asn) : Asn :=
  ⟨fun F w => ∃ a, (P a).is F w, fun ⟨a, h⟩ hk => ⟨a, (P a).keep h hk⟩, fun ⟨a, h⟩ k hF => (P a).lt h k hF⟩
theorem Hold.split {w : World} : ∀ {L M : List Asn} {D : Nat → Prop}, Hold w (L ++ M) D → ∃ F, Hold w L F ∧ (∀ k, F k → D k ∧ k < w.heap.size) ∧ Hold w M (fun k => D k ∧ ¬ F k)
  | [], _, _, h => ⟨fun _ => False, trivial, fun _ hk => hk.elim, Hold.weaken h fun _ _ hk => ⟨hk, fun h => h⟩⟩
  | A :: L, M, D, ⟨G, hA, hG, hL⟩ => by
    obtain ⟨F, h1, h2, h3⟩ := Hold.split (L := L) hL
    refine ⟨fun k => G k ∨ F k, ⟨G, hA, fun k hk => .inl hk, Hold.weaken h1 fun k _ hk => ⟨.inr hk, (h2 k hk).1.2⟩⟩, fun k hk => ?_, Hold.weaken h3 fun k _ hk => ⟨hk.1.1, fun e => ?_⟩⟩
    · rcases hk with hk | hk
      · exact ⟨hG k hk, A.lt hA k hk⟩
      · exact ⟨(h2 k hk).1.1, (h2 k hk).2⟩
    · rcases e with e | e
      · exact hk.1.2 e
      · exact hk.2 e
section
variable {w0 w w' : World} {L M : List Asn}
theorem Sep.bund (h : Sep w0 w (L ++ M)) : Sep w0 w (bund L :: M) := by
  obtain ⟨F, h1, h2, h3⟩ := h.hold.split
  exact ⟨h.below, F, ⟨h1, fun k hk => ⟨(h2 k hk).2, _, Array.getElem?_eq_getElem (h2 k hk).2⟩⟩, fun k hk => (h2 k hk).1, h3⟩
theorem Sep.unbund (h : Sep w0 w (Go.Proofs.Ytpgiljjjpijepaa.bund L :: M)) : Sep w0 w (L ++ M) := by
  obtain ⟨hb, F, ⟨h1, _⟩, h2, h3⟩ := h
  refine ⟨hb, Hold.weaken (h1.append h3 fun k hk hd => hd.2 hk) fun k _ hk => ?_⟩
  rcases hk with hk | hk
  · exact h2 k hk
  · exact hk.1
theorem Sep.openE {α : Type} {P : α → Asn} (h : Sep w0 w (exA P :: L)) : ∃ a, Sep w0 w (P a :: L) := by
  obtain ⟨hb, F, ⟨a, ha⟩, h2, h3⟩ := h
  exact ⟨a, hb, F, ha, h2, h3⟩
theorem Sep.closeE {α : Type} {P : α → Asn} (a : α) (h : Sep w0 w (P a :: L)) : Sep w0 w (exA P :: L) := by
  obtain ⟨hb, F, ha, h2, h3⟩ := h
  exact ⟨hb, F, ⟨a, ha⟩, h2, h3⟩
end
/-- a row of the call's own; its block may go on behind its capacity -/
def ownsX (w : World) (e : TypeId) (size : Nat) (v : Value) (n : Nat) (xs : List Value) : Prop :=
  xs.length = n * size ∧ ((v = .slice none 0 0 ∧ n = 0) ∨
    ∃ g cap cur, v = .slice (some ⟨g, 0, none⟩) n cap ∧ w.heap[g]? = some (.cells cur e (0, 0)) ∧ n ≤ cap ∧ cap ≤ maxLen ∧ cap * size ≤ cur.size ∧ cur.toList.take (n * size) = xs)
def rowX (e : TypeId) (size : Nat) (v : Value) (n : Nat) (xs : List Value) : Asn :=
  ⟨fun F w => ownsX w e size v n xs ∧ ∀ k, F k ↔ v.ownBlock = some k,
   fun {F w w'} h hk => ⟨by
     rcases h with ⟨⟨h1, ⟨rfl, h2⟩ | ⟨g, cap, cur, rfl, hh, h2⟩⟩, hF⟩
     · exact ⟨h1, .inl ⟨rfl, h2⟩⟩
     · exact ⟨h1, .inr ⟨g, cap, cur, rfl, (hk g ((hF g).2 rfl)).trans hh, h2⟩⟩, h.2⟩,
   fun {F w} h k hk => by
     have hv := (h.2 k).1 hk
     rcases h with ⟨⟨h1, ⟨rfl, h2⟩ | ⟨g, cap, cur, rfl, hh, h2⟩⟩, hF⟩
     · simp [Value.ownBlock] at hv
     · simp only [Value.ownBlock, Option.some.injEq] at hv
       subst hv
       exact (Array.getElem?_eq_some_iff.1 hh).1⟩
theorem ownsX.of_own {w : World} {base : Nat} {e : TypeId} {size : Nat} {v : Value} {n : Nat} {xs : List Value} (h : w.ownsRow base e size v n xs) : ownsX w e size v n xs := by
  refine ⟨h.1, ?_⟩
  rcases h.2 with h | ⟨g, cap, cur, h1, _, h2, h3, h4, h5, h6⟩
  · exact .inl h
  · exact .inr ⟨g, cap, cur, h1, h2, h3, h4, by omega, h6⟩
theorem ownsX.cells {w : World} {e : TypeId} {size : Nat} {v : Value} {n : Nat} {xs : List Value} (h : ownsX w e size v n xs) {g : Nat} (hg : v.ownBlock = some g) : ∀ j u, xs[j]? = some u → w.cell? ⟨g, j, none⟩ = some u := by
  intro j u hu
  rcases h.2 with ⟨rfl, _⟩ | ⟨g', cap, cur, rfl, hh, _, _, _, htake⟩
  · simp [Value.ownBlock] at hg
  · simp only [Value.ownBlock, Option.some.injEq] at hg
    subst hg
    have hb : Blk w g' e cur := hh
    rw [hb.cell j, ← Array.getElem?_toList]
    rw [← htake] at hu
    have hj : j < n * size := by
      have h1 := h.1
      rw [← htake] at h1
      have := (List.getElem?_eq_some_iff.1 hu).1
      rw [List.length_take] at this
      omega
    rwa [List.getElem?_take_of_lt hj] at hu
theorem ownsX.slice {w : World} {e : TypeId} {size : Nat} {v : Value} {n : Nat} {xs : List Value} (h : ownsX w e size v n xs) : ∃ a c, v = .slice a n c ∧ n ≤ c ∧ c ≤ maxLen := by
  rcases h.2 with ⟨rfl, rfl⟩ | ⟨g, cap, cur, rfl, _, h1, h2, _⟩
  · exact ⟨none, 0, rfl, Nat.le_refl _, Nat.zero_le _⟩
  · exact ⟨_, cap, rfl, h1, h2⟩
section
variable {P : Program} (w : World)
/-- append to such a row -/
theorem run_append_x (t ty e : TypeId) (i : TypeInfo) (z : Value) (size bytes : Nat) (ht : P.underlying t = some (.slice e)) (hi : P.info? e = some i) (hz : i.zero = some z)
    (hsize : i.size = size) (hby : i.bytes = bytes) (hzs : z.cells.size = size) (hsz : 0 < size)
    (v : Value) (n : Nat) (xs : List Value) (hown : ownsX w e size v n xs)
    (a : Addr) (m c : Nat) (news : List Value) (hl : news.length = m * size) (hnews : ∀ j u, news[j]? = some u → w.cell? (a.add j) = some u) (h1 : ∀ u ∈ news, u.oneCell' = true)
    (h63 : n + m ≤ maxLen) (hbytes : (n + m) * bytes ≤ 140737488355328) :
    ∃ v' w', (Builtin.append_ #[t, t] ty #[v, .slice (some a) m c]).run P w = .ok v' w' ∧ ownsX w' e size v' (n + m) (xs ++ news) ∧ w.grownBy w' v.ownBlock ∧ (v'.ownBlock = v.ownBlock ∨ v'.ownBlock = some w.heap.size) := by
  rcases hown.2 with ⟨rfl, rfl⟩ | ⟨g, cap, cur, rfl, hg, hnc, hcm, hcs, htake⟩
  · have hx : xs = [] := List.eq_nil_of_length_eq_zero (by simpa using hown.1)
    subst hx
    subst hsize
    obtain ⟨v', w', hr, h2, h3, _, h5⟩ := run_append_own_at (P := P) w 0 t ty e i z i.size bytes ht hi hz rfl hby hzs hsz (.slice none 0 0) 0 [] (World.ownsRow_nil w 0 e _) a m c news hl hnews h1 h63 hbytes (Nat.zero_le _)
    exact ⟨v', w', hr, .of_own h2, h3, h5⟩
  · subst hsize
    subst hby
    have hlen : (xs ++ news).length = (n + m) * i.size := by rw [List.length_append, hown.1, hl, Nat.add_mul]
    by_cases hroom : n + m ≤ cap
    · have hfit : n * i.size + news.length ≤ cur.size := by rw [hl, ← Nat.add_mul]; exact Nat.le_trans (Nat.mul_le_mul_right _ hroom) hcs
      have hr := run_append_room (P := P) w t ty e i ht hi g n cap cur hg a m c news hl hnews h1 hroom hfit
      refine ⟨_, _, hr, ⟨hlen, .inr ⟨g, cap, _, rfl, setRow_heap w g cur _ e _ hg, hroom, hcm, ?_, ?_⟩⟩, ⟨rfl, rfl, rfl, by simp, fun k _ hk => setRow_other w g k _ (fun e => hk (by simp [Value.ownBlock, e]))⟩, Or.inl rfl⟩
      · simp only [List.size_toArray, List.length_append, List.length_take, List.length_drop, Array.length_toList]
        omega
      · rw [htake, ← hlen]
        exact List.take_left
    · have holds : ∀ j u, xs[j]? = some u → w.cell? ((⟨g, 0, none⟩ : Addr).add j) = some u := fun j u hu => by
        have he : (⟨g, 0, none⟩ : Addr).add j = ⟨g, j, none⟩ := by unfold Addr.add; split <;> simp_all
        rw [he]
        exact hown.cells rfl j u hu
      have hsmall : n + m ≤ 9223372036854775807 := by simp only [maxLen] at h63; omega
      have hr := run_append_grow (P := P) w t ty e i z ht hi hz ⟨g, 0, none⟩ n cap xs hown.1 holds a m c news hl hnews (by omega) (by omega) (growslice_fits (by omega) hbytes)
      refine ⟨_, _, hr, ⟨hlen, .inr ⟨w.heap.size, _, _, rfl, heap_alloc_new w.drew _, grownCap_ge w (n + m) cap e, grownCap_le_maxLen w (n + m) cap e h63, ?_, ?_⟩⟩, ⟨rfl, rfl, rfl, by simp, fun k hk _ => Below.heap_alloc w.drew _ k hk⟩, Or.inr rfl⟩
      · have hge := grownCap_ge w (n + m) cap e
        simp only [Array.size_append, List.size_toArray, size_zeroCells, hzs, hown.1, hl, ← Nat.add_mul]
        exact Nat.le_of_eq (by congr 1; omega)
      · simp only [Array.toList_append, List.append_assoc]
        rw [← List.append_assoc, ← hlen]
        exact List.take_left
theorem run_append_x_nil (t ty e : TypeId) (i : TypeInfo) (size : Nat) (ht : P.underlying t = some (.slice e)) (hi : P.info? e = some i)
    (v : Value) (n : Nat) (xs : List Value) (hown : ownsX w e size v n xs) (c : Nat) : (Builtin.append_ #[t, t] ty #[v, .slice none 0 c]).run P w = .ok v w := by
  rcases hown.2 with ⟨rfl, rfl⟩ | ⟨g, cap, cur, rfl, _, hnc, _⟩
  · simp [Builtin.append_, run_underlying ht, sizeOf, typeInfo, hi, Builtin.lenOf, Builtin.firstCells]
  · simp [Builtin.append_, run_underlying ht, sizeOf, typeInfo, hi, Builtin.lenOf, Builtin.firstCells, hnc, storeCells]
theorem run_append_xany (t ty e : TypeId) (i : TypeInfo) (z : Value) (size bytes : Nat) (ht : P.underlying t = some (.slice e)) (hi : P.info? e = some i) (hz : i.zero = some z)
    (hsize : i.size = size) (hby : i.bytes = bytes) (hzs : z.cells.size = size) (hsz : 0 < size)
    (v : Value) (n : Nat) (xs : List Value) (hown : ownsX w e size v n xs)
    (B : Nat) (A : Option Addr) (m c : Nat) (news : List Value) (hr : Reads w B size A m news) (h1 : ∀ u ∈ news, u.oneCell' = true)
    (h63 : n + m ≤ maxLen) (hbytes : (n + m) * bytes ≤ 140737488355328) :
    ∃ v' w', (Builtin.append_ #[t, t] ty #[v, .slice A m c]).run P w = .ok v' w' ∧ ownsX w' e size v' (n + m) (xs ++ news) ∧ w.grownBy w' v.ownBlock ∧
      (v'.ownBlock = v.ownBlock ∨ v'.ownBlock = some w.heap.size) := by
  have hnil : m = 0 → news = [] := fun h => List.eq_nil_of_length_eq_zero (by have := hr.1; rw [h] at this; simpa using this)
  rcases A with _ | ad
  · have hm : m = 0 := by
      rcases Nat.eq_zero_or_pos m with h0 | h0
      · exact h0
      · obtain ⟨ad, h, _⟩ := hr.2 h0
        cases h
    have hn := hnil hm
    subst hm hn
    exact ⟨v, w, run_append_x_nil w t ty e i size ht hi v n xs hown c, by simpa using hown, World.grownBy.refl w _, .inl rfl⟩
  · have hcells : ∀ j u, news[j]? = some u → w.cell? (ad.add j) = some u := by
      intro j u hu
      rcases Nat.eq_zero_or_pos m with h0 | h0
      · have hn := hnil h0
        subst hn
        simp at hu
      · obtain ⟨ad', h, _, hc⟩ := hr.2 h0
        injection h with h
        subst h
        exact hc j u hu
    exact run_append_x w t ty e i z size bytes ht hi hz hsize hby hzs hsz v n xs hown ad m c news hr.1 hcells h1 h63 hbytes
variable {w}
theorem wp_append_x {o : Oper} {a : Act} {K : Act → World → Prop} {Q : Exit → Act → World → Prop} (s x : Operand) (t : TypeId)
    (ho : o.op = .call { callee := .builtin .append, args := #[s, x], argTypes := #[t, t] })
    (e : TypeId) (i : TypeInfo) (z : Value) (size bytes : Nat) (ht : P.underlying t = some (.slice e)) (hi : P.info? e = some i) (hz : i.zero = some z)
    (hsize : i.size = size) (hby : i.bytes = bytes) (hzs : z.cells.size = size) (hsz : 0 < size)
    (v : Value) (n : Nat) (xs : List Value) (hs : a.eval s = v) (hown : ownsX w e size v n xs)
    (B : Nat) (A : Option Addr) (m c : Nat) (news : List Value) (hx : a.eval x = .slice A m c) (hr : Reads w B size A m news) (h1 : ∀ u ∈ news, u.oneCell' = true)
    (h63 : n + m ≤ maxLen) (hbytes : (n + m) * bytes ≤ 140737488355328)
    (h : ∀ v' w', ownsX w' e size v' (n + m) (xs ++ news) → w.grownBy w' v.ownBlock → (v'.ownBlock = v.ownBlock ∨ v'.ownBlock = some w.heap.size) → K (a.put o.dst v') w') : o.wp P a w K Q := by
  obtain ⟨v', w', hrun, h2, h3, h4⟩ := run_append_xany (P := P) w t o.type e i z size bytes ht hi hz hsize hby hzs hsz v n xs hown B A m c news hr h1 h63 hbytes
  unfold Oper.wp execOp
  simp only [ho, resolve, invoke, builtin, Sem.run_bind, Sem.run_pure, Result.andThen_ok, List.map_toArray, List.map_cons, List.map_nil, hs, hx, hrun]
  exact h v' w' h2 h3 h4
theorem step_append_x {ops : Array Oper} {o : Oper} {a : Act} {K : Act → World → Prop} {Q : Exit → Act → World → Prop} {E : Prop} (hgd : o.guard = none) (s x : Operand) (t : TypeId)
    (ho : o.op = .call { callee := .builtin .append, args := #[s, x], argTypes := #[t, t] })
    (e : TypeId) (i : TypeInfo) (z : Value) (size bytes : Nat) (ht : P.underlying t = some (.slice e)) (hi : P.info? e = some i) (hz : i.zero = some z)
    (hsize : i.size = size) (hby : i.bytes = bytes) (hzs : z.cells.size = size) (hsz : 0 < size)
    (v : Value) (n : Nat) (xs : List Value) (hs : a.eval s = v) (hown : ownsX w e size v n xs)
    (B : Nat) (A : Option Addr) (m c : Nat) (news : List Value) (hx : a.eval x = .slice A m c) (hr : Reads w B size A m news) (h1 : ∀ u ∈ news, u.oneCell' = true)
    (h63 : n + m ≤ maxLen) (hbytes : (n + m) * bytes ≤ 140737488355328)
    (h : ∀ v' w', ownsX w' e size v' (n + m) (xs ++ news) → w.grownBy w' v.ownBlock → (v'.ownBlock = v.ownBlock ∨ v'.ownBlock = some w.heap.size) → K (a.put o.dst v') w') :
    if Region.wanted o (yielded ops a.tmps) = true then Oper.wp P o a w K Q else E := by
  have hw : Region.wanted o (yielded ops a.tmps) = true := by simp [Region.wanted, hgd]
  rw [if_pos hw]
  exact wp_append_x s x t ho e i z size bytes ht hi hz hsize hby hzs hsz v n xs hs hown B A m c news hx hr h1 h63 hbytes h
end
end Go.Proofs.Ytpgiljjjpijepaa
