/- The map of losses: what it holds, as a function. -/
import Derived.Test.YtpgiljjjpijepaaLComU
import Derived.Maps.Own
import Derived.Maps.OwnOps
import Derived.Maps.Views
import Derived.DeepKeys4
import Derived.WideKeyEntry
namespace Go.Proofs.Ytpgiljjjpijepaa
open Go.RowKit
def KV (k : Key) : Value := .agg #[.int .i64 (if k.1 then 1 else 0), .bool k.2.1, .int .u64 (k.2.2 : Int)]
def okK (k : Key) : Prop := k.2.2 < 18446744073709551616
theorem law58 : WideMaps.KeyLaw Try.prog 58 := deep_law_laid (P := Try.prog) (by kernel_rfl) (m := 2) (by omega) (of_decide_eq_true (by kernel_rfl)) (by kernel_rfl) (by rw [Try.underlying58])
theorem keyed58 : Maps.Keyed Try.prog 58 := Maps.Keyed.of_law law58
theorem u64_wf (x : Nat) (h : x < 18446744073709551616) : (Lit.int .u64 (x : Int)).wf = true := by
  simp [Lit.wf, IntKind.min, IntKind.max, IntKind.signed, IntKind.bits]
  omega
theorem key_some (k : Key) (h : okK k) : ∃ l, Go.keyOf Try.prog 58 (KV k) = some l := by
  have hk : Try.prog.keyType 58 = true := by kernel_rfl
  have hc : Try.prog.cellsOf 58 = 3 := by kernel_rfl
  have hc3 : Try.prog.cellsOf 3 = 1 := by kernel_rfl
  have hc4 : Try.prog.cellsOf 4 = 1 := by kernel_rfl
  have hc30 : Try.prog.cellsOf 30 = 1 := by kernel_rfl
  have hf : (KV k).formed Try.prog 58 = true := by
    unfold KV Value.formed
    simp [Try.underlying58, hc]
  obtain ⟨d, hd⟩ : ∃ d, Try.prog.types.size + 1 = d + 1 + 1 := ⟨Try.prog.types.size - 1, by have : 1 ≤ Try.prog.types.size := of_decide_eq_true (by kernel_rfl); omega⟩
  have h1 : Try.prog.keyLits (d + 1) 3 [.int .i64 (if k.1 then 1 else 0)] = some [.int .i64 (if k.1 then 1 else 0)] := by
    simp only [Program.keyLits, Try.underlying3]
    rw [if_pos ⟨trivial, by cases k.1 <;> decide⟩]
  have h2 : Try.prog.keyLits (d + 1) 4 [.bool k.2.1] = some [.bool k.2.1] := by
    simp only [Program.keyLits, Try.underlying4]
  have h3 : Try.prog.keyLits (d + 1) 30 [.int .u64 (k.2.2 : Int)] = some [.int .u64 (k.2.2 : Int)] := by
    simp only [Program.keyLits, Try.underlying30]
    rw [if_pos ⟨trivial, u64_wf _ h⟩]
  have h4 : Try.prog.keyLits (Try.prog.types.size + 1) 58 (KV k).cells.toList = some [.int .i64 (if k.1 then 1 else 0), .bool k.2.1, .int .u64 (k.2.2 : Int)] := by
    rw [hd]
    conv => lhs; unfold Program.keyLits
    simp only [Try.underlying58, hc, KV, Value.cells]
    rw [if_pos ⟨rfl, by kernel_rfl⟩]
    simp [List.mapM_cons, h1, h2, h3, hc3, hc4, hc30]
  unfold Go.keyOf
  rw [Try.underlying58]
  simp only [hk, hf, Bool.and_self, if_true, h4, Option.map_some]
  exact ⟨_, rfl⟩
/-- the datum of a key -/
noncomputable def kl (k : Key) : Lit := (Go.keyOf Try.prog 58 (KV k)).getD (.bool false)
theorem key_is (k : Key) (h : okK k) : Go.keyOf Try.prog 58 (KV k) = some (kl k) := by
  obtain ⟨l, hl⟩ := key_some k h
  unfold kl
  rw [hl]
  rfl
theorem kl_ne {t u : Key} (ht : okK t) (hu : okK u) (h : t ≠ u) : kl t ≠ kl u := by
  intro he
  have h2 := keyed58.inj (key_is t ht) (he ▸ key_is u hu)
  apply h
  obtain ⟨a, b, c⟩ := t
  obtain ⟨a', b', c'⟩ := u
  simp only [KV, Value.agg.injEq, Array.mk.injEq, List.cons.injEq, Value.int.injEq, Value.bool.injEq, true_and, and_true] at h2
  obtain ⟨x1, x2, x3⟩ := h2
  simp only [Prod.mk.injEq]
  refine ⟨?_, x2, by omega⟩
  cases a <;> cases a' <;> simp_all
theorem zero3 (w : World) : (zeroValue 3).run Try.prog w = .ok (.int .i64 0) w := by kernel_rfl
/-- block g is a map of at most n entries that holds M -/
def TMap (w : World) (g n : Nat) (M : Rws) : Prop :=
  ∃ D : DataW Unit, w.ownsMap Try.prog 58 (plainElem Try.prog 3) g n D ∧ Maps.IsMap D ∧ ∀ t, okK t → D.atKey (kl t) (.lit (.int .i64 0)) = .lit (.int .i64 ((M t : Nat) : Int))
section
variable {w w' : World} {g n : Nat} {M : Rws}
theorem TMap.made (w : World) : TMap (w.alloc (.map #[] 0)) w.heap.size 0 (fun _ => 0) :=
  ⟨.map [], World.ownsMap_made _ _ _ _, Maps.isMap_empty, fun _ _ => rfl⟩
theorem TMap.lt (h : TMap w g n M) : g < w.heap.size := by
  obtain ⟨D, h, _⟩ := h
  exact h.lt
theorem TMap.block (h : TMap w g n M) (hb : w'.heap[g]? = w.heap[g]?) : TMap w' g n M := by
  obtain ⟨D, ⟨es, c, h1, r1⟩, r⟩ := h
  exact ⟨D, ⟨es, c, hb.trans h1, r1⟩, r⟩
theorem TMap.look (h : TMap w g n M) (t : Key) (ht : okK t) : (Instr.lookup 56 (.map (some g)) (KV t) false).run Try.prog w = .ok (.int .i64 ((M t : Nat) : Int)) w := by
  obtain ⟨D, hown, _, hat⟩ := h
  obtain ⟨c, hrun, hc, _⟩ := hown.lookup_int keyed58 Try.underlying56 Try.underlying3 (zero3 w) (key_is t ht)
  rw [hat t ht] at hc
  injection hc with hc
  injection hc with _ hc
  rw [hrun, hc]
theorem TMap.put (h : TMap w g n M) (hn : n < maxLen) (t : Key) (ht : okK t) (v : Nat) (hv : v ≤ 9223372036854775807) :
    ∃ w', (Instr.mapUpdate 56 (.map (some g)) (KV t) (.int .i64 (v : Int))).run Try.prog w = .ok () w' ∧ TMap w' g (n + 1) (setR M t v) ∧ w.grownBy w' (some g) := by
  obtain ⟨D, hown, hm, hat⟩ := h
  have hwf : (Lit.int .i64 (v : Int)).wf = true := by
    simp [Lit.wf, IntKind.min, IntKind.max, IntKind.signed, IntKind.bits]
    omega
  obtain ⟨w', hrun, hown', hg⟩ := hown.update keyed58 Try.underlying56 hn (key_is t ht) (plainElem_int Try.underlying3 hwf)
  refine ⟨w', hrun, ⟨_, hown', hm.put _ _, fun u hu => ?_⟩, hg⟩
  by_cases e : u = t
  · subst e
    rw [setR_self]
    exact Maps.atKey_put_same hm (keyed58.key (key_is u ht)) _ _
  · rw [setR_ne _ _ e, Maps.atKey_put_other (kl_ne hu ht e)]
    exact hat u hu
theorem TMap.cong {M' : Rws} (h : TMap w g n M) (he : ∀ t, M' t = M t) : TMap w g n M' := by
  obtain ⟨D, h1, h2, h3⟩ := h
  exact ⟨D, h1, h2, fun t ht => by rw [he]; exact h3 t ht⟩
theorem TMap.more {n' : Nat} (h : TMap w g n M) (hn : n ≤ n') : TMap w g n' M := by
  obtain ⟨D, h1, h2, h3⟩ := h
  exact ⟨D, h1.mono hn, h2, h3⟩
/-- 'm[k] += v' in two steps: what lies between them -/
theorem TMap.entry (h : TMap w g n M) (hn : n < maxLen) (t : Key) (ht : okK t) (v : Nat) (hv : v ≤ 9223372036854775807) :
    ∃ v0 st w1 w2, (Instr.mapEntry 56 (.map (some g)) (KV t)).run Try.prog w = .ok (.tuple #[v0, .int .i64 st]) w1 ∧ (Instr.entryStore 56 (.map (some g)) (.int .i64 st) (.int .i64 (v : Int))).run Try.prog w1 = .ok () w2 ∧ TMap w2 g (n + 1) (setR M t v) ∧ w.grownBy w2 (some g) ∧
      TMap w1 g (n + 1) M ∧ w.grownBy w1 (some g) := by
  obtain ⟨w3, hup, hT, hg⟩ := h.put hn t ht v hv
  obtain ⟨w4, hup4, hT4, hg4⟩ := h.put hn t ht 0 (by omega)
  have hlk := h.look t ht
  have h0 := h
  obtain ⟨D, ⟨es, clock, hb, F, -, -⟩, -⟩ := h
  obtain ⟨v0, st, es1, clock1, h1, -, h3⟩ := WideElems.entry_then_store law58 Try.underlying56 zero3 hb F (key_is t ht)
  obtain ⟨es2, clock2, h4, h5⟩ := h3 (ChangeMaps.setBlock w g (.map es1 clock1)) (.int .i64 (v : Int)) (ChangeMaps.heap_setBlock_same hb _)
  rw [hup] at h5
  injection h5 with _ h5
  refine ⟨v0, st, _, _, h1, h4, ?_, ?_, ?_, ?_⟩
  · refine hT.block ?_
    rw [h5, ChangeMaps.heap_setBlock_same hb, ChangeMaps.heap_setBlock_same (ChangeMaps.heap_setBlock_same hb _)]
  · rw [h5] at hg
    refine ⟨rfl, rfl, rfl, by simp [ChangeMaps.setBlock], fun i hi hne => ?_⟩
    have hgi : i ≠ g := fun e => hne (by rw [e])
    rw [ChangeMaps.heap_setBlock_other (ChangeMaps.heap_setBlock_same hb _) _ hgi, ChangeMaps.heap_setBlock_other hb _ hgi]
  · rcases law58.find w (key_is t ht) es.toList F.keys with ⟨k1, k2⟩ | ⟨j, e0, k1, k2, k3⟩
    · have r1 : (Instr.mapEntry 56 (.map (some g)) (KV t)).run Try.prog w = .ok (.tuple #[.int .i64 0, goInt clock]) (ChangeMaps.setBlock w g (.map (es.push ⟨KV t, .int .i64 0, clock⟩) (clock + 1))) := by
        simp [Instr.mapEntry, run_underlying Try.underlying56, MapKept.run_getObj_map hb, law58.check w false (key_is t ht), k1, MapKept.run_setObj_map _ hb, Result.andThen, ChangeMaps.setBlock]
      have r2 : (Instr.mapUpdate 56 (.map (some g)) (KV t) (.int .i64 ((0 : Nat) : Int))).run Try.prog w = .ok () (ChangeMaps.setBlock w g (.map (es.push ⟨KV t, .int .i64 0, clock⟩) (clock + 1))) := by
        simp [Instr.mapUpdate, run_underlying Try.underlying56, MapKept.run_getObj_map hb, law58.check w false (key_is t ht), k1, MapKept.run_setObj_map _ hb, Result.andThen, ChangeMaps.setBlock]
      have r3 : (Instr.lookup 56 (.map (some g)) (KV t) false).run Try.prog w = .ok (.int .i64 0) w := by
        simp [Instr.lookup, run_underlying Try.underlying56, MapKept.run_getObj_map hb, law58.check w _ (key_is t ht), k1, Result.andThen]
      rw [r1] at h1
      injection h1 with _ h1
      rw [← h1]
      rw [r2] at hup4
      injection hup4 with _ hup4
      rw [hup4]
      rw [r3] at hlk
      injection hlk with hlk
      injection hlk with _ hlk
      refine hT4.cong fun u => ?_
      by_cases hu : u = t
      · subst hu
        rw [setR_self]
        omega
      · rw [setR_ne _ _ hu]
    · have hj : es[j]? = some e0 := by simpa using k2
      have hsame : es.modify j (fun e => { e with key := KV t }) = es := by
        apply Array.ext'
        rw [Array.toList_modify, ChangeMaps.modify_eq_set _ _ _ _ k2]
        have : ({ e0 with key := KV t } : MapEntry) = e0 := by rw [← k3]
        rw [this]
        exact WideElems.set_self _ _ _ k2
      have r1 : (Instr.mapEntry 56 (.map (some g)) (KV t)).run Try.prog w = .ok (.tuple #[e0.val, goInt e0.born]) (ChangeMaps.setBlock w g (.map es clock)) := by
        simp [Instr.mapEntry, run_underlying Try.underlying56, MapKept.run_getObj_map hb, law58.check w false (key_is t ht), k1, hj, k3, law58.stays w (key_is t ht), hsame, MapKept.run_setObj_map _ hb, Result.andThen, ChangeMaps.setBlock]
      rw [r1] at h1
      injection h1 with _ h1
      rw [← h1]
      exact (h0.block (by rw [ChangeMaps.heap_setBlock_same hb, hb])).more (Nat.le_succ _)
  · exact ⟨rfl, rfl, rfl, by simp [ChangeMaps.setBlock], fun i hi hne => ChangeMaps.heap_setBlock_other hb _ (fun e => hne (by rw [e]))⟩
end
/-- the map at g, as an assertion -/
def mapA (g n : Nat) (M : Rws) : Asn :=
  ⟨fun F w => TMap w g n M ∧ ∀ k, F k ↔ k = g, fun h hk => ⟨h.1.block (hk _ ((h.2 _).2 rfl)), h.2⟩, fun h k hk => (h.2 k).1 hk ▸ h.1.lt⟩
section
variable {w0 w w' : World} {L : List Asn} {g n : Nat} {M : Rws}
theorem Sep.tmap (h : Sep w0 w L) (i : Nat) (hi : L[i]? = some (mapA g n M)) : TMap w g n M := by
  obtain ⟨F, hA, _⟩ := h.get i hi
  exact hA.1
theorem Sep.mapMade (h : Sep w0 w L) : Sep w0 (w.alloc (.map #[] 0)) (mapA w.heap.size 0 (fun _ => 0) :: L) :=
  (h.growMore ((Below.refl _ _).alloc (Nat.le_refl _) _) (Bs := [mapA w.heap.size 0 (fun _ => 0)]) ⟨fun k => k = w.heap.size, ⟨TMap.made _, fun _ => Iff.rfl⟩, fun k hk => by omega, trivial⟩).perm (List.perm_append_singleton _ _)
theorem Sep.mapPut {n' : Nat} {M' : Rws} (h : Sep w0 w L) (i : Nat) (hi : L[i]? = some (mapA g n M)) (hT : TMap w' g n' M') (hg : w.grownBy w' (some g)) : Sep w0 w' (L.set i (mapA g n' M')) := by
  obtain ⟨F, hA, hF, hup⟩ := h.step i hi
  have hFg : F g := (hA.2 g).2 rfl
  exact hup w' (mapA g n' M') (fun k => k = g) ⟨hg.os, hg.tape, hg.output, hg.size, fun k hk hn => hg.block k hk fun e => by
    injection e with e
    subst e
    exact hn hFg⟩ ⟨hT, fun _ => Iff.rfl⟩ fun k hk => by
    subst hk
    exact .inl hFg
end
end Go.Proofs.Ytpgiljjjpijepaa
