/- A drawn region in the round of a range over a function: as anywhere, where nothing in it is deferred. -/
import Derived.Test.YtpgiljjjpijepaaLPieces
namespace Go.Proofs.Ytpgiljjjpijepaa
open Go.RowKit
section
variable {P : Program} {ops : Array Oper} {md : Region.Mode} {n l i : Nat} {Q : Exit → Act → World → Prop}
def noDefer (ops : Array Oper) : Bool := ops.all fun o => match o.op with | .defer _ => false | _ => true
theorem noDefer_spec (h : noDefer ops = true) {i : Nat} {o : Oper} (hi : ops[i]? = some o) : ∀ c, o.op ≠ .defer c := by
  intro c hc
  obtain ⟨hlt, he⟩ := Array.getElem?_eq_some_iff.1 hi
  have h1 := Array.all_eq_true.1 h i hlt
  rw [he, hc] at h1
  cases h1
theorem rows_wide {row : String} {args : Array Value} {w : World} {R : Value → World → Prop} (h : Rows P row args w R) : RowsIn (Fence.wide.inRound l) n P row args w R :=
  fun c cs _ => let ⟨v, w', r, s⟩ := h c cs; ⟨v, w', r, stepsIn_wide.2 s⟩
theorem upon_round {o : Oper} {a : Act} {K K' : Act → World → Prop} (hK : ∀ a w, K a w → K' a w) : ∀ {r : Result Next}, o.upon P a K Q r → o.uponIn (Fence.wide.inRound l) n P a K' Q r := by
  intro r h
  rcases r with ⟨r, w'⟩ | ⟨r, w'⟩
  · cases r with
    | value v => exact hK _ _ h
    | skip => exact hK _ _ h
    | «defer» d => exact hK _ _ h
    | enter f args =>
      refine ⟨(fun h => by cases h), (CallsIn.inRound l (callsIn_wide.2 h)).mono ?_⟩
      rintro (v | c | _) w h
      · exact hK _ _ h
      · exact h
      · exact h
    | row row args => exact ⟨(fun h => by cases h), (rows_wide h).mono fun v w h => hK _ _ h⟩
    | _ => exact h.elim
  · cases r <;> exact h
theorem wpOp_round (hd : noDefer ops = true) (hQ : ¬ LetsOut Q) {i : Nat} {a : Act} {w : World} {K K' : Act → World → Prop} (hK : ∀ a w, K a w → K' a w) (h : wpOp P ops Q i K a w) : wpOpIn (Fence.wide.inRound l) n P ops Q i K' a w := by
  unfold wpOp at h
  unfold wpOpIn
  cases hi : ops[i]? with
  | none => rw [hi] at h; exact hK _ _ h
  | some o =>
    rw [hi] at h
    simp only at h ⊢
    by_cases hw : Region.wanted o (yielded ops a.tmps) = true
    · rw [if_pos hw] at h ⊢
      rcases h with h | ⟨_, h⟩
      · refine ⟨fun _ _ => trivial, ?_⟩
        rw [Oper.semAt_eq _ _ _ (noDefer_spec hd hi)]
        exact upon_round hK h
      · exact absurd h hQ
    · rw [if_neg hw] at h ⊢
      exact ⟨fun _ _ => trivial, hK _ _ h⟩
theorem wpAny_round (hd : noDefer ops = true) (hQ : ¬ LetsOut Q) : ∀ (fuel : Nat) (listed : Array Bool) (a : Act) (w : World), wpAny P md ops Q fuel listed a w → wpAnyIn (Fence.wide.inRound l) n P md ops Q fuel listed a w
  | 0, _, _, _, h => h
  | fuel + 1, _, _, _, h => ⟨h.1, fun i hi => wpOp_round hd hQ (fun a w h => wpAny_round hd hQ fuel _ a w h) (h.2 i hi)⟩
/-- whatever order is picked; S holds behind each operation of the set B -/
def Under (P : Program) (ops : Array Oper) (Q : Exit → Act → World → Prop) (S : World → Prop) (B : Nat → Bool) : Nat → Array Bool → Act → World → Prop
  | 0, ls, a, w => Region.ready .any ops ls = [] ∧ Q .normal a w
  | k + 1, ls, a, w => (Region.ready .any ops ls = [] → Q .normal a w) ∧ ∀ j ∈ Region.ready .any ops ls, wpOp P ops Q j (fun a' w' => (B j = true → S w → S w') ∧ Under P ops Q S B k (ls.setIfInBounds j true) a' w') a w
/-- j waits for i, by way of others -/
def waitsT (ops : Array Oper) : Nat → Nat → Nat → Bool
  | 0, _, _ => false
  | f + 1, j, i => Region.waitsFor .any ops j i || (List.range ops.size).any fun k => Region.waitsFor .any ops j k && waitsT ops f k i
/-- who is not in B waits for i -/
def outWaits (ops : Array Oper) (B : Nat → Bool) (i : Nat) : Bool := (List.range ops.size).all fun j => B j || waitsT ops 8 j i
/-- whom the listed ones wait for are listed -/
def Closed (ops : Array Oper) (ls : Array Bool) : Prop := ∀ j oj, ops[j]? = some oj → ls.getD j false = true → ∀ e ∈ oj.after, Region.binds .any e = true → ls.getD e.on false = true
def closedB (ops : Array Oper) (ls : Array Bool) : Bool := (List.range ops.size).all fun j => !ls.getD j false || match ops[j]? with | some o => o.after.all fun e => !Region.binds .any e || ls.getD e.on false | none => true
theorem closedB_spec {ls : Array Bool} (h : closedB ops ls = true) : Closed ops ls := by
  intro j oj hj hl e he hb
  have hlt := (Array.getElem?_eq_some_iff.1 hj).1
  have h1 := List.all_eq_true.1 h j (List.mem_range.2 hlt)
  simp only [hj, hl, Bool.not_true, Bool.false_or] at h1
  have h2 := Array.all_eq_true'.1 h1 e he
  simpa [hb] using h2
theorem Closed.set {ls : Array Bool} (hc : Closed ops ls) {i : Nat} (hi : i ∈ Region.ready .any ops ls) : Closed ops (ls.setIfInBounds i true) := by
  intro j oj hj hl e he hb
  apply getD_set_true
  by_cases hij : i = j
  · subst hij
    obtain ⟨-, ok, hk, hall⟩ := mem_ready.1 hi
    rw [hj] at hk
    injection hk with hk
    subst hk
    exact hall e he hb
  · rw [getD_set_ne false hij] at hl
    exact hc j oj hj hl e he hb
theorem waits_in {ls : Array Bool} (hc : Closed ops ls) {i : Nat} : ∀ (f j : Nat) (oj : Oper), ops[j]? = some oj → (∀ e ∈ oj.after, Region.binds .any e = true → ls.getD e.on false = true) → waitsT ops f j i = true → ls.getD i false = true
  | 0, _, _, _, _, h => by cases h
  | f + 1, j, oj, hj, hall, h => by
    have one : ∀ k, Region.waitsFor .any ops j k = true → ls.getD k false = true := by
      intro k hk
      obtain ⟨ok, h1, e, he, hb, hx⟩ := Region.waitsFor_spec hk
      rw [hj] at h1
      injection h1 with h1
      subst h1
      rw [← hx]
      exact hall e he hb
    simp only [waitsT, Bool.or_eq_true] at h
    rcases h with h | h
    · exact one i h
    · obtain ⟨k, hk, h⟩ := List.any_eq_true.1 h
      simp only [Bool.and_eq_true] at h
      obtain ⟨ok, hok⟩ : ∃ o, ops[k]? = some o := ⟨_, Array.getElem?_eq_getElem (List.mem_range.1 hk)⟩
      exact waits_in hc f k ok hok (hc k ok hok (one k h.1)) h.2
section
variable {S : World → Prop} {B : Nat → Bool}
theorem under_any : ∀ (k : Nat) (ls : Array Bool) (a : Act) (w : World), Under P ops Q S B k ls a w → wpAny P .any ops Q k ls a w
  | 0, _, _, _, h => h
  | k + 1, _, _, _, h => ⟨h.1, fun j hj => wpOp_mono (fun a w hk => under_any k _ a w hk.2) (h.2 j hj)⟩
theorem out_in (hB : outWaits ops B i = true) {ls : Array Bool} (hc : Closed ops ls) (hi : ls.getD i false = false) {j : Nat} {oj : Oper} (hj : ops[j]? = some oj) (hall : ∀ e ∈ oj.after, Region.binds .any e = true → ls.getD e.on false = true) : B j = true := by
  have hlt := (Array.getElem?_eq_some_iff.1 hj).1
  have h := List.all_eq_true.1 hB j (List.mem_range.2 hlt)
  rw [Bool.or_eq_true] at h
  rcases h with h | h
  · exact h
  · have := waits_in hc 8 j oj hj hall h
    rw [hi] at this
    cases this
theorem under_take {i : Nat} {oi : Oper} {v : Value} (hi : ops[i]? = some oi) (hsel : Region.noSelect ops = true) (hB : outWaits ops B i = true) (hQ : ∀ c a w, Q (.panic c) (a.put oi.dst v) w → Q (.panic c) a w) :
    ∀ (k : Nat) (ls : Array Bool) (a : Act) (w : World), closedB ops ls = true → Region.free .any ops ls i = true → (Region.ready .any ops ls).contains i = true → YieldsIf P ops S oi v a → S w →
      Under P ops Q S B k (ls.setIfInBounds i true) (a.put oi.dst v) w → Under P ops Q S B (k + 1) ls a w := by
  suffices H : ∀ (k : Nat) (ls : Array Bool) (a : Act) (w : World), Closed ops ls → (∀ j oj, ops[j]? = some oj → j ≠ i → ls.getD j true = false → (∀ e ∈ oj.after, Region.binds .any e = true → e.on ≠ i) → oi.apart ops oj = true) → i ∈ Region.ready .any ops ls → YieldsIf P ops S oi v a → S w →
      Under P ops Q S B k (ls.setIfInBounds i true) (a.put oi.dst v) w → Under P ops Q S B (k + 1) ls a w from
    fun k ls a w hc hf hr => H k ls a w (closedB_spec hc) (Region.free_spec hi hf) (by simpa using hr)
  intro k
  induction k with
  | zero =>
    intro ls a w _ _ hr hy hS hU
    refine ⟨fun h0 => by (rw [h0] at hr; cases hr), fun j hj => ?_⟩
    by_cases hij : j = i
    · subst hij
      exact hy.wpOp hi hS ⟨fun _ _ => hS, hU⟩
    · have hm := ready_mono hj hij
      rw [hU.1] at hm
      cases hm
  | succ k ih =>
    intro ls a w hc hap hr hy hS hU
    refine ⟨fun h0 => by (rw [h0] at hr; cases hr), fun j hj => ?_⟩
    by_cases hij : j = i
    · subst hij
      exact hy.wpOp hi hS ⟨fun _ _ => hS, hU⟩
    obtain ⟨hun, oj, hoj, hdone⟩ := mem_ready.1 hj
    have free : ∀ e ∈ oj.after, Region.binds .any e = true → e.on ≠ i := by
      intro e he hb hei
      have hl := hdone e he hb
      rw [hei, getD_both (mem_ready.1 hr).1] at hl
      cases hl
    have step := wpOp_putIf hoj (hap j oj hoj hij hun free) (fun cs b => Region.noSelect_spec hsel i oi cs b hi) (fun cs b => Region.noSelect_spec hsel j oj cs b hoj) hQ hy (hU.2 j (ready_mono hj hij))
    refine wpOp_mono (fun a' w' hk => ⟨hk.2.1, ih _ a' w' (hc.set hj) ?_ (ready_mono hr (Ne.symm hij)) hk.1 (hk.2.1 (out_in hB hc (getD_both (mem_ready.1 hr).1) hoj hdone) hS) ?_⟩) step
    · intro x ox hx hxi hxu hxn
      refine hap x ox hx hxi ?_ hxn
      by_cases hjx : j = x
      · subst hjx
        exact hun
      · rwa [getD_set_ne true hjx] at hxu
    · rw [Array.setIfInBounds_comm _ _ hij]
      exact hk.2.2
/-- an operation that yields its value in whatever world -/
theorem under_free {i : Nat} {oi : Oper} {v : Value} (hi : ops[i]? = some oi) (hsel : Region.noSelect ops = true) (hQ : ∀ c a w, Q (.panic c) (a.put oi.dst v) w → Q (.panic c) a w) :
    ∀ (k : Nat) (ls : Array Bool) (a : Act) (w : World), Region.free .any ops ls i = true → (Region.ready .any ops ls).contains i = true → YieldsIf P ops (fun _ => True) oi v a →
      Under P ops Q S B k (ls.setIfInBounds i true) (a.put oi.dst v) w → Under P ops Q S B (k + 1) ls a w := by
  suffices H : ∀ (k : Nat) (ls : Array Bool) (a : Act) (w : World), (∀ j oj, ops[j]? = some oj → j ≠ i → ls.getD j true = false → (∀ e ∈ oj.after, Region.binds .any e = true → e.on ≠ i) → oi.apart ops oj = true) → i ∈ Region.ready .any ops ls → YieldsIf P ops (fun _ => True) oi v a →
      Under P ops Q S B k (ls.setIfInBounds i true) (a.put oi.dst v) w → Under P ops Q S B (k + 1) ls a w from
    fun k ls a w hf hr => H k ls a w (Region.free_spec hi hf) (by simpa using hr)
  intro k
  induction k with
  | zero =>
    intro ls a w _ hr hy hU
    refine ⟨fun h0 => by (rw [h0] at hr; cases hr), fun j hj => ?_⟩
    by_cases hij : j = i
    · subst hij
      exact hy.wpOp hi trivial ⟨fun _ h => h, hU⟩
    · have hm := ready_mono hj hij
      rw [hU.1] at hm
      cases hm
  | succ k ih =>
    intro ls a w hap hr hy hU
    refine ⟨fun h0 => by (rw [h0] at hr; cases hr), fun j hj => ?_⟩
    by_cases hij : j = i
    · subst hij
      exact hy.wpOp hi trivial ⟨fun _ h => h, hU⟩
    obtain ⟨hun, oj, hoj, hdone⟩ := mem_ready.1 hj
    have free : ∀ e ∈ oj.after, Region.binds .any e = true → e.on ≠ i := by
      intro e he hb hei
      have hl := hdone e he hb
      rw [hei, getD_both (mem_ready.1 hr).1] at hl
      cases hl
    have step := wpOp_putIf hoj (hap j oj hoj hij hun free) (fun cs b => Region.noSelect_spec hsel i oi cs b hi) (fun cs b => Region.noSelect_spec hsel j oj cs b hoj) hQ hy (hU.2 j (ready_mono hj hij))
    refine wpOp_mono (fun a' w' hk => ⟨hk.2.1, ih _ a' w' ?_ (ready_mono hr (Ne.symm hij)) hk.1 ?_⟩) step
    · intro x ox hx hxi hxu hxn
      refine hap x ox hx hxi ?_ hxn
      by_cases hjx : j = x
      · subst hjx
        exact hun
      · rwa [getD_set_ne true hjx] at hxu
    · rw [Array.setIfInBounds_comm _ _ hij]
      exact hk.2.2
theorem under_one {i k : Nat} {o : Oper} {ls : Array Bool} {a : Act} {w : World} (hr : Region.ready .any ops ls = [i]) (ho : ops[i]? = some o)
    (h : ∀ K : Act → World → Prop, (∀ a w, (B i = true → S w) → Under P ops Q S B k (ls.setIfInBounds i true) a w → K a w) → if Region.wanted o (yielded ops a.tmps) = true then Oper.wp P o a w K Q else K (a.put o.dst undef) w) : Under P ops Q S B (k + 1) ls a w := by
  refine ⟨fun h0 => by (rw [h0] at hr; cases hr), fun j hj => ?_⟩
  rw [hr] at hj
  have hji : j = i := by simpa using hj
  subst hji
  exact wpOp_step ho fun K hK => h K fun a w hS hU => hK a w ⟨fun hb _ => hS hb, hU⟩
theorem under_done {ls : Array Bool} {a : Act} {w : World} (hr : Region.ready .any ops ls = []) (h : Q .normal a w) : ∀ k, Under P ops Q S B k ls a w
  | 0 => ⟨hr, h⟩
  | _ + 1 => ⟨fun _ => h, by rw [hr]; simp⟩
/-- a drawn region in a round, under a condition on the world -/
theorem round_under {id : Nat} {a : Act} {w : World} (S : World → Prop) (B : Nat → Bool) (hm : P.follows .mixedOrders = true) (hd : noDefer ops = true) (hQ : ¬ LetsOut Q)
    (h : Under P ops Q S B ops.size (Array.replicate ops.size false) a w.drew) : (Code.region id ops true).wpIn (Fence.wide.inRound l) n P Q a w := wpIn_region_any hm (wpAny_round hd hQ _ _ _ _ (under_any _ _ _ _ h))
end
end
end Go.Proofs.Ytpgiljjjpijepaa
