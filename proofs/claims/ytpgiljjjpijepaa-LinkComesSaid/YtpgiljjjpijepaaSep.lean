/- Words on memory, more: what is known of memory as a list of assertions on blocks that are apart; a step that writes the blocks of one leaves all others. -/
import Derived.Test.YtpgiljjjpijepaaWords
import Derived.Laws.Tables
import Derived.Laws.Rows
namespace Go.Proofs.Ytpgiljjjpijepaa
open Go.RowKit
theorem Blk.some_ {w : World} {g : Nat} {t : TypeId} {cs : Array Value} (h : Blk w g t cs) (i : Nat) (hi : i < cs.size) : ∃ v, w.cell? ⟨g, i, none⟩ = some v := ⟨_, h.at_ i (Array.getElem?_eq_getElem hi)⟩
theorem Reads.of_blk {w : World} {g : Nat} {t : TypeId} {cs : Array Value} {n size : Nat} (h : Blk w g t cs) (hn : cs.size = n * size) : Reads w (g + 1) size (some ⟨g, 0, none⟩) n cs.toList := by
  refine ⟨by simpa using hn, fun _ => ⟨_, rfl, Nat.lt_succ_self g, fun j u hu => ?_⟩⟩
  have he : (⟨g, 0, none⟩ : Addr).add j = ⟨g, j, none⟩ := by unfold Addr.add; split <;> simp_all
  rw [he, h.cell j, ← Array.getElem?_toList]
  exact hu
/-- an assertion: what holds of the blocks of a footprint -/
structure Asn where
  is : (Nat → Prop) → World → Prop
  keep : ∀ {F : Nat → Prop} {w w' : World}, is F w → (∀ k, F k → w'.heap[k]? = w.heap[k]?) → is F w'
  lt : ∀ {F : Nat → Prop} {w : World}, is F w → ∀ k, F k → k < w.heap.size
def Asn.emp : Asn := ⟨fun F _ => ∀ k, ¬ F k, fun h _ => h, fun h k hk => absurd hk (h k)⟩
/-- blocks outside F, and the streams, are as they were -/
structure Only (F : Nat → Prop) (w w' : World) : Prop where
  os : w'.os = w.os
  tape : w'.tape = w.tape
  output : w'.output = w.output
  size : w.heap.size ≤ w'.heap.size
  block : ∀ k, k < w.heap.size → ¬ F k → w'.heap[k]? = w.heap[k]?
theorem Only.refl (F : Nat → Prop) (w : World) : Only F w w := ⟨rfl, rfl, rfl, Nat.le_refl _, fun _ _ _ => rfl⟩
theorem Only.trans {F : Nat → Prop} {a b c : World} (h : Only F a b) (k : Only F b c) : Only F a c :=
  ⟨k.os.trans h.os, k.tape.trans h.tape, k.output.trans h.output, Nat.le_trans h.size k.size, fun i hi hn => (k.block i (Nat.lt_of_lt_of_le hi h.size) hn).trans (h.block i hi hn)⟩
theorem Only.mono {F G : Nat → Prop} {w w' : World} (h : Only F w w') (hG : ∀ k, F k → G k) : Only G w w' := ⟨h.os, h.tape, h.output, h.size, fun k hk hn => h.block k hk fun hf => hn (hG k hf)⟩
theorem Only.of_below {w w' : World} (h : Below w.heap.size w w') (F : Nat → Prop) : Only F w w' := ⟨h.os, h.tape, h.output, h.size, fun k hk _ => h.block k hk⟩
/-- a second step may write what the first one made -/
theorem Only.trans_new {F G : Nat → Prop} {a b c : World} (h : Only F a b) (k : Only G b c) (hG : ∀ i, G i → F i ∨ a.heap.size ≤ i) : Only F a c :=
  ⟨k.os.trans h.os, k.tape.trans h.tape, k.output.trans h.output, Nat.le_trans h.size k.size, fun i hi hn => (k.block i (Nat.lt_of_lt_of_le hi h.size) fun hg => by
    rcases hG i hg with hf | hf
    · exact hn hf
    · omega).trans (h.block i hi hn)⟩
theorem Only.of_grown {w w' : World} {row : Option Nat} (h : w.grownBy w' row) : Only (fun k => row = some k) w w' := ⟨h.os, h.tape, h.output, h.size, fun k hk hn => h.block k hk fun e => hn e.symm⟩
theorem Only.below {F : Nat → Prop} {w w' : World} {B : Nat} (h : Only F w w') (hF : ∀ k, F k → B ≤ k) (hB : B ≤ w.heap.size) : Below B w w' := ⟨h.os, h.tape, h.output, h.size, fun k hk => h.block k (by omega) fun hf => by have := hF k hf; omega⟩
theorem Only.drew {F : Nat → Prop} {a w : World} (h : Only F a w) : Only F a w.drew := ⟨h.os, h.tape, h.output, h.size, h.block⟩
theorem Only.drewN {F : Nat → Prop} {a w : World} (h : Only F a w) (n : Nat) : Only F a (w.drewN n) := ⟨h.os, h.tape, h.output, h.size, h.block⟩
theorem Only.alloc {F : Nat → Prop} {a w : World} (h : Only F a w) (o : Obj) : Only F a (w.alloc o) :=
  ⟨h.os, h.tape, h.output, Nat.le_trans h.size (by simp), fun k hk hn => (Below.heap_alloc w o k (Nat.lt_of_lt_of_le hk h.size)).trans (h.block k hk hn)⟩
theorem Only.setCell {F : Nat → Prop} {a w : World} (h : Only F a w) {p : Addr} (hp : F p.block ∨ a.heap.size ≤ p.block) (u : Value) : Only F a (w.setCell p u) :=
  ⟨h.os, h.tape, h.output, by simpa [World.setCell] using h.size, fun k hk hn => (Below.heap_setCell w p u k (by
    rintro rfl
    rcases hp with hp | hp
    · exact hn hp
    · omega)).trans (h.block k hk hn)⟩
/-- assertions on blocks that are apart, all within D -/
def Hold (w : World) : List Asn → (Nat → Prop) → Prop
  | [], _ => True
  | A :: L, D => ∃ F, A.is F w ∧ (∀ k, F k → D k) ∧ Hold w L (fun k => D k ∧ ¬ F k)
theorem Hold.weaken {w : World} : ∀ {L : List Asn} {D D' : Nat → Prop}, Hold w L D → (∀ k, k < w.heap.size → D k → D' k) → Hold w L D'
  | [], _, _, _, _ => trivial
  | A :: _, _, _, ⟨F, hA, hF, hL⟩, hD => ⟨F, hA, fun k hk => hD k (A.lt hA k hk) (hF k hk), Hold.weaken hL fun k hl h => ⟨hD k hl h.1, h.2⟩⟩
theorem Hold.keep {w w' : World} : ∀ {L : List Asn} {D : Nat → Prop}, Hold w L D → (∀ k, k < w.heap.size → D k → w'.heap[k]? = w.heap[k]?) → Hold w' L D
  | [], _, _, _ => trivial
  | A :: _, _, ⟨F, hA, hF, hL⟩, h => ⟨F, A.keep hA fun k hk => h k (A.lt hA k hk) (hF k hk), hF, Hold.keep hL fun k hl hk => h k hl hk.1⟩
theorem Hold.append {w : World} : ∀ {L M : List Asn} {D E : Nat → Prop}, Hold w L D → Hold w M E → (∀ k, D k → E k → False) → Hold w (L ++ M) (fun k => D k ∨ E k)
  | [], _, _, _, _, hM, _ => Hold.weaken hM fun _ _ h => .inr h
  | A :: _, M, D, E, ⟨F, hA, hF, hL⟩, hM, hd => ⟨F, hA, fun k hk => .inl (hF k hk), by
      have h := Hold.append hL hM (fun k h1 h2 => hd k h1.1 h2)
      exact Hold.weaken h fun k _ hk => by
        rcases hk with hk | hk
        · exact ⟨.inl hk.1, hk.2⟩
        · exact ⟨.inr hk, fun hf => hd k (hF k hf) hk⟩⟩
/-- the i-th assertion may be turned, with what is new -/
theorem Hold.focus {w : World} {A : Asn} : ∀ {L : List Asn} {D : Nat → Prop} {i : Nat}, Hold w L D → L[i]? = some A →
    ∃ F, A.is F w ∧ (∀ k, F k → D k) ∧ ∀ (w' : World) (B : Asn) (F' : Nat → Prop), (∀ k, k < w.heap.size → ¬ F k → w'.heap[k]? = w.heap[k]?) → B.is F' w' → (∀ k, F' k → F k ∨ w.heap.size ≤ k) →
      Hold w' (L.set i B) (fun k => D k ∨ (F' k ∧ w.heap.size ≤ k)) ∧ ∀ E : Nat → Prop, (∀ k, E k → ¬ F' k ∧ (F k ∨ w.heap.size ≤ k)) → ∃ D' : Nat → Prop, Hold w' (L.set i B) D' ∧ (∀ k, D' k → D k ∨ F' k) ∧ ∀ k, D' k → ¬ E k := by
  intro L
  induction L with
  | nil => intro D i _ h; simp at h
  | cons A0 L ih =>
    intro D i hH hi
    obtain ⟨F0, hA0, hF0, hL⟩ := hH
    rcases i with _ | i
    · simp only [List.getElem?_cons_zero, Option.some.injEq] at hi
      subst hi
      refine ⟨F0, hA0, hF0, fun w' B F' hk hB hF' => ?_⟩
      have hrest : Hold w' L (fun k => D k ∧ ¬ F0 k) := Hold.keep hL fun k hl hd => hk k hl hd.2
      have hrest2 : Hold w' L (fun k => D k ∧ ¬ F0 k ∧ k < w.heap.size) := by
        have h1 := Hold.weaken hL (D' := fun k => D k ∧ ¬ F0 k ∧ k < w.heap.size) fun k hl hd => ⟨hd.1, hd.2, hl⟩
        exact Hold.keep h1 fun k hl hd => hk k hl hd.2.1
      refine ⟨⟨F', hB, fun k hk' => ?_, Hold.weaken hrest2 fun k _ hd => ⟨.inl hd.1, fun hf => ?_⟩⟩, fun E hE => ⟨fun k => F' k ∨ (D k ∧ ¬ F0 k ∧ k < w.heap.size), ⟨F', hB, fun k hk' => .inl hk', Hold.weaken hrest2 fun k _ hd => ⟨.inr hd, fun hf => ?_⟩⟩, fun k hk' => ?_, fun k hk' he => ?_⟩⟩
      · rcases hF' k hk' with h | h
        · exact .inl (hF0 k h)
        · exact .inr ⟨hk', h⟩
      · rcases hF' k hf with h | h
        · exact hd.2.1 h
        · have := hd.2.2; omega
      · rcases hF' k hf with h | h
        · exact hd.2.1 h
        · have := hd.2.2; omega
      · rcases hk' with h | h
        · exact .inr h
        · exact .inl h.1
      · rcases hk' with h | h
        · exact (hE k he).1 h
        · rcases (hE k he).2 with h2 | h2
          · exact h.2.1 h2
          · have := h.2.2; omega
    · simp only [List.getElem?_cons_succ] at hi
      obtain ⟨F, hA, hF, hup⟩ := ih hL hi
      refine ⟨F, hA, fun k hk => (hF k hk).1, fun w' B F' hk hB hF' => ?_⟩
      have hA0' : A0.is F0 w' := A0.keep hA0 fun k hk0 => hk k (A0.lt hA0 k hk0) fun hf => (hF k hf).2 hk0
      obtain ⟨h1, h2⟩ := hup w' B F' hk hB hF'
      refine ⟨⟨F0, hA0', fun k hk0 => .inl (hF0 k hk0), Hold.weaken h1 fun k _ hd => ?_⟩, fun E hE => ?_⟩
      · rcases hd with hd | hd
        · exact ⟨.inl hd.1, hd.2⟩
        · exact ⟨.inr hd, fun h0 => by have := A0.lt hA0 k h0; omega⟩
      · obtain ⟨D', hD', hsub, hno⟩ := h2 E hE
        refine ⟨fun k => D' k ∨ F0 k, ⟨F0, hA0', fun k hk0 => .inr hk0, Hold.weaken hD' fun k _ hd => ⟨.inl hd, fun h0 => ?_⟩⟩, fun k hk' => ?_, fun k hk' he => ?_⟩
        · rcases hsub k hd with h | h
          · exact h.2 h0
          · rcases hF' k h with hf | hf
            · exact (hF k hf).2 h0
            · have := A0.lt hA0 k h0; omega
        · rcases hk' with h | h
          · rcases hsub k h with h | h
            · exact .inl h.1
            · exact .inr h
          · exact .inl (hF0 k h)
        · rcases hk' with h | h
          · exact hno k h he
          · rcases (hE k he).2 with h2 | h2
            · exact (hF k h2).2 h
            · have := A0.lt hA0 k h; omega
/-- since w0: nothing that was there has turned; the assertions hold of new blocks, apart from one another -/
structure Sep (w0 w : World) (L : List Asn) : Prop where
  below : Below w0.heap.size w0 w
  hold : Hold w L (fun k => w0.heap.size ≤ k)
section
variable {w0 w w' : World} {L : List Asn}
theorem Sep.start (w : World) : Sep w w [] := ⟨Below.refl _ _, trivial⟩
theorem Sep.size (h : Sep w0 w L) : w0.heap.size ≤ w.heap.size := h.below.size
/-- the i-th is turned: B in its place; what else came is laid at the end -/
theorem Sep.step {A : Asn} (h : Sep w0 w L) (i : Nat) (hi : L[i]? = some A) : ∃ F, A.is F w ∧ (∀ k, F k → w0.heap.size ≤ k) ∧
    ∀ (w' : World) (B : Asn) (F' : Nat → Prop), Only F w w' → B.is F' w' → (∀ k, F' k → F k ∨ w.heap.size ≤ k) → Sep w0 w' (L.set i B) := by
  obtain ⟨F, hA, hF, hup⟩ := h.hold.focus hi
  refine ⟨F, hA, hF, fun w' B F' ho hB hF' => ⟨h.below.trans (ho.below hF h.size), ?_⟩⟩
  exact Hold.weaken (hup w' B F' ho.block hB hF').1 fun k _ hk => by
    rcases hk with hk | hk
    · exact hk
    · have := h.size; omega
theorem Sep.stepMore {A : Asn} (h : Sep w0 w L) (i : Nat) (hi : L[i]? = some A) : ∃ F, A.is F w ∧ (∀ k, F k → w0.heap.size ≤ k) ∧
    ∀ (w' : World) (B : Asn) (F' : Nat → Prop) (Bs : List Asn), Only F w w' → B.is F' w' → (∀ k, F' k → F k ∨ w.heap.size ≤ k) → Hold w' Bs (fun k => (F k ∨ w.heap.size ≤ k) ∧ ¬ F' k) → Sep w0 w' (L.set i B ++ Bs) := by
  obtain ⟨F, hA, hF, hup⟩ := h.hold.focus hi
  refine ⟨F, hA, hF, fun w' B F' Bs ho hB hF' hBs => ⟨h.below.trans (ho.below hF h.size), ?_⟩⟩
  obtain ⟨D', hD', hsub, hno⟩ := (hup w' B F' ho.block hB hF').2 (fun k => (F k ∨ w.heap.size ≤ k) ∧ ¬ F' k) fun k hk => ⟨hk.2, hk.1⟩
  exact Hold.weaken (hD'.append hBs fun k h1 h2 => hno k h1 h2) fun k _ hk => by
    have hz := h.size
    rcases hk with hk | hk
    · rcases hsub k hk with h1 | h1
      · exact h1
      · rcases hF' k h1 with h2 | h2
        · exact hF k h2
        · show w0.heap.size ≤ k; omega
    · rcases hk.1 with h1 | h1
      · exact hF k h1
      · show w0.heap.size ≤ k; omega
/-- nothing that was there has turned -/
theorem Sep.grow (h : Sep w0 w L) (hb : Below w.heap.size w w') : Sep w0 w' L :=
  ⟨h.below.trans (hb.mono h.size), h.hold.keep fun k hk _ => hb.block k hk⟩
theorem Sep.growMore (h : Sep w0 w L) (hb : Below w.heap.size w w') {Bs : List Asn} (hBs : Hold w' Bs (fun k => w.heap.size ≤ k)) : Sep w0 w' (L ++ Bs) := by
  refine ⟨h.below.trans (hb.mono h.size), ?_⟩
  have h1 := (Hold.weaken h.hold (D' := fun k => w0.heap.size ≤ k ∧ k < w.heap.size) fun k hl hd => ⟨hd, hl⟩).keep fun k hk _ => hb.block k hk
  exact Hold.weaken (h1.append hBs fun k h1 h2 => by omega) fun k _ hk => by
    have := h.size
    rcases hk with hk | hk
    · exact hk.1
    · show w0.heap.size ≤ k; omega
theorem Sep.drew (h : Sep w0 w L) : Sep w0 w.drew L := ⟨h.below.drew, h.hold.keep fun _ _ _ => rfl⟩
theorem Sep.drewN (h : Sep w0 w L) (n : Nat) : Sep w0 (w.drewN n) L := ⟨⟨h.below.os, h.below.tape, h.below.output, h.below.size, h.below.block⟩, h.hold.keep fun _ _ _ => rfl⟩
theorem Sep.get {A : Asn} (h : Sep w0 w L) (i : Nat) (hi : L[i]? = some A) : ∃ F, A.is F w ∧ ∀ k, F k → w0.heap.size ≤ k := by
  obtain ⟨F, h1, h2, _⟩ := h.step i hi
  exact ⟨F, h1, h2⟩
theorem Hold.drop {w : World} : ∀ {L : List Asn} {D : Nat → Prop} (i : Nat), Hold w L D → Hold w (L.eraseIdx i) D
  | [], _, _, _ => trivial
  | _ :: _, _, 0, ⟨_, _, _, hL⟩ => Hold.weaken hL fun _ _ h => h.1
  | _ :: _, _, i + 1, ⟨F, hA, hF, hL⟩ => ⟨F, hA, hF, Hold.drop i hL⟩
theorem Sep.drop (h : Sep w0 w L) (i : Nat) : Sep w0 w (L.eraseIdx i) := ⟨h.below, h.hold.drop i⟩
theorem Hold.take {w : World} : ∀ {L : List Asn} {D : Nat → Prop} (n : Nat), Hold w L D → Hold w (L.take n) D
  | _, _, 0, _ => by rw [List.take_zero]; trivial
  | [], _, _ + 1, _ => by rw [List.take_nil]; trivial
  | _ :: _, _, n + 1, ⟨F, hA, hF, hL⟩ => ⟨F, hA, hF, Hold.take n hL⟩
theorem Sep.take (h : Sep w0 w L) (n : Nat) : Sep w0 w (L.take n) := ⟨h.below, h.hold.take n⟩
theorem Hold.swap {w : World} {A B : Asn} {D : Nat → Prop} (h : Hold w (A :: B :: L) D) : Hold w (B :: A :: L) D := by
  obtain ⟨F, hA, hF, G, hB, hG, hL⟩ := h
  exact ⟨G, hB, fun k hk => (hG k hk).1, F, hA, fun k hk => ⟨hF k hk, fun hg => (hG k hg).2 hk⟩, Hold.weaken hL fun k _ hk => ⟨⟨hk.1.1, hk.2⟩, hk.1.2⟩⟩
theorem Hold.perm {w : World} {L M : List Asn} (hp : L.Perm M) : ∀ {D : Nat → Prop}, Hold w L D → Hold w M D := by
  induction hp with
  | nil => exact fun h => h
  | cons _ _ ih => exact fun ⟨F, hA, hF, hL⟩ => ⟨F, hA, hF, ih hL⟩
  | swap => exact fun h => h.swap
  | trans _ _ ih1 ih2 => exact fun h => ih2 (ih1 h)
theorem Sep.perm (h : Sep w0 w L) {M : List Asn} (hp : L.Perm M) : Sep w0 w M := ⟨h.below, h.hold.perm hp⟩
/-- what two of them are made of is apart -/
theorem Hold.apart {w : World} {A B : Asn} : ∀ {L : List Asn} {D : Nat → Prop} {i j : Nat}, Hold w L D → i < j → L[i]? = some A → L[j]? = some B → ∃ F G, A.is F w ∧ B.is G w ∧ (∀ k, F k → ¬ G k) ∧ (∀ k, F k → D k) ∧ ∀ k, G k → D k := by
  intro L
  induction L with
  | nil => intro D i j _ _ h; simp at h
  | cons A0 L ih =>
    intro D i j hH hij hi hj
    obtain ⟨F0, hA0, hF0, hL⟩ := hH
    obtain ⟨j, rfl⟩ : ∃ m, j = m + 1 := ⟨j - 1, by omega⟩
    rw [List.getElem?_cons_succ] at hj
    rcases i with _ | i
    · simp only [List.getElem?_cons_zero, Option.some.injEq] at hi
      subst hi
      obtain ⟨G, hB, hG, _⟩ := hL.focus hj
      exact ⟨F0, G, hA0, hB, fun k hf hg => (hG k hg).2 hf, hF0, fun k hg => (hG k hg).1⟩
    · rw [List.getElem?_cons_succ] at hi
      obtain ⟨F, G, h1, h2, h3, h4, h5⟩ := ih hL (by omega) hi hj
      exact ⟨F, G, h1, h2, h3, fun k hk => (h4 k hk).1, fun k hk => (h5 k hk).1⟩
end
/-- a block that is known whole -/
def cell (g : Nat) (t : TypeId) (cs : Array Value) : Asn :=
  ⟨fun F w => Blk w g t cs ∧ ∀ k, F k ↔ k = g, fun h hk => ⟨(hk _ ((h.2 _).2 rfl)).trans h.1, h.2⟩, fun h k hk => (h.2 k).1 hk ▸ h.1.lt⟩
/-- a row of the call's own (nil: none) -/
def row (e : TypeId) (size : Nat) (v : Value) (n : Nat) (xs : List Value) : Asn :=
  ⟨fun F w => w.ownsRow 0 e size v n xs ∧ ∀ k, F k ↔ v.ownBlock = some k,
   fun {F w w'} h hk => ⟨by
     rcases h with ⟨⟨h1, ⟨rfl, h2⟩ | ⟨g, cap, cur, rfl, hg, hh, h2⟩⟩, hF⟩
     · exact ⟨h1, .inl ⟨rfl, h2⟩⟩
     · exact ⟨h1, .inr ⟨g, cap, cur, rfl, hg, (hk g ((hF g).2 rfl)).trans hh, h2⟩⟩, h.2⟩,
   fun h k hk => (h.1.lt k ((h.2 k).1 hk)).2⟩
section
variable {w0 w w' : World} {L : List Asn}
theorem Sep.blk {g : Nat} {t : TypeId} {cs : Array Value} (h : Sep w0 w L) (i : Nat) (hi : L[i]? = some (cell g t cs)) : Blk w g t cs := by
  obtain ⟨F, hA, _⟩ := h.get i hi
  exact hA.1
theorem Sep.blk_ge {g : Nat} {t : TypeId} {cs : Array Value} (h : Sep w0 w L) (i : Nat) (hi : L[i]? = some (cell g t cs)) : w0.heap.size ≤ g := by
  obtain ⟨F, hA, hF⟩ := h.get i hi
  exact hF g ((hA.2 g).2 rfl)
theorem Sep.own {e : TypeId} {size : Nat} {v : Value} {n : Nat} {xs : List Value} (h : Sep w0 w L) (i : Nat) (hi : L[i]? = some (row e size v n xs)) : w.ownsRow 0 e size v n xs := by
  obtain ⟨F, hA, _⟩ := h.get i hi
  exact hA.1
theorem Sep.own_ge {e : TypeId} {size : Nat} {v : Value} {n : Nat} {xs : List Value} (h : Sep w0 w L) (i : Nat) (hi : L[i]? = some (row e size v n xs)) : ∀ k, v.ownBlock = some k → w0.heap.size ≤ k := by
  obtain ⟨F, hA, hF⟩ := h.get i hi
  exact fun k hk => hF k ((hA.2 k).2 hk)
theorem Sep.box (h : Sep w0 w L) (t : TypeId) (cs : Array Value) : Sep w0 (w.alloc (.cells cs t)) (L ++ [cell w.heap.size t cs]) :=
  h.growMore ((Below.refl _ _).alloc (Nat.le_refl _) _) ⟨fun k => k = w.heap.size, ⟨Blk.new _ _ _, fun _ => Iff.rfl⟩, fun k hk => by omega, trivial⟩
theorem Sep.nilRow (h : Sep w0 w L) (e : TypeId) (size : Nat) : Sep w0 w (L ++ [row e size (.slice none 0 0) 0 []]) :=
  h.growMore (Below.refl _ _) ⟨fun _ => False, ⟨World.ownsRow_nil _ _ _ _, fun k => by simp [Value.ownBlock]⟩, fun k hk => hk.elim, trivial⟩
theorem Sep.put {g : Nat} {t : TypeId} {cs : Array Value} (h : Sep w0 w L) (i : Nat) (hi : L[i]? = some (cell g t cs)) (o : Nat) (u : Value) : Sep w0 (w.setCell ⟨g, o, none⟩ u) (L.set i (cell g t (cs.setIfInBounds o u))) := by
  obtain ⟨F, hA, hF, hup⟩ := h.step i hi
  exact hup _ _ F (Only.setCell (p := ⟨g, o, none⟩) (Only.refl F w) (.inl ((hA.2 g).2 rfl)) u) ⟨hA.1.set_ o u, hA.2⟩ fun k hk => .inl hk
theorem Only.setRow {F : Nat → Prop} {a w : World} {g : Nat} (h : Only F a w) (hg : F g ∨ a.heap.size ≤ g) (cs : Array Value) : Only F a (w.setRow g cs) :=
  ⟨h.os, h.tape, h.output, by rw [size_setRow]; exact h.size, fun k hk hn => (setRow_other w g k cs (by
    rintro rfl
    rcases hg with hg | hg
    · exact hn hg
    · omega)).trans (h.block k hk hn)⟩
theorem Blk.setRow {w : World} {g : Nat} {t : TypeId} {cs cs' : Array Value} (h : Blk w g t cs) : Blk (w.setRow g cs') g t cs' := setRow_heap w g cs cs' t (0, 0) h
theorem Sep.setRow {g : Nat} {t : TypeId} {cs : Array Value} (h : Sep w0 w L) (i : Nat) (hi : L[i]? = some (cell g t cs)) (cs' : Array Value) : Sep w0 (w.setRow g cs') (L.set i (cell g t cs')) := by
  obtain ⟨F, hA, hF, hup⟩ := h.step i hi
  exact hup _ _ F ((Only.refl F w).setRow (.inl ((hA.2 g).2 rfl)) cs') ⟨hA.1.setRow, hA.2⟩ fun k hk => .inl hk
theorem Sep.boxed (h : Sep w0 w L) (t : TypeId) (cs : Array Value) : ∃ W, w.alloc (.cells cs t) = W ∧ Sep w0 W (L ++ [cell w.heap.size t cs]) := ⟨_, rfl, h.box t cs⟩
/-- behind an append to a row of its own -/
theorem Sep.pushed {e : TypeId} {size : Nat} {v v' : Value} {n n' : Nat} {xs xs' : List Value} (h : Sep w0 w L) (i : Nat) (hi : L[i]? = some (row e size v n xs)) (hown : w'.ownsRow 0 e size v' n' xs') (hg : w.grownBy w' v.ownBlock)
    (hat : v'.ownBlock = v.ownBlock ∨ v'.ownBlock = some w.heap.size) : Sep w0 w' (L.set i (row e size v' n' xs')) := by
  obtain ⟨F, hA, hF, hup⟩ := h.step i hi
  refine hup _ _ (fun k => v'.ownBlock = some k) ((Only.of_grown hg).mono fun k hk => (hA.2 k).2 hk) ⟨hown, fun _ => Iff.rfl⟩ fun k hk => ?_
  rcases hat with h1 | h1
  · exact .inl ((hA.2 k).2 (h1.symm.trans hk))
  · rw [h1] at hk; injection hk with hk; exact .inr (by omega)
theorem Sep.made {e : TypeId} {size : Nat} {v : Value} {n : Nat} {xs : List Value} (h : Sep w0 w L) (hb : Below w.heap.size w w') (hown : w'.ownsRow 0 e size v n xs) (hge : ∀ k, v.ownBlock = some k → w.heap.size ≤ k) : Sep w0 w' (L ++ [row e size v n xs]) :=
  h.growMore hb ⟨fun k => v.ownBlock = some k, ⟨hown, fun _ => Iff.rfl⟩, fun k hk => hge k hk, trivial⟩
end
/-- one block, by what its cells are like -/
def cellP (g : Nat) (t : TypeId) (φ : Array Value → Prop) : Asn :=
  ⟨fun F w => (∃ cs, Blk w g t cs ∧ φ cs) ∧ ∀ k, F k ↔ k = g, fun ⟨⟨cs, h, hφ⟩, hF⟩ hk => ⟨⟨cs, (hk _ ((hF _).2 rfl)).trans h, hφ⟩, hF⟩, fun h k hk => by obtain ⟨⟨cs, hb, _⟩, hF⟩ := h; exact (hF k).1 hk ▸ hb.lt⟩
/-- a block that holds a row's slice, and the row -/
def objRow (g : Nat) (t : TypeId) (mk : Value → Array Value) (e : TypeId) (size n : Nat) (xs : List Value) : Asn :=
  ⟨fun F w => ∃ v, Blk w g t (mk v) ∧ w.ownsRow 0 e size v n xs ∧ v.ownBlock ≠ some g ∧ ∀ k, F k ↔ k = g ∨ v.ownBlock = some k,
   fun {F w w'} ⟨v, hb, ho, hne, hF⟩ hk => ⟨v, (hk _ ((hF _).2 (.inl rfl))).trans hb, ((row e size v n xs).keep (F := fun k => v.ownBlock = some k) (w := w) ⟨ho, fun _ => Iff.rfl⟩ fun k h => hk k ((hF k).2 (.inr h))).1, hne, hF⟩,
   fun {F w} ⟨v, hb, ho, hne, hF⟩ k hk => by
     rcases (hF k).1 hk with rfl | h
     · exact hb.lt
     · exact (ho.lt k h).2⟩
section
variable {w0 w w' : World} {L : List Asn}
theorem perm_pick {A : Asn} : ∀ {L : List Asn} {i : Nat}, L[i]? = some A → (A :: L.eraseIdx i).Perm L
  | [], _, h => by simp at h
  | x :: L, 0, h => by
    simp only [List.getElem?_cons_zero, Option.some.injEq] at h
    subst h
    exact .refl _
  | x :: L, i + 1, h => by
    rw [List.getElem?_cons_succ] at h
    rw [List.eraseIdx_cons_succ]
    exact (List.Perm.swap x A _).trans (.cons x (perm_pick h))
theorem Sep.pick {A : Asn} (h : Sep w0 w L) (i : Nat) (hi : L[i]? = some A) : Sep w0 w (A :: L.eraseIdx i) := h.perm (perm_pick hi).symm
theorem Sep.back {A B : Asn} {i : Nat} (h : Sep w0 w (B :: L.eraseIdx i)) (hi : L[i]? = some A) : Sep w0 w (L.set i B) := by
  obtain ⟨hl, _⟩ := List.getElem?_eq_some_iff.1 hi
  have h1 : (L.set i B)[i]? = some B := List.getElem?_set_self hl
  have h2 := perm_pick h1
  rw [List.eraseIdx_set_eq] at h2
  exact h.perm h2
theorem Sep.pick2 {A B : Asn} (h : Sep w0 w L) (i j : Nat) (hi : L[i]? = some A) (hj : (L.eraseIdx i)[j]? = some B) : Sep w0 w (A :: B :: (L.eraseIdx i).eraseIdx j) := h.perm ((List.Perm.cons _ (perm_pick hj)).trans (perm_pick hi)).symm
theorem Sep.lay2 {A B C : Asn} {i j : Nat} (h : Sep w0 w (C :: A :: B :: (L.eraseIdx i).eraseIdx j)) (hi : L[i]? = some A) (hj : (L.eraseIdx i)[j]? = some B) : Sep w0 w (C :: L) := h.perm (.cons _ ((List.Perm.cons _ (perm_pick hj)).trans (perm_pick hi)))
theorem Sep.boxF (h : Sep w0 w L) (t : TypeId) (cs : Array Value) : Sep w0 (w.alloc (.cells cs t)) (cell w.heap.size t cs :: L) := (h.box t cs).perm (List.perm_append_singleton _ _)
theorem Sep.boxedF (h : Sep w0 w L) (t : TypeId) (cs : Array Value) : ∃ W, w.alloc (.cells cs t) = W ∧ Sep w0 W (cell w.heap.size t cs :: L) := ⟨_, rfl, h.boxF t cs⟩
theorem Sep.nilRowF (h : Sep w0 w L) (e : TypeId) (size : Nat) : Sep w0 w (row e size (.slice none 0 0) 0 [] :: L) := (h.nilRow e size).perm (List.perm_append_singleton _ _)
theorem Sep.madeF {e : TypeId} {size : Nat} {v : Value} {n : Nat} {xs : List Value} (h : Sep w0 w L) (hb : Below w.heap.size w w') (hown : w'.ownsRow 0 e size v n xs) (hge : ∀ k, v.ownBlock = some k → w.heap.size ≤ k) : Sep w0 w' (row e size v n xs :: L) := (h.made hb hown hge).perm (List.perm_append_singleton _ _)
theorem Sep.swap {A B : Asn} (h : Sep w0 w (A :: B :: L)) : Sep w0 w (B :: A :: L) := h.perm (.swap _ _ _)
theorem Sep.tail {A : Asn} (h : Sep w0 w (A :: L)) : Sep w0 w L := h.drop 0
theorem Sep.openP {g : Nat} {t : TypeId} {φ : Array Value → Prop} (h : Sep w0 w (cellP g t φ :: L)) : ∃ cs, φ cs ∧ Sep w0 w (cell g t cs :: L) := by
  obtain ⟨hb, F, ⟨⟨cs, hc, hφ⟩, hF⟩, hD, hL⟩ := h
  exact ⟨cs, hφ, hb, F, ⟨hc, hF⟩, hD, hL⟩
theorem Sep.closeP {g : Nat} {t : TypeId} {φ : Array Value → Prop} {cs : Array Value} (h : Sep w0 w (cell g t cs :: L)) (hφ : φ cs) : Sep w0 w (cellP g t φ :: L) := by
  obtain ⟨hb, F, ⟨hc, hF⟩, hD, hL⟩ := h
  exact ⟨hb, F, ⟨⟨cs, hc, hφ⟩, hF⟩, hD, hL⟩
theorem Sep.openR {g : Nat} {t : TypeId} {mk : Value → Array Value} {e : TypeId} {size n : Nat} {xs : List Value} (h : Sep w0 w (objRow g t mk e size n xs :: L)) : ∃ v, Sep w0 w (cell g t (mk v) :: row e size v n xs :: L) := by
  obtain ⟨hb, F, ⟨v, hc, ho, hne, hF⟩, hD, hL⟩ := h
  refine ⟨v, hb, fun k => k = g, ⟨hc, fun _ => Iff.rfl⟩, fun k hk => hD k ((hF k).2 (.inl hk)), fun k => v.ownBlock = some k, ⟨ho, fun _ => Iff.rfl⟩, fun k hk => ⟨hD k ((hF k).2 (.inr hk)), fun e => hne (e ▸ hk)⟩, Hold.weaken hL fun k _ hk => ⟨⟨hk.1, fun e => hk.2 ((hF k).2 (.inl e))⟩, fun e => hk.2 ((hF k).2 (.inr e))⟩⟩
theorem Sep.closeR {g : Nat} {t : TypeId} {mk : Value → Array Value} {e : TypeId} {size n : Nat} {xs : List Value} {v : Value} (h : Sep w0 w (cell g t (mk v) :: row e size v n xs :: L)) : Sep w0 w (objRow g t mk e size n xs :: L) := by
  obtain ⟨hb, F, ⟨hc, hF⟩, hD, G, ⟨ho, hG⟩, hDG, hL⟩ := h
  refine ⟨hb, fun k => k = g ∨ v.ownBlock = some k, ⟨v, hc, ho, fun e => (hDG g ((hG g).2 e)).2 ((hF g).2 rfl), fun _ => Iff.rfl⟩, fun k hk => ?_, Hold.weaken hL fun k _ hk => ⟨hk.1.1, fun e => ?_⟩⟩
  · rcases hk with hk | hk
    · exact hD k ((hF k).2 hk)
    · exact (hDG k ((hG k).2 hk)).1
  · rcases e with e | e
    · exact hk.1.2 ((hF k).2 e)
    · exact hk.2 ((hG k).2 e)
/-- a row as the block that it lies in -/
theorem Sep.openRow {e : TypeId} {size n c b : Nat} {xs : List Value} (h : Sep w0 w (row e size (.slice (some ⟨b, 0, none⟩) n c) n xs :: L)) : ∃ cur, xs.length = n * size ∧ n ≤ c ∧ c ≤ maxLen ∧ cur.size = c * size ∧ cur.toList.take (n * size) = xs ∧ Sep w0 w (cell b e cur :: L) := by
  obtain ⟨hb, F, ⟨ho, hF⟩, hD, hL⟩ := h
  obtain ⟨h1, ⟨h2, _⟩ | ⟨g, cap, cur, hv, _, hg, h3, h4, h5, h6⟩⟩ := ho
  · cases h2
  · injection hv with e1 e2 e3
    injection e1 with e1
    injection e1 with e1
    subst e1; subst e3
    exact ⟨cur, h1, h3, h4, h5, h6, hb, F, ⟨hg, fun k => by rw [hF k]; simp only [Value.ownBlock, Option.some.injEq]; exact eq_comm⟩, hD, hL⟩
theorem Sep.closeRow {e : TypeId} {size n c b : Nat} {xs : List Value} {cur : Array Value} (h : Sep w0 w (cell b e cur :: L)) (h1 : xs.length = n * size) (h3 : n ≤ c) (h4 : c ≤ maxLen) (h5 : cur.size = c * size) (h6 : cur.toList.take (n * size) = xs) :
    Sep w0 w (row e size (.slice (some ⟨b, 0, none⟩) n c) n xs :: L) := by
  obtain ⟨hb, F, ⟨hg, hF⟩, hD, hL⟩ := h
  exact ⟨hb, F, ⟨⟨h1, .inr ⟨b, c, cur, rfl, Nat.zero_le _, hg, h3, h4, h5, h6⟩⟩, fun k => by rw [hF k]; simp only [Value.ownBlock, Option.some.injEq]; exact eq_comm⟩, hD, hL⟩
end
end Go.Proofs.Ytpgiljjjpijepaa
