/- Packets that were told, as an assertion: their row, and the rows of their data. -/
import Derived.Test.YtpgiljjjpijepaaLRead
import Derived.Test.YtpgiljjjpijepaaLRange
namespace Go.Proofs.Ytpgiljjjpijepaa
open Go.RowKit
abbrev EntP := Value × Pk
abbrev EntD := Value × List Nat
def Pk.cells (p : Pk) (u : Value) : List Value := [.int .u32 (p.e : Int), .int .u64 (p.o : Int), .int .u64 (p.a : Int), u]
def entP (es : List EntP) : List Value := es.flatMap fun e => e.2.cells e.1
theorem entP_len (es : List EntP) : (entP es).length = es.length * 4 := by
  unfold entP
  induction es with
  | nil => rfl
  | cons x T ih => rw [List.flatMap_cons, List.length_append, ih, List.length_cons]; simp [Pk.cells]; omega
theorem entP_append (es fs : List EntP) : entP (es ++ fs) = entP es ++ entP fs := by simp [entP]
theorem entP_one (u : Value) (p : Pk) : entP [(u, p)] = p.cells u := by simp [entP]
theorem entP_get : ∀ (es : List EntP) (i : Nat) (hi : i < es.length) (j : Nat) (u : Value), (es[i].2.cells es[i].1)[j]? = some u → (entP es)[i * 4 + j]? = some u
  | [], i, hi, _, _, _ => by simp at hi
  | e :: es, 0, _, j, u, h => by
    have hj : j < 4 := by have := (List.getElem?_eq_some_iff.1 h).1; simpa [Pk.cells] using this
    rw [Nat.zero_mul, Nat.zero_add]
    unfold entP
    rw [List.flatMap_cons, List.getElem?_append_left (by simp [Pk.cells]; omega)]
    exact h
  | e :: es, i + 1, hi, j, u, h => by
    have := entP_get es i (by simpa using hi) j u (by simpa using h)
    unfold entP at this ⊢
    rw [List.flatMap_cons, List.getElem?_append_right (by simp [Pk.cells]; omega), show (i + 1) * 4 + j - (Pk.cells e.2 e.1).length = i * 4 + j by simp [Pk.cells]; omega]
    exact this
theorem entP_take (es : List EntP) (m : Nat) : entP (es.take m) = (entP es).take (m * 4) := by
  induction es generalizing m with
  | nil => simp [entP]
  | cons e es ih =>
    have hc : entP (e :: es) = e.2.cells e.1 ++ entP es := by simp [entP]
    rcases m with _ | m
    · simp [entP]
    · have hd : entP (e :: es.take m) = e.2.cells e.1 ++ entP (es.take m) := by simp [entP]
      rw [List.take_succ_cons, hd, hc, ih, List.take_append, show (Pk.cells e.2 e.1).length = 4 by simp [Pk.cells], show (m + 1) * 4 - 4 = m * 4 by omega, List.take_of_length_le (show (Pk.cells e.2 e.1).length ≤ (m + 1) * 4 by rw [show (Pk.cells e.2 e.1).length = 4 from rfl]; omega)]
theorem entP_drop (es : List EntP) (m : Nat) : entP (es.drop m) = (entP es).drop (m * 4) := by
  induction es generalizing m with
  | nil => simp [entP]
  | cons e es ih =>
    have hc : entP (e :: es) = e.2.cells e.1 ++ entP es := by simp [entP]
    rcases m with _ | m
    · simp
    · rw [List.drop_succ_cons, hc, ih, List.drop_append, show (Pk.cells e.2 e.1).length = 4 by simp [Pk.cells], show (m + 1) * 4 - 4 = m * 4 by omega, List.drop_of_length_le (show (Pk.cells e.2 e.1).length ≤ (m + 1) * 4 by rw [show (Pk.cells e.2 e.1).length = 4 from rfl]; omega), List.nil_append]
theorem oneP (u : Value) (hu : u.oneCell' = true) (p : Pk) : ∀ x ∈ p.cells u, x.oneCell' = true := by
  intro x hx
  simp only [Pk.cells, List.mem_cons, List.not_mem_nil, or_false] at hx
  rcases hx with rfl | rfl | rfl | rfl
  · rfl
  · rfl
  · rfl
  · exact hu
/-- a row of data -/
def rowD (d : EntD) : Asn := BRow d.1 d.2
/-- the data of these packets are among those rows -/
def InD (es : List EntP) (ds : List EntD) : Prop := ∀ e ∈ es, (e.1, e.2.d) ∈ ds
def mine (es : List EntP) : List EntD := es.map fun e => (e.1, e.2.d)
theorem InD.mine (es : List EntP) : InD es (mine es) := fun e he => List.mem_map.2 ⟨e, he, rfl⟩
theorem InD.more {es : List EntP} {ds ds' : List EntD} (h : InD es ds) (hs : ∀ d ∈ ds, d ∈ ds') : InD es ds' := fun e he => hs _ (h e he)
/-- a row of packets of the call's own; two packets may have one row of data -/
def PkX (v : Value) (ps : List Pk) : Asn := exA fun x : { x : List EntP × List EntD // x.1.map (·.2) = ps ∧ InD x.1 x.2 } => bund (row 32 4 v x.1.1.length (entP x.1.1) :: x.1.2.map rowD)
/-- packets that can be read -/
def PR (w : World) (A : Option Addr) (ps : List Pk) : Prop :=
  ∃ es : List EntP, es.map (·.2) = ps ∧ Reads w w.heap.size 4 A es.length (entP es) ∧ ∀ e ∈ es, ∃ B c, e.1 = .slice B e.2.d.length c ∧ e.2.d.length ≤ c ∧ c ≤ maxLen ∧ RB w B e.2.d.length e.2.d
section
variable {w0 w w' : World} {L M : List Asn}
theorem Sep.openK {v : Value} {ps : List Pk} (h : Sep w0 w (PkX v ps :: L)) : ∃ (es : List EntP) (ds : List EntD), es.map (·.2) = ps ∧ InD es ds ∧ Sep w0 w (row 32 4 v es.length (entP es) :: (ds.map rowD ++ L)) := by
  obtain ⟨⟨⟨es, ds⟩, hx, hd⟩, h⟩ := h.openE
  exact ⟨es, ds, hx, hd, h.unbund⟩
theorem Sep.closeK {v : Value} {ps : List Pk} {es : List EntP} {ds : List EntD} (hx : es.map (·.2) = ps) (hd : InD es ds) (h : Sep w0 w (row 32 4 v es.length (entP es) :: (ds.map rowD ++ L))) : Sep w0 w (PkX v ps :: L) := by
  have h1 : Sep w0 w ((row 32 4 v es.length (entP es) :: ds.map rowD) ++ L) := h
  exact Sep.closeE (P := fun x : { x : List EntP × List EntD // x.1.map (·.2) = ps ∧ InD x.1 x.2 } => Go.Proofs.Ytpgiljjjpijepaa.bund (row 32 4 v x.1.1.length (entP x.1.1) :: x.1.2.map rowD)) ⟨(es, ds), hx, hd⟩ h1.bund
theorem Sep.nilK (h : Sep w0 w L) : Sep w0 w (PkX (.slice none 0 0) [] :: L) := Sep.closeK (es := []) (ds := []) rfl (fun _ h => by cases h) (h.nilRowF 32 4)
/-- data that are among rows can be read -/
theorem rb_of {ds : List EntD} (h : Sep w0 w (ds.map rowD ++ L)) {u : Value} {d : List Nat} (hm : (u, d) ∈ ds) : ∃ B c, u = .slice B d.length c ∧ d.length ≤ c ∧ c ≤ maxLen ∧ RB w B d.length d := by
  obtain ⟨j, hj, he⟩ := List.getElem_of_mem hm
  exact h.bform j (by rw [List.getElem?_append_left (by simpa using hj), List.getElem?_map, List.getElem?_eq_getElem hj, he]; rfl)
theorem pr_of {v : Value} {es : List EntP} {ds : List EntD} (hd : InD es ds) (h : Sep w0 w (row 32 4 v es.length (entP es) :: (ds.map rowD ++ L))) :
    ∃ A c, v = .slice A es.length c ∧ es.length ≤ c ∧ c ≤ maxLen ∧ PR w A (es.map (·.2)) := by
  have ho := h.own 0 rfl
  obtain ⟨A, c, rfl, h1, h2⟩ := own_slice ho
  exact ⟨A, c, rfl, h1, h2, es, rfl, Reads.of_own ho, fun e he => rb_of h.tail (hd e he)⟩
theorem Sep.pr {v : Value} {ps : List Pk} (h : Sep w0 w L) (i : Nat) (hi : L[i]? = some (PkX v ps)) : ∃ A c, v = .slice A ps.length c ∧ ps.length ≤ c ∧ c ≤ maxLen ∧ PR w A ps := by
  obtain ⟨es, ds, rfl, hd, S⟩ := (h.pick i hi).openK
  have := pr_of hd S
  rwa [List.length_map]
theorem PR.below {A : Option Addr} {ps : List Pk} (h : PR w A ps) (hb : Below w.heap.size w w') : PR w' A ps := by
  obtain ⟨es, h1, h2, h3⟩ := h
  exact ⟨es, h1, ⟨h2.1, fun hn => by obtain ⟨ad, e1, e2, e3⟩ := (h2.below hb).2 hn; exact ⟨ad, e1, Nat.lt_of_lt_of_le e2 hb.size, e3⟩⟩, fun e he => by obtain ⟨B, c, q1, q2, q3, q4⟩ := h3 e he; exact ⟨B, c, q1, q2, q3, q4.below hb⟩⟩
theorem PR.elem {A : Option Addr} {ps : List Pk} (h : PR w A ps) {k : Nat} {p : Pk} (hk : ps[k]? = some p) : ∃ b o B c, A = some ⟨b, o, none⟩ ∧ w.cell? ⟨b, o + k * 4, none⟩ = some (.int .u32 (p.e : Int)) ∧ w.cell? ⟨b, o + k * 4 + 1, none⟩ = some (.int .u64 (p.o : Int)) ∧
    w.cell? ⟨b, o + k * 4 + 2, none⟩ = some (.int .u64 (p.a : Int)) ∧ w.cell? ⟨b, o + k * 4 + 3, none⟩ = some (.slice B p.d.length c) ∧ p.d.length ≤ c ∧ c ≤ maxLen ∧ RB w B p.d.length p.d := by
  obtain ⟨es, rfl, hr, he⟩ := h
  rw [List.getElem?_map] at hk
  obtain ⟨e, he1, rfl⟩ : ∃ e, es[k]? = some e ∧ e.2 = p := by
    cases hq : es[k]? with
    | none => rw [hq] at hk; cases hk
    | some e => rw [hq] at hk; exact ⟨e, rfl, by injection hk⟩
  obtain ⟨hkl, he2⟩ := List.getElem?_eq_some_iff.1 he1
  obtain ⟨b, o, hA, -, hc⟩ := Reads.elem (cells := fun e : EntP => e.2.cells e.1) (fun _ => rfl) (by decide) hr hkl
  rw [he2] at hc
  obtain ⟨B, c, h1, h2, h3, h4⟩ := he e (by rw [← he2]; exact List.getElem_mem hkl)
  refine ⟨b, o, B, c, hA, hc 0 _ rfl, hc 1 _ rfl, hc 2 _ rfl, ?_, h2, h3, h4⟩
  rw [← h1]
  exact hc 3 _ rfl
theorem pk_push {u v' : Value} {es : List EntP} {ds : List EntD} {ps : List Pk} {p : Pk} (hes : es.map (·.2) = ps) (hd : InD es ds) (h : Sep w0 w (BRow u p.d :: row 32 4 v' (es.length + 1) (entP es ++ p.cells u) :: (ds.map rowD ++ M))) : Sep w0 w (PkX v' (ps ++ [p]) :: M) := by
  refine Sep.closeK (es := es ++ [(u, p)]) (ds := (u, p.d) :: ds) (by rw [List.map_append, hes]; rfl) ?_ ?_
  · intro e he
    rw [List.mem_append, List.mem_singleton] at he
    rcases he with he | rfl
    · exact List.mem_cons_of_mem _ (hd e he)
    · exact List.mem_cons_self
  · rw [List.length_append, entP_append, entP_one]
    exact h.perm (List.Perm.swap _ _ _)
end
end Go.Proofs.Ytpgiljjjpijepaa
