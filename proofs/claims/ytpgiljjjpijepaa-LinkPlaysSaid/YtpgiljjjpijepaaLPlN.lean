/- What stays of a link and its reference over the acts of a row: LinkPlays' plain part. -/
import Derived.Test.YtpgiljjjpijepaaLRefT
namespace Go.Proofs.Ytpgiljjjpijepaa
theorem RI.tick {e : Nat} {s : LS} {r : RX} (h : RI e s r) : RI e (tickS s) r := by
  obtain ⟨h1, h2, h3, h4, h5, h6, -⟩ := tick_facts h.l
  exact ⟨h1, h4.trans h.got, h.gt, h3.trans h.nx, by rw [h4]; exact h.gl⟩
theorem RI.new (e : Nat) : RI e (newL e) ⟨[], [], 0⟩ :=
  ⟨⟨rfl, Nat.le_refl _, Nat.le_refl _, Nat.le_refl _, by show 0 ≤ 0 + 1024; omega, rfl, Nat.zero_le _, Nat.zero_le _⟩, rfl, Nat.le_refl _, rfl, Nat.zero_le _⟩
/-- at most a bytes were written, at most b came -/
structure RN (e a b : Nat) (s : LS) (r : RX) : Prop where
  i : RI e s r
  all : r.all.length ≤ a
  inn : r.inn.length ≤ b
theorem RN.new (e : Nat) : RN e 0 0 (newL e) ⟨[], [], 0⟩ := ⟨RI.new e, Nat.le_refl _, Nat.le_refl _⟩
theorem RN.mono {e a b a' b' : Nat} {s : LS} {r : RX} (h : RN e a b s r) (ha : a ≤ a') (hb : b ≤ b') : RN e a' b' s r := ⟨h.i, Nat.le_trans h.all ha, Nat.le_trans h.inn hb⟩
theorem RN.tick {e a b : Nat} {s : LS} {r : RX} (h : RN e a b s r) : RN e a b (tickS s) r := ⟨h.i.tick, h.all, h.inn⟩
theorem RN.read {e a b : Nat} {s : LS} {r : RX} (n : Int) (h : RN e a b s r) : RN e a b (readL s n) (refR s r n) := ⟨h.i.read n, h.all, h.inn⟩
theorem RN.write {e a b : Nat} {s : LS} {r : RX} (x : List Nat) (hx : x.length ≤ 400) (h : RN e a b s r) : RN e (a + 400) b (writeS s x) (refW s r x) := by
  have h1 := h.all
  have h2 := h.inn
  refine ⟨h.i.write x, ?_, ?_⟩
  · unfold refW
    split
    · show (r.all ++ x).length ≤ _
      rw [List.length_append]
      omega
    · omega
  · unfold refW
    split
    · exact h2
    · exact h2
theorem refC_len (s : LS) (r : RX) (o : Nat) (d : List Nat) : (refC s r o d).all = r.all ∧ (refC s r o d).inn.length ≤ r.inn.length + d.length := by
  unfold refC
  split
  · exact ⟨rfl, Nat.le_add_right _ _⟩
  · split
    · exact ⟨rfl, Nat.le_add_right _ _⟩
    · split
      · exact ⟨rfl, Nat.le_add_right _ _⟩
      · refine ⟨rfl, ?_⟩
        show (r.inn ++ d.drop (s.next - o)).length ≤ _
        rw [List.length_append, List.length_drop]
        omega
theorem refT_len (s : LS) (r : RX) (p : Pk) : (refT s r p).all = r.all ∧ (refT s r p).inn.length ≤ r.inn.length + p.d.length := by
  unfold refT
  split
  · exact ⟨rfl, Nat.le_add_right _ _⟩
  · split
    · exact ⟨rfl, Nat.le_add_right _ _⟩
    · exact refC_len _ r p.o p.d
theorem RN.take {e a b : Nat} {s : LS} {r : RX} (p : Pk) (hp : p.d.length ≤ 400) (h : RN e a b s r) : RN e a (b + 400) (takeS s p) (refT s r p) := by
  obtain ⟨h1, h2⟩ := refT_len s r p
  have h3 := h.all
  have h4 := h.inn
  exact ⟨h.i.take p, by rw [h1]; exact h3, by omega⟩
/-- what the contracts ask of the link -/
theorem RN.inv {e a b : Nat} {s : LS} {r : RX} (h : RN e a b s r) (ha : a ≤ 1000000) (hb : b ≤ 1000000) :
    Inv s ∧ s.ticks ≤ 1000 ∧ s.most ≤ s.base + s.wait.length ∧ s.wait.length ≤ 1048576 ∧ s.next ≤ 1000000 ∧ s.got.length ≤ 1048576 ∧ r.all.length ≤ 1000000 ∧ r.inn.length ≤ 1000000 := by
  have l := h.i.l
  have h1 := l.wlen
  have h2 := l.lo
  have h3 := l.sm
  have h4 := l.mw
  have h5 := l.tk
  have h6 := h.all
  have h7 := h.inn
  have h8 := h.i.nx
  exact ⟨⟨h2, by omega, l.wl, by omega, by omega, l.win⟩, by omega, by omega, l.wl, by omega, h.i.gl, by omega, by omega⟩
theorem LInv.tick_len {e : Nat} {s : LS} {wr : List Nat} (h : LInv e s wr) : (tickP s).length ≤ 2000 := by
  obtain ⟨-, a2, -, -, -, -, -, -, a9⟩ := late_same s
  have hlo := h.lo
  have h1 := pieces_len 1024 (lateS s) (by omega)
  unfold tickP told
  split
  · split <;> simp
  · omega
/-- what the reference tells of its sizes -/
theorem RI.sizes {e : Nat} {s : LS} {r : RX} (h : RI e s r) : r.gt + s.got.length = r.inn.length ∧ s.base + s.wait.length = r.all.length := by
  have h1 := congrArg List.length h.got
  rw [List.length_drop] at h1
  have h2 := h.gt
  exact ⟨by omega, h.l.wlen⟩
end Go.Proofs.Ytpgiljjjpijepaa
