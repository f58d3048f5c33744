/- What Match has made ahead of its loop. -/
import Derived.Test.YtgfjbbjdkmgdjaaTry
import Derived.Laws.MakeOwn
namespace Go.Proofs.Ytgfjbbjdkmgdjaa.Ext
open Go.RowKit Go.Proofs.YtgfjbbjdkmgdjaaW.PrintWords Go.Proofs.Ytgfjbbjdkmgdjaa.Lz
theorem zero_ahd (l : List Nat) (n : Nat) : (List.replicate n (Value.int .i64 0)).toArray = ahd l n 0 := by
  apply Array.ext
  · simp [ahd_size]
  · intro j h1 h2
    have h2' : j < n := by rw [ahd_size] at h2; exact h2
    apply Option.some.inj
    rw [← Array.getElem?_eq_getElem, ← Array.getElem?_eq_getElem, ahd_get _ _ _ _ h2']
    simp [h2']
theorem made_ahd {w : World} {base g n : Nat} (l : List Nat) (h : w.ownsRow base 3 1 (.slice (some ⟨g, 0, none⟩) n n) n (madeCells (Value.int .i64 0).cells (n * 1)).toList) : Blk w g 3 (ahd l n 0) := by
  rcases h.2 with ⟨h0, _⟩ | ⟨g', cap, cur, hv, _, hg, _, _, hc, ht⟩
  · cases h0
  · injection hv with h1 h2 h3
    injection h1 with h1
    injection h1 with h1
    subst h1
    subst h3
    rw [show (Value.int .i64 0).cells = #[Value.int .i64 0] from rfl, toList_madeCells_one, Nat.mul_one, List.take_of_length_le (by simp; omega)] at ht
    have hcur : cur = ahd l n 0 := by rw [← zero_ahd, ← ht]
    rw [hcur] at hg
    exact hg
/-- the blocks of the call: the bytes' variable, the map's, the map, the row of places, its variable -/
structure Own (A : Option Addr) (n c : Nat) (l : List Nat) (g1 gm g4 gs g5 km a : Nat) (W : World) : Prop where
  b1 : Blk W g1 22 #[.slice A n c]
  b4 : Blk W g4 38 #[.map (some gm)]
  m : TMap W gm km (lastF l a)
  bs : Blk W gs 3 (ahd l n a)
  b5 : Blk W g5 39 #[.slice (some ⟨gs, 0, none⟩) n n]
theorem Own.keep {A : Option Addr} {n c : Nat} {l : List Nat} {g1 gm g4 gs g5 km a : Nat} {W W' : World} (h : Own A n c l g1 gm g4 gs g5 km a W) (hb : ∀ k, k < W.heap.size → k = g1 ∨ k = gm ∨ k = g4 ∨ k = gs ∨ k = g5 → W'.heap[k]? = W.heap[k]?) : Own A n c l g1 gm g4 gs g5 km a W' :=
  ⟨(hb _ h.b1.lt (.inl rfl)).trans h.b1, (hb _ h.b4.lt (.inr (.inr (.inl rfl)))).trans h.b4, h.m.block (hb _ h.m.lt (.inr (.inl rfl))), (hb _ h.bs.lt (.inr (.inr (.inr (.inl rfl))))).trans h.bs, (hb _ h.b5.lt (.inr (.inr (.inr (.inr rfl))))).trans h.b5⟩
theorem Own.below {A : Option Addr} {n c : Nat} {l : List Nat} {g1 gm g4 gs g5 km a : Nat} {W W' : World} (h : Own A n c l g1 gm g4 gs g5 km a W) (hb : Below W.heap.size W W') : Own A n c l g1 gm g4 gs g5 km a W' := h.keep fun k hk _ => hb.block k hk
theorem Own.far {A : Option Addr} {n c : Nat} {l : List Nat} {g1 gm g4 gs g5 km a : Nat} {W : World} (h : Own A n c l g1 gm g4 gs g5 km a W) {p : Addr} (h1 : p.block ≠ g1) (h2 : p.block ≠ gm) (h3 : p.block ≠ g4) (h4 : p.block ≠ gs) (h5 : p.block ≠ g5) (u : Value) : Own A n c l g1 gm g4 gs g5 km a (W.setCell p u) :=
  h.keep fun k _ hk => Below.heap_setCell W p u k (by rcases hk with h | h | h | h | h <;> subst h <;> (intro e; subst e; contradiction))
theorem start (A : Option Addr) (n c : Nat) (l : List Nat) (w w1 : World)
    (hown : w1.ownsRow w.heap.size 3 1 (.slice (some ⟨w.heap.size + 1 + 1 + 1, 0, none⟩) n n) n (madeCells (Value.int .i64 0).cells (n * 1)).toList)
    (hg : (((w.alloc (.cells #[.slice A n c] 22)).alloc (.map #[] 0)).alloc (.cells #[.map (some (w.heap.size + 1))] 38)).grownBy w1 none) :
    Own A n c l w.heap.size (w.heap.size + 1) (w.heap.size + 1 + 1) (w.heap.size + 1 + 1 + 1) w1.heap.size 0 0 ((w1.alloc (.cells #[.slice (some ⟨w.heap.size + 1 + 1 + 1, 0, none⟩) n n] 39)).alloc (.cells #[.int .i64 0] 3)) ∧
    Blk ((w1.alloc (.cells #[.slice (some ⟨w.heap.size + 1 + 1 + 1, 0, none⟩) n n] 39)).alloc (.cells #[.int .i64 0] 3)) (w1.heap.size + 1) 3 #[.int .i64 0] ∧
    Below w.heap.size w ((w1.alloc (.cells #[.slice (some ⟨w.heap.size + 1 + 1 + 1, 0, none⟩) n n] 39)).alloc (.cells #[.int .i64 0] 3)) ∧ w.heap.size + 1 + 1 + 1 < w1.heap.size := by
  have k1 : Blk (w.alloc (.cells #[.slice A n c] 22)) w.heap.size 22 #[.slice A n c] := Blk.new _ _ _
  have z1 : (w.alloc (.cells #[.slice A n c] 22)).heap.size = w.heap.size + 1 := World.size_alloc _ _
  have km := TMap.made (w.alloc (.cells #[.slice A n c] 22))
  rw [z1] at km
  have z2 : ((w.alloc (.cells #[.slice A n c] 22)).alloc (.map #[] 0)).heap.size = w.heap.size + 1 + 1 := by rw [World.size_alloc, z1]
  have k4 := Blk.new ((w.alloc (.cells #[.slice A n c] 22)).alloc (.map #[] 0)) 38 #[.map (some (w.heap.size + 1))]
  rw [z2] at k4
  have z3 : (((w.alloc (.cells #[.slice A n c] 22)).alloc (.map #[] 0)).alloc (.cells #[.map (some (w.heap.size + 1))] 38)).heap.size = w.heap.size + 1 + 1 + 1 := by rw [World.size_alloc, z2]
  have e1 := ((k1.alloc (.map #[] 0)).alloc (.cells #[.map (some (w.heap.size + 1))] 38)).grown hg (by simp)
  have em := (km.alloc (.cells #[.map (some (w.heap.size + 1))] 38)).kept hg (by simp)
  have e4 := k4.grown hg (by simp)
  have es := made_ahd l hown
  have hsz := hg.size
  rw [z3] at hsz
  have hlt := es.lt
  have e5 := Blk.new w1 39 #[.slice (some ⟨w.heap.size + 1 + 1 + 1, 0, none⟩) n n]
  have z5 : (w1.alloc (.cells #[.slice (some ⟨w.heap.size + 1 + 1 + 1, 0, none⟩) n n] 39)).heap.size = w1.heap.size + 1 := World.size_alloc _ _
  have ea := Blk.new (w1.alloc (.cells #[.slice (some ⟨w.heap.size + 1 + 1 + 1, 0, none⟩) n n] 39)) 3 #[.int .i64 0]
  rw [z5] at ea
  refine ⟨⟨(e1.alloc _).alloc _, (e4.alloc _).alloc _, ((em.alloc _).alloc _).cong (fun _ => rfl), (es.alloc _).alloc _, e5.alloc _⟩, ea, ?_, hlt⟩
  have b3 : Below w.heap.size w (((w.alloc (.cells #[.slice A n c] 22)).alloc (.map #[] 0)).alloc (.cells #[.map (some (w.heap.size + 1))] 38)) :=
    (((Below.refl _ _).alloc (Nat.le_refl _) _).alloc (by omega) _).alloc (by omega) _
  exact (((b3.grown hg (by omega) (by simp)).alloc (by omega) _).alloc (by omega) _)
end Go.Proofs.Ytgfjbbjdkmgdjaa.Ext
