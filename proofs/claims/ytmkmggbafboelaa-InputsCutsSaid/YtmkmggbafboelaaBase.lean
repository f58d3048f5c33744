/- Inputs: events, a queue's ring as cells, a gate; in plain words. -/
import Derived.Test.YtmkmggbafboelaaSep
namespace Go.Proofs.Ytmkmggbafboelaa
open Go.RowKit
/-- an input -/
structure Ev where
  k : Int
  x : Int
  y : Int
  c : Int
abbrev Ev.cs (e : Ev) : List Value := [.int .u8 e.k, .int .u16 e.x, .int .u16 e.y, .int .u32 e.c]
abbrev Ev.v (e : Ev) : Value := .agg #[.int .u8 e.k, .int .u16 e.x, .int .u16 e.y, .int .u32 e.c]
abbrev numCs (s : Int) (e : Ev) : List Value := [.int .u32 s, .int .u8 e.k, .int .u16 e.x, .int .u16 e.y, .int .u32 e.c]
abbrev numV (s : Int) (e : Ev) : Value := .agg #[.int .u32 s, .int .u8 e.k, .int .u16 e.x, .int .u16 e.y, .int .u32 e.c]
theorem ev_ext {a b : Ev} (h1 : a.k = b.k) (h2 : a.x = b.x) (h3 : a.y = b.y) (h4 : a.c = b.c) : a = b := by cases a; cases b; simp_all
/-- a queue's cells: a ring of 16 numbered inputs, how many were given, how many are gone -/
structure QRep (cs : Array Value) (all : List Ev) (gone : Nat) : Prop where
  size : cs.size = 82
  given : cs[80]? = some (.int .u32 (all.length : Int))
  away : cs[81]? = some (.int .u32 (gone : Int))
  le : gone ≤ all.length
  room : all.length ≤ gone + 16
  ring : ∀ j (h : j < all.length), gone ≤ j → ∀ f u, (numCs ((j : Int) + 1) all[j])[f]? = some u → cs[(j + 1) % 16 * 5 + f]? = some u
/-- a numbered input laid into five cells -/
def put5 (cs : Array Value) (o : Nat) (s : Int) (e : Ev) : Array Value := ((((cs.setIfInBounds o (.int .u32 s)).setIfInBounds (o + 1) (.int .u8 e.k)).setIfInBounds (o + 2) (.int .u16 e.x)).setIfInBounds (o + 3) (.int .u16 e.y)).setIfInBounds (o + 4) (.int .u32 e.c)
theorem put5_size (cs : Array Value) (o : Nat) (s : Int) (e : Ev) : (put5 cs o s e).size = cs.size := by simp [put5]
theorem put5_out (cs : Array Value) (o k : Nat) (s : Int) (e : Ev) (h : k < o ∨ o + 5 ≤ k) : (put5 cs o s e)[k]? = cs[k]? := by
  unfold put5
  rw [Array.getElem?_setIfInBounds_ne (by omega), Array.getElem?_setIfInBounds_ne (by omega), Array.getElem?_setIfInBounds_ne (by omega), Array.getElem?_setIfInBounds_ne (by omega), Array.getElem?_setIfInBounds_ne (by omega)]
theorem put5_in (cs : Array Value) (o f : Nat) (s : Int) (e : Ev) (h : o + 5 ≤ cs.size) (u : Value) (hu : (numCs s e)[f]? = some u) : (put5 cs o s e)[o + f]? = some u := by
  have hf : f < 5 := by have := (List.getElem?_eq_some_iff.1 hu).1; simpa using this
  unfold put5
  obtain rfl | rfl | rfl | rfl | rfl : f = 0 ∨ f = 1 ∨ f = 2 ∨ f = 3 ∨ f = 4 := by omega
  · rw [Array.getElem?_setIfInBounds_ne (by omega), Array.getElem?_setIfInBounds_ne (by omega), Array.getElem?_setIfInBounds_ne (by omega), Array.getElem?_setIfInBounds_ne (by omega), Nat.add_zero, Array.getElem?_setIfInBounds_self_of_lt (by omega)]; exact hu
  · rw [Array.getElem?_setIfInBounds_ne (by omega), Array.getElem?_setIfInBounds_ne (by omega), Array.getElem?_setIfInBounds_ne (by omega), Array.getElem?_setIfInBounds_self_of_lt (by simp only [Array.size_setIfInBounds]; omega)]; exact hu
  · rw [Array.getElem?_setIfInBounds_ne (by omega), Array.getElem?_setIfInBounds_ne (by omega), Array.getElem?_setIfInBounds_self_of_lt (by simp only [Array.size_setIfInBounds]; omega)]; exact hu
  · rw [Array.getElem?_setIfInBounds_ne (by omega), Array.getElem?_setIfInBounds_self_of_lt (by simp only [Array.size_setIfInBounds]; omega)]; exact hu
  · rw [Array.getElem?_setIfInBounds_self_of_lt (by simp only [Array.size_setIfInBounds]; omega)]; exact hu
/-- behind a Put -/
theorem QRep.put {cs : Array Value} {all : List Ev} {gone r : Nat} (h : QRep cs all gone) (hf : ¬ all.length - gone = 16) (e : Ev) (hr : (all.length + 1) % 16 = r) :
    QRep (put5 (cs.setIfInBounds 80 (.int .u32 ((all.length : Int) + 1))) (r * 5) ((all.length : Int) + 1) e) (all ++ [e]) gone := by
  have hz := h.size
  have hle := h.le
  have hroom := h.room
  have hr16 : r < 16 := by omega
  refine ⟨by rw [put5_size, Array.size_setIfInBounds]; exact hz, ?_, ?_, ?_, ?_, fun j hj hg f u hu => ?_⟩
  · rw [put5_out _ _ _ _ _ (by omega), Array.getElem?_setIfInBounds_self_of_lt (by omega), List.length_append]; rfl
  · rw [put5_out _ _ _ _ _ (by omega), Array.getElem?_setIfInBounds_ne (by omega)]; exact h.away
  · rw [List.length_append]; simp; omega
  · rw [List.length_append]; simp; omega
  · have hf5 : f < 5 := by have := (List.getElem?_eq_some_iff.1 hu).1; simpa using this
    rw [List.length_append, List.length_cons, List.length_nil] at hj
    by_cases e1 : j = all.length
    · subst e1
      rw [List.getElem_append_right (Nat.le_refl _)] at hu
      simp only [Nat.sub_self, List.getElem_cons_zero] at hu
      rw [hr]
      exact put5_in _ _ _ _ _ (by rw [Array.size_setIfInBounds]; omega) u hu
    · have hj' : j < all.length := by omega
      rw [List.getElem_append_left hj'] at hu
      have hne : (j + 1) % 16 ≠ r := by omega
      rw [put5_out _ _ _ _ _ (by omega), Array.getElem?_setIfInBounds_ne (by omega)]
      exact h.ring j hj' hg f u hu
/-- behind a Drop -/
theorem QRep.drop {cs : Array Value} {all : List Ev} {gone : Nat} (h : QRep cs all gone) (m : Nat) (hm : m ≤ all.length) : QRep (cs.setIfInBounds 81 (.int .u32 ((max gone m : Nat) : Int))) all (max gone m) := by
  have hz := h.size
  have hle := h.le
  have hroom := h.room
  refine ⟨by rw [Array.size_setIfInBounds]; exact hz, ?_, ?_, by omega, by omega, fun j hj hg f u hu => ?_⟩
  · rw [Array.getElem?_setIfInBounds_ne (by omega)]; exact h.given
  · rw [Array.getElem?_setIfInBounds_self_of_lt (by omega)]
  · have hf5 : f < 5 := by have := (List.getElem?_eq_some_iff.1 hu).1; simpa using this
    rw [Array.getElem?_setIfInBounds_ne (by omega)]
    exact h.ring j hj (by omega) f u hu
theorem QRep.zero {cs : Array Value} (hz : cs.size = 82) (h1 : cs[80]? = some (.int .u32 0)) (h2 : cs[81]? = some (.int .u32 0)) : QRep cs [] 0 :=
  ⟨hz, h1, h2, Nat.le_refl _, by simp, fun j hj => by simp at hj⟩
/-- the queue at block g -/
def QAt (g : Nat) (all : List Ev) (gone : Nat) : Asn := cellP g 31 (QRep · all gone)
/-- the gate at block g: how many came in -/
def GAt (g : Nat) (n : Nat) : Asn := cell g 33 #[.int .u32 (n : Int)]
def evsC (l : List Ev) : List Value := l.flatMap Ev.cs
theorem evsC_len (l : List Ev) : (evsC l).length = l.length * 4 := by induction l with
  | nil => rfl
  | cons a l ih => simp only [evsC, List.flatMap_cons, List.length_append] at *; rw [ih]; simp; omega
theorem evsC_snoc (l : List Ev) (e : Ev) : evsC (l ++ [e]) = evsC l ++ e.cs := by simp [evsC]
theorem evsC_get : ∀ (l : List Ev) (i : Nat) (h : i < l.length) (f : Nat) (u : Value), (l[i].cs)[f]? = some u → (evsC l)[i * 4 + f]? = some u
  | a :: l, 0, _, f, u, hu => by
    have hf : f < 4 := by have := (List.getElem?_eq_some_iff.1 hu).1; simpa using this
    simp only [evsC, List.flatMap_cons, Nat.zero_mul, Nat.zero_add]
    rw [List.getElem?_append_left (by simpa using hf)]
    exact hu
  | a :: l, i + 1, h, f, u, hu => by
    simp only [evsC, List.flatMap_cons]
    rw [List.getElem?_append_right (by simp; omega)]
    have := evsC_get l i (by simpa using h) f u (by simpa using hu)
    simp only [evsC] at this
    rw [← this]
    congr 1
    simp
    omega
/-- numbered inputs, one behind the other -/
def numsC (l : List (Int × Ev)) : List Value := l.flatMap fun p => numCs p.1 p.2
theorem numsC_len (l : List (Int × Ev)) : (numsC l).length = l.length * 5 := by induction l with
  | nil => rfl
  | cons a l ih => simp only [numsC, List.flatMap_cons, List.length_append] at *; rw [ih]; simp; omega
theorem numsC_snoc (l : List (Int × Ev)) (s : Int) (e : Ev) : numsC (l ++ [(s, e)]) = numsC l ++ numCs s e := by simp [numsC]
theorem numsC_get : ∀ (l : List (Int × Ev)) (i : Nat) (h : i < l.length) (f : Nat) (u : Value), (numCs l[i].1 l[i].2)[f]? = some u → (numsC l)[i * 5 + f]? = some u
  | a :: l, 0, _, f, u, hu => by
    have hf : f < 5 := by have := (List.getElem?_eq_some_iff.1 hu).1; simpa using this
    simp only [numsC, List.flatMap_cons, Nat.zero_mul, Nat.zero_add]
    rw [List.getElem?_append_left (by simpa using hf)]
    exact hu
  | a :: l, i + 1, h, f, u, hu => by
    simp only [numsC, List.flatMap_cons]
    rw [List.getElem?_append_right (by simp; omega)]
    have := numsC_get l i (by simpa using h) f u (by simpa using hu)
    simp only [numsC] at this
    rw [← this]
    congr 1
    simp
    omega
/-- the reference's queue: a block with a slice and how many are gone -/
def XAt (g : Nat) (all : List Ev) (gone : Nat) : Asn := objRow g 52 (fun v => #[v, .int .i64 (gone : Int)]) 26 4 all.length (evsC all)
def YAt (g : Nat) (ins : List Ev) : Asn := objRow g 55 (fun v => #[v]) 26 4 ins.length (evsC ins)
/-- a row of numbered inputs -/
def NumRow (v : Value) (l : List (Int × Ev)) : Asn := row 28 5 v l.length (numsC l)
/-- a row of inputs -/
def EvRow (v : Value) (l : List Ev) : Asn := row 26 4 v l.length (evsC l)
/-- those that are kept -/
def restL (all : List Ev) (gone : Nat) : List (Int × Ev) := (List.range' gone (all.length - gone)).map fun (j : Nat) => ((j : Int) + 1, all.getD j ⟨0, 0, 0, 0⟩)
def full (all : List Ev) (gone : Nat) : Bool := decide (all.length - gone = 16)
/-- what Put answers, and what is kept then -/
def putN (all : List Ev) (gone : Nat) : Int := if full all gone = true then 0 else (all.length : Int) + 1
def putE (all : List Ev) (gone : Nat) : Int := if full all gone = true then 3 else 0
def putS (all : List Ev) (gone : Nat) (e : Ev) : List Ev := if full all gone = true then all else all ++ [e]
def dropE (all : List Ev) (n : Int) : Int := if (all.length : Int) < n then 1 else 0
def dropS (all : List Ev) (gone : Nat) (n : Int) : Nat := if (all.length : Int) < n then gone else max gone n.toNat
def takeB (ins : Nat) (s : Int) : Bool := decide (s = (ins : Int) + 1)
def takeE (ins : Nat) (s : Int) : Int := if (ins : Int) + 1 < s then 250 else 0
theorem putS_bd (all : List Ev) (gone : Nat) (e : Ev) (h1 : gone ≤ all.length) (h2 : all.length ≤ gone + 16) : (putS all gone e).length ≤ all.length + 1 ∧ gone ≤ (putS all gone e).length ∧ (putS all gone e).length ≤ gone + 16 := by
  unfold putS full
  by_cases h : all.length - gone = 16
  · rw [if_pos (decide_eq_true h)]; omega
  · rw [if_neg (fun k => h (of_decide_eq_true k)), List.length_append]; simp; omega
theorem dropS_bd (all : List Ev) (gone : Nat) (n : Int) (h0 : 0 ≤ n) (h1 : gone ≤ all.length) (h2 : all.length ≤ gone + 16) : dropS all gone n ≤ all.length ∧ all.length ≤ dropS all gone n + 16 := by
  unfold dropS
  split <;> omega
theorem take_len (b : Bool) (ins : List Ev) (e : Ev) : (if b = true then ins ++ [e] else ins).length = if b = true then ins.length + 1 else ins.length := by
  cases b <;> simp
end Go.Proofs.Ytmkmggbafboelaa
