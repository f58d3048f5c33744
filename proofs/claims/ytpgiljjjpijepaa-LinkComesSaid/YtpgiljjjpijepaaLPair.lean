/- Two links and what is between them, as an assertion; two, side, pick. -/
import Derived.Test.YtpgiljjjpijepaaLCarry
namespace Go.Proofs.Ytpgiljjjpijepaa
open Go.RowKit
/-! assertions laid in another order, by their places; what is not named among the first n is let go -/
theorem filterMap_range {α : Type} (l : List α) : ∀ n, l.length ≤ n → (List.range n).filterMap (fun i => l[i]?) = l := by
  induction l with
  | nil => intro n _; simp
  | cons a l ih =>
    intro n hn
    obtain ⟨m, rfl⟩ : ∃ m, n = m + 1 := ⟨n - 1, by simp at hn; omega⟩
    rw [List.range_succ_eq_map, List.filterMap_cons]
    simp only [List.getElem?_cons_zero, List.filterMap_map]
    congr 1
    have := ih m (by simpa using hn)
    simpa [Function.comp_def] using this
theorem perm_ix {α : Type} (L : List α) (n : Nat) (σ : List Nat) (h : σ.isPerm (List.range n) = true) : (σ.filterMap (fun i => (L.take n)[i]?) ++ L.drop n).Perm L := by
  have h1 := (List.isPerm_iff.1 h).filterMap (fun i => (L.take n)[i]?)
  rw [filterMap_range _ n (List.length_take_le _ _)] at h1
  exact (h1.append_right _).trans (by rw [List.take_append_drop])
section
variable {w0 w : World} {L M : List Asn}
theorem Sep.dropAll : ∀ {B : List Asn}, Sep w0 w (B ++ L) → Sep w0 w L
  | [], h => h
  | _ :: B, h => Sep.dropAll (B := B) h.tail
theorem Sep.ix (h : Sep w0 w L) (n : Nat) (σ τ : List Nat) (hp : (τ ++ σ).isPerm (List.range n) = true) : Sep w0 w (σ.filterMap (fun i => (L.take n)[i]?) ++ L.drop n) := by
  have h1 := h.perm (perm_ix L n (τ ++ σ) hp).symm
  rw [List.filterMap_append, List.append_assoc] at h1
  exact h1.dropAll
end
def upd {α : Type} (f : Bool → α) (s : Bool) (x : α) : Bool → α := fun t => if t = s then x else f t
theorem upd_self {α : Type} (f : Bool → α) (s : Bool) (x : α) : upd f s x s = x := by simp [upd]
theorem upd_not {α : Type} (f : Bool → α) (s : Bool) (x : α) : upd f s x (!s) = f (!s) := by cases s <;> simp [upd]
theorem upd_ne {α : Type} (f : Bool → α) (s t : Bool) (x : α) (h : t ≠ s) : upd f s x t = f t := by simp [upd, h]
/-- two links, what each wrote and read, packets under way and to whom -/
structure PS where
  l : Bool → LS
  wr : Bool → List Nat
  rd : Bool → List Nat
  ws : List (Bool × Pk)
structure PV where
  g0 : Nat
  g1 : Nat
  w0 : Value
  w1 : Value
  r0 : Value
  r1 : Value
  y : Value
  t : Value
def enI (x : Bool × Pk) : Value := .int .i64 (if x.1 then 1 else 0)
def IRow (v : Value) (ws : List (Bool × Pk)) : Asn := row 3 1 v ws.length (ws.map enI)
abbrev PV.cs (x : PV) : Array Value := #[.pointer (some ⟨x.g0, 0, none⟩), .pointer (some ⟨x.g1, 0, none⟩), x.w0, x.w1, x.r0, x.r1, x.y, x.t]
def pairL (gp : Nat) (p : PS) (x : PV) : List Asn :=
  [cell gp 49 x.cs, LinkAt x.g0 (p.l false), LinkAt x.g1 (p.l true), BRow x.w0 (p.wr false), BRow x.w1 (p.wr true), BRow x.r0 (p.rd false), BRow x.r1 (p.rd true), PkX x.y (p.ws.map (·.2)), IRow x.t p.ws]
/-- the pair at gp is in this state -/
def PairAt (gp : Nat) (p : PS) : Asn := exA fun x : PV => bund (pairL gp p x)
section
variable {w0 w w' : World} {L M : List Asn}
theorem Sep.openP2 {gp : Nat} {p : PS} (h : Sep w0 w (PairAt gp p :: L)) : ∃ x : PV, Sep w0 w (cell gp 49 x.cs :: LinkAt x.g0 (p.l false) :: LinkAt x.g1 (p.l true) :: BRow x.w0 (p.wr false) :: BRow x.w1 (p.wr true) :: BRow x.r0 (p.rd false) :: BRow x.r1 (p.rd true) :: PkX x.y (p.ws.map (·.2)) :: IRow x.t p.ws :: L) := by
  obtain ⟨x, h⟩ := h.openE
  exact ⟨x, h.unbund⟩
theorem Sep.closeP2 {gp : Nat} {p : PS} (x : PV) (h : Sep w0 w (cell gp 49 x.cs :: LinkAt x.g0 (p.l false) :: LinkAt x.g1 (p.l true) :: BRow x.w0 (p.wr false) :: BRow x.w1 (p.wr true) :: BRow x.r0 (p.rd false) :: BRow x.r1 (p.rd true) :: PkX x.y (p.ws.map (·.2)) :: IRow x.t p.ws :: L)) : Sep w0 w (PairAt gp p :: L) := by
  have h1 : Sep w0 w (pairL gp p x ++ L) := h
  exact Sep.closeE (P := fun x : PV => Go.Proofs.Ytpgiljjjpijepaa.bund (pairL gp p x)) x h1.bund
theorem info3 : (Try.prog.info? 3).map (fun i => (i.zero, i.size, i.bytes)) = some (some (.int .i64 0), 1, 8) := by kernel_rfl
/-- links of one epoch -/
def newP (e : Nat) : PS := ⟨fun _ => newL e, fun _ => [], fun _ => [], []⟩
set_option maxRecDepth 100000 in
theorem two_any (e : Nat) (hS : Sep w0 w L) : Calls Try.prog 20 #[.int .u32 (e : Int)] w fun en w' => ∃ g, en = .returned (.pointer (some ⟨g, 0, none⟩)) ∧ Sep w0 w' (PairAt g (newP e) :: L) := by
  go_enter Try.func20, Try.ntmps20
  go_wp2_with fail
  refine (new_any e hS).mono ?_
  rintro en w1 ⟨a, rfl, S1⟩
  go_wp2_with fail
  refine (new_any e S1).mono ?_
  rintro en w2 ⟨b, rfl, S2⟩
  obtain ⟨W3, hW3, S3⟩ := S2.boxedF 49 #[.pointer (some ⟨a, 0, none⟩), .pointer (some ⟨b, 0, none⟩), .slice none 0 0, .slice none 0 0, .slice none 0 0, .slice none 0 0, .slice none 0 0, .slice none 0 0]
  clear S1 S2
  go_wp2_with fail
  go_ret
  refine ⟨_, rfl, ?_⟩
  have S4 := (((((S3.nilRowF 3 1).nilK).nilB).nilB).nilB).nilB
  exact Sep.closeP2 (p := newP e) ⟨a, b, .slice none 0 0, .slice none 0 0, .slice none 0 0, .slice none 0 0, .slice none 0 0, .slice none 0 0⟩ (S4.ix 9 [6, 8, 7, 0, 1, 2, 3, 4, 5] [] (by decide))
theorem side_any (s : Bool) (w : World) : Calls Try.prog 23 #[.bool s] w fun en w' => en = .returned (.int .i64 (if s then 1 else 0)) ∧ w' = w := by
  cases s
  all_goals
    go_enter Try.func23, Try.ntmps23
    go_wp2_with fail
    go_ret
    exact ⟨rfl, rfl⟩
/-- a place of a list, round -/
def pickI (a : Int) (n : Nat) : Int := if n = 0 then -1 else a % n
theorem pickI_lt (a : Int) (n : Nat) (h : 0 < n) : 0 ≤ pickI a n ∧ pickI a n < n := by
  unfold pickI
  rw [if_neg (by omega)]
  exact ⟨Int.emod_nonneg _ (by omega), Int.emod_lt_of_pos _ (by omega)⟩
theorem pick_eq (a : Int) (n : Nat) (h0 : ¬ n = 0) : if a.tmod n < 0 then a % n = a.tmod n + n else a % n = a.tmod n := by
  have h := Int.tmod_eq_emod (a := a) (b := (n : Int))
  have h1 : 0 ≤ a % (n : Int) := Int.emod_nonneg _ (by omega)
  have h2 : a % (n : Int) < n := Int.emod_lt_of_pos _ (by omega)
  rw [Int.natAbs_natCast] at h
  split at h <;> split <;> omega
theorem pick_any (a : Int) (n : Nat) (hn : n ≤ 9223372036854775807) (w : World) : Calls Try.prog 21 #[.int .i64 a, .int .i64 (n : Int)] w fun en w' => en = .returned (.int .i64 (pickI a n)) ∧ w' = w := by
  unfold pickI
  by_cases h0 : n = 0
  · subst h0
    rw [if_pos rfl]
    go_enter Try.func21, Try.ntmps21
    go_wp2_with fail
    go_ret
    exact ⟨rfl, rfl⟩
  rw [if_neg h0]
  have e0 : ((n : Int) == 0) = false := by simp; omega
  have e1 : (n == 0) = false := by simp; omega
  have n0 : (n : Int) ≠ 0 := by omega
  go_enter Try.func21, Try.ntmps21
  go_wp2_with fail
  · have h1 : a.tmod n < 0 := by assumption
    have h2 := pick_eq a n h0
    have hl := (pickI_lt a n (by omega))
    unfold pickI at hl
    rw [if_neg h0] at hl
    have hw : wrap64 (a.tmod n + n) = a % n := by
      rw [show a.tmod n + (n : Int) = a % n by split at h2 <;> omega]
      exact IntWalk.wrap64_in _ (by omega)
    go_ret
    exact ⟨by rw [hw]; rfl, rfl⟩
  · have h1 : ¬ a.tmod n < 0 := by first | assumption | omega
    have h2 := pick_eq a n h0
    have hl := (pickI_lt a n (by omega))
    unfold pickI at hl
    rw [if_neg h0] at hl
    have hw : a.tmod n = a % n := by split at h2 <;> omega
    go_ret
    exact ⟨by rw [hw]; rfl, rfl⟩
/-! parts of slices, of whatever elements -/
def subV (A : Option Addr) (c l size : Nat) : Option Addr := if c = l then A else A.map (·.add (l * size))
theorem part_hi (T size : Nat) (hu : Try.prog.underlying T = some (.slice (Try.prog.elem T))) (hs : ∀ w, (sizeOf (Try.prog.elem T)).run Try.prog w = .ok size w) (k : IntKind) (A : Option Addr) (n c m : Nat) (h : m ≤ c) (w : World) :
    (Instr.slice T (.slice A n c) none (some (.int k (m : Int))) none).run Try.prog w = .ok (.slice A m c) w := by
  rw [run_slice_h w T A n c hu k m (by omega) (by omega), hs]
  have h0 : A.map (·.add 0) = A := by cases A <;> simp [Addr.add]
  simp [sliced, h0]
theorem part_lo (T size : Nat) (hu : Try.prog.underlying T = some (.slice (Try.prog.elem T))) (hs : ∀ w, (sizeOf (Try.prog.elem T)).run Try.prog w = .ok size w) (k : IntKind) (A : Option Addr) (n c l : Nat) (h1 : l ≤ n) (w : World) :
    (Instr.slice T (.slice A n c) (some (.int k (l : Int))) none none).run Try.prog w = .ok (.slice (subV A c l size) (n - l) (c - l)) w := by
  rw [run_slice_l w T A n c hu k l (by omega) (by omega), hs]
  simp [sliced, subV]
theorem size28 (w : World) : (sizeOf (Try.prog.elem 28)).run Try.prog w = .ok 4 w := by
  have he : Try.prog.elem 28 = 32 := by kernel_rfl
  have hz : (sizeOf 32).run Try.prog w = .ok 4 w := by kernel_rfl
  rw [he, hz]
theorem size47 (w : World) : (sizeOf (Try.prog.elem 47)).run Try.prog w = .ok 1 w := by
  have he : Try.prog.elem 47 = 3 := by kernel_rfl
  have hz : (sizeOf 3).run Try.prog w = .ok 1 w := by kernel_rfl
  rw [he, hz]
theorem Reads.takes {B size n : Nat} {A : Option Addr} {xs : List Value} (h : Reads w B size A n xs) (m : Nat) (hm : m ≤ n) : Reads w B size A m (xs.take (m * size)) := by
  refine ⟨by rw [List.length_take, h.1]; exact Nat.min_eq_left (Nat.mul_le_mul_right _ hm), fun hn => ?_⟩
  obtain ⟨ad, e1, e2, e3⟩ := h.2 (by omega)
  refine ⟨ad, e1, e2, fun j u hu => e3 j u ?_⟩
  rw [List.getElem?_take] at hu
  split at hu
  · exact hu
  · cases hu
theorem Reads.parts {B size n : Nat} {A : Option Addr} {xs : List Value} (h : Reads w B size A n xs) (l c : Nat) (hl : l ≤ n) (hc : n ≤ c) : Reads w B size (subV A c l size) (n - l) (xs.drop (l * size)) := h.cut hl hc
/-- a drawn region, under a condition on the world -/
theorem plain_under {P : Program} {ops : Array Oper} {Q : Exit → Act → World → Prop} {id : Nat} {a : Act} (S : World → Prop) (B : Nat → Bool) (hm : P.follows .mixedOrders = true)
    (h : Under P ops Q S B ops.size (Array.replicate ops.size false) a w.drew) : (Code.region id ops true).wp P Q a w := wp_region_any hm (under_any _ _ _ _ h)
end
end Go.Proofs.Ytpgiljjjpijepaa
