/- What acts do to flights; parts of rows of flights. -/
import Derived.Test.YtmacmhlimdaemaaNGreat
namespace Go.Proofs.Ytmacmhlimdaemaa.Net
open Go.RowKit Go.Proofs.YtmacmhlimdaemaaW.PrintWords Go.Proofs.Ytmacmhlimdaemaa.R Go.Proofs.Ytmacmhlimdaemaa.Pkt
/-- few flights, and none of many bytes -/
structure Good (fs : List Fl) : Prop where
  len : fs.length ≤ 256
  b : ∀ f ∈ fs, f.b.length ≤ 2000
theorem Good.nil : Good [] := ⟨by simp, by simp⟩
theorem Good.push {fs : List Fl} (h : Good fs) (f : Fl) (hf : f.b.length ≤ 2000) (hl : fs.length < 256) : Good (fs ++ [f]) :=
  ⟨by simp; omega, fun x hx => by
    rcases List.mem_append.1 hx with hx | hx
    · exact h.b x hx
    · obtain rfl : x = f := by simpa using hx
      exact hf⟩
theorem Good.send {fs : List Fl} (h : Good fs) (f : Fl) (hf : f.b.length ≤ 2000) : Good (sendS fs f) := by
  unfold sendS
  split
  · exact h.push f hf (by assumption)
  · exact h
theorem Good.take {fs : List Fl} (h : Good fs) (i : Int) : Good (takeS fs i) := by
  unfold takeS
  split
  · exact ⟨by have := h.len; rw [List.length_eraseIdx]; split <;> omega, fun x hx => h.b x (List.mem_of_mem_eraseIdx hx)⟩
  · exact h
theorem in_nat {fs : List Fl} {i : Int} (h : inF fs i = true) : ∃ n : Nat, i = n ∧ n < fs.length := by
  have h2 := of_decide_eq_true h
  exact ⟨i.toNat, by omega, by omega⟩
theorem getD_mem {fs : List Fl} {n : Nat} (h : n < fs.length) : fs.getD n zeroF = fs[n] := by rw [List.getD_eq_getElem?_getD, List.getElem?_eq_getElem h, Option.getD_some]
theorem Good.dbl {fs : List Fl} (h : Good fs) (i : Int) : Good (dblS fs i) := by
  unfold dblS
  split
  · exact h
  · split
    · obtain ⟨n, rfl, hn⟩ := in_nat (by assumption)
      rw [Int.toNat_natCast, getD_mem hn]
      exact h.push _ (h.b _ (List.getElem_mem hn)) (by omega)
    · exact h
theorem Good.small {fs : List Fl} (h : Good fs) : fs.length ≤ 1000 ∧ ∀ f ∈ fs, f.b.length ≤ 1000000 := ⟨by have := h.len; omega, fun f hf => by have := h.b f hf; omega⟩
theorem entC_take (es : List Ent) (m : Nat) : entC (es.take m) = (entC es).take (m * 3) := by
  induction es generalizing m with
  | nil => simp [entC]
  | cons e es ih =>
    have hc : entC (e :: es) = e.2.cells e.1 ++ entC es := by simp [entC]
    have h3 : (e.2.cells e.1).length = 3 := rfl
    rcases m with _ | m
    · simp [entC]
    · have hd : entC (e :: es.take m) = e.2.cells e.1 ++ entC (es.take m) := by simp [entC]
      rw [List.take_succ_cons, hd, hc, ih, List.take_append, h3, List.take_of_length_le (l := e.2.cells e.1) (by rw [h3]; omega), show (m + 1) * 3 - 3 = m * 3 by omega]
theorem entC_drop (es : List Ent) (m : Nat) : entC (es.drop m) = (entC es).drop (m * 3) := by
  induction es generalizing m with
  | nil => simp [entC]
  | cons e es ih =>
    have hc : entC (e :: es) = e.2.cells e.1 ++ entC es := by simp [entC]
    have h3 : (e.2.cells e.1).length = 3 := rfl
    rcases m with _ | m
    · simp
    · rw [List.drop_succ_cons, hc, ih, List.drop_append, h3, List.drop_of_length_le (l := e.2.cells e.1) (by rw [h3]; omega), show (m + 1) * 3 - 3 = m * 3 by omega, List.nil_append]
section
variable {w0 w w' : World} {L M : List Asn} {A : Option Addr} {fs : List Fl}
theorem FR.take (h : FR w A fs) (m : Nat) : FR w A (fs.take m) := by
  obtain ⟨es, rfl, h2, h3⟩ := h
  refine ⟨es.take m, List.map_take, ⟨by rw [entC_len], fun hn => ?_⟩, fun e he => h3 e (List.mem_of_mem_take he)⟩
  obtain ⟨ad, e1, e2, e3⟩ := h2.2 (by rw [List.length_take] at hn; omega)
  refine ⟨ad, e1, e2, fun j u hu => e3 j u ?_⟩
  rw [entC_take] at hu
  rw [List.getElem?_take] at hu
  split at hu
  · exact hu
  · cases hu
/-- where a part of a row begins -/
def subA (A : Option Addr) (c l : Nat) : Option Addr := if c = l then A else A.map (·.add (l * 3))
theorem FR.drop (h : FR w A fs) (l c : Nat) (hl : l ≤ fs.length) (hc : fs.length ≤ c) : FR w (subA A c l) (fs.drop l) := by
  obtain ⟨es, rfl, h2, h3⟩ := h
  rw [List.length_map] at hl hc
  refine ⟨es.drop l, List.map_drop, ?_, fun e he => h3 e (List.mem_of_mem_drop he)⟩
  rw [List.length_drop, entC_drop]
  exact h2.cut hl hc
theorem slice_hi (A : Option Addr) (n c m : Nat) (h : m ≤ c) (w : World) : (Instr.slice 55 (.slice A n c) none (some (.int .i64 (m : Int))) none).run Try.prog w = .ok (.slice A m c) w := by
  rw [run_slice_h w 55 A n c Try.underlying55 .i64 m (by omega) (by omega)]
  have hz : (sizeOf 48).run Try.prog w = .ok 3 w := by kernel_rfl
  have he : Try.prog.elem 55 = 48 := by kernel_rfl
  rw [he, hz]
  have h0 : A.map (·.add 0) = A := by cases A <;> simp [Addr.add]
  simp [sliced, h0]
theorem slice_lh (A : Option Addr) (n c l m : Nat) (h1 : l ≤ m) (h : m ≤ c) (w : World) : (Instr.slice 55 (.slice A n c) (some (.int .i64 (l : Int))) (some (.int .i64 (m : Int))) none).run Try.prog w = .ok (.slice (subA A c l) (m - l) (c - l)) w := by
  rw [run_slice_lh w 55 A n c Try.underlying55 .i64 .i64 l m (by omega) (by omega) (by omega)]
  have hz : (sizeOf 48).run Try.prog w = .ok 3 w := by kernel_rfl
  have he : Try.prog.elem 55 = 48 := by kernel_rfl
  rw [he, hz]
  simp [sliced, subA]
theorem slice_lo (A : Option Addr) (n c l : Nat) (h1 : l ≤ n) (w : World) : (Instr.slice 55 (.slice A n c) (some (.int .i64 (l : Int))) none none).run Try.prog w = .ok (.slice (subA A c l) (n - l) (c - l)) w := by
  rw [run_slice_l w 55 A n c Try.underlying55 .i64 l (by omega) (by omega)]
  have hz : (sizeOf 48).run Try.prog w = .ok 3 w := by kernel_rfl
  have he : Try.prog.elem 55 = 48 := by kernel_rfl
  rw [he, hz]
  simp [sliced, subA]
theorem _root_.Go.Proofs.Ytmacmhlimdaemaa.Sep.fr2 {n c : Nat} (h : Sep w0 w L) (i : Nat) (hi : L[i]? = some (FlX (.slice A n c) fs)) : FR w A fs ∧ fs.length = n ∧ n ≤ c := by
  obtain ⟨A', c', hv, h1, -, h2, -⟩ := h.fr i hi
  injection hv with e1 e2 e3
  subst e1 e2 e3
  exact ⟨h2, rfl, h1⟩
/-- alike, on parts of rows -/
theorem alike_parts {B : Option Addr} {n ca cb : Nat} (hn : fs.length = n) (hA : FR w A fs) (hB : FR w B fs) (hl : n < 1000000) (hS : Sep w0 w L) :
    Calls Try.prog 37 #[.slice A n ca, .slice B n cb] w fun en w' => en = .returned (.bool true) ∧ Sep w0 w' L := by
  subst hn
  exact (alike_same ca cb hA hB hl).mono fun en w' ⟨he, k, hk⟩ => ⟨he, by subst hk; exact hS.drewN k⟩
end
end Go.Proofs.Ytmacmhlimdaemaa.Net
