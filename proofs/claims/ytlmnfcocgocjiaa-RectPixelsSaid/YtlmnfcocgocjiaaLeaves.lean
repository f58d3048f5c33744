/- rect's leaves: within, Good, Area, Empty, Has: what they answer. -/
import Derived.Test.YtlmnfcocgocjiaaMem
import Derived.WalkKit
import Derived.ProofKit
import Derived.WalkSmall
import Derived.Deep.QuietTactic
import Derived.BigQuiet
import Derived.Lib.Hide
import Derived.WalkLawsBesides
namespace Go.Proofs.Ytlmnfcocgocjiaa
open Go.RowKit
/-- a rectangle as the value that a call is handed -/
abbrev RV (x y w h : Int) : Value := .agg #[.int .i64 x, .int .i64 y, .int .i64 w, .int .i64 h]
abbrev I64 (n : Int) : Prop := -9223372036854775808 ≤ n ∧ n ≤ 9223372036854775807
def inB (n lo hi : Int) : Bool := decide (lo ≤ n ∧ n ≤ hi)
def okB (a s : Int) : Bool := decide (-1048576 ≤ a ∧ a ≤ 1048576 ∧ 0 ≤ s ∧ s ≤ 1048576 - a)
def goodB (x y w h : Int) : Bool := okB x w && okB y h
theorem within_any (n lo hi : Int) (w : World) : Calls Try.prog 29 #[.int .i64 n, .int .i64 lo, .int .i64 hi] w fun e w' => e = .returned (.bool (inB n lo hi)) ∧ w = w' := by
  by_cases h1 : lo ≤ n
  · by_cases h2 : n ≤ hi
    · have hb : inB n lo hi = true := by simp [inB, h1, h2]
      have H := Lib.hid hb
      clear hb
      go_enter Try.func29, Try.ntmps29
      go_wp2
      go_ret
      exact ⟨by rw [H.out]; rfl, rfl⟩
    · have hb : inB n lo hi = false := by simp [inB, h2]
      have H := Lib.hid hb
      clear hb
      go_enter Try.func29, Try.ntmps29
      go_wp2
      go_ret
      exact ⟨by rw [H.out]; first | rfl | (simp; done) | (simp; omega), rfl⟩
  · have hb : inB n lo hi = false := by simp [inB, h1]
    have H := Lib.hid hb
    have h1' : decide (lo ≤ n) = false := by simpa using h1
    clear hb
    go_enter Try.func29, Try.ntmps29
    go_wp2
    go_ret
    exact ⟨by rw [H.out]; rfl, rfl⟩
theorem ok_any (a s : Int) (w : World) : Calls Try.prog 31 #[.int .i64 a, .int .i64 s] w fun e w' => e = .returned (.bool (okB a s)) ∧ w = w' := by
  by_cases h1 : -1048576 ≤ a ∧ a ≤ 1048576
  · have hb : okB a s = inB s 0 (1048576 - a) := by simp [okB, inB, h1]
    have H := Lib.hid hb
    have hi : inB a (-1048576) 1048576 = true := by simp [inB, h1]
    clear hb
    obtain ⟨h1, h2⟩ := h1
    go_enter Try.func31, Try.ntmps31
    go_wp2_with fail
    refine (within_any _ _ _ _).mono ?_
    rintro e w' ⟨rfl, rfl⟩
    go_wp2_with fail
    refine (within_any _ _ _ _).mono ?_
    rintro e w' ⟨rfl, rfl⟩
    go_wp2_with fail
    go_ret
    exact ⟨by rw [H.out]; rfl, rfl⟩
  · have hb : okB a s = false := by simp [okB]; omega
    have H := Lib.hid hb
    have hi : inB a (-1048576) 1048576 = false := by simp [inB]; omega
    clear hb h1
    go_enter Try.func31, Try.ntmps31
    go_wp2_with fail
    refine (within_any _ _ _ _).mono ?_
    rintro e w' ⟨rfl, rfl⟩
    go_wp2_with fail
    go_ret
    exact ⟨by rw [H.out]; rfl, rfl⟩
theorem both_any (b : Nat) (x y ww h : Int) (w : World) (h0 : w.cell? ⟨b, 0, none⟩ = some (.int .i64 x)) (h1 : w.cell? ⟨b, 1, none⟩ = some (.int .i64 y)) (h2 : w.cell? ⟨b, 2, none⟩ = some (.int .i64 ww)) (h3 : w.cell? ⟨b, 3, none⟩ = some (.int .i64 h)) :
    Calls Try.prog 30 #[.func (.func 31) #[] #[], .pointer (some ⟨b, 0, none⟩)] w fun e w' => e = .returned (.bool (goodB x y ww h)) ∧ w = w' := by
  cases hx : okB x ww with
  | true =>
    have hb : goodB x y ww h = okB y h := by simp [goodB, hx]
    have H := Lib.hid hb
    clear hb
    go_enter Try.func30, Try.ntmps30
    go_wp2_with fail
    refine (ok_any _ _ _).mono ?_
    rintro e w' ⟨rfl, rfl⟩
    go_wp2_with fail
    refine (ok_any _ _ _).mono ?_
    rintro e w' ⟨rfl, rfl⟩
    go_wp2_with fail
    go_ret
    exact ⟨by rw [H.out]; rfl, rfl⟩
  | false =>
    have hb : goodB x y ww h = false := by simp [goodB, hx]
    have H := Lib.hid hb
    clear hb
    go_enter Try.func30, Try.ntmps30
    go_wp2_with fail
    refine (ok_any _ _ _).mono ?_
    rintro e w' ⟨rfl, rfl⟩
    go_wp2_with fail
    go_ret
    exact ⟨by rw [H.out]; rfl, rfl⟩
theorem good_any (x y ww h : Int) (w : World) :
    Calls Try.prog 15 #[RV x y ww h] w fun e w' => e = .returned (.bool (goodB x y ww h)) ∧ Below w.heap.size w w' := by
  go_enter Try.func15, Try.ntmps15
  go_wp2_with fail
  refine (both_any w.heap.size x y ww h _ ?_ ?_ ?_ ?_).mono ?_
  · go_simp
  · go_simp
  · go_simp
  · go_simp
  rintro e w' ⟨rfl, rfl⟩
  go_wp2_with fail
  go_ret
  exact ⟨rfl, (Below.refl _ _).alloc (Nat.le_refl _) _⟩

/-- how many pixels -/
def areaV (x y ww h : Int) : Int := if goodB x y ww h = true then ww * h else 0
def emptyB (x y ww h : Int) : Bool := areaV x y ww h == 0
structure Good (x y ww h : Int) : Prop where
  x0 : -1048576 ≤ x
  x1 : x ≤ 1048576
  y0 : -1048576 ≤ y
  y1 : y ≤ 1048576
  w0 : 0 ≤ ww
  w1 : x + ww ≤ 1048576
  h0 : 0 ≤ h
  h1 : y + h ≤ 1048576
theorem good_of {x y ww h : Int} (g : goodB x y ww h = true) : Good x y ww h := by
  simp [goodB, okB] at g
  constructor <;> omega
theorem of_good {x y ww h : Int} (g : Good x y ww h) : goodB x y ww h = true := by
  obtain ⟨a, b, c, d, e, f, i, j⟩ := g
  simp [goodB, okB]
  omega
theorem area_bd {ww h p q : Int} (a : 0 ≤ ww) (b : ww ≤ p) (c : 0 ≤ h) (d : h ≤ q) : 0 ≤ ww * h ∧ ww * h ≤ p * q :=
  ⟨Int.mul_nonneg a c, Int.mul_le_mul b d c (by omega)⟩
theorem area_any (x y ww h : Int) (w : World) :
    Calls Try.prog 12 #[RV x y ww h] w fun e w' => e = .returned (.int .i64 (areaV x y ww h)) ∧ Below w.heap.size w w' := by
  cases hg : goodB x y ww h with
  | true =>
    have G := good_of hg
    have hb : areaV x y ww h = ww * h := by simp [areaV, hg]
    have ⟨m0, m1⟩ := area_bd (p := 2097152) (q := 2097152) G.w0 (by have := G.w1; have := G.x0; omega) G.h0 (by have := G.h1; have := G.y0; omega)
    have H := Lib.hid hb
    clear hb G
    go_enter Try.func12, Try.ntmps12
    go_wp2_with fail
    refine (good_any _ _ _ _ _).mono ?_
    rintro e w1 ⟨rfl, hb1⟩
    have c2 : w1.cell? ⟨w.heap.size, 2, none⟩ = some (.int .i64 ww) := (hb1.cell (p := ⟨w.heap.size, 2, none⟩) (by simp)).trans (by go_simp)
    have c3 : w1.cell? ⟨w.heap.size, 3, none⟩ = some (.int .i64 h) := (hb1.cell (p := ⟨w.heap.size, 3, none⟩) (by simp)).trans (by go_simp)
    go_wp2_with fail
    go_ret
    exact ⟨by rw [H.out]; rfl, ((Below.refl _ _).alloc (Nat.le_refl _) _).trans (hb1.mono (by simp))⟩
  | false =>
    have hb : areaV x y ww h = 0 := by simp [areaV, hg]
    have H := Lib.hid hb
    clear hb
    go_enter Try.func12, Try.ntmps12
    go_wp2_with fail
    refine (good_any _ _ _ _ _).mono ?_
    rintro e w1 ⟨rfl, hb1⟩
    go_wp2_with fail
    go_ret
    exact ⟨by rw [H.out]; rfl, ((Below.refl _ _).alloc (Nat.le_refl _) _).trans (hb1.mono (by simp))⟩
theorem empty_any (x y ww h : Int) (w : World) :
    Calls Try.prog 10 #[RV x y ww h] w fun e w' => e = .returned (.bool (emptyB x y ww h)) ∧ Below w.heap.size w w' := by
  go_enter Try.func10, Try.ntmps10
  go_wp2_with fail
  refine (area_any _ _ _ _ _).mono ?_
  rintro e w1 ⟨rfl, hb1⟩
  go_wp2_with fail
  go_ret
  exact ⟨rfl, ((Below.refl _ _).alloc (Nat.le_refl _) _).trans (hb1.mono (by simp))⟩
/-- has it the pixel? -/
def hasB (x y ww h px py : Int) : Bool := goodB x y ww h && (inB px x (x + ww - 1) && inB py y (y + h - 1))
theorem has_any (x y ww h px py : Int) (w : World) :
    Calls Try.prog 13 #[RV x y ww h, .int .i64 px, .int .i64 py] w fun e w' => e = .returned (.bool (hasB x y ww h px py)) ∧ Below w.heap.size w w' := by
  cases hg : goodB x y ww h with
  | true =>
    have ⟨g1, g2, g3, g4, g5, g6, g7, g8⟩ := good_of hg
    cases hx : inB px x (x + ww - 1) with
    | true =>
      have hb : hasB x y ww h px py = inB py y (y + h - 1) := by simp [hasB, hg, hx]
      have H := Lib.hid hb
      clear hb
      go_enter Try.func13, Try.ntmps13
      go_wp2_with fail
      refine (good_any _ _ _ _ _).mono ?_
      rintro e w1 ⟨rfl, hb1⟩
      have c0 : w1.cell? ⟨w.heap.size, 0, none⟩ = some (.int .i64 x) := (hb1.cell (p := ⟨w.heap.size, 0, none⟩) (by simp)).trans (by go_simp)
      have c1 : w1.cell? ⟨w.heap.size, 1, none⟩ = some (.int .i64 y) := (hb1.cell (p := ⟨w.heap.size, 1, none⟩) (by simp)).trans (by go_simp)
      have c2 : w1.cell? ⟨w.heap.size, 2, none⟩ = some (.int .i64 ww) := (hb1.cell (p := ⟨w.heap.size, 2, none⟩) (by simp)).trans (by go_simp)
      have c3 : w1.cell? ⟨w.heap.size, 3, none⟩ = some (.int .i64 h) := (hb1.cell (p := ⟨w.heap.size, 3, none⟩) (by simp)).trans (by go_simp)
      go_wp2_with fail
      refine (within_any _ _ _ _).mono ?_
      rintro e w' ⟨rfl, rfl⟩
      go_wp2_with fail
      refine (within_any _ _ _ _).mono ?_
      rintro e w' ⟨rfl, rfl⟩
      go_wp2_with fail
      go_ret
      exact ⟨by rw [H.out]; rfl, ((Below.refl _ _).alloc (Nat.le_refl _) _).trans (hb1.mono (by simp))⟩
    | false =>
      have hb : hasB x y ww h px py = false := by simp [hasB, hx]
      have H := Lib.hid hb
      clear hb
      go_enter Try.func13, Try.ntmps13
      go_wp2_with fail
      refine (good_any _ _ _ _ _).mono ?_
      rintro e w1 ⟨rfl, hb1⟩
      have c0 : w1.cell? ⟨w.heap.size, 0, none⟩ = some (.int .i64 x) := (hb1.cell (p := ⟨w.heap.size, 0, none⟩) (by simp)).trans (by go_simp)
      have c2 : w1.cell? ⟨w.heap.size, 2, none⟩ = some (.int .i64 ww) := (hb1.cell (p := ⟨w.heap.size, 2, none⟩) (by simp)).trans (by go_simp)
      go_wp2_with fail
      refine (within_any _ _ _ _).mono ?_
      rintro e w' ⟨rfl, rfl⟩
      go_wp2_with fail
      go_ret
      exact ⟨by rw [H.out]; rfl, ((Below.refl _ _).alloc (Nat.le_refl _) _).trans (hb1.mono (by simp))⟩
  | false =>
    have hb : hasB x y ww h px py = false := by simp [hasB, hg]
    have H := Lib.hid hb
    clear hb
    go_enter Try.func13, Try.ntmps13
    go_wp2_with fail
    refine (good_any _ _ _ _ _).mono ?_
    rintro e w1 ⟨rfl, hb1⟩
    go_wp2_with fail
    go_ret
    exact ⟨by rw [H.out]; rfl, ((Below.refl _ _).alloc (Nat.le_refl _) _).trans (hb1.mono (by simp))⟩
end Go.Proofs.Ytlmnfcocgocjiaa
