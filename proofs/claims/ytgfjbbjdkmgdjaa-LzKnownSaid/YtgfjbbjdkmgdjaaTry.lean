/- How long a repetition is, and Match's second closure: it tries one place. -/
import Derived.Test.YtgfjbbjdkmgdjaaNote
import Derived.Test.YtgfjbbjdkmgdjaaMx1
namespace Go.Proofs.Ytgfjbbjdkmgdjaa.Ext
open Go.RowKit Go.Proofs.YtgfjbbjdkmgdjaaW.PrintWords Go.Proofs.Ytgfjbbjdkmgdjaa.Lz
/-- bytes, and no more than a million -/
def okM (l : List Int) : Bool := l.all (fun x => decide (0 ≤ x ∧ x < 256)) && decide (l.length ≤ 1000000)
def nat (l : List Int) : List Nat := l.map Int.toNat
theorem okM_mk {l : List Int} (h : ∀ x ∈ l, 0 ≤ x ∧ x < 256) (hl : l.length ≤ 1000000) : okM l = true := by
  unfold okM
  rw [Bool.and_eq_true, List.all_eq_true, decide_eq_true_iff]
  exact ⟨fun x hx => decide_eq_true (h x hx), hl⟩
theorem okM_mem {l : List Int} (h : okM l = true) : ∀ x ∈ l, 0 ≤ x ∧ x < 256 := by
  unfold okM at h
  rw [Bool.and_eq_true, List.all_eq_true] at h
  exact fun x hx => of_decide_eq_true (h.1 x hx)
theorem okM_len {l : List Int} (h : okM l = true) : l.length ≤ 1000000 := by
  unfold okM at h
  rw [Bool.and_eq_true] at h
  exact of_decide_eq_true h.2
theorem nat_lt {l : List Int} (h : okM l = true) : ∀ c ∈ nat l, c < 256 := by
  intro c hc
  obtain ⟨x, hx, rfl⟩ := List.mem_map.1 hc
  have := okM_mem h x hx
  omega
theorem nat_length (l : List Int) : (nat l).length = l.length := by simp [nat]
theorem reads_nat {w : World} {A : Option Addr} {l : List Int} (h : Kd.C (Kd.int .u8) w A l.length l) (hb : okM l = true) : Reads w w.heap.size 1 A l.length ((nat l).map encB) := by
  have h2 := Kd.reads_of_C (d := (0 : Int)) (h1 := fun _ => rfl) h
  refine ⟨by simp [nat], fun hn => ?_⟩
  obtain ⟨ad, e, hc⟩ := h2.2.2 hn
  have h0 := hc 0 hn
  refine ⟨ad, e, ?_, fun j u hu => ?_⟩
  · have := World.block_lt_of_cell? _ _ h0
    simpa [Addr.add] using this
  · have hj : j < l.length := by
      have := (List.getElem?_eq_some_iff.1 hu).1
      simpa [nat] using this
    rw [hc j hj]
    simp only [nat, List.map_map, List.getElem?_map, List.getElem?_eq_getElem hj, Option.map_some, Option.some.injEq] at hu
    rw [← hu, List.getD_eq_getElem?_getD, List.getElem?_eq_getElem hj]
    have := okM_mem hb l[j] (List.getElem_mem hj)
    simp only [Function.comp, encB, Option.getD_some]
    rw [Int.toNat_of_nonneg this.1]
theorem w64 {x : Int} (h1 : -9223372036854775808 ≤ x) (h2 : x ≤ 9223372036854775807) : wrap64 x = x := by unfold wrap64; omega
theorem rd_at (l : List Int) (hl : okM l = true) (i : Nat) (h : i < l.length) : rd l (i : Int) = ((at_ (nat l) i : Nat) : Int) := by
  unfold rd at_ nat
  rw [Int.toNat_natCast, List.getD_eq_getElem?_getD, List.getD_eq_getElem?_getD, List.getElem?_map, List.getElem?_eq_getElem h, Option.getD_some, Option.map_some, Option.getD_some]
  have := okM_mem hl l[i] (List.getElem_mem h)
  omega
theorem mlen_l0 (l : List Int) (hl : okM l = true) (i j : Nat) (hij : i ≤ j) (hj : j ≤ l.length) (d : Nat) : ∀ (k t : Nat), t + d = 258 →
    M.lz_match.l0 (k + d + 1) l (i : Int) (j : Int) (t : Int) = some (((t + mN (nat l) d (i + t) (j + t) : Nat) : Int)) := by
  have hlen := okM_len hl
  induction d with
  | zero =>
    intro k t ht
    rw [M.lz_match.l0, if_neg (by omega)]
    rfl
  | succ d ih =>
    intro k t ht
    rw [show k + (d + 1) + 1 = (k + d + 1) + 1 by omega, M.lz_match.l0, if_pos (by omega), w64 (x := (j : Int) + (t : Int)) (by omega) (by omega)]
    by_cases h1 : j + t < l.length
    · rw [if_pos (by omega), w64 (x := (i : Int) + (t : Int)) (by omega) (by omega), if_pos (by omega), if_pos (by omega), if_pos (by omega), show (i : Int) + (t : Int) = ((i + t : Nat) : Int) by omega, show (j : Int) + (t : Int) = ((j + t : Nat) : Int) by omega,
        rd_at l hl _ (by omega), rd_at l hl _ h1]
      by_cases h2 : at_ (nat l) (i + t) = at_ (nat l) (j + t)
      · rw [if_pos (by rw [h2]), w64 (by omega) (by omega), mN_step _ _ _ _ (by rw [nat_length]; exact h1) h2]
        have := ih k (t + 1) (by omega)
        rw [show ((t + 1 : Nat) : Int) = (t : Int) + 1 by omega] at this
        rw [this, show i + t + 1 = i + (t + 1) by omega, show j + t + 1 = j + (t + 1) by omega]
        generalize mN (nat l) d (i + (t + 1)) (j + (t + 1)) = z
        rw [show t + 1 + z = t + (z + 1) by omega]
      · rw [if_neg (by omega), mN_stop _ _ _ _ (fun c => h2 c.2)]
        rfl
    · rw [if_neg (by omega), mN_stop _ _ _ _ (fun c => h1 (by rw [nat_length] at c; exact c.1))]
      rfl
theorem mlen_is (l : List Int) (hl : okM l = true) (i j : Nat) (hij : i ≤ j) (hj : j ≤ l.length) : M.lz_match.f 259 l (i : Int) (j : Int) = some ((mlen (nat l) i j : Nat) : Int) := by
  have := mlen_l0 l hl i j hij hj 258 0 0 (by omega)
  simp only [Nat.zero_add, Nat.add_zero] at this
  exact this
theorem mlen_calls (A : Option Addr) (c : Nat) (l : List Int) (hl : okM l = true) (i j : Nat) (hij : i ≤ j) (hj : j ≤ l.length) (w : World) (hr : Kd.C (Kd.int .u8) w A l.length l) (hc : l.length ≤ c) :
    Calls Try.prog 17 #[.slice A l.length c, .int .i64 (i : Int), .int .i64 (j : Int)] w fun e w' => e = .returned (.int .i64 ((mlen (nat l) i j : Nat) : Int)) ∧ ∃ m, w' = w.drewN m :=
  (M.lz_match.calls 259 A c l i j _ w hr hc (mlen_is l hl i j hij hj)).mono fun _ _ ⟨he, hd⟩ => ⟨he, hd.out⟩
/-- a token's cells -/
def tokC (t : Tok) : Array Value := #[.int .u8 (t.byte : Int), .int .i64 (t.len : Int), .int .i64 (t.dist : Int)]
theorem tokOf_len (l : List Nat) (a : Nat) (b : Nat × Nat) : (tokOf l a b).len = b.1 := by
  unfold tokOf
  split
  · rename_i h; rw [h]
  · rfl
set_option maxRecDepth 100000 in
theorem try_any (A : Option Addr) (c : Nat) (l : List Int) (hl : okM l = true) (a p : Nat) (hp : p < a) (ha : a ≤ l.length) (bst : Nat × Nat) (g1 ga g8 : Nat) (w : World) (hr : Kd.C (Kd.int .u8) w A l.length l) (hc : l.length ≤ c)
    (h1 : Blk w g1 22 #[.slice A l.length c]) (h2 : Blk w ga 3 #[.int .i64 (a : Int)]) (h3 : Blk w g8 26 (tokC (tokOf (nat l) a bst))) :
    Calls Try.prog 16 #[.int .i64 (p : Int), .pointer (some ⟨g1, 0, none⟩), .pointer (some ⟨ga, 0, none⟩), .pointer (some ⟨g8, 0, none⟩)] w fun e w' =>
      e = .returned (.tuple #[]) ∧ Blk w' g8 26 (tokC (tokOf (nat l) a (tryAt (nat l) a p bst))) ∧ ∀ B, B ≤ g8 → Below B w w' := by
  have x1 := h1.one
  have x2 := h2.one
  have hlen := okM_len hl
  have hm : mlen (nat l) p a ≤ 258 := mN_le (nat l) 258 p a
  have y1 : w.cell? ⟨g8, 1, none⟩ = some (.int .i64 ((bst.1 : Nat) : Int)) := by
    have := h3.at_ 1 (v := .int .i64 ((tokOf (nat l) a bst).len : Int)) rfl
    rwa [tokOf_len] at this
  have y0 : w.cell? ⟨g8, 0, none⟩ = some (.int .u8 ((tokOf (nat l) a bst).byte : Int)) := h3.at_ 0 rfl
  have y2 : w.cell? ⟨g8, 2, none⟩ = some (.int .i64 ((tokOf (nat l) a bst).dist : Int)) := h3.at_ 2 rfl
  have f0 := h3.frozen 0
  have f1 := h3.frozen 1
  have f2 := h3.frozen 2
  have hT : tryAt (nat l) a p bst = if 3 ≤ mlen (nat l) p a ∧ bst.1 < mlen (nat l) p a then (mlen (nat l) p a, a - p) else bst := rfl
  have hC := mlen_calls A c l hl p a (by omega) ha w hr hc
  generalize mlen (nat l) p a = z at hm hT hC
  have HT := Lib.hid hT
  clear hT
  obtain ⟨s, hs⟩ : ∃ s, bst.1 = s := ⟨_, rfl⟩
  rw [hs] at y1
  have Hs := Lib.hid hs
  clear hs
  have hpa : (p : Int) ≤ (a : Int) := by omega
  have hal : (a : Int) ≤ 1000000 := by omega
  by_cases c1 : z < 3
  · have hT2 : tryAt (nat l) a p bst = bst := by rw [HT.out, if_neg (by omega)]
    rw [hT2]
    have d1 : decide ((3 : Int) ≤ (z : Int)) = false := decide_eq_false (by omega)
    go_enter Try.func16, Try.ntmps16
    go_wp2_with fail
    refine hC.mono ?_
    rintro e w1 ⟨rfl, m, rfl⟩
    go_wp2_with fail
    go_end0
    exact ⟨rfl, h3.drewN m, fun _ _ => pw_below_drewN (Below.refl _ _) m⟩
  · have d1 : decide ((3 : Int) ≤ (z : Int)) = true := decide_eq_true (by omega)
    by_cases c2 : s < z
    · have hT2 : tryAt (nat l) a p bst = (z, a - p) := by rw [HT.out, if_pos ⟨by omega, by rw [Hs.out]; exact c2⟩]
      rw [hT2]
      have c2' : (s : Int) < (z : Int) := by omega
      go_enter Try.func16, Try.ntmps16
      go_wp2_with fail
      refine hC.mono ?_
      rintro e w1 ⟨rfl, m, rfl⟩
      go_wp2_with fail
      go_end0
      refine ⟨rfl, ?_, fun B hB => (((pw_below_drewN (Below.refl _ _) m).setCell hB _).setCell hB _).setCell hB _⟩
      have hb := (((h3.drewN m).set_ 0 (.int .u8 0)).set_ 1 (.int .i64 (z : Int))).set_ 2 (.int .i64 ((a : Int) - (p : Int)))
      have ht : tokOf (nat l) a (z, a - p) = ⟨0, z, a - p⟩ := by unfold tokOf; rw [if_neg (by show ¬ z = 0; omega)]
      rw [ht]
      have he : tokC ⟨0, z, a - p⟩ = #[.int .u8 0, .int .i64 (z : Int), .int .i64 ((a : Int) - (p : Int))] := by
        unfold tokC
        rw [show ((a - p : Nat) : Int) = (a : Int) - (p : Int) by omega]
        rfl
      rw [he]
      exact hb
    · have hT2 : tryAt (nat l) a p bst = bst := by rw [HT.out, if_neg (fun c => by have := c.2; rw [Hs.out] at this; exact c2 this)]
      rw [hT2]
      have d2 : decide ((s : Int) < (z : Int)) = false := decide_eq_false (by omega)
      go_enter Try.func16, Try.ntmps16
      go_wp2_with fail
      refine hC.mono ?_
      rintro e w1 ⟨rfl, m, rfl⟩
      go_wp2_with fail
      go_end0
      exact ⟨rfl, h3.drewN m, fun _ _ => pw_below_drewN (Below.refl _ _) m⟩
end Go.Proofs.Ytgfjbbjdkmgdjaa.Ext
