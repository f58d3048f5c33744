/- The walk of the reference's Rest. -/
import Derived.Test.YtmkmggbafboelaaRefG
namespace Go.Proofs.Ytmkmggbafboelaa
open Go.RowKit
/-- the cells of an own row, one by one -/
theorem own_cells {w : World} {base : Nat} {e : TypeId} {size n : Nat} {v : Value} {xs : List Value} (h : w.ownsRow base e size v n xs) (hn : 0 < n) : ∃ b c, v = .slice (some ⟨b, 0, none⟩) n c ∧ n ≤ c ∧ ∀ j u, xs[j]? = some u → w.cell? ⟨b, j, none⟩ = some u := by
  obtain ⟨a, c, hv, hc, -⟩ := own_slice h
  obtain ⟨g, cap, hv2, _, _⟩ := h.form hn
  rw [hv2] at hv
  injection hv with h1 h2 h3
  subst h1; subst h3
  refine ⟨g, cap, hv2, hc, fun j u hu => ?_⟩
  have := h.cells (g := g) (by rw [hv2]; rfl) j u hu
  have he : (⟨g, 0, none⟩ : Addr).add j = ⟨g, j, none⟩ := by unfold Addr.add; split <;> simp_all
  rwa [he] at this
set_option maxRecDepth 100000 in
theorem xrest_open (w0 w : World) (g : Nat) (v : Value) (all : List Ev) (gone : Nat) (M : List Asn) (hS : Sep w0 w (cell g 52 #[v, .int .i64 (gone : Int)] :: row 26 4 v all.length (evsC all) :: M)) (hle : gone ≤ all.length) (hn : all.length < 1000000) :
    Calls Try.prog 20 #[.pointer (some ⟨g, 0, none⟩)] w fun en w' => ∃ u, en = .returned u ∧ Sep w0 w' (NumRow u (restL all gone) :: cell g 52 #[v, .int .i64 (gone : Int)] :: row 26 4 v all.length (evsC all) :: M) := by
  obtain ⟨n, hn'⟩ : ∃ n, all.length = n := ⟨_, rfl⟩
  rw [hn'] at hS hle hn
  have Hn := Lib.hid hn'
  clear hn'
  obtain ⟨i28, hi, hz0, hz1, hz2⟩ := info_parts info28
  have hI := Lib.hid hi
  have Hz0 := Lib.hid hz0
  have Hz1 := Lib.hid hz1
  have Hz2 := Lib.hid hz2
  clear hi hz0 hz1 hz2
  obtain ⟨a, c, hv, -, -⟩ := own_slice (hS.own 1 rfl)
  have Hv := Lib.hid hv
  subst hv
  have ⟨c0, c1⟩ := (hS.blk 0 rfl).two
  replace hS := hS.nilRowF 28 5
  go_enter Try.func20, Try.ntmps20
  go_wp2_with fail
  clear c0 c1
  go_loopw [3, 4] (fun v p wr => ∃ k : Nat, gone + k ≤ n ∧ p = .int .i64 ((gone + k : Nat) : Int) ∧ Sep w0 wr (row 28 5 v k (numsC ((restL all gone).take k)) :: cell g 52 #[.slice a n c, .int .i64 (gone : Int)] :: row 26 4 (.slice a n c) n (evsC all) :: M)) (fun _ p _ => n - (intOf p).toNat)
  case atStart => exact ⟨0, hle, rfl, hS⟩
  case round =>
    clear hS
    obtain ⟨k, hk, rfl, hS⟩ := hrel
    have ⟨c0, c1⟩ := (hS.blk 1 rfl).two
    by_cases hlt : gone + k < n
    · obtain ⟨p, hp⟩ : ∃ p, gone + k = p := ⟨_, rfl⟩
      rw [hp] at hlt ⊢
      have hlt' : (p : Int) < (n : Int) := by omega
      obtain ⟨b, c', hv, hc, hcells⟩ := own_cells (hS.own 2 rfl) (by omega)
      injection hv with h1 h2 h3
      subst h1; subst h3
      have hj : gone + k < all.length := by have := Hn.out; omega
      have hj2 : p < all.length := by have := Hn.out; omega
      obtain ⟨e, he⟩ : ∃ e, all[p] = e := ⟨_, rfl⟩
      have hev := evsC_get all p hj2
      rw [he] at hev
      have r0 : wr.cell? ⟨b, p * 4, none⟩ = some (.int .u8 e.k) := hcells _ _ (hev 0 _ rfl)
      have r1 := hcells _ _ (hev 1 _ rfl)
      have r2 := hcells _ _ (hev 2 _ rfl)
      have r3 := hcells _ _ (hev 3 _ rfl)
      have s1 : IntKind.i64.wrap ((p : Int) + 1) = (p : Int) + 1 := IntWalk.i64_in _ (by omega)
      have s2 : IntKind.u32.wrap ((p : Int) + 1) = (p : Int) + 1 := by simp [IntKind.wrap, IntKind.signed, IntKind.bits]; omega
      have s3 : (p : Int).toNat = p := rfl
      have s4 : (0 : Int) ≤ (p : Int) := by omega
      have He := Lib.hid he
      have Hp := Lib.hid hp
      clear hcells hev he hp
      have hS2 := hS.boxF 28 (numCs ((p : Int) + 1) e).toArray
      have hown := hS2.own 1 rfl
      have hnew := Reads.of_blk (n := 1) (size := 5) (Blk.new wr 28 (numCs ((p : Int) + 1) e).toArray) rfl
      have Hown := Lib.hid hown
      have Hm1 : Hid (k + 1 ≤ maxLen) := Lib.hid (by unfold maxLen; omega)
      have Hm2 : Hid ((k + 1) * 16 ≤ 140737488355328) := Lib.hid (by omega)
      have Hnew := Lib.hid hnew
      have HS2 := Lib.hid hS2
      clear hown hnew hS2
      go_wp2_with (
        at_builtin
        refine wpList_append_any _ rfl (.tmp 18) (.tmp 30) 41 rfl 0 28 i28 _ 5 16 Try.underlying41 hI.out Hz0.out Hz1.out Hz2.out rfl (Nat.succ_pos 4) u3 k (numsC ((restL all gone).take k)) rfl Hown.out (wr.heap.size + 1) (some ⟨wr.heap.size, 0, none⟩) 1 1 (numCs ((p : Int) + 1) e) rfl Hnew.out (numCs_one _ e) Hm1.out Hm2.out (Nat.zero_le _) ?_
        intro v1 w3 hown3 hg3 hat3
        have hS3 := (HS2.out.pushed 1 rfl hown3 hg3 hat3).tail
        clear hown3 hg3 hat3 r0 r1 r2 r3 c0 c1)
      go_roundw
      case measure => simp [intOf]; omega
      case rel =>
        refine ⟨k + 1, by have := Hp.out; omega, by rw [← Hp.out]; congr 1, ?_⟩
        have hje : all[gone + k] = e := by rw [← He.out]; congr 1
        rw [restL_take all gone k hj, hje, numsC_snoc, Hp.out]
        exact hS3
    · obtain ⟨p, hp⟩ : ∃ p, gone + k = p := ⟨_, rfl⟩
      rw [hp] at hlt ⊢
      obtain rfl : p = n := by omega
      have Hp := Lib.hid hp
      clear hp
      have hf : decide ((p : Int) < (p : Int)) = false := decide_eq_false (by omega)
      go_wp2_with fail
      go_ret
      refine ⟨_, rfl, ?_⟩
      have hl : (restL all gone).length = k := by rw [restL_len, Hn.out]; have := Hp.out; omega
      have h := hS
      rw [List.take_of_length_le (by omega)] at h
      unfold NumRow
      rw [hl]
      have h2 : Sep w0 wr (cell g 52 #[.slice a p c, .int .i64 (gone : Int)] :: row 26 4 (.slice a p c) all.length (evsC all) :: row 28 5 u3 k (numsC (restL all gone)) :: M) := by
        rw [Hn.out]
        exact h.perm ((List.Perm.swap _ _ _).trans (.cons _ (.swap _ _ _)))
      exact h2.perm ((List.Perm.cons _ (.swap _ _ _)).trans (.swap _ _ _))
theorem xrest_head (w0 w : World) (g : Nat) (all : List Ev) (gone : Nat) (M : List Asn) (hS : Sep w0 w (XAt g all gone :: M)) (hle : gone ≤ all.length) (hn : all.length < 1000000) :
    Calls Try.prog 20 #[.pointer (some ⟨g, 0, none⟩)] w fun en w' => ∃ v, en = .returned v ∧ Sep w0 w' (NumRow v (restL all gone) :: XAt g all gone :: M) := by
  obtain ⟨v, hS⟩ := hS.openR
  exact (xrest_open w0 w g v all gone M hS hle hn).mono fun _ _ ⟨u, he, h⟩ => ⟨u, he, (Sep.closeR (v := v) (h.perm ((List.Perm.swap _ _ _).trans (.cons _ (.swap _ _ _))))).swap⟩
theorem xrest_two {w0 w : World} {g : Nat} {v : Value} {all : List Ev} {gone : Nat} {L : List Asn} (i j : Nat) (hi : L[i]? = some (cell g 52 #[v, .int .i64 (gone : Int)])) (hj : (L.eraseIdx i)[j]? = some (row 26 4 v all.length (evsC all))) (hS : Sep w0 w L) (hle : gone ≤ all.length) (hn : all.length < 1000000) :
    Calls Try.prog 20 #[.pointer (some ⟨g, 0, none⟩)] w fun en w' => ∃ u, en = .returned u ∧ Sep w0 w' (NumRow u (restL all gone) :: L) :=
  (xrest_open w0 w g v all gone _ (hS.pick2 i j hi hj) hle hn).mono fun _ _ ⟨u, he, h⟩ => ⟨u, he, h.lay2 hi hj⟩
theorem xrest_any {w0 w : World} {g : Nat} {all : List Ev} {gone : Nat} {L : List Asn} (i : Nat) (hi : L[i]? = some (XAt g all gone)) (hS : Sep w0 w L) (hle : gone ≤ all.length) (hn : all.length < 1000000) :
    Calls Try.prog 20 #[.pointer (some ⟨g, 0, none⟩)] w fun en w' => ∃ v, en = .returned v ∧ Sep w0 w' (NumRow v (restL all gone) :: L) :=
  (xrest_head w0 w g all gone _ (hS.pick i hi) hle hn).mono fun _ _ ⟨v, he, h⟩ => ⟨v, he, h.perm (.cons _ (perm_pick hi))⟩
end Go.Proofs.Ytmkmggbafboelaa
