/- The walk of the reference's Same: two rows of numbered inputs. -/
import Derived.Test.YtmkmggbafboelaaRefR
namespace Go.Proofs.Ytmkmggbafboelaa
open Go.RowKit
theorem run_numne (s : Int) (e : Ev) (w : World) : (binOp .neq 28 (numV s e) (numV s e)).run Try.prog w = .ok (.bool false) w := by simp [go_sem]
theorem same_walk (w0 w : World) (L : List Asn) (l : List (Int × Ev)) (v u : Value) (i j : Nat) (hS : Sep w0 w L) (hi : L[i]? = some (NumRow v l)) (hj : L[j]? = some (NumRow u l)) (hn : l.length < 1000000) :
    Calls Try.prog 19 #[v, u] w fun en w' => en = .returned (.bool true) ∧ ∃ k, w' = w.drewN k := by
  have ho := hS.own i hi
  have hp := hS.own j hj
  obtain ⟨a, c, hv, -, -⟩ := own_slice ho
  obtain ⟨b, d, hu, -, -⟩ := own_slice hp
  obtain ⟨n, hn'⟩ : ∃ n, l.length = n := ⟨_, rfl⟩
  rw [hn'] at ho hp hv hu hn
  have Hn := Lib.hid hn'
  clear hn'
  have HO := Lib.hid ho
  have HP := Lib.hid hp
  subst hv; subst hu
  clear ho hp
  go_enter Try.func19, Try.ntmps19
  go_wp2_with fail
  go_loopw [5] (fun p wr => ∃ k q : Nat, k ≤ n ∧ p = .int .i64 (k : Int) ∧ Hid (wr = w.drewN q)) (fun p _ => n - (intOf p).toNat)
  case atStart => exact ⟨0, 0, Nat.zero_le _, rfl, rfl⟩
  case round =>
    obtain ⟨k, q, hk, rfl, hw⟩ := hrel
    have hw' : wr = w.drewN q := hw.out
    subst hw'
    clear hw
    by_cases hlt : k < n
    · have hlt' : (k : Int) < (n : Int) := by omega
      obtain ⟨a', c', hv, hc, h1⟩ := own_cells HO.out (by omega)
      injection hv with e1 e2 e3
      subst e1; subst e3
      obtain ⟨b', d', hv, hd, h2⟩ := own_cells HP.out (by omega)
      injection hv with e1 e2 e3
      subst e1; subst e3
      have hl : k < l.length := by have := Hn.out; omega
      have hg := numsC_get l k hl
      obtain ⟨s, hs⟩ : ∃ s, l[k].1 = s := ⟨_, rfl⟩
      obtain ⟨e, he⟩ : ∃ e, l[k].2 = e := ⟨_, rfl⟩
      rw [hs, he] at hg
      have r0 : w.cell? ⟨a', k * 5, none⟩ = some (.int .u32 s) := h1 _ _ (hg 0 _ rfl)
      have r1 := h1 _ _ (hg 1 _ rfl)
      have r2 := h1 _ _ (hg 2 _ rfl)
      have r3 := h1 _ _ (hg 3 _ rfl)
      have r4 := h1 _ _ (hg 4 _ rfl)
      have t0 : w.cell? ⟨b', k * 5, none⟩ = some (.int .u32 s) := h2 _ _ (hg 0 _ rfl)
      have t1 := h2 _ _ (hg 1 _ rfl)
      have t2 := h2 _ _ (hg 2 _ rfl)
      have t3 := h2 _ _ (hg 3 _ rfl)
      have t4 := h2 _ _ (hg 4 _ rfl)
      have s3 : (k : Int).toNat = k := rfl
      have s4 : (0 : Int) ≤ (k : Int) := by omega
      clear h1 h2 hg hs he
      go_upto_region 6 with (fail)
      go_quiet (fail)
      go_wp2_with fail
      exact ⟨⟨k + 1, q + nq, hlt, by go_num, rfl⟩, by simp [intOf]; omega⟩
    · go_wp2_with fail
      go_ret
      exact ⟨rfl, _, rfl⟩
end Go.Proofs.Ytmkmggbafboelaa
