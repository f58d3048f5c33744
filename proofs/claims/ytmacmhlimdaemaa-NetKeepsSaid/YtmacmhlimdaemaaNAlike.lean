/- alike: two rows of flights that are the same. -/
import Derived.Test.YtmacmhlimdaemaaNWakes
import Derived.Deep.QuietTactic
import Derived.LoopTactic
import Derived.LoopN
namespace Go.Proofs.Ytmacmhlimdaemaa.Net
open Go.RowKit Go.Proofs.YtmacmhlimdaemaaW.PrintWords Go.Proofs.Ytmacmhlimdaemaa.R Go.Proofs.Ytmacmhlimdaemaa.Pkt
/-- a row of flights that can be read -/
def FR (w : World) (A : Option Addr) (fs : List Fl) : Prop :=
  ∃ es : List Ent, es.map (·.2) = fs ∧ Reads w w.heap.size 3 A es.length (entC es) ∧ ∀ e ∈ es, ∃ B c, e.1 = .slice B e.2.b.length c ∧ e.2.b.length ≤ c ∧ Kd.C (Kd.int .u8) w B e.2.b.length e.2.b
section
variable {w w' : World} {A B : Option Addr} {fs : List Fl}
theorem FR.elem (h : FR w A fs) {k : Nat} (hk : k < fs.length) : ∃ b o D c, A = some ⟨b, o, none⟩ ∧ w.cell? ⟨b, o + k * 3, none⟩ = some (.int .i64 fs[k].c) ∧ w.cell? ⟨b, o + k * 3 + 1, none⟩ = some (.bool fs[k].d) ∧ w.cell? ⟨b, o + k * 3 + 2, none⟩ = some (.slice D fs[k].b.length c) ∧
    fs[k].b.length ≤ c ∧ Kd.C (Kd.int .u8) w D fs[k].b.length fs[k].b := by
  obtain ⟨es, rfl, hr, he⟩ := h
  have hkl : k < es.length := by simpa using hk
  obtain ⟨b, o, hA, -, hc⟩ := Reads.elem (cells := fun e : Ent => e.2.cells e.1) (fun _ => rfl) (by decide) hr hkl
  obtain ⟨D, c, h1, h2, h3⟩ := he _ (List.getElem_mem hkl)
  have hf : (es.map (·.2))[k] = es[k].2 := by simp
  rw [hf]
  refine ⟨b, o, D, c, hA, hc 0 _ rfl, hc 1 _ rfl, ?_, h2, h3⟩
  rw [← h1]
  exact hc 2 _ rfl
theorem run_text {l : List Int} {n : Nat} {D : Option Addr} {c : Nat} (hn : l.length = n) (hC : Kd.C (Kd.int .u8) w D n l) (q : Nat) : (convert 22 9 (.slice D n c)).run Try.prog (w.drewN q) = .ok (.string (strOfNums l)) (w.drewN q) := by
  subst hn
  have h : Kd.C (Kd.int .u8) (w.drewN q) D l.length l := hC
  exact Kd.C_string Try.underlying22 Try.underlying5 Try.underlying9 h
theorem alike_same (ca cb : Nat) (hA : FR w A fs) (hB : FR w B fs) (hn : fs.length < 1000000) :
    Calls Try.prog 37 #[.slice A fs.length ca, .slice B fs.length cb] w fun en w' => en = .returned (.bool true) ∧ ∃ k, w' = w.drewN k := by
  have HA := Lib.hid hA
  have HB := Lib.hid hB
  obtain ⟨n, hn'⟩ : ∃ n, fs.length = n := ⟨_, rfl⟩
  rw [hn'] at hn ⊢
  have Hn := Lib.hid hn'
  clear hn' hA hB
  go_enter Try.func37, Try.ntmps37
  go_wp2_with fail
  go_loopw [5] (fun p wr => ∃ k q : Nat, k ≤ n ∧ p = .int .i64 (k : Int) ∧ Hid (wr = w.drewN q)) (fun p _ => n - (intOf p).toNat)
  case atStart => exact ⟨0, 0, Nat.zero_le _, rfl, rfl⟩
  case round =>
    obtain ⟨k, q, hk, rfl, hw⟩ := hrel
    have hw' : wr = w.drewN q := hw.out
    subst hw'
    clear hw
    by_cases hlt : k < n
    · have hlt' : (k : Int) < (n : Int) := by omega
      have hl : k < fs.length := by have := Hn.out; omega
      obtain ⟨a, o, D, c, rfl, r0, r1, r2, -, hC⟩ := HA.out.elem hl
      obtain ⟨b, p, E, d, rfl, t0, t1, t2, -, hD⟩ := HB.out.elem hl
      obtain ⟨m, hm⟩ : ∃ m, fs[k].b.length = m := ⟨_, rfl⟩
      have e1 := fun x => run_text (c := c) hm (hm ▸ hC) x
      have e2 := fun x => run_text (c := d) hm (hm ▸ hD) x
      rw [hm] at r2 t2
      clear hC hD hm
      generalize fs[k].c = x0 at *
      generalize fs[k].d = x1 at *
      generalize strOfNums fs[k].b = x2 at *
      have s3 : (k : Int).toNat = k := rfl
      have s4 : (0 : Int) ≤ (k : Int) := by omega
      go_upto_region 6 with (fail)
      go_quiet (fail)
      go_wp2_with fail
      exact ⟨⟨k + 1, q + nq, hlt, by go_num, rfl⟩, by simp [intOf]; omega⟩
    · go_wp2_with fail
      go_ret
      exact ⟨rfl, _, rfl⟩
end
end Go.Proofs.Ytmacmhlimdaemaa.Net
