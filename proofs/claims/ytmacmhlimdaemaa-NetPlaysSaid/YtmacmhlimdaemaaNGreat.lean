/- great: more acts, or bytes, than the net's laws look at. -/
import Derived.Test.YtmacmhlimdaemaaNRows
import Derived.Test.YtmacmhlimdaemaaActIn
namespace Go.Proofs.Ytmacmhlimdaemaa.Net
open Go.RowKit Go.Proofs.YtmacmhlimdaemaaW.PrintWords Go.Proofs.Ytmacmhlimdaemaa.R Go.Proofs.Ytmacmhlimdaemaa.Pkt
def greatB (l : List Act) : Bool := decide (400 < l.length) || l.any fun a => decide (2000 < a.f.b.length)
theorem great_no {l : List Act} (h : greatB l = false) : l.length ≤ 400 ∧ ∀ a ∈ l, a.f.b.length ≤ 2000 := by
  unfold greatB at h
  rw [Bool.or_eq_false_iff] at h
  refine ⟨by have := of_decide_eq_false h.1; omega, fun a ha => ?_⟩
  have := List.any_eq_false.1 h.2 a ha
  simp only [decide_eq_true_eq] at this
  omega
theorem great_any (l : List Act) (A : Option Addr) (c : Nat) (w : World) (hr : Reads w w.heap.size 7 A l.length (l.flatMap Act.cs)) : Calls Try.prog 29 #[.slice A l.length c] w fun en w' => en = .returned (.bool (greatB l)) ∧ w = w' := by
  have HR := Lib.hid hr
  obtain ⟨n, hn⟩ : ∃ n, l.length = n := ⟨_, rfl⟩
  have Hn := Lib.hid hn
  rw [hn]
  clear hr
  by_cases hbig : 400 < n
  · have hb : decide ((400 : Int) < (n : Int)) = true := decide_eq_true (by omega)
    have hg : Hid (greatB l = true) := Lib.hid (by unfold greatB; rw [hn, decide_eq_true hbig]; rfl)
    clear hn
    go_enter Try.func29, Try.ntmps29
    go_wp2_with fail
    go_ret
    exact ⟨by rw [hg.out]; rfl, rfl⟩
  have hb : decide ((400 : Int) < (n : Int)) = false := decide_eq_false (by omega)
  clear hn
  go_enter Try.func29, Try.ntmps29
  go_wp2_with fail
  go_loopw [3] (fun p wr => ∃ k : Nat, k ≤ n ∧ p = .int .i64 (k : Int) ∧ Hid (∀ a ∈ l.take k, a.f.b.length ≤ 2000) ∧ Hid (wr = w)) (fun p _ => n - (intOf p).toNat)
  case atStart => exact ⟨0, Nat.zero_le _, rfl, Lib.hid (by simp), Lib.hid rfl⟩
  case round =>
    obtain ⟨k, hk, rfl, hp, hw⟩ := hrel
    have hw' : wr = w := hw.out
    subst hw'
    clear hw
    by_cases hlt : k < n
    · have hlt' : (k : Int) < (n : Int) := by omega
      have hkl : k < l.length := by have := Hn.out; omega
      obtain ⟨b, o, rfl, hbB, hcell⟩ := HR.out.elem (cells := Act.cs) (fun _ => rfl) (by decide) hkl
      obtain ⟨a, hla⟩ : ∃ a, l[k] = a := ⟨_, rfl⟩
      rw [hla] at hcell
      have r5 : wr.cell? ⟨b, o + k * 7 + 5, none⟩ = some (.slice a.A a.f.b.length a.c) := hcell 5 _ rfl
      have Hla := Lib.hid hla
      obtain ⟨m, hm⟩ : ∃ m, a.f.b.length = m := ⟨_, rfl⟩
      rw [hm] at r5
      have Hm := Lib.hid hm
      have s3 : (k : Int).toNat = k := rfl
      have s4 : (0 : Int) ≤ (k : Int) := by omega
      clear hcell hla hm
      by_cases h2 : 2000 < m
      · have hd : decide ((2000 : Int) < (m : Int)) = true := decide_eq_true (by omega)
        have hg : Hid (greatB l = true) := Lib.hid (by
          unfold greatB
          rw [Bool.or_eq_true]
          refine .inr (List.any_eq_true.2 ⟨a, Hla.out ▸ List.getElem_mem hkl, decide_eq_true ?_⟩)
          rw [Hm.out]; exact h2)
        go_wp2_with fail
        go_ret
        exact ⟨by rw [hg.out]; rfl, rfl⟩
      · have hd : decide ((2000 : Int) < (m : Int)) = false := decide_eq_false (by omega)
        have hp2 : Hid (∀ a ∈ l.take (k + 1), a.f.b.length ≤ 2000) := Lib.hid (by
          intro x hx
          rw [List.take_add_one, List.getElem?_eq_getElem hkl, Hla.out] at hx
          rcases List.mem_append.1 hx with hx | hx
          · exact hp.out x hx
          · obtain rfl : x = a := by simpa using hx
            rw [Hm.out]; omega)
        go_wp2_with fail
        go_roundw
        case measure => simp [intOf]; omega
        case rel => exact ⟨k + 1, hlt, by go_num, hp2, Lib.hid trivial⟩
    · have hg : Hid (greatB l = false) := Lib.hid (by
        have hn := Hn.out
        unfold greatB
        rw [Bool.or_eq_false_iff]
        refine ⟨decide_eq_false (by omega), List.any_eq_false.2 fun x hx => ?_⟩
        have := hp.out x (by rw [List.take_of_length_le (by omega)]; exact hx)
        simp only [decide_eq_true_eq]
        omega)
      go_wp2_with fail
      go_ret
      exact ⟨by rw [hg.out]; rfl, rfl⟩
end Go.Proofs.Ytmacmhlimdaemaa.Net
