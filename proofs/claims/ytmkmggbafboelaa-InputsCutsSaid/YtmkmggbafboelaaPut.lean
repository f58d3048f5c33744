/- The walk of the queue's Put. -/
import Derived.Test.YtmkmggbafboelaaLen
import Derived.Deep.RegionHeld3
import Derived.Deep.DeepCutAuto
namespace Go.Proofs.Ytmkmggbafboelaa
open Go.RowKit
theorem put_full (w0 w : World) (g : Nat) (all : List Ev) (gone : Nat) (e : Ev) (M : List Asn) (hS : Sep w0 w (QAt g all gone :: M)) (hn : all.length + 1 < 4294967295) (hf : all.length - gone = 16) :
    Calls Try.prog 9 #[.pointer (some ⟨g, 0, none⟩), e.v] w fun en w' => en = .returned (.tuple #[.int .u32 0, .int .i64 3]) ∧ Sep w0 w' (QAt g all gone :: M) := by
  obtain ⟨cs, hq, hS⟩ := hS.openP
  have HQ := Lib.hid hq
  have h80 := hq.given
  have h81 := hq.away
  have hle := hq.le
  clear hq
  go_enter Try.func9, Try.ntmps9
  go_wp2_with fail
  obtain ⟨W, hW, hS⟩ := hS.boxedF 26 e.cs.toArray
  have hW' : w.alloc (.cells #[.int .u8 e.k, .int .u16 e.x, .int .u16 e.y, .int .u32 e.c] 26) = W := hW
  rw [hW']
  clear hW hW'
  generalize w.heap.size = gx at hS ⊢
  have hb := hS.blk 1 rfl
  have HF := Lib.hid hf
  clear hf
  refine (len_walk g all.length gone W (hb.at_ 80 h80) (hb.at_ 81 h81) hle (by omega)).mono ?_
  rintro en w1 ⟨rfl, k, rfl⟩
  rw [HF.out]
  go_wp2_with fail
  go_ret2
  exact ⟨rfl, ((hS.drewN k).tail).closeP HQ.out⟩
theorem put_room (w0 w : World) (g : Nat) (all : List Ev) (gone : Nat) (e : Ev) (M : List Asn) (hS : Sep w0 w (QAt g all gone :: M)) (hn : all.length + 1 < 4294967295) (hf : ¬ all.length - gone = 16) :
    Calls Try.prog 9 #[.pointer (some ⟨g, 0, none⟩), e.v] w fun en w' => en = .returned (.tuple #[.int .u32 ((all.length : Int) + 1), .int .i64 0]) ∧ Sep w0 w' (QAt g (all ++ [e]) gone :: M) := by
  obtain ⟨cs, hq, hS⟩ := hS.openP
  have HQ := Lib.hid hq
  have h80 := hq.given
  have h81 := hq.away
  have hle := hq.le
  clear hq
  obtain ⟨n, hn'⟩ : ∃ n, all.length = n := ⟨_, rfl⟩
  rw [hn'] at h80 hn hle hf
  rw [hn']
  have Hn := Lib.hid hn'
  clear hn'
  go_enter Try.func9, Try.ntmps9
  go_wp2_with fail
  obtain ⟨W, hW, hS⟩ := hS.boxedF 26 e.cs.toArray
  have hW' : w.alloc (.cells #[.int .u8 e.k, .int .u16 e.x, .int .u16 e.y, .int .u32 e.c] 26) = W := hW
  rw [hW']
  clear hW hW'
  generalize w.heap.size = gx at hS ⊢
  have hb := hS.blk 1 rfl
  refine (len_walk g n gone W (hb.at_ 80 h80) (hb.at_ 81 h81) hle (by omega)).mono ?_
  rintro en w1 ⟨rfl, k, rfl⟩
  replace hS := hS.drewN k
  generalize W.drewN k = W2 at hS ⊢
  replace hb := hS.blk 1 rfl
  have hx := hS.blk 0 rfl
  have f1 : decide (((n - gone : Nat) : Int) = 16) = false := decide_eq_false (by omega)
  have f2 : (((n - gone : Nat) : Int) == 16) = false := by rw [beq_eq_false_iff_ne]; omega
  have f3 : ((n : Int) == 4294967295) = false := by rw [beq_eq_false_iff_ne]; omega
  have c80 := hb.at_ 80 h80
  have z80 := hb.frozen 80
  have f4 : IntKind.u32.wrap ((n : Int) + 1) = (n : Int) + 1 := by simp [IntKind.wrap, IntKind.signed, IntKind.bits]; omega
  go_wp2_with fail
  replace hS := hS.put 1 rfl 80 (.int .u32 ((n : Int) + 1))
  have hcs : (cell gx 26 e.cs.toArray :: cell g 31 cs :: M).set 1 (cell g 31 (cs.setIfInBounds 80 (.int .u32 ((n : Int) + 1)))) = cell gx 26 e.cs.toArray :: cell g 31 (cs.setIfInBounds 80 (.int .u32 ((n : Int) + 1))) :: M := rfl
  rw [hcs] at hS
  clear hcs c80 z80
  generalize W2.setCell ⟨g, 80, none⟩ (.int .u32 ((n : Int) + 1)) = W3 at hS ⊢
  obtain ⟨cs1, hcs1⟩ : ∃ cs1, cs.setIfInBounds 80 (.int .u32 ((n : Int) + 1)) = cs1 := ⟨_, rfl⟩
  rw [hcs1] at hS
  have hz : cs1.size = 82 := by rw [← hcs1, Array.size_setIfInBounds]; exact HQ.out.size
  obtain ⟨r, hr⟩ : ∃ r, (n + 1) % 16 = r := ⟨_, rfl⟩
  have hr16 : r < 16 := by omega
  have c80 : cs1[80]? = some (.int .u32 ((n : Int) + 1)) := by rw [← hcs1, Array.getElem?_setIfInBounds_self_of_lt (by rw [HQ.out.size]; omega)]
  have hb := hS.blk 1 rfl
  have hx := hS.blk 0 rfl
  have ⟨x0, x1, x2, x3⟩ := hx.four
  have y80 := hb.at_ 80 c80
  obtain ⟨v0, r0⟩ := hb.some_ (r * 5) (by omega)
  obtain ⟨v1, r1⟩ := hb.some_ (r * 5 + 1) (by omega)
  obtain ⟨v2, r2⟩ := hb.some_ (r * 5 + 2) (by omega)
  obtain ⟨v3, r3⟩ := hb.some_ (r * 5 + 3) (by omega)
  obtain ⟨v4, r4⟩ := hb.some_ (r * 5 + 4) (by omega)
  have z0 := hb.frozen (r * 5)
  have z1 := hb.frozen (r * 5 + 1)
  have z2 := hb.frozen (r * 5 + 2)
  have z3 := hb.frozen (r * 5 + 3)
  have z4 := hb.frozen (r * 5 + 4)
  have hm : ((n : Int) + 1).tmod 16 = (r : Int) := by rw [Int.tmod_eq_emod_of_nonneg (by omega)]; omega
  have hm2 : ((n : Int) + 1) % 16 = (r : Int) := by omega
  have ht : (r : Int).toNat = r := rfl
  have i0 : (0 : Int) ≤ (r : Int) := by omega
  have i1 : (r : Int) < 16 := by omega
  have Hr := Lib.hid hr
  have Hcs := Lib.hid hcs1
  have Hz := Lib.hid hz
  clear hr hcs1 hz
  have hS5 : Sep w0 (((((W3.setCell ⟨g, r * 5, none⟩ (.int .u32 ((n : Int) + 1))).setCell ⟨g, r * 5 + 1, none⟩ (.int .u8 e.k)).setCell ⟨g, r * 5 + 2, none⟩ (.int .u16 e.x)).setCell ⟨g, r * 5 + 3, none⟩ (.int .u16 e.y)).setCell ⟨g, r * 5 + 4, none⟩ (.int .u32 e.c)).drew
      (cell gx 26 e.cs.toArray :: cell g 31 (put5 cs1 (r * 5) ((n : Int) + 1) e) :: M) :=
    (((((hS.put 1 rfl (r * 5) (.int .u32 ((n : Int) + 1))).put 1 rfl (r * 5 + 1) (.int .u8 e.k)).put 1 rfl (r * 5 + 2) (.int .u16 e.x)).put 1 rfl (r * 5 + 3) (.int .u16 e.y)).put 1 rfl (r * 5 + 4) (.int .u32 e.c)).drew
  have HS5 := Lib.hid hS5
  have hb5 := hS5.blk 1 rfl
  have ⟨q0, q1, q2, q3⟩ := (hS5.blk 0 rfl).four
  have q4 := hb5.at_ 80 ((put5_out cs1 (r * 5) 80 ((n : Int) + 1) e (by omega)).trans c80)
  have HK := Lib.hid (And.intro q4 (And.intro q0 (And.intro q1 (And.intro q2 q3))))
  clear q0 q1 q2 q3 q4 hb5 hS5 c80
  go_region_held3 (fun w' => w'.cell? ⟨g, 80, none⟩ = some (.int .u32 ((n : Int) + 1)) ∧ w'.cell? ⟨gx, 0, none⟩ = some (.int .u8 e.k) ∧ w'.cell? ⟨gx, 1, none⟩ = some (.int .u16 e.x) ∧ w'.cell? ⟨gx, 2, none⟩ = some (.int .u16 e.y) ∧ w'.cell? ⟨gx, 3, none⟩ = some (.int .u32 e.c)) (first | (with_reducible exact HK.out) | go_keep) (fail)
  have w80 := HK.out.1
  go_wp2_with fail
  go_ret2
  refine ⟨rfl, HS5.out.tail.closeP ?_⟩
  have := HQ.out.put (r := r) (by have := Hn.out; omega) e (by rw [Hn.out]; exact Hr.out)
  rw [Hn.out, Hcs.out] at this
  exact this
/-- Put, whatever there is -/
theorem put_any {w0 w : World} {g : Nat} {all : List Ev} {gone : Nat} (e : Ev) {L : List Asn} (i : Nat) (hi : L[i]? = some (QAt g all gone)) (hS : Sep w0 w L) (hn : all.length + 1 < 4294967295) :
    Calls Try.prog 9 #[.pointer (some ⟨g, 0, none⟩), e.v] w fun en w' => en = .returned (.tuple #[.int .u32 (putN all gone), .int .i64 (putE all gone)]) ∧ Sep w0 w' (L.set i (QAt g (putS all gone e) gone)) := by
  by_cases hf : all.length - gone = 16
  · have h : full all gone = true := decide_eq_true hf
    unfold putN putE putS
    rw [if_pos h, if_pos h, if_pos h]
    exact (put_full w0 w g all gone e _ (hS.pick i hi) hn hf).mono fun en w' ⟨he, h⟩ => ⟨he, h.back hi⟩
  · have h : ¬ full all gone = true := fun h => hf (of_decide_eq_true h)
    unfold putN putE putS
    rw [if_neg h, if_neg h, if_neg h]
    exact (put_room w0 w g all gone e _ (hS.pick i hi) hn hf).mono fun en w' ⟨he, h⟩ => ⟨he, h.back hi⟩
theorem put_nil (e : Ev) (w : World) : Calls Try.prog 9 #[.pointer none, e.v] w fun en w' => en = .returned (.tuple #[.int .u32 0, .int .i64 8]) ∧ Below w.heap.size w w' := by
  go_enter Try.func9, Try.ntmps9
  go_wp2_with fail
  go_ret2
  exact ⟨rfl, (Below.refl _ _).alloc (Nat.le_refl _) _⟩
theorem len_any {w0 w : World} {g : Nat} {all : List Ev} {gone : Nat} {L : List Asn} (i : Nat) (hi : L[i]? = some (QAt g all gone)) (hS : Sep w0 w L) (hn : all.length < 4294967296) :
    Calls Try.prog 10 #[.pointer (some ⟨g, 0, none⟩)] w fun en w' => en = .returned (.int .i64 ((all.length - gone : Nat) : Int)) ∧ Sep w0 w' L := by
  obtain ⟨cs, hq, hS1⟩ := (hS.pick i hi).openP
  have hb := hS1.blk 0 rfl
  exact (len_walk g _ _ w (hb.at_ 80 hq.given) (hb.at_ 81 hq.away) hq.le hn).mono fun en w' ⟨he, k, hk⟩ => ⟨he, hk ▸ hS.drewN k⟩
theorem given_any {w0 w : World} {g : Nat} {all : List Ev} {gone : Nat} {L : List Asn} (i : Nat) (hi : L[i]? = some (QAt g all gone)) (hS : Sep w0 w L) :
    Calls Try.prog 21 #[.pointer (some ⟨g, 0, none⟩)] w fun en w' => en = .returned (.int .u32 (all.length : Int)) ∧ w = w' := by
  obtain ⟨cs, hq, hS1⟩ := (hS.pick i hi).openP
  exact given_walk g _ w ((hS1.blk 0 rfl).at_ 80 hq.given)
theorem last_any {w0 w : World} {g n : Nat} {L : List Asn} (i : Nat) (hi : L[i]? = some (GAt g n)) (hS : Sep w0 w L) :
    Calls Try.prog 13 #[.pointer (some ⟨g, 0, none⟩)] w fun en w' => en = .returned (.int .u32 (n : Int)) ∧ w = w' :=
  last_walk g n w ((hS.blk i hi).one)
end Go.Proofs.Ytmkmggbafboelaa
