/- The walk of the queue's Rest. -/
import Derived.Test.YtmkmggbafboelaaPut
import Derived.LoopTactic
import Derived.LoopN
namespace Go.Proofs.Ytmkmggbafboelaa
open Go.RowKit
theorem info28 : (Try.prog.info? 28).map (fun i => (i.zero, i.size, i.bytes)) = some (some (.agg #[.int .u32 0, .int .u8 0, .int .u16 0, .int .u16 0, .int .u32 0]), 5, 16) := by kernel_rfl
theorem numCs_one (s : Int) (e : Ev) : ∀ u ∈ numCs s e, u.oneCell' = true := by
  intro u hu
  simp only [numCs, List.mem_cons, List.not_mem_nil, or_false] at hu
  rcases hu with h | h | h | h | h <;> subst h <;> rfl
theorem restL_len (all : List Ev) (gone : Nat) : (restL all gone).length = all.length - gone := by simp [restL]
theorem restL_get (all : List Ev) (gone k : Nat) (h : gone + k < all.length) : (restL all gone)[k]? = some (((gone + k : Nat) : Int) + 1, all[gone + k]) := by
  unfold restL
  rw [List.getElem?_map, List.getElem?_range' (by omega)]
  simp [List.getD_eq_getElem?_getD, h]
theorem restL_take (all : List Ev) (gone k : Nat) (h : gone + k < all.length) : (restL all gone).take (k + 1) = (restL all gone).take k ++ [(((gone + k : Nat) : Int) + 1, all[gone + k])] := by
  rw [List.take_add_one, restL_get all gone k h]
  rfl
set_option maxRecDepth 100000 in
theorem rest_head (w0 w : World) (g : Nat) (all : List Ev) (gone : Nat) (M : List Asn) (hS : Sep w0 w (QAt g all gone :: M)) (hn : all.length < 4294967280) :
    Calls Try.prog 11 #[.pointer (some ⟨g, 0, none⟩)] w fun en w' => ∃ v, en = .returned v ∧ Sep w0 w' (NumRow v (restL all gone) :: QAt g all gone :: M) := by
  obtain ⟨cs, hq, hS⟩ := hS.openP
  have h80 := hq.given
  have h81 := hq.away
  have hle := hq.le
  have hroom := hq.room
  have HQ := Lib.hid hq
  clear hq
  obtain ⟨n, hn'⟩ : ∃ n, all.length = n := ⟨_, rfl⟩
  rw [hn'] at h80 hn hle hroom
  have Hn := Lib.hid hn'
  clear hn'
  obtain ⟨i28, hi, hz0, hz1, hz2⟩ := info_parts info28
  have hI := Lib.hid hi
  have Hz0 := Lib.hid hz0
  have Hz1 := Lib.hid hz1
  have Hz2 := Lib.hid hz2
  clear hi hz0 hz1 hz2
  have hb := hS.blk 0 rfl
  go_enter Try.func11, Try.ntmps11
  go_wp2_with fail
  refine (len_walk g n gone w (hb.at_ 80 h80) (hb.at_ 81 h81) hle (by omega)).mono ?_
  rintro en w1 ⟨rfl, kk, rfl⟩
  replace hS := (hS.drewN kk).nilRowF 28 5
  generalize w.drewN kk = W at hS ⊢
  clear hb
  obtain ⟨d, hd⟩ : ∃ d, n - gone = d := ⟨_, rfl⟩
  rw [hd]
  have hd16 : d ≤ 16 := by omega
  have Hd := Lib.hid hd
  clear hd
  go_wp2_with fail
  go_loopw [3, 7] (fun v p wr => ∃ k : Nat, k ≤ d ∧ p = .int .i64 (k : Int) ∧ Sep w0 wr (row 28 5 v k (numsC ((restL all gone).take k)) :: cell g 31 cs :: M)) (fun _ p _ => d - (intOf p).toNat)
  case atStart => exact ⟨0, Nat.zero_le _, rfl, hS⟩
  case round =>
    clear hS
    obtain ⟨k, hk, rfl, hS⟩ := hrel
    by_cases hlt : k < d
    · have hlt' : (k : Int) < (d : Int) := by omega
      go_upto_region 5 with (fail)
      have hj : gone + k < all.length := by have := Hn.out; have := Hd.out; omega
      obtain ⟨r, hr⟩ : ∃ r, (gone + k + 1) % 16 = r := ⟨_, rfl⟩
      have hr16 : r < 16 := by omega
      obtain ⟨e, he⟩ : ∃ e, all[gone + k] = e := ⟨_, rfl⟩
      obtain ⟨q, hq⟩ : ∃ q : Int, ((gone + k : Nat) : Int) + 1 = q := ⟨_, rfl⟩
      have hring := HQ.out.ring (gone + k) hj (by omega)
      rw [hr, he, hq] at hring
      have hb := hS.blk 1 rfl
      have r0 := hb.at_ (r * 5) (hring 0 _ rfl)
      have r1 := hb.at_ (r * 5 + 1) (hring 1 _ rfl)
      have r2 := hb.at_ (r * 5 + 2) (hring 2 _ rfl)
      have r3 := hb.at_ (r * 5 + 3) (hring 3 _ rfl)
      have r4 := hb.at_ (r * 5 + 4) (hring 4 _ rfl)
      have c81 := hb.at_ 81 h81
      have HK := Lib.hid (fun (w' : World) (hb : Blk w' g 31 cs) => And.intro (hb.at_ 81 h81) (And.intro (hb.at_ (r * 5) (hring 0 _ rfl)) (And.intro (hb.at_ (r * 5 + 1) (hring 1 _ rfl)) (And.intro (hb.at_ (r * 5 + 2) (hring 2 _ rfl)) (And.intro (hb.at_ (r * 5 + 3) (hring 3 _ rfl)) (hb.at_ (r * 5 + 4) (hring 4 _ rfl)))))))
      have s1 : IntKind.u32.wrap ((gone : Int) + 1) = (gone : Int) + 1 := by simp [IntKind.wrap, IntKind.signed, IntKind.bits]; omega
      have s2 : IntKind.u32.wrap (k : Int) = (k : Int) := by simp [IntKind.wrap, IntKind.signed, IntKind.bits]; omega
      have s3 : IntKind.u32.wrap ((gone : Int) + 1 + (k : Int)) = (gone : Int) + 1 + (k : Int) := by simp [IntKind.wrap, IntKind.signed, IntKind.bits]; omega
      have s4 : ((gone : Int) + 1 + (k : Int)).tmod 16 = (r : Int) := by rw [Int.tmod_eq_emod_of_nonneg (by omega)]; omega
      have s5 : (r : Int).toNat = r := rfl
      have s6 : (0 : Int) ≤ (r : Int) := by omega
      have s7 : (r : Int) < 16 := by omega
      have Hr := Lib.hid hr
      have He := Lib.hid he
      have Hq := Lib.hid hq
      have hlen : k ≤ 16 := by omega
      have hS2 := (hS.boxF 28 (numCs q e).toArray).drew
      have hown := hS2.own 1 rfl
      have hnew := Reads.of_blk (n := 1) (size := 5) ((Blk.new wr 28 (numCs q e).toArray).drew) rfl
      have Hown := Lib.hid hown
      have Hnew := Lib.hid hnew
      have HS2 := Lib.hid hS2
      clear hr he hq hring hb hown hnew hS2
      go_region_held3 (fun w' => w'.cell? ⟨g, 81, none⟩ = some (.int .u32 (gone : Int)) ∧ w'.cell? ⟨g, r * 5, none⟩ = some (.int .u32 q) ∧ w'.cell? ⟨g, r * 5 + 1, none⟩ = some (.int .u8 e.k) ∧ w'.cell? ⟨g, r * 5 + 2, none⟩ = some (.int .u16 e.x) ∧ w'.cell? ⟨g, r * 5 + 3, none⟩ = some (.int .u16 e.y) ∧ w'.cell? ⟨g, r * 5 + 4, none⟩ = some (.int .u32 e.c))
        (first | (with_reducible exact HK.out _ hb3) | go_keep)
        (first | (refine step_append_any (P := Try.prog) _ rfl (.tmp 10) (.tmp 25) 41 rfl 0 28 i28 _ 5 16 Try.underlying41 hI.out Hz0.out Hz1.out Hz2.out rfl (by omega) u3 k _ rfl Hown.out (wr.heap.size + 1) (some ⟨wr.heap.size, 0, none⟩) 1 1 (numCs q e) rfl Hnew.out (numCs_one q e) (by unfold maxLen; omega) (by omega) (Nat.zero_le _) ?_; intro v1 w3 hown3 hg3 hat3; have hS3 := (HS2.out.pushed 1 rfl hown3 hg3 hat3).tail; have hb3 : Blk w3 g 31 cs := hS3.blk 1 rfl; clear hown3 hg3 hat3))
      clear r0 r1 r2 r3 r4 c81 hb3
      go_wp2_with fail
      go_roundw
      case measure => simp [intOf]; omega
      case rel =>
        refine ⟨k + 1, hlt, by go_num, ?_⟩
        rw [restL_take all gone k hj, He.out, Hq.out, numsC_snoc]
        exact hS3
    · obtain rfl : k = d := by omega
      have hf : decide ((k : Int) < (k : Int)) = false := decide_eq_false (by omega)
      go_wp2_with fail
      go_ret
      refine ⟨_, rfl, ?_⟩
      have hl : (restL all gone).length = k := by rw [restL_len, Hn.out, Hd.out]
      have h := hS
      rw [List.take_of_length_le (by omega)] at h
      unfold NumRow
      rw [hl]
      exact ((h.swap).closeP HQ.out).swap
theorem rest_any {w0 w : World} {g : Nat} {all : List Ev} {gone : Nat} {L : List Asn} (i : Nat) (hi : L[i]? = some (QAt g all gone)) (hS : Sep w0 w L) (hn : all.length < 4294967280) :
    Calls Try.prog 11 #[.pointer (some ⟨g, 0, none⟩)] w fun en w' => ∃ v, en = .returned v ∧ Sep w0 w' (NumRow v (restL all gone) :: L) :=
  (rest_head w0 w g all gone _ (hS.pick i hi) hn).mono fun _ _ ⟨v, he, h⟩ => ⟨v, he, h.perm (.cons _ (perm_pick hi))⟩
theorem rest_nil (w : World) : Calls Try.prog 11 #[.pointer none] w fun en w' => en = .returned (.slice none 0 0) ∧ w = w' := by
  go_enter Try.func11, Try.ntmps11
  go_wp2_with fail
  refine (len_nil w).mono ?_
  rintro en w1 ⟨rfl, rfl⟩
  go_wp2_with fail
  refine wp_loop_rounds 1 ?_
  rw [rounds_succ]
  go_wp2_with fail
  go_ret
  exact ⟨rfl, rfl⟩
end Go.Proofs.Ytmkmggbafboelaa
