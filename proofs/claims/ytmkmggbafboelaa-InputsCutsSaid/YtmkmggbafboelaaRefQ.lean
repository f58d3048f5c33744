/- The walks of the reference's queue: Put and Drop. -/
import Derived.Test.YtmkmggbafboelaaRest
import Derived.Deep.RegionLaw
namespace Go.Proofs.Ytmkmggbafboelaa
open Go.RowKit
theorem info26 : (Try.prog.info? 26).map (fun i => (i.zero, i.size, i.bytes)) = some (some (.agg #[.int .u8 0, .int .u16 0, .int .u16 0, .int .u32 0]), 4, 12) := by kernel_rfl
theorem ev_one (e : Ev) : ∀ u ∈ e.cs, u.oneCell' = true := by
  intro u hu
  simp only [Ev.cs, List.mem_cons, List.not_mem_nil, or_false] at hu
  rcases hu with h | h | h | h <;> subst h <;> rfl
/-- the length of an own row, and that it is a slice -/
theorem own_slice {w : World} {base : Nat} {e : TypeId} {size n : Nat} {v : Value} {xs : List Value} (h : w.ownsRow base e size v n xs) : ∃ a c, v = .slice a n c ∧ n ≤ c ∧ c ≤ maxLen := by
  rcases h.2 with ⟨rfl, rfl⟩ | ⟨g, cap, cur, rfl, _, _, h1, h2, _⟩
  · exact ⟨none, 0, rfl, Nat.le_refl _, Nat.zero_le _⟩
  · exact ⟨_, cap, rfl, h1, h2⟩
theorem xput_full (w0 w : World) (g : Nat) (all : List Ev) (gone : Nat) (e : Ev) (M : List Asn) (hS : Sep w0 w (XAt g all gone :: M)) (hle : gone ≤ all.length) (hn : all.length < 1000000) (hf : all.length - gone = 16) :
    Calls Try.prog 16 #[.pointer (some ⟨g, 0, none⟩), e.v] w fun en w' => en = .returned (.tuple #[.int .u32 0, .int .i64 3]) ∧ Sep w0 w' (XAt g all gone :: M) := by
  obtain ⟨v, hS⟩ := hS.openR
  obtain ⟨a, c, hv, -, -⟩ := own_slice (hS.own 1 rfl)
  obtain ⟨n, hn'⟩ : ∃ n, all.length = n := ⟨_, rfl⟩
  rw [hn'] at hv hle hn hf
  subst hv
  have Hn := Lib.hid hn'
  clear hn'
  go_enter Try.func16, Try.ntmps16
  go_wp2_with fail
  obtain ⟨W, hW, hS⟩ := hS.boxedF 26 e.cs.toArray
  have hW' : w.alloc (.cells #[.int .u8 e.k, .int .u16 e.x, .int .u16 e.y, .int .u32 e.c] 26) = W := hW
  rw [hW']
  clear hW hW'
  have ⟨c0, c1⟩ := (hS.blk 1 rfl).two
  have s1 : IntKind.i64.wrap ((n : Int) - (gone : Int)) = 16 := by rw [IntWalk.i64_in _ (by omega)]; omega
  clear hf
  go_quiet (fail)
  go_wp2_with fail
  go_ret2
  exact ⟨rfl, (hS.drewN nq).tail.closeR⟩
set_option maxRecDepth 100000 in
theorem xput_room (w0 w : World) (g : Nat) (all : List Ev) (gone : Nat) (e : Ev) (M : List Asn) (hS : Sep w0 w (XAt g all gone :: M)) (hle : gone ≤ all.length) (hn : all.length < 1000000) (hf : all.length - gone < 16) :
    Calls Try.prog 16 #[.pointer (some ⟨g, 0, none⟩), e.v] w fun en w' => en = .returned (.tuple #[.int .u32 ((all.length : Int) + 1), .int .i64 0]) ∧ Sep w0 w' (XAt g (all ++ [e]) gone :: M) := by
  obtain ⟨v, hS⟩ := hS.openR
  obtain ⟨a, c, hv, -, -⟩ := own_slice (hS.own 1 rfl)
  obtain ⟨n, hn'⟩ : ∃ n, all.length = n := ⟨_, rfl⟩
  rw [hn'] at hv hle hn hf
  rw [hn']
  subst hv
  have Hn := Lib.hid hn'
  clear hn'
  obtain ⟨i26, hi, hz0, hz1, hz2⟩ := info_parts info26
  have hI := Lib.hid hi
  have Hz0 := Lib.hid hz0
  have Hz1 := Lib.hid hz1
  have Hz2 := Lib.hid hz2
  clear hi hz0 hz1 hz2
  go_enter Try.func16, Try.ntmps16
  go_wp2_with fail
  obtain ⟨W, hW, hS⟩ := hS.boxedF 26 e.cs.toArray
  have hW' : w.alloc (.cells #[.int .u8 e.k, .int .u16 e.x, .int .u16 e.y, .int .u32 e.c] 26) = W := hW
  rw [hW']
  clear hW hW'
  generalize w.heap.size = gx at hS ⊢
  have ⟨c0, c1⟩ := (hS.blk 1 rfl).two
  have s1 : IntKind.i64.wrap ((n : Int) - (gone : Int)) = (n : Int) - (gone : Int) := IntWalk.i64_in _ (by omega)
  have s2 : decide ((16 : Int) ≤ (n : Int) - (gone : Int)) = false := decide_eq_false (by omega)
  go_quiet (fail)
  replace hS := hS.drewN nq
  clear c0 c1 s1 s2
  generalize W.drewN nq = W1 at hS ⊢
  go_wp2_with fail
  have ⟨c0, c1⟩ := (hS.blk 1 rfl).two
  have ⟨x0, x1, x2, x3⟩ := (hS.blk 0 rfl).four
  have c0a : ∀ ob : Obj, (W1.alloc ob).cell? ⟨g, 0, none⟩ = some (.slice a n c) := fun ob => ((hS.blk 1 rfl).alloc ob).two.1
  have HK := Lib.hid (fun (w' : World) (hb : Blk w' gx 26 e.cs.toArray) => hb.four)
  have hS2 := (hS.boxF 26 e.cs.toArray).drew
  have hown := hS2.own 3 rfl
  rw [Hn.out] at hown
  have hnew := Reads.of_blk (n := 1) (size := 4) ((Blk.new W1 26 e.cs.toArray).drew) rfl
  have Hown := Lib.hid hown
  have Hm1 : Hid (n + 1 ≤ maxLen) := Lib.hid (by unfold maxLen; omega)
  have Hm2 : Hid ((n + 1) * 12 ≤ 140737488355328) := Lib.hid (by omega)
  have Hnew := Lib.hid hnew
  have HS2 := Lib.hid hS2
  clear hown hnew hS2
  go_region_law
    (first | (refine step_append_any (P := Try.prog) _ rfl (.tmp 21) (.tmp 23) 34 rfl 0 26 i26 _ 4 12 Try.underlying34 hI.out Hz0.out Hz1.out Hz2.out rfl (Nat.succ_pos 3) (.slice a n c) n (evsC all) rfl Hown.out (W1.heap.size + 1) (some ⟨W1.heap.size, 0, none⟩) 1 1 e.cs rfl Hnew.out (ev_one e) Hm1.out Hm2.out (Nat.zero_le _) ?_; intro v1 w3 hown3 hg3 hat3; obtain ⟨a1, c1', rfl, -, -⟩ := own_slice hown3; have hS3 := (HS2.out.pushed 3 rfl hown3 hg3 hat3).tail; have d0 := (hS3.blk 1 rfl).two.1; have f0 := (hS3.blk 1 rfl).frozen 0; clear hown3 hg3 hat3))
  all_goals
    have hS4 := hS3.put 1 rfl 0 (.slice a1 (n + 1) c1')
    have d1 : (w3.setCell ⟨g, 0, none⟩ (.slice a1 (n + 1) c1')).cell? ⟨g, 0, none⟩ = some (.slice a1 (n + 1) c1') := (hS4.blk 1 rfl).at_ 0 rfl
    clear hS3 d0 f0 c0 c1 x0 x1 x2 x3 c0a
    generalize w3.setCell ⟨g, 0, none⟩ (.slice a1 (n + 1) c1') = w4 at hS4 d1 ⊢
    have s1 : IntKind.u32.wrap ((n : Int) + 1) = (n : Int) + 1 := by simp [IntKind.wrap, IntKind.signed, IntKind.bits]; omega
    go_wp2_with fail
    go_ret2
    refine ⟨rfl, Sep.closeR (v := .slice a1 (n + 1) c1') ?_⟩
    rw [List.length_append, evsC_snoc, Hn.out]
    exact hS4.tail
/-- Put, whatever there is -/
theorem xput_any {w0 w : World} {g : Nat} {all : List Ev} {gone : Nat} (e : Ev) {L : List Asn} (i : Nat) (hi : L[i]? = some (XAt g all gone)) (hS : Sep w0 w L) (hle : gone ≤ all.length) (hr : all.length ≤ gone + 16) (hn : all.length < 1000000) :
    Calls Try.prog 16 #[.pointer (some ⟨g, 0, none⟩), e.v] w fun en w' => en = .returned (.tuple #[.int .u32 (putN all gone), .int .i64 (putE all gone)]) ∧ Sep w0 w' (L.set i (XAt g (putS all gone e) gone)) := by
  by_cases hf : all.length - gone = 16
  · have h : full all gone = true := decide_eq_true hf
    unfold putN putE putS
    rw [if_pos h, if_pos h, if_pos h]
    exact (xput_full w0 w g all gone e _ (hS.pick i hi) hle hn hf).mono fun en w' ⟨he, h⟩ => ⟨he, h.back hi⟩
  · have h : ¬ full all gone = true := fun h => hf (of_decide_eq_true h)
    unfold putN putE putS
    rw [if_neg h, if_neg h, if_neg h]
    exact (xput_room w0 w g all gone e _ (hS.pick i hi) hle hn (by omega)).mono fun en w' ⟨he, h⟩ => ⟨he, h.back hi⟩
theorem xdrop_over (w0 w : World) (g : Nat) (all : List Ev) (gone : Nat) (m : Int) (M : List Asn) (hS : Sep w0 w (XAt g all gone :: M)) (hm : (all.length : Int) < m) (hm2 : m < 4294967296) :
    Calls Try.prog 17 #[.pointer (some ⟨g, 0, none⟩), .int .u32 m] w fun en w' => en = .returned (.int .i64 1) ∧ w = w' := by
  obtain ⟨v, hS⟩ := hS.openR
  obtain ⟨a, c, hv, -, -⟩ := own_slice (hS.own 1 rfl)
  obtain ⟨n, hn'⟩ : ∃ n, all.length = n := ⟨_, rfl⟩
  rw [hn'] at hv hm
  subst hv
  clear hn'
  have ⟨c0, c1⟩ := (hS.blk 0 rfl).two
  go_enter Try.func17, Try.ntmps17
  go_wp2_with fail
  go_ret
  exact ⟨rfl, rfl⟩
theorem xdrop_sep {w0 w : World} {g : Nat} {all : List Ev} {v : Value} {gone m k : Nat} {M : List Asn} (hS : Sep w0 w (cell g 52 #[v, .int .i64 (gone : Int)] :: row 26 4 v all.length (evsC all) :: M)) (hk : max gone m = k) :
    Sep w0 (w.setCell ⟨g, 1, none⟩ (.int .i64 (k : Int))) (XAt g all (max gone m) :: M) := by
  rw [hk]
  exact Sep.closeR (v := v) (hS.put 0 rfl 1 _)
theorem xdrop_in (w0 w : World) (g : Nat) (all : List Ev) (gone m : Nat) (M : List Asn) (hS : Sep w0 w (XAt g all gone :: M)) (hm : m ≤ all.length) (hn : all.length < 1000000) :
    Calls Try.prog 17 #[.pointer (some ⟨g, 0, none⟩), .int .u32 (m : Int)] w fun en w' => en = .returned (.int .i64 0) ∧ Sep w0 w' (XAt g all (max gone m) :: M) := by
  obtain ⟨v, hS⟩ := hS.openR
  obtain ⟨a, c, hv, -, -⟩ := own_slice (hS.own 1 rfl)
  obtain ⟨n, hn'⟩ : ∃ n, all.length = n := ⟨_, rfl⟩
  rw [hn'] at hv hm hn
  subst hv
  clear hn'
  have ⟨c0, c1⟩ := (hS.blk 0 rfl).two
  have f1 := (hS.blk 0 rfl).frozen 1
  have hd : decide ((n : Int) < (m : Int)) = false := decide_eq_false (by omega)
  go_enter Try.func17, Try.ntmps17
  go_wp2_with fail
  all_goals
    go_ret
    exact ⟨rfl, xdrop_sep hS (by omega)⟩
theorem xdrop_any {w0 w : World} {g : Nat} {all : List Ev} {gone : Nat} {L : List Asn} (m : Int) (h0 : 0 ≤ m) (h2 : m < 4294967296) (i : Nat) (hi : L[i]? = some (XAt g all gone)) (hS : Sep w0 w L) (hn : all.length < 1000000) :
    Calls Try.prog 17 #[.pointer (some ⟨g, 0, none⟩), .int .u32 m] w fun en w' => en = .returned (.int .i64 (dropE all m)) ∧ Sep w0 w' (L.set i (XAt g all (dropS all gone m))) := by
  by_cases h : (all.length : Int) < m
  · unfold dropE dropS
    rw [if_pos h, if_pos h]
    refine (xdrop_over w0 w g all gone m _ (hS.pick i hi) h h2).mono fun en w' ⟨he, hw⟩ => ⟨he, hw ▸ ?_⟩
    exact (hS.pick i hi).back hi
  · unfold dropE dropS
    rw [if_neg h, if_neg h]
    obtain ⟨k, rfl⟩ : ∃ k : Nat, m = (k : Int) := ⟨m.toNat, by omega⟩
    exact (xdrop_in w0 w g all gone k _ (hS.pick i hi) (by omega) hn).mono fun en w' ⟨he, h⟩ => ⟨he, h.back hi⟩
end Go.Proofs.Ytmkmggbafboelaa
