/- LinkPlays: any acts on one link, each answer. -/
import Derived.Test.YtpgiljjjpijepaaLPlN
import Derived.Test.YtpgiljjjpijepaaLRefK
import Derived.Test.YtpgiljjjpijepaaLSame
import Derived.Test.YtpgiljjjpijepaaLActIn
import Derived.Test.YtpgiljjjpijepaaLCarry
namespace Go.Proofs.Ytpgiljjjpijepaa
open Go.RowKit
/-- an act that the law asks of -/
def Av.good (v : Av) : Prop := v.b.length ≤ 400 ∧ v.q.p.d.length ≤ 400 ∧ (v.d % 4 = 0 → v.n ≤ 8)
/-- what holds between the operations of a drawn region may be more from here on -/
theorem under_change {P : Program} {ops : Array Oper} {Q : Exit → Act → World → Prop} {S T : World → Prop} (hTS : ∀ w, T w → S w) : ∀ (k : Nat) (ls : Array Bool) (a : Act) (w : World), T w → Under P ops Q T (fun _ => true) k ls a w → Under P ops Q S (fun _ => true) k ls a w
  | 0, _, _, _, _, h => h
  | k + 1, _, _, _, hT, h => ⟨h.1, fun j hj => wpOp_mono (fun _ _ hk => ⟨fun _ _ => hTS _ (hk.1 rfl hT), under_change hTS k _ _ _ (hk.1 rfl hT) hk.2⟩) (h.2 j hj)⟩
theorem size63 : (Try.prog.info? 63).map (·.size) = some 7 := by kernel_rfl
theorem av_one (d n e o a : Int) (A D : Option Addr) (m c k j : Nat) : #[Value.int .u8 d, .int .i64 n, .slice A m c, .int .u32 e, .int .u64 o, .int .u64 a, .slice D k j].all (·.oneCell') = true := by kernel_rfl
set_option maxRecDepth 100000 in
set_option maxHeartbeats 2000000 in
theorem plays_any (e : Nat) (l : List Av) (A : Option Addr) (c : Nat) (w : World) (hr : Reads w w.heap.size 7 A l.length (l.flatMap Av.cs)) (hok : ∀ v ∈ l, v.ok w) : Calls Try.prog 8 #[.int .u32 (e : Int), .slice A l.length c] w fun en w' => en = .returned (.bool true) ∧ Below w.heap.size w w' := by
  have HR := Lib.hid hr
  have Hok := Lib.hid hok
  obtain ⟨n, hn⟩ : ∃ n, l.length = n := ⟨_, rfl⟩
  rw [hn]
  have Hn := Lib.hid hn
  by_cases h60 : 60 < n
  · have d0 : decide ((60 : Int) < (n : Int)) = true := decide_eq_true (by omega)
    clear hr hok hn
    go_enter Try.func8, Try.ntmps8
    go_wp2_with fail
    go_ret
    exact ⟨rfl, Below.refl _ _⟩
  have d0 : decide ((60 : Int) < (n : Int)) = false := decide_eq_false (by omega)
  clear hr hok hn
  go_enter Try.func8, Try.ntmps8
  go_wp2_with fail
  go_loopw [5] (fun p5 wr => ∃ i : Nat, i ≤ n ∧ p5 = .int .i64 (i : Int) ∧ Hid (∀ j (hj : j < l.length), j < i → (l[j]).good) ∧ wr = w) (fun p5 _ => n - (intOf p5).toNat)
  case atStart => exact ⟨0, Nat.zero_le _, rfl, Lib.hid (fun _ _ h => absurd h (Nat.not_lt_zero _)), rfl⟩
  case round =>
    obtain ⟨i, hi, rfl, hG, hwr⟩ := hrel
    subst wr
    by_cases hlt : i < n
    · have hlt' : (i : Int) < (n : Int) := by omega
      have hil : i < l.length := by have := Hn.out; omega
      obtain ⟨b, o, rfl, hbB, hcell⟩ := HR.out.elem (cells := Av.cs) (fun _ => rfl) (by decide) hil
      obtain ⟨v, hv⟩ : ∃ v, l[i] = v := ⟨_, rfl⟩
      rw [hv] at hcell
      obtain ⟨bl, hbl⟩ : ∃ m, v.b.length = m := ⟨_, rfl⟩
      obtain ⟨ql, hql⟩ : ∃ m, v.q.p.d.length = m := ⟨_, rfl⟩
      have r0 : w.cell? ⟨b, o + i * 7, none⟩ = some (.int .u8 (v.d : Int)) := hcell 0 _ rfl
      have r1 : w.cell? ⟨b, o + i * 7 + 1, none⟩ = some (.int .i64 v.n) := hcell 1 _ rfl
      have r2 : w.cell? ⟨b, o + i * 7 + 2, none⟩ = some (.slice v.A bl v.c) := by rw [← hbl]; exact hcell 2 _ rfl
      have r6 : w.cell? ⟨b, o + i * 7 + 6, none⟩ = some (.slice v.q.A ql v.q.c) := by rw [← hql]; exact hcell 6 _ rfl
      have s4 : (0 : Int) ≤ (i : Int) := by omega
      have HV := Lib.hid (And.intro hv (And.intro hbl hql))
      clear hcell hv hbl hql
      by_cases g1 : 400 < bl
      · have e1 : decide ((400 : Int) < (bl : Int)) = true := decide_eq_true (by omega)
        go_wp2_with fail
        go_ret
        exact ⟨rfl, Below.refl _ _⟩
      have e1 : decide ((400 : Int) < (bl : Int)) = false := decide_eq_false (by omega)
      by_cases g2 : 400 < ql
      · have e2 : decide ((400 : Int) < (ql : Int)) = true := decide_eq_true (by omega)
        go_wp2_with fail
        go_ret
        exact ⟨rfl, Below.refl _ _⟩
      have e2 : decide ((400 : Int) < (ql : Int)) = false := decide_eq_false (by omega)
      by_cases g3 : v.d % 4 = 0
      · have e3 : ((v.d : Int) % 4 == 0) = true := by simp; omega
        by_cases g4 : 8 < v.n
        · have e4 : decide (8 < v.n) = true := decide_eq_true (by omega)
          go_wp2_with fail
          go_ret
          exact ⟨rfl, Below.refl _ _⟩
        have e4 : decide (8 < v.n) = false := decide_eq_false (by omega)
        go_wp2_with fail
        go_roundw
        case measure => simp [intOf]; omega
        case rel => exact ⟨i + 1, by omega, by go_num, Lib.hid (fun j hj hji => by
          by_cases hje : j = i
          · subst hje
            rw [HV.out.1]
            exact ⟨by rw [HV.out.2.1]; omega, by rw [HV.out.2.2]; omega, fun _ => by omega⟩
          · exact hG.out j hj (by omega)), trivial⟩
      · have e3 : ((v.d : Int) % 4 == 0) = false := by simp; omega
        go_wp2_with fail
        go_roundw
        case measure => simp [intOf]; omega
        case rel => exact ⟨i + 1, by omega, by go_num, Lib.hid (fun j hj hji => by
          by_cases hje : j = i
          · subst hje
            rw [HV.out.1]
            exact ⟨by rw [HV.out.2.1]; omega, by rw [HV.out.2.2]; omega, fun _ => by omega⟩
          · exact hG.out j hj (by omega)), trivial⟩
    · have hlt' : ¬ (i : Int) < (n : Int) := by omega
      have hGood : ∀ v ∈ l, v.good := fun v hv => by
        obtain ⟨j, hj, he⟩ := List.getElem_of_mem hv
        rw [← he]
        exact hG.out j hj (by have := Hn.out; omega)
      go_wp2_with fail
      refine (new_any e (Sep.start w)).mono ?_
      rintro en w2 ⟨g, rfl, S2⟩
      obtain ⟨W3, hW3, S3⟩ := S2.boxedF 66 ((newL e).rcs (.slice none 0 0) (.slice none 0 0) 0)
      obtain ⟨yg, hyg⟩ : ∃ yg, w2.heap.size = yg := ⟨_, rfl⟩
      rw [hyg] at S3
      have hW : w2.alloc (.cells #[.int .u32 (e : Int), .slice none 0 0, .int .i64 0, .int .i64 0, .int .i64 0, .int .i64 0, .slice none 0 0, .int .i64 0, .bool false] 66) = W3 := hW3
      have S4 : Sep w W3 [RefAt yg (newL e) ⟨[], [], 0⟩, LinkAt g (newL e)] := Sep.closeX (va := .slice none 0 0) (vi := .slice none 0 0) ((S3.nilB.nilB).perm ((List.Perm.cons _ (List.Perm.swap _ _ _)).trans (List.Perm.swap _ _ _)))
      clear S3 S2 hW3 hG
      go_wp2_with fail
      go_loopw [8, 9, 10, 11, 12] (fun p8 _ _ _ _ wr => ∃ (i : Nat) (s : LS) (r : RX), i ≤ n ∧ p8 = .int .i64 (i : Int) ∧ Hid (RN e (3200 * i) (400 * i) s r) ∧ Sep w wr [RefAt yg s r, LinkAt g s]) (fun p8 _ _ _ _ _ => n - (intOf p8).toNat)
      case atStart => exact ⟨0, newL e, ⟨[], [], 0⟩, Nat.zero_le _, rfl, Lib.hid (RN.new e), S4⟩
      case round =>
        clear S4 hW hlt hlt'
        obtain ⟨i, s, r, hi, rfl, hN, S5⟩ := hrel
        by_cases hlt : i < n
        · have hlt' : (i : Int) < (n : Int) := by omega
          have hil : i < l.length := by have := Hn.out; omega
          obtain ⟨b, o, rfl, hbB, hcell⟩ := HR.out.elem (cells := Av.cs) (fun _ => rfl) (by decide) hil
          obtain ⟨v, hv⟩ : ∃ v, l[i] = v := ⟨_, rfl⟩
          rw [hv] at hcell
          have hvm : v ∈ l := by rw [← hv]; exact List.getElem_mem hil
          have hvo := Hok.out v hvm
          obtain ⟨gb, gq, g8⟩ := hGood v hvm
          have hk : ∀ j u, v.cs[j]? = some u → wr.cell? ⟨b, o + i * 7 + j, none⟩ = some u := fun j u hu => (S5.below.cell (p := ⟨b, o + i * 7 + j, none⟩) hbB).trans (hcell j u hu)
          have r0 : wr.cell? ⟨b, o + i * 7, none⟩ = some (.int .u8 (v.d : Int)) := hk 0 _ rfl
          have r1 : wr.cell? ⟨b, o + i * 7 + 1, none⟩ = some (.int .i64 v.n) := hk 1 _ rfl
          have r2 : wr.cell? ⟨b, o + i * 7 + 2, none⟩ = some (.slice v.A v.b.length v.c) := hk 2 _ rfl
          have r3 : wr.cell? ⟨b, o + i * 7 + 3, none⟩ = some (.int .u32 (v.q.p.e : Int)) := hk 3 _ rfl
          have r4 : wr.cell? ⟨b, o + i * 7 + 4, none⟩ = some (.int .u64 (v.q.p.o : Int)) := hk 4 _ rfl
          have r5 : wr.cell? ⟨b, o + i * 7 + 5, none⟩ = some (.int .u64 (v.q.p.a : Int)) := hk 5 _ rfl
          have r6 : wr.cell? ⟨b, o + i * 7 + 6, none⟩ = some (.slice v.q.A v.q.p.d.length v.q.c) := hk 6 _ rfl
          have s4 : (0 : Int) ≤ (i : Int) := by omega
          obtain ⟨bl, hbl⟩ : ∃ m, v.b.length = m := ⟨_, rfl⟩
          obtain ⟨ql, hql⟩ : ∃ m, v.q.p.d.length = m := ⟨_, rfl⟩
          rw [hbl] at r2 gb
          rw [hql] at r6 gq
          obtain ⟨W1, hW1, S6⟩ := S5.boxedF 63 #[.int .u8 (v.d : Int), .int .i64 v.n, .slice v.A bl v.c, .int .u32 (v.q.p.e : Int), .int .u64 (v.q.p.o : Int), .int .u64 (v.q.p.a : Int), .slice v.q.A ql v.q.c]
          obtain ⟨xb, hxb⟩ : ∃ xb, wr.heap.size = xb := ⟨_, rfl⟩
          rw [hxb] at S6
          have HV := Lib.hid (And.intro hvo (And.intro hbl hql))
          clear hcell hk hvo hbl hql hv hvm
          have HXB := Lib.hid hxb
          clear hxb
          go_upto_region 16 with (refine wpList_store_row rfl 63 (.tmp 9) (.tmp 72) rfl xb #[.int .u8 (v.d : Int), .int .i64 v.n, .slice v.A bl v.c, .int .u32 (v.q.p.e : Int), .int .u64 (v.q.p.o : Int), .int .u64 (v.q.p.a : Int), .slice v.q.A ql v.q.c] rfl rfl 63 _ (by rw [← HXB.out]; exact Blk.new _ _ _) size63 rfl (av_one _ _ _ _ _ _ _ _ _ _ _) ?_; rw [← HXB.out, World.setRow_alloc_new, hW1, HXB.out])
          rw [HXB.out]
          clear r0 r1 r2 r3 r4 r5 r6
          have x0 : W1.cell? ⟨xb, 0, none⟩ = some (.int .u8 (v.d : Int)) := (S6.blk 0 rfl).at_ 0 rfl
          go_upto_block 4 with (fail)
          go_cut [10] (fun _ wx => ∃ (s' : LS) (r' : RX), Hid (RN e (3200 * (i + 1)) (400 * (i + 1)) s' r') ∧ Sep w wx [cell xb 63 #[.int .u8 (v.d : Int), .int .i64 v.n, .slice v.A bl v.c, .int .u32 (v.q.p.e : Int), .int .u64 (v.q.p.o : Int), .int .u64 (v.q.p.a : Int), .slice v.q.A ql v.q.c], RefAt yg s' r', LinkAt g s'])
          case first =>
            obtain hd | hd | hd | hd : v.d % 4 = 0 ∨ v.d % 4 = 1 ∨ v.d % 4 = 2 ∨ v.d % 4 = 3 := by omega
            · have hdi : ((v.d : Int) % 4 == 0) = true := by simp; omega
              have h8 : v.n ≤ 8 := g8 hd
              go_wp2_with fail
              go_loopw [10] (fun p10 wx => ∃ (k : Nat) (s' : LS) (r' : RX), k ≤ 8 ∧ p10 = .int .i64 (k : Int) ∧ Hid (RN e (3200 * i + 400 * k) (400 * i) s' r') ∧ Sep w wx [cell xb 63 #[.int .u8 (v.d : Int), .int .i64 v.n, .slice v.A bl v.c, .int .u32 (v.q.p.e : Int), .int .u64 (v.q.p.o : Int), .int .u64 (v.q.p.a : Int), .slice v.q.A ql v.q.c], RefAt yg s' r', LinkAt g s']) (fun p10 _ => 8 - (intOf p10).toNat)
              case atStart => exact ⟨0, s, r, Nat.zero_le _, rfl, hN, S6⟩
              case round =>
                clear S6
                obtain ⟨k, s1, r1, hk8, rfl, hN1, S7⟩ := hrel
                have x1 : wr.cell? ⟨xb, 1, none⟩ = some (.int .i64 v.n) := (S7.blk 0 rfl).at_ 1 rfl
                by_cases hkn : (k : Int) < v.n
                · have e1 : decide ((k : Int) < v.n) = true := decide_eq_true hkn
                  obtain ⟨h1, h2, h3, h4, h5, h6, h7, h9⟩ := hN1.out.inv (by omega) (by omega)
                  obtain ⟨xe, hxe⟩ : ∃ xe, writeE s1 bl = xe := ⟨_, rfl⟩
                  have hne : (xe != xe) = false := by simp
                  have hSS : wr.drew.cell? ⟨xb, 2, none⟩ = some (.slice v.A bl v.c) := (S7.blk 0 rfl).at_ 2 rfl
                  have S8 := S7.drew
                  clear S7
                  go_upto_region 23 with (fail)
                  refine plain_under (fun w => w.cell? ⟨xb, 2, none⟩ = some (.slice v.A bl v.c)) (fun _ => true) (by kernel_rfl) ?_
                  clear x1 hdi e1
                  generalize wr.drew = w7 at hSS S8 ⊢
                  simp only [List.size_toArray, List.length_cons, List.length_nil, Nat.reduceAdd, Array.replicate_succ, Array.replicate_zero, List.push_toArray, List.nil_append, List.cons_append]
                  refine under_free (i := 0) (v := ?_) rfl (by kernel_rfl) (fun _ _ _ h => h) _ _ _ _ (by kernel_rfl) (by kernel_rfl) (Or.inl ⟨by rfl, ?_⟩) ?_
                  rotate_left
                  · intro w _
                    go_simp
                    try with_reducible rfl
                  simp only [Act.put, List.setIfInBounds_toArray, List.set_cons_zero, List.set_cons_succ, List.getElem_toArray, List.getElem_cons_zero]
                  refine under_free (i := 1) (v := ?_) rfl (by kernel_rfl) (fun _ _ _ h => h) _ _ _ _ (by kernel_rfl) (by kernel_rfl) (Or.inl ⟨by rfl, ?_⟩) ?_
                  rotate_left
                  · intro w _
                    go_simp
                    try with_reducible rfl
                  simp only [Act.put, List.setIfInBounds_toArray, List.set_cons_zero, List.set_cons_succ, List.getElem_toArray, List.getElem_cons_zero, List.getElem_cons_succ]
                  refine under_take (i := 2) (v := ?_) rfl (by kernel_rfl) (by kernel_rfl) (fun _ _ _ h => h) _ _ _ _ (by kernel_rfl) (by kernel_rfl) (by kernel_rfl) (Or.inl ⟨by rfl, ?_⟩) hSS ?_
                  rotate_left
                  · intro w q0
                    go_simp
                    try with_reducible rfl
                  simp only [Act.put, List.setIfInBounds_toArray, List.set_cons_zero, List.set_cons_succ, List.getElem_toArray, List.getElem_cons_zero, List.getElem_cons_succ]
                  refine under_free (i := 4) (v := ?_) rfl (by kernel_rfl) (fun _ _ _ h => h) _ _ _ _ (by kernel_rfl) (by kernel_rfl) (Or.inl ⟨by rfl, ?_⟩) ?_
                  rotate_left
                  · intro w _
                    go_simp
                    try with_reducible rfl
                  simp only [Act.put, List.setIfInBounds_toArray, List.set_cons_zero, List.set_cons_succ, List.getElem_toArray, List.getElem_cons_zero, List.getElem_cons_succ]
                  refine under_free (i := 5) (v := ?_) rfl (by kernel_rfl) (fun _ _ _ h => h) _ _ _ _ (by kernel_rfl) (by kernel_rfl) (Or.inl ⟨by rfl, ?_⟩) ?_
                  rotate_left
                  · intro w _
                    go_simp
                    try with_reducible rfl
                  simp only [Act.put, List.setIfInBounds_toArray, List.set_cons_zero, List.set_cons_succ, List.getElem_toArray, List.getElem_cons_zero, List.getElem_cons_succ]
                  refine under_take (i := 6) (v := ?_) rfl (by kernel_rfl) (by kernel_rfl) (fun _ _ _ h => h) _ _ _ _ (by kernel_rfl) (by kernel_rfl) (by kernel_rfl) (Or.inl ⟨by rfl, ?_⟩) hSS ?_
                  rotate_left
                  · intro w q0
                    go_simp
                    try with_reducible rfl
                  simp only [Act.put, List.setIfInBounds_toArray, List.set_cons_zero, List.set_cons_succ, List.getElem_toArray, List.getElem_cons_zero, List.getElem_cons_succ]
                  refine under_one (i := 3) (by kernel_rfl) rfl ?_
                  intro K hK
                  go_simp
                  refine (write_any v.b v.A bl v.c (by have h := HV.out.1.at_; rw [HV.out.2.1] at h; exact h.below S8.below) h4 2 rfl S8).mono ?_
                  rintro en w8 ⟨rfl, S9⟩
                  rw [hxe]
                  replace S9 : Sep w w8 [cell xb 63 #[.int .u8 (v.d : Int), .int .i64 v.n, .slice v.A bl v.c, .int .u32 (v.q.p.e : Int), .int .u64 (v.q.p.o : Int), .int .u64 (v.q.p.a : Int), .slice v.q.A ql v.q.c], RefAt yg s1 r1, LinkAt g (writeS s1 v.b)] := S9
                  have hSS : w8.cell? ⟨xb, 2, none⟩ = some (.slice v.A bl v.c) := (S9.blk 0 rfl).at_ 2 rfl
                  refine hK _ _ (fun _ => hSS) ?_
                  clear hK K S8
                  simp only [List.setIfInBounds_toArray, List.set_cons_zero, List.set_cons_succ]
                  refine under_one (i := 7) (by kernel_rfl) rfl ?_
                  intro K hK
                  go_simp
                  refine (ref_write hN1.out.i v.b v.A bl v.c (by have h := HV.out.1.at_; rw [HV.out.2.1] at h; exact h.below S9.below) (by omega) (by omega) 1 rfl S9).mono ?_
                  rintro en w9 ⟨rfl, S10⟩
                  rw [hxe]
                  replace S10 : Sep w w9 [cell xb 63 #[.int .u8 (v.d : Int), .int .i64 v.n, .slice v.A bl v.c, .int .u32 (v.q.p.e : Int), .int .u64 (v.q.p.o : Int), .int .u64 (v.q.p.a : Int), .slice v.q.A ql v.q.c], RefAt yg (writeS s1 v.b) (refW s1 r1 v.b), LinkAt g (writeS s1 v.b)] := S10
                  have hSS : w9.cell? ⟨xb, 2, none⟩ = some (.slice v.A bl v.c) := (S10.blk 0 rfl).at_ 2 rfl
                  refine hK _ _ (fun _ => hSS) ?_
                  clear hK K S9
                  simp only [List.setIfInBounds_toArray, List.set_cons_zero, List.set_cons_succ]
                  refine under_free (i := 8) (v := ?_) rfl (by kernel_rfl) (fun _ _ _ h => h) _ _ _ _ (by kernel_rfl) (by kernel_rfl) (Or.inl ⟨by rfl, ?_⟩) ?_
                  rotate_left
                  · intro w _
                    go_simp
                    try with_reducible rfl
                  simp only [Act.put, List.setIfInBounds_toArray, List.set_cons_zero, List.set_cons_succ, List.getElem_toArray, List.getElem_cons_zero, List.getElem_cons_succ]
                  refine under_done (by kernel_rfl) ?_ _
                  go_wp2_with fail
                  go_roundw
                  case measure => simp [intOf]; omega
                  case rel => exact ⟨k + 1, writeS s1 v.b, refW s1 r1 v.b, by omega, by go_num, Lib.hid ((hN1.out.write v.b (by rw [HV.out.2.1]; exact gb)).mono (by omega) (by omega)), S10⟩
                · have e1 : decide ((k : Int) < v.n) = false := decide_eq_false hkn
                  go_wp2_with fail
                  go_meet
                  exact ⟨s1, r1, Lib.hid (hN1.out.mono (by omega) (by omega)), S7⟩
            · have hd0 : ((v.d : Int) % 4 == 0) = false := by simp; omega
              have hdi : ((v.d : Int) % 4 == 1) = true := by simp; omega
              obtain ⟨h1, h2, h3, h4, h5, h6, h7, h9⟩ := hN.out.inv (by omega) (by omega)
              have hlp := hN.out.i.l.tick_len
              go_wp2_with fail
              refine (tick_any h1 h2 2 rfl S6).mono ?_
              rintro en w7 ⟨v1, rfl, S7⟩
              clear S6
              go_wp2_with fail
              refine (ref_tick hN.out.i (by omega) (by omega) 2 rfl S7).mono ?_
              rintro en w8 ⟨v2, rfl, S8⟩
              clear S7
              go_wp2_with fail
              refine (packets_any v1 v2 (tickP s) (by omega) (show Sep w w8 (PkX v1 (tickP s) :: PkX v2 (tickP s) :: [cell xb 63 #[.int .u8 (v.d : Int), .int .i64 v.n, .slice v.A bl v.c, .int .u32 (v.q.p.e : Int), .int .u64 (v.q.p.o : Int), .int .u64 (v.q.p.a : Int), .slice v.q.A ql v.q.c], RefAt yg (tickS s) r, LinkAt g (tickS s)]) from S8.perm (List.Perm.swap _ _ _))).mono ?_
              rintro en w9 ⟨rfl, S9⟩
              clear S8
              go_wp2_with fail
              go_meet
              exact ⟨tickS s, r, Lib.hid (hN.out.tick.mono (by omega) (by omega)), S9.tail.tail⟩
            · have hdi : (v.d : Int) % 4 = 2 := by omega
              obtain ⟨h1, h2, h3, h4, h5, h6, h7, h9⟩ := hN.out.inv (by omega) (by omega)
              obtain ⟨xe, hxe⟩ : ∃ xe, takeE s v.q.p = xe := ⟨_, rfl⟩
              have hne : (xe != xe) = false := by simp
              have hcap : ql ≤ v.q.c := by have h := HV.out.1.q.cap; rw [HV.out.2.2] at h; exact h
              have facts : ∀ {X : World} {M : List Asn}, Sep w X (cell xb 63 #[.int .u8 (v.d : Int), .int .i64 v.n, .slice v.A bl v.c, .int .u32 (v.q.p.e : Int), .int .u64 (v.q.p.o : Int), .int .u64 (v.q.p.a : Int), .slice v.q.A ql v.q.c] :: M) → X.cell? ⟨xb, 3, none⟩ = some (.int .u32 (v.q.p.e : Int)) ∧ X.cell? ⟨xb, 4, none⟩ = some (.int .u64 (v.q.p.o : Int)) ∧ X.cell? ⟨xb, 5, none⟩ = some (.int .u64 (v.q.p.a : Int)) ∧ X.cell? ⟨xb, 6, none⟩ = some (.slice v.q.A ql v.q.c) := fun h => ⟨(h.blk 0 rfl).at_ 3 rfl, (h.blk 0 rfl).at_ 4 rfl, (h.blk 0 rfl).at_ 5 rfl, (h.blk 0 rfl).at_ 6 rfl⟩
              have hSS : W1.drew.cell? ⟨xb, 3, none⟩ = some (.int .u32 (v.q.p.e : Int)) ∧ W1.drew.cell? ⟨xb, 4, none⟩ = some (.int .u64 (v.q.p.o : Int)) ∧ W1.drew.cell? ⟨xb, 5, none⟩ = some (.int .u64 (v.q.p.a : Int)) ∧ W1.drew.cell? ⟨xb, 6, none⟩ = some (.slice v.q.A ql v.q.c) := facts S6.drew
              have S7 := S6.drew
              clear S6
              go_upto_region 29 with (fail)
              refine plain_under (fun w => w.cell? ⟨xb, 3, none⟩ = some (.int .u32 (v.q.p.e : Int)) ∧ w.cell? ⟨xb, 4, none⟩ = some (.int .u64 (v.q.p.o : Int)) ∧ w.cell? ⟨xb, 5, none⟩ = some (.int .u64 (v.q.p.a : Int)) ∧ w.cell? ⟨xb, 6, none⟩ = some (.slice v.q.A ql v.q.c)) (fun _ => true) (by kernel_rfl) ?_
              clear x0 hdi
              generalize W1.drew = w7 at hSS S7 ⊢
              simp only [List.size_toArray, List.length_cons, List.length_nil, Nat.reduceAdd, Array.replicate_succ, Array.replicate_zero, List.push_toArray, List.nil_append, List.cons_append]
              refine under_free (i := 0) (v := ?_) rfl (by kernel_rfl) (fun _ _ _ h => h) _ _ _ _ (by kernel_rfl) (by kernel_rfl) (Or.inl ⟨by rfl, ?_⟩) ?_
              rotate_left
              · intro w _
                go_simp
                try with_reducible rfl
              simp only [Act.put, List.setIfInBounds_toArray, List.set_cons_zero, List.set_cons_succ, List.getElem_toArray, List.getElem_cons_zero]
              refine under_free (i := 1) (v := ?_) rfl (by kernel_rfl) (fun _ _ _ h => h) _ _ _ _ (by kernel_rfl) (by kernel_rfl) (Or.inl ⟨by rfl, ?_⟩) ?_
              rotate_left
              · intro w _
                go_simp
                try with_reducible rfl
              simp only [Act.put, List.setIfInBounds_toArray, List.set_cons_zero, List.set_cons_succ, List.getElem_toArray, List.getElem_cons_zero, List.getElem_cons_succ]
              refine under_take (i := 2) (v := ?_) rfl (by kernel_rfl) (by kernel_rfl) (fun _ _ _ h => h) _ _ _ _ (by kernel_rfl) (by kernel_rfl) (by kernel_rfl) (Or.inl ⟨by rfl, ?_⟩) hSS ?_
              rotate_left
              · intro w hSw
                obtain ⟨q0, q1, q2, q3⟩ := hSw
                go_simp
                try with_reducible rfl
              simp only [Act.put, List.setIfInBounds_toArray, List.set_cons_zero, List.set_cons_succ, List.getElem_toArray, List.getElem_cons_zero, List.getElem_cons_succ]
              refine under_free (i := 4) (v := ?_) rfl (by kernel_rfl) (fun _ _ _ h => h) _ _ _ _ (by kernel_rfl) (by kernel_rfl) (Or.inl ⟨by rfl, ?_⟩) ?_
              rotate_left
              · intro w _
                go_simp
                try with_reducible rfl
              simp only [Act.put, List.setIfInBounds_toArray, List.set_cons_zero, List.set_cons_succ, List.getElem_toArray, List.getElem_cons_zero, List.getElem_cons_succ]
              refine under_free (i := 5) (v := ?_) rfl (by kernel_rfl) (fun _ _ _ h => h) _ _ _ _ (by kernel_rfl) (by kernel_rfl) (Or.inl ⟨by rfl, ?_⟩) ?_
              rotate_left
              · intro w _
                go_simp
                try with_reducible rfl
              simp only [Act.put, List.setIfInBounds_toArray, List.set_cons_zero, List.set_cons_succ, List.getElem_toArray, List.getElem_cons_zero, List.getElem_cons_succ]
              refine under_take (i := 6) (v := ?_) rfl (by kernel_rfl) (by kernel_rfl) (fun _ _ _ h => h) _ _ _ _ (by kernel_rfl) (by kernel_rfl) (by kernel_rfl) (Or.inl ⟨by rfl, ?_⟩) hSS ?_
              rotate_left
              · intro w hSw
                obtain ⟨q0, q1, q2, q3⟩ := hSw
                go_simp
                try with_reducible rfl
              simp only [Act.put, List.setIfInBounds_toArray, List.set_cons_zero, List.set_cons_succ, List.getElem_toArray, List.getElem_cons_zero, List.getElem_cons_succ]
              refine under_one (i := 3) (by kernel_rfl) rfl ?_
              intro K hK
              go_simp
              refine (take_any 2 v.q.p v.q.A ql v.q.c HV.out.1.q.o HV.out.1.q.a (fun W s' hW => (by have h := HV.out.1.q.at_; rw [HV.out.2.2] at h; exact h.below hW.below)) hcap (by omega) h3 h4 (by omega) h6 rfl S7).mono ?_
              rintro en w8 ⟨rfl, S9⟩
              rw [hxe]
              replace S9 : Sep w w8 [cell xb 63 #[.int .u8 (v.d : Int), .int .i64 v.n, .slice v.A bl v.c, .int .u32 (v.q.p.e : Int), .int .u64 (v.q.p.o : Int), .int .u64 (v.q.p.a : Int), .slice v.q.A ql v.q.c], RefAt yg s r, LinkAt g (takeS s v.q.p)] := S9
              have hSS : w8.cell? ⟨xb, 3, none⟩ = some (.int .u32 (v.q.p.e : Int)) ∧ w8.cell? ⟨xb, 4, none⟩ = some (.int .u64 (v.q.p.o : Int)) ∧ w8.cell? ⟨xb, 5, none⟩ = some (.int .u64 (v.q.p.a : Int)) ∧ w8.cell? ⟨xb, 6, none⟩ = some (.slice v.q.A ql v.q.c) := facts S9
              refine hK _ _ (fun _ => hSS) ?_
              clear hK K S7
              simp only [List.setIfInBounds_toArray, List.set_cons_zero, List.set_cons_succ]
              refine under_one (i := 7) (by kernel_rfl) rfl ?_
              intro K hK
              go_simp
              refine (ref_take hN.out.i v.q.p v.q.A ql v.q.c HV.out.1.q.o HV.out.1.q.a (by have h := HV.out.1.q.at_; rw [HV.out.2.2] at h; exact h) hcap (by omega) (by omega) (by omega) 1 rfl S9).mono ?_
              rintro en w9 ⟨rfl, S10⟩
              rw [hxe]
              replace S10 : Sep w w9 [cell xb 63 #[.int .u8 (v.d : Int), .int .i64 v.n, .slice v.A bl v.c, .int .u32 (v.q.p.e : Int), .int .u64 (v.q.p.o : Int), .int .u64 (v.q.p.a : Int), .slice v.q.A ql v.q.c], RefAt yg (takeS s v.q.p) (refT s r v.q.p), LinkAt g (takeS s v.q.p)] := S10
              have hSS : w9.cell? ⟨xb, 3, none⟩ = some (.int .u32 (v.q.p.e : Int)) ∧ w9.cell? ⟨xb, 4, none⟩ = some (.int .u64 (v.q.p.o : Int)) ∧ w9.cell? ⟨xb, 5, none⟩ = some (.int .u64 (v.q.p.a : Int)) ∧ w9.cell? ⟨xb, 6, none⟩ = some (.slice v.q.A ql v.q.c) := facts S10
              refine hK _ _ (fun _ => hSS) ?_
              clear hK K S9
              simp only [List.setIfInBounds_toArray, List.set_cons_zero, List.set_cons_succ]
              refine under_free (i := 8) (v := ?_) rfl (by kernel_rfl) (fun _ _ _ h => h) _ _ _ _ (by kernel_rfl) (by kernel_rfl) (Or.inl ⟨by rfl, ?_⟩) ?_
              rotate_left
              · intro w _
                go_simp
                try with_reducible rfl
              simp only [Act.put, List.setIfInBounds_toArray, List.set_cons_zero, List.set_cons_succ, List.getElem_toArray, List.getElem_cons_zero, List.getElem_cons_succ]
              refine under_done (by kernel_rfl) ?_ _
              go_wp2_with fail
              go_meet
              exact ⟨takeS s v.q.p, refT s r v.q.p, Lib.hid ((hN.out.take v.q.p (by rw [HV.out.2.2]; exact gq)).mono (by omega) (by omega)), S10⟩
            · have hdi : (v.d : Int) % 4 = 3 := by omega
              obtain ⟨h1, h2, h3, h4, h5, h6, h7, h9⟩ := hN.out.inv (by omega) (by omega)
              obtain ⟨xs, hxs⟩ : ∃ xs, strB (readB s v.n) = xs := ⟨_, rfl⟩
              have hSS : W1.drew.cell? ⟨xb, 1, none⟩ = some (.int .i64 v.n) := (S6.blk 0 rfl).at_ 1 rfl
              have S7 := S6.drew
              clear S6
              go_upto_region 17 with (fail)
              refine plain_under (fun w => w.cell? ⟨xb, 1, none⟩ = some (.int .i64 v.n)) (fun _ => true) (by kernel_rfl) ?_
              clear x0 hdi
              generalize W1.drew = w7 at hSS S7 ⊢
              simp only [List.size_toArray, List.length_cons, List.length_nil, Nat.reduceAdd, Array.replicate_succ, Array.replicate_zero, List.push_toArray, List.nil_append, List.cons_append]
              refine under_free (i := 0) (v := ?_) rfl (by kernel_rfl) (fun _ _ _ h => h) _ _ _ _ (by kernel_rfl) (by kernel_rfl) (Or.inl ⟨by rfl, ?_⟩) ?_
              rotate_left
              · intro w _
                go_simp
                try with_reducible rfl
              simp only [Act.put, List.setIfInBounds_toArray, List.set_cons_zero, List.set_cons_succ, List.getElem_toArray, List.getElem_cons_zero]
              refine under_free (i := 1) (v := ?_) rfl (by kernel_rfl) (fun _ _ _ h => h) _ _ _ _ (by kernel_rfl) (by kernel_rfl) (Or.inl ⟨by rfl, ?_⟩) ?_
              rotate_left
              · intro w _
                go_simp
                try with_reducible rfl
              simp only [Act.put, List.setIfInBounds_toArray, List.set_cons_zero, List.set_cons_succ, List.getElem_toArray, List.getElem_cons_zero, List.getElem_cons_succ]
              refine under_take (i := 2) (v := ?_) rfl (by kernel_rfl) (by kernel_rfl) (fun _ _ _ h => h) _ _ _ _ (by kernel_rfl) (by kernel_rfl) (by kernel_rfl) (Or.inl ⟨by rfl, ?_⟩) hSS ?_
              rotate_left
              · intro w q0
                go_simp
                try with_reducible rfl
              simp only [Act.put, List.setIfInBounds_toArray, List.set_cons_zero, List.set_cons_succ, List.getElem_toArray, List.getElem_cons_zero, List.getElem_cons_succ]
              refine under_free (i := 5) (v := ?_) rfl (by kernel_rfl) (fun _ _ _ h => h) _ _ _ _ (by kernel_rfl) (by kernel_rfl) (Or.inl ⟨by rfl, ?_⟩) ?_
              rotate_left
              · intro w _
                go_simp
                try with_reducible rfl
              simp only [Act.put, List.setIfInBounds_toArray, List.set_cons_zero, List.set_cons_succ, List.getElem_toArray, List.getElem_cons_zero, List.getElem_cons_succ]
              refine under_free (i := 6) (v := ?_) rfl (by kernel_rfl) (fun _ _ _ h => h) _ _ _ _ (by kernel_rfl) (by kernel_rfl) (Or.inl ⟨by rfl, ?_⟩) ?_
              rotate_left
              · intro w _
                go_simp
                try with_reducible rfl
              simp only [Act.put, List.setIfInBounds_toArray, List.set_cons_zero, List.set_cons_succ, List.getElem_toArray, List.getElem_cons_zero, List.getElem_cons_succ]
              refine under_take (i := 7) (v := ?_) rfl (by kernel_rfl) (by kernel_rfl) (fun _ _ _ h => h) _ _ _ _ (by kernel_rfl) (by kernel_rfl) (by kernel_rfl) (Or.inl ⟨by rfl, ?_⟩) hSS ?_
              rotate_left
              · intro w q0
                go_simp
                try with_reducible rfl
              simp only [Act.put, List.setIfInBounds_toArray, List.set_cons_zero, List.set_cons_succ, List.getElem_toArray, List.getElem_cons_zero, List.getElem_cons_succ]
              refine under_one (i := 3) (by kernel_rfl) rfl ?_
              intro K hK
              go_simp
              refine (read_any v.n h6 2 rfl S7).mono ?_
              rintro en w8 ⟨v1, rfl, S9⟩
              replace S9 : Sep w w8 [BRow v1 (readB s v.n), cell xb 63 #[.int .u8 (v.d : Int), .int .i64 v.n, .slice v.A bl v.c, .int .u32 (v.q.p.e : Int), .int .u64 (v.q.p.o : Int), .int .u64 (v.q.p.a : Int), .slice v.q.A ql v.q.c], RefAt yg s r, LinkAt g (readL s v.n)] := S9
              obtain ⟨A1, c1, hv1, -, -, hR1⟩ := S9.bform 0 rfl
              subst hv1
              obtain ⟨n1, hn1⟩ : ∃ n, (readB s v.n).length = n := ⟨_, rfl⟩
              rw [hn1] at hR1
              rw [hn1]
              have hSS1 : w8.cell? ⟨xb, 1, none⟩ = some (.int .i64 v.n) := (S9.blk 1 rfl).at_ 1 rfl
              refine hK _ _ (fun _ => hSS1) ?_
              clear hK K S7 hSS
              refine under_change (T := fun w => w.cell? ⟨xb, 1, none⟩ = some (.int .i64 v.n) ∧ RB w A1 n1 (readB s v.n)) (fun w h => h.1) _ _ _ _ ⟨hSS1, hR1⟩ ?_
              have hSS : w8.cell? ⟨xb, 1, none⟩ = some (.int .i64 v.n) ∧ RB w8 A1 n1 (readB s v.n) := ⟨hSS1, hR1⟩
              clear hSS1 hR1
              have HN1 := Lib.hid hn1
              clear hn1
              simp only [List.setIfInBounds_toArray, List.set_cons_zero, List.set_cons_succ]
              refine under_take (i := 4) (v := ?_) rfl (by kernel_rfl) (by kernel_rfl) (fun _ _ _ h => h) _ _ _ _ (by kernel_rfl) (by kernel_rfl) (by kernel_rfl) (Or.inl ⟨by rfl, ?_⟩) hSS ?_
              rotate_left
              · intro w hSw
                have hcw := str_conv (c := c1) hSw.2
                rw [hxs] at hcw
                clear hSw
                go_simp
                try with_reducible rfl
              simp only [Act.put, List.setIfInBounds_toArray, List.set_cons_zero, List.set_cons_succ, List.getElem_toArray, List.getElem_cons_zero, List.getElem_cons_succ]
              refine under_one (i := 8) (by kernel_rfl) rfl ?_
              intro K hK
              go_simp
              refine (ref_read hN.out.i v.n HV.out.1.n (by omega) 2 rfl S9).mono ?_
              rintro en w9 ⟨v2, rfl, S10⟩
              replace S10 : Sep w w9 [BRow v2 (readB s v.n), BRow (.slice A1 (readB s v.n).length c1) (readB s v.n), cell xb 63 #[.int .u8 (v.d : Int), .int .i64 v.n, .slice v.A bl v.c, .int .u32 (v.q.p.e : Int), .int .u64 (v.q.p.o : Int), .int .u64 (v.q.p.a : Int), .slice v.q.A ql v.q.c], RefAt yg (readL s v.n) (refR s r v.n), LinkAt g (readL s v.n)] := S10
              obtain ⟨A2, c2, hv2, -, -, hR2⟩ := S10.bform 0 rfl
              subst hv2
              have hR1 : RB w9 A1 n1 (readB s v.n) := by
                obtain ⟨A3, c3, hv3, -, -, hR3⟩ := S10.bform 1 rfl
                injection hv3 with e1 e2 e3
                subst e1
                rw [HN1.out] at hR3
                exact hR3
              rw [HN1.out] at hR2
              rw [HN1.out]
              have hSS : w9.cell? ⟨xb, 1, none⟩ = some (.int .i64 v.n) ∧ RB w9 A1 n1 (readB s v.n) := ⟨(S10.blk 2 rfl).at_ 1 rfl, hR1⟩
              have hcv := str_conv (c := c2) hR2
              rw [hxs] at hcv
              refine hK _ _ (fun _ => hSS) ?_
              clear hK K S9 hR1 hR2
              simp only [List.setIfInBounds_toArray, List.set_cons_zero, List.set_cons_succ]
              refine under_one (i := 9) (by kernel_rfl) rfl ?_
              intro K hK
              go_simp
              refine hK _ _ (fun _ => hSS) ?_
              clear hK K
              simp only [List.setIfInBounds_toArray, List.set_cons_zero, List.set_cons_succ]
              refine under_free (i := 10) (v := ?_) rfl (by kernel_rfl) (fun _ _ _ h => h) _ _ _ _ (by kernel_rfl) (by kernel_rfl) (Or.inl ⟨by rfl, ?_⟩) ?_
              rotate_left
              · intro w _
                go_simp
                try with_reducible rfl
              simp only [Act.put, List.setIfInBounds_toArray, List.set_cons_zero, List.set_cons_succ, List.getElem_toArray, List.getElem_cons_zero, List.getElem_cons_succ]
              refine under_done (by kernel_rfl) ?_ _
              go_wp2_with fail
              go_meet
              exact ⟨readL s v.n, refR s r v.n, Lib.hid ((hN.out.read v.n).mono (by omega) (by omega)), S10.tail.tail⟩
          case rest =>
            clear x0 S6 S5 hN
            obtain ⟨s2, r2, hN2, S7⟩ := hcut
            obtain ⟨h1, h2, h3, h4, h5, h6, h7, h9⟩ := hN2.out.inv (by omega) (by omega)
            obtain ⟨z1, z2⟩ := hN2.out.i.sizes
            have hep := hN2.out.i.l.ep
            go_wp2_with fail
            refine (sizes_any 2 rfl S7).mono ?_
            rintro en w6 ⟨rfl, q6, rfl⟩
            have S8 := S7.drewN q6
            clear S7
            generalize wc.drewN q6 = w7 at S8 ⊢
            obtain ⟨io, hio⟩ : ∃ b, (s2.wait.length == 0 && !s2.owes) = b := ⟨_, rfl⟩
            have HJ : Hid (∀ k, Calls Try.prog 32 #[.pointer (some ⟨yg, 0, none⟩)] (w7.drewN k) fun en w' => en = .returned (.bool io) ∧ ∃ m, w' = (w7.drewN k).drewN m) := Lib.hid fun k => (ref_idle hN2.out.i 1 rfl (S8.drewN k)).mono fun _ _ ⟨h1, h2⟩ => ⟨by rw [h1, hio], h2⟩
            have HI : Hid (∀ k, Calls Try.prog 14 #[.pointer (some ⟨g, 0, none⟩)] (w7.drewN k) fun en w' => en = .returned (.bool io) ∧ w' = w7.drewN k) := Lib.hid fun k => (idle_any 2 rfl (S8.drewN k)).mono fun _ _ ⟨h1, h2⟩ => ⟨by rw [h1, hio], h2.symm⟩
            obtain ⟨ol, hol⟩ : ∃ n, s2.wait.length = n := ⟨_, rfl⟩
            obtain ⟨gl, hgl⟩ : ∃ n, s2.got.length = n := ⟨_, rfl⟩
            have HE : Hid (∀ k, Calls Try.prog 31 #[.pointer (some ⟨g, 0, none⟩)] (w7.drewN k) fun en w' => en = .returned (.int .u32 (e : Int)) ∧ w' = w7.drewN k) := Lib.hid fun k => (epoch_any 2 rfl (S8.drewN k)).mono fun _ _ ⟨h1, h2⟩ => ⟨by rw [h1, hep], h2.symm⟩
            have HP : Hid (∀ k, Calls Try.prog 15 #[.pointer (some ⟨g, 0, none⟩)] (w7.drewN k) fun en w' => en = .returned (.int .i64 (gl : Int)) ∧ w' = w7.drewN k) := Lib.hid fun k => (peek_any 2 rfl (S8.drewN k)).mono fun _ _ ⟨h1, h2⟩ => ⟨by rw [h1, hgl], h2.symm⟩
            obtain ⟨va, vi, S9⟩ := (S8.pick 1 rfl).openX
            obtain ⟨YA, yc, hva, -⟩ := S9.bform 1 rfl
            obtain ⟨YI, yd, hvi, -⟩ := S9.bform 2 rfl
            obtain ⟨al, hal⟩ : ∃ n, r2.all.length = n := ⟨_, rfl⟩
            obtain ⟨il, hil⟩ : ∃ n, r2.inn.length = n := ⟨_, rfl⟩
            rw [hal] at hva
            rw [hil] at hvi
            subst hva hvi
            have y1 : w7.cell? ⟨yg, 1, none⟩ = some (.slice YA al yc) := (S9.blk 0 rfl).at_ 1 rfl
            have y2 : w7.cell? ⟨yg, 2, none⟩ = some (.int .i64 (s2.base : Int)) := (S9.blk 0 rfl).at_ 2 rfl
            have y6 : w7.cell? ⟨yg, 6, none⟩ = some (.slice YI il yd) := (S9.blk 0 rfl).at_ 6 rfl
            have y7 : w7.cell? ⟨yg, 7, none⟩ = some (.int .i64 (r2.gt : Int)) := (S9.blk 0 rfl).at_ 7 rfl
            rw [hil, hgl] at z1
            rw [hal, hol] at z2
            rw [hal] at h7
            rw [hil] at h9
            have i1 : IntKind.i64.wrap ((il : Int) - (r2.gt : Int)) = (gl : Int) := by rw [IntWalk.i64_in _ (by omega)]; omega
            have i2 : IntKind.i64.wrap ((al : Int) - (s2.base : Int)) = (ol : Int) := by rw [IntWalk.i64_in _ (by omega)]; omega
            rw [hol, hgl]
            have H8 := Lib.hid S8
            clear S8 S9 hal hil hol hgl z1 z2 h1 h2 h3 h4 h5 h6 h7 h9 hep hio
            have b1 : ((e : Int) != (e : Int)) = false := by simp
            have b2 : ((gl : Int) != (gl : Int)) = false := by simp
            have b3 : ((ol : Int) != (ol : Int)) = false := by simp
            have b4 : (io != io) = false := by simp
            have b5 : (!(io == io)) = false := by simp
            go_upto_region 32 with (fail)
            go_quiet (first | exact Calls.quiet_of_same (HE.out _) | exact Calls.quiet_of_same (HP.out _) | exact Calls.quiet_of_same (HI.out _) | exact Calls.quiet_of (HJ.out _))
            go_wp2_with fail
            go_roundw
            case measure => simp [intOf]; omega
            case rel => exact ⟨i + 1, s2, r2, by omega, by go_num, hN2, (H8.out.drewN _).tail⟩
        · have hlt' : ¬ (i : Int) < (n : Int) := by omega
          have HC := Lib.hid (carries_any wr)
          go_wp2_with fail
          refine HC.out.mono ?_
          rintro en w9 ⟨rfl, h9⟩
          go_wp2_with fail
          go_ret
          exact ⟨rfl, (S5.grow h9).below⟩
theorem plays_int (a : Int) (ha : 0 ≤ a) (l : List Av) (A : Option Addr) (c : Nat) (w : World) (hr : Reads w w.heap.size 7 A l.length (l.flatMap Av.cs)) (hok : ∀ v ∈ l, v.ok w) : Calls Try.prog 8 #[.int .u32 a, .slice A l.length c] w fun en w' => en = .returned (.bool true) ∧ Below w.heap.size w w' := by
  obtain ⟨e, rfl⟩ := Int.eq_ofNat_of_zero_le ha
  exact plays_any e l A c w hr hok
end Go.Proofs.Ytpgiljjjpijepaa
