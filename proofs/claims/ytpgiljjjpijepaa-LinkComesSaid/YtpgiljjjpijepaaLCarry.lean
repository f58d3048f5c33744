/- The example of the laws: it is carried. -/
import Derived.Test.YtpgiljjjpijepaaLText
namespace Go.Proofs.Ytpgiljjjpijepaa
open Go.RowKit
def hello : List Nat := [104, 101, 108, 108, 111]
theorem pieces_none {s : LS} (h : kOf s = 0) : pieces s = (s, []) := by rw [pieces, dif_pos h]
theorem pieces_more {s : LS} (h : kOf s ≠ 0) : pieces s = ((pieces (pieceS s)).1, pieceP s :: (pieces (pieceS s)).2) := by rw [pieces, dif_neg h]
def cA1 : LS := { newL 1 with wait := hello }
def cA2 : LS := { cA1 with sent := 5, most := 5 }
def cA3 : LS := { newL 1 with base := 5, sent := 5, most := 5 }
def cB1 : LS := { newL 1 with got := hello, next := 5, owes := true }
def cB2 : LS := { newL 1 with next := 5, owes := true }
def cB3 : LS := { newL 1 with next := 5 }
def cP : Pk := ⟨1, 0, 0, hello⟩
def cQ : Pk := ⟨1, 0, 5, []⟩
theorem pA : pieces cA1 = (cA2, [cP]) := by
  rw [pieces_more (by decide), pieces_none (by decide)]
  rfl
theorem tA1 : tickS cA1 = cA2 := by unfold tickS; rw [show lateS cA1 = cA1 from rfl, pA]; rfl
theorem tA2 : tickP cA1 = [cP] := by unfold tickP; rw [show lateS cA1 = cA1 from rfl, pA]; rfl
theorem pB : pieces cB2 = (cB2, []) := pieces_none (by decide)
theorem tB1 : tickS cB2 = cB3 := by unfold tickS; rw [show lateS cB2 = cB2 from rfl, pB]; rfl
theorem tB2 : tickP cB2 = [cQ] := by unfold tickP; rw [show lateS cB2 = cB2 from rfl, pB]; rfl
theorem invA1 : Inv cA1 := by constructor <;> decide
theorem invB2 : Inv cB2 := by constructor <;> decide
set_option maxRecDepth 100000 in
theorem carries_any (w : World) : Calls Try.prog 18 #[] w fun e w' => e = .returned (.bool true) ∧ Below w.heap.size w w' := by
  go_enter Try.func18, Try.ntmps18
  go_wp2_with fail
  refine (new_any 1 (Sep.start w)).mono ?_
  rintro e w1 ⟨a, rfl, S1⟩
  go_wp2_with fail
  refine (new_any 1 S1).mono ?_
  rintro e w2 ⟨b, rfl, S2⟩
  replace S2 : Sep w w2 [LinkAt b (newL 1), LinkAt a (newL 1)] := S2
  obtain ⟨W3, hc3, R3, S3⟩ := text_n hello 5 rfl #[.int .u8 104, .int .u8 101, .int .u8 108, .int .u8 108, .int .u8 111] rfl S2
  clear S1 S2
  go_wp2_with fail
  refine (write_any hello _ 5 5 R3 (by decide) 1 rfl S3).mono ?_
  rw [show writeE (newL 1) 5 = 0 from rfl, show writeS (newL 1) hello = cA1 from rfl]
  rintro e w4 ⟨rfl, S4⟩
  replace S4 : Sep w w4 [LinkAt b (newL 1), LinkAt a cA1] := S4
  clear R3 S3
  go_wp2_with fail
  refine (tick_any invA1 (by decide) 1 rfl S4).mono ?_
  rw [tA1, tA2]
  rintro e w5 ⟨v5, rfl, S5⟩
  replace S5 : Sep w w5 [PkX v5 [cP], LinkAt b (newL 1), LinkAt a cA2] := S5
  obtain ⟨es, ds, b5, o5, B5, c5, vc5, hv5, S6, q0, q1, q2, q3, hR, -, hT, -⟩ := take_of 0 cP rfl (by decide) (by decide) (by decide) (by decide) (by decide) (by decide) (by decide) 0 rfl S5
  rw [show takeE (newL 1) cP = 0 from rfl, show takeS (newL 1) cP = cB1 from rfl] at hT
  rw [show [cP].length = 1 from rfl] at hv5
  subst hv5
  rw [show (cP.o : Int) = 0 from rfl] at q1 hT
  rw [show (cP.a : Int) = 0 from rfl] at q2 hT
  rw [show (cP.e : Int) = 1 from rfl] at q0 hT
  rw [show cP.d.length = 5 from rfl] at q3 hR hT
  simp only [Nat.zero_mul, Nat.add_zero] at q0 q1 q2 q3
  have k5 : (convert 27 9 (.slice B5 5 c5)).run Try.prog w5 = .ok (.string ⟨#[104, 101, 108, 108, 111]⟩) w5 := str_conv hR
  have HT := Lib.hid (hT w5 S6)
  clear S4 S5 S6 hR hT
  go_wp2_with fail
  refine HT.out.mono ?_
  rintro e w7 ⟨rfl, S7⟩
  replace S7 : Sep w w7 [PkX (.slice (some ⟨b5, o5, none⟩) 1 vc5) [cP], LinkAt b cB1, LinkAt a cA2] := S7
  clear HT k5 q0 q1 q2 q3
  go_wp2_with fail
  refine (read_any 9 (by decide) 1 rfl S7).mono ?_
  rw [show readB cB1 9 = hello from rfl, show readL cB1 9 = cB2 from rfl]
  rintro e w8 ⟨v8, rfl, S8⟩
  replace S8 : Sep w w8 [BRow v8 hello, PkX (.slice (some ⟨b5, o5, none⟩) 1 vc5) [cP], LinkAt b cB2, LinkAt a cA2] := S8
  obtain ⟨A8, c8, hv8, -, -, hR8⟩ := S8.bform 0 rfl
  rw [show hello.length = 5 from rfl] at hv8 hR8
  subst hv8
  have k8 : (convert 27 9 (.slice A8 5 c8)).run Try.prog w8 = .ok (.string ⟨#[104, 101, 108, 108, 111]⟩) w8 := str_conv hR8
  clear S7 hR8
  go_wp2_with fail
  refine (tick_any invB2 (by decide) 2 rfl S8).mono ?_
  rw [tB1, tB2]
  rintro e w9 ⟨v9, rfl, S9⟩
  replace S9 := (S9.drop 1).drop 1
  replace S9 : Sep w w9 [PkX v9 [cQ], LinkAt b cB3, LinkAt a cA2] := S9
  obtain ⟨es, ds, b9, o9, B9, c9, vc9, hv9, S10, q0, q1, q2, q3, -, -, hT, -⟩ := take_of 0 cQ rfl (by decide) (by decide) (by decide) (by decide) (by decide) (by decide) (by decide) 1 rfl S9
  rw [show takeE cA2 cQ = 0 from rfl, show takeS cA2 cQ = cA3 from rfl] at hT
  rw [show [cQ].length = 1 from rfl] at hv9
  subst hv9
  rw [show (cQ.o : Int) = 0 from rfl] at q1 hT
  rw [show (cQ.a : Int) = 5 from rfl] at q2 hT
  rw [show (cQ.e : Int) = 1 from rfl] at q0 hT
  rw [show cQ.d.length = 0 from rfl] at q3 hT
  simp only [Nat.zero_mul, Nat.add_zero] at q0 q1 q2 q3
  have HT := Lib.hid (hT w9 S10)
  clear k8 S8 S9 S10 hT
  go_wp2_with fail
  refine HT.out.mono ?_
  rintro e w10 ⟨rfl, S10⟩
  replace S10 : Sep w w10 [PkX (.slice (some ⟨b9, o9, none⟩) 1 vc9) [cQ], LinkAt b cB3, LinkAt a cA3] := S10
  clear HT q0 q1 q2 q3
  go_wp2_with fail
  refine (idle_any 2 rfl S10).mono ?_
  rw [show (cA3.wait.length == 0 && !cA3.owes) = true from rfl]
  rintro e w11 ⟨rfl, rfl⟩
  go_wp2_with fail
  refine (idle_any 1 rfl S10).mono ?_
  rw [show (cB3.wait.length == 0 && !cB3.owes) = true from rfl]
  rintro e w12 ⟨rfl, rfl⟩
  go_wp2_with fail
  go_ret
  exact ⟨rfl, S10.below⟩
end Go.Proofs.Ytpgiljjjpijepaa
