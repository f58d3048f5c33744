/- A link as an assertion: its cells and the rows of its bytes; slices of bytes; Clone. -/
import Derived.Test.YtpgiljjjpijepaaBund
import Derived.Test.YtpgiljjjpijepaaIn
import Derived.Laws.BytesArg
import Derived.Laws.MakeOwn
import Derived.Lib.SliceRun
import Derived.Outline
import Derived.LoopTactic
import Derived.LoopN
import Derived.RegionTactic
import Derived.IntWalk
import Derived.Deep.RegionLaw
import Derived.Deep.RegionHeld3
import Derived.Deep.CutBlock
namespace Go.Proofs.Ytpgiljjjpijepaa
open Go.RowKit
def enB (x : Nat) : Value := .int .u8 (x : Int)
/-- a row of bytes of the call's own -/
def BRow (v : Value) (l : List Nat) : Asn := row 5 1 v l.length (l.map enB)
/-- bytes that can be read -/
def RB (w : World) (A : Option Addr) (n : Nat) (l : List Nat) : Prop := l.length = n ∧ Reads w w.heap.size 1 A n (l.map enB)
theorem info5 : (Try.prog.info? 5).map (fun i => (i.zero, i.size, i.bytes)) = some (some (.int .u8 0), 1, 1) := by kernel_rfl
theorem own_slice {w : World} {base : Nat} {e : TypeId} {size n : Nat} {v : Value} {xs : List Value} (h : w.ownsRow base e size v n xs) : ∃ a c, v = .slice a n c ∧ n ≤ c ∧ c ≤ maxLen := by
  rcases h.2 with ⟨rfl, rfl⟩ | ⟨g, cap, cur, rfl, _, _, h1, h2, _⟩
  · exact ⟨none, 0, rfl, Nat.le_refl _, Nat.zero_le _⟩
  · exact ⟨_, cap, rfl, h1, h2⟩
theorem enB_one (l : List Nat) : ∀ u ∈ l.map enB, u.oneCell' = true := by
  intro u hu
  obtain ⟨x, _, rfl⟩ := List.mem_map.1 hu
  rfl
section
variable {w0 w w' : World} {L M : List Asn}
theorem RB.below {A : Option Addr} {n : Nat} {l : List Nat} (h : RB w A n l) (hb : Below w.heap.size w w') : RB w' A n l :=
  ⟨h.1, h.2.1, fun hn => by obtain ⟨ad, e1, e2, e3⟩ := (h.2.below hb).2 hn; exact ⟨ad, e1, Nat.lt_of_lt_of_le e2 hb.size, e3⟩⟩
theorem RB.of_own {n c : Nat} {A : Option Addr} {l : List Nat} (hn : l.length = n) (h : w.ownsRow 0 5 1 (.slice A n c) n (l.map enB)) : RB w A n l := ⟨hn, Reads.of_own h⟩
theorem Sep.rb {n c : Nat} {A : Option Addr} {l : List Nat} (h : Sep w0 w L) (i : Nat) (hi : L[i]? = some (BRow (.slice A n c) l)) : RB w A n l ∧ n ≤ c ∧ l.length = n := by
  have ho := h.own i hi
  obtain ⟨a, c', hv, h1, -⟩ := own_slice ho
  injection hv with e1 e2 e3
  subst e1 e2 e3
  exact ⟨RB.of_own rfl ho, h1, rfl⟩
theorem Sep.bform {v : Value} {l : List Nat} (h : Sep w0 w L) (i : Nat) (hi : L[i]? = some (BRow v l)) : ∃ A c, v = .slice A l.length c ∧ l.length ≤ c ∧ c ≤ maxLen ∧ RB w A l.length l := by
  have ho := h.own i hi
  obtain ⟨a, c, rfl, h1, h2⟩ := own_slice ho
  exact ⟨a, c, rfl, h1, h2, RB.of_own rfl ho⟩
theorem Sep.nilB (h : Sep w0 w L) : Sep w0 w (BRow (.slice none 0 0) [] :: L) := h.nilRowF 5 1
/-- Clone -/
theorem clone_any (l : List Nat) (n : Nat) (hl : n ≤ 100000000) (A : Option Addr) (c : Nat) (hR : RB w A n l) (hS : Sep w0 w L) :
    Calls Try.prog 37 #[.slice A n c] w fun en w' => ∃ v, en = .returned v ∧ Sep w0 w' (BRow v l :: L) := by
  rcases A with _ | ad
  · have h0 : n = 0 := by
      rcases Nat.eq_zero_or_pos n with h0 | h0
      · exact h0
      · obtain ⟨ad, e, _⟩ := hR.2.2 h0
        cases e
    subst h0
    have hl0 : l = [] := List.eq_nil_of_length_eq_zero hR.1
    subst hl0
    have heq := fun w => Lib.run_eql_slice_nil (P := Try.prog) w 27 5 none 0 c 0 0 Try.underlying27
    go_enter Try.func37, Try.ntmps37
    go_wp2
    go_ret
    exact ⟨_, rfl, hS.nilB⟩
  · have heq := fun w => Lib.run_eql_slice_nil (P := Try.prog) w 27 5 (some ad) n c 0 0 Try.underlying27
    have hb1 : Below w.heap.size w (w.alloc (.cells #[] 5)) := (Below.refl _ _).alloc (Nat.le_refl _) _
    have S1 := Lib.hid (hS.boxF 5 #[])
    have O1 : Hid ((w.alloc (.cells #[] 5)).ownsRow 0 5 1 (.slice (some ⟨w.heap.size, 0, none⟩) 0 0) 0 []) := Lib.hid ⟨rfl, .inr ⟨_, 0, #[], rfl, Nat.zero_le _, heap_alloc_new _ _, Nat.le_refl _, Nat.zero_le _, rfl, rfl⟩⟩
    have N1 : Hid (Sep w0 (w.alloc (.cells #[] 5)) (row 5 1 (.slice (some ⟨w.heap.size, 0, none⟩) 0 0) 0 [] :: L)) := Lib.hid (Sep.closeRow S1.out rfl (Nat.le_refl _) (Nat.zero_le _) rfl rfl)
    have HR := Lib.hid (hR.below hb1)
    have Hm1 : Hid (0 + n ≤ maxLen) := Lib.hid (by unfold maxLen; omega)
    have Hm2 : Hid ((0 + n) * 1 ≤ 140737488355328) := Lib.hid (by omega)
    obtain ⟨i5, hi5, hz0, hz1, hz2⟩ := info_parts info5
    have Hi := Lib.hid hi5
    have Hz0 := Lib.hid hz0
    have Hz1 := Lib.hid hz1
    have Hz2 := Lib.hid hz2
    clear hi5 hz0 hz1 hz2 hb1 hR hS hl
    go_enter Try.func37, Try.ntmps37
    go_wp2_with (
      at_builtin
      refine wpList_append_any _ rfl (.tmp 5) (.tmp 6) 27 rfl 0 5 i5 _ 1 1 Try.underlying27 Hi.out Hz0.out Hz1.out Hz2.out rfl (by omega) (.slice (some ⟨w.heap.size, 0, none⟩) 0 0) 0 [] rfl O1.out _ (some ad) n c (l.map enB) rfl HR.out.2 (enB_one l) Hm1.out Hm2.out (Nat.zero_le _) ?_
      intro v1 w1 hown hg hat
      have hown2 : w1.ownsRow 0 5 1 v1 l.length (l.map enB) := by rw [Nat.zero_add, List.nil_append] at hown; rw [HR.out.1]; exact hown
      have S2 := Lib.hid (N1.out.pushed 0 rfl hown2 hg hat)
      clear hown hown2 hg hat)
    go_ret
    exact ⟨_, rfl, S2.out⟩
end
/-- the state of a link -/
structure LS where
  wait : List Nat
  base : Nat
  sent : Nat
  most : Nat
  ticks : Nat
  got : List Nat
  next : Nat
  owes : Bool
  epoch : Nat
abbrev LS.cs (s : LS) (vw vg : Value) : Array Value := #[vw, .int .u64 (s.base : Int), .int .u64 (s.sent : Int), .int .u64 (s.most : Int), .int .i64 (s.ticks : Int), vg, .int .u64 (s.next : Int), .bool s.owes, .int .u32 (s.epoch : Int)]
/-- the link at g is in this state -/
def LinkAt (g : Nat) (s : LS) : Asn := exA fun x : Value × Value => bund [cell g 76 (s.cs x.1 x.2), BRow x.1 s.wait, BRow x.2 s.got]
section
variable {w0 w w' : World} {L M : List Asn}
theorem Sep.openL {g : Nat} {s : LS} (h : Sep w0 w (LinkAt g s :: L)) : ∃ vw vg, Sep w0 w (cell g 76 (s.cs vw vg) :: BRow vw s.wait :: BRow vg s.got :: L) := by
  obtain ⟨⟨vw, vg⟩, h⟩ := h.openE
  exact ⟨vw, vg, h.unbund⟩
theorem Sep.closeL {g : Nat} {s : LS} {vw vg : Value} (h : Sep w0 w (cell g 76 (s.cs vw vg) :: BRow vw s.wait :: BRow vg s.got :: L)) : Sep w0 w (LinkAt g s :: L) := by
  have h1 : Sep w0 w ([cell g 76 (s.cs vw vg), BRow vw s.wait, BRow vg s.got] ++ L) := h
  exact Sep.closeE (P := fun x : Value × Value => Go.Proofs.Ytpgiljjjpijepaa.bund [cell g 76 (s.cs x.1 x.2), BRow x.1 s.wait, BRow x.2 s.got]) (vw, vg) h1.bund
end
end Go.Proofs.Ytpgiljjjpijepaa
