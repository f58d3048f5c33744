/- with, Take, Lose. -/
import Derived.Test.YtmacmhlimdaemaaNTake
namespace Go.Proofs.Ytmacmhlimdaemaa.Net
open Go.RowKit Go.Proofs.YtmacmhlimdaemaaW.PrintWords Go.Proofs.Ytmacmhlimdaemaa.R Go.Proofs.Ytmacmhlimdaemaa.Pkt
section
variable {w0 w w' : World} {L M : List Asn}
theorem take1_any (g o p q b m cc j : Nat) (Z : Array Value) (hZ : Z.size = 3) (k : Int) (es : List Ent) (hm : es.length = m) (hj : j < m) (hm2 : m ≤ 1000) (f : Fl) (au : Option Addr) (nu cu : Nat) (he : es[j]? = some (.slice au nu cu, f))
    (S : Sep w0 w (cell o 48 Z :: cell p 45 #[.pointer (some ⟨g, 0, none⟩)] :: cell q 3 #[.int .i64 (j : Int)] :: cell g 80 #[.slice (some ⟨b, 0, none⟩) m cc, .int .i64 k] :: rowX 48 3 (.slice (some ⟨b, 0, none⟩) m cc) m (entC es) :: (es.map rowE ++ M))) :
    Calls Try.prog 55 #[.pointer (some ⟨b, j * 3, none⟩), .pointer (some ⟨o, 0, none⟩), .pointer (some ⟨p, 0, none⟩), .pointer (some ⟨q, 0, none⟩)] w fun en w' => en = .returned (.int .i64 0) ∧ ∃ v', Sep w0 w' (cell o 48 #[.int .i64 f.c, .bool f.d, .slice au nu cu] :: cell p 45 #[.pointer (some ⟨g, 0, none⟩)] :: cell q 3 #[.int .i64 (j : Int)] :: cell g 80 #[v', .int .i64 k] :: rowX 48 3 v' (m - 1) (entC (es.eraseIdx j)) :: (es.map rowE ++ M)) := by
  by_cases ho : cc = j + 1
  · obtain ⟨_, _, hv, hcap, -⟩ := (S.ownX 4 rfl).slice
    injection hv with hv1 hv2 hv3
    obtain rfl : m = j + 1 := by omega
    subst ho
    exact take1e g o p q b j Z hZ k es hm hm2 f au nu cu he S
  · exact take1 g o p q b m cc j Z hZ k es hm hj hm2 f au nu cu he ho S
theorem with_take (g o p q b m cc j : Nat) (Z : Array Value) (hZ : Z.size = 3) (k : Int) (es : List Ent) (hm : es.length = m) (hj : j < m) (hm2 : m ≤ 1000) (f : Fl) (au : Option Addr) (nu cu : Nat) (he : es[j]? = some (.slice au nu cu, f))
    (S : Sep w0 w (cell o 48 Z :: cell p 45 #[.pointer (some ⟨g, 0, none⟩)] :: cell q 3 #[.int .i64 (j : Int)] :: cell g 80 #[.slice (some ⟨b, 0, none⟩) m cc, .int .i64 k] :: rowX 48 3 (.slice (some ⟨b, 0, none⟩) m cc) m (entC es) :: (es.map rowE ++ M))) :
    Calls Try.prog 54 #[.pointer (some ⟨g, 0, none⟩), .int .i64 (j : Int), .func (.func 55) #[] #[.pointer (some ⟨o, 0, none⟩), .pointer (some ⟨p, 0, none⟩), .pointer (some ⟨q, 0, none⟩)]] w fun en w' => en = .returned (.int .i64 0) ∧ ∃ v', Sep w0 w' (cell o 48 #[.int .i64 f.c, .bool f.d, .slice au nu cu] :: cell p 45 #[.pointer (some ⟨g, 0, none⟩)] :: cell q 3 #[.int .i64 (j : Int)] :: cell g 80 #[v', .int .i64 k] :: rowX 48 3 v' (m - 1) (entC (es.eraseIdx j)) :: (es.map rowE ++ M)) := by
  have g0 := (S.blk 3 rfl).at_ 0 rfl
  have i0 : (0 : Int) ≤ (j : Int) := by omega
  have i1 : (j : Int) < (m : Int) := by omega
  have d0 : decide ((j : Int) < 0) = false := decide_eq_false (by omega)
  have d1 : decide ((m : Int) ≤ (j : Int)) = false := decide_eq_false (by omega)
  have HS := Lib.hid (take1_any g o p q b m cc j Z hZ k es hm hj hm2 f au nu cu he S)
  clear S he hm
  go_enter Try.func54, Try.ntmps54
  go_wp2_with fail
  refine HS.out.mono ?_
  rintro en w1 ⟨rfl, v', h⟩
  go_wp2_with fail
  go_ret
  exact ⟨rfl, v', h⟩
end
end Go.Proofs.Ytmacmhlimdaemaa.Net
