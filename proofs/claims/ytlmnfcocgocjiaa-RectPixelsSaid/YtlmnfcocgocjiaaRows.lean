/-
  No cell of these rows narrows 'for every input' (looked for: loops, veiled, ifaces, maps, wideKeys, modest, calm, conditions, laid).
  DERIVED. THE GIVEN ROWS OF THIS SEAT. 6 by the template 'for every input the law returns true; each argument reads behind the call as it read before'; 0 by the template 'total and deterministic' (their statements: YtlmnfcocgocjiaaTotals.lean).
  GIVEN WITH THE SEED: the statements are not yours to turn. If you find one false, say at which input.
  Laid BY PROGRAM, IN A SANDBOX (cutbox-rows.mjs): the forced cells as the released guide's own fill.sh prints them over the translation b24f1885c111a99f… (all of the seat's roots in one cut). By AI agents, Wed Nov 11 2026. No macro, syntax, notation, axiom, sorry.
-/
import Derived.Test.YtlmnfcocgocjiaaChecked
import GoSem.Claim
import GoSem.ClaimJoined
import GoSem.ClaimMapViews
import Derived.JoinedTies
import Derived.KernelRfl
namespace Go.Proofs.Ytlmnfcocgocjiaa
/- THE CELL 'sum', in the pinned program and in every row, IS THE sha256 OF THE DUMP (.gsa) THAT YtlmnfcocgocjiaaProg.lean LOADS. Nothing in Lean hashes anything: it is a label: what it is worth is what the hold of that sum in a sandbox is worth. -/
noncomputable def Try.pinned : Pinned := { name := "ytlmnfcocgocjiaa", sum := "b24f1885c111a99f6320cc8fcb115c99afce76a0529e595bfbf7cce2a600f755", checked := Try.checked }
namespace Rows
def none {H : Type} : Left H := { results := [], args := [] }

/-- 'vignettelaw01.RectAnds': WHATEVER THE INPUT: true; the input reads as it did. -/
def rectAndsSpec : ChangeSpec := { name := "rectAnds", fn := fun _ => fun
  | [d1, d2, d3, d4, d5] => { results := [.lit (.bool true)], args := [d1, d2, d3, d4, d5] }
  | _ => none }
def rectAndsRow : OpenClaim := { program := "ytlmnfcocgocjiaa", sum := "b24f1885c111a99f6320cc8fcb115c99afce76a0529e595bfbf7cce2a600f755", func := "vignette/vignettelaw01.RectAnds", spec := "rectAnds", unfollowed := true, recurses := true, apart := false }
def RectAndsSaid : Prop := rectAndsRow.holds Try.pinned (OpenSpec.ofChange rectAndsSpec)

/-- ITS FALSE NEIGHBOUR: 'it returns false'. Refute it at one input. -/
def rectAndsWrong : ChangeSpec := { name := "rectAnds", fn := fun _ => fun
  | [d1, d2, d3, d4, d5] => { results := [.lit (.bool false)], args := [d1, d2, d3, d4, d5] }
  | _ => none }
def RectAndsWrongFalsely : Prop := rectAndsRow.holds Try.pinned (OpenSpec.ofChange rectAndsWrong)

/-- 'vignettelaw01.RectTells': WHATEVER THE INPUT: true; the input reads as it did. -/
def rectTellsSpec : ChangeSpec := { name := "rectTells", fn := fun _ => fun
  | [d1, d2, d3] => { results := [.lit (.bool true)], args := [d1, d2, d3] }
  | _ => none }
def rectTellsRow : OpenClaim := { program := "ytlmnfcocgocjiaa", sum := "b24f1885c111a99f6320cc8fcb115c99afce76a0529e595bfbf7cce2a600f755", func := "vignette/vignettelaw01.RectTells", spec := "rectTells", unfollowed := true, recurses := true, apart := false }
def RectTellsSaid : Prop := rectTellsRow.holds Try.pinned (OpenSpec.ofChange rectTellsSpec)

/-- ITS FALSE NEIGHBOUR: 'it returns false'. Refute it at one input. -/
def rectTellsWrong : ChangeSpec := { name := "rectTells", fn := fun _ => fun
  | [d1, d2, d3] => { results := [.lit (.bool false)], args := [d1, d2, d3] }
  | _ => none }
def RectTellsWrongFalsely : Prop := rectTellsRow.holds Try.pinned (OpenSpec.ofChange rectTellsWrong)

/-- 'vignettelaw01.RectShifts': WHATEVER THE INPUT: true; the input reads as it did. -/
def rectShiftsSpec : ChangeSpec := { name := "rectShifts", fn := fun _ => fun
  | [d1, d2, d3, d4, d5] => { results := [.lit (.bool true)], args := [d1, d2, d3, d4, d5] }
  | _ => none }
def rectShiftsRow : OpenClaim := { program := "ytlmnfcocgocjiaa", sum := "b24f1885c111a99f6320cc8fcb115c99afce76a0529e595bfbf7cce2a600f755", func := "vignette/vignettelaw01.RectShifts", spec := "rectShifts", unfollowed := true, recurses := true, apart := false }
def RectShiftsSaid : Prop := rectShiftsRow.holds Try.pinned (OpenSpec.ofChange rectShiftsSpec)

/-- ITS FALSE NEIGHBOUR: 'it returns false'. Refute it at one input. -/
def rectShiftsWrong : ChangeSpec := { name := "rectShifts", fn := fun _ => fun
  | [d1, d2, d3, d4, d5] => { results := [.lit (.bool false)], args := [d1, d2, d3, d4, d5] }
  | _ => none }
def RectShiftsWrongFalsely : Prop := rectShiftsRow.holds Try.pinned (OpenSpec.ofChange rectShiftsWrong)

/-- 'vignettelaw01.RectTwo': WHATEVER THE INPUT: true; the input reads as it did. -/
def rectTwoSpec : ChangeSpec := { name := "rectTwo", fn := fun _ => fun
  | [d1, d2] => { results := [.lit (.bool true)], args := [d1, d2] }
  | _ => none }
def rectTwoRow : OpenClaim := { program := "ytlmnfcocgocjiaa", sum := "b24f1885c111a99f6320cc8fcb115c99afce76a0529e595bfbf7cce2a600f755", func := "vignette/vignettelaw01.RectTwo", spec := "rectTwo", unfollowed := true, recurses := true, apart := false }
def RectTwoSaid : Prop := rectTwoRow.holds Try.pinned (OpenSpec.ofChange rectTwoSpec)

/-- ITS FALSE NEIGHBOUR: 'it returns false'. Refute it at one input. -/
def rectTwoWrong : ChangeSpec := { name := "rectTwo", fn := fun _ => fun
  | [d1, d2] => { results := [.lit (.bool false)], args := [d1, d2] }
  | _ => none }
def RectTwoWrongFalsely : Prop := rectTwoRow.holds Try.pinned (OpenSpec.ofChange rectTwoWrong)

/-- 'vignettelaw01.RectLeast': WHATEVER THE INPUT: true; the input reads as it did. -/
def rectLeastSpec : ChangeSpec := { name := "rectLeast", fn := fun _ => fun
  | [d1, d2, d3] => { results := [.lit (.bool true)], args := [d1, d2, d3] }
  | _ => none }
def rectLeastRow : OpenClaim := { program := "ytlmnfcocgocjiaa", sum := "b24f1885c111a99f6320cc8fcb115c99afce76a0529e595bfbf7cce2a600f755", func := "vignette/vignettelaw01.RectLeast", spec := "rectLeast", unfollowed := true, recurses := true, apart := false }
def RectLeastSaid : Prop := rectLeastRow.holds Try.pinned (OpenSpec.ofChange rectLeastSpec)

/-- ITS FALSE NEIGHBOUR: 'it returns false'. Refute it at one input. -/
def rectLeastWrong : ChangeSpec := { name := "rectLeast", fn := fun _ => fun
  | [d1, d2, d3] => { results := [.lit (.bool false)], args := [d1, d2, d3] }
  | _ => none }
def RectLeastWrongFalsely : Prop := rectLeastRow.holds Try.pinned (OpenSpec.ofChange rectLeastWrong)

/-- 'vignettelaw01.RectPixels': WHATEVER THE INPUT: true; the input reads as it did. -/
def rectPixelsSpec : ChangeSpec := { name := "rectPixels", fn := fun _ => fun
  | [d1, d2, d3, d4] => { results := [.lit (.bool true)], args := [d1, d2, d3, d4] }
  | _ => none }
def rectPixelsRow : OpenClaim := { program := "ytlmnfcocgocjiaa", sum := "b24f1885c111a99f6320cc8fcb115c99afce76a0529e595bfbf7cce2a600f755", func := "vignette/vignettelaw01.RectPixels", spec := "rectPixels", unfollowed := true, recurses := true, apart := false }
def RectPixelsSaid : Prop := rectPixelsRow.holds Try.pinned (OpenSpec.ofChange rectPixelsSpec)

/-- ITS FALSE NEIGHBOUR: 'it returns false'. Refute it at one input. -/
def rectPixelsWrong : ChangeSpec := { name := "rectPixels", fn := fun _ => fun
  | [d1, d2, d3, d4] => { results := [.lit (.bool false)], args := [d1, d2, d3, d4] }
  | _ => none }
def RectPixelsWrongFalsely : Prop := rectPixelsRow.holds Try.pinned (OpenSpec.ofChange rectPixelsWrong)

/- THE SECOND FORM. 'bulk': how many values and letters a reading holds, each counted each time it is reached (what is shared counts as often as it is met; a slice's spare places count too). A statement '..UptoSaid' is the law's where the arguments, and the package variables that the reading takes, are together of bulk at most 1048576: NARROWER than '..Said'. Prove '..Said' where nothing that the law and all that it calls make is longer than what came in: it says more and counts as full. Else prove '..UptoSaid'. A law counts once. -/
mutual
def uptoBulk {H : Type} : DataW H → Nat
  | .lit (.string bytes) => bytes.length + 1
  | .lit _ => 1
  | .nil => 1
  | .ptr d => uptoBulk d + 1
  | .slice elems spare => uptoBulkAll elems + uptoBulkAll spare + 1
  | .agg parts => uptoBulkAll parts + 1
  | .iface _ d => uptoBulk d + 1
  | .map entries => uptoBulkEntries entries + 1
  | .held _ => 1
def uptoBulkAll {H : Type} : List (DataW H) → Nat
  | [] => 0
  | d :: r => uptoBulk d + uptoBulkAll r
def uptoBulkEntries {H : Type} : List (Lit × DataW H) → Nat
  | [] => 0
  | x :: r => uptoBulkEntry x + uptoBulkEntries r
def uptoBulkEntry {H : Type} : Lit × DataW H → Nat
  | (.string bytes, d) => bytes.length + uptoBulk d + 1
  | (_, d) => uptoBulk d + 1
 end
def uptoSmall : (H : Type) → List (DataW H) → Bool := fun _ ds => decide (uptoBulkAll ds ≤ 1048576)
def OpenSpec.upto (s : _root_.Go.ChangeSpec) : _root_.Go.OpenSpec := { _root_.Go.OpenSpec.ofChange s with cond := some uptoSmall }

/-- 'vignettelaw01.RectAnds', WHERE WHAT IT READS IS OF BULK AT MOST 1048576: true; the input reads as it did. -/
def rectAndsUptoRow : OpenClaim := { program := "ytlmnfcocgocjiaa", sum := "b24f1885c111a99f6320cc8fcb115c99afce76a0529e595bfbf7cce2a600f755", func := "vignette/vignettelaw01.RectAnds", spec := "rectAnds", unfollowed := true, recurses := true, apart := false, narrowed := true }
def RectAndsUptoSaid : Prop := rectAndsUptoRow.holds Try.pinned (OpenSpec.upto rectAndsSpec)

/-- 'vignettelaw01.RectTells', WHERE WHAT IT READS IS OF BULK AT MOST 1048576: true; the input reads as it did. -/
def rectTellsUptoRow : OpenClaim := { program := "ytlmnfcocgocjiaa", sum := "b24f1885c111a99f6320cc8fcb115c99afce76a0529e595bfbf7cce2a600f755", func := "vignette/vignettelaw01.RectTells", spec := "rectTells", unfollowed := true, recurses := true, apart := false, narrowed := true }
def RectTellsUptoSaid : Prop := rectTellsUptoRow.holds Try.pinned (OpenSpec.upto rectTellsSpec)

/-- 'vignettelaw01.RectShifts', WHERE WHAT IT READS IS OF BULK AT MOST 1048576: true; the input reads as it did. -/
def rectShiftsUptoRow : OpenClaim := { program := "ytlmnfcocgocjiaa", sum := "b24f1885c111a99f6320cc8fcb115c99afce76a0529e595bfbf7cce2a600f755", func := "vignette/vignettelaw01.RectShifts", spec := "rectShifts", unfollowed := true, recurses := true, apart := false, narrowed := true }
def RectShiftsUptoSaid : Prop := rectShiftsUptoRow.holds Try.pinned (OpenSpec.upto rectShiftsSpec)

/-- 'vignettelaw01.RectTwo', WHERE WHAT IT READS IS OF BULK AT MOST 1048576: true; the input reads as it did. -/
def rectTwoUptoRow : OpenClaim := { program := "ytlmnfcocgocjiaa", sum := "b24f1885c111a99f6320cc8fcb115c99afce76a0529e595bfbf7cce2a600f755", func := "vignette/vignettelaw01.RectTwo", spec := "rectTwo", unfollowed := true, recurses := true, apart := false, narrowed := true }
def RectTwoUptoSaid : Prop := rectTwoUptoRow.holds Try.pinned (OpenSpec.upto rectTwoSpec)

/-- 'vignettelaw01.RectLeast', WHERE WHAT IT READS IS OF BULK AT MOST 1048576: true; the input reads as it did. -/
def rectLeastUptoRow : OpenClaim := { program := "ytlmnfcocgocjiaa", sum := "b24f1885c111a99f6320cc8fcb115c99afce76a0529e595bfbf7cce2a600f755", func := "vignette/vignettelaw01.RectLeast", spec := "rectLeast", unfollowed := true, recurses := true, apart := false, narrowed := true }
def RectLeastUptoSaid : Prop := rectLeastUptoRow.holds Try.pinned (OpenSpec.upto rectLeastSpec)

/-- 'vignettelaw01.RectPixels', WHERE WHAT IT READS IS OF BULK AT MOST 1048576: true; the input reads as it did. -/
def rectPixelsUptoRow : OpenClaim := { program := "ytlmnfcocgocjiaa", sum := "b24f1885c111a99f6320cc8fcb115c99afce76a0529e595bfbf7cce2a600f755", func := "vignette/vignettelaw01.RectPixels", spec := "rectPixels", unfollowed := true, recurses := true, apart := false, narrowed := true }
def RectPixelsUptoSaid : Prop := rectPixelsUptoRow.holds Try.pinned (OpenSpec.upto rectPixelsSpec)

end Rows
end Go.Proofs.Ytlmnfcocgocjiaa
