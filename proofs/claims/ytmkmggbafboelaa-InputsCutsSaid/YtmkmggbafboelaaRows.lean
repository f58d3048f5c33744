/-
  No cell of these rows narrows 'for every input' (looked for: loops, veiled, ifaces, maps, wideKeys, modest, calm, conditions, laid).
  DERIVED. THE GIVEN ROWS OF THIS SEAT. 6 by the template 'for every input the law returns true; each argument reads behind the call as it read before'; 0 by the template 'total and deterministic' (their statements: YtmkmggbafboelaaTotals.lean).
  GIVEN WITH THE SEED: the statements are not yours to turn. If you find one false, say at which input.
  Laid BY PROGRAM, IN A SANDBOX (cutbox-rows.mjs): the forced cells as the released guide's own fill.sh prints them over the translation 4d0f7a9199eb9645… (all of the seat's roots in one cut). By AI agents, Wed Nov 11 2026. No macro, syntax, notation, axiom, sorry.
-/
import Derived.Test.YtmkmggbafboelaaChecked
import GoSem.Claim
import GoSem.ClaimJoined
import GoSem.ClaimMapViews
import Derived.JoinedTies
import Derived.KernelRfl
namespace Go.Proofs.Ytmkmggbafboelaa
/- THE CELL 'sum', in the pinned program and in every row, IS THE sha256 OF THE DUMP (.gsa) THAT YtmkmggbafboelaaProg.lean LOADS. Nothing in Lean hashes anything: it is a label: what it is worth is what the hold of that sum in a sandbox is worth. -/
noncomputable def Try.pinned : Pinned := { name := "ytmkmggbafboelaa", sum := "4d0f7a9199eb96456db5f9562396e19127ebd410f18a040c9115149c6530dc29", checked := Try.checked }
namespace Rows
def none {H : Type} : Left H := { results := [], args := [] }

/-- 'vignettelaw25.InputsOnce': WHATEVER THE INPUT: true; the input reads as it did. -/
def inputsOnceSpec : ChangeSpec := { name := "inputsOnce", fn := fun _ => fun
  | [d] => { results := [.lit (.bool true)], args := [d] }
  | _ => none }
def inputsOnceRow : OpenClaim := { program := "ytmkmggbafboelaa", sum := "4d0f7a9199eb96456db5f9562396e19127ebd410f18a040c9115149c6530dc29", func := "vignette/vignettelaw25.InputsOnce", spec := "inputsOnce", apart := false }
def InputsOnceSaid : Prop := inputsOnceRow.holds Try.pinned (OpenSpec.ofChange inputsOnceSpec)

/-- ITS FALSE NEIGHBOUR: 'it returns false'. Refute it at one input. -/
def inputsOnceWrong : ChangeSpec := { name := "inputsOnce", fn := fun _ => fun
  | [d] => { results := [.lit (.bool false)], args := [d] }
  | _ => none }
def InputsOnceWrongFalsely : Prop := inputsOnceRow.holds Try.pinned (OpenSpec.ofChange inputsOnceWrong)

/-- 'vignettelaw25.InputsAll': WHATEVER THE INPUT: true; the input reads as it did. -/
def inputsAllSpec : ChangeSpec := { name := "inputsAll", fn := fun _ => fun
  | [d] => { results := [.lit (.bool true)], args := [d] }
  | _ => none }
def inputsAllRow : OpenClaim := { program := "ytmkmggbafboelaa", sum := "4d0f7a9199eb96456db5f9562396e19127ebd410f18a040c9115149c6530dc29", func := "vignette/vignettelaw25.InputsAll", spec := "inputsAll", apart := false }
def InputsAllSaid : Prop := inputsAllRow.holds Try.pinned (OpenSpec.ofChange inputsAllSpec)

/-- ITS FALSE NEIGHBOUR: 'it returns false'. Refute it at one input. -/
def inputsAllWrong : ChangeSpec := { name := "inputsAll", fn := fun _ => fun
  | [d] => { results := [.lit (.bool false)], args := [d] }
  | _ => none }
def InputsAllWrongFalsely : Prop := inputsAllRow.holds Try.pinned (OpenSpec.ofChange inputsAllWrong)

/-- 'vignettelaw25.InputsKnown': WHATEVER THE INPUT: true; the input reads as it did. -/
def inputsKnownSpec : ChangeSpec := { name := "inputsKnown", fn := fun _ => fun
  | [] => { results := [.lit (.bool true)], args := [] }
  | _ => none }
def inputsKnownRow : OpenClaim := { program := "ytmkmggbafboelaa", sum := "4d0f7a9199eb96456db5f9562396e19127ebd410f18a040c9115149c6530dc29", func := "vignette/vignettelaw25.InputsKnown", spec := "inputsKnown", apart := false }
def InputsKnownSaid : Prop := inputsKnownRow.holds Try.pinned (OpenSpec.ofChange inputsKnownSpec)

/-- ITS FALSE NEIGHBOUR: 'it returns false'. Refute it at one input. -/
def inputsKnownWrong : ChangeSpec := { name := "inputsKnown", fn := fun _ => fun
  | [] => { results := [.lit (.bool false)], args := [] }
  | _ => none }
def InputsKnownWrongFalsely : Prop := inputsKnownRow.holds Try.pinned (OpenSpec.ofChange inputsKnownWrong)

/-- 'vignettelaw25.InputsPlays': WHATEVER THE INPUT: true; the input reads as it did. -/
def inputsPlaysSpec : ChangeSpec := { name := "inputsPlays", fn := fun _ => fun
  | [d] => { results := [.lit (.bool true)], args := [d] }
  | _ => none }
def inputsPlaysRow : OpenClaim := { program := "ytmkmggbafboelaa", sum := "4d0f7a9199eb96456db5f9562396e19127ebd410f18a040c9115149c6530dc29", func := "vignette/vignettelaw25.InputsPlays", spec := "inputsPlays", apart := false }
def InputsPlaysSaid : Prop := inputsPlaysRow.holds Try.pinned (OpenSpec.ofChange inputsPlaysSpec)

/-- ITS FALSE NEIGHBOUR: 'it returns false'. Refute it at one input. -/
def inputsPlaysWrong : ChangeSpec := { name := "inputsPlays", fn := fun _ => fun
  | [d] => { results := [.lit (.bool false)], args := [d] }
  | _ => none }
def InputsPlaysWrongFalsely : Prop := inputsPlaysRow.holds Try.pinned (OpenSpec.ofChange inputsPlaysWrong)

/-- 'vignettelaw25.InputsNil': WHATEVER THE INPUT: true; the input reads as it did. -/
def inputsNilSpec : ChangeSpec := { name := "inputsNil", fn := fun _ => fun
  | [d1, d2] => { results := [.lit (.bool true)], args := [d1, d2] }
  | _ => none }
def inputsNilRow : OpenClaim := { program := "ytmkmggbafboelaa", sum := "4d0f7a9199eb96456db5f9562396e19127ebd410f18a040c9115149c6530dc29", func := "vignette/vignettelaw25.InputsNil", spec := "inputsNil", apart := false }
def InputsNilSaid : Prop := inputsNilRow.holds Try.pinned (OpenSpec.ofChange inputsNilSpec)

/-- ITS FALSE NEIGHBOUR: 'it returns false'. Refute it at one input. -/
def inputsNilWrong : ChangeSpec := { name := "inputsNil", fn := fun _ => fun
  | [d1, d2] => { results := [.lit (.bool false)], args := [d1, d2] }
  | _ => none }
def InputsNilWrongFalsely : Prop := inputsNilRow.holds Try.pinned (OpenSpec.ofChange inputsNilWrong)

/-- 'vignettelaw25.InputsCuts': WHATEVER THE INPUT: true; the input reads as it did. -/
def inputsCutsSpec : ChangeSpec := { name := "inputsCuts", fn := fun _ => fun
  | [d1, d2, d3] => { results := [.lit (.bool true)], args := [d1, d2, d3] }
  | _ => none }
def inputsCutsRow : OpenClaim := { program := "ytmkmggbafboelaa", sum := "4d0f7a9199eb96456db5f9562396e19127ebd410f18a040c9115149c6530dc29", func := "vignette/vignettelaw25.InputsCuts", spec := "inputsCuts", apart := false }
def InputsCutsSaid : Prop := inputsCutsRow.holds Try.pinned (OpenSpec.ofChange inputsCutsSpec)

/-- ITS FALSE NEIGHBOUR: 'it returns false'. Refute it at one input. -/
def inputsCutsWrong : ChangeSpec := { name := "inputsCuts", fn := fun _ => fun
  | [d1, d2, d3] => { results := [.lit (.bool false)], args := [d1, d2, d3] }
  | _ => none }
def InputsCutsWrongFalsely : Prop := inputsCutsRow.holds Try.pinned (OpenSpec.ofChange inputsCutsWrong)

/- THE SECOND FORM. 'bulk': how many values and letters a reading holds, each counted each time it is reached (what is shared counts as often as it is met; a slice's spare places count too). A statement '..UptoSaid' is the law's where the arguments, and the package variables that the reading takes, are together of bulk at most 1048576: NARROWER than '..Said'. Prove '..Said' where nothing that the law and all that it calls make is longer than what came in: it says more and counts as full. Else prove '..UptoSaid'. A law counts once. -/
mutual
def uptoBulk {H : Type} : DataW H → Nat
  | .lit (.string bytes) => bytes.length + 1
  | .lit _ => 1
  | .nil => 1
  | .ptr d => uptoBulk d + 1
  | .slice elems spare => uptoBulkAll elems + uptoBulkAll spare + 1
  | .agg parts => uptoBulkAll parts + 1
  | .iface _ d => uptoBulk d + 1
  | .map entries => uptoBulkEntries entries + 1
  | .held _ => 1
def uptoBulkAll {H : Type} : List (DataW H) → Nat
  | [] => 0
  | d :: r => uptoBulk d + uptoBulkAll r
def uptoBulkEntries {H : Type} : List (Lit × DataW H) → Nat
  | [] => 0
  | x :: r => uptoBulkEntry x + uptoBulkEntries r
def uptoBulkEntry {H : Type} : Lit × DataW H → Nat
  | (.string bytes, d) => bytes.length + uptoBulk d + 1
  | (_, d) => uptoBulk d + 1
 end
def uptoSmall : (H : Type) → List (DataW H) → Bool := fun _ ds => decide (uptoBulkAll ds ≤ 1048576)
def OpenSpec.upto (s : _root_.Go.ChangeSpec) : _root_.Go.OpenSpec := { _root_.Go.OpenSpec.ofChange s with cond := some uptoSmall }

/-- 'vignettelaw25.InputsOnce', WHERE WHAT IT READS IS OF BULK AT MOST 1048576: true; the input reads as it did. -/
def inputsOnceUptoRow : OpenClaim := { program := "ytmkmggbafboelaa", sum := "4d0f7a9199eb96456db5f9562396e19127ebd410f18a040c9115149c6530dc29", func := "vignette/vignettelaw25.InputsOnce", spec := "inputsOnce", apart := false, narrowed := true }
def InputsOnceUptoSaid : Prop := inputsOnceUptoRow.holds Try.pinned (OpenSpec.upto inputsOnceSpec)

/-- 'vignettelaw25.InputsAll', WHERE WHAT IT READS IS OF BULK AT MOST 1048576: true; the input reads as it did. -/
def inputsAllUptoRow : OpenClaim := { program := "ytmkmggbafboelaa", sum := "4d0f7a9199eb96456db5f9562396e19127ebd410f18a040c9115149c6530dc29", func := "vignette/vignettelaw25.InputsAll", spec := "inputsAll", apart := false, narrowed := true }
def InputsAllUptoSaid : Prop := inputsAllUptoRow.holds Try.pinned (OpenSpec.upto inputsAllSpec)

/-- 'vignettelaw25.InputsKnown', WHERE WHAT IT READS IS OF BULK AT MOST 1048576: true; the input reads as it did. -/
def inputsKnownUptoRow : OpenClaim := { program := "ytmkmggbafboelaa", sum := "4d0f7a9199eb96456db5f9562396e19127ebd410f18a040c9115149c6530dc29", func := "vignette/vignettelaw25.InputsKnown", spec := "inputsKnown", apart := false, narrowed := true }
def InputsKnownUptoSaid : Prop := inputsKnownUptoRow.holds Try.pinned (OpenSpec.upto inputsKnownSpec)

/-- 'vignettelaw25.InputsPlays', WHERE WHAT IT READS IS OF BULK AT MOST 1048576: true; the input reads as it did. -/
def inputsPlaysUptoRow : OpenClaim := { program := "ytmkmggbafboelaa", sum := "4d0f7a9199eb96456db5f9562396e19127ebd410f18a040c9115149c6530dc29", func := "vignette/vignettelaw25.InputsPlays", spec := "inputsPlays", apart := false, narrowed := true }
def InputsPlaysUptoSaid : Prop := inputsPlaysUptoRow.holds Try.pinned (OpenSpec.upto inputsPlaysSpec)

/-- 'vignettelaw25.InputsNil', WHERE WHAT IT READS IS OF BULK AT MOST 1048576: true; the input reads as it did. -/
def inputsNilUptoRow : OpenClaim := { program := "ytmkmggbafboelaa", sum := "4d0f7a9199eb96456db5f9562396e19127ebd410f18a040c9115149c6530dc29", func := "vignette/vignettelaw25.InputsNil", spec := "inputsNil", apart := false, narrowed := true }
def InputsNilUptoSaid : Prop := inputsNilUptoRow.holds Try.pinned (OpenSpec.upto inputsNilSpec)

/-- 'vignettelaw25.InputsCuts', WHERE WHAT IT READS IS OF BULK AT MOST 1048576: true; the input reads as it did. -/
def inputsCutsUptoRow : OpenClaim := { program := "ytmkmggbafboelaa", sum := "4d0f7a9199eb96456db5f9562396e19127ebd410f18a040c9115149c6530dc29", func := "vignette/vignettelaw25.InputsCuts", spec := "inputsCuts", apart := false, narrowed := true }
def InputsCutsUptoSaid : Prop := inputsCutsUptoRow.holds Try.pinned (OpenSpec.upto inputsCutsSpec)

end Rows
end Go.Proofs.Ytmkmggbafboelaa
