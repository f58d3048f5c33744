/-
  No cell of these rows narrows 'for every input' (looked for: loops, veiled, ifaces, maps, wideKeys, modest, calm, conditions, laid).
  DERIVED. THE GIVEN ROWS OF THIS SEAT. 7 by the template 'for every input the law returns true; each argument reads behind the call as it read before'; 0 by the template 'total and deterministic' (their statements: YtpgiljjjpijepaaTotals.lean).
  GIVEN WITH THE SEED: the statements are not yours to turn. If you find one false, say at which input.
  Laid BY PROGRAM, IN A SANDBOX (cutbox-rows.mjs): the forced cells as the released guide's own fill.sh prints them over the translation 63b3173443ba514c… (all of the seat's roots in one cut). By AI agents, Wed Nov 11 2026. No macro, syntax, notation, axiom, sorry.
-/
import Derived.Test.YtpgiljjjpijepaaChecked
import GoSem.Claim
import GoSem.ClaimJoined
import GoSem.ClaimMapViews
import Derived.JoinedTies
import Derived.KernelRfl
namespace Go.Proofs.Ytpgiljjjpijepaa
/- THE CELL 'sum', in the pinned program and in every row, IS THE sha256 OF THE DUMP (.gsa) THAT YtpgiljjjpijepaaProg.lean LOADS. Nothing in Lean hashes anything: it is a label: what it is worth is what the hold of that sum in a sandbox is worth. -/
noncomputable def Try.pinned : Pinned := { name := "ytpgiljjjpijepaa", sum := "63b3173443ba514c384d7ea981394f8f2d1877201878ca8bd518fd23450da638", checked := Try.checked }
namespace Rows
def none {H : Type} : Left H := { results := [], args := [] }

/-- 'vignettelaw22.LinkKnown': WHATEVER THE INPUT: true; the input reads as it did. -/
def linkKnownSpec : ChangeSpec := { name := "linkKnown", fn := fun _ => fun
  | [] => { results := [.lit (.bool true)], args := [] }
  | _ => none }
def linkKnownRow : OpenClaim := { program := "ytpgiljjjpijepaa", sum := "63b3173443ba514c384d7ea981394f8f2d1877201878ca8bd518fd23450da638", func := "vignette/vignettelaw22.LinkKnown", spec := "linkKnown", unfollowed := true, recurses := true, plainKeys := false, apart := false }
def LinkKnownSaid : Prop := linkKnownRow.holds Try.pinned (OpenSpec.ofChange linkKnownSpec)

/-- ITS FALSE NEIGHBOUR: 'it returns false'. Refute it at one input. -/
def linkKnownWrong : ChangeSpec := { name := "linkKnown", fn := fun _ => fun
  | [] => { results := [.lit (.bool false)], args := [] }
  | _ => none }
def LinkKnownWrongFalsely : Prop := linkKnownRow.holds Try.pinned (OpenSpec.ofChange linkKnownWrong)

/-- 'vignettelaw22.LinkEach': WHATEVER THE INPUT: true; the input reads as it did. -/
def linkEachSpec : ChangeSpec := { name := "linkEach", fn := fun _ => fun
  | [d1, d2] => { results := [.lit (.bool true)], args := [d1, d2] }
  | _ => none }
def linkEachRow : OpenClaim := { program := "ytpgiljjjpijepaa", sum := "63b3173443ba514c384d7ea981394f8f2d1877201878ca8bd518fd23450da638", func := "vignette/vignettelaw22.LinkEach", spec := "linkEach", unfollowed := true, recurses := true, plainKeys := false, apart := false }
def LinkEachSaid : Prop := linkEachRow.holds Try.pinned (OpenSpec.ofChange linkEachSpec)

/-- ITS FALSE NEIGHBOUR: 'it returns false'. Refute it at one input. -/
def linkEachWrong : ChangeSpec := { name := "linkEach", fn := fun _ => fun
  | [d1, d2] => { results := [.lit (.bool false)], args := [d1, d2] }
  | _ => none }
def LinkEachWrongFalsely : Prop := linkEachRow.holds Try.pinned (OpenSpec.ofChange linkEachWrong)

/-- 'vignettelaw22.LinkOnce': WHATEVER THE INPUT: true; the input reads as it did. -/
def linkOnceSpec : ChangeSpec := { name := "linkOnce", fn := fun _ => fun
  | [d1, d2] => { results := [.lit (.bool true)], args := [d1, d2] }
  | _ => none }
def linkOnceRow : OpenClaim := { program := "ytpgiljjjpijepaa", sum := "63b3173443ba514c384d7ea981394f8f2d1877201878ca8bd518fd23450da638", func := "vignette/vignettelaw22.LinkOnce", spec := "linkOnce", unfollowed := true, recurses := true, plainKeys := false, apart := false }
def LinkOnceSaid : Prop := linkOnceRow.holds Try.pinned (OpenSpec.ofChange linkOnceSpec)

/-- ITS FALSE NEIGHBOUR: 'it returns false'. Refute it at one input. -/
def linkOnceWrong : ChangeSpec := { name := "linkOnce", fn := fun _ => fun
  | [d1, d2] => { results := [.lit (.bool false)], args := [d1, d2] }
  | _ => none }
def LinkOnceWrongFalsely : Prop := linkOnceRow.holds Try.pinned (OpenSpec.ofChange linkOnceWrong)

/-- 'vignettelaw22.LinkComes': WHATEVER THE INPUT: true; the input reads as it did. -/
def linkComesSpec : ChangeSpec := { name := "linkComes", fn := fun _ => fun
  | [d1, d2, d3] => { results := [.lit (.bool true)], args := [d1, d2, d3] }
  | _ => none }
def linkComesRow : OpenClaim := { program := "ytpgiljjjpijepaa", sum := "63b3173443ba514c384d7ea981394f8f2d1877201878ca8bd518fd23450da638", func := "vignette/vignettelaw22.LinkComes", spec := "linkComes", unfollowed := true, recurses := true, plainKeys := false, apart := false }
def LinkComesSaid : Prop := linkComesRow.holds Try.pinned (OpenSpec.ofChange linkComesSpec)

/-- ITS FALSE NEIGHBOUR: 'it returns false'. Refute it at one input. -/
def linkComesWrong : ChangeSpec := { name := "linkComes", fn := fun _ => fun
  | [d1, d2, d3] => { results := [.lit (.bool false)], args := [d1, d2, d3] }
  | _ => none }
def LinkComesWrongFalsely : Prop := linkComesRow.holds Try.pinned (OpenSpec.ofChange linkComesWrong)

/-- 'vignettelaw22.LinkOther': WHATEVER THE INPUT: true; the input reads as it did. -/
def linkOtherSpec : ChangeSpec := { name := "linkOther", fn := fun _ => fun
  | [d1, d2, d3] => { results := [.lit (.bool true)], args := [d1, d2, d3] }
  | _ => none }
def linkOtherRow : OpenClaim := { program := "ytpgiljjjpijepaa", sum := "63b3173443ba514c384d7ea981394f8f2d1877201878ca8bd518fd23450da638", func := "vignette/vignettelaw22.LinkOther", spec := "linkOther", unfollowed := true, recurses := true, plainKeys := false, apart := false }
def LinkOtherSaid : Prop := linkOtherRow.holds Try.pinned (OpenSpec.ofChange linkOtherSpec)

/-- ITS FALSE NEIGHBOUR: 'it returns false'. Refute it at one input. -/
def linkOtherWrong : ChangeSpec := { name := "linkOther", fn := fun _ => fun
  | [d1, d2, d3] => { results := [.lit (.bool false)], args := [d1, d2, d3] }
  | _ => none }
def LinkOtherWrongFalsely : Prop := linkOtherRow.holds Try.pinned (OpenSpec.ofChange linkOtherWrong)

/-- 'vignettelaw22.LinkPlays': WHATEVER THE INPUT: true; the input reads as it did. -/
def linkPlaysSpec : ChangeSpec := { name := "linkPlays", fn := fun _ => fun
  | [d1, d2] => { results := [.lit (.bool true)], args := [d1, d2] }
  | _ => none }
def linkPlaysRow : OpenClaim := { program := "ytpgiljjjpijepaa", sum := "63b3173443ba514c384d7ea981394f8f2d1877201878ca8bd518fd23450da638", func := "vignette/vignettelaw22.LinkPlays", spec := "linkPlays", unfollowed := true, recurses := true, plainKeys := false, apart := false }
def LinkPlaysSaid : Prop := linkPlaysRow.holds Try.pinned (OpenSpec.ofChange linkPlaysSpec)

/-- ITS FALSE NEIGHBOUR: 'it returns false'. Refute it at one input. -/
def linkPlaysWrong : ChangeSpec := { name := "linkPlays", fn := fun _ => fun
  | [d1, d2] => { results := [.lit (.bool false)], args := [d1, d2] }
  | _ => none }
def LinkPlaysWrongFalsely : Prop := linkPlaysRow.holds Try.pinned (OpenSpec.ofChange linkPlaysWrong)

/-- 'vignettelaw22.LinkNil': WHATEVER THE INPUT: true; the input reads as it did. -/
def linkNilSpec : ChangeSpec := { name := "linkNil", fn := fun _ => fun
  | [d1, d2] => { results := [.lit (.bool true)], args := [d1, d2] }
  | _ => none }
def linkNilRow : OpenClaim := { program := "ytpgiljjjpijepaa", sum := "63b3173443ba514c384d7ea981394f8f2d1877201878ca8bd518fd23450da638", func := "vignette/vignettelaw22.LinkNil", spec := "linkNil", unfollowed := true, recurses := true, plainKeys := false, apart := false }
def LinkNilSaid : Prop := linkNilRow.holds Try.pinned (OpenSpec.ofChange linkNilSpec)

/-- ITS FALSE NEIGHBOUR: 'it returns false'. Refute it at one input. -/
def linkNilWrong : ChangeSpec := { name := "linkNil", fn := fun _ => fun
  | [d1, d2] => { results := [.lit (.bool false)], args := [d1, d2] }
  | _ => none }
def LinkNilWrongFalsely : Prop := linkNilRow.holds Try.pinned (OpenSpec.ofChange linkNilWrong)

/- THE SECOND FORM. 'bulk': how many values and letters a reading holds, each counted each time it is reached (what is shared counts as often as it is met; a slice's spare places count too). A statement '..UptoSaid' is the law's where the arguments, and the package variables that the reading takes, are together of bulk at most 1048576: NARROWER than '..Said'. Prove '..Said' where nothing that the law and all that it calls make is longer than what came in: it says more and counts as full. Else prove '..UptoSaid'. A law counts once. -/
mutual
def uptoBulk {H : Type} : DataW H → Nat
  | .lit (.string bytes) => bytes.length + 1
  | .lit _ => 1
  | .nil => 1
  | .ptr d => uptoBulk d + 1
  | .slice elems spare => uptoBulkAll elems + uptoBulkAll spare + 1
  | .agg parts => uptoBulkAll parts + 1
  | .iface _ d => uptoBulk d + 1
  | .map entries => uptoBulkEntries entries + 1
  | .held _ => 1
def uptoBulkAll {H : Type} : List (DataW H) → Nat
  | [] => 0
  | d :: r => uptoBulk d + uptoBulkAll r
def uptoBulkEntries {H : Type} : List (Lit × DataW H) → Nat
  | [] => 0
  | x :: r => uptoBulkEntry x + uptoBulkEntries r
def uptoBulkEntry {H : Type} : Lit × DataW H → Nat
  | (.string bytes, d) => bytes.length + uptoBulk d + 1
  | (_, d) => uptoBulk d + 1
 end
def uptoSmall : (H : Type) → List (DataW H) → Bool := fun _ ds => decide (uptoBulkAll ds ≤ 1048576)
def OpenSpec.upto (s : _root_.Go.ChangeSpec) : _root_.Go.OpenSpec := { _root_.Go.OpenSpec.ofChange s with cond := some uptoSmall }

/-- 'vignettelaw22.LinkKnown', WHERE WHAT IT READS IS OF BULK AT MOST 1048576: true; the input reads as it did. -/
def linkKnownUptoRow : OpenClaim := { program := "ytpgiljjjpijepaa", sum := "63b3173443ba514c384d7ea981394f8f2d1877201878ca8bd518fd23450da638", func := "vignette/vignettelaw22.LinkKnown", spec := "linkKnown", unfollowed := true, recurses := true, plainKeys := false, apart := false, narrowed := true }
def LinkKnownUptoSaid : Prop := linkKnownUptoRow.holds Try.pinned (OpenSpec.upto linkKnownSpec)

/-- 'vignettelaw22.LinkEach', WHERE WHAT IT READS IS OF BULK AT MOST 1048576: true; the input reads as it did. -/
def linkEachUptoRow : OpenClaim := { program := "ytpgiljjjpijepaa", sum := "63b3173443ba514c384d7ea981394f8f2d1877201878ca8bd518fd23450da638", func := "vignette/vignettelaw22.LinkEach", spec := "linkEach", unfollowed := true, recurses := true, plainKeys := false, apart := false, narrowed := true }
def LinkEachUptoSaid : Prop := linkEachUptoRow.holds Try.pinned (OpenSpec.upto linkEachSpec)

/-- 'vignettelaw22.LinkOnce', WHERE WHAT IT READS IS OF BULK AT MOST 1048576: true; the input reads as it did. -/
def linkOnceUptoRow : OpenClaim := { program := "ytpgiljjjpijepaa", sum := "63b3173443ba514c384d7ea981394f8f2d1877201878ca8bd518fd23450da638", func := "vignette/vignettelaw22.LinkOnce", spec := "linkOnce", unfollowed := true, recurses := true, plainKeys := false, apart := false, narrowed := true }
def LinkOnceUptoSaid : Prop := linkOnceUptoRow.holds Try.pinned (OpenSpec.upto linkOnceSpec)

/-- 'vignettelaw22.LinkComes', WHERE WHAT IT READS IS OF BULK AT MOST 1048576: true; the input reads as it did. -/
def linkComesUptoRow : OpenClaim := { program := "ytpgiljjjpijepaa", sum := "63b3173443ba514c384d7ea981394f8f2d1877201878ca8bd518fd23450da638", func := "vignette/vignettelaw22.LinkComes", spec := "linkComes", unfollowed := true, recurses := true, plainKeys := false, apart := false, narrowed := true }
def LinkComesUptoSaid : Prop := linkComesUptoRow.holds Try.pinned (OpenSpec.upto linkComesSpec)

/-- 'vignettelaw22.LinkOther', WHERE WHAT IT READS IS OF BULK AT MOST 1048576: true; the input reads as it did. -/
def linkOtherUptoRow : OpenClaim := { program := "ytpgiljjjpijepaa", sum := "63b3173443ba514c384d7ea981394f8f2d1877201878ca8bd518fd23450da638", func := "vignette/vignettelaw22.LinkOther", spec := "linkOther", unfollowed := true, recurses := true, plainKeys := false, apart := false, narrowed := true }
def LinkOtherUptoSaid : Prop := linkOtherUptoRow.holds Try.pinned (OpenSpec.upto linkOtherSpec)

/-- 'vignettelaw22.LinkPlays', WHERE WHAT IT READS IS OF BULK AT MOST 1048576: true; the input reads as it did. -/
def linkPlaysUptoRow : OpenClaim := { program := "ytpgiljjjpijepaa", sum := "63b3173443ba514c384d7ea981394f8f2d1877201878ca8bd518fd23450da638", func := "vignette/vignettelaw22.LinkPlays", spec := "linkPlays", unfollowed := true, recurses := true, plainKeys := false, apart := false, narrowed := true }
def LinkPlaysUptoSaid : Prop := linkPlaysUptoRow.holds Try.pinned (OpenSpec.upto linkPlaysSpec)

/-- 'vignettelaw22.LinkNil', WHERE WHAT IT READS IS OF BULK AT MOST 1048576: true; the input reads as it did. -/
def linkNilUptoRow : OpenClaim := { program := "ytpgiljjjpijepaa", sum := "63b3173443ba514c384d7ea981394f8f2d1877201878ca8bd518fd23450da638", func := "vignette/vignettelaw22.LinkNil", spec := "linkNil", unfollowed := true, recurses := true, plainKeys := false, apart := false, narrowed := true }
def LinkNilUptoSaid : Prop := linkNilUptoRow.holds Try.pinned (OpenSpec.upto linkNilSpec)

end Rows
end Go.Proofs.Ytpgiljjjpijepaa
