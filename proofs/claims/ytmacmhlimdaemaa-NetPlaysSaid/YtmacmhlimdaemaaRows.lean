/-
  No cell of these rows narrows 'for every input' (looked for: loops, veiled, ifaces, maps, wideKeys, modest, calm, conditions, laid).
  DERIVED. THE GIVEN ROWS OF THIS SEAT. 16 by the template 'for every input the law returns true; each argument reads behind the call as it read before'; 0 by the template 'total and deterministic' (their statements: YtmacmhlimdaemaaTotals.lean).
  GIVEN WITH THE SEED: the statements are not yours to turn. If you find one false, say at which input.
  Laid BY PROGRAM, IN A SANDBOX (cutbox-rows.mjs): the forced cells as the released guide's own fill.sh prints them over the translation af5b20ed5105b6d6… (all of the seat's roots in one cut). By AI agents, Wed Nov 11 2026. No macro, syntax, notation, axiom, sorry.
-/
import Derived.Test.YtmacmhlimdaemaaChecked
import GoSem.Claim
import GoSem.ClaimJoined
import GoSem.ClaimMapViews
import Derived.JoinedTies
import Derived.KernelRfl
namespace Go.Proofs.Ytmacmhlimdaemaa
/- THE CELL 'sum', in the pinned program and in every row, IS THE sha256 OF THE DUMP (.gsa) THAT YtmacmhlimdaemaaProg.lean LOADS. Nothing in Lean hashes anything: it is a label: what it is worth is what the hold of that sum in a sandbox is worth. -/
noncomputable def Try.pinned : Pinned := { name := "ytmacmhlimdaemaa", sum := "af5b20ed5105b6d64e6a1a30f1fae72097aea97309b418c289412403b8986cbf", checked := Try.checked }
namespace Rows
def none {H : Type} : Left H := { results := [], args := [] }

/-- 'vignettelaw20.CrcSums': WHATEVER THE INPUT: true; the input reads as it did. -/
def crcSumsSpec : ChangeSpec := { name := "crcSums", fn := fun _ => fun
  | [d] => { results := [.lit (.bool true)], args := [d] }
  | _ => none }
def crcSumsRow : OpenClaim := { program := "ytmacmhlimdaemaa", sum := "af5b20ed5105b6d64e6a1a30f1fae72097aea97309b418c289412403b8986cbf", func := "vignette/vignettelaw20.CrcSums", spec := "crcSums", apart := false }
def CrcSumsSaid : Prop := crcSumsRow.holds Try.pinned (OpenSpec.ofChange crcSumsSpec)

/-- ITS FALSE NEIGHBOUR: 'it returns false'. Refute it at one input. -/
def crcSumsWrong : ChangeSpec := { name := "crcSums", fn := fun _ => fun
  | [d] => { results := [.lit (.bool false)], args := [d] }
  | _ => none }
def CrcSumsWrongFalsely : Prop := crcSumsRow.holds Try.pinned (OpenSpec.ofChange crcSumsWrong)

/-- 'vignettelaw20.CrcBurst': WHATEVER THE INPUT: true; the input reads as it did. -/
def crcBurstSpec : ChangeSpec := { name := "crcBurst", fn := fun _ => fun
  | [d1, d2, d3] => { results := [.lit (.bool true)], args := [d1, d2, d3] }
  | _ => none }
def crcBurstRow : OpenClaim := { program := "ytmacmhlimdaemaa", sum := "af5b20ed5105b6d64e6a1a30f1fae72097aea97309b418c289412403b8986cbf", func := "vignette/vignettelaw20.CrcBurst", spec := "crcBurst", apart := false }
def CrcBurstSaid : Prop := crcBurstRow.holds Try.pinned (OpenSpec.ofChange crcBurstSpec)

/-- ITS FALSE NEIGHBOUR: 'it returns false'. Refute it at one input. -/
def crcBurstWrong : ChangeSpec := { name := "crcBurst", fn := fun _ => fun
  | [d1, d2, d3] => { results := [.lit (.bool false)], args := [d1, d2, d3] }
  | _ => none }
def CrcBurstWrongFalsely : Prop := crcBurstRow.holds Try.pinned (OpenSpec.ofChange crcBurstWrong)

/-- 'vignettelaw20.CrcThree': WHATEVER THE INPUT: true; the input reads as it did. -/
def crcThreeSpec : ChangeSpec := { name := "crcThree", fn := fun _ => fun
  | [d1, d2, d3] => { results := [.lit (.bool true)], args := [d1, d2, d3] }
  | _ => none }
def crcThreeRow : OpenClaim := { program := "ytmacmhlimdaemaa", sum := "af5b20ed5105b6d64e6a1a30f1fae72097aea97309b418c289412403b8986cbf", func := "vignette/vignettelaw20.CrcThree", spec := "crcThree", apart := false }
def CrcThreeSaid : Prop := crcThreeRow.holds Try.pinned (OpenSpec.ofChange crcThreeSpec)

/-- ITS FALSE NEIGHBOUR: 'it returns false'. Refute it at one input. -/
def crcThreeWrong : ChangeSpec := { name := "crcThree", fn := fun _ => fun
  | [d1, d2, d3] => { results := [.lit (.bool false)], args := [d1, d2, d3] }
  | _ => none }
def CrcThreeWrongFalsely : Prop := crcThreeRow.holds Try.pinned (OpenSpec.ofChange crcThreeWrong)

/-- 'vignettelaw20.CrcKnown': WHATEVER THE INPUT: true; the input reads as it did. -/
def crcKnownSpec : ChangeSpec := { name := "crcKnown", fn := fun _ => fun
  | [] => { results := [.lit (.bool true)], args := [] }
  | _ => none }
def crcKnownRow : OpenClaim := { program := "ytmacmhlimdaemaa", sum := "af5b20ed5105b6d64e6a1a30f1fae72097aea97309b418c289412403b8986cbf", func := "vignette/vignettelaw20.CrcKnown", spec := "crcKnown", apart := false }
def CrcKnownSaid : Prop := crcKnownRow.holds Try.pinned (OpenSpec.ofChange crcKnownSpec)

/-- ITS FALSE NEIGHBOUR: 'it returns false'. Refute it at one input. -/
def crcKnownWrong : ChangeSpec := { name := "crcKnown", fn := fun _ => fun
  | [] => { results := [.lit (.bool false)], args := [] }
  | _ => none }
def CrcKnownWrongFalsely : Prop := crcKnownRow.holds Try.pinned (OpenSpec.ofChange crcKnownWrong)

/-- 'vignettelaw20.CrcRest': WHATEVER THE INPUT: true; the input reads as it did. -/
def crcRestSpec : ChangeSpec := { name := "crcRest", fn := fun _ => fun
  | [d] => { results := [.lit (.bool true)], args := [d] }
  | _ => none }
def crcRestRow : OpenClaim := { program := "ytmacmhlimdaemaa", sum := "af5b20ed5105b6d64e6a1a30f1fae72097aea97309b418c289412403b8986cbf", func := "vignette/vignettelaw20.CrcRest", spec := "crcRest", apart := false }
def CrcRestSaid : Prop := crcRestRow.holds Try.pinned (OpenSpec.ofChange crcRestSpec)

/-- ITS FALSE NEIGHBOUR: 'it returns false'. Refute it at one input. -/
def crcRestWrong : ChangeSpec := { name := "crcRest", fn := fun _ => fun
  | [d] => { results := [.lit (.bool false)], args := [d] }
  | _ => none }
def CrcRestWrongFalsely : Prop := crcRestRow.holds Try.pinned (OpenSpec.ofChange crcRestWrong)

/-- 'vignettelaw21.PacketWrites': WHATEVER THE INPUT: true; the input reads as it did. -/
def packetWritesSpec : ChangeSpec := { name := "packetWrites", fn := fun _ => fun
  | [d] => { results := [.lit (.bool true)], args := [d] }
  | _ => none }
def packetWritesRow : OpenClaim := { program := "ytmacmhlimdaemaa", sum := "af5b20ed5105b6d64e6a1a30f1fae72097aea97309b418c289412403b8986cbf", func := "vignette/vignettelaw21.PacketWrites", spec := "packetWrites", apart := false }
def PacketWritesSaid : Prop := packetWritesRow.holds Try.pinned (OpenSpec.ofChange packetWritesSpec)

/-- ITS FALSE NEIGHBOUR: 'it returns false'. Refute it at one input. -/
def packetWritesWrong : ChangeSpec := { name := "packetWrites", fn := fun _ => fun
  | [d] => { results := [.lit (.bool false)], args := [d] }
  | _ => none }
def PacketWritesWrongFalsely : Prop := packetWritesRow.holds Try.pinned (OpenSpec.ofChange packetWritesWrong)

/-- 'vignettelaw21.PacketReads': WHATEVER THE INPUT: true; the input reads as it did. -/
def packetReadsSpec : ChangeSpec := { name := "packetReads", fn := fun _ => fun
  | [d] => { results := [.lit (.bool true)], args := [d] }
  | _ => none }
def packetReadsRow : OpenClaim := { program := "ytmacmhlimdaemaa", sum := "af5b20ed5105b6d64e6a1a30f1fae72097aea97309b418c289412403b8986cbf", func := "vignette/vignettelaw21.PacketReads", spec := "packetReads", apart := false }
def PacketReadsSaid : Prop := packetReadsRow.holds Try.pinned (OpenSpec.ofChange packetReadsSpec)

/-- ITS FALSE NEIGHBOUR: 'it returns false'. Refute it at one input. -/
def packetReadsWrong : ChangeSpec := { name := "packetReads", fn := fun _ => fun
  | [d] => { results := [.lit (.bool false)], args := [d] }
  | _ => none }
def PacketReadsWrongFalsely : Prop := packetReadsRow.holds Try.pinned (OpenSpec.ofChange packetReadsWrong)

/-- 'vignettelaw21.PacketBack': WHATEVER THE INPUT: true; the input reads as it did. -/
def packetBackSpec : ChangeSpec := { name := "packetBack", fn := fun _ => fun
  | [d1, d2, d3] => { results := [.lit (.bool true)], args := [d1, d2, d3] }
  | _ => none }
def packetBackRow : OpenClaim := { program := "ytmacmhlimdaemaa", sum := "af5b20ed5105b6d64e6a1a30f1fae72097aea97309b418c289412403b8986cbf", func := "vignette/vignettelaw21.PacketBack", spec := "packetBack", apart := false }
def PacketBackSaid : Prop := packetBackRow.holds Try.pinned (OpenSpec.ofChange packetBackSpec)

/-- ITS FALSE NEIGHBOUR: 'it returns false'. Refute it at one input. -/
def packetBackWrong : ChangeSpec := { name := "packetBack", fn := fun _ => fun
  | [d1, d2, d3] => { results := [.lit (.bool false)], args := [d1, d2, d3] }
  | _ => none }
def PacketBackWrongFalsely : Prop := packetBackRow.holds Try.pinned (OpenSpec.ofChange packetBackWrong)

/-- 'vignettelaw21.PacketHead': WHATEVER THE INPUT: true; the input reads as it did. -/
def packetHeadSpec : ChangeSpec := { name := "packetHead", fn := fun _ => fun
  | [d1, d2] => { results := [.lit (.bool true)], args := [d1, d2] }
  | _ => none }
def packetHeadRow : OpenClaim := { program := "ytmacmhlimdaemaa", sum := "af5b20ed5105b6d64e6a1a30f1fae72097aea97309b418c289412403b8986cbf", func := "vignette/vignettelaw21.PacketHead", spec := "packetHead", apart := false }
def PacketHeadSaid : Prop := packetHeadRow.holds Try.pinned (OpenSpec.ofChange packetHeadSpec)

/-- ITS FALSE NEIGHBOUR: 'it returns false'. Refute it at one input. -/
def packetHeadWrong : ChangeSpec := { name := "packetHead", fn := fun _ => fun
  | [d1, d2] => { results := [.lit (.bool false)], args := [d1, d2] }
  | _ => none }
def PacketHeadWrongFalsely : Prop := packetHeadRow.holds Try.pinned (OpenSpec.ofChange packetHeadWrong)

/-- 'vignettelaw21.PacketKnown': WHATEVER THE INPUT: true; the input reads as it did. -/
def packetKnownSpec : ChangeSpec := { name := "packetKnown", fn := fun _ => fun
  | [] => { results := [.lit (.bool true)], args := [] }
  | _ => none }
def packetKnownRow : OpenClaim := { program := "ytmacmhlimdaemaa", sum := "af5b20ed5105b6d64e6a1a30f1fae72097aea97309b418c289412403b8986cbf", func := "vignette/vignettelaw21.PacketKnown", spec := "packetKnown", apart := false }
def PacketKnownSaid : Prop := packetKnownRow.holds Try.pinned (OpenSpec.ofChange packetKnownSpec)

/-- ITS FALSE NEIGHBOUR: 'it returns false'. Refute it at one input. -/
def packetKnownWrong : ChangeSpec := { name := "packetKnown", fn := fun _ => fun
  | [] => { results := [.lit (.bool false)], args := [] }
  | _ => none }
def PacketKnownWrongFalsely : Prop := packetKnownRow.holds Try.pinned (OpenSpec.ofChange packetKnownWrong)

/-- 'vignettelaw21.PacketApart': WHATEVER THE INPUT: true; the input reads as it did. -/
def packetApartSpec : ChangeSpec := { name := "packetApart", fn := fun _ => fun
  | [d1, d2] => { results := [.lit (.bool true)], args := [d1, d2] }
  | _ => none }
def packetApartRow : OpenClaim := { program := "ytmacmhlimdaemaa", sum := "af5b20ed5105b6d64e6a1a30f1fae72097aea97309b418c289412403b8986cbf", func := "vignette/vignettelaw21.PacketApart", spec := "packetApart", apart := false }
def PacketApartSaid : Prop := packetApartRow.holds Try.pinned (OpenSpec.ofChange packetApartSpec)

/-- ITS FALSE NEIGHBOUR: 'it returns false'. Refute it at one input. -/
def packetApartWrong : ChangeSpec := { name := "packetApart", fn := fun _ => fun
  | [d1, d2] => { results := [.lit (.bool false)], args := [d1, d2] }
  | _ => none }
def PacketApartWrongFalsely : Prop := packetApartRow.holds Try.pinned (OpenSpec.ofChange packetApartWrong)

/-- 'vignettelaw28.NetOrder': WHATEVER THE INPUT: true; the input reads as it did. -/
def netOrderSpec : ChangeSpec := { name := "netOrder", fn := fun _ => fun
  | [d1, d2, d3] => { results := [.lit (.bool true)], args := [d1, d2, d3] }
  | _ => none }
def netOrderRow : OpenClaim := { program := "ytmacmhlimdaemaa", sum := "af5b20ed5105b6d64e6a1a30f1fae72097aea97309b418c289412403b8986cbf", func := "vignette/vignettelaw28.NetOrder", spec := "netOrder", unfollowed := true, recurses := true, apart := false }
def NetOrderSaid : Prop := netOrderRow.holds Try.pinned (OpenSpec.ofChange netOrderSpec)

/-- ITS FALSE NEIGHBOUR: 'it returns false'. Refute it at one input. -/
def netOrderWrong : ChangeSpec := { name := "netOrder", fn := fun _ => fun
  | [d1, d2, d3] => { results := [.lit (.bool false)], args := [d1, d2, d3] }
  | _ => none }
def NetOrderWrongFalsely : Prop := netOrderRow.holds Try.pinned (OpenSpec.ofChange netOrderWrong)

/-- 'vignettelaw28.NetKeeps': WHATEVER THE INPUT: true; the input reads as it did. -/
def netKeepsSpec : ChangeSpec := { name := "netKeeps", fn := fun _ => fun
  | [d] => { results := [.lit (.bool true)], args := [d] }
  | _ => none }
def netKeepsRow : OpenClaim := { program := "ytmacmhlimdaemaa", sum := "af5b20ed5105b6d64e6a1a30f1fae72097aea97309b418c289412403b8986cbf", func := "vignette/vignettelaw28.NetKeeps", spec := "netKeeps", unfollowed := true, recurses := true, apart := false }
def NetKeepsSaid : Prop := netKeepsRow.holds Try.pinned (OpenSpec.ofChange netKeepsSpec)

/-- ITS FALSE NEIGHBOUR: 'it returns false'. Refute it at one input. -/
def netKeepsWrong : ChangeSpec := { name := "netKeeps", fn := fun _ => fun
  | [d] => { results := [.lit (.bool false)], args := [d] }
  | _ => none }
def NetKeepsWrongFalsely : Prop := netKeepsRow.holds Try.pinned (OpenSpec.ofChange netKeepsWrong)

/-- 'vignettelaw28.NetPlays': WHATEVER THE INPUT: true; the input reads as it did. -/
def netPlaysSpec : ChangeSpec := { name := "netPlays", fn := fun _ => fun
  | [d] => { results := [.lit (.bool true)], args := [d] }
  | _ => none }
def netPlaysRow : OpenClaim := { program := "ytmacmhlimdaemaa", sum := "af5b20ed5105b6d64e6a1a30f1fae72097aea97309b418c289412403b8986cbf", func := "vignette/vignettelaw28.NetPlays", spec := "netPlays", unfollowed := true, recurses := true, apart := false }
def NetPlaysSaid : Prop := netPlaysRow.holds Try.pinned (OpenSpec.ofChange netPlaysSpec)

/-- ITS FALSE NEIGHBOUR: 'it returns false'. Refute it at one input. -/
def netPlaysWrong : ChangeSpec := { name := "netPlays", fn := fun _ => fun
  | [d] => { results := [.lit (.bool false)], args := [d] }
  | _ => none }
def NetPlaysWrongFalsely : Prop := netPlaysRow.holds Try.pinned (OpenSpec.ofChange netPlaysWrong)

/-- 'vignettelaw28.NetNil': WHATEVER THE INPUT: true; the input reads as it did. -/
def netNilSpec : ChangeSpec := { name := "netNil", fn := fun _ => fun
  | [d] => { results := [.lit (.bool true)], args := [d] }
  | _ => none }
def netNilRow : OpenClaim := { program := "ytmacmhlimdaemaa", sum := "af5b20ed5105b6d64e6a1a30f1fae72097aea97309b418c289412403b8986cbf", func := "vignette/vignettelaw28.NetNil", spec := "netNil", unfollowed := true, recurses := true, apart := false }
def NetNilSaid : Prop := netNilRow.holds Try.pinned (OpenSpec.ofChange netNilSpec)

/-- ITS FALSE NEIGHBOUR: 'it returns false'. Refute it at one input. -/
def netNilWrong : ChangeSpec := { name := "netNil", fn := fun _ => fun
  | [d] => { results := [.lit (.bool false)], args := [d] }
  | _ => none }
def NetNilWrongFalsely : Prop := netNilRow.holds Try.pinned (OpenSpec.ofChange netNilWrong)

/-- 'vignettelaw28.NetSpoils': WHATEVER THE INPUT: true; the input reads as it did. -/
def netSpoilsSpec : ChangeSpec := { name := "netSpoils", fn := fun _ => fun
  | [d1, d2, d3] => { results := [.lit (.bool true)], args := [d1, d2, d3] }
  | _ => none }
def netSpoilsRow : OpenClaim := { program := "ytmacmhlimdaemaa", sum := "af5b20ed5105b6d64e6a1a30f1fae72097aea97309b418c289412403b8986cbf", func := "vignette/vignettelaw28.NetSpoils", spec := "netSpoils", unfollowed := true, recurses := true, apart := false }
def NetSpoilsSaid : Prop := netSpoilsRow.holds Try.pinned (OpenSpec.ofChange netSpoilsSpec)

/-- ITS FALSE NEIGHBOUR: 'it returns false'. Refute it at one input. -/
def netSpoilsWrong : ChangeSpec := { name := "netSpoils", fn := fun _ => fun
  | [d1, d2, d3] => { results := [.lit (.bool false)], args := [d1, d2, d3] }
  | _ => none }
def NetSpoilsWrongFalsely : Prop := netSpoilsRow.holds Try.pinned (OpenSpec.ofChange netSpoilsWrong)

/- THE SECOND FORM. 'bulk': how many values and letters a reading holds, each counted each time it is reached (what is shared counts as often as it is met; a slice's spare places count too). A statement '..UptoSaid' is the law's where the arguments, and the package variables that the reading takes, are together of bulk at most 1048576: NARROWER than '..Said'. Prove '..Said' where nothing that the law and all that it calls make is longer than what came in: it says more and counts as full. Else prove '..UptoSaid'. A law counts once. -/
mutual
def uptoBulk {H : Type} : DataW H → Nat
  | .lit (.string bytes) => bytes.length + 1
  | .lit _ => 1
  | .nil => 1
  | .ptr d => uptoBulk d + 1
  | .slice elems spare => uptoBulkAll elems + uptoBulkAll spare + 1
  | .agg parts => uptoBulkAll parts + 1
  | .iface _ d => uptoBulk d + 1
  | .map entries => uptoBulkEntries entries + 1
  | .held _ => 1
def uptoBulkAll {H : Type} : List (DataW H) → Nat
  | [] => 0
  | d :: r => uptoBulk d + uptoBulkAll r
def uptoBulkEntries {H : Type} : List (Lit × DataW H) → Nat
  | [] => 0
  | x :: r => uptoBulkEntry x + uptoBulkEntries r
def uptoBulkEntry {H : Type} : Lit × DataW H → Nat
  | (.string bytes, d) => bytes.length + uptoBulk d + 1
  | (_, d) => uptoBulk d + 1
 end
def uptoSmall : (H : Type) → List (DataW H) → Bool := fun _ ds => decide (uptoBulkAll ds ≤ 1048576)
def OpenSpec.upto (s : _root_.Go.ChangeSpec) : _root_.Go.OpenSpec := { _root_.Go.OpenSpec.ofChange s with cond := some uptoSmall }

/-- 'vignettelaw20.CrcSums', WHERE WHAT IT READS IS OF BULK AT MOST 1048576: true; the input reads as it did. -/
def crcSumsUptoRow : OpenClaim := { program := "ytmacmhlimdaemaa", sum := "af5b20ed5105b6d64e6a1a30f1fae72097aea97309b418c289412403b8986cbf", func := "vignette/vignettelaw20.CrcSums", spec := "crcSums", apart := false, narrowed := true }
def CrcSumsUptoSaid : Prop := crcSumsUptoRow.holds Try.pinned (OpenSpec.upto crcSumsSpec)

/-- 'vignettelaw20.CrcBurst', WHERE WHAT IT READS IS OF BULK AT MOST 1048576: true; the input reads as it did. -/
def crcBurstUptoRow : OpenClaim := { program := "ytmacmhlimdaemaa", sum := "af5b20ed5105b6d64e6a1a30f1fae72097aea97309b418c289412403b8986cbf", func := "vignette/vignettelaw20.CrcBurst", spec := "crcBurst", apart := false, narrowed := true }
def CrcBurstUptoSaid : Prop := crcBurstUptoRow.holds Try.pinned (OpenSpec.upto crcBurstSpec)

/-- 'vignettelaw20.CrcThree', WHERE WHAT IT READS IS OF BULK AT MOST 1048576: true; the input reads as it did. -/
def crcThreeUptoRow : OpenClaim := { program := "ytmacmhlimdaemaa", sum := "af5b20ed5105b6d64e6a1a30f1fae72097aea97309b418c289412403b8986cbf", func := "vignette/vignettelaw20.CrcThree", spec := "crcThree", apart := false, narrowed := true }
def CrcThreeUptoSaid : Prop := crcThreeUptoRow.holds Try.pinned (OpenSpec.upto crcThreeSpec)

/-- 'vignettelaw20.CrcKnown', WHERE WHAT IT READS IS OF BULK AT MOST 1048576: true; the input reads as it did. -/
def crcKnownUptoRow : OpenClaim := { program := "ytmacmhlimdaemaa", sum := "af5b20ed5105b6d64e6a1a30f1fae72097aea97309b418c289412403b8986cbf", func := "vignette/vignettelaw20.CrcKnown", spec := "crcKnown", apart := false, narrowed := true }
def CrcKnownUptoSaid : Prop := crcKnownUptoRow.holds Try.pinned (OpenSpec.upto crcKnownSpec)

/-- 'vignettelaw20.CrcRest', WHERE WHAT IT READS IS OF BULK AT MOST 1048576: true; the input reads as it did. -/
def crcRestUptoRow : OpenClaim := { program := "ytmacmhlimdaemaa", sum := "af5b20ed5105b6d64e6a1a30f1fae72097aea97309b418c289412403b8986cbf", func := "vignette/vignettelaw20.CrcRest", spec := "crcRest", apart := false, narrowed := true }
def CrcRestUptoSaid : Prop := crcRestUptoRow.holds Try.pinned (OpenSpec.upto crcRestSpec)

/-- 'vignettelaw21.PacketWrites', WHERE WHAT IT READS IS OF BULK AT MOST 1048576: true; the input reads as it did. -/
def packetWritesUptoRow : OpenClaim := { program := "ytmacmhlimdaemaa", sum := "af5b20ed5105b6d64e6a1a30f1fae72097aea97309b418c289412403b8986cbf", func := "vignette/vignettelaw21.PacketWrites", spec := "packetWrites", apart := false, narrowed := true }
def PacketWritesUptoSaid : Prop := packetWritesUptoRow.holds Try.pinned (OpenSpec.upto packetWritesSpec)

/-- 'vignettelaw21.PacketReads', WHERE WHAT IT READS IS OF BULK AT MOST 1048576: true; the input reads as it did. -/
def packetReadsUptoRow : OpenClaim := { program := "ytmacmhlimdaemaa", sum := "af5b20ed5105b6d64e6a1a30f1fae72097aea97309b418c289412403b8986cbf", func := "vignette/vignettelaw21.PacketReads", spec := "packetReads", apart := false, narrowed := true }
def PacketReadsUptoSaid : Prop := packetReadsUptoRow.holds Try.pinned (OpenSpec.upto packetReadsSpec)

/-- 'vignettelaw21.PacketBack', WHERE WHAT IT READS IS OF BULK AT MOST 1048576: true; the input reads as it did. -/
def packetBackUptoRow : OpenClaim := { program := "ytmacmhlimdaemaa", sum := "af5b20ed5105b6d64e6a1a30f1fae72097aea97309b418c289412403b8986cbf", func := "vignette/vignettelaw21.PacketBack", spec := "packetBack", apart := false, narrowed := true }
def PacketBackUptoSaid : Prop := packetBackUptoRow.holds Try.pinned (OpenSpec.upto packetBackSpec)

/-- 'vignettelaw21.PacketHead', WHERE WHAT IT READS IS OF BULK AT MOST 1048576: true; the input reads as it did. -/
def packetHeadUptoRow : OpenClaim := { program := "ytmacmhlimdaemaa", sum := "af5b20ed5105b6d64e6a1a30f1fae72097aea97309b418c289412403b8986cbf", func := "vignette/vignettelaw21.PacketHead", spec := "packetHead", apart := false, narrowed := true }
def PacketHeadUptoSaid : Prop := packetHeadUptoRow.holds Try.pinned (OpenSpec.upto packetHeadSpec)

/-- 'vignettelaw21.PacketKnown', WHERE WHAT IT READS IS OF BULK AT MOST 1048576: true; the input reads as it did. -/
def packetKnownUptoRow : OpenClaim := { program := "ytmacmhlimdaemaa", sum := "af5b20ed5105b6d64e6a1a30f1fae72097aea97309b418c289412403b8986cbf", func := "vignette/vignettelaw21.PacketKnown", spec := "packetKnown", apart := false, narrowed := true }
def PacketKnownUptoSaid : Prop := packetKnownUptoRow.holds Try.pinned (OpenSpec.upto packetKnownSpec)

/-- 'vignettelaw21.PacketApart', WHERE WHAT IT READS IS OF BULK AT MOST 1048576: true; the input reads as it did. -/
def packetApartUptoRow : OpenClaim := { program := "ytmacmhlimdaemaa", sum := "af5b20ed5105b6d64e6a1a30f1fae72097aea97309b418c289412403b8986cbf", func := "vignette/vignettelaw21.PacketApart", spec := "packetApart", apart := false, narrowed := true }
def PacketApartUptoSaid : Prop := packetApartUptoRow.holds Try.pinned (OpenSpec.upto packetApartSpec)

/-- 'vignettelaw28.NetOrder', WHERE WHAT IT READS IS OF BULK AT MOST 1048576: true; the input reads as it did. -/
def netOrderUptoRow : OpenClaim := { program := "ytmacmhlimdaemaa", sum := "af5b20ed5105b6d64e6a1a30f1fae72097aea97309b418c289412403b8986cbf", func := "vignette/vignettelaw28.NetOrder", spec := "netOrder", unfollowed := true, recurses := true, apart := false, narrowed := true }
def NetOrderUptoSaid : Prop := netOrderUptoRow.holds Try.pinned (OpenSpec.upto netOrderSpec)

/-- 'vignettelaw28.NetKeeps', WHERE WHAT IT READS IS OF BULK AT MOST 1048576: true; the input reads as it did. -/
def netKeepsUptoRow : OpenClaim := { program := "ytmacmhlimdaemaa", sum := "af5b20ed5105b6d64e6a1a30f1fae72097aea97309b418c289412403b8986cbf", func := "vignette/vignettelaw28.NetKeeps", spec := "netKeeps", unfollowed := true, recurses := true, apart := false, narrowed := true }
def NetKeepsUptoSaid : Prop := netKeepsUptoRow.holds Try.pinned (OpenSpec.upto netKeepsSpec)

/-- 'vignettelaw28.NetPlays', WHERE WHAT IT READS IS OF BULK AT MOST 1048576: true; the input reads as it did. -/
def netPlaysUptoRow : OpenClaim := { program := "ytmacmhlimdaemaa", sum := "af5b20ed5105b6d64e6a1a30f1fae72097aea97309b418c289412403b8986cbf", func := "vignette/vignettelaw28.NetPlays", spec := "netPlays", unfollowed := true, recurses := true, apart := false, narrowed := true }
def NetPlaysUptoSaid : Prop := netPlaysUptoRow.holds Try.pinned (OpenSpec.upto netPlaysSpec)

/-- 'vignettelaw28.NetNil', WHERE WHAT IT READS IS OF BULK AT MOST 1048576: true; the input reads as it did. -/
def netNilUptoRow : OpenClaim := { program := "ytmacmhlimdaemaa", sum := "af5b20ed5105b6d64e6a1a30f1fae72097aea97309b418c289412403b8986cbf", func := "vignette/vignettelaw28.NetNil", spec := "netNil", unfollowed := true, recurses := true, apart := false, narrowed := true }
def NetNilUptoSaid : Prop := netNilUptoRow.holds Try.pinned (OpenSpec.upto netNilSpec)

/-- 'vignettelaw28.NetSpoils', WHERE WHAT IT READS IS OF BULK AT MOST 1048576: true; the input reads as it did. -/
def netSpoilsUptoRow : OpenClaim := { program := "ytmacmhlimdaemaa", sum := "af5b20ed5105b6d64e6a1a30f1fae72097aea97309b418c289412403b8986cbf", func := "vignette/vignettelaw28.NetSpoils", spec := "netSpoils", unfollowed := true, recurses := true, apart := false, narrowed := true }
def NetSpoilsUptoSaid : Prop := netSpoilsUptoRow.holds Try.pinned (OpenSpec.upto netSpoilsSpec)

end Rows
end Go.Proofs.Ytmacmhlimdaemaa
