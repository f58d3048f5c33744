/-
  DERIVED. GIVEN WITH THE SEED: THE CARDS: each row of YtlgbbckmaceabaaDoorRows.lean that lists a variable, with what it lists TIED to the program's text (the seventh form; the later family's looks); each row that meets fmt, with fmt's text TOLD by the authors' own Lean function (tested against real Go, not proved from fmt's source: count such statements apart). THE CARD IS WHAT COUNTS. Prove the row's statement (the work); the ties are given (YtlgbbckmaceabaaDoorTie.lean); close each card by the builder's one call (the guide's Derived/Test/ToyasCard.lean, 'card_holds'). Laid BY PROGRAM, IN A SANDBOX (cutbox-door.mjs). By AI agents, Wed Nov 11 2026. No macro, syntax, notation, axiom, sorry.
-/
import Derived.Test.YtlgbbckmaceabaaDoorRows
import GoSem.ClaimSeven
namespace Go.Proofs.YtlgbbckmaceabaaDoor
namespace Rows

/-- THE TIED CARD OF 'vignettelaw04.BlendTells'. -/
def blendTellsCard : Claim7 := { stood := { row := blendTellsRow, standIns := [], harness := (true, "83a73f8c466032fbf4087477a3075a66bec11439a08d9e0b5168b896a3588e10"), looks := false }, kinds := [], alts := [], laidByText := true, laidKinds := [.data], laidTests := true, laidLooks := .later }
def BlendTellsCardSaid : Prop := Claim7.holds Tryd.pinned (.plain (OpenSpec.ofChange blendTellsSpec)) blendTellsCard

/-- THE TIED CARD OF 'vignettelaw04.BlendBetween'. -/
def blendBetweenCard : Claim7 := { stood := { row := blendBetweenRow, standIns := [], harness := (true, "83a73f8c466032fbf4087477a3075a66bec11439a08d9e0b5168b896a3588e10"), looks := false }, kinds := [], alts := [], laidByText := true, laidKinds := [.data], laidTests := true, laidLooks := .later }
def BlendBetweenCardSaid : Prop := Claim7.holds Tryd.pinned (.plain (OpenSpec.ofChange blendBetweenSpec)) blendBetweenCard

/-- THE TIED CARD OF 'vignettelaw04.BlendRises'. -/
def blendRisesCard : Claim7 := { stood := { row := blendRisesRow, standIns := [], harness := (true, "83a73f8c466032fbf4087477a3075a66bec11439a08d9e0b5168b896a3588e10"), looks := false }, kinds := [], alts := [], laidByText := true, laidKinds := [.data], laidTests := true, laidLooks := .later }
def BlendRisesCardSaid : Prop := Claim7.holds Tryd.pinned (.plain (OpenSpec.ofChange blendRisesSpec)) blendRisesCard

/-- THE TIED CARD OF 'vignettelaw04.BlendTwice'. -/
def blendTwiceCard : Claim7 := { stood := { row := blendTwiceRow, standIns := [], harness := (true, "83a73f8c466032fbf4087477a3075a66bec11439a08d9e0b5168b896a3588e10"), looks := false }, kinds := [], alts := [], laidByText := true, laidKinds := [.data], laidTests := true, laidLooks := .later }
def BlendTwiceCardSaid : Prop := Claim7.holds Tryd.pinned (.plain (OpenSpec.ofChange blendTwiceSpec)) blendTwiceCard

/-- THE SECOND FORM's CARD OF 'vignettelaw04.BlendTells'. -/
def blendTellsUptoCard : Claim7 := { stood := { row := blendTellsUptoRow, standIns := [], harness := (true, "83a73f8c466032fbf4087477a3075a66bec11439a08d9e0b5168b896a3588e10"), looks := false }, kinds := [], alts := [], laidByText := true, laidKinds := [.data], laidTests := true, laidLooks := .later }
def BlendTellsUptoCardSaid : Prop := Claim7.holds Tryd.pinned (.plain (OpenSpec.upto blendTellsSpec)) blendTellsUptoCard

/-- THE SECOND FORM's CARD OF 'vignettelaw04.BlendBetween'. -/
def blendBetweenUptoCard : Claim7 := { stood := { row := blendBetweenUptoRow, standIns := [], harness := (true, "83a73f8c466032fbf4087477a3075a66bec11439a08d9e0b5168b896a3588e10"), looks := false }, kinds := [], alts := [], laidByText := true, laidKinds := [.data], laidTests := true, laidLooks := .later }
def BlendBetweenUptoCardSaid : Prop := Claim7.holds Tryd.pinned (.plain (OpenSpec.upto blendBetweenSpec)) blendBetweenUptoCard

/-- THE SECOND FORM's CARD OF 'vignettelaw04.BlendRises'. -/
def blendRisesUptoCard : Claim7 := { stood := { row := blendRisesUptoRow, standIns := [], harness := (true, "83a73f8c466032fbf4087477a3075a66bec11439a08d9e0b5168b896a3588e10"), looks := false }, kinds := [], alts := [], laidByText := true, laidKinds := [.data], laidTests := true, laidLooks := .later }
def BlendRisesUptoCardSaid : Prop := Claim7.holds Tryd.pinned (.plain (OpenSpec.upto blendRisesSpec)) blendRisesUptoCard

/-- THE SECOND FORM's CARD OF 'vignettelaw04.BlendTwice'. -/
def blendTwiceUptoCard : Claim7 := { stood := { row := blendTwiceUptoRow, standIns := [], harness := (true, "83a73f8c466032fbf4087477a3075a66bec11439a08d9e0b5168b896a3588e10"), looks := false }, kinds := [], alts := [], laidByText := true, laidKinds := [.data], laidTests := true, laidLooks := .later }
def BlendTwiceUptoCardSaid : Prop := Claim7.holds Tryd.pinned (.plain (OpenSpec.upto blendTwiceSpec)) blendTwiceUptoCard
end Rows
end Go.Proofs.YtlgbbckmaceabaaDoor
