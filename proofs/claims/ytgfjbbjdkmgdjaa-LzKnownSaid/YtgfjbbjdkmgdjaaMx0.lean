/- A text of this claim, written by a program: Go functions as Lean functions, and the proof that the program's code does what they say (and, in a law's row, that the law returns true for every input, if its plain statement holds). No condition beyond the row's own. -/
import Derived.Test.YtgfjbbjdkmgdjaaProg
import Derived.Below
import Derived.Deep.Draws
import Derived.Deep.AppendLies
import Derived.Maps.AppendAt
import Derived.OwnWalk
import Derived.Laws.BytesArg
import Derived.Laws.MakeOwn
import Derived.Laws.OwnMore
import Derived.Deep.OwnRows
import Derived.Tactics
import Derived.Lib.ConvBytes
import Derived.Laws.Slices
import Derived.WalkKit
import Derived.KernelRfl
import Derived.RowKit3
import Derived.Deep.LoopGhost
import Derived.Deep.QuietTactic
import Derived.BigQuiet
import Derived.WideLaws
import Derived.Deep.DeepCutAuto
import Derived.Deep.CutBlock
import Derived.Deep.RegionHeld3
import Derived.Laws.Rows
import Derived.Lib.AppendStr
import Derived.ArgAppend
import Derived.Laws.IdiomCopy
import Derived.OrdersHeld
import Derived.Laws.BitsLemmas
import Derived.RowKit
import Derived.Test.YtgfjbbjdkmgdjaaExtLit
import Derived.Test.YtgfjbbjdkmgdjaaWWords
import Derived.Test.YtgfjbbjdkmgdjaaWLast
import Derived.Test.YtgfjbbjdkmgdjaaWTab
import Derived.Test.YtgfjbbjdkmgdjaaWFour
import Derived.Test.YtgfjbbjdkmgdjaaWQPut
import Derived.Test.YtgfjbbjdkmgdjaaWApart
import Derived.Test.YtgfjbbjdkmgdjaaWArr
import Derived.Test.YtgfjbbjdkmgdjaaWZeros
import Derived.Test.YtgfjbbjdkmgdjaaWFoot
import Derived.Test.YtgfjbbjdkmgdjaaWKept
import Derived.Test.YtgfjbbjdkmgdjaaWShare
import Derived.Test.YtgfjbbjdkmgdjaaWN
import Derived.Test.YtgfjbbjdkmgdjaaWFootNe
import Derived.Test.YtgfjbbjdkmgdjaaWAt
import Derived.Test.YtgfjbbjdkmgdjaaWEqStruct
import Derived.Test.YtgfjbbjdkmgdjaaWRepsOne
import Derived.Test.YtgfjbbjdkmgdjaaWInv
import Derived.Test.YtgfjbbjdkmgdjaaWInvWords
import Derived.Test.YtgfjbbjdkmgdjaaWGuard
import Derived.Test.YtgfjbbjdkmgdjaaWNEv
import Derived.Test.YtgfjbbjdkmgdjaaWMore
namespace Go.Proofs.Ytgfjbbjdkmgdjaa.M
open Go.RowKit Go.Proofs.YtgfjbbjdkmgdjaaW.PrintWords Go.Proofs.YtgfjbbjdkmgdjaaW.PrintLast Go.Proofs.YtgfjbbjdkmgdjaaW.PrintMore
attribute [local go_sem] max2_int min2_int max_two min_two max_three min_three max_four min_four   -- for this text's walks alone
set_option linter.unusedVariables false
set_option linter.unusedSimpArgs false



def errW : Option Int → Value
  | none => .nilIface
  | some c => .iface 0 (.int .i64 c)
theorem errW_none : errW none = .nilIface := rfl
theorem errW_some (c : Int) : errW (some c) = .iface 0 (.int .i64 c) := rfl

-- the values' own types

end Go.Proofs.Ytgfjbbjdkmgdjaa.M
