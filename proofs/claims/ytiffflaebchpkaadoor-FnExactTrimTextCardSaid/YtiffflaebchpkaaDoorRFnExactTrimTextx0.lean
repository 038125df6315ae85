/- What the Go functions that the law FnExactTrimText reaches answer: for each one a Lean function, and the proof that its call comes to what that function says. Conditions: those that each theorem states. Written by a program. -/
import Derived.Test.YtiffflaebchpkaaDoorProg
import Derived.Below
import Derived.Deep.Draws
import Derived.Deep.AppendLies
import Derived.Maps.AppendAt
import Derived.OwnWalk
import Derived.Laws.BytesArg
import Derived.Laws.MakeOwn
import Derived.Laws.OwnMore
import Derived.Deep.OwnRows
import Derived.Tactics
import Derived.Lib.ConvBytes
import Derived.Laws.Slices
import Derived.WalkKit
import Derived.KernelRfl
import Derived.RowKit3
import Derived.Deep.LoopGhost
import Derived.Deep.QuietTactic
import Derived.BigQuiet
import Derived.WideLaws
import Derived.Deep.DeepCutAuto
import Derived.Deep.CutBlock
import Derived.Deep.RegionHeld3
import Derived.Laws.Rows
import Derived.Lib.AppendStr
import Derived.ArgAppend
import Derived.Laws.IdiomCopy
import Derived.OrdersHeld
import Derived.Laws.BitsLemmas
import Derived.RowKit
import Derived.Shelf.Strings.SlTrimAscii
import Derived.KernelRfl
import Derived.Test.YtiffflaebchpkaaDoorShelf
import Derived.Test.YtiffflaebchpkaaDoorWWords
import Derived.Test.YtiffflaebchpkaaDoorWLast
import Derived.Test.YtiffflaebchpkaaDoorWTab
import Derived.Test.YtiffflaebchpkaaDoorWFour
import Derived.Test.YtiffflaebchpkaaDoorWQPut
import Derived.Test.YtiffflaebchpkaaDoorWApart
import Derived.Test.YtiffflaebchpkaaDoorWArr
import Derived.Test.YtiffflaebchpkaaDoorWZeros
import Derived.Test.YtiffflaebchpkaaDoorWFoot
import Derived.Test.YtiffflaebchpkaaDoorWKept
import Derived.Test.YtiffflaebchpkaaDoorWShare
import Derived.Test.YtiffflaebchpkaaDoorWN
import Derived.Test.YtiffflaebchpkaaDoorWFootNe
import Derived.Test.YtiffflaebchpkaaDoorWAt
import Derived.Test.YtiffflaebchpkaaDoorWEqStruct
import Derived.Test.YtiffflaebchpkaaDoorWRepsOne
import Derived.Test.YtiffflaebchpkaaDoorWInv
import Derived.Test.YtiffflaebchpkaaDoorWInvWords
import Derived.Test.YtiffflaebchpkaaDoorWGuard
import Derived.Test.YtiffflaebchpkaaDoorWNEv
import Derived.Test.YtiffflaebchpkaaDoorWMore
namespace Go.Proofs.YtiffflaebchpkaaDoor.RFnExactTrimText
open Go.RowKit Go.Proofs.YtiffflaebchpkaaDoorW.PrintWords Go.Proofs.YtiffflaebchpkaaDoorW.PrintLast Go.Proofs.YtiffflaebchpkaaDoorW.PrintMore
attribute [local go_sem] max2_int min2_int max_two min_two max_three min_three max_four min_four   -- for this text's walks alone
set_option linter.unusedVariables false
set_option linter.unusedSimpArgs false



def errW : Option Int → Value
  | none => .nilIface
  | some c => .iface 0 (.int .i64 c)
theorem errW_none : errW none = .nilIface := rfl
theorem errW_some (c : Int) : errW (some c) = .iface 0 (.int .i64 c) := rfl

-- the values' own types

end Go.Proofs.YtiffflaebchpkaaDoor.RFnExactTrimText
