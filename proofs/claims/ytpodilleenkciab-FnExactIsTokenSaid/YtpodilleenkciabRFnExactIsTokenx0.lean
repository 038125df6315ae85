/- What the Go functions that the law FnExactIsToken reaches answer: for each one a Lean function, and the proof that its call comes to what that function says. Conditions: those that each theorem states. Written by a program. -/
import Derived.Test.YtpodilleenkciabProg
import Derived.Below
import Derived.Deep.Draws
import Derived.Deep.AppendLies
import Derived.Maps.AppendAt
import Derived.OwnWalk
import Derived.Laws.BytesArg
import Derived.Laws.MakeOwn
import Derived.Laws.OwnMore
import Derived.Deep.OwnRows
import Derived.Tactics
import Derived.Lib.ConvBytes
import Derived.Laws.Slices
import Derived.WalkKit
import Derived.KernelRfl
import Derived.RowKit3
import Derived.Deep.LoopGhost
import Derived.Deep.QuietTactic
import Derived.BigQuiet
import Derived.WideLaws
import Derived.Deep.DeepCutAuto
import Derived.Deep.CutBlock
import Derived.Deep.RegionHeld3
import Derived.Laws.Rows
import Derived.Lib.AppendStr
import Derived.ArgAppend
import Derived.Laws.IdiomCopy
import Derived.OrdersHeld
import Derived.Laws.BitsLemmas
import Derived.RowKit
import Derived.Test.YtpodilleenkciabShelf
import Derived.Test.YtpodilleenkciabWWords
import Derived.Test.YtpodilleenkciabWLast
import Derived.Test.YtpodilleenkciabWTab
import Derived.Test.YtpodilleenkciabWFour
import Derived.Test.YtpodilleenkciabWQPut
import Derived.Test.YtpodilleenkciabWApart
import Derived.Test.YtpodilleenkciabWArr
import Derived.Test.YtpodilleenkciabWZeros
import Derived.Test.YtpodilleenkciabWFoot
import Derived.Test.YtpodilleenkciabWKept
import Derived.Test.YtpodilleenkciabWShare
import Derived.Test.YtpodilleenkciabWN
import Derived.Test.YtpodilleenkciabWFootNe
import Derived.Test.YtpodilleenkciabWAt
import Derived.Test.YtpodilleenkciabWEqStruct
import Derived.Test.YtpodilleenkciabWRepsOne
import Derived.Test.YtpodilleenkciabWInv
import Derived.Test.YtpodilleenkciabWInvWords
import Derived.Test.YtpodilleenkciabWGuard
import Derived.Test.YtpodilleenkciabWNEv
import Derived.Test.YtpodilleenkciabWMore
namespace Go.Proofs.Ytpodilleenkciab.RFnExactIsToken
open Go.RowKit Go.Proofs.YtpodilleenkciabW.PrintWords Go.Proofs.YtpodilleenkciabW.PrintLast Go.Proofs.YtpodilleenkciabW.PrintMore
attribute [local go_sem] max2_int min2_int max_two min_two max_three min_three max_four min_four   -- for this text's walks alone
set_option linter.unusedVariables false
set_option linter.unusedSimpArgs false



def errW : Option Int → Value
  | none => .nilIface
  | some c => .iface 0 (.int .i64 c)
theorem errW_none : errW none = .nilIface := rfl
theorem errW_some (c : Int) : errW (some c) = .iface 0 (.int .i64 c) := rfl

-- the values' own types

end Go.Proofs.Ytpodilleenkciab.RFnExactIsToken
