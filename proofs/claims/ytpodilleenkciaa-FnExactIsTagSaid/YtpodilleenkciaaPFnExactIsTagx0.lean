-- PRINTED BY print.sh 35421559b90ae4d0a3588c463048766b98c2df88dd9212a6774a882060cdf62d: not written by this session
import Derived.Test.YtpodilleenkciaaProg
import Derived.Below
import Derived.Deep.Draws
import Derived.Deep.AppendLies
import Derived.Maps.AppendAt
import Derived.OwnWalk
import Derived.Laws.BytesArg
import Derived.Laws.MakeOwn
import Derived.Laws.OwnMore
import Derived.Deep.OwnRows
import Derived.Tactics
import Derived.Lib.ConvBytes
import Derived.Laws.Slices
import Derived.WalkKit
import Derived.KernelRfl
import Derived.RowKit3
import Derived.Deep.LoopGhost
import Derived.Deep.QuietTactic
import Derived.BigQuiet
import Derived.WideLaws
import Derived.Deep.DeepCutAuto
import Derived.Deep.CutBlock
import Derived.Deep.RegionHeld3
import Derived.Laws.Rows
import Derived.Lib.AppendStr
import Derived.ArgAppend
import Derived.Laws.IdiomCopy
import Derived.OrdersHeld
import Derived.Laws.BitsLemmas
import Derived.RowKit
import Derived.Test.YtpodilleenkciaaWWords
import Derived.Test.YtpodilleenkciaaWLast
import Derived.Test.YtpodilleenkciaaWTab
import Derived.Test.YtpodilleenkciaaWFour
import Derived.Test.YtpodilleenkciaaWQPut
import Derived.Test.YtpodilleenkciaaWApart
import Derived.Test.YtpodilleenkciaaWArr
import Derived.Test.YtpodilleenkciaaWZeros
import Derived.Test.YtpodilleenkciaaWFoot
import Derived.Test.YtpodilleenkciaaWKept
import Derived.Test.YtpodilleenkciaaWShare
import Derived.Test.YtpodilleenkciaaWN
import Derived.Test.YtpodilleenkciaaWFootNe
import Derived.Test.YtpodilleenkciaaWAt
import Derived.Test.YtpodilleenkciaaWEqStruct
import Derived.Test.YtpodilleenkciaaWRepsOne
import Derived.Test.YtpodilleenkciaaWInv
import Derived.Test.YtpodilleenkciaaWInvWords
import Derived.Test.YtpodilleenkciaaWGuard
import Derived.Test.YtpodilleenkciaaWNEv
import Derived.Test.YtpodilleenkciaaWMore
namespace Go.Proofs.Ytpodilleenkciaa.PFnExactIsTag
open Go.RowKit Go.Proofs.YtpodilleenkciaaW.PrintWords Go.Proofs.YtpodilleenkciaaW.PrintLast Go.Proofs.YtpodilleenkciaaW.PrintMore
attribute [local go_sem] max2_int min2_int max_two min_two max_three min_three max_four min_four   -- for this text's walks alone
set_option linter.unusedVariables false
set_option linter.unusedSimpArgs false



def errW : Option Int → Value
  | none => .nilIface
  | some c => .iface 0 (.int .i64 c)
theorem errW_none : errW none = .nilIface := rfl
theorem errW_some (c : Int) : errW (some c) = .iface 0 (.int .i64 c) := rfl

-- the values' own types

end Go.Proofs.Ytpodilleenkciaa.PFnExactIsTag
