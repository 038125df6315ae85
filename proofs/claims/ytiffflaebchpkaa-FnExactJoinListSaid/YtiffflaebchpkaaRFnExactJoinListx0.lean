/- What the Go functions that the law FnExactJoinList reaches answer: for each one a Lean function, and the proof that its call comes to what that function says. Conditions: those that each theorem states. Written by a program. -/
import Derived.Test.YtiffflaebchpkaaProg
import Derived.Below
import Derived.Deep.Draws
import Derived.Deep.AppendLies
import Derived.Maps.AppendAt
import Derived.OwnWalk
import Derived.Laws.BytesArg
import Derived.Laws.MakeOwn
import Derived.Laws.OwnMore
import Derived.Deep.OwnRows
import Derived.Tactics
import Derived.Lib.ConvBytes
import Derived.Laws.Slices
import Derived.WalkKit
import Derived.KernelRfl
import Derived.RowKit3
import Derived.Deep.LoopGhost
import Derived.Deep.QuietTactic
import Derived.BigQuiet
import Derived.WideLaws
import Derived.Deep.DeepCutAuto
import Derived.Deep.CutBlock
import Derived.Deep.RegionHeld3
import Derived.Laws.Rows
import Derived.Lib.AppendStr
import Derived.ArgAppend
import Derived.Laws.IdiomCopy
import Derived.OrdersHeld
import Derived.Laws.BitsLemmas
import Derived.RowKit
import Derived.Test.YtiffflaebchpkaaShelf
import Derived.Test.YtiffflaebchpkaaWWords
import Derived.Test.YtiffflaebchpkaaWLast
import Derived.Test.YtiffflaebchpkaaWTab
import Derived.Test.YtiffflaebchpkaaWFour
import Derived.Test.YtiffflaebchpkaaWQPut
import Derived.Test.YtiffflaebchpkaaWApart
import Derived.Test.YtiffflaebchpkaaWArr
import Derived.Test.YtiffflaebchpkaaWZeros
import Derived.Test.YtiffflaebchpkaaWFoot
import Derived.Test.YtiffflaebchpkaaWKept
import Derived.Test.YtiffflaebchpkaaWShare
import Derived.Test.YtiffflaebchpkaaWN
import Derived.Test.YtiffflaebchpkaaWFootNe
import Derived.Test.YtiffflaebchpkaaWAt
import Derived.Test.YtiffflaebchpkaaWEqStruct
import Derived.Test.YtiffflaebchpkaaWRepsOne
import Derived.Test.YtiffflaebchpkaaWInv
import Derived.Test.YtiffflaebchpkaaWInvWords
import Derived.Test.YtiffflaebchpkaaWGuard
import Derived.Test.YtiffflaebchpkaaWNEv
import Derived.Test.YtiffflaebchpkaaWMore
namespace Go.Proofs.Ytiffflaebchpkaa.RFnExactJoinList
open Go.RowKit Go.Proofs.YtiffflaebchpkaaW.PrintWords Go.Proofs.YtiffflaebchpkaaW.PrintLast Go.Proofs.YtiffflaebchpkaaW.PrintMore
attribute [local go_sem] max2_int min2_int max_two min_two max_three min_three max_four min_four   -- for this text's walks alone
set_option linter.unusedVariables false
set_option linter.unusedSimpArgs false



def errW : Option Int → Value
  | none => .nilIface
  | some c => .iface 0 (.int .i64 c)
theorem errW_none : errW none = .nilIface := rfl
theorem errW_some (c : Int) : errW (some c) = .iface 0 (.int .i64 c) := rfl

theorem info9 : (Try.prog.info? 9).map (fun i => (i.zero, i.size, i.bytes)) = some (some (.string ⟨#[]⟩), 1, 16) := by kernel_rfl
-- the values' own types

end Go.Proofs.Ytiffflaebchpkaa.RFnExactJoinList
