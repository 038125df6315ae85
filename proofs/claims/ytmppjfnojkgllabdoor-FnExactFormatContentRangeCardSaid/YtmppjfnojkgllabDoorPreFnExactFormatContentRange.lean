/- The pure statement of the law FnExactFormatContentRange, over numbers, texts and lists: a definition alone. Conditions: none beyond what the statement's own bounds give. -/
import Derived.Test.YtmppjfnojkgllabDoorRFnExactFormatContentRangex1
namespace Go.Proofs.YtmppjfnojkgllabDoor.RFnExactFormatContentRange
open Go.RowKit Go.Proofs.YtmppjfnojkgllabDoorW.PrintWords Go.Proofs.YtmppjfnojkgllabDoorW.PrintLast Go.Proofs.YtmppjfnojkgllabDoorW.PrintMore
/-- The pure statement of the law. -/
def laws_FnExactFormatContentRange.Pure : Prop := ∀ (a0_0 : Int) (a0_1 : Int) (a1 : Int), (Lit.int .i64 a0_0).wf = true → (Lit.int .i64 a0_1).wf = true → (Lit.int .i64 a1).wf = true → ∃ k, laws_FnExactFormatContentRange.f k a0_0 a0_1 a1 = some true
end Go.Proofs.YtmppjfnojkgllabDoor.RFnExactFormatContentRange
