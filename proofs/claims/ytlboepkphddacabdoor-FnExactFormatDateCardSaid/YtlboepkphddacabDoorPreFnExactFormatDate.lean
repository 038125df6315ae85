/- The pure statement of the law FnExactFormatDate, over numbers, texts and lists: a definition alone. Conditions: none beyond what the statement's own bounds give. -/
import Derived.Test.YtlboepkphddacabDoorRFnExactFormatDatex4
namespace Go.Proofs.YtlboepkphddacabDoor.RFnExactFormatDate
open Go.RowKit Go.Proofs.YtlboepkphddacabDoorW.PrintWords Go.Proofs.YtlboepkphddacabDoorW.PrintLast Go.Proofs.YtlboepkphddacabDoorW.PrintMore
/-- The pure statement of the law. -/
def laws_FnExactFormatDate.Pure : Prop := ∀ (a0 : Int), (Lit.int .i64 a0).wf = true → ∃ k, laws_FnExactFormatDate.f k a0 = some true
end Go.Proofs.YtlboepkphddacabDoor.RFnExactFormatDate
