/- The pure statement of the law FnExactFormatInt, over numbers, texts and lists: a definition alone. Conditions: none beyond what the statement's own bounds give. -/
import Derived.Test.YtiffflaebchpkaaDoorRFnExactFormatIntx1
namespace Go.Proofs.YtiffflaebchpkaaDoor.RFnExactFormatInt
open Go.RowKit Go.Proofs.YtiffflaebchpkaaDoorW.PrintWords Go.Proofs.YtiffflaebchpkaaDoorW.PrintLast Go.Proofs.YtiffflaebchpkaaDoorW.PrintMore
/-- The pure statement of the law. -/
def laws_FnExactFormatInt.Pure : Prop := ∀ (a0 : Int), (Lit.int .i64 a0).wf = true → ∃ k, laws_FnExactFormatInt.f k a0 = some true
end Go.Proofs.YtiffflaebchpkaaDoor.RFnExactFormatInt
