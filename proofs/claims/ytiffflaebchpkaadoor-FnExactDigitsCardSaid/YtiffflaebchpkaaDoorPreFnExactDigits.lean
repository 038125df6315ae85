/- The pure statement of the law FnExactDigits, over numbers, texts and lists: a definition alone. Conditions: none beyond what the statement's own bounds give. -/
import Derived.Test.YtiffflaebchpkaaDoorRFnExactDigitsx1
namespace Go.Proofs.YtiffflaebchpkaaDoor.RFnExactDigits
open Go.RowKit Go.Proofs.YtiffflaebchpkaaDoorW.PrintWords Go.Proofs.YtiffflaebchpkaaDoorW.PrintLast Go.Proofs.YtiffflaebchpkaaDoorW.PrintMore
/-- The pure statement of the law. -/
def laws_FnExactDigits.Pure : Prop := ∀ (a0 : Int) (a1 : Int), (Lit.int .i64 a0).wf = true → (Lit.int .i64 a1).wf = true → ∃ k, laws_FnExactDigits.f k a0 a1 = some true
end Go.Proofs.YtiffflaebchpkaaDoor.RFnExactDigits
