/- The pure statement of the law FnExactTrimText, over numbers, texts and lists: a definition alone. Conditions: none beyond what the statement's own bounds give. -/
import Derived.Test.YtiffflaebchpkaaDoorRFnExactTrimTextx1
namespace Go.Proofs.YtiffflaebchpkaaDoor.RFnExactTrimText
open Go.RowKit Go.Proofs.YtiffflaebchpkaaDoorW.PrintWords Go.Proofs.YtiffflaebchpkaaDoorW.PrintLast Go.Proofs.YtiffflaebchpkaaDoorW.PrintMore
/-- The pure statement of the law. -/
def laws_FnExactTrimText.Pure : Prop := ∀ (a0 : ByteArray), a0.size ≤ 140737488351232 → ∃ k, laws_FnExactTrimText.f k a0 = some true
end Go.Proofs.YtiffflaebchpkaaDoor.RFnExactTrimText
