/- The pure statement of the law FnExactParseInt, over numbers, texts and lists: a definition alone. Conditions: none beyond what the statement's own bounds give. -/
import Derived.Test.YtiffflaebchpkaaDoorRFnExactParseIntx1
namespace Go.Proofs.YtiffflaebchpkaaDoor.RFnExactParseInt
open Go.RowKit Go.Proofs.YtiffflaebchpkaaDoorW.PrintWords Go.Proofs.YtiffflaebchpkaaDoorW.PrintLast Go.Proofs.YtiffflaebchpkaaDoorW.PrintMore
/-- The pure statement of the law. -/
def laws_FnExactParseInt.Pure : Prop := ∀ (a0 : ByteArray), a0.size ≤ 140737488351232 → ∃ k, laws_FnExactParseInt.f k a0 = some true
end Go.Proofs.YtiffflaebchpkaaDoor.RFnExactParseInt
