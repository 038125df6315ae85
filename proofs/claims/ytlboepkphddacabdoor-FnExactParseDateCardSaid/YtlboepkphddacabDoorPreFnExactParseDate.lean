/- The pure statement of the law FnExactParseDate, over numbers, texts and lists: a definition alone. Conditions: none beyond what the statement's own bounds give. -/
import Derived.Test.YtlboepkphddacabDoorRFnExactParseDatex8
namespace Go.Proofs.YtlboepkphddacabDoor.RFnExactParseDate
open Go.RowKit Go.Proofs.YtlboepkphddacabDoorW.PrintWords Go.Proofs.YtlboepkphddacabDoorW.PrintLast Go.Proofs.YtlboepkphddacabDoorW.PrintMore
/-- The pure statement of the law. -/
def laws_FnExactParseDate.Pure : Prop := ∀ (a0 : ByteArray), a0.size ≤ 140737488351232 → ∃ k, laws_FnExactParseDate.f k a0 = some true
end Go.Proofs.YtlboepkphddacabDoor.RFnExactParseDate
