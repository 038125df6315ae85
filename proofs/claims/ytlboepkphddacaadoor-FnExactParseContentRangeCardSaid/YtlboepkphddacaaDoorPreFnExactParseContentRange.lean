/- The pure statement of the law FnExactParseContentRange, over numbers, texts and lists: a definition alone. Conditions: none beyond what the statement's own bounds give. -/
import Derived.Test.YtlboepkphddacaaDoorRFnExactParseContentRangex3
namespace Go.Proofs.YtlboepkphddacaaDoor.RFnExactParseContentRange
open Go.RowKit Go.Proofs.YtlboepkphddacaaDoorW.PrintWords Go.Proofs.YtlboepkphddacaaDoorW.PrintLast Go.Proofs.YtlboepkphddacaaDoorW.PrintMore
/-- The pure statement of the law. -/
def laws_FnExactParseContentRange.Pure : Prop := ∀ (a0 : ByteArray), a0.size ≤ 140737488351232 → ∃ k, laws_FnExactParseContentRange.f k a0 = some true
end Go.Proofs.YtlboepkphddacaaDoor.RFnExactParseContentRange
