/- The pure statement of the law FnExactParseRanges, over numbers, texts and lists: a definition alone. Conditions: none beyond what the statement's own bounds give. -/
import Derived.Test.YtlboepkphddacaaDoorRFnExactParseRangesx6
namespace Go.Proofs.YtlboepkphddacaaDoor.RFnExactParseRanges
open Go.RowKit Go.Proofs.YtlboepkphddacaaDoorW.PrintWords Go.Proofs.YtlboepkphddacaaDoorW.PrintLast Go.Proofs.YtlboepkphddacaaDoorW.PrintMore
/-- The pure statement of the law. -/
def laws_FnExactParseRanges.Pure : Prop := ∀ (a0 : ByteArray), a0.size ≤ 140737488351232 → ∃ k, laws_FnExactParseRanges.f k a0 = some true
end Go.Proofs.YtlboepkphddacaaDoor.RFnExactParseRanges
