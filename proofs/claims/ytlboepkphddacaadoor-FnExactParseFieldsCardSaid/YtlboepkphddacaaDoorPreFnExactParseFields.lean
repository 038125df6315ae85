/- The pure statement of the law FnExactParseFields, over numbers, texts and lists: a definition alone. Conditions: none beyond what the statement's own bounds give. -/
import Derived.Test.YtlboepkphddacaaDoorRFnExactParseFieldsx8
namespace Go.Proofs.YtlboepkphddacaaDoor.RFnExactParseFields
open Go.RowKit Go.Proofs.YtlboepkphddacaaDoorW.PrintWords Go.Proofs.YtlboepkphddacaaDoorW.PrintLast Go.Proofs.YtlboepkphddacaaDoorW.PrintMore
/-- The pure statement of the law. -/
def laws_FnExactParseFields.Pure : Prop := ∀ (a0 : ByteArray), a0.size ≤ 140737488351232 → ∃ k, laws_FnExactParseFields.f k a0 = some true
end Go.Proofs.YtlboepkphddacaaDoor.RFnExactParseFields
