/- The pure statement of the law FnExactFormatFields, over numbers, texts and lists: a definition alone. Conditions: none beyond what the statement's own bounds give. -/
import Derived.Test.YtijojcojpbfmlaaRFnExactFormatFieldsx2
namespace Go.Proofs.Ytijojcojpbfmlaa.RFnExactFormatFields
open Go.RowKit Go.Proofs.YtijojcojpbfmlaaW.PrintWords Go.Proofs.YtijojcojpbfmlaaW.PrintLast Go.Proofs.YtijojcojpbfmlaaW.PrintMore
/-- The pure statement of the law. -/
def laws_FnExactFormatFields.Pure : Prop := ∀ (l0 : List S56), l0.length * 32 ≤ 140737488351232 → (∀ x ∈ l0, x.f0.size ≤ maxLen ∧ x.f1.size ≤ maxLen) → ∃ k, laws_FnExactFormatFields.f k l0 = some true
end Go.Proofs.Ytijojcojpbfmlaa.RFnExactFormatFields
