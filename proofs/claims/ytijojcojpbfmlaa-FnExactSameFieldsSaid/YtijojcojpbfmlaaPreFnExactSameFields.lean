/- The pure statement of the law FnExactSameFields, over numbers, texts and lists: a definition alone. Conditions: none beyond what the statement's own bounds give. -/
import Derived.Test.YtijojcojpbfmlaaPFnExactSameFieldsx3
namespace Go.Proofs.Ytijojcojpbfmlaa.PFnExactSameFields
open Go.RowKit Go.Proofs.YtijojcojpbfmlaaW.PrintWords Go.Proofs.YtijojcojpbfmlaaW.PrintLast Go.Proofs.YtijojcojpbfmlaaW.PrintMore
/-- The pure statement of the law. -/
def laws_FnExactSameFields.Pure : Prop := ∀ (l0 : List S56) (l1 : List S56), l0.length * 32 ≤ 140737488351232 → (∀ x ∈ l0, x.f0.size ≤ maxLen ∧ x.f1.size ≤ maxLen) → l1.length * 32 ≤ 140737488351232 → (∀ x ∈ l1, x.f0.size ≤ maxLen ∧ x.f1.size ≤ maxLen) → ∃ k, laws_FnExactSameFields.f k l0 l1 = some true
end Go.Proofs.Ytijojcojpbfmlaa.PFnExactSameFields
