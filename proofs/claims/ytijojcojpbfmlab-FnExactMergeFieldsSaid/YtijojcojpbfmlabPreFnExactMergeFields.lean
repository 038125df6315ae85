/- The pure statement of the law FnExactMergeFields, over numbers, texts and lists: a definition alone. Conditions: none beyond what the statement's own bounds give. -/
import Derived.Test.YtijojcojpbfmlabRFnExactMergeFieldsx4
namespace Go.Proofs.Ytijojcojpbfmlab.RFnExactMergeFields
open Go.RowKit Go.Proofs.YtijojcojpbfmlabW.PrintWords Go.Proofs.YtijojcojpbfmlabW.PrintLast Go.Proofs.YtijojcojpbfmlabW.PrintMore
/-- The pure statement of the law. -/
def laws_FnExactMergeFields.Pure : Prop := ∀ (l0 : List S57) (l1 : List S57), l0.length * 32 ≤ 140737488351232 → (∀ x ∈ l0, x.f0.size ≤ maxLen ∧ x.f1.size ≤ maxLen) → l1.length * 32 ≤ 140737488351232 → (∀ x ∈ l1, x.f0.size ≤ maxLen ∧ x.f1.size ≤ maxLen) → ∃ k, laws_FnExactMergeFields.f k l0 l1 = some true
end Go.Proofs.Ytijojcojpbfmlab.RFnExactMergeFields
