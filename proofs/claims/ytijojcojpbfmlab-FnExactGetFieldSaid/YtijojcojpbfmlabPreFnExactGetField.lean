/- The pure statement of the law FnExactGetField, over numbers, texts and lists: a definition alone. Conditions: none beyond what the statement's own bounds give. -/
import Derived.Test.YtijojcojpbfmlabRFnExactGetFieldx2
namespace Go.Proofs.Ytijojcojpbfmlab.RFnExactGetField
open Go.RowKit Go.Proofs.YtijojcojpbfmlabW.PrintWords Go.Proofs.YtijojcojpbfmlabW.PrintLast Go.Proofs.YtijojcojpbfmlabW.PrintMore
/-- The pure statement of the law. -/
def laws_FnExactGetField.Pure : Prop := ∀ (l0 : List S57) (a1 : ByteArray), l0.length * 32 ≤ 140737488351232 → (∀ x ∈ l0, x.f0.size ≤ maxLen ∧ x.f1.size ≤ maxLen) → a1.size ≤ 140737488351232 → ∃ k, laws_FnExactGetField.f k l0 a1 = some true
end Go.Proofs.Ytijojcojpbfmlab.RFnExactGetField
