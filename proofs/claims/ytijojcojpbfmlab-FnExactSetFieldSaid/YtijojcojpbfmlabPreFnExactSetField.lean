/- The pure statement of the law FnExactSetField, over numbers, texts and lists: a definition alone. Conditions: none beyond what the statement's own bounds give. -/
import Derived.Test.YtijojcojpbfmlabPFnExactSetFieldx3
namespace Go.Proofs.Ytijojcojpbfmlab.PFnExactSetField
open Go.RowKit Go.Proofs.YtijojcojpbfmlabW.PrintWords Go.Proofs.YtijojcojpbfmlabW.PrintLast Go.Proofs.YtijojcojpbfmlabW.PrintMore
/-- The pure statement of the law. -/
def laws_FnExactSetField.Pure : Prop := ∀ (l0 : List S57) (a1 : ByteArray) (a2 : ByteArray), l0.length * 32 ≤ 140737488351232 → (∀ x ∈ l0, x.f0.size ≤ maxLen ∧ x.f1.size ≤ maxLen) → a1.size ≤ 140737488351232 → a2.size ≤ 140737488351232 → ∃ k, laws_FnExactSetField.f k l0 a1 a2 = some true
end Go.Proofs.Ytijojcojpbfmlab.PFnExactSetField
