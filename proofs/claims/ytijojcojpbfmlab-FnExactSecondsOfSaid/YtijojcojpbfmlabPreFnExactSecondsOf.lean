/- The pure statement of the law FnExactSecondsOf, over numbers, texts and lists: a definition alone. Conditions: none beyond what the statement's own bounds give. -/
import Derived.Test.YtijojcojpbfmlabRFnExactSecondsOfx2
namespace Go.Proofs.Ytijojcojpbfmlab.RFnExactSecondsOf
open Go.RowKit Go.Proofs.YtijojcojpbfmlabW.PrintWords Go.Proofs.YtijojcojpbfmlabW.PrintLast Go.Proofs.YtijojcojpbfmlabW.PrintMore
/-- The pure statement of the law. -/
def laws_FnExactSecondsOf.Pure : Prop := ∀ (l0 : List S64) (a1 : ByteArray), l0.length * 40 ≤ 140737488351232 → (∀ x ∈ l0, x.f0.size ≤ maxLen ∧ x.f1.size ≤ maxLen) → a1.size ≤ 140737488351232 → ∃ k, laws_FnExactSecondsOf.f k l0 a1 = some true
end Go.Proofs.Ytijojcojpbfmlab.RFnExactSecondsOf
