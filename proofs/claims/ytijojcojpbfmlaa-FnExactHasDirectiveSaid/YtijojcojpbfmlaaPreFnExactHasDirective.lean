/- The pure statement of the law FnExactHasDirective, over numbers, texts and lists: a definition alone. Conditions: none beyond what the statement's own bounds give. -/
import Derived.Test.YtijojcojpbfmlaaPFnExactHasDirectivex2
namespace Go.Proofs.Ytijojcojpbfmlaa.PFnExactHasDirective
open Go.RowKit Go.Proofs.YtijojcojpbfmlaaW.PrintWords Go.Proofs.YtijojcojpbfmlaaW.PrintLast Go.Proofs.YtijojcojpbfmlaaW.PrintMore
/-- The pure statement of the law. -/
def laws_FnExactHasDirective.Pure : Prop := ∀ (l0 : List S64) (a1 : ByteArray), l0.length * 40 ≤ 140737488351232 → (∀ x ∈ l0, x.f0.size ≤ maxLen ∧ x.f1.size ≤ maxLen) → a1.size ≤ 140737488351232 → ∃ k, laws_FnExactHasDirective.f k l0 a1 = some true
end Go.Proofs.Ytijojcojpbfmlaa.PFnExactHasDirective
