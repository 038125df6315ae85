/- The pure statement of the law FnExactIsSpanSet, over numbers, texts and lists: a definition alone. Conditions: none beyond what the statement's own bounds give. -/
import Derived.Test.YtijojcojpbfmlaaPFnExactIsSpanSetx2
namespace Go.Proofs.Ytijojcojpbfmlaa.PFnExactIsSpanSet
open Go.RowKit Go.Proofs.YtijojcojpbfmlaaW.PrintWords Go.Proofs.YtijojcojpbfmlaaW.PrintLast Go.Proofs.YtijojcojpbfmlaaW.PrintMore
/-- The pure statement of the law. -/
def laws_FnExactIsSpanSet.Pure : Prop := ∀ (l0 : List S52), l0.length * 16 ≤ 140737488351232 → (∀ x ∈ l0, (Lit.int .i64 x.f0).wf = true ∧ (Lit.int .i64 x.f1).wf = true) → ∃ k, laws_FnExactIsSpanSet.f k l0 = some true
end Go.Proofs.Ytijojcojpbfmlaa.PFnExactIsSpanSet
