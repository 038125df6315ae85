/- The pure statement of the law FnExactResolveRanges, over numbers, texts and lists: a definition alone. Conditions: none beyond what the statement's own bounds give. -/
import Derived.Test.YtijojcojpbfmlabPFnExactResolveRangesx4
namespace Go.Proofs.Ytijojcojpbfmlab.PFnExactResolveRanges
open Go.RowKit Go.Proofs.YtijojcojpbfmlabW.PrintWords Go.Proofs.YtijojcojpbfmlabW.PrintLast Go.Proofs.YtijojcojpbfmlabW.PrintMore
/-- The pure statement of the law. -/
def laws_FnExactResolveRanges.Pure : Prop := ∀ (l0 : List S76) (a1 : Int), l0.length * 16 ≤ 140737488351232 → (∀ x ∈ l0, (Lit.int .i64 x.f0).wf = true ∧ (Lit.int .i64 x.f1).wf = true) → (Lit.int .i64 a1).wf = true → ∃ k, laws_FnExactResolveRanges.f k l0 a1 = some true
end Go.Proofs.Ytijojcojpbfmlab.PFnExactResolveRanges
