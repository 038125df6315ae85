/- The pure statement of the law FnExactSpanSize, over numbers, texts and lists: a definition alone. Conditions: none beyond what the statement's own bounds give. -/
import Derived.Test.YtpodilleenkciabPFnExactSpanSizex2
namespace Go.Proofs.Ytpodilleenkciab.PFnExactSpanSize
open Go.RowKit Go.Proofs.YtpodilleenkciabW.PrintWords Go.Proofs.YtpodilleenkciabW.PrintLast Go.Proofs.YtpodilleenkciabW.PrintMore
/-- The pure statement of the law. -/
def laws_FnExactSpanSize.Pure : Prop := ∀ (l0 : List S55), l0.length * 16 ≤ 140737488351232 → (∀ x ∈ l0, (Lit.int .i64 x.f0).wf = true ∧ (Lit.int .i64 x.f1).wf = true) → ∃ k, laws_FnExactSpanSize.f k l0 = some true
end Go.Proofs.Ytpodilleenkciab.PFnExactSpanSize
