/- The pure statement of the law FnExactIsTag, over numbers, texts and lists: a definition alone. Conditions: none beyond what the statement's own bounds give. -/
import Derived.Test.YtpodilleenkciaaPFnExactIsTagx1
namespace Go.Proofs.Ytpodilleenkciaa.PFnExactIsTag
open Go.RowKit Go.Proofs.YtpodilleenkciaaW.PrintWords Go.Proofs.YtpodilleenkciaaW.PrintLast Go.Proofs.YtpodilleenkciaaW.PrintMore
/-- The pure statement of the law. -/
def laws_FnExactIsTag.Pure : Prop := ∀ (a0_0 : Bool) (a0_1 : ByteArray), a0_1.size ≤ maxLen → ∃ k, laws_FnExactIsTag.f k a0_0 a0_1 = some true
end Go.Proofs.Ytpodilleenkciaa.PFnExactIsTag
