/- The pure statement of the law FnExactLowerText, over numbers, texts and lists: a definition alone. Conditions: none beyond what the statement's own bounds give. -/
import Derived.Test.YtpodilleenkciaaRFnExactLowerTextx1
namespace Go.Proofs.Ytpodilleenkciaa.RFnExactLowerText
open Go.RowKit Go.Proofs.YtpodilleenkciaaW.PrintWords Go.Proofs.YtpodilleenkciaaW.PrintLast Go.Proofs.YtpodilleenkciaaW.PrintMore
/-- The pure statement of the law. -/
def laws_FnExactLowerText.Pure : Prop := ∀ (a0 : ByteArray), a0.size ≤ 140737488351232 → laws_FnExactLowerText.f a0 = some true
end Go.Proofs.Ytpodilleenkciaa.RFnExactLowerText
