/- The pure statement of the law FnExactFormatTag, over numbers, texts and lists: a definition alone. Conditions: none beyond what the statement's own bounds give. -/
import Derived.Test.YtpodilleenkciabRFnExactFormatTagx1
namespace Go.Proofs.Ytpodilleenkciab.RFnExactFormatTag
open Go.RowKit Go.Proofs.YtpodilleenkciabW.PrintWords Go.Proofs.YtpodilleenkciabW.PrintLast Go.Proofs.YtpodilleenkciabW.PrintMore
/-- The pure statement of the law. -/
def laws_FnExactFormatTag.Pure : Prop := ∀ (a0_0 : Bool) (a0_1 : ByteArray), a0_1.size ≤ maxLen → ∃ k, laws_FnExactFormatTag.f k a0_0 a0_1 = some true
end Go.Proofs.Ytpodilleenkciab.RFnExactFormatTag
