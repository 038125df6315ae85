/- The pure statement of the law FnExactIsToken, over numbers, texts and lists: a definition alone. Conditions: none beyond what the statement's own bounds give. -/
import Derived.Test.YtpodilleenkciabRFnExactIsTokenx1
namespace Go.Proofs.Ytpodilleenkciab.RFnExactIsToken
open Go.RowKit Go.Proofs.YtpodilleenkciabW.PrintWords Go.Proofs.YtpodilleenkciabW.PrintLast Go.Proofs.YtpodilleenkciabW.PrintMore
/-- The pure statement of the law. -/
def laws_FnExactIsToken.Pure : Prop := ∀ (a0 : ByteArray), a0.size ≤ 140737488351232 → ∃ k, laws_FnExactIsToken.f k a0 = some true
end Go.Proofs.Ytpodilleenkciab.RFnExactIsToken
