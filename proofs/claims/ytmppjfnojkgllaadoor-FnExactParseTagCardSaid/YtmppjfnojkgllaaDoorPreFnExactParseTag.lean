/- The pure statement of the law FnExactParseTag, over numbers, texts and lists: a definition alone. Conditions: none beyond what the statement's own bounds give. -/
import Derived.Test.YtmppjfnojkgllaaDoorRFnExactParseTagx2
namespace Go.Proofs.YtmppjfnojkgllaaDoor.RFnExactParseTag
open Go.RowKit Go.Proofs.YtmppjfnojkgllaaDoorW.PrintWords Go.Proofs.YtmppjfnojkgllaaDoorW.PrintLast Go.Proofs.YtmppjfnojkgllaaDoorW.PrintMore
/-- The pure statement of the law. -/
def laws_FnExactParseTag.Pure : Prop := ∀ (a0 : ByteArray), a0.size ≤ 140737488351232 → ∃ k, laws_FnExactParseTag.f k a0 = some true
end Go.Proofs.YtmppjfnojkgllaaDoor.RFnExactParseTag
