/- The pure statement of the law FnExactParseTagList, over numbers, texts and lists: a definition alone. Conditions: none beyond what the statement's own bounds give. -/
import Derived.Test.YtmppjfnojkgllaaDoorRFnExactParseTagListx6
namespace Go.Proofs.YtmppjfnojkgllaaDoor.RFnExactParseTagList
open Go.RowKit Go.Proofs.YtmppjfnojkgllaaDoorW.PrintWords Go.Proofs.YtmppjfnojkgllaaDoorW.PrintLast Go.Proofs.YtmppjfnojkgllaaDoorW.PrintMore
/-- The pure statement of the law. -/
def laws_FnExactParseTagList.Pure : Prop := ∀ (a0 : ByteArray), a0.size ≤ 140737488351232 → ∃ k, laws_FnExactParseTagList.f k a0 = some true
end Go.Proofs.YtmppjfnojkgllaaDoor.RFnExactParseTagList
