/- The pure statement of the law FnExactParseDirectives, over numbers, texts and lists: a definition alone. Conditions: none beyond what the statement's own bounds give. -/
import Derived.Test.YtmppjfnojkgllacDoorRFnExactParseDirectivesx9
namespace Go.Proofs.YtmppjfnojkgllacDoor.RFnExactParseDirectives
open Go.RowKit Go.Proofs.YtmppjfnojkgllacDoorW.PrintWords Go.Proofs.YtmppjfnojkgllacDoorW.PrintLast Go.Proofs.YtmppjfnojkgllacDoorW.PrintMore
/-- The pure statement of the law. -/
def laws_FnExactParseDirectives.Pure : Prop := ∀ (a0 : ByteArray), a0.size ≤ 140737488351232 → ∃ k, laws_FnExactParseDirectives.f k a0 = some true
end Go.Proofs.YtmppjfnojkgllacDoor.RFnExactParseDirectives
