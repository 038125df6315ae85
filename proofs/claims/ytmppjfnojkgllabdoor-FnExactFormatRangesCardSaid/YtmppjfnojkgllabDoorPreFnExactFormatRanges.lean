/- The pure statement of the law FnExactFormatRanges, over numbers, texts and lists: a definition alone. Conditions: none beyond what the statement's own bounds give. -/
import Derived.Test.YtmppjfnojkgllabDoorRFnExactFormatRangesx3
namespace Go.Proofs.YtmppjfnojkgllabDoor.RFnExactFormatRanges
open Go.RowKit Go.Proofs.YtmppjfnojkgllabDoorW.PrintWords Go.Proofs.YtmppjfnojkgllabDoorW.PrintLast Go.Proofs.YtmppjfnojkgllabDoorW.PrintMore
/-- The pure statement of the law. -/
def laws_FnExactFormatRanges.Pure : Prop := ∀ (l0 : List S56), l0.length * 16 ≤ 140737488351232 → (∀ x ∈ l0, (Lit.int .i64 x.f0).wf = true ∧ (Lit.int .i64 x.f1).wf = true) → ∃ k, laws_FnExactFormatRanges.f k l0 = some true
end Go.Proofs.YtmppjfnojkgllabDoor.RFnExactFormatRanges
