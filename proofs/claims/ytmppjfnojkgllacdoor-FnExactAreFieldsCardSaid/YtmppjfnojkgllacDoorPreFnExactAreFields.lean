/- The pure statement of the law FnExactAreFields, over numbers, texts and lists: a definition alone. Conditions: none beyond what the statement's own bounds give. -/
import Derived.Test.YtmppjfnojkgllacDoorRFnExactAreFieldsx5
namespace Go.Proofs.YtmppjfnojkgllacDoor.RFnExactAreFields
open Go.RowKit Go.Proofs.YtmppjfnojkgllacDoorW.PrintWords Go.Proofs.YtmppjfnojkgllacDoorW.PrintLast Go.Proofs.YtmppjfnojkgllacDoorW.PrintMore
/-- The pure statement of the law. -/
def laws_FnExactAreFields.Pure : Prop := ∀ (l0 : List S75), l0.length * 32 ≤ 140737488351232 → (∀ x ∈ l0, x.f0.size ≤ maxLen ∧ x.f1.size ≤ maxLen) → ∃ k, laws_FnExactAreFields.f k l0 = some true
end Go.Proofs.YtmppjfnojkgllacDoor.RFnExactAreFields
