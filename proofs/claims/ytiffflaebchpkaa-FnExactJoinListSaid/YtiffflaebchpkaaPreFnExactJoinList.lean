/- The pure statement of the law FnExactJoinList, over numbers, texts and lists: a definition alone. Conditions: none beyond what the statement's own bounds give. -/
import Derived.Test.YtiffflaebchpkaaRFnExactJoinListx1
namespace Go.Proofs.Ytiffflaebchpkaa.RFnExactJoinList
open Go.RowKit Go.Proofs.YtiffflaebchpkaaW.PrintWords Go.Proofs.YtiffflaebchpkaaW.PrintLast Go.Proofs.YtiffflaebchpkaaW.PrintMore
/-- The pure statement of the law. -/
def laws_FnExactJoinList.Pure : Prop := ∀ (l0 : List ByteArray), l0.length * 16 ≤ 140737488351232 → (∀ x ∈ l0, x.size ≤ maxLen) → ∃ k, laws_FnExactJoinList.f k l0 = some true
end Go.Proofs.Ytiffflaebchpkaa.RFnExactJoinList
