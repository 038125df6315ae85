/- The pure statement of the law FnDates, over numbers, texts and lists: a definition alone. Conditions: none beyond what the statement's own bounds give. -/
import Derived.Test.YtlboepkphddacabDoorRFnDatesx9
namespace Go.Proofs.YtlboepkphddacabDoor.RFnDates
open Go.RowKit Go.Proofs.YtlboepkphddacabDoorW.PrintWords Go.Proofs.YtlboepkphddacabDoorW.PrintLast Go.Proofs.YtlboepkphddacabDoorW.PrintMore
/-- The pure statement of the law. -/
def laws_FnDates.Pure : Prop := ∀ (l0 : List Int), l0.length * 1 ≤ 140737488351232 → (∀ x ∈ l0, (Lit.int .u8 x).wf = true) → ∃ k, laws_FnDates.f k l0 = some true
end Go.Proofs.YtlboepkphddacabDoor.RFnDates
