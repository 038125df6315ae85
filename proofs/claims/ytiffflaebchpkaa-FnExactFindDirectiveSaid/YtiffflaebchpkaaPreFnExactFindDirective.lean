/- The pure statement of the law FnExactFindDirective, over numbers, texts and lists: a definition alone. Conditions: none beyond what the statement's own bounds give. -/
import Derived.Test.YtiffflaebchpkaaPFnExactFindDirectivex2
namespace Go.Proofs.Ytiffflaebchpkaa.PFnExactFindDirective
open Go.RowKit Go.Proofs.YtiffflaebchpkaaW.PrintWords Go.Proofs.YtiffflaebchpkaaW.PrintLast Go.Proofs.YtiffflaebchpkaaW.PrintMore
/-- The pure statement of the law. -/
def laws_FnExactFindDirective.Pure : Prop := ∀ (l0 : List S38) (a1 : ByteArray), l0.length * 40 ≤ 140737488351232 → (∀ x ∈ l0, x.f0.size ≤ maxLen ∧ x.f1.size ≤ maxLen) → a1.size ≤ 140737488351232 → ∃ k, laws_FnExactFindDirective.f k l0 a1 = some true
end Go.Proofs.Ytiffflaebchpkaa.PFnExactFindDirective
