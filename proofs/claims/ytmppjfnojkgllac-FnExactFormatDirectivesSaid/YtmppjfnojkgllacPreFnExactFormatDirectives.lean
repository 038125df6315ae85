/- The pure statement of the law FnExactFormatDirectives, over numbers, texts and lists: a definition alone. Conditions: none beyond what the statement's own bounds give. -/
import Derived.Test.YtmppjfnojkgllacRFnExactFormatDirectivesx4
namespace Go.Proofs.Ytmppjfnojkgllac.RFnExactFormatDirectives
open Go.RowKit Go.Proofs.YtmppjfnojkgllacW.PrintWords Go.Proofs.YtmppjfnojkgllacW.PrintLast Go.Proofs.YtmppjfnojkgllacW.PrintMore
/-- The pure statement of the law. -/
def laws_FnExactFormatDirectives.Pure : Prop := ∀ (l0 : List S31), l0.length * 40 ≤ 140737488351232 → (∀ x ∈ l0, x.f0.size ≤ maxLen ∧ x.f1.size ≤ maxLen) → ∃ k, laws_FnExactFormatDirectives.f k l0 = some true
end Go.Proofs.Ytmppjfnojkgllac.RFnExactFormatDirectives
