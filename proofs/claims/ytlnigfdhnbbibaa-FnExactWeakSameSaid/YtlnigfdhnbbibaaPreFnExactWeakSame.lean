/- The pure statement of the law FnExactWeakSame, over numbers, texts and lists: a definition alone. Conditions: none beyond what the statement's own bounds give. -/
import Derived.Test.YtlnigfdhnbbibaaPFnExactWeakSamex1
namespace Go.Proofs.Ytlnigfdhnbbibaa.PFnExactWeakSame
open Go.RowKit Go.Proofs.YtlnigfdhnbbibaaW.PrintWords Go.Proofs.YtlnigfdhnbbibaaW.PrintLast Go.Proofs.YtlnigfdhnbbibaaW.PrintMore
/-- The pure statement of the law. -/
def laws_FnExactWeakSame.Pure : Prop := ∀ (a0_0 : Bool) (a0_1 : ByteArray) (a1_0 : Bool) (a1_1 : ByteArray), a0_1.size ≤ maxLen → a1_1.size ≤ maxLen → laws_FnExactWeakSame.f a0_0 a0_1 a1_0 a1_1 = some true
end Go.Proofs.Ytlnigfdhnbbibaa.PFnExactWeakSame
