/- The pure part of FnExactConstants: for every input within the statement's bounds the printed law answers true. Conditions: the statement's own bounds alone. -/
import Derived.Test.YtlnigfdhnbbibaaPFnExactConstantsx1
namespace Go.Proofs.Ytlnigfdhnbbibaa.Pure
open Go.RowKit Go.Proofs.Ytlnigfdhnbbibaa.PFnExactConstants Go.Proofs.YtlnigfdhnbbibaaW.PrintWords Go.Proofs.YtlnigfdhnbbibaaW.PrintLast

theorem FnExactConstants : laws_FnExactConstants.Pure := rfl

end Go.Proofs.Ytlnigfdhnbbibaa.Pure
