/- The pure part of FnExactMin: for every input within the statement's bounds the printed law answers true. Conditions: the statement's own bounds alone. -/
import Derived.Test.YtlnigfdhnbbibaaPFnExactMinx1
namespace Go.Proofs.Ytlnigfdhnbbibaa.Pure
open Go.RowKit Go.Proofs.Ytlnigfdhnbbibaa.PFnExactMin Go.Proofs.YtlnigfdhnbbibaaW.PrintWords Go.Proofs.YtlnigfdhnbbibaaW.PrintLast

theorem FnExactMin : laws_FnExactMin.Pure := by
  intro a b _ _
  unfold laws_FnExactMin.f spec_Min.f impl_Min.f mn
  by_cases h : b < a
  · rw [if_pos h, Option.bind_some, Option.bind_some, if_pos h, if_pos rfl]
  · rw [if_neg h, Option.bind_some, Option.bind_some, if_neg h, if_pos rfl]

end Go.Proofs.Ytlnigfdhnbbibaa.Pure
