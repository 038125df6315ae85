/- The pure part of FnExactMax: for every input within the statement's bounds the printed law answers true. Conditions: the statement's own bounds alone. -/
import Derived.Test.YtlnigfdhnbbibaaPFnExactMaxx1
namespace Go.Proofs.Ytlnigfdhnbbibaa.Pure
open Go.RowKit Go.Proofs.Ytlnigfdhnbbibaa.PFnExactMax Go.Proofs.YtlnigfdhnbbibaaW.PrintWords Go.Proofs.YtlnigfdhnbbibaaW.PrintLast

theorem FnExactMax : laws_FnExactMax.Pure := by
  intro a b _ _
  unfold laws_FnExactMax.f spec_Max.f impl_Max.f mx
  by_cases h : a < b
  · rw [if_pos (show b > a from h), Option.bind_some, Option.bind_some, if_pos h, if_pos rfl]
  · rw [if_neg (show ¬ b > a from h), Option.bind_some, Option.bind_some, if_neg h, if_pos rfl]

end Go.Proofs.Ytlnigfdhnbbibaa.Pure
