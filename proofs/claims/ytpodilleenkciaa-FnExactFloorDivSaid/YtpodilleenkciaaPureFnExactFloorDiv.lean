/- The pure part of FnExactFloorDiv: for every input within the statement's bounds the printed law answers true. Conditions: the statement's own bounds alone. -/
import Derived.Test.YtpodilleenkciaaPFnExactFloorDivx1
import Derived.OpenShut
namespace Go.Proofs.Ytpodilleenkciaa.Pure
open Go.RowKit Go.Proofs.Ytpodilleenkciaa.PFnExactFloorDiv Go.Proofs.YtpodilleenkciaaW.PrintWords Go.Proofs.YtpodilleenkciaaW.PrintLast
set_option linter.unusedSimpArgs false
set_option linter.unusedVariables false

theorem spec_l1In_eq (a b c : Int) : spec_l1In.f a b c = some (decide (b ≤ a ∧ a ≤ c)) := by
  unfold spec_l1In.f
  by_cases h : a ≥ b
  · rw [if_pos h]; congr 1; apply decide_eq_decide.mpr; constructor
    · exact fun x => ⟨h, x⟩
    · exact fun x => x.2
  · rw [if_neg h]; congr 1; symm; apply decide_eq_false; omega

theorem impl_inRange_eq (a b c : Int) : impl_inRange.f a b c = some (decide (b ≤ a ∧ a ≤ c)) := by
  unfold impl_inRange.f
  by_cases h : b ≤ a
  · rw [if_pos h]; congr 1; apply decide_eq_decide.mpr; constructor
    · exact fun x => ⟨h, x⟩
    · exact fun x => x.2
  · rw [if_neg h]; congr 1; symm; apply decide_eq_false; omega

theorem FnExactFloorDiv : laws_FnExactFloorDiv.Pure := by
  intro a b _ _
  unfold laws_FnExactFloorDiv.f spec_FloorDiv.f impl_FloorDiv.f
  simp only [spec_l1In_eq, impl_inRange_eq, Option.bind_some]
  by_cases h : 1 ≤ b ∧ b ≤ 1000000000000
  · have hd : decide (1 ≤ b ∧ b ≤ 1000000000000) = true := decide_eq_true h
    rw [if_pos hd, if_neg (by omega)]
    by_cases g : Int.tmod a b < 0
    · rw [if_pos g, Option.bind_some, Option.bind_some, if_pos rfl]
    · rw [if_neg g, Option.bind_some, Option.bind_some, if_pos rfl]
  · have hd : ¬ decide (1 ≤ b ∧ b ≤ 1000000000000) = true := by simp [h]
    rw [if_neg hd, Option.bind_some, Option.bind_some, if_pos rfl]

end Go.Proofs.Ytpodilleenkciaa.Pure
