/- The pure part of FnExactWeekdayOf: for every input within the statement's bounds the printed law answers true. Conditions: the statement's own bounds alone. -/
import Derived.Test.YtpodilleenkciaaPFnExactWeekdayOfx1
import Derived.OpenShut
namespace Go.Proofs.Ytpodilleenkciaa.Pure
open Go.RowKit Go.Proofs.Ytpodilleenkciaa.PFnExactWeekdayOf Go.Proofs.YtpodilleenkciaaW.PrintWords Go.Proofs.YtpodilleenkciaaW.PrintLast
set_option linter.unusedSimpArgs false
set_option linter.unusedVariables false

theorem tmod_fix (a m : Int) (h1 : 1 ≤ m) (h2 : m ≤ 1000000000000) : Int.tmod (wrap64 (Int.tmod a m + m)) m = a % m := by
  have e := Int.tmod_eq_emod (a := a) (b := m)
  have g1 := Int.emod_nonneg a (show m ≠ 0 by omega)
  have g2 := Int.emod_lt_of_pos a (show 0 < m by omega)
  have hn : (m.natAbs : Int) = m := by omega
  have hw : wrap64 (Int.tmod a m + m) = Int.tmod a m + m := by
    unfold wrap64
    rw [e]
    split
    · rw [show ((0 : Nat) : Int) = 0 from rfl]; omega
    · omega
  rw [hw, e]
  split
  · rw [show ((0 : Nat) : Int) = 0 from rfl, Int.sub_zero, Int.tmod_eq_emod_of_nonneg (by omega), Int.add_emod_right, Int.emod_emod_of_dvd a (Int.dvd_refl m)]
  · rw [hn, Int.sub_add_cancel, Int.tmod_eq_emod_of_nonneg (by omega), Int.emod_emod_of_dvd a (Int.dvd_refl m)]
def modV (a m : Int) : Int := if 1 ≤ m ∧ m ≤ 1000000000000 then a % m else 0
theorem modV_pos {a m : Int} (h1 : 1 ≤ m) (h2 : m ≤ 1000000000000) : modV a m = a % m := by unfold modV; rw [if_pos ⟨h1, h2⟩]

theorem spec_l1In_eq (a b c : Int) : spec_l1In.f a b c = some (decide (b ≤ a ∧ a ≤ c)) := by
  unfold spec_l1In.f
  by_cases h : a ≥ b
  · rw [if_pos h]; congr 1; apply decide_eq_decide.mpr; constructor
    · exact fun x => ⟨h, x⟩
    · exact fun x => x.2
  · rw [if_neg h]; congr 1; symm; apply decide_eq_false; omega

theorem spec_Mod_eq (a m : Int) : spec_Mod.f a m = some (modV a m) := by
  unfold spec_Mod.f modV
  rw [spec_l1In_eq, Option.bind_some]
  by_cases h : 1 ≤ m ∧ m ≤ 1000000000000
  · rw [if_pos (decide_eq_true h), if_neg (by omega), if_pos h, tmod_fix a m h.1 h.2]
  · rw [if_neg (by simp [h]), if_neg h]

theorem impl_inRange_eq (a b c : Int) : impl_inRange.f a b c = some (decide (b ≤ a ∧ a ≤ c)) := by
  unfold impl_inRange.f
  by_cases h : b ≤ a
  · rw [if_pos h]; congr 1; apply decide_eq_decide.mpr; constructor
    · exact fun x => ⟨h, x⟩
    · exact fun x => x.2
  · rw [if_neg h]; congr 1; symm; apply decide_eq_false; omega

theorem impl_Mod_eq (a m : Int) : impl_Mod.f a m = some (modV a m) := by
  unfold impl_Mod.f modV
  rw [impl_inRange_eq, Option.bind_some]
  by_cases h : 1 ≤ m ∧ m ≤ 1000000000000
  · rw [if_pos (decide_eq_true h), if_neg (by omega), if_pos h, tmod_fix a m h.1 h.2]
  · rw [if_neg (by simp [h]), if_neg h]

theorem FnExactWeekdayOf : laws_FnExactWeekdayOf.Pure := by
  intro a _
  unfold laws_FnExactWeekdayOf.f spec_WeekdayOf.f impl_WeekdayOf.f
  simp only [spec_Mod_eq, impl_Mod_eq, Option.bind_some]
  rw [if_pos trivial]

end Go.Proofs.Ytpodilleenkciaa.Pure
