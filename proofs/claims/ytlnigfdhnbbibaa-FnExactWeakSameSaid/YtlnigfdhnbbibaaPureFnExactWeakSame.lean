/- The pure part of FnExactWeakSame: for every input within the statement's bounds the printed law answers true. Conditions: the statement's own bounds alone. -/
import Derived.Test.YtlnigfdhnbbibaaPreFnExactWeakSame
import Derived.Test.YtlnigfdhnbbibaaPFnExactWeakSamex1
namespace Go.Proofs.Ytlnigfdhnbbibaa.Pure
open Go.RowKit Go.Proofs.Ytlnigfdhnbbibaa.PFnExactWeakSame Go.Proofs.YtlnigfdhnbbibaaW.PrintWords Go.Proofs.YtlnigfdhnbbibaaW.PrintLast

theorem szTag_some (a : Bool) (b : ByteArray) (n : Int) : ∃ r, laws_szTag.f a b n = some r := by
  unfold laws_szTag.f
  split <;> exact ⟨_, rfl⟩
theorem toTag_eq (a : Bool) (b : ByteArray) : laws_toTag.f a b = some (a, b) := rfl

theorem FnExactWeakSame : laws_FnExactWeakSame.Pure := by
  intro a b c d hb hd
  unfold laws_FnExactWeakSame.f
  obtain ⟨n, hn⟩ := szTag_some a b 1048576
  obtain ⟨m, hm⟩ := szTag_some c d n
  have e : spec_WeakSame.f a b c d = impl_WeakSame.f a b c d := rfl
  obtain ⟨r, hr⟩ : ∃ r, impl_WeakSame.f a b c d = some r := by
    unfold impl_WeakSame.f
    repeat' split
    all_goals exact ⟨_, rfl⟩
  simp only [toTag_eq, hn, hm, e, hr, Option.bind_some]
  repeat' split
  all_goals simp_all

end Go.Proofs.Ytlnigfdhnbbibaa.Pure
