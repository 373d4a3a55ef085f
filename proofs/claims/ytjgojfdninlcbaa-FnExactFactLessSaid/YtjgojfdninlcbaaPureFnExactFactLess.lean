/- The plain law of FnExactFactLess: what the Lean functions of the printed texts answer. -/
import Derived.Test.YtjgojfdninlcbaaGFnExactFactLess
import Derived.Test.YtjgojfdninlcbaaHSem
namespace Go.Proofs.Ytjgojfdninlcbaa.Pure
open Go.RowKit Go.Proofs.Ytjgojfdninlcbaa.PFnExactFactLess Go.Proofs.YtjgojfdninlcbaaW.PrintWords Go.Proofs.YtjgojfdninlcbaaW.PrintLast Go.Proofs.YtjgojfdninlcbaaW.PrintMore Go.Proofs.YtjgojfdninlcbaaH
set_option linter.unusedVariables false
set_option linter.unusedSimpArgs false

theorem spec_l02Is_eq (a b c : Int) : spec_l02Is.f a b c = some (inR a b c) := by
  by_cases h : b ≤ a <;> simp [spec_l02Is.f, inR, h]

theorem spec_l04Node_eq (a : Int) : spec_l04Node.f a = some (inR a 1 6) := by simp [spec_l04Node.f, spec_l02Is_eq]
theorem spec_l03Time_eq (a : Int) : spec_l03Time.f a = some (inR a 0 1000000) := by simp [spec_l03Time.f, spec_l02Is_eq]
theorem spec_FactRight_eq (a b c : Int) : spec_FactRight.f a b c = some (factR a b c) := by
  simp only [spec_FactRight.f, spec_l04Node_eq, spec_l03Time_eq, spec_l02Is_eq, Option.bind_some, factR]
  cases inR a 1 6 <;> cases inR b 0 1000000 <;> simp

theorem spec_l04Less_eq (n i s n' i' s' : Int) : spec_l04Less.f n i s n' i' s' = some (lessF i s i' s') := by
  unfold spec_l04Less.f lessF
  repeat' split
  all_goals simp [*]

theorem spec_FactLess_eq (n i s n' i' s' : Int) : spec_FactLess.f n i s n' i' s' = some (factR n i s && (factR n' i' s' && (n == n')) && lessF i s i' s') := by
  simp only [spec_FactLess.f, spec_FactRight_eq, spec_l04Less_eq, Option.bind_some]
  cases factR n i s <;> cases factR n' i' s' <;> by_cases h : n = n' <;> simp [h]

theorem impl_within_eq (a b c : Int) : impl_within.f a b c = some (inR a b c) := by
  by_cases h : b ≤ a <;> simp [impl_within.f, inR, h]

theorem impl_isNode_eq (a : Int) : impl_isNode.f a = some (inR a 1 6) := by simp [impl_isNode.f, impl_within_eq]
theorem impl_isTime_eq (a : Int) : impl_isTime.f a = some (inR a 0 1000000) := by simp [impl_isTime.f, impl_within_eq]
theorem impl_FactRight_eq (a b c : Int) : impl_FactRight.f a b c = some (factR a b c) := by
  simp only [impl_FactRight.f, impl_isNode_eq, impl_isTime_eq, impl_within_eq, Option.bind_some, factR]
  cases inR a 1 6 <;> cases inR b 0 1000000 <;> simp

theorem impl_areOfOne_eq (n i s n' i' s' : Int) : impl_areOfOne.f n i s n' i' s' = some (factR n i s && (factR n' i' s' && (n == n'))) := by
  simp only [impl_areOfOne.f, impl_FactRight_eq, Option.bind_some]
  cases factR n i s <;> cases factR n' i' s' <;> simp

theorem impl_less_eq (n i s n' i' s' : Int) : impl_less.f n i s n' i' s' = some (lessF i s i' s') := by
  unfold impl_less.f lessF
  repeat' split
  all_goals simp [*]

theorem impl_FactLess_eq (n i s n' i' s' : Int) : impl_FactLess.f n i s n' i' s' = some (factR n i s && (factR n' i' s' && (n == n')) && lessF i s i' s') := by
  simp only [impl_FactLess.f, impl_areOfOne_eq, impl_less_eq, Option.bind_some]
  cases (factR n i s && (factR n' i' s' && (n == n'))) <;> simp

theorem FnExactFactLess : laws_FnExactFactLess.Goal := by
  intro a b c a' b' c' _ _ _ _ _ _
  simp only [laws_FnExactFactLess.f, laws_toFact.f, spec_FactLess_eq, impl_FactLess_eq, Option.bind_some, bne_self_eq_false, Bool.false_eq_true, if_false]

end Go.Proofs.Ytjgojfdninlcbaa.Pure
