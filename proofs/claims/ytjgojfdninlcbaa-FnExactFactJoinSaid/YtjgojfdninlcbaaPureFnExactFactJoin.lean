/- The plain law of FnExactFactJoin: what the Lean functions of the printed texts answer. -/
import Derived.Test.YtjgojfdninlcbaaGFnExactFactJoin
import Derived.Test.YtjgojfdninlcbaaHSem
namespace Go.Proofs.Ytjgojfdninlcbaa.Pure
open Go.RowKit Go.Proofs.Ytjgojfdninlcbaa.PFnExactFactJoin Go.Proofs.YtjgojfdninlcbaaW.PrintWords Go.Proofs.YtjgojfdninlcbaaW.PrintLast Go.Proofs.YtjgojfdninlcbaaW.PrintMore Go.Proofs.YtjgojfdninlcbaaH
set_option linter.unusedVariables false
set_option linter.unusedSimpArgs false

theorem spec_l02Is_eq (a b c : Int) : spec_l02Is.f a b c = some (inR a b c) := by
  by_cases h : b ≤ a <;> simp [spec_l02Is.f, inR, h]

theorem spec_l04Node_eq (a : Int) : spec_l04Node.f a = some (inR a 1 6) := by simp [spec_l04Node.f, spec_l02Is_eq]
theorem spec_l03Time_eq (a : Int) : spec_l03Time.f a = some (inR a 0 1000000) := by simp [spec_l03Time.f, spec_l02Is_eq]
theorem spec_FactRight_eq (a b c : Int) : spec_FactRight.f a b c = some (factR a b c) := by
  simp only [spec_FactRight.f, spec_l04Node_eq, spec_l03Time_eq, spec_l02Is_eq, Option.bind_some, factR]
  cases inR a 1 6 <;> cases inR b 0 1000000 <;> simp

theorem spec_l04Less_eq (n i s n' i' s' : Int) : spec_l04Less.f n i s n' i' s' = some (lessF i s i' s') := by
  unfold spec_l04Less.f lessF
  repeat' split
  all_goals simp [*]

theorem spec_l04Join_eq (n i s n' i' s' : Int) : spec_l04Join.f n i s n' i' s' = some (if lessF i s i' s' = true then (n', i', s') else (n, i, s)) := by
  simp only [spec_l04Join.f, spec_l04Less_eq, Option.bind_some, ite_some]
theorem spec_FactJoin_eq (n i s n' i' s' : Int) : spec_FactJoin.f n i s n' i' s' = some (if (factR n i s && (factR n' i' s' && (n == n'))) = true then (if lessF i s i' s' = true then (n', i', s') else (n, i, s)) else (0, 0, 0)) := by
  simp only [spec_FactJoin.f, spec_FactRight_eq, spec_l04Join_eq, Option.bind_some]
  cases factR n i s <;> cases factR n' i' s' <;> by_cases h : n = n' <;> simp [h]

theorem impl_within_eq (a b c : Int) : impl_within.f a b c = some (inR a b c) := by
  by_cases h : b ≤ a <;> simp [impl_within.f, inR, h]

theorem impl_isNode_eq (a : Int) : impl_isNode.f a = some (inR a 1 6) := by simp [impl_isNode.f, impl_within_eq]
theorem impl_isTime_eq (a : Int) : impl_isTime.f a = some (inR a 0 1000000) := by simp [impl_isTime.f, impl_within_eq]
theorem impl_FactRight_eq (a b c : Int) : impl_FactRight.f a b c = some (factR a b c) := by
  simp only [impl_FactRight.f, impl_isNode_eq, impl_isTime_eq, impl_within_eq, Option.bind_some, factR]
  cases inR a 1 6 <;> cases inR b 0 1000000 <;> simp

theorem impl_areOfOne_eq (n i s n' i' s' : Int) : impl_areOfOne.f n i s n' i' s' = some (factR n i s && (factR n' i' s' && (n == n'))) := by
  simp only [impl_areOfOne.f, impl_FactRight_eq, Option.bind_some]
  cases factR n i s <;> cases factR n' i' s' <;> simp

theorem impl_less_eq (n i s n' i' s' : Int) : impl_less.f n i s n' i' s' = some (lessF i s i' s') := by
  unfold impl_less.f lessF
  repeat' split
  all_goals simp [*]

theorem impl_FactJoin_eq (n i s n' i' s' : Int) : impl_FactJoin.f n i s n' i' s' = some (if (factR n i s && (factR n' i' s' && (n == n'))) = true then (if lessF i s i' s' = true then (n', i', s') else (n, i, s)) else (0, 0, 0)) := by
  simp only [impl_FactJoin.f, impl_areOfOne_eq, impl_less_eq, Option.bind_some]
  cases (factR n i s && (factR n' i' s' && (n == n'))) <;> cases lessF i s i' s' <;> simp

theorem FnExactFactJoin : laws_FnExactFactJoin.Goal := by
  intro a b c a' b' c' _ _ _ _ _ _
  simp [laws_FnExactFactJoin.f, laws_toFact.f, spec_FactJoin_eq, impl_FactJoin_eq, laws_eqFact.f]

end Go.Proofs.Ytjgojfdninlcbaa.Pure
