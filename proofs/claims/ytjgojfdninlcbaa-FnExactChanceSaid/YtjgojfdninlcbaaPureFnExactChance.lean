/- The plain law of FnExactChance: what the Lean functions of the printed texts answer. -/
import Derived.Test.YtjgojfdninlcbaaPFnExactChancex1
import Derived.Test.YtjgojfdninlcbaaHSem
namespace Go.Proofs.Ytjgojfdninlcbaa.Pure
open Go.RowKit Go.Proofs.Ytjgojfdninlcbaa.PFnExactChance Go.Proofs.YtjgojfdninlcbaaW.PrintWords Go.Proofs.YtjgojfdninlcbaaW.PrintLast Go.Proofs.YtjgojfdninlcbaaW.PrintMore Go.Proofs.YtjgojfdninlcbaaH
set_option linter.unusedVariables false
set_option linter.unusedSimpArgs false


theorem FnExactChance : laws_FnExactChance.Pure := by
  intro a b ha hb
  have h : impl_Chance.f a b = spec_Chance.f a b := by
    simp only [impl_Chance.f, spec_Chance.f, impl_isSeed.f, spec_l02Seed.f, impl_within.f, spec_l02Is.f, spec_l02Draw.f, ge_iff_le, apply_ite (fun o : Option Bool => o.bind _), Option.bind_some]
    repeat' split
    all_goals first | rfl | omega
  simp only [laws_FnExactChance.f, h]
  have h2 : ∃ p, spec_Chance.f a b = some p := by
    simp only [spec_Chance.f, spec_l02Seed.f, spec_l02Is.f, spec_l02Draw.f]
    by_cases h0 : a ≥ 0 <;> by_cases h1 : a ≤ 2147483647 <;> by_cases h2 : b ≥ 1 <;> by_cases h3 : b ≤ 1000000 <;> simp [h0, h1, h2, h3]
    rw [if_neg (by omega)]
    exact ⟨_, _, rfl⟩
  obtain ⟨p, hp⟩ := h2
  simp [hp, laws_eqChanceOut.f]

end Go.Proofs.Ytjgojfdninlcbaa.Pure
