/- The law FnExactIsLangfordThere holds for every input: what the program's function computes is what the reference's computes. Conditions: none but the statement's own. -/
import Derived.Test.YtaeamkjmadkjkaaPFnExactIsLangfordTherex1
import Derived.Test.YtaeamkjmadkjkaaAid
namespace Go.Proofs.Ytaeamkjmadkjkaa.Pure
open Go.RowKit Go.Proofs.Ytaeamkjmadkjkaa.PFnExactIsLangfordThere Go.Proofs.YtaeamkjmadkjkaaW.PrintWords Go.Proofs.YtaeamkjmadkjkaaW.PrintLast Go.Proofs.Ytaeamkjmadkjkaa.Aid
set_option linter.unusedVariables false
set_option linter.unusedSimpArgs false
theorem FnExactIsLangfordThere : laws_FnExactIsLangfordThere.Pure := by
  intro v d hv hd
  refine ⟨1, ?_⟩
  unfold laws_FnExactIsLangfordThere.f spec_IsLangfordThere.f impl_IsLangfordThere.f spec_seN.f spec_l1In.f impl_isNumber.f spec_seThere.f
  by_cases h1 : 1 ≤ v <;> by_cases h2 : v ≤ 20 <;> by_cases h3 : 1 ≤ d <;> by_cases h4 : d ≤ 20 <;> simp [h1, h2, h3, h4, impl_IsLangfordThere.j0]
  by_cases c : v < wrap64 (wrap64 (2 * d) + 1) <;> by_cases c1 : Int.tmod d 2 = 1 <;> by_cases c2 : Int.tmod v 4 = 0 <;> simp [c, c1, c2]
end Go.Proofs.Ytaeamkjmadkjkaa.Pure
