/- The law FnExactIsSkolemThere holds for every input: what the program's function computes is what the reference's computes. Conditions: none but the statement's own. -/
import Derived.Test.YtaeamkjmadkjkaaPFnExactIsSkolemTherex1
import Derived.Test.YtaeamkjmadkjkaaAid
namespace Go.Proofs.Ytaeamkjmadkjkaa.Pure
open Go.RowKit Go.Proofs.Ytaeamkjmadkjkaa.PFnExactIsSkolemThere Go.Proofs.YtaeamkjmadkjkaaW.PrintWords Go.Proofs.YtaeamkjmadkjkaaW.PrintLast Go.Proofs.Ytaeamkjmadkjkaa.Aid
set_option linter.unusedVariables false
set_option linter.unusedSimpArgs false
theorem FnExactIsSkolemThere : laws_FnExactIsSkolemThere.Pure := by
  intro v hv
  unfold laws_FnExactIsSkolemThere.f spec_IsSkolemThere.f impl_IsSkolemThere.f spec_seN.f spec_l1In.f impl_isNumber.f
  by_cases h1 : 1 ≤ v <;> by_cases h2 : v ≤ 20 <;> simp [h1, h2]
end Go.Proofs.Ytaeamkjmadkjkaa.Pure
