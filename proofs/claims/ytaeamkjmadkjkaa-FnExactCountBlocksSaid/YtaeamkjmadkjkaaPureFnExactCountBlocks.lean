/- The law FnExactCountBlocks holds for every input: what the program's function computes is what the reference's computes. Conditions: none but the statement's own. -/
import Derived.Test.YtaeamkjmadkjkaaPFnExactCountBlocksx1
import Derived.Test.YtaeamkjmadkjkaaAid
namespace Go.Proofs.Ytaeamkjmadkjkaa.Pure
open Go.RowKit Go.Proofs.Ytaeamkjmadkjkaa.PFnExactCountBlocks Go.Proofs.YtaeamkjmadkjkaaW.PrintWords Go.Proofs.YtaeamkjmadkjkaaW.PrintLast Go.Proofs.Ytaeamkjmadkjkaa.Aid
theorem FnExactCountBlocks : laws_FnExactCountBlocks.Pure := by
  intro v hv
  unfold laws_FnExactCountBlocks.f spec_CountBlocks.f impl_CountBlocks.f spec_l1In.f impl_isPoints.f
  by_cases h1 : 3 ≤ v <;> by_cases h2 : v ≤ 40 <;> by_cases h3 : Int.tmod v 6 = 1 <;> by_cases h4 : Int.tmod v 6 = 3 <;> simp [h1, h2, h3, h4]
end Go.Proofs.Ytaeamkjmadkjkaa.Pure
