/- The law FnExactConstants holds for every input: what the program's function computes is what the reference's computes. Conditions: none but the statement's own. -/
import Derived.Test.YtaeamkjmadkjkaaPFnExactConstantsx1
import Derived.Test.YtaeamkjmadkjkaaAid
namespace Go.Proofs.Ytaeamkjmadkjkaa.Pure
open Go.RowKit Go.Proofs.Ytaeamkjmadkjkaa.PFnExactConstants Go.Proofs.YtaeamkjmadkjkaaW.PrintWords Go.Proofs.YtaeamkjmadkjkaaW.PrintLast Go.Proofs.Ytaeamkjmadkjkaa.Aid
theorem FnExactConstants : laws_FnExactConstants.Pure := by
  first | rfl | (unfold laws_FnExactConstants.Pure laws_FnExactConstants.f; simp)
end Go.Proofs.Ytaeamkjmadkjkaa.Pure
