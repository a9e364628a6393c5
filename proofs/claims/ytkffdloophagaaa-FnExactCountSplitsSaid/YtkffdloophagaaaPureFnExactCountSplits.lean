/- The law FnExactCountSplits holds for every input: what the program's function computes is what the reference's computes. Conditions: none but the statement's own. -/
import Derived.Test.YtkffdloophagaaaPFnExactCountSplitsx3
import Derived.Test.YtkffdloophagaaaAid
namespace Go.Proofs.Ytkffdloophagaaa.Pure
open Go.RowKit Go.Proofs.Ytkffdloophagaaa.PFnExactCountSplits Go.Proofs.YtkffdloophagaaaW.PrintWords Go.Proofs.YtkffdloophagaaaW.PrintLast Go.Proofs.Ytkffdloophagaaa.Aid
set_option linter.unusedVariables false
set_option linter.unusedSimpArgs false
def marksL (n : Nat) : List Bool := false :: (List.replicate (3 * n) true ++ [false])
theorem trMarks_ev (n : Nat) (h1 : 1 ≤ n) (h2 : n ≤ 10) : Ev (fun k => spec_trMarks.f k (n : Int) false) (marksL n) := by
  have h : n = 1 ∨ n = 2 ∨ n = 3 ∨ n = 4 ∨ n = 5 ∨ n = 6 ∨ n = 7 ∨ n = 8 ∨ n = 9 ∨ n = 10 := by omega
  rcases h with rfl | rfl | rfl | rfl | rfl | rfl | rfl | rfl | rfl | rfl <;> exact Ev.of (fun k => spec_trMarks.mono _ _ k) (k := 40) (by kernel_rfl)
theorem FnExactCountSplits : laws_FnExactCountSplits.Pure := by
  intro a0 h0
  by_cases h : 1 ≤ a0 ∧ a0 ≤ 5
  · have h' : a0 = 1 ∨ a0 = 2 ∨ a0 = 3 ∨ a0 = 4 ∨ a0 = 5 := by omega
    refine ⟨1500, ?_⟩
    rcases h' with rfl | rfl | rfl | rfl | rfl
    · kernel_rfl
    · kernel_rfl
    · kernel_rfl
    · kernel_rfl
    · kernel_rfl
  · refine ⟨0, ?_⟩
    unfold laws_FnExactCountSplits.f spec_CountSplits.f impl_CountSplits.f spec_l1In.f
    rw [if_neg h]
    by_cases c : a0 ≥ 1
    · rw [if_pos c, decide_eq_false (by omega)]
      rfl
    · rw [if_neg c]
      rfl
end Go.Proofs.Ytkffdloophagaaa.Pure
