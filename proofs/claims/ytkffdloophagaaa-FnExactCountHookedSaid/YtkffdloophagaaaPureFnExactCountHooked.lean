/- The law FnExactCountHooked holds for every input: what the program's function computes is what the reference's computes. Conditions: none but the statement's own. -/
import Derived.Test.YtkffdloophagaaaPFnExactCountHookedx1
import Derived.Test.YtkffdloophagaaaAid
import Derived.Test.YtkffdloophagaaaSPure
namespace Go.Proofs.Ytkffdloophagaaa.Pure
open Go.RowKit Go.Proofs.Ytkffdloophagaaa.PFnExactCountHooked Go.Proofs.YtkffdloophagaaaW.PrintWords Go.Proofs.YtkffdloophagaaaW.PrintLast Go.Proofs.Ytkffdloophagaaa.Aid
set_option linter.unusedVariables false
set_option linter.unusedSimpArgs false
theorem l1Own_at (xs : List Int) (hx : xs.length ≤ 1048576) : spec_l1Own.f xs = some xs := by
  simp only [spec_l1Own.f, Option.bind_some, List.length_nil, Nat.zero_add, List.nil_append]
  rw [if_pos (by omega)]
theorem FnExactCountHooked : laws_FnExactCountHooked.Pure := by
  intro a0 h0
  have h : ∃ c b, spec_CountHooked.f a0 = some (c, b) ∧ impl_CountHooked.f a0 = some (c, b) := by
    unfold spec_CountHooked.f impl_CountHooked.f impl_sought.f
    by_cases hm : 1 ≤ a0 ∧ a0 ≤ 9
    · refine ⟨Search.cnt (Search.found 1 a0.toNat 0 (2 * (a0.toNat : Int) - 1)), true, ?_, ?_⟩
      · rw [if_pos hm, Search.lookAll_found _ _ _ _ _ (by omega) (by omega)]; rfl
      · have e := Search.countF_found 0 (2 * a0.toNat + 1) a0.toNat 1 (2 * (a0.toNat : Int) - 1) (by omega) (by omega) (by omega) (by omega) (by unfold Search.placesOf; split <;> omega)
        rw [show 1 + a0.toNat - 1 = a0.toNat by omega] at e
        rw [if_pos hm.1, Option.bind_some, decide_eq_true hm.2, if_pos rfl, e]; rfl
    · refine ⟨0, false, by rw [if_neg hm], ?_⟩
      by_cases h1 : a0 ≥ 1
      · rw [if_pos h1, Option.bind_some, decide_eq_false (by omega)]; rfl
      · rw [if_neg h1]; rfl
  obtain ⟨c, b, h1, h2⟩ := h
  unfold laws_FnExactCountHooked.f
  simp [h1, h2]
end Go.Proofs.Ytkffdloophagaaa.Pure
