/- The law FnExactCountWithPair holds for every input: what the program's function computes is what the reference's computes. Conditions: none but the statement's own. -/
import Derived.Test.YtkffdloophagaaaPFnExactCountWithPairx1
import Derived.Test.YtkffdloophagaaaAid
import Derived.Test.YtkffdloophagaaaSPure4
namespace Go.Proofs.Ytkffdloophagaaa.Pure
open Go.RowKit Go.Proofs.Ytkffdloophagaaa.PFnExactCountWithPair Go.Proofs.YtkffdloophagaaaW.PrintWords Go.Proofs.YtkffdloophagaaaW.PrintLast Go.Proofs.Ytkffdloophagaaa.Aid
set_option linter.unusedVariables false
set_option linter.unusedSimpArgs false
theorem l1Own_at (xs : List Int) (hx : xs.length ≤ 1048576) : spec_l1Own.f xs = some xs := by
  simp only [spec_l1Own.f, Option.bind_some, List.length_nil, Nat.zero_add, List.nil_append]
  rw [if_pos (by omega)]
theorem pair_eq {a0 a1 a2 : Int} (h0 : 1 ≤ a0 ∧ a0 ≤ 9) (h1 : 1 ≤ a1 ∧ a1 ≤ a0) (h2 : 0 ≤ a2 ∧ a2 ≤ 2 * a0) : ∃ c, impl_withPair.f a0 a1 a2 = some c ∧ spec_seWith.f a0 a1 a2 = some c := by
  unfold impl_withPair.f spec_seWith.f
  rw [if_pos (show 1 ≤ a0 ∧ a0 ≤ 9 ∧ 1 ≤ a1 ∧ a1 ≤ a0 ∧ 0 ≤ a2 by omega), if_pos (show 1 ≤ a0 ∧ a0 ≤ 9 ∧ 1 ≤ a1 ∧ a1 ≤ a0 ∧ 0 ≤ a2 ∧ a2 ≤ 2 * a0 by omega)]
  by_cases c : a2 + a1 ≥ 2 * a0
  · exact ⟨0, by rw [if_pos (.inr c)], by rw [if_pos c]⟩
  · rw [if_neg (show ¬ (a2 > 2 * a0 ∨ a2 + a1 ≥ 2 * a0) by omega), if_neg c]
    obtain ⟨C, e1, e2⟩ := Search.pair_count a0.toNat a1.toNat a2.toNat (by omega) (by omega) (by omega)
    rw [show ((a2.toNat : Nat) : Int) = a2 by omega, show ((a1.toNat : Nat) : Int) = a1 by omega] at e1
    rw [show ((a1.toNat : Nat) : Int) = a1 by omega, show a2.toNat + a1.toNat = (a2 + a1).toNat by omega] at e2
    exact ⟨C, e1, e2⟩
theorem pair_zero {a0 a1 a2 : Int} (h0 : 1 ≤ a0 ∧ a0 ≤ 9) (h1 : 1 ≤ a1 ∧ a1 ≤ a0) (h2 : 2 * a0 ≤ a2) : impl_withPair.f a0 a1 a2 = some 0 := by
  unfold impl_withPair.f
  rw [if_pos (show 1 ≤ a0 ∧ a0 ≤ 9 ∧ 1 ≤ a1 ∧ a1 ≤ a0 ∧ 0 ≤ a2 by omega), if_pos (show a2 > 2 * a0 ∨ a2 + a1 ≥ 2 * a0 by omega)]
theorem FnExactCountWithPair : laws_FnExactCountWithPair.Pure := by
  intro a0 a1 a2 w0 w1 w2
  have h : ∃ c b, spec_CountWithPair.f 1 a0 a1 a2 = some (c, b) ∧ impl_CountWithPair.f a0 a1 a2 = some (c, b) := by
    unfold spec_CountWithPair.f impl_CountWithPair.f spec_seSought.f impl_sought.f spec_l1In.f
    simp only [spec_CountWithPair.j0]
    by_cases h1 : a0 ≥ 1
    · rw [if_pos h1]
      simp only [Option.bind_some]
      by_cases h2 : a0 ≤ 9
      · have hw : wrap64 (2 * a0) = 2 * a0 := by unfold wrap64; omega
        simp only [decide_eq_true h2, if_true, hw]
        by_cases h3 : a1 ≥ 1
        · rw [if_pos h3, if_neg (show ¬ a1 < 1 by omega)]
          simp only [Option.bind_some]
          by_cases h4 : a1 ≤ a0
          · simp only [decide_eq_true h4, if_true]
            rw [if_neg (show ¬ a1 > a0 by omega)]
            by_cases h5 : a2 < 0
            · exact ⟨0, false, by rw [if_pos (decide_eq_true h5)], by rw [if_pos h5]⟩
            · rw [if_neg (show ¬ decide (a2 < 0) = true by simp; omega), if_neg h5]
              by_cases h6 : a2 ≥ 2 * a0
              · exact ⟨0, true, by rw [if_pos h6], by rw [pair_zero (by omega) (by omega) h6]; rfl⟩
              · obtain ⟨c, e1, e2⟩ := pair_eq (a0 := a0) (a1 := a1) (a2 := a2) (by omega) (by omega) (by omega)
                exact ⟨c, true, by rw [if_neg h6, e2]; rfl, by rw [e1]; rfl⟩
          · simp only [decide_eq_false h4]
            exact ⟨0, false, rfl, by rw [if_pos (by omega)]⟩
        · rw [if_neg h3, if_pos (show a1 < 1 by omega)]
          exact ⟨0, false, rfl, rfl⟩
      · simp only [decide_eq_false h2]
        exact ⟨0, false, rfl, rfl⟩
    · rw [if_neg h1]
      exact ⟨0, false, rfl, rfl⟩
  obtain ⟨c, b, h1, h2⟩ := h
  refine ⟨1, ?_⟩
  unfold laws_FnExactCountWithPair.f
  simp [h1, h2]
end Go.Proofs.Ytkffdloophagaaa.Pure
