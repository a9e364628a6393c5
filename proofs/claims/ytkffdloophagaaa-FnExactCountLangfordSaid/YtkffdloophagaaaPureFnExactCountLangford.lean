/- The law FnExactCountLangford holds for every input: what the program's function computes is what the reference's computes. Conditions: none but the statement's own. -/
import Derived.Test.YtkffdloophagaaaPFnExactCountLangfordx1
import Derived.Test.YtkffdloophagaaaAid
import Derived.Test.YtkffdloophagaaaSPure
namespace Go.Proofs.Ytkffdloophagaaa.Pure
open Go.RowKit Go.Proofs.Ytkffdloophagaaa.PFnExactCountLangford Go.Proofs.YtkffdloophagaaaW.PrintWords Go.Proofs.YtkffdloophagaaaW.PrintLast Go.Proofs.Ytkffdloophagaaa.Aid
set_option linter.unusedVariables false
set_option linter.unusedSimpArgs false
theorem l1Own_at (xs : List Int) (hx : xs.length ≤ 1048576) : spec_l1Own.f xs = some xs := by
  simp only [spec_l1Own.f, Option.bind_some, List.length_nil, Nat.zero_add, List.nil_append]
  rw [if_pos (by omega)]
theorem sought_yes {a0 a1 : Int} (h : 1 ≤ a0 ∧ a0 ≤ 9 ∧ 1 ≤ a1 ∧ a1 ≤ 20 ∧ a1 + a0 ≤ 20) : impl_soughtFrom.f a0 a1 = some true := by
  have hw : wrap64 (a1 + a0) = a1 + a0 := by unfold wrap64; omega
  unfold impl_soughtFrom.f impl_sought.f impl_isNumber.f
  simp [h, hw]
theorem sought_no {a0 a1 : Int} (h : ¬ (1 ≤ a0 ∧ a0 ≤ 9 ∧ 1 ≤ a1 ∧ a1 ≤ 20 ∧ a1 + a0 ≤ 20)) : impl_soughtFrom.f a0 a1 = some false := by
  unfold impl_soughtFrom.f impl_sought.f impl_isNumber.f
  by_cases h1 : 1 ≤ a0 <;> by_cases h2 : a0 ≤ 9 <;> by_cases h3 : 1 ≤ a1 <;> by_cases h4 : a1 ≤ 20 <;> simp [h1, h2, h3, h4]
  have hw : wrap64 (a1 + a0) = a1 + a0 := by unfold wrap64; omega
  rw [hw]
  omega
theorem FnExactCountLangford : laws_FnExactCountLangford.Pure := by
  intro a0 a1 h0 h1'
  have h : ∃ c b, spec_CountLangford.f a0 a1 = some (c, b) ∧ impl_CountLangford.f a0 a1 = some (c, b) := by
    unfold spec_CountLangford.f impl_CountLangford.f
    by_cases hm : 1 ≤ a0 ∧ a0 ≤ 9 ∧ 1 ≤ a1 ∧ a1 ≤ 20 ∧ a1 + a0 ≤ 20
    · refine ⟨Search.cnt (Search.found a1.toNat (a1.toNat + a0.toNat - 1) 1 (-1)), true, ?_, ?_⟩
      · rw [if_pos hm, Search.lookAll_found _ _ _ _ _ (by omega) (by omega)]; rfl
      · have e := Search.countF_found 1 (2 * a0.toNat) a0.toNat a1.toNat (-1) (by omega) (by omega) (by omega) (by omega) (by unfold Search.placesOf; split <;> omega)
        have es : impl_soughtFrom.f a0 a1 = some true := sought_yes hm
        rw [es, Option.bind_some, if_pos rfl, e]; rfl
    · refine ⟨0, false, by rw [if_neg hm], ?_⟩
      have es : impl_soughtFrom.f a0 a1 = some false := sought_no hm
      rw [es, Option.bind_some, if_neg (by decide)]
  obtain ⟨c, b, h1, h2⟩ := h
  unfold laws_FnExactCountLangford.f
  simp [h1, h2]
end Go.Proofs.Ytkffdloophagaaa.Pure
