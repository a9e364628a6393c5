/- What collecting all rows comes to. Conditions: none but those that each lemma states. -/
import Derived.Test.YtgpnhaaklhinlaaSPure2
import Derived.Test.YtgpnhaaklhinlaaSEach
namespace Go.Proofs.Ytgpnhaaklhinlaa.Search
open Go.RowKit Go.Proofs.YtgpnhaaklhinlaaW.PrintWords
set_option linter.unusedVariables false
set_option linter.unusedSimpArgs false
theorem runS_all : ∀ (l acc : List (List Int)), acc.length ≤ 600 → ∃ r b, runS (astep 600) l acc = (r, b) ∧ (acc.length + l.length ≤ 600 → r = acc ++ l) ∧ (600 < acc.length + l.length → 600 < r.length)
  | [], acc, h => ⟨acc, false, rfl, fun _ => by simp, fun h2 => by simp at h2; omega⟩
  | x :: t, acc, h => by
    rw [runS]
    by_cases c : ((acc.length + 1 : Nat) : Int) > 600
    · have hs : astep 600 acc x = (acc ++ [x], true) := by unfold astep; rw [decide_eq_true c]
      rw [hs]
      refine ⟨acc ++ [x], true, by simp, fun h2 => ?_, fun _ => ?_⟩
      · simp only [List.length_cons] at h2; omega
      · rw [List.length_append, List.length_singleton]; omega
    · have hs : astep 600 acc x = (acc ++ [x], false) := by unfold astep; rw [decide_eq_false c]
      rw [hs]
      obtain ⟨r, b, e, h1, h2⟩ := runS_all t (acc ++ [x]) (by rw [List.length_append, List.length_singleton]; omega)
      rw [List.length_append, List.length_singleton] at h1 h2
      refine ⟨r, b, by rw [if_neg (by simp)]; exact e, fun h3 => ?_, fun h3 => h2 (by simp only [List.length_cons] at h3; omega)⟩
      simp only [List.length_cons] at h3
      rw [h1 (by omega)]
      simp
/-- Both sides' answer. -/
def allOf (l : List (List Int)) : List (List Int) × Bool := if l.length > 600 then ([], false) else (l, true)
theorem all_impl (l : List (List Int)) : (if ((runS (astep 600) l []).1.length : Int) > 600 then (([] : List (List Int)), false) else ((runS (astep 600) l []).1, true)) = allOf l := by
  obtain ⟨r, b, e, h1, h2⟩ := runS_all l [] (by simp)
  simp only [List.length_nil, Nat.zero_add, List.nil_append] at h1 h2
  rw [e]
  unfold allOf
  by_cases c : l.length > 600
  · have := h2 c
    rw [if_pos c, if_pos (show ((r, b).1.length : Int) > 600 by simp only []; omega)]
  · obtain rfl := h1 (by omega)
    rw [if_neg c, if_neg (show ¬ ((r, b).1.length : Int) > 600 by simp only []; omega)]
theorem all_spec (l : List (List Int)) : (if ((l.length : Nat) : Int) > 600 then (([] : List (List Int)), false) else (l.take 600, true)) = allOf l := by
  unfold allOf
  by_cases c : l.length > 600
  · rw [if_pos c, if_pos (by omega)]
  · rw [if_neg c, if_neg (by omega), List.take_of_length_le (by omega)]
theorem allOf_len (l : List (List Int)) : (allOf l).1.length ≤ 600 := by
  unfold allOf
  split
  · simp
  · simp only []; omega
theorem allOf_mem (l : List (List Int)) (x : List Int) (h : x ∈ (allOf l).1) : x ∈ l := by
  unfold allOf at h
  split at h
  · simp at h
  · exact h
end Go.Proofs.Ytgpnhaaklhinlaa.Search
