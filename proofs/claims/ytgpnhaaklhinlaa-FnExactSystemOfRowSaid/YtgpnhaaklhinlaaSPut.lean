/- A row put into a sorted list of rows from behind: plain lists. Conditions: none but those that each lemma states. -/
import Derived.Test.YtgpnhaaklhinlaaSSort
namespace Go.Proofs.Ytgpnhaaklhinlaa.Search
set_option linter.unusedVariables false
set_option linter.unusedSimpArgs false
theorem cmpL_asym (a b : List Int) (h : cmpL a b < 0) : ¬ cmpL b a < 0 := fun h' => by
  have := cmpL_trans a b a h h'
  rw [cmpL_self] at this
  omega
/-- Where a row goes, looked for from place p down. -/
def putAt (x : List Int) (l : List (List Int)) : Nat → Nat
  | 0 => 0
  | p + 1 => if cmpL x (l.getD p []) < 0 then putAt x l p else p + 1
def putL (x : List Int) (l : List (List Int)) : List (List Int) := l.take (putAt x l l.length) ++ x :: l.drop (putAt x l l.length)
theorem putAt_le (x : List Int) (l : List (List Int)) : ∀ p, putAt x l p ≤ p
  | 0 => Nat.le_refl _
  | p + 1 => by
    unfold putAt
    split
    · exact Nat.le_succ_of_le (putAt_le x l p)
    · exact Nat.le_refl _
theorem putAt_up (x : List Int) (l : List (List Int)) : ∀ p j, putAt x l p ≤ j → j < p → cmpL x (l.getD j []) < 0
  | 0, j, _, h => absurd h (Nat.not_lt_zero _)
  | p + 1, j, h, h' => by
    unfold putAt at h
    split at h
    · rename_i c
      rcases Nat.lt_or_ge j p with hj | hj
      · exact putAt_up x l p j h hj
      · rw [show j = p by omega]
        exact c
    · omega
theorem putAt_down (x : List Int) (l : List (List Int)) : ∀ p, putAt x l p = 0 ∨ ¬ cmpL x (l.getD (putAt x l p - 1) []) < 0
  | 0 => .inl rfl
  | p + 1 => by
    unfold putAt
    split
    · exact putAt_down x l p
    · rename_i c
      exact .inr c
theorem putL_perm (x : List Int) (l : List (List Int)) : (putL x l).Perm (x :: l) := by
  unfold putL
  refine List.perm_middle.trans ?_
  rw [List.take_append_drop]
theorem putL_sorted (x : List Int) (l : List (List Int)) (h : l.Pairwise (fun a b => ¬ cmpL b a < 0)) : (putL x l).Pairwise (fun a b => ¬ cmpL b a < 0) := by
  have hg : ∀ (i : Nat) (hi : i < l.length), l.getD i [] = l[i] := fun i hi => by simp [List.getD_eq_getElem?_getD, hi]
  have hp := putAt_le x l l.length
  have hs : (l.take (putAt x l l.length) ++ l.drop (putAt x l l.length)).Pairwise (fun a b => ¬ cmpL b a < 0) := by rw [List.take_append_drop]; exact h
  obtain ⟨h1, h2, h3⟩ := List.pairwise_append.1 hs
  unfold putL
  refine List.pairwise_append.2 ⟨h1, List.pairwise_cons.2 ⟨fun b hb => ?_, h2⟩, fun a ha b hb => ?_⟩
  · obtain ⟨j, hj, rfl⟩ := List.getElem_of_mem hb
    rw [List.getElem_drop]
    rw [List.length_drop] at hj
    have := putAt_up x l l.length (putAt x l l.length + j) (by omega) (by omega)
    rw [hg _ (by omega)] at this
    exact cmpL_asym _ _ this
  · rcases List.mem_cons.1 hb with rfl | hb
    · obtain ⟨i, hi, rfl⟩ := List.getElem_of_mem ha
      rw [List.getElem_take]
      rw [List.length_take] at hi
      rcases putAt_down b l l.length with e | e
      · omega
      · rw [hg _ (by omega)] at e
        rcases Nat.lt_or_ge i (putAt b l l.length - 1) with hi2 | hi2
        · exact cmpL_ntrans _ _ _ e (List.pairwise_iff_getElem.1 h i (putAt b l l.length - 1) (by omega) (by omega) hi2)
        · have : i = putAt b l l.length - 1 := by omega
          subst this
          exact e
    · exact h3 a ha b hb
/-- All rows of a list put in, one behind the other. -/
def putAll (l : List (List Int)) : List (List Int) → List (List Int)
  | [] => l
  | x :: t => putAll (putL x l) t
theorem putAll_perm : ∀ (t l : List (List Int)), (putAll l t).Perm (t ++ l)
  | [], l => List.Perm.refl _
  | x :: t, l => by
    refine (putAll_perm t (putL x l)).trans ?_
    refine ((putL_perm x l).append_left t).trans ?_
    exact List.perm_middle
theorem putAll_sorted : ∀ (t l : List (List Int)), l.Pairwise (fun a b => ¬ cmpL b a < 0) → (putAll l t).Pairwise (fun a b => ¬ cmpL b a < 0)
  | [], l, h => h
  | x :: t, l, h => putAll_sorted t _ (putL_sorted x l h)
/-- A sorted list of the same rows is the one that comes of putting them in. -/
theorem sorted_put {t r : List (List Int)} (hp : r.Perm t) (hs : r.Pairwise (fun a b => ¬ cmpL b a < 0)) : r = putAll [] t :=
  sorted_one _ _ (hp.trans (by have := (putAll_perm t []).symm; rwa [List.append_nil] at this)) hs (putAll_sorted t [] List.Pairwise.nil)
end Go.Proofs.Ytgpnhaaklhinlaa.Search
