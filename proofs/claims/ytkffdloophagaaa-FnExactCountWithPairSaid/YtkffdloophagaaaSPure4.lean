/- Both counts of the rows that bear a pair are one. Conditions: none but those that each lemma states. -/
import Derived.Test.YtkffdloophagaaaSPure3
import Derived.Test.YtkffdloophagaaaSPair
namespace Go.Proofs.Ytkffdloophagaaa.Search
open Go.RowKit Go.Proofs.YtkffdloophagaaaW.PrintWords
set_option linter.unusedVariables false
set_option linter.unusedSimpArgs false
theorem runS_pair (m p q : Nat) (hq : q = p + m) : ∀ (l : List (List Int)) (c : Int), runS (pstep (p : Int) (m : Int)) l c = ((l.filter (bears m p q)).foldl (fun c _ => wrap64 (c + 1)) c, false)
  | [], c => rfl
  | x :: t, c => by
    have e : (p : Int) + (m : Int) = (q : Int) := by omega
    rw [runS, List.filter_cons]
    by_cases h : bears m p q x = true
    · have hs : pstep (p : Int) (m : Int) c x = (wrap64 (c + 1), false) := by
        unfold pstep
        rw [e, if_pos ((bears_iff m p q x).1 h)]
      rw [hs, if_pos h, if_neg (by simp), runS_pair m p q hq t, List.foldl_cons]
    · have hs : pstep (p : Int) (m : Int) c x = (c, false) := by
        unfold pstep
        rw [e, if_neg (fun g => h ((bears_iff m p q x).2 g))]
      rw [hs, if_neg h, if_neg (by simp), runS_pair m p q hq t]
theorem pair_count (n m p : Nat) (hn : 1 ≤ n ∧ n ≤ 9) (hm : 1 ≤ m ∧ m ≤ n) (hp : p + m < 2 * n) : ∃ C, pairF (2 * n) n (p : Int) (m : Int) = some C ∧ (lookF 1 n 0 (-1) (lstep 0) 40 (((List.replicate (2 * n) 0).set p (m : Int)).set (p + m) (m : Int)) (2 ^ m) (0, [])).map (·.1) = some C := by
  have hz := nz_le (leftOf 0 (n + 1 - 1) 1)
  have hz2 := nz_le (leftOf (2 ^ m) (n + 1 - 1) 1)
  rw [leftOf_len] at hz hz2
  have h0 : ∀ j : Nat, rd (List.replicate (2 * n) (0 : Int)) (j : Int) = 0 := fun j => rd_zeros _ j
  have hs := pair_search 1 n 0 m p (p + m) (Nat.le_refl _) hm rfl 40 (List.replicate (2 * n) 0) 0 (by omega) (by simpa using hp) (h0 p) (h0 _) (by simp) (fun j => by rw [h0]; omega)
  rw [Nat.zero_or] at hs
  refine ⟨(seen 1 n 0 (-1) 40 (((List.replicate (2 * n) 0).set p (m : Int)).set (p + m) (m : Int)) (2 ^ m)).foldl (fun c _ => wrap64 (c + 1)) 0, ?_, ?_⟩
  · have hf := fill_found (pstep (p : Int) (m : Int)) 0 (2 * n) n 1 (-1) 0 (by omega) hn.1 (by omega) (by omega) (by unfold placesOf; rw [if_neg (by omega)]; omega)
    unfold pairF
    rw [hf, runS_pair m p (p + m) rfl]
    have e : found 1 (1 + n - 1) 0 (-1) = seen 1 n 0 (-1) 40 (List.replicate (2 * n) 0) 0 := by
      unfold found placesOf
      rw [if_neg (by omega), show 1 + n - 1 = n by omega, show 2 * (n + 1 - 1) + 0 = 2 * n by omega]
    rw [e, hs]
    rfl
  · rw [lookF_seen 1 n 0 (-1) (lstep 0) (Nat.le_refl _) 40 _ _ _ (by omega), foldl_lstep]
    rfl
end Go.Proofs.Ytkffdloophagaaa.Search
