/- How many rows a search finds, and how long they are. Conditions: none but those that each lemma states. -/
import Derived.Test.YtkffdloophagaaaSPure
namespace Go.Proofs.Ytkffdloophagaaa.Search
open Go.RowKit Go.Proofs.YtkffdloophagaaaW.PrintWords
set_option linter.unusedVariables false
set_option linter.unusedSimpArgs false
def fac : Nat → Nat
  | 0 => 1
  | n + 1 => (n + 1) * fac n
theorem fac_pos : ∀ n, 1 ≤ fac n
  | 0 => Nat.le_refl _
  | n + 1 => by
    have := fac_pos n
    rw [fac]
    exact Nat.le_trans this (Nat.le_mul_of_pos_left _ (by omega))
theorem fac_mono : ∀ (n d : Nat), fac n ≤ fac (n + d)
  | n, 0 => Nat.le_refl _
  | n, d + 1 => by
    refine Nat.le_trans (fac_mono n d) ?_
    rw [← Nat.add_assoc, fac]
    exact Nat.le_mul_of_pos_left _ (by omega)
theorem nz_cons (x : Int) (l : List Int) : nz (x :: l) = nz l + (if x = 0 then 0 else 1) := by
  unfold nz
  by_cases c : x = 0 <;> simp [c]
theorem seenL_len (fr to_ sh : Nat) (hole : Int) (k : Nat) (row : List Int) (used at_ m B : Nat) (hf : 1 ≤ fr) (IH : ∀ i row, i < m → ¬ used.testBit (fr + i) = true → (seen fr to_ sh hole k row (used ||| 2 ^ (fr + i))).length ≤ B) :
    ∀ (r i : Nat), i + r = m → (seenL sh hole (seen fr to_ sh hole k) row used at_ r (fr + i)).length ≤ nz (leftOf used r (fr + i)) * B
  | 0, i, h => by simp [seenL]
  | r + 1, i, h => by
    have hi := seenL_len fr to_ sh hole k row used at_ m B hf IH r (i + 1) (by omega)
    rw [show fr + (i + 1) = fr + i + 1 by omega] at hi
    rw [seenL, leftOf, nz_cons]
    by_cases hb : used.testBit (fr + i) = true
    · rw [if_pos (.inl hb), if_pos hb, if_pos rfl, Nat.add_zero]
      exact hi
    · rw [if_neg hb, if_neg (show ¬ ((fr + i : Nat) : Int) = 0 by omega), Nat.add_mul, Nat.one_mul]
      split
      · omega
      · rw [List.length_append]
        have := IH i ((row.set at_ ((fr + i : Nat) : Int)).set (at_ + (fr + i) + sh) ((fr + i : Nat) : Int)) (by omega) hb
        omega
theorem seen_len (fr to_ sh : Nat) (hole : Int) (hf : 1 ≤ fr) : ∀ (k : Nat) (row : List Int) (used : Nat), (seen fr to_ sh hole k row used).length ≤ fac (nz (leftOf used (to_ + 1 - fr) fr))
  | 0, row, used => Nat.zero_le _
  | k + 1, row, used => by
    rw [seen]
    cases firstZero hole row 0 with
    | none => exact fac_pos _
    | some at_ =>
      have h := seenL_len fr to_ sh hole k row used at_ (to_ + 1 - fr) (fac (nz (leftOf used (to_ + 1 - fr) fr) - 1)) hf (fun i row hi hb => by
        have hz := nz_set (leftOf used (to_ + 1 - fr) fr) i ((fr + i : Nat) : Int) (by rw [leftOf_get used _ fr i hi, if_neg hb]) (by omega)
        rw [leftOf_set used _ fr i hi] at hz
        have := seen_len fr to_ sh hole hf k row (used ||| 2 ^ (fr + i))
        rw [show nz (leftOf (used ||| 2 ^ (fr + i)) (to_ + 1 - fr) fr) = nz (leftOf used (to_ + 1 - fr) fr) - 1 by omega] at this
        exact this) (to_ + 1 - fr) 0 (by omega)
      refine Nat.le_trans h ?_
      rw [Nat.add_zero]
      generalize nz (leftOf used (to_ + 1 - fr) fr) = z
      cases z with
      | zero => simp [fac]
      | succ z => rw [Nat.add_sub_cancel, fac]; exact Nat.le_refl _
theorem found_len (fr to_ sh : Nat) (hole : Int) (hf : 1 ≤ fr) (ht : to_ + 1 ≤ fr + 9) : (found fr to_ sh hole).length ≤ 362880 := by
  refine Nat.le_trans (seen_len fr to_ sh hole hf 40 _ 0) ?_
  have h := nz_le (leftOf 0 (to_ + 1 - fr) fr)
  rw [leftOf_len] at h
  obtain ⟨d, hd⟩ : ∃ d, nz (leftOf 0 (to_ + 1 - fr) fr) + d = 9 := ⟨9 - nz (leftOf 0 (to_ + 1 - fr) fr), by omega⟩
  refine Nat.le_trans (fac_mono _ d) ?_
  rw [hd]
  decide
theorem seenL_row (fr to_ sh : Nat) (hole : Int) (k : Nat) (row : List Int) (used at_ : Nat) (IH : ∀ row used x, x ∈ seen fr to_ sh hole k row used → x.length = row.length) :
    ∀ (r n : Nat) (x : List Int), x ∈ seenL sh hole (seen fr to_ sh hole k) row used at_ r n → x.length = row.length
  | 0, n, x, h => by simp [seenL] at h
  | r + 1, n, x, h => by
    rw [seenL] at h
    split at h
    · exact seenL_row fr to_ sh hole k row used at_ IH r (n + 1) x h
    · rcases List.mem_append.1 h with h | h
      · have := IH _ _ x h
        simpa using this
      · exact seenL_row fr to_ sh hole k row used at_ IH r (n + 1) x h
theorem seen_row (fr to_ sh : Nat) (hole : Int) : ∀ (k : Nat) (row : List Int) (used : Nat) (x : List Int), x ∈ seen fr to_ sh hole k row used → x.length = row.length
  | 0, row, used, x, h => by simp [seen] at h
  | k + 1, row, used, x, h => by
    rw [seen] at h
    cases hz : firstZero hole row 0 with
    | none => rw [hz] at h; simp at h; rw [h]
    | some at_ => rw [hz] at h; exact seenL_row fr to_ sh hole k row used at_ (fun row used x hx => seen_row fr to_ sh hole k row used x hx) _ _ x h
theorem found_row (fr to_ sh : Nat) (hole : Int) (x : List Int) (h : x ∈ found fr to_ sh hole) : x.length = placesOf fr to_ hole := by
  have := seen_row fr to_ sh hole 40 _ 0 x h
  rwa [List.length_replicate] at this
theorem foldl_count : ∀ (l : List (List Int)) (c : Int), 0 ≤ c → c + l.length < 4611686018427387904 → l.foldl (fun c _ => wrap64 (c + 1)) c = c + l.length
  | [], c, h0, h => by simp
  | x :: t, c, h0, h => by
    simp only [List.length_cons] at h
    rw [List.foldl_cons, show wrap64 (c + 1) = c + 1 by unfold wrap64; omega, foldl_count t (c + 1) (by omega) (by omega)]
    simp only [List.length_cons]
    omega
theorem cnt_len (l : List (List Int)) (h : l.length ≤ 362880) : cnt l = l.length := by
  unfold cnt
  rw [foldl_count l 0 (by omega) (by omega)]
  omega
theorem runS_first (l : List (List Int)) : runS fstep l [] = match l with | [] => ([], false) | x :: _ => (x, true) := by
  cases l with
  | nil => rfl
  | cons x t => rfl
end Go.Proofs.Ytkffdloophagaaa.Search
