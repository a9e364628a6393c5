/- How many rows a Skolem search finds, and in which order. Conditions: none but those that each lemma states. -/
import Derived.Test.YtkffdloophagaaaSPure3
import Derived.Test.YtkffdloophagaaaSPure2
import Derived.Test.YtkffdloophagaaaSNext
namespace Go.Proofs.Ytkffdloophagaaa.Search
open Go.RowKit Go.Proofs.YtkffdloophagaaaW.PrintWords
set_option linter.unusedVariables false
set_option linter.unusedSimpArgs false
/-- A search counted on bits: p places left, m: which of them are taken, used: which numbers are. -/
def cntS (ih : Nat → Nat → Nat) (p m used : Nat) (N : Nat) : Nat :=
  Nat.rec 0 (fun r s => Nat.add s (cond (Nat.ble (Nat.succ r) p) (cond (Nat.beq (Nat.land 1 (Nat.shiftRight used (Nat.succ r))) 0) (cond (Nat.beq (Nat.land 1 (Nat.shiftRight m (Nat.succ r))) 0) (ih (Nat.lor (Nat.shiftRight m 1) (Nat.shiftLeft 1 r)) (Nat.lor used (Nat.shiftLeft 1 (Nat.succ r)))) 0) 0) 0)) N
def cntP (N : Nat) (p : Nat) : Nat → Nat → Nat :=
  Nat.rec (fun _ _ => 1) (fun p ih m used => cond (Nat.beq (Nat.land 1 (Nat.shiftRight m 0)) 0) (cntS ih p m used N) (ih (Nat.shiftRight m 1) used)) p
theorem bit_beq (x n : Nat) : Nat.beq (Nat.land 1 (Nat.shiftRight x n)) 0 = !x.testBit n := by
  unfold Nat.testBit
  show Nat.beq (Nat.land 1 (Nat.shiftRight x n)) 0 = !(Nat.land 1 (Nat.shiftRight x n) != 0)
  generalize Nat.land 1 (Nat.shiftRight x n) = z
  cases z with
  | zero => rfl
  | succ z => rfl
def term (ih : Nat → Nat → Nat) (p m used r : Nat) : Nat := if r + 1 ≤ p ∧ ¬ used.testBit (r + 1) = true ∧ ¬ m.testBit (r + 1) = true then ih ((m >>> 1) ||| (1 <<< r)) (used ||| 1 <<< (r + 1)) else 0
theorem cntS_succ (ih : Nat → Nat → Nat) (p m used r : Nat) : cntS ih p m used (r + 1) = cntS ih p m used r + term ih p m used r := by
  show Nat.add (cntS ih p m used r) _ = _
  congr 1
  unfold term
  rw [bit_beq, bit_beq]
  by_cases c1 : r + 1 ≤ p
  · rw [show Nat.ble (Nat.succ r) p = true from Nat.ble_eq_true_of_le c1]
    by_cases c2 : used.testBit (r + 1) = true
    · rw [show used.testBit (Nat.succ r) = true from c2, if_neg (fun h => h.2.1 rfl)]
      rfl
    · have c2' : used.testBit (Nat.succ r) = false := Bool.eq_false_iff.2 c2
      rw [c2']
      by_cases c3 : m.testBit (r + 1) = true
      · rw [show m.testBit (Nat.succ r) = true from c3, if_neg (fun h => h.2.2 rfl)]
        rfl
      · have c3' : m.testBit (Nat.succ r) = false := Bool.eq_false_iff.2 c3
        rw [c3', if_pos ⟨c1, by decide, by decide⟩]
        rfl
  · rw [show Nat.ble (Nat.succ r) p = false from Bool.eq_false_iff.2 (fun h => c1 (Nat.le_of_ble_eq_true h)), if_neg (fun h => c1 h.1)]
    rfl
theorem cntP_succ (N p m used : Nat) : cntP N (p + 1) m used = if m.testBit 0 = true then cntP N p (m >>> 1) used else cntS (cntP N p) p m used N := by
  show cond (Nat.beq (Nat.land 1 (Nat.shiftRight m 0)) 0) (cntS (cntP N p) p m used N) (cntP N p (Nat.shiftRight m 1) used) = _
  rw [bit_beq]
  cases m.testBit 0 <;> rfl
theorem one_shl (n : Nat) : 1 <<< n = 2 ^ n := by rw [Nat.shiftLeft_eq, Nat.one_mul]
theorem cnt_bound (N : Nat) : ∀ (p k : Nat) (row : List Int) (used m a : Nat), row.length = a + p → (∀ j : Nat, j < a → rd row (j : Int) ≠ 0) → (∀ i : Nat, i < p → (rd row ((a + i : Nat) : Int) ≠ 0 ↔ m.testBit i = true)) → (seen 1 N 0 (-1) k row used).length ≤ cntP N p m used
  | p, 0, row, used, m, a, _, _, _ => by simp [seen]
  | 0, k + 1, row, used, m, a, hl, h1, _ => by
    have hz : firstZero (-1) row 0 = none := by
      cases hz : firstZero (-1) row 0 with
      | none => rfl
      | some at_ =>
        obtain ⟨_, h2, h3, _⟩ := firstZero_at (-1) row 0 at_ hz
        rw [Nat.sub_zero, ← rd_nat] at h3
        exact absurd h3 (h1 at_ (by omega))
    rw [seen, hz]
    exact Nat.le_refl 1
  | p + 1, k + 1, row, used, m, a, hl, h1, h2 => by
    rw [cntP_succ]
    have h20 := h2 0 (by omega)
    rw [Nat.add_zero] at h20
    by_cases c : m.testBit 0 = true
    · rw [if_pos c]
      refine cnt_bound N p (k + 1) row used (m >>> 1) (a + 1) (by omega) (fun j hj => ?_) (fun i hi => ?_)
      · by_cases e : j = a
        · rw [e]
          exact h20.2 c
        · exact h1 j (by omega)
      · rw [Nat.testBit_shiftRight, show a + 1 + i = a + (1 + i) by omega]
        exact h2 (1 + i) (by omega)
    · rw [if_neg c]
      have h0 : rd row (a : Int) = 0 := Decidable.not_not.1 fun g => c (h20.1 g)
      have hz : firstZero (-1) row 0 = some a := by
        refine firstZero_is (-1) row a (by omega) ?_ (by omega) (fun j hj => ?_)
        · rw [← rd_nat]; exact h0
        · intro g
          rw [← rd_nat] at g
          exact h1 j hj g.1
      rw [seen, hz]
      show (seenL 0 (-1) (seen 1 N 0 (-1) k) row used a (N + 1 - 1) 1).length ≤ _
      have key : ∀ (r n : Nat), 1 ≤ n → n + r = N + 1 → (seenL 0 (-1) (seen 1 N 0 (-1) k) row used a r n).length + cntS (cntP N p) p m used (n - 1) ≤ cntS (cntP N p) p m used N := by
        intro r
        induction r with
        | zero =>
          intro n hn hnr
          rw [seenL, show n - 1 = N by omega]
          simp
        | succ r ih =>
          intro n hn hnr
          have ih1 := ih (n + 1) (by omega) (by omega)
          have hs := cntS_succ (cntP N p) p m used (n - 1)
          rw [show n - 1 + 1 = n by omega] at hs
          rw [show n + 1 - 1 = n by omega, hs] at ih1
          rw [seenL]
          by_cases g : used.testBit n = true ∨ ¬ a + n + 0 < row.length ∨ ((a + n + 0 : Nat) : Int) = -1 ∨ ¬ rd row ((a + n + 0 : Nat) : Int) = 0
          · rw [if_pos g]
            omega
          · have g1 : ¬ used.testBit n = true := fun z => g (.inl z)
            have g2 : a + n < row.length := Decidable.not_not.1 fun z => g (.inr (.inl z))
            have g3 : rd row ((a + n : Nat) : Int) = 0 := Decidable.not_not.1 fun z => g (.inr (.inr (.inr z)))
            rw [if_neg g, List.length_append, Nat.add_zero]
            have g4 : ¬ m.testBit n = true := fun z => (h2 n (by omega)).2 z g3
            have ht : term (cntP N p) p m used (n - 1) = cntP N p ((m >>> 1) ||| (1 <<< (n - 1))) (used ||| 2 ^ n) := by
              unfold term
              rw [show n - 1 + 1 = n by omega, if_pos ⟨by omega, g1, g4⟩, one_shl n]
            have hb := cnt_bound N p k ((row.set a (n : Int)).set (a + n) (n : Int)) (used ||| 2 ^ n) ((m >>> 1) ||| (1 <<< (n - 1))) (a + 1) (by simp; omega) (fun j hj => ?_) (fun i hi => ?_)
            · omega
            · rw [rd_set _ _ _ _ (by simpa using g2), rd_set _ _ _ _ (by omega)]
              split
              · omega
              · split
                · omega
                · exact h1 j (by omega)
            · rw [rd_set _ _ _ _ (by simpa using g2), rd_set _ _ _ _ (by omega), Nat.testBit_or, Nat.testBit_shiftRight, one_shl, Nat.testBit_two_pow, Bool.or_eq_true, decide_eq_true_eq]
              by_cases e : a + n = a + 1 + i
              · rw [if_pos e]
                exact ⟨fun _ => .inr (by omega), fun _ => by omega⟩
              · rw [if_neg e, if_neg (by omega), show a + 1 + i = a + (1 + i) by omega, h2 (1 + i) (by omega)]
                constructor
                · intro z
                  exact .inl z
                · rintro (z | z)
                  · exact z
                  · omega
      have hk := key N 1 (Nat.le_refl _) (by omega)
      rw [show N + 1 - 1 = N by omega]
      omega
  termination_by p k => p
theorem cnt_all : (Nat.ble (cntP 1 2 0 0) 5000 && (Nat.ble (cntP 2 4 0 0) 5000 && (Nat.ble (cntP 3 6 0 0) 5000 && (Nat.ble (cntP 4 8 0 0) 5000 && (Nat.ble (cntP 5 10 0 0) 5000 && (Nat.ble (cntP 6 12 0 0) 5000 && (Nat.ble (cntP 7 14 0 0) 5000 && (Nat.ble (cntP 8 16 0 0) 5000 && Nat.ble (cntP 9 18 0 0) 5000)))))))) = true := by kernel_rfl
theorem found_5000 (n : Nat) (h1 : 1 ≤ n) (h2 : n ≤ 9) : (found 1 n 0 (-1)).length ≤ 5000 := by
  have hp : placesOf 1 n (-1) = 2 * n := by unfold placesOf; rw [if_neg (by omega)]; omega
  have hb := cnt_bound n (2 * n) 40 (List.replicate (2 * n) 0) 0 0 0 (by simp) (fun j hj => by omega) (fun i hi => by rw [rd_zeros]; simp)
  have hc : cntP n (2 * n) 0 0 ≤ 5000 := by
    have ha := cnt_all
    simp only [Bool.and_eq_true, Nat.ble_eq] at ha
    have h : n = 1 ∨ n = 2 ∨ n = 3 ∨ n = 4 ∨ n = 5 ∨ n = 6 ∨ n = 7 ∨ n = 8 ∨ n = 9 := by omega
    rcases h with rfl | rfl | rfl | rfl | rfl | rfl | rfl | rfl | rfl
    · exact ha.1
    · exact ha.2.1
    · exact ha.2.2.1
    · exact ha.2.2.2.1
    · exact ha.2.2.2.2.1
    · exact ha.2.2.2.2.2.1
    · exact ha.2.2.2.2.2.2.1
    · exact ha.2.2.2.2.2.2.2.1
    · exact ha.2.2.2.2.2.2.2.2
  unfold found
  rw [hp]
  omega
/-! ### The order -/
theorem cmpL_self : ∀ x : List Int, cmpL x x = 0
  | [] => rfl
  | a :: x => by rw [cmpL, if_neg (by omega), if_neg (by omega), cmpL_self x]
theorem cmpL_swap : ∀ x y : List Int, cmpL y x = - cmpL x y
  | [], [] => rfl
  | [], _ :: _ => rfl
  | _ :: _, [] => rfl
  | a :: x, b :: y => by
    rw [cmpL, cmpL]
    by_cases c : a < b
    · rw [if_pos c, if_neg (by omega), if_pos c]
      rfl
    · by_cases d : b < a
      · rw [if_pos d, if_neg c, if_pos d]
      · rw [if_neg c, if_neg d, if_neg d, if_neg c, cmpL_swap x y]
theorem cmpL_eq : ∀ x y : List Int, cmpL x y = 0 → x = y
  | [], [], _ => rfl
  | [], _ :: _, h => by simp [cmpL] at h
  | _ :: _, [], h => by simp [cmpL] at h
  | a :: x, b :: y, h => by
    rw [cmpL] at h
    split at h
    · cases h
    · split at h
      · cases h
      · rw [show a = b by omega, cmpL_eq x y h]
theorem cmp_prefix : ∀ (p : Nat) (x y : List Int), p < x.length → p < y.length → (∀ j : Nat, j < p → rd x (j : Int) = rd y (j : Int)) → rd x (p : Int) < rd y (p : Int) → cmpL x y < 0
  | p, [], y, h, _, _, _ => by simp at h
  | p, _ :: _, [], _, h, _, _ => by simp at h
  | 0, a :: x, b :: y, _, _, _, h => by
    have h' : a < b := h
    rw [cmpL, if_pos h']
    decide
  | p + 1, a :: x, b :: y, h1, h2, h3, h4 => by
    have h0 : a = b := h3 0 (by omega)
    rw [cmpL, if_neg (by omega), if_neg (by omega)]
    refine cmp_prefix p x y (by simpa using h1) (by simpa using h2) (fun j hj => ?_) ?_
    · have := h3 (j + 1) (by omega)
      simpa [rd] using this
    · simpa [rd] using h4
theorem seenL_at (fr to_ sh k : Nat) (hf : 1 ≤ fr) (row : List Int) (used a : Nat) (hlt : ∀ j : Nat, j < a → rd row (j : Int) ≠ 0) : ∀ (r n : Nat), fr ≤ n → ∀ y, y ∈ seenL sh (-1) (seen fr to_ sh (-1) k) row used a r n → (n : Int) ≤ rd y (a : Int) ∧ (∀ j : Nat, j < a → rd y (j : Int) = rd row (j : Int)) ∧ a < row.length ∧ y.length = row.length
  | 0, n, hn, y, hy => by simp [seenL] at hy
  | r + 1, n, hn, y, hy => by
    rw [seenL] at hy
    by_cases g : used.testBit n = true ∨ ¬ a + n + sh < row.length ∨ ((a + n + sh : Nat) : Int) = -1 ∨ ¬ rd row ((a + n + sh : Nat) : Int) = 0
    · rw [if_pos g] at hy
      have := seenL_at fr to_ sh k hf row used a hlt r (n + 1) (by omega) y hy
      exact ⟨by omega, this.2⟩
    · rw [if_neg g, List.mem_append] at hy
      have g2 : a + n + sh < row.length := Decidable.not_not.1 fun z => g (.inr (.inl z))
      rcases hy with hy | hy
      · have hk := fun j => (seen_keep fr to_ sh hf k _ _ y hy j).1
        have hs : ∀ j : Nat, rd ((row.set a (n : Int)).set (a + n + sh) (n : Int)) (j : Int) = if a + n + sh = j then (n : Int) else if a = j then (n : Int) else rd row (j : Int) := fun j => by
          rw [rd_set _ _ _ _ (by simpa using g2), rd_set _ _ _ _ (by omega)]
        refine ⟨?_, fun j hj => ?_, by omega, ?_⟩
        · have := hk a
          rw [hs a, if_neg (by omega), if_pos rfl] at this
          rw [this (by omega)]
          exact Int.le_refl _
        · have := hk j
          rw [hs j, if_neg (by omega), if_neg (by omega)] at this
          exact this (hlt j hj)
        · have := seen_row fr to_ sh (-1) k _ _ y hy
          simpa using this
      · have := seenL_at fr to_ sh k hf row used a hlt r (n + 1) (by omega) y hy
        exact ⟨by omega, this.2⟩
theorem seen_sorted (fr to_ sh : Nat) (hf : 1 ≤ fr) : ∀ (k : Nat) (row : List Int) (used : Nat), (seen fr to_ sh (-1) k row used).Pairwise (fun x y => cmpL x y < 0)
  | 0, row, used => by simp [seen]
  | k + 1, row, used => by
    rw [seen]
    cases hz : firstZero (-1) row 0 with
    | none => simp
    | some a =>
      obtain ⟨_, h2, h3, h4⟩ := firstZero_at (-1) row 0 a hz
      have hlt : ∀ j : Nat, j < a → rd row (j : Int) ≠ 0 := fun j hj g => by
        have := h4 j (by omega) hj
        rw [Nat.sub_zero, ← rd_nat] at this
        exact this ⟨g, by omega⟩
      show (seenL sh (-1) (seen fr to_ sh (-1) k) row used a (to_ + 1 - fr) fr).Pairwise _
      have key : ∀ (r n : Nat), fr ≤ n → (seenL sh (-1) (seen fr to_ sh (-1) k) row used a r n).Pairwise (fun x y => cmpL x y < 0) := by
        intro r
        induction r with
        | zero =>
          intro n hn
          simp [seenL]
        | succ r ih =>
          intro n hn
          rw [seenL]
          by_cases g : used.testBit n = true ∨ ¬ a + n + sh < row.length ∨ ((a + n + sh : Nat) : Int) = -1 ∨ ¬ rd row ((a + n + sh : Nat) : Int) = 0
          · rw [if_pos g]
            exact ih (n + 1) (by omega)
          · have g2 : a + n + sh < row.length := Decidable.not_not.1 fun z => g (.inr (.inl z))
            rw [if_neg g, List.pairwise_append]
            refine ⟨seen_sorted fr to_ sh hf k _ _, ih (n + 1) (by omega), fun x hx y hy => ?_⟩
            have hyf := seenL_at fr to_ sh k hf row used a hlt r (n + 1) (by omega) y hy
            have hk := fun j => (seen_keep fr to_ sh hf k _ _ x hx j).1
            have hs : ∀ j : Nat, rd ((row.set a (n : Int)).set (a + n + sh) (n : Int)) (j : Int) = if a + n + sh = j then (n : Int) else if a = j then (n : Int) else rd row (j : Int) := fun j => by
              rw [rd_set _ _ _ _ (by simpa using g2), rd_set _ _ _ _ (by omega)]
            have hxl : x.length = row.length := by simpa using seen_row fr to_ sh (-1) k _ _ x hx
            refine cmp_prefix a x y (by omega) (by omega) (fun j hj => ?_) ?_
            · have := hk j
              rw [hs j, if_neg (by omega), if_neg (by omega)] at this
              rw [this (hlt j hj), hyf.2.1 j hj]
            · have := hk a
              rw [hs a, if_neg (by omega), if_pos rfl] at this
              rw [this (by omega)]
              omega
      exact key _ _ (Nat.le_refl _)
theorem found_sorted (fr to_ sh : Nat) (hf : 1 ≤ fr) : (found fr to_ sh (-1)).Pairwise (fun x y => cmpL x y < 0) := seen_sorted fr to_ sh hf _ _ _
/-- The reference's walk through the rows: how many come before, and the next one. -/
def placeV (row : List Int) : List (List Int) → Int → Int × List Int
  | [], n => (n, [])
  | x :: t, n => if x = row then placeV row t n else if cmpL row x < 0 then (n, x) else placeV row t (wrap64 (n + 1))
theorem next_place (row : List Int) : ∀ (l : List (List Int)) (n : Int), (runS (nstep row) l []).1 = (placeV row l n).2
  | [], n => rfl
  | x :: t, n => by
    have hs := cmpL_swap x row
    rw [runS, placeV]
    by_cases c : cmpL x row ≤ 0
    · have e : nstep row [] x = ([], false) := by unfold nstep; rw [if_pos c]
      rw [e, if_neg (by simp)]
      show (runS (nstep row) t []).1 = _
      by_cases d : x = row
      · rw [if_pos d]
        exact next_place row t n
      · rw [if_neg d, if_neg (by omega)]
        exact next_place row t _
    · have e : nstep row [] x = (x, true) := by unfold nstep; rw [if_neg c]
      have d : x ≠ row := fun z => by rw [z, cmpL_self] at c; exact c (by omega)
      rw [e, if_pos rfl, if_neg d, if_pos (by omega)]
theorem place_above (row : List Int) (n : Int) : ∀ (l : List (List Int)), (∀ y ∈ l, cmpL row y < 0) → (placeV row l n).1 = n
  | [], _ => rfl
  | y :: t, h => by
    have hy := h y List.mem_cons_self
    have d : y ≠ row := fun z => by rw [z, cmpL_self] at hy; omega
    rw [placeV, if_neg d, if_pos hy]
theorem rank_place (row : List Int) : ∀ (l : List (List Int)) (n : Int), l.Pairwise (fun x y => cmpL x y < 0) → (runS (rstep row) l n).1 = (placeV row l n).1
  | [], n, _ => rfl
  | x :: t, n, h => by
    have hp := List.pairwise_cons.1 h
    have hs := cmpL_swap x row
    rw [runS, placeV]
    by_cases c : cmpL x row ≥ 0
    · have e : rstep row n x = (n, true) := by unfold rstep; rw [if_pos c]
      rw [e, if_pos rfl]
      show n = _
      by_cases d : x = row
      · rw [if_pos d]
        exact (place_above row n t (fun y hy => by have := hp.1 y hy; rwa [d] at this)).symm
      · rw [if_neg d, if_pos (by have : cmpL x row ≠ 0 := fun z => d (cmpL_eq _ _ z); omega)]
    · have e : rstep row n x = (wrap64 (n + 1), false) := by unfold rstep; rw [if_neg c]
      have d : x ≠ row := fun z => by rw [z, cmpL_self] at c; exact c (by omega)
      rw [e, if_neg (by simp), if_neg d, if_neg (by omega)]
      exact rank_place row t _ hp.2
theorem next_mem (row : List Int) : ∀ (l : List (List Int)) (n : Int), (placeV row l n).2 = [] ∨ (placeV row l n).2 ∈ l
  | [], n => .inl rfl
  | x :: t, n => by
    rw [placeV]
    split
    · exact (next_mem row t n).imp id (List.mem_cons_of_mem _)
    · split
      · exact .inr List.mem_cons_self
      · exact (next_mem row t _).imp id (List.mem_cons_of_mem _)
end Go.Proofs.Ytkffdloophagaaa.Search
