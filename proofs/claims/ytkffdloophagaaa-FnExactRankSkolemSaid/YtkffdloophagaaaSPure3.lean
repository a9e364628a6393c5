/- The rows that bear a pair at told places: found by a search that begins with the pair. Conditions: none but those that each lemma states. -/
import Derived.Test.YtkffdloophagaaaSPure2
namespace Go.Proofs.Ytkffdloophagaaa.Search
open Go.RowKit Go.Proofs.YtkffdloophagaaaW.PrintWords
set_option linter.unusedVariables false
set_option linter.unusedSimpArgs false
theorem rd_nat (xs : List Int) (j : Nat) : rd xs (j : Int) = xs.getD j 0 := by simp [rd]
theorem rd_set (xs : List Int) (a : Nat) (v : Int) (j : Nat) (ha : a < xs.length) : rd (xs.set a v) (j : Int) = if a = j then v else rd xs (j : Int) := by
  rw [rd_nat, rd_nat, List.getD_eq_getElem?_getD, List.getD_eq_getElem?_getD, List.getElem?_set]
  by_cases c : a = j
  · subst c; rw [if_pos rfl, if_pos ha, if_pos rfl]; rfl
  · rw [if_neg c, if_neg c]
theorem firstZero_at (hole : Int) : ∀ (row : List Int) (i a : Nat), firstZero hole row i = some a → i ≤ a ∧ a < i + row.length ∧ row.getD (a - i) 0 = 0 ∧ ∀ j, i ≤ j → j < a → ¬ (row.getD (j - i) 0 = 0 ∧ ¬ (j : Int) = hole)
  | [], i, a, h => by simp [firstZero] at h
  | x :: t, i, a, h => by
    rw [firstZero] at h
    split at h
    · rename_i c
      obtain ⟨h1, h2, h3, h4⟩ := firstZero_at hole t (i + 1) a h
      refine ⟨by omega, by simp only [List.length_cons]; omega, ?_, fun j hj hja => ?_⟩
      · rw [show a - i = (a - (i + 1)) + 1 by omega]; simpa using h3
      · by_cases e : j = i
        · subst e
          rw [Nat.sub_self]
          rintro ⟨g1, g2⟩
          rcases c with c | c
          · exact c (by simpa using g1)
          · exact g2 c
        · have := h4 j (by omega) hja
          rw [show j - i = (j - (i + 1)) + 1 by omega]
          simpa using this
    · rename_i c
      injection h with h
      subst h
      refine ⟨Nat.le_refl _, by simp only [List.length_cons]; omega, ?_, fun j hj hja => by omega⟩
      rw [Nat.sub_self]
      have : x = 0 := Decidable.not_not.1 fun g => c (.inl g)
      simp [this]
theorem firstZero_none (hole : Int) : ∀ (row : List Int) (i : Nat), firstZero hole row i = none → ∀ j, i ≤ j → j < i + row.length → ¬ (row.getD (j - i) 0 = 0 ∧ ¬ (j : Int) = hole)
  | [], i, h, j, h1, h2 => by simp only [List.length_nil] at h2; omega
  | x :: t, i, h, j, h1, h2 => by
    rw [firstZero] at h
    split at h
    · rename_i c
      by_cases e : j = i
      · subst e
        rw [Nat.sub_self]
        rintro ⟨g1, g2⟩
        rcases c with c | c
        · exact c (by simpa using g1)
        · exact g2 c
      · have := firstZero_none hole t (i + 1) h j (by omega) (by simp only [List.length_cons] at h2; omega)
        rw [show j - i = (j - (i + 1)) + 1 by omega]
        simpa using this
    · cases h
theorem firstZero_is (hole : Int) (row : List Int) (a : Nat) (ha : a < row.length) (h0 : row.getD a 0 = 0) (hh : ¬ (a : Int) = hole) (hb : ∀ j, j < a → ¬ (row.getD j 0 = 0 ∧ ¬ (j : Int) = hole)) : firstZero hole row 0 = some a := by
  cases hz : firstZero hole row 0 with
  | none =>
    have t := firstZero_none hole row 0 hz a (by omega) (by omega)
    rw [Nat.sub_zero] at t
    exact absurd ⟨h0, hh⟩ t
  | some b =>
    obtain ⟨_, h2, h3, h4⟩ := firstZero_at hole row 0 b hz
    rcases Nat.lt_trichotomy a b with c | c | c
    · have t := h4 a (by omega) c
      rw [Nat.sub_zero] at t
      exact absurd ⟨h0, hh⟩ t
    · rw [c]
    · have h5 := hb b c
      rw [Nat.sub_zero] at h3
      exfalso
      by_cases e : (b : Int) = hole
      · have hz' : ∀ (row : List Int) (i b : Nat), firstZero hole row i = some b → ¬ (b : Int) = hole := by
          intro row
          induction row with
          | nil => intro i b h; simp [firstZero] at h
          | cons x t ih =>
            intro i b h
            rw [firstZero] at h
            split at h
            · exact ih _ _ h
            · rename_i c
              injection h with h
              subst h
              exact fun g => c (.inr g)
        exact hz' _ _ _ hz e
      · exact h5 ⟨h3, e⟩
/-- The numbers that stand already stay; a number that is used up is set nowhere. -/
theorem seen_keep (fr to_ sh : Nat) (hf : 1 ≤ fr) : ∀ (k : Nat) (row : List Int) (used : Nat) (x : List Int), x ∈ seen fr to_ sh (-1) k row used → ∀ (j : Nat), (rd row (j : Int) ≠ 0 → rd x (j : Int) = rd row (j : Int)) ∧ ∀ m : Nat, used.testBit m = true → 1 ≤ m → rd x (j : Int) = (m : Int) → rd row (j : Int) = (m : Int)
  | 0, row, used, x, h => by simp [seen] at h
  | k + 1, row, used, x, h => by
    rw [seen] at h
    cases hz : firstZero (-1) row 0 with
    | none => rw [hz] at h; simp at h; subst h; exact fun j => ⟨fun _ => rfl, fun _ _ _ h => h⟩
    | some at_ =>
      rw [hz] at h
      obtain ⟨_, h2, h3, _⟩ := firstZero_at (-1) row 0 at_ hz
      rw [Nat.sub_zero] at h3
      have key : ∀ (r n : Nat), 1 ≤ n → x ∈ seenL sh (-1) (seen fr to_ sh (-1) k) row used at_ r n → ∀ (j : Nat), (rd row (j : Int) ≠ 0 → rd x (j : Int) = rd row (j : Int)) ∧ ∀ m : Nat, used.testBit m = true → 1 ≤ m → rd x (j : Int) = (m : Int) → rd row (j : Int) = (m : Int) := by
        intro r
        induction r with
        | zero => intro n hn h; simp [seenL] at h
        | succ r ih =>
          intro n hn h
          rw [seenL] at h
          split at h
          · exact ih (n + 1) (by omega) h
          · rename_i c
            rcases List.mem_append.1 h with h | h
            · have hl : at_ + n + sh < row.length := Decidable.not_not.1 fun g => c (.inr (.inl g))
              have ho : rd row ((at_ + n + sh : Nat) : Int) = 0 := Decidable.not_not.1 fun g => c (.inr (.inr (.inr g)))
              have hb : ¬ used.testBit n = true := fun g => c (.inl g)
              intro j
              obtain ⟨i1, i2⟩ := seen_keep fr to_ sh hf k _ _ x h j
              rw [rd_set _ _ _ _ (by simpa using hl), rd_set _ _ _ _ (by omega)] at i1 i2
              have ha : rd row (at_ : Int) = 0 := by rw [rd_nat]; exact h3
              constructor
              · intro hj
                have n1 : at_ ≠ j := fun e => hj (by rw [← e]; exact ha)
                have n2 : at_ + n + sh ≠ j := fun e => hj (by rw [← e]; exact ho)
                rw [if_neg n2, if_neg n1] at i1
                exact i1 hj
              · intro m hm h1m hx
                have hnm : n ≠ m := fun e => hb (by rw [e]; exact hm)
                have i3 := i2 m (by rw [Nat.testBit_or, hm]; rfl) h1m hx
                split at i3
                · exact absurd (by exact_mod_cast i3) hnm
                · split at i3
                  · exact absurd (by exact_mod_cast i3) hnm
                  · exact i3
            · exact ih (n + 1) (by omega) h
      exact key _ _ hf h
theorem seenL_congr (sh : Nat) (hole : Int) (r1 r2 : List Int → Nat → List (List Int)) (row : List Int) (used at_ : Nat) : ∀ (r n : Nat), (∀ i, n ≤ i → i < n + r → ¬ used.testBit i = true → r1 ((row.set at_ (i : Int)).set (at_ + i + sh) (i : Int)) (used ||| 2 ^ i) = r2 ((row.set at_ (i : Int)).set (at_ + i + sh) (i : Int)) (used ||| 2 ^ i)) → seenL sh hole r1 row used at_ r n = seenL sh hole r2 row used at_ r n
  | 0, n, h => rfl
  | r + 1, n, h => by
    have ih := seenL_congr sh hole r1 r2 row used at_ r (n + 1) (fun i h1 h2 h3 => h i (by omega) (by omega) h3)
    rw [seenL, seenL, ih]
    by_cases c : used.testBit n = true ∨ ¬ at_ + n + sh < row.length ∨ ((at_ + n + sh : Nat) : Int) = hole ∨ ¬ rd row ((at_ + n + sh : Nat) : Int) = 0
    · rw [if_pos c, if_pos c]
    · rw [if_neg c, if_neg c, h n (Nat.le_refl _) (by omega) (fun g => c (.inl g))]
/-- Rounds to spare change nothing. -/
theorem seen_fuel (fr to_ sh : Nat) (hole : Int) (hf : 1 ≤ fr) : ∀ (k k' : Nat) (row : List Int) (used : Nat), nz (leftOf used (to_ + 1 - fr) fr) < k → nz (leftOf used (to_ + 1 - fr) fr) < k' → seen fr to_ sh hole k row used = seen fr to_ sh hole k' row used
  | 0, k', row, used, h, h' => absurd h (by omega)
  | k + 1, 0, row, used, h, h' => absurd h' (by omega)
  | k + 1, k' + 1, row, used, h, h' => by
    rw [seen, seen]
    cases firstZero hole row 0 with
    | none => rfl
    | some at_ =>
      refine seenL_congr sh hole _ _ row used at_ _ _ (fun i h1 h2 h3 => ?_)
      have hz := nz_set (leftOf used (to_ + 1 - fr) fr) (i - fr) ((i : Nat) : Int) (by rw [leftOf_get used _ fr (i - fr) (by omega), show fr + (i - fr) = i by omega, if_neg h3]) (by omega)
      rw [leftOf_set used _ fr (i - fr) (by omega), show fr + (i - fr) = i by omega] at hz
      exact seen_fuel fr to_ sh hole hf k k' _ _ (by omega) (by omega)
/-- Whether a row has a number at both places. -/
def bears (m : Nat) (p q : Nat) (x : List Int) : Bool := rd x (p : Int) == (m : Int) && rd x (q : Int) == (m : Int)
theorem bears_iff (m p q : Nat) (x : List Int) : bears m p q x = true ↔ rd x (p : Int) = (m : Int) ∧ rd x (q : Int) = (m : Int) := by simp [bears]
theorem filter_none {α : Type} (f : α → Bool) (l : List α) (h : ∀ x ∈ l, f x = false) : l.filter f = [] := by
  rw [List.filter_eq_nil_iff]
  intro x hx
  rw [h x hx]
  simp
theorem filter_all {α : Type} (f : α → Bool) (l : List α) (h : ∀ x ∈ l, f x = true) : l.filter f = l := List.filter_eq_self.2 h
/-- At the pair's own first place: one number alone leads on. -/
theorem at_pair (fr to_ sh k m p q : Nat) (hf : 1 ≤ fr) (row : List Int) (used : Nat) (hq : q = p + m + sh) (hql : q < row.length) (hp0 : rd row (p : Int) = 0) (hq0 : rd row (q : Int) = 0) (hb : ¬ used.testBit m = true) :
    ∀ (r n : Nat), 1 ≤ n → (seenL sh (-1) (seen fr to_ sh (-1) k) row used p r n).filter (bears m p q) = if n ≤ m ∧ m < n + r then seen fr to_ sh (-1) k ((row.set p (m : Int)).set q (m : Int)) (used ||| 2 ^ m) else []
  | 0, n, hn => by
    rw [seenL, if_neg (by omega)]
    rfl
  | r + 1, n, hn => by
    have ih := at_pair fr to_ sh k m p q hf row used hq hql hp0 hq0 hb r (n + 1) (by omega)
    rw [seenL]
    by_cases e : n = m
    · subst e
      rw [if_neg (by rintro (g | g | g | g); exact hb g; omega; omega; exact g (by rw [← hq]; exact hq0)), List.filter_append, ih, if_neg (by omega), if_pos (by omega), List.append_nil, ← hq]
      refine filter_all _ _ (fun x hx => ?_)
      rw [bears_iff]
      have hk := seen_keep fr to_ sh hf k _ _ x hx
      constructor
      · have h1 := (hk p).1
        rw [rd_set _ _ _ _ (by simpa using hql), rd_set _ _ _ _ (by omega), if_neg (by omega), if_pos rfl] at h1
        exact h1 (by omega)
      · have h1 := (hk q).1
        rw [rd_set _ _ _ _ (by simpa using hql), if_pos rfl] at h1
        exact h1 (by omega)
    · have hc : (if n ≤ m ∧ m < n + (r + 1) then seen fr to_ sh (-1) k ((row.set p (m : Int)).set q (m : Int)) (used ||| 2 ^ m) else []) = (if n + 1 ≤ m ∧ m < n + 1 + r then seen fr to_ sh (-1) k ((row.set p (m : Int)).set q (m : Int)) (used ||| 2 ^ m) else []) := by
        by_cases c : n + 1 ≤ m ∧ m < n + 1 + r
        · rw [if_pos c, if_pos (by omega)]
        · rw [if_neg c, if_neg (by omega)]
      rw [hc, ← ih]
      split
      · rfl
      · rename_i c
        have hl : p + n + sh < row.length := Decidable.not_not.1 fun g => c (.inr (.inl g))
        rw [List.filter_append]
        rw [filter_none _ _ (fun x hx => ?_), List.nil_append]
        have h1 := (seen_keep fr to_ sh hf k _ _ x hx p).1
        rw [rd_set _ _ _ _ (by simpa using hl), rd_set _ _ _ _ (by omega), if_neg (by omega), if_pos rfl] at h1
        have h2 := h1 (by omega)
        rw [Bool.eq_false_iff]
        intro g
        rw [bears_iff] at g
        omega
theorem or_swap (a b c : Nat) : (a ||| b) ||| c = (a ||| c) ||| b := by
  apply Nat.eq_of_testBit_eq
  intro i
  simp only [Nat.testBit_or]
  cases a.testBit i <;> cases b.testBit i <;> cases c.testBit i <;> rfl
theorem pair_search (fr to_ sh m p q : Nat) (hf : 1 ≤ fr) (hm : fr ≤ m ∧ m ≤ to_) (hpq : q = p + m + sh) : ∀ (k : Nat) (row : List Int) (used : Nat), nz (leftOf used (to_ + 1 - fr) fr) < k → q < row.length → rd row (p : Int) = 0 → rd row (q : Int) = 0 → ¬ used.testBit m = true → (∀ j : Nat, ¬ rd row (j : Int) = (m : Int)) →
    (seen fr to_ sh (-1) k row used).filter (bears m p q) = seen fr to_ sh (-1) k ((row.set p (m : Int)).set q (m : Int)) (used ||| 2 ^ m)
  | 0, row, used, h, _, _, _, _, _ => absurd h (by omega)
  | k + 1, row, used, hk, hq, hp0, hq0, hb, hno => by
    have hz1 := nz_set (leftOf used (to_ + 1 - fr) fr) (m - fr) ((m : Nat) : Int) (by rw [leftOf_get used _ fr (m - fr) (by omega), show fr + (m - fr) = m by omega, if_neg hb]) (by omega)
    rw [leftOf_set used _ fr (m - fr) (by omega), show fr + (m - fr) = m by omega] at hz1
    cases hz : firstZero (-1) row 0 with
    | none =>
      have t := firstZero_none (-1) row 0 hz p (by omega) (by omega)
      rw [Nat.sub_zero, ← rd_nat] at t
      exact absurd ⟨hp0, by omega⟩ t
    | some at_ =>
      obtain ⟨_, h2, h3, h4⟩ := firstZero_at (-1) row 0 at_ hz
      rw [Nat.sub_zero, ← rd_nat] at h3
      by_cases e : at_ = p
      · subst e
        rw [show seen fr to_ sh (-1) (k + 1) row used = seenL sh (-1) (seen fr to_ sh (-1) k) row used at_ (to_ + 1 - fr) fr by rw [seen, hz]]
        rw [at_pair fr to_ sh k m at_ q hf row used hpq hq hp0 hq0 hb _ fr hf, if_pos (by omega)]
        exact seen_fuel fr to_ sh (-1) hf k (k + 1) _ _ (by omega) (by omega)
      · have hlt : at_ < p := by
          rcases Nat.lt_or_ge at_ p with g | g
          · exact g
          · have t := h4 p (by omega) (by omega)
            rw [Nat.sub_zero, ← rd_nat] at t
            exact absurd ⟨hp0, by omega⟩ t
        have hz2 : firstZero (-1) ((row.set p (m : Int)).set q (m : Int)) 0 = some at_ := by
          refine firstZero_is (-1) _ at_ (by simp; omega) ?_ (by omega) (fun j hj => ?_)
          · rw [← rd_nat, rd_set _ _ _ _ (by simpa using hq), rd_set _ _ _ _ (by omega), if_neg (by omega), if_neg (by omega)]; exact h3
          · rw [← rd_nat, rd_set _ _ _ _ (by simpa using hq), rd_set _ _ _ _ (by omega), if_neg (by omega), if_neg (by omega), rd_nat]
            have := h4 j (by omega) hj
            rwa [Nat.sub_zero] at this
        rw [show seen fr to_ sh (-1) (k + 1) row used = seenL sh (-1) (seen fr to_ sh (-1) k) row used at_ (to_ + 1 - fr) fr by rw [seen, hz], show seen fr to_ sh (-1) (k + 1) ((row.set p (m : Int)).set q (m : Int)) (used ||| 2 ^ m) = seenL sh (-1) (seen fr to_ sh (-1) k) ((row.set p (m : Int)).set q (m : Int)) (used ||| 2 ^ m) at_ (to_ + 1 - fr) fr by rw [seen, hz2]]
        have key : ∀ (r n : Nat), fr ≤ n → n + r ≤ to_ + 1 → (seenL sh (-1) (seen fr to_ sh (-1) k) row used at_ r n).filter (bears m p q) = seenL sh (-1) (seen fr to_ sh (-1) k) ((row.set p (m : Int)).set q (m : Int)) (used ||| 2 ^ m) at_ r n := by
          intro r
          induction r with
          | zero => intro n _ _; rfl
          | succ r ih =>
            intro n hn hnr
            have ih1 := ih (n + 1) (by omega) (by omega)
            rw [seenL, seenL]
            have hlen : ((row.set p (m : Int)).set q (m : Int)).length = row.length := by simp
            by_cases c : used.testBit n = true ∨ ¬ at_ + n + sh < row.length ∨ ((at_ + n + sh : Nat) : Int) = -1 ∨ ¬ rd row ((at_ + n + sh : Nat) : Int) = 0
            · rw [if_pos c, if_pos, ih1]
              rcases c with c | c | c | c
              · left; rw [Nat.testBit_or, c]; rfl
              · right; left; rw [hlen]; exact c
              · right; right; left; exact c
              · right; right; right
                have n1 : p ≠ at_ + n + sh := fun g => c (by rw [← g]; exact hp0)
                have n2 : q ≠ at_ + n + sh := fun g => c (by rw [← g]; exact hq0)
                rw [rd_set _ _ _ _ (by simpa using hq), rd_set _ _ _ _ (by omega), if_neg n2, if_neg n1]
                exact c
            · have cb : ¬ used.testBit n = true := fun g => c (.inl g)
              have cl : at_ + n + sh < row.length := Decidable.not_not.1 fun g => c (.inr (.inl g))
              have c0 : rd row ((at_ + n + sh : Nat) : Int) = 0 := Decidable.not_not.1 fun g => c (.inr (.inr (.inr g)))
              rw [if_neg c, List.filter_append, ih1]
              by_cases en : n = m
              · subst en
                rw [if_pos (.inl (by rw [Nat.testBit_or, Nat.testBit_two_pow_self]; simp))]
                rw [filter_none _ _ (fun x hx => ?_), List.nil_append]
                rw [Bool.eq_false_iff]
                intro g
                rw [bears_iff] at g
                have hbit : (used ||| 2 ^ n).testBit n = true := by rw [Nat.testBit_or, Nat.testBit_two_pow_self]; simp
                have k1 := (seen_keep fr to_ sh hf k _ _ x hx p).2 n hbit (by omega) g.1
                have k2 := (seen_keep fr to_ sh hf k _ _ x hx q).2 n hbit (by omega) g.2
                rw [rd_set _ _ _ _ (by simpa using cl), rd_set _ _ _ _ (by omega)] at k1 k2
                by_cases d1 : at_ + n + sh = p
                · rw [if_neg (by omega), if_neg (by omega)] at k2
                  exact hno q k2
                · rw [if_neg d1, if_neg (by omega)] at k1
                  exact hno p k1
              · have hbn : ¬ (used ||| 2 ^ m).testBit n = true := by
                  rw [Nat.testBit_or, Nat.testBit_two_pow]
                  simp [cb, Ne.symm en]
                by_cases d : at_ + n + sh = p ∨ at_ + n + sh = q
                · rw [if_pos, filter_none _ _ (fun x hx => ?_), List.nil_append]
                  · have k1 := (seen_keep fr to_ sh hf k _ _ x hx (at_ + n + sh)).1
                    rw [rd_set _ _ _ _ (by simpa using cl), if_pos rfl] at k1
                    have k2 := k1 (by omega)
                    rw [Bool.eq_false_iff]
                    intro g
                    rw [bears_iff] at g
                    rcases d with d | d
                    · rw [d] at k2; omega
                    · rw [d] at k2; omega
                  · right; right; right
                    rw [rd_set _ _ _ _ (by simpa using hq), rd_set _ _ _ _ (by omega)]
                    rcases d with d | d
                    · rw [if_neg (by omega), if_pos d.symm]; omega
                    · rw [if_pos d.symm]; omega
                · have d1 : ¬ p = at_ + n + sh := fun g => d (.inl g.symm)
                  have d2 : ¬ q = at_ + n + sh := fun g => d (.inr g.symm)
                  rw [if_neg]
                  · congr 1
                    have hz3 := nz_set (leftOf used (to_ + 1 - fr) fr) (n - fr) ((n : Nat) : Int) (by rw [leftOf_get used _ fr (n - fr) (by omega), show fr + (n - fr) = n by omega, if_neg cb]) (by omega)
                    rw [leftOf_set used _ fr (n - fr) (by omega), show fr + (n - fr) = n by omega] at hz3
                    have hs : ∀ j : Nat, rd ((row.set at_ (n : Int)).set (at_ + n + sh) (n : Int)) (j : Int) = if at_ + n + sh = j then (n : Int) else if at_ = j then (n : Int) else rd row (j : Int) := fun j => by
                      rw [rd_set _ _ _ _ (by simpa using cl), rd_set _ _ _ _ (by omega)]
                    have ihk := pair_search fr to_ sh m p q hf hm hpq k ((row.set at_ (n : Int)).set (at_ + n + sh) (n : Int)) (used ||| 2 ^ n) (by omega) (by simpa using hq) (by rw [hs, if_neg (fun g => d1 g.symm), if_neg (by omega)]; exact hp0) (by rw [hs, if_neg (fun g => d2 g.symm), if_neg (by omega)]; exact hq0) (by
                      rw [Nat.testBit_or, Nat.testBit_two_pow]
                      simp [hb, en]) (fun j => by
                      rw [hs]
                      split
                      · omega
                      · split
                        · omega
                        · exact hno j)
                    rw [ihk, or_swap]
                    congr 1
                    rw [List.set_comm (n : Int) (m : Int) (show at_ + n + sh ≠ p by omega), List.set_comm (n : Int) (m : Int) (show at_ + n + sh ≠ q by omega), List.set_comm (n : Int) (m : Int) (show at_ ≠ p by omega), List.set_comm (n : Int) (m : Int) (show at_ ≠ q by omega)]
                  · rintro (g | g | g | g)
                    · exact hbn g
                    · rw [hlen] at g; exact g cl
                    · omega
                    · rw [rd_set _ _ _ _ (by simpa using hq), rd_set _ _ _ _ (by omega), if_neg d2, if_neg d1] at g
                      exact g c0
        exact key _ _ (Nat.le_refl _) (by omega)
end Go.Proofs.Ytkffdloophagaaa.Search
