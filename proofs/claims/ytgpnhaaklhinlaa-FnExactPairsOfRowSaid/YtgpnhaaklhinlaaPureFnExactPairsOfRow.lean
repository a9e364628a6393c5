/- The law FnExactPairsOfRow holds for every input: what the program's function computes is what the reference's computes. Conditions: none but the statement's own. -/
import Derived.Test.YtgpnhaaklhinlaaPFnExactPairsOfRowx4
import Derived.Test.YtgpnhaaklhinlaaAid
namespace Go.Proofs.Ytgpnhaaklhinlaa.Pure
open Go.RowKit Go.Proofs.Ytgpnhaaklhinlaa.PFnExactPairsOfRow Go.Proofs.YtgpnhaaklhinlaaW.PrintWords Go.Proofs.YtgpnhaaklhinlaaW.PrintLast Go.Proofs.Ytgpnhaaklhinlaa.Aid
set_option linter.unusedVariables false
set_option linter.unusedSimpArgs false
theorem l1All_l0 (lo hi : Int) (xs : List Int) (hx : xs.length ≤ 1048576) : ∀ (t : List Int) (i : Nat), xs.drop i = t → Ev (fun k => spec_l1All.l0 k lo hi xs xs.length (i : Int)) (t.all fun n => decide (lo ≤ n ∧ n ≤ hi))
  | [], i, h => by
    have h1 := dropNil h
    refine Ev.of1 (fun k => ?_)
    simp (disch := omega) only [if_true, if_false, Bool.false_eq_true, spec_l1All.l0, if_neg]
    rfl
  | x :: t, i, h => by
    obtain ⟨h1, h2, h3⟩ := dropCons h
    by_cases c : lo ≤ x ∧ x ≤ hi
    · refine Ev.step (f := fun k => spec_l1All.l0 k lo hi xs xs.length ((i + 1 : Nat) : Int)) (fun k => ?_) ((l1All_l0 lo hi xs hx t (i + 1) h3).cast (by simp [c]))
      simp (disch := omega) only [if_true, if_false, Bool.false_eq_true, spec_l1All.l0, spec_l1In.f, if_pos, w64s, h2, Option.bind_some, decide_eq_true_eq]
    · refine Ev.of1 (fun k => ?_)
      simp (disch := omega) only [if_true, if_false, Bool.false_eq_true, spec_l1All.l0, spec_l1In.f, if_pos, h2]
      by_cases c1 : lo ≤ x
      · have c2 : ¬ x ≤ hi := fun h' => c ⟨c1, h'⟩
        simp [c1, c2]
      · simp [c1]
theorem l1All_ev (xs : List Int) (lo hi : Int) (hx : xs.length ≤ 1048576) : Ev (fun k => spec_l1All.f k xs lo hi) (xs.all fun n => decide (lo ≤ n ∧ n ≤ hi)) :=
  Ev.congr (fun k => rfl) (l1All_l0 lo hi xs hx xs 0 rfl)
def rowB (l : List Int) : Bool := decide ((l.length : Int) ≤ 40) && l.all fun n => decide (0 ≤ n ∧ n ≤ 20)
theorem roGood_ev (xs : List Int) (hx : xs.length ≤ 1048576) : Ev (fun k => spec_roGood.f k xs) (rowB xs) := by
  unfold spec_roGood.f rowB
  by_cases c : (xs.length : Int) ≤ 40
  · simp only [c, if_true]
    refine (Ev.bind (l1All_ev xs 0 20 hx) (Ev.now _)).cast (by simp)
  · simp only [c, if_false]
    exact (Ev.now _).cast (by simp)
/-- The places, counted from i on, of a number. -/
def placesFrom (n : Int) : List Int → Nat → List Int
  | [], _ => []
  | x :: t, i => if x = n then (i : Int) :: placesFrom n t (i + 1) else placesFrom n t (i + 1)
theorem placesFrom_length (n : Int) : ∀ (t : List Int) (i : Nat), (placesFrom n t i).length ≤ t.length
  | [], _ => Nat.le_refl _
  | x :: t, i => by
    have := placesFrom_length n t (i + 1)
    unfold placesFrom
    split <;> simp <;> omega
theorem roPlaces_l0 (n : Int) (xs : List Int) (hx : xs.length ≤ 1048576) : ∀ (t : List Int) (i : Nat) (acc : List Int), xs.drop i = t → acc.length ≤ i → Ev (fun k => spec_roPlaces.l0 k n acc xs xs.length (i : Int)) (acc ++ placesFrom n t i)
  | [], i, acc, h, ha => by
    have h1 := dropNil h
    refine Ev.of1 (fun k => ?_)
    simp (disch := omega) only [if_true, if_false, Bool.false_eq_true, spec_roPlaces.l0, if_neg]
    simp [placesFrom]
  | x :: t, i, acc, h, ha => by
    obtain ⟨h1, h2, h3⟩ := dropCons h
    by_cases c : x = n
    · refine Ev.step (f := fun k => spec_roPlaces.l0 k n (acc ++ [(i : Int)]) xs xs.length ((i + 1 : Nat) : Int)) (fun k => ?_) ((roPlaces_l0 n xs hx t (i + 1) _ h3 (by simp; omega)).cast (by simp [placesFrom, c]))
      simp (disch := omega) only [if_true, if_false, Bool.false_eq_true, spec_roPlaces.l0, if_pos, w64s, h2, c]
    · refine Ev.step (f := fun k => spec_roPlaces.l0 k n acc xs xs.length ((i + 1 : Nat) : Int)) (fun k => ?_) ((roPlaces_l0 n xs hx t (i + 1) _ h3 (by omega)).cast (by simp [placesFrom, c]))
      simp (disch := omega) only [if_true, if_false, Bool.false_eq_true, spec_roPlaces.l0, if_pos, if_neg, w64s, h2]
theorem roPlaces_ev (xs : List Int) (n : Int) (hx : xs.length ≤ 1048576) : Ev (fun k => spec_roPlaces.f k xs n) (placesFrom n xs 0) :=
  (Ev.congr (fun k => rfl) (roPlaces_l0 n xs hx xs 0 [] rfl (by simp))).cast (by simp)
def hasB (n : Int) (l : List Int) : Bool := l.any fun x => decide (x = n)
theorem hasB_places (n : Int) : ∀ (t : List Int) (i : Nat), hasB n t = decide ((placesFrom n t i).length ≠ 0)
  | [], i => by simp [hasB, placesFrom]
  | x :: t, i => by
    have h := hasB_places n t (i + 1)
    by_cases c : x = n
    · simp [hasB, placesFrom, c]
    · simp only [placesFrom, if_neg c, ← h]
      simp [hasB, c]
theorem placesFrom_snoc (n x : Int) : ∀ (t : List Int) (i : Nat), placesFrom n (t ++ [x]) i = placesFrom n t i ++ (if x = n then [((i + t.length : Nat) : Int)] else [])
  | [], i => by
    simp only [List.nil_append, placesFrom, List.length_nil, Nat.add_zero]
  | y :: t, i => by
    have h := placesFrom_snoc n x t (i + 1)
    simp only [List.cons_append, placesFrom, h, List.length_cons]
    rw [show i + (t.length + 1) = i + 1 + t.length by omega]
    split <;> simp
theorem rowB_iff (xs : List Int) : rowB xs = true ↔ xs.length ≤ 40 ∧ ∀ x ∈ xs, 0 ≤ x ∧ x ≤ 20 := by
  simp only [rowB, Bool.and_eq_true, decide_eq_true_eq, List.all_eq_true]
  constructor
  · intro h
    exact ⟨by omega, h.2⟩
  · intro h
    exact ⟨by omega, h.2⟩
theorem st_get (xs : List Int) (hx : ∀ x ∈ xs, 0 ≤ x ∧ x ≤ 20) : ∀ k, k ≤ xs.length → ∀ n, n < 21 → (impl_pairs.st xs k).getD n [] = if n = 0 then [] else placesFrom (n : Int) (xs.take k) 0
  | 0, _, n, hn => by
    rw [impl_pairs.st, List.getD_eq_getElem?_getD, List.getElem?_replicate, if_pos hn, List.take_zero]
    split <;> rfl
  | k + 1, hk, n, hn => by
    have ih := st_get xs hx k (by omega)
    have hlt : k < xs.length := by omega
    have e : rd xs (k : Int) = xs[k] := rd_lt hlt
    have hb := hx xs[k] (List.getElem_mem hlt)
    have et : xs.take (k + 1) = xs.take k ++ [xs[k]] := List.take_succ_eq_append_getElem hlt
    have el : (xs.take k).length = k := by simp; omega
    rw [et, placesFrom_snoc, el, impl_pairs.st, e]
    generalize xs[k] = x at hb
    by_cases c : 0 < x
    · rw [if_pos c, List.getD_eq_getElem?_getD, List.getElem?_set]
      by_cases d : x.toNat = n
      · rw [if_pos d, if_pos (by rw [impl_pairs.st_len]; omega), Option.getD_some, d, ih n hn]
        have h0 : n ≠ 0 := by omega
        have h1 : x = (n : Int) := by omega
        simp [h0, h1]
      · rw [if_neg d, ← List.getD_eq_getElem?_getD, ih n hn]
        have h1 : ¬ x = (n : Int) := by omega
        simp [h1]
    · rw [if_neg c, ih n hn]
      by_cases z : n = 0
      · simp [z]
      · have h1 : ¬ x = (n : Int) := by omega
        simp [z, h1]
theorem st_all (xs : List Int) (hx : ∀ x ∈ xs, 0 ≤ x ∧ x ≤ 20) (n : Nat) (hn : n < 21) (h0 : n ≠ 0) : (impl_pairs.st xs xs.length).getD n [] = placesFrom (n : Int) xs 0 := by
  rw [st_get xs hx _ (Nat.le_refl _) n hn, if_neg h0, List.take_length]
theorem st_zero (xs : List Int) (hx : ∀ x ∈ xs, 0 ≤ x ∧ x ≤ 20) : (impl_pairs.st xs xs.length).getD 0 [] = [] := by
  rw [st_get xs hx _ (Nat.le_refl _) 0 (by omega), if_pos rfl]
theorem okl_iff (L : List (List Int)) : ∀ k, impl_pairs.okl L k = true ↔ ∀ n, n < k → (L.getD n []).length = 0 ∨ (L.getD n []).length = 2
  | 0 => by simp [impl_pairs.okl]
  | k + 1 => by
    simp only [impl_pairs.okl, Bool.and_eq_true, Bool.or_eq_true, beq_iff_eq, okl_iff L k]
    constructor
    · intro h n hn
      by_cases e : n = k
      · subst e; exact h.2
      · exact h.1 n (by omega)
    · intro h
      exact ⟨fun n hn => h n (by omega), h k (by omega)⟩
def pBf (xs : List Int) : Nat → Nat → Bool
  | 0, _ => true
  | r + 1, n => ((placesFrom (n : Int) xs 0).length == 0 || (placesFrom (n : Int) xs 0).length == 2) && pBf xs r (n + 1)
theorem pBf_iff (xs : List Int) : ∀ r n, pBf xs r n = true ↔ ∀ m, n ≤ m → m < n + r → (placesFrom (m : Int) xs 0).length = 0 ∨ (placesFrom (m : Int) xs 0).length = 2
  | 0, n => by
    simp only [pBf, true_iff]
    intro m h1 h2
    omega
  | r + 1, n => by
    simp only [pBf, Bool.and_eq_true, Bool.or_eq_true, beq_iff_eq, pBf_iff xs r (n + 1)]
    constructor
    · intro h m h1 h2
      by_cases e : m = n
      · subst e; exact h.1
      · exact h.2 m (by omega) (by omega)
    · intro h
      exact ⟨h n (by omega) (by omega), fun m h1 h2 => h m (by omega) (by omega)⟩
theorem okl_pB (xs : List Int) (hx : ∀ x ∈ xs, 0 ≤ x ∧ x ≤ 20) : impl_pairs.okl (impl_pairs.st xs xs.length) 21 = pBf xs 20 1 := by
  rw [Bool.eq_iff_iff, okl_iff, pBf_iff]
  constructor
  · intro h m h1 h2
    have := h m (by omega)
    rwa [st_all xs hx m (by omega) (by omega)] at this
  · intro h n hn
    by_cases e : n = 0
    · subst e
      rw [st_zero xs hx]
      exact .inl rfl
    · rw [st_all xs hx n hn e]
      exact h n (by omega) (by omega)
/-- A pair row. -/
def isB (xs : List Int) : Bool := rowB xs && pBf xs 20 1
theorem isB_row {xs : List Int} (h : isB xs = true) : rowB xs = true := by
  simp only [isB, Bool.and_eq_true] at h
  exact h.1
theorem isB_len {xs : List Int} (h : isB xs = true) : xs.length ≤ 40 := ((rowB_iff xs).1 (isB_row h)).1
theorem isB_rng {xs : List Int} (h : isB xs = true) : ∀ x ∈ xs, 0 ≤ x ∧ x ≤ 20 := ((rowB_iff xs).1 (isB_row h)).2
theorem isB_two {xs : List Int} (h : isB xs = true) (m : Nat) (h1 : 1 ≤ m) (h2 : m ≤ 20) : (placesFrom (m : Int) xs 0).length = 0 ∨ (placesFrom (m : Int) xs 0).length = 2 := by
  simp only [isB, Bool.and_eq_true] at h
  exact (pBf_iff xs 20 1).1 h.2 m h1 (by omega)
def numsFrom (xs : List Int) : Nat → Nat → List Int
  | 0, _ => []
  | r + 1, n => if hasB (n : Int) xs = true then (n : Int) :: numsFrom xs r (n + 1) else numsFrom xs r (n + 1)
theorem numsFrom_len (xs : List Int) : ∀ r n, (numsFrom xs r n).length ≤ r
  | 0, _ => Nat.le_refl _
  | r + 1, n => by
    have := numsFrom_len xs r (n + 1)
    unfold numsFrom
    split <;> simp <;> omega
theorem numsFrom_mem (xs : List Int) (x : Int) : ∀ r n, x ∈ numsFrom xs r n ↔ ∃ m : Nat, n ≤ m ∧ m < n + r ∧ x = (m : Int) ∧ hasB (m : Int) xs = true
  | 0, n => by
    simp only [numsFrom, List.not_mem_nil, false_iff]
    rintro ⟨m, h1, h2, _⟩
    omega
  | r + 1, n => by
    have ih := numsFrom_mem xs x r (n + 1)
    unfold numsFrom
    by_cases c : hasB (n : Int) xs = true
    · rw [if_pos c, List.mem_cons, ih]
      constructor
      · rintro (h | ⟨m, h1, h2, h3, h4⟩)
        · exact ⟨n, by omega, by omega, h, c⟩
        · exact ⟨m, by omega, by omega, h3, h4⟩
      · rintro ⟨m, h1, h2, h3, h4⟩
        by_cases e : m = n
        · subst e; exact .inl h3
        · exact .inr ⟨m, by omega, by omega, h3, h4⟩
    · rw [if_neg c, ih]
      constructor
      · rintro ⟨m, h1, h2, h3, h4⟩
        exact ⟨m, by omega, by omega, h3, h4⟩
      · rintro ⟨m, h1, h2, h3, h4⟩
        by_cases e : m = n
        · subst e; exact absurd h4 c
        · exact ⟨m, by omega, by omega, h3, h4⟩
/-- A row's numbers, increasing. -/
def numsL (xs : List Int) : List Int := numsFrom xs 20 1
theorem numsL_mem {xs : List Int} {x : Int} (h : x ∈ numsL xs) : 1 ≤ x ∧ x ≤ 20 ∧ hasB x xs = true := by
  obtain ⟨m, h1, h2, rfl, h4⟩ := (numsFrom_mem xs x 20 1).1 h
  exact ⟨by omega, by omega, h4⟩
theorem numsL_two {xs : List Int} (h : isB xs = true) {x : Int} (hx : x ∈ numsL xs) : (placesFrom x xs 0).length = 2 := by
  obtain ⟨m, h1, h2, rfl, h4⟩ := (numsFrom_mem xs x 20 1).1 hx
  rw [hasB_places (m : Int) xs 0, decide_eq_true_eq] at h4
  have := isB_two h m h1 (by omega)
  omega
theorem roPairs_l0 (xs : List Int) (hx : xs.length ≤ 1048576) : ∀ (r n : Nat), n + r = 21 → Ev (fun k => spec_roPairs.l0 k xs (n : Int)) (pBf xs r n)
  | 0, n, h => by
    refine Ev.of1 (fun k => ?_)
    simp (disch := omega) only [if_true, if_false, Bool.false_eq_true, spec_roPairs.l0, if_neg, pBf]
  | r + 1, n, h => by
    have ih := roPairs_l0 xs hx r (n + 1) (by omega)
    refine Ev.step (f := fun k => (spec_roPlaces.f k xs (n : Int)).bind fun t => if (t.length : Int) = 0 then (spec_roPairs.l0 k xs ((n + 1 : Nat) : Int)) else (if (t.length : Int) = 2 then (spec_roPairs.l0 k xs ((n + 1 : Nat) : Int)) else (some false))) (fun k => ?_) (Ev.bind (roPlaces_ev xs n hx) ?_)
    · simp (disch := omega) only [if_true, if_false, Bool.false_eq_true, spec_roPairs.l0, if_pos, w64s]
    · generalize hp : placesFrom (n : Int) xs 0 = p
      by_cases c : p.length = 0
      · have c' : (p.length : Int) = 0 := by omega
        simp only [c', if_true]
        exact ih.cast (by simp [pBf, hp, c])
      · have c' : ¬ (p.length : Int) = 0 := by omega
        by_cases d : p.length = 2
        · have d' : (p.length : Int) = 2 := by omega
          simp only [c', d', if_true, if_false]
          exact ih.cast (by simp [pBf, hp, d])
        · have d' : ¬ (p.length : Int) = 2 := by omega
          simp only [c', d', if_false]
          refine (Ev.now _).cast ?_
          have e1 : (p.length == 0) = false := beq_eq_false_iff_ne.2 c
          have e2 : (p.length == 2) = false := beq_eq_false_iff_ne.2 d
          simp [pBf, hp, e1, e2]
theorem roPairs_ev (xs : List Int) (hx : xs.length ≤ 1048576) : Ev (fun k => spec_roPairs.f k xs) (pBf xs 20 1) :=
  Ev.congr (fun k => rfl) (roPairs_l0 xs hx 20 1 rfl)
theorem roIs_ev (xs : List Int) (hx : xs.length ≤ 1048576) : Ev (fun k => spec_roIs.f k xs) (isB xs) := by
  unfold spec_roIs.f isB
  refine Ev.bind (roGood_ev xs hx) ?_
  by_cases c : rowB xs = true
  · simp only [c, if_true, Bool.true_and]
    exact (Ev.bind (roPairs_ev xs hx) (Ev.now _))
  · simp only [c, if_false]
    exact (Ev.now _).cast (by simp)
theorem l1Has_l0 (n : Int) (xs : List Int) (hx : xs.length ≤ 1048576) : ∀ (t : List Int) (i : Nat), xs.drop i = t → Ev (fun k => spec_l1Has.l0 k n xs xs.length (i : Int)) (hasB n t)
  | [], i, h => by
    have h1 := dropNil h
    refine Ev.of1 (fun k => ?_)
    simp (disch := omega) only [if_true, if_false, Bool.false_eq_true, spec_l1Has.l0, if_neg]
    rfl
  | x :: t, i, h => by
    obtain ⟨h1, h2, h3⟩ := dropCons h
    by_cases c : x = n
    · refine Ev.of1 (fun k => ?_)
      simp (disch := omega) only [if_true, if_false, Bool.false_eq_true, spec_l1Has.l0, if_pos, h2, c]
      simp [hasB]
    · refine Ev.step (f := fun k => spec_l1Has.l0 k n xs xs.length ((i + 1 : Nat) : Int)) (fun k => ?_) ((l1Has_l0 n xs hx t (i + 1) h3).cast (by simp [hasB, c]))
      simp (disch := omega) only [if_true, if_false, Bool.false_eq_true, spec_l1Has.l0, if_pos, if_neg, w64s, h2]
theorem l1Has_ev (xs : List Int) (n : Int) (hx : xs.length ≤ 1048576) : Ev (fun k => spec_l1Has.f k xs n) (hasB n xs) :=
  Ev.congr (fun k => rfl) (l1Has_l0 n xs hx xs 0 rfl)
theorem roNumbers_l0 (xs : List Int) (hx : xs.length ≤ 1048576) : ∀ (r n : Nat) (acc : List Int), n + r = 21 → acc.length ≤ n → Ev (fun k => spec_roNumbers.l0 k xs acc (n : Int)) (acc ++ numsFrom xs r n)
  | 0, n, acc, h, ha => by
    refine Ev.of1 (fun k => ?_)
    simp (disch := omega) only [if_true, if_false, Bool.false_eq_true, spec_roNumbers.l0, if_neg, numsFrom, List.append_nil]
  | r + 1, n, acc, h, ha => by
    by_cases c : hasB (n : Int) xs = true
    · refine Ev.step (f := fun k => (spec_l1Has.f k xs (n : Int)).bind fun t => if t = true then (spec_roNumbers.l0 k xs (acc ++ [(n : Int)]) ((n + 1 : Nat) : Int)) else (spec_roNumbers.l0 k xs acc ((n + 1 : Nat) : Int))) (fun k => ?_) (Ev.bind (l1Has_ev xs n hx) ?_)
      · simp (disch := omega) only [if_true, if_false, Bool.false_eq_true, spec_roNumbers.l0, if_pos, w64s]
      · simp only [c, if_true]
        exact (roNumbers_l0 xs hx r (n + 1) _ (by omega) (by simp; omega)).cast (by simp [numsFrom, c])
    · refine Ev.step (f := fun k => (spec_l1Has.f k xs (n : Int)).bind fun t => if t = true then (spec_roNumbers.l0 k xs (acc ++ [(n : Int)]) ((n + 1 : Nat) : Int)) else (spec_roNumbers.l0 k xs acc ((n + 1 : Nat) : Int))) (fun k => ?_) (Ev.bind (l1Has_ev xs n hx) ?_)
      · simp (disch := omega) only [if_true, if_false, Bool.false_eq_true, spec_roNumbers.l0, if_pos, w64s]
      · simp only [c, if_false]
        exact (roNumbers_l0 xs hx r (n + 1) _ (by omega) (by omega)).cast (by simp [numsFrom, c])
theorem roNumbers_ev (xs : List Int) (hx : xs.length ≤ 1048576) : Ev (fun k => spec_roNumbers.f k xs) (numsL xs) :=
  (Ev.congr (fun k => rfl) (roNumbers_l0 xs hx 20 1 [] rfl (by simp))).cast (by simp [numsL])
theorem IsRow_l0 (xs : List Int) (hx : xs.length ≤ 1048576) : ∀ (t : List Int) (i : Nat), xs.drop i = t → Ev (fun k => impl_IsRow.l0 k xs xs xs.length (i : Int)) (decide ((xs.length : Int) ≤ 40) && t.all fun n => decide (0 ≤ n ∧ n ≤ 20))
  | [], i, h => by
    have h1 := dropNil h
    refine Ev.of1 (fun k => ?_)
    simp (disch := omega) only [if_true, if_false, Bool.false_eq_true, impl_IsRow.l0, if_neg]
    simp
  | x :: t, i, h => by
    obtain ⟨h1, h2, h3⟩ := dropCons h
    by_cases c : 0 ≤ x ∧ x ≤ 20
    · refine Ev.step (f := fun k => impl_IsRow.l0 k xs xs xs.length ((i + 1 : Nat) : Int)) (fun k => ?_) ((IsRow_l0 xs hx t (i + 1) h3).cast (by simp [c]))
      simp (disch := omega) only [if_true, if_false, Bool.false_eq_true, impl_IsRow.l0, if_pos, if_neg, w64s, h2]
    · refine Ev.of1 (fun k => ?_)
      simp (disch := omega) only [if_true, if_false, Bool.false_eq_true, impl_IsRow.l0, if_pos, h2]
      by_cases c1 : x < 0
      · have : ¬ 0 ≤ x := by omega
        simp [c1, this]
      · have c2 : 20 < x := by omega
        have : ¬ x ≤ 20 := by omega
        simp [c1, c2, this]
theorem IsRow_ev (xs : List Int) (hx : xs.length ≤ 1048576) : Ev (fun k => impl_IsRow.f k xs) (rowB xs) :=
  Ev.congr (fun k => rfl) (IsRow_l0 xs hx xs 0 rfl)
theorem isPairs_ev (xs : List Int) (hx : xs.length ≤ 1048576) : Ev (fun k => impl_isPairs.f k xs) (isB xs) := by
  unfold impl_isPairs.f isB
  refine Ev.bind (IsRow_ev xs hx) ?_
  by_cases c : rowB xs = true
  · simp only [c, if_true, Bool.true_and]
    exact (Ev.now _).cast (okl_pB xs ((rowB_iff xs).1 c).2)
  · simp only [c, if_false]
    exact (Ev.now _).cast (by simp)
theorem Index_l0 (n : Int) (xs : List Int) (hx : xs.length ≤ 1048576) : ∀ (t : List Int) (i : Nat), xs.drop i = t → ∃ r : Int, Ev (fun k => slices_Index_int_int.l0 k xs n xs.length (i : Int)) r ∧ decide (r ≥ 0) = hasB n t
  | [], i, h => by
    have h1 := dropNil h
    refine ⟨-1, Ev.of1 (fun k => ?_), by simp [hasB]⟩
    simp (disch := omega) only [if_true, if_false, Bool.false_eq_true, slices_Index_int_int.l0, if_neg]
  | x :: t, i, h => by
    obtain ⟨h1, h2, h3⟩ := dropCons h
    by_cases c : n = x
    · refine ⟨(i : Int), Ev.of1 (fun k => ?_), by simp [hasB, c]⟩
      simp (disch := omega) only [if_true, if_false, Bool.false_eq_true, slices_Index_int_int.l0, if_pos, h2]
    · obtain ⟨r, hr, hd⟩ := Index_l0 n xs hx t (i + 1) h3
      refine ⟨r, Ev.step (f := fun k => slices_Index_int_int.l0 k xs n xs.length ((i + 1 : Nat) : Int)) (fun k => ?_) hr, by rw [hd]; simp [hasB, Ne.symm c]⟩
      simp (disch := omega) only [if_true, if_false, Bool.false_eq_true, slices_Index_int_int.l0, if_pos, if_neg, w64s, h2]
theorem Contains_ev (xs : List Int) (n : Int) (hx : xs.length ≤ 1048576) : Ev (fun k => slices_Contains_int_int.f k xs n) (hasB n xs) := by
  obtain ⟨r, hr, hd⟩ := Index_l0 n xs hx xs 0 rfl
  unfold slices_Contains_int_int.f
  refine (Ev.bind (f := fun _ t => some (decide (t ≥ 0))) (a := r) (Ev.congr (fun k => rfl) hr) (Ev.now _)).cast hd
theorem numbers_l0 (xs : List Int) (hx : xs.length ≤ 1048576) : ∀ (r n : Nat) (acc : List Int), n + r = 21 → acc.length ≤ n → Ev (fun k => impl_numbers.l0 k xs acc (n : Int)) (acc ++ numsFrom xs r n)
  | 0, n, acc, h, ha => by
    refine Ev.of1 (fun k => ?_)
    simp (disch := omega) only [if_true, if_false, Bool.false_eq_true, impl_numbers.l0, if_neg, numsFrom, List.append_nil]
  | r + 1, n, acc, h, ha => by
    by_cases c : hasB (n : Int) xs = true
    · refine Ev.step (f := fun k => (slices_Contains_int_int.f k xs (n : Int)).bind fun t => if t = true then (impl_numbers.l0 k xs (acc ++ [(n : Int)]) ((n + 1 : Nat) : Int)) else (impl_numbers.l0 k xs acc ((n + 1 : Nat) : Int))) (fun k => ?_) (Ev.bind (Contains_ev xs n hx) ?_)
      · simp (disch := omega) only [if_true, if_false, Bool.false_eq_true, impl_numbers.l0, if_pos, w64s]
      · simp only [c, if_true]
        exact (numbers_l0 xs hx r (n + 1) _ (by omega) (by simp; omega)).cast (by simp [numsFrom, c])
    · refine Ev.step (f := fun k => (slices_Contains_int_int.f k xs (n : Int)).bind fun t => if t = true then (impl_numbers.l0 k xs (acc ++ [(n : Int)]) ((n + 1 : Nat) : Int)) else (impl_numbers.l0 k xs acc ((n + 1 : Nat) : Int))) (fun k => ?_) (Ev.bind (Contains_ev xs n hx) ?_)
      · simp (disch := omega) only [if_true, if_false, Bool.false_eq_true, impl_numbers.l0, if_pos, w64s]
      · simp only [c, if_false]
        exact (numbers_l0 xs hx r (n + 1) _ (by omega) (by omega)).cast (by simp [numsFrom, c])
theorem numbers_ev (xs : List Int) (hx : xs.length ≤ 1048576) : Ev (fun k => impl_numbers.f k xs) (numsL xs) :=
  (Ev.congr (fun k => rfl) (numbers_l0 xs hx 20 1 [] rfl (by simp))).cast (by simp [numsL])
theorem placesFrom_bounds (n y : Int) : ∀ (t : List Int) (i : Nat), y ∈ placesFrom n t i → (i : Int) ≤ y ∧ y < (i : Int) + t.length
  | [], i, h => absurd h List.not_mem_nil
  | x :: t, i, h => by
    have ih := placesFrom_bounds n y t (i + 1)
    unfold placesFrom at h
    simp only [List.length_cons]
    by_cases c : x = n
    · rw [if_pos c, List.mem_cons] at h
      rcases h with h | h
      · omega
      · have := ih h; omega
    · rw [if_neg c] at h
      have := ih h
      omega
theorem len_two {p : List Int} (h : p.length = 2) : ∃ u v, p = [u, v] := by
  match p, h with
  | [u, v], _ => exact ⟨u, v, rfl⟩
def triOf (xs : List Int) (n : Int) : List Int := [n, rd (placesFrom n xs 0) 0, rd (placesFrom n xs 0) 1]
theorem numsL_len (xs : List Int) : (numsL xs).length ≤ 20 := numsFrom_len xs 20 1
theorem one_eq {xs : List Int} (c : isB xs = true) {n : Int} (hn : n ∈ numsL xs) : impl_PairsOfRow.one xs n = triOf xs n := by
  have hm := numsL_mem hn
  have e := st_all xs (isB_rng c) n.toNat (by omega) (by omega)
  rw [Int.toNat_of_nonneg (by omega)] at e
  simp only [impl_PairsOfRow.one, triOf, e]
theorem ok_eq {xs : List Int} (c : isB xs = true) {n : Int} (hn : n ∈ numsL xs) : impl_PairsOfRow.ok xs n = true := by
  have hm := numsL_mem hn
  have e := st_all xs (isB_rng c) n.toNat (by omega) (by omega)
  rw [Int.toNat_of_nonneg (by omega)] at e
  have h2 := numsL_two c hn
  unfold impl_PairsOfRow.ok
  rw [e, h2, decide_eq_true (show 1 ≤ n ∧ n ≤ 20 by omega), decide_eq_true rfl]
  rfl
theorem iPairsOfRow_ev (xs : List Int) (hx : xs.length ≤ 1048576) : Ev (fun k => impl_PairsOfRow.f k xs) (if isB xs = true then ((numsL xs).map (triOf xs), true) else ([], false)) := by
  unfold impl_PairsOfRow.f
  refine Ev.bind (isPairs_ev xs hx) ?_
  by_cases c : isB xs = true
  · simp only [c, if_true]
    refine Ev.bind (numbers_ev xs hx) ?_
    have h1 := numsL_len xs
    rw [if_pos ⟨by omega, List.all_eq_true.2 (fun n hn => ok_eq c hn)⟩, List.map_congr_left (fun n hn => one_eq c hn)]
    exact Ev.now _
  · simp only [c, if_false]
    exact (Ev.now _).cast (by simp)
theorem tri_app {xs : List Int} {n : Int} (h : (placesFrom n xs 0).length = 2) : [n] ++ placesFrom n xs 0 = triOf xs n := by
  obtain ⟨u, v, e⟩ := len_two h
  unfold triOf
  rw [e]
  rfl
theorem sPairsOf_l0 (xs : List Int) (hx : xs.length ≤ 1048576) (ns : List Int) (hl : ns.length ≤ 1000) (h2 : ∀ m ∈ ns, (placesFrom m xs 0).length = 2) :
    ∀ (t : List Int) (i : Nat) (a : List (List Int)), ns.drop i = t → a.length ≤ i → Ev (fun k => spec_PairsOfRow.l0 k xs a ns ns.length (i : Int)) (a ++ t.map (triOf xs), true) := by
  intro t
  induction t with
  | nil =>
    intro i a h ha
    have h1 := dropNil h
    refine Ev.of1 (fun k => ?_)
    simp (disch := omega) only [spec_PairsOfRow.l0, if_neg, List.map_nil, List.append_nil]
  | cons n t ih =>
    intro i a h ha
    obtain ⟨d1, d2, d3⟩ := dropCons h
    have hn : n ∈ ns := List.mem_of_mem_drop (h ▸ List.mem_cons_self : n ∈ ns.drop i)
    have e2 := h2 n hn
    have H := ih (i + 1) (a ++ [triOf xs n]) d3 (by simp; omega)
    refine Ev.step (f := fun k => (spec_roPlaces.f k xs n).bind fun t126 => (if [n].length + t126.length < 17592186044416 then (spec_PairsOfRow.l0 k xs (a ++ [[n] ++ t126]) ns ns.length ((i + 1 : Nat) : Int)) else none)) (fun k => ?_) (Ev.bind (roPlaces_ev xs n hx) ?_)
    · simp (disch := omega) only [spec_PairsOfRow.l0, if_pos, w64s, d2, Option.bind_some]
    · refine Ev.congr (fun k => if_pos (by rw [e2]; simp)) ?_
      rw [tri_app e2]
      exact H.cast (by simp)
theorem sPairsOf_ev (xs : List Int) (hx : xs.length ≤ 1048576) : Ev (fun k => spec_PairsOfRow.f k xs) (if isB xs = true then ((numsL xs).map (triOf xs), true) else ([], false)) := by
  unfold spec_PairsOfRow.f
  refine Ev.bind (roIs_ev xs hx) ?_
  by_cases c : isB xs = true
  · simp only [c, if_true]
    have h1 := numsL_len xs
    exact Ev.bind (roNumbers_ev xs hx) ((sPairsOf_l0 xs hx (numsL xs) (by omega) (fun m hm => numsL_two c hm) (numsL xs) 0 [] rfl (by simp)).cast (by simp))
  · simp only [c, if_false]
    exact (Ev.now _).cast (by simp)
theorem toIntS_l0 (xs : List Int) (hx : xs.length ≤ 1048576) : ∀ (t : List Int) (i : Nat) (ys : List Int), xs.drop i = t → i ≤ xs.length → ys.length = xs.length → ys.take i = xs.take i → Ev (fun k => laws_toIntS.l0 k xs ys (i : Int)) xs
  | [], i, ys, h, hi, hl, he => by
    have h1 := dropNil h
    obtain rfl : ys = xs := by
      have : i = xs.length := by omega
      subst this
      rw [List.take_of_length_le (by omega), List.take_of_length_le (by omega)] at he
      exact he
    refine Ev.of1 (fun k => ?_)
    simp (disch := omega) only [if_true, if_false, Bool.false_eq_true, laws_toIntS.l0, if_neg]
  | x :: t, i, ys, h, hi, hl, he => by
    obtain ⟨h1, h2, h3⟩ := dropCons h
    refine Ev.step (f := fun k => laws_toIntS.l0 k xs (ys.set i x) ((i + 1 : Nat) : Int)) (fun k => ?_) (toIntS_l0 xs hx t (i + 1) _ h3 (by omega) (by simpa using hl) ?_)
    · simp (disch := omega) only [if_true, if_false, Bool.false_eq_true, laws_toIntS.l0, if_pos, w64s, h2, toNat_cast]
    · rw [take_succ_at h, List.take_add_one, List.take_set_of_le (by omega), he]
      simp [hl, h1]
theorem toIntS_ev (xs : List Int) (hx : xs.length ≤ 1048576) : Ev (fun k => laws_toIntS.f k xs) xs := by
  refine Ev.congr (fun k => ?_) (toIntS_l0 xs hx xs 0 (List.replicate xs.length 0) rfl (by omega) (by simp) rfl)
  unfold laws_toIntS.f
  rw [if_pos (by omega), if_pos (by omega)]
  rfl
theorem eqIntS_l0 (xs ys : List Int) (hx : xs.length ≤ 1048576) (hl : xs.length = ys.length) : ∀ (s t : List Int) (i : Nat), xs.drop i = s → ys.drop i = t → Ev (fun k => laws_eqIntS.l0 k xs ys (i : Int)) (decide (s = t))
  | [], t, i, h, h' => by
    have h1 := dropNil h
    have h2 : t = [] := by rw [← h']; simp; omega
    subst h2
    refine Ev.of1 (fun k => ?_)
    simp (disch := omega) only [if_true, if_false, Bool.false_eq_true, laws_eqIntS.l0, if_neg]
    simp
  | x :: s, [], i, h, h' => by
    have h1 := dropLt h
    have h2 := dropNil h'
    omega
  | x :: s, y :: t, i, h, h' => by
    obtain ⟨h1, h2, h3⟩ := dropCons h
    obtain ⟨h1', h2', h3'⟩ := dropCons h'
    by_cases c : x = y
    · refine Ev.step (f := fun k => laws_eqIntS.l0 k xs ys ((i + 1 : Nat) : Int)) (fun k => ?_) ((eqIntS_l0 xs ys hx hl s t (i + 1) h3 h3').cast (by simp [c]))
      simp (disch := omega) only [if_true, if_false, Bool.false_eq_true, laws_eqIntS.l0, if_pos, w64s, h2, h2']
    · refine Ev.of1 (fun k => ?_)
      simp (disch := omega) only [if_true, if_false, Bool.false_eq_true, laws_eqIntS.l0, if_pos, if_neg, h2, h2']
      simp [c]
theorem eqIntS_ev (xs ys : List Int) (hx : xs.length ≤ 1048576) : Ev (fun k => laws_eqIntS.f k xs ys) (decide (xs = ys)) := by
  by_cases c : xs.length = ys.length
  · refine Ev.congr (fun k => ?_) (eqIntS_l0 xs ys hx c xs ys 0 rfl rfl)
    unfold laws_eqIntS.f
    rw [if_pos (by omega)]
    rfl
  · refine Ev.all (fun k => ?_)
    unfold laws_eqIntS.f
    rw [if_neg (by omega)]
    have : xs ≠ ys := fun e => c (by rw [e])
    simp [this]
theorem eqIntS_same (xs : List Int) (hx : xs.length ≤ 1048576) : Ev (fun k => laws_eqIntS.f k xs xs) true := (eqIntS_ev xs xs hx).cast (by simp)
theorem dropConsL {xs : List (List Int)} {i : Nat} {x : List Int} {t : List (List Int)} (h : xs.drop i = x :: t) : i < xs.length ∧ rd_L1 xs (i : Int) = x ∧ xs.drop (i + 1) = t :=
  ⟨dropLt h, by simp [rd_L1, List.getD_eq_getElem?_getD, dropGet h], dropSucc h⟩
theorem memDrop {α : Type} {xs : List α} {i : Nat} {x : α} {t : List α} (h : xs.drop i = x :: t) : x ∈ xs := by
  rw [← List.take_append_drop i xs, h]
  simp
theorem eqIntSS_l0 (xs ys : List (List Int)) (hx : xs.length ≤ 1048576) (hm : ∀ x ∈ xs, x.length ≤ 1048576) (hl : xs.length = ys.length) : ∀ (s t : List (List Int)) (i : Nat), xs.drop i = s → ys.drop i = t → Ev (fun k => laws_eqIntSS.l0 k xs ys (i : Int)) (decide (s = t))
  | [], t, i, h, h' => by
    have h1 := dropNil h
    have h2 : t = [] := by rw [← h']; simp; omega
    subst h2
    refine Ev.of1 (fun k => ?_)
    simp (disch := omega) only [if_true, if_false, Bool.false_eq_true, laws_eqIntSS.l0, if_neg]
    simp
  | x :: s, [], i, h, h' => by
    have h1 := dropLt h
    have h2 := dropNil h'
    omega
  | x :: s, y :: t, i, h, h' => by
    obtain ⟨h1, h2, h3⟩ := dropConsL h
    obtain ⟨h1', h2', h3'⟩ := dropConsL h'
    refine Ev.step (f := fun k => (laws_eqIntS.f k x y).bind fun t120 => (if t120 = true then (laws_eqIntSS.l0 k xs ys ((i + 1 : Nat) : Int)) else (some false))) (fun k => ?_) (Ev.bind (eqIntS_ev x y (hm x (memDrop h))) ?_)
    · simp (disch := omega) only [if_true, if_false, Bool.false_eq_true, laws_eqIntSS.l0, if_pos, w64s, h2, h2']
    · by_cases c : x = y
      · simp only [c, decide_true, if_true]
        exact (eqIntSS_l0 xs ys hx hm hl s t (i + 1) h3 h3').cast (by simp)
      · simp only [c, decide_false, Bool.false_eq_true, if_false]
        exact (Ev.now _).cast (by simp [c])
theorem eqIntSS_ev (xs ys : List (List Int)) (hx : xs.length ≤ 1048576) (hm : ∀ x ∈ xs, x.length ≤ 1048576) : Ev (fun k => laws_eqIntSS.f k xs ys) (decide (xs = ys)) := by
  by_cases c : xs.length = ys.length
  · refine Ev.congr (fun k => ?_) (eqIntSS_l0 xs ys hx hm c xs ys 0 rfl rfl)
    unfold laws_eqIntSS.f
    rw [if_pos (by omega)]
    rfl
  · refine Ev.all (fun k => ?_)
    unfold laws_eqIntSS.f
    rw [if_neg (by omega)]
    have : xs ≠ ys := fun e => c (by rw [e])
    simp [this]
theorem eqIntSS_same (xs : List (List Int)) (hx : xs.length ≤ 1048576) (hm : ∀ x ∈ xs, x.length ≤ 1048576) : Ev (fun k => laws_eqIntSS.f k xs xs) true := (eqIntSS_ev xs xs hx hm).cast (by simp)
theorem markIntS_l0 : ∀ (t : List Int) (xs : List Int) (i : Nat) (m : Int), xs.length ≤ 1048576 → xs.drop i = t → 0 ≤ m → m + t.length ≤ 9223372036854775807 → Ev (fun k => laws_markIntS.l0 k xs m (i : Int)) (m + t.length, xs.take i ++ upFrom t.length m)
  | [], xs, i, m, hx, h, hm, hb => by
    have h1 := dropNil h
    refine Ev.of1 (fun k => ?_)
    simp (disch := omega) only [if_true, if_false, Bool.false_eq_true, laws_markIntS.l0, if_neg]
    simp [upFrom, List.take_of_length_le h1]
  | x :: t, xs, i, m, hx, h, hm, hb => by
    obtain ⟨h1, h2, h3⟩ := dropCons h
    simp only [List.length_cons] at hb
    have e : (xs.set i m).drop (i + 1) = t := by rw [List.drop_set_of_lt (by omega), h3]
    refine Ev.step (f := fun k => laws_markIntS.l0 k (xs.set i m) (m + 1) ((i + 1 : Nat) : Int)) (fun k => ?_) ((markIntS_l0 t (xs.set i m) (i + 1) (m + 1) (by simpa using hx) e (by omega) (by omega)).cast ?_)
    · have e1 : wrap64 (m + 1) = m + 1 := w64 (by omega) (by omega)
      simp (disch := omega) only [if_true, if_false, Bool.false_eq_true, laws_markIntS.l0, if_pos, w64s, e1, toNat_cast]
    · rw [set_at _ _ _ _ _ h]
      have : (xs.take i ++ m :: t).take (i + 1) = xs.take i ++ [m] := by
        have hl : (xs.take i).length = i := by simp; omega
        rw [List.take_append, List.take_of_length_le (by omega), hl, show i + 1 - i = 1 by omega]
        rfl
      rw [this]
      simp [upFrom]
      omega
theorem markIntS_ev (xs : List Int) (hx : xs.length ≤ 1048576) : Ev (fun k => laws_markIntS.f k xs 1) (1 + xs.length, upFrom xs.length 1) :=
  (Ev.congr (fun k => rfl) (markIntS_l0 xs xs 0 1 hx rfl (by omega) (by omega))).cast (by simp)
theorem heldIntS_l0 (xs : List Int) (hx : xs.length ≤ 1048576) : ∀ (n : Nat) (i : Nat) (m : Int), xs.drop i = upFrom n m → 0 ≤ m → m + n ≤ 9223372036854775807 → Ev (fun k => laws_heldIntS.l0 k xs m (i : Int)) (m + n)
  | 0, i, m, h, hm, hb => by
    have h1 := dropNil h
    refine Ev.of1 (fun k => ?_)
    simp (disch := omega) only [if_true, if_false, Bool.false_eq_true, laws_heldIntS.l0, if_neg]
    simp
  | n + 1, i, m, h, hm, hb => by
    obtain ⟨h1, h2, h3⟩ := dropCons (x := m) (t := upFrom n (m + 1)) h
    refine Ev.step (f := fun k => laws_heldIntS.l0 k xs (m + 1) ((i + 1 : Nat) : Int)) (fun k => ?_) ((heldIntS_l0 xs hx n (i + 1) (m + 1) h3 (by omega) (by omega)).cast (by omega))
    have e1 : wrap64 (m + 1) = m + 1 := w64 (by omega) (by omega)
    simp (disch := omega) only [if_true, if_false, Bool.false_eq_true, laws_heldIntS.l0, if_pos, w64s, e1, h2]
theorem heldIntS_ev (n : Nat) (hx : n ≤ 1048576) : Ev (fun k => laws_heldIntS.f k (upFrom n 1) 1) (1 + n) :=
  Ev.congr (fun k => rfl) (heldIntS_l0 (upFrom n 1) (by rw [upFrom_length]; exact hx) n 0 1 rfl (by omega) (by omega))
theorem tri_total (xs : List Int) : ∀ ns : List Int, totalL (ns.map (triOf xs)) = 3 * ns.length
  | [] => rfl
  | n :: t => by
    have := tri_total xs t
    rw [List.map_cons, totalL, this, List.length_cons, show (triOf xs n).length = 3 from rfl]
    omega
theorem FnExactPairsOfRow : laws_FnExactPairsOfRow.Pure := by
  intro l hl hw
  obtain ⟨K1, h1⟩ := sPairsOf_ev l hl
  obtain ⟨K2, h2⟩ := iPairsOfRow_ev l hl
  have hn := numsL_len l
  have ht := tri_total l (numsL l)
  by_cases c : isB l = true
  · rw [if_pos c] at h1 h2
    exact ⟨K1 + K2, _, _, h1 _ (by omega), h2 _ (by omega), by rw [List.length_map]; omega, by omega⟩
  · rw [if_neg c] at h1 h2
    exact ⟨K1 + K2, _, _, h1 _ (by omega), h2 _ (by omega), by simp, by simp [totalL]⟩
end Go.Proofs.Ytgpnhaaklhinlaa.Pure
