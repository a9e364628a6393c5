/- The law FnExactPutNumber holds for every input: what the program's function computes is what the reference's computes. Conditions: none but the statement's own. -/
import Derived.Test.YtkkafjipnlmjoaaPFnExactPutNumberx5
import Derived.Test.YtkkafjipnlmjoaaAid
namespace Go.Proofs.Ytkkafjipnlmjoaa.Pure
open Go.RowKit Go.Proofs.Ytkkafjipnlmjoaa.PFnExactPutNumber Go.Proofs.YtkkafjipnlmjoaaW.PrintWords Go.Proofs.YtkkafjipnlmjoaaW.PrintLast Go.Proofs.Ytkkafjipnlmjoaa.Aid
set_option linter.unusedVariables false
set_option linter.unusedSimpArgs false
theorem toIntS_l0 (xs : List Int) (hx : xs.length ≤ 1048576) : ∀ (t : List Int) (i : Nat) (ys : List Int), xs.drop i = t → i ≤ xs.length → ys.length = xs.length → ys.take i = xs.take i → Ev (fun k => laws_toIntS.l0 k xs ys (i : Int)) xs
  | [], i, ys, h, hi, hl, he => by
    have h1 := dropNil h
    obtain rfl : ys = xs := by
      have : i = xs.length := by omega
      subst this
      rw [List.take_of_length_le (by omega), List.take_of_length_le (by omega)] at he
      exact he
    refine Ev.of1 (fun k => ?_)
    simp (disch := omega) only [if_true, if_false, Bool.false_eq_true, laws_toIntS.l0, if_neg]
  | x :: t, i, ys, h, hi, hl, he => by
    obtain ⟨h1, h2, h3⟩ := dropCons h
    refine Ev.step (f := fun k => laws_toIntS.l0 k xs (ys.set i x) ((i + 1 : Nat) : Int)) (fun k => ?_) (toIntS_l0 xs hx t (i + 1) _ h3 (by omega) (by simpa using hl) ?_)
    · simp (disch := omega) only [if_true, if_false, Bool.false_eq_true, laws_toIntS.l0, if_pos, w64s, h2, toNat_cast]
    · rw [take_succ_at h, List.take_add_one, List.take_set_of_le (by omega), he]
      simp [hl, h1]
theorem toIntS_ev (xs : List Int) (hx : xs.length ≤ 1048576) : Ev (fun k => laws_toIntS.f k xs) xs := by
  refine Ev.congr (fun k => ?_) (toIntS_l0 xs hx xs 0 (List.replicate xs.length 0) rfl (by omega) (by simp) rfl)
  unfold laws_toIntS.f
  rw [if_pos (by omega), if_pos (by omega)]
  rfl
theorem eqIntS_l0 (xs ys : List Int) (hx : xs.length ≤ 1048576) (hl : xs.length = ys.length) : ∀ (s t : List Int) (i : Nat), xs.drop i = s → ys.drop i = t → Ev (fun k => laws_eqIntS.l0 k xs ys (i : Int)) (decide (s = t))
  | [], t, i, h, h' => by
    have h1 := dropNil h
    have h2 : t = [] := by rw [← h']; simp; omega
    subst h2
    refine Ev.of1 (fun k => ?_)
    simp (disch := omega) only [if_true, if_false, Bool.false_eq_true, laws_eqIntS.l0, if_neg]
    simp
  | x :: s, [], i, h, h' => by
    have h1 := dropLt h
    have h2 := dropNil h'
    omega
  | x :: s, y :: t, i, h, h' => by
    obtain ⟨h1, h2, h3⟩ := dropCons h
    obtain ⟨h1', h2', h3'⟩ := dropCons h'
    by_cases c : x = y
    · refine Ev.step (f := fun k => laws_eqIntS.l0 k xs ys ((i + 1 : Nat) : Int)) (fun k => ?_) ((eqIntS_l0 xs ys hx hl s t (i + 1) h3 h3').cast (by simp [c]))
      simp (disch := omega) only [if_true, if_false, Bool.false_eq_true, laws_eqIntS.l0, if_pos, w64s, h2, h2']
    · refine Ev.of1 (fun k => ?_)
      simp (disch := omega) only [if_true, if_false, Bool.false_eq_true, laws_eqIntS.l0, if_pos, if_neg, h2, h2']
      simp [c]
theorem eqIntS_ev (xs ys : List Int) (hx : xs.length ≤ 1048576) : Ev (fun k => laws_eqIntS.f k xs ys) (decide (xs = ys)) := by
  by_cases c : xs.length = ys.length
  · refine Ev.congr (fun k => ?_) (eqIntS_l0 xs ys hx c xs ys 0 rfl rfl)
    unfold laws_eqIntS.f
    rw [if_pos (by omega)]
    rfl
  · refine Ev.all (fun k => ?_)
    unfold laws_eqIntS.f
    rw [if_neg (by omega)]
    have : xs ≠ ys := fun e => c (by rw [e])
    simp [this]
theorem eqIntS_same (xs : List Int) (hx : xs.length ≤ 1048576) : Ev (fun k => laws_eqIntS.f k xs xs) true := (eqIntS_ev xs xs hx).cast (by simp)
theorem markIntS_l0 : ∀ (t : List Int) (xs : List Int) (i : Nat) (m : Int), xs.length ≤ 1048576 → xs.drop i = t → 0 ≤ m → m + t.length ≤ 9223372036854775807 → Ev (fun k => laws_markIntS.l0 k xs m (i : Int)) (m + t.length, xs.take i ++ upFrom t.length m)
  | [], xs, i, m, hx, h, hm, hb => by
    have h1 := dropNil h
    refine Ev.of1 (fun k => ?_)
    simp (disch := omega) only [if_true, if_false, Bool.false_eq_true, laws_markIntS.l0, if_neg]
    simp [upFrom, List.take_of_length_le h1]
  | x :: t, xs, i, m, hx, h, hm, hb => by
    obtain ⟨h1, h2, h3⟩ := dropCons h
    simp only [List.length_cons] at hb
    have e : (xs.set i m).drop (i + 1) = t := by rw [List.drop_set_of_lt (by omega), h3]
    refine Ev.step (f := fun k => laws_markIntS.l0 k (xs.set i m) (m + 1) ((i + 1 : Nat) : Int)) (fun k => ?_) ((markIntS_l0 t (xs.set i m) (i + 1) (m + 1) (by simpa using hx) e (by omega) (by omega)).cast ?_)
    · have e1 : wrap64 (m + 1) = m + 1 := w64 (by omega) (by omega)
      simp (disch := omega) only [if_true, if_false, Bool.false_eq_true, laws_markIntS.l0, if_pos, w64s, e1, toNat_cast]
    · rw [set_at _ _ _ _ _ h]
      have : (xs.take i ++ m :: t).take (i + 1) = xs.take i ++ [m] := by
        have hl : (xs.take i).length = i := by simp; omega
        rw [List.take_append, List.take_of_length_le (by omega), hl, show i + 1 - i = 1 by omega]
        rfl
      rw [this]
      simp [upFrom]
      omega
theorem markIntS_ev (xs : List Int) (hx : xs.length ≤ 1048576) : Ev (fun k => laws_markIntS.f k xs 1) (1 + xs.length, upFrom xs.length 1) :=
  (Ev.congr (fun k => rfl) (markIntS_l0 xs xs 0 1 hx rfl (by omega) (by omega))).cast (by simp)
theorem heldIntS_l0 (xs : List Int) (hx : xs.length ≤ 1048576) : ∀ (n : Nat) (i : Nat) (m : Int), xs.drop i = upFrom n m → 0 ≤ m → m + n ≤ 9223372036854775807 → Ev (fun k => laws_heldIntS.l0 k xs m (i : Int)) (m + n)
  | 0, i, m, h, hm, hb => by
    have h1 := dropNil h
    refine Ev.of1 (fun k => ?_)
    simp (disch := omega) only [if_true, if_false, Bool.false_eq_true, laws_heldIntS.l0, if_neg]
    simp
  | n + 1, i, m, h, hm, hb => by
    obtain ⟨h1, h2, h3⟩ := dropCons (x := m) (t := upFrom n (m + 1)) h
    refine Ev.step (f := fun k => laws_heldIntS.l0 k xs (m + 1) ((i + 1 : Nat) : Int)) (fun k => ?_) ((heldIntS_l0 xs hx n (i + 1) (m + 1) h3 (by omega) (by omega)).cast (by omega))
    have e1 : wrap64 (m + 1) = m + 1 := w64 (by omega) (by omega)
    simp (disch := omega) only [if_true, if_false, Bool.false_eq_true, laws_heldIntS.l0, if_pos, w64s, e1, h2]
theorem heldIntS_ev (n : Nat) (hx : n ≤ 1048576) : Ev (fun k => laws_heldIntS.f k (upFrom n 1) 1) (1 + n) :=
  Ev.congr (fun k => rfl) (heldIntS_l0 (upFrom n 1) (by rw [upFrom_length]; exact hx) n 0 1 rfl (by omega) (by omega))
theorem l1All_l0 (lo hi : Int) (xs : List Int) (hx : xs.length ≤ 1048576) : ∀ (t : List Int) (i : Nat), xs.drop i = t → Ev (fun k => spec_l1All.l0 k lo hi xs xs.length (i : Int)) (t.all fun n => decide (lo ≤ n ∧ n ≤ hi))
  | [], i, h => by
    have h1 := dropNil h
    refine Ev.of1 (fun k => ?_)
    simp (disch := omega) only [if_true, if_false, Bool.false_eq_true, spec_l1All.l0, if_neg]
    rfl
  | x :: t, i, h => by
    obtain ⟨h1, h2, h3⟩ := dropCons h
    by_cases c : lo ≤ x ∧ x ≤ hi
    · refine Ev.step (f := fun k => spec_l1All.l0 k lo hi xs xs.length ((i + 1 : Nat) : Int)) (fun k => ?_) ((l1All_l0 lo hi xs hx t (i + 1) h3).cast (by simp [c]))
      simp (disch := omega) only [if_true, if_false, Bool.false_eq_true, spec_l1All.l0, spec_l1In.f, if_pos, w64s, h2, Option.bind_some, decide_eq_true_eq]
    · refine Ev.of1 (fun k => ?_)
      simp (disch := omega) only [if_true, if_false, Bool.false_eq_true, spec_l1All.l0, spec_l1In.f, if_pos, h2]
      by_cases c1 : lo ≤ x
      · have c2 : ¬ x ≤ hi := fun h' => c ⟨c1, h'⟩
        simp [c1, c2]
      · simp [c1]
theorem l1All_ev (xs : List Int) (lo hi : Int) (hx : xs.length ≤ 1048576) : Ev (fun k => spec_l1All.f k xs lo hi) (xs.all fun n => decide (lo ≤ n ∧ n ≤ hi)) :=
  Ev.congr (fun k => rfl) (l1All_l0 lo hi xs hx xs 0 rfl)
def rowB (l : List Int) : Bool := decide ((l.length : Int) ≤ 40) && l.all fun n => decide (0 ≤ n ∧ n ≤ 20)
theorem roGood_ev (xs : List Int) (hx : xs.length ≤ 1048576) : Ev (fun k => spec_roGood.f k xs) (rowB xs) := by
  unfold spec_roGood.f rowB
  by_cases c : (xs.length : Int) ≤ 40
  · simp only [c, if_true]
    refine (Ev.bind (l1All_ev xs 0 20 hx) (Ev.now _)).cast (by simp)
  · simp only [c, if_false]
    exact (Ev.now _).cast (by simp)
/-- The places, counted from i on, of a number. -/
def placesFrom (n : Int) : List Int → Nat → List Int
  | [], _ => []
  | x :: t, i => if x = n then (i : Int) :: placesFrom n t (i + 1) else placesFrom n t (i + 1)
theorem placesFrom_length (n : Int) : ∀ (t : List Int) (i : Nat), (placesFrom n t i).length ≤ t.length
  | [], _ => Nat.le_refl _
  | x :: t, i => by
    have := placesFrom_length n t (i + 1)
    unfold placesFrom
    split <;> simp <;> omega
theorem roPlaces_l0 (n : Int) (xs : List Int) (hx : xs.length ≤ 1048576) : ∀ (t : List Int) (i : Nat) (acc : List Int), xs.drop i = t → acc.length ≤ i → Ev (fun k => spec_roPlaces.l0 k n acc xs xs.length (i : Int)) (acc ++ placesFrom n t i)
  | [], i, acc, h, ha => by
    have h1 := dropNil h
    refine Ev.of1 (fun k => ?_)
    simp (disch := omega) only [if_true, if_false, Bool.false_eq_true, spec_roPlaces.l0, if_neg]
    simp [placesFrom]
  | x :: t, i, acc, h, ha => by
    obtain ⟨h1, h2, h3⟩ := dropCons h
    by_cases c : x = n
    · refine Ev.step (f := fun k => spec_roPlaces.l0 k n (acc ++ [(i : Int)]) xs xs.length ((i + 1 : Nat) : Int)) (fun k => ?_) ((roPlaces_l0 n xs hx t (i + 1) _ h3 (by simp; omega)).cast (by simp [placesFrom, c]))
      simp (disch := omega) only [if_true, if_false, Bool.false_eq_true, spec_roPlaces.l0, if_pos, w64s, h2, c]
    · refine Ev.step (f := fun k => spec_roPlaces.l0 k n acc xs xs.length ((i + 1 : Nat) : Int)) (fun k => ?_) ((roPlaces_l0 n xs hx t (i + 1) _ h3 (by omega)).cast (by simp [placesFrom, c]))
      simp (disch := omega) only [if_true, if_false, Bool.false_eq_true, spec_roPlaces.l0, if_pos, if_neg, w64s, h2]
theorem roPlaces_ev (xs : List Int) (n : Int) (hx : xs.length ≤ 1048576) : Ev (fun k => spec_roPlaces.f k xs n) (placesFrom n xs 0) :=
  (Ev.congr (fun k => rfl) (roPlaces_l0 n xs hx xs 0 [] rfl (by simp))).cast (by simp)
def hasB (n : Int) (l : List Int) : Bool := l.any fun x => decide (x = n)
theorem hasB_places (n : Int) : ∀ (t : List Int) (i : Nat), hasB n t = decide ((placesFrom n t i).length ≠ 0)
  | [], i => by simp [hasB, placesFrom]
  | x :: t, i => by
    have h := hasB_places n t (i + 1)
    by_cases c : x = n
    · simp [hasB, placesFrom, c]
    · simp only [placesFrom, if_neg c, ← h]
      simp [hasB, c]
theorem placesFrom_snoc (n x : Int) : ∀ (t : List Int) (i : Nat), placesFrom n (t ++ [x]) i = placesFrom n t i ++ (if x = n then [((i + t.length : Nat) : Int)] else [])
  | [], i => by
    simp only [List.nil_append, placesFrom, List.length_nil, Nat.add_zero]
  | y :: t, i => by
    have h := placesFrom_snoc n x t (i + 1)
    simp only [List.cons_append, placesFrom, h, List.length_cons]
    rw [show i + (t.length + 1) = i + 1 + t.length by omega]
    split <;> simp
theorem rowB_iff (xs : List Int) : rowB xs = true ↔ xs.length ≤ 40 ∧ ∀ x ∈ xs, 0 ≤ x ∧ x ≤ 20 := by
  simp only [rowB, Bool.and_eq_true, decide_eq_true_eq, List.all_eq_true]
  constructor
  · intro h
    exact ⟨by omega, h.2⟩
  · intro h
    exact ⟨by omega, h.2⟩
theorem st_get (xs : List Int) (hx : ∀ x ∈ xs, 0 ≤ x ∧ x ≤ 20) : ∀ k, k ≤ xs.length → ∀ n, n < 21 → (impl_pairs.st xs k).getD n [] = if n = 0 then [] else placesFrom (n : Int) (xs.take k) 0
  | 0, _, n, hn => by
    rw [impl_pairs.st, List.getD_eq_getElem?_getD, List.getElem?_replicate, if_pos hn, List.take_zero]
    split <;> rfl
  | k + 1, hk, n, hn => by
    have ih := st_get xs hx k (by omega)
    have hlt : k < xs.length := by omega
    have e : rd xs (k : Int) = xs[k] := rd_lt hlt
    have hb := hx xs[k] (List.getElem_mem hlt)
    have et : xs.take (k + 1) = xs.take k ++ [xs[k]] := List.take_succ_eq_append_getElem hlt
    have el : (xs.take k).length = k := by simp; omega
    rw [et, placesFrom_snoc, el, impl_pairs.st, e]
    generalize xs[k] = x at hb
    by_cases c : 0 < x
    · rw [if_pos c, List.getD_eq_getElem?_getD, List.getElem?_set]
      by_cases d : x.toNat = n
      · rw [if_pos d, if_pos (by rw [impl_pairs.st_len]; omega), Option.getD_some, d, ih n hn]
        have h0 : n ≠ 0 := by omega
        have h1 : x = (n : Int) := by omega
        simp [h0, h1]
      · rw [if_neg d, ← List.getD_eq_getElem?_getD, ih n hn]
        have h1 : ¬ x = (n : Int) := by omega
        simp [h1]
    · rw [if_neg c, ih n hn]
      by_cases z : n = 0
      · simp [z]
      · have h1 : ¬ x = (n : Int) := by omega
        simp [z, h1]
theorem st_all (xs : List Int) (hx : ∀ x ∈ xs, 0 ≤ x ∧ x ≤ 20) (n : Nat) (hn : n < 21) (h0 : n ≠ 0) : (impl_pairs.st xs xs.length).getD n [] = placesFrom (n : Int) xs 0 := by
  rw [st_get xs hx _ (Nat.le_refl _) n hn, if_neg h0, List.take_length]
theorem st_zero (xs : List Int) (hx : ∀ x ∈ xs, 0 ≤ x ∧ x ≤ 20) : (impl_pairs.st xs xs.length).getD 0 [] = [] := by
  rw [st_get xs hx _ (Nat.le_refl _) 0 (by omega), if_pos rfl]
theorem okl_iff (L : List (List Int)) : ∀ k, impl_pairs.okl L k = true ↔ ∀ n, n < k → (L.getD n []).length = 0 ∨ (L.getD n []).length = 2
  | 0 => by simp [impl_pairs.okl]
  | k + 1 => by
    simp only [impl_pairs.okl, Bool.and_eq_true, Bool.or_eq_true, beq_iff_eq, okl_iff L k]
    constructor
    · intro h n hn
      by_cases e : n = k
      · subst e; exact h.2
      · exact h.1 n (by omega)
    · intro h
      exact ⟨fun n hn => h n (by omega), h k (by omega)⟩
def pBf (xs : List Int) : Nat → Nat → Bool
  | 0, _ => true
  | r + 1, n => ((placesFrom (n : Int) xs 0).length == 0 || (placesFrom (n : Int) xs 0).length == 2) && pBf xs r (n + 1)
theorem pBf_iff (xs : List Int) : ∀ r n, pBf xs r n = true ↔ ∀ m, n ≤ m → m < n + r → (placesFrom (m : Int) xs 0).length = 0 ∨ (placesFrom (m : Int) xs 0).length = 2
  | 0, n => by
    simp only [pBf, true_iff]
    intro m h1 h2
    omega
  | r + 1, n => by
    simp only [pBf, Bool.and_eq_true, Bool.or_eq_true, beq_iff_eq, pBf_iff xs r (n + 1)]
    constructor
    · intro h m h1 h2
      by_cases e : m = n
      · subst e; exact h.1
      · exact h.2 m (by omega) (by omega)
    · intro h
      exact ⟨h n (by omega) (by omega), fun m h1 h2 => h m (by omega) (by omega)⟩
theorem okl_pB (xs : List Int) (hx : ∀ x ∈ xs, 0 ≤ x ∧ x ≤ 20) : impl_pairs.okl (impl_pairs.st xs xs.length) 21 = pBf xs 20 1 := by
  rw [Bool.eq_iff_iff, okl_iff, pBf_iff]
  constructor
  · intro h m h1 h2
    have := h m (by omega)
    rwa [st_all xs hx m (by omega) (by omega)] at this
  · intro h n hn
    by_cases e : n = 0
    · subst e
      rw [st_zero xs hx]
      exact .inl rfl
    · rw [st_all xs hx n hn e]
      exact h n (by omega) (by omega)
/-- A pair row. -/
def isB (xs : List Int) : Bool := rowB xs && pBf xs 20 1
theorem isB_row {xs : List Int} (h : isB xs = true) : rowB xs = true := by
  simp only [isB, Bool.and_eq_true] at h
  exact h.1
theorem isB_len {xs : List Int} (h : isB xs = true) : xs.length ≤ 40 := ((rowB_iff xs).1 (isB_row h)).1
theorem isB_rng {xs : List Int} (h : isB xs = true) : ∀ x ∈ xs, 0 ≤ x ∧ x ≤ 20 := ((rowB_iff xs).1 (isB_row h)).2
theorem isB_two {xs : List Int} (h : isB xs = true) (m : Nat) (h1 : 1 ≤ m) (h2 : m ≤ 20) : (placesFrom (m : Int) xs 0).length = 0 ∨ (placesFrom (m : Int) xs 0).length = 2 := by
  simp only [isB, Bool.and_eq_true] at h
  exact (pBf_iff xs 20 1).1 h.2 m h1 (by omega)
def numsFrom (xs : List Int) : Nat → Nat → List Int
  | 0, _ => []
  | r + 1, n => if hasB (n : Int) xs = true then (n : Int) :: numsFrom xs r (n + 1) else numsFrom xs r (n + 1)
theorem numsFrom_len (xs : List Int) : ∀ r n, (numsFrom xs r n).length ≤ r
  | 0, _ => Nat.le_refl _
  | r + 1, n => by
    have := numsFrom_len xs r (n + 1)
    unfold numsFrom
    split <;> simp <;> omega
theorem numsFrom_mem (xs : List Int) (x : Int) : ∀ r n, x ∈ numsFrom xs r n ↔ ∃ m : Nat, n ≤ m ∧ m < n + r ∧ x = (m : Int) ∧ hasB (m : Int) xs = true
  | 0, n => by
    simp only [numsFrom, List.not_mem_nil, false_iff]
    rintro ⟨m, h1, h2, _⟩
    omega
  | r + 1, n => by
    have ih := numsFrom_mem xs x r (n + 1)
    unfold numsFrom
    by_cases c : hasB (n : Int) xs = true
    · rw [if_pos c, List.mem_cons, ih]
      constructor
      · rintro (h | ⟨m, h1, h2, h3, h4⟩)
        · exact ⟨n, by omega, by omega, h, c⟩
        · exact ⟨m, by omega, by omega, h3, h4⟩
      · rintro ⟨m, h1, h2, h3, h4⟩
        by_cases e : m = n
        · subst e; exact .inl h3
        · exact .inr ⟨m, by omega, by omega, h3, h4⟩
    · rw [if_neg c, ih]
      constructor
      · rintro ⟨m, h1, h2, h3, h4⟩
        exact ⟨m, by omega, by omega, h3, h4⟩
      · rintro ⟨m, h1, h2, h3, h4⟩
        by_cases e : m = n
        · subst e; exact absurd h4 c
        · exact ⟨m, by omega, by omega, h3, h4⟩
/-- A row's numbers, increasing. -/
def numsL (xs : List Int) : List Int := numsFrom xs 20 1
theorem numsL_mem {xs : List Int} {x : Int} (h : x ∈ numsL xs) : 1 ≤ x ∧ x ≤ 20 ∧ hasB x xs = true := by
  obtain ⟨m, h1, h2, rfl, h4⟩ := (numsFrom_mem xs x 20 1).1 h
  exact ⟨by omega, by omega, h4⟩
theorem numsL_two {xs : List Int} (h : isB xs = true) {x : Int} (hx : x ∈ numsL xs) : (placesFrom x xs 0).length = 2 := by
  obtain ⟨m, h1, h2, rfl, h4⟩ := (numsFrom_mem xs x 20 1).1 hx
  rw [hasB_places (m : Int) xs 0, decide_eq_true_eq] at h4
  have := isB_two h m h1 (by omega)
  omega
theorem roPairs_l0 (xs : List Int) (hx : xs.length ≤ 1048576) : ∀ (r n : Nat), n + r = 21 → Ev (fun k => spec_roPairs.l0 k xs (n : Int)) (pBf xs r n)
  | 0, n, h => by
    refine Ev.of1 (fun k => ?_)
    simp (disch := omega) only [if_true, if_false, Bool.false_eq_true, spec_roPairs.l0, if_neg, pBf]
  | r + 1, n, h => by
    have ih := roPairs_l0 xs hx r (n + 1) (by omega)
    refine Ev.step (f := fun k => (spec_roPlaces.f k xs (n : Int)).bind fun t => if (t.length : Int) = 0 then (spec_roPairs.l0 k xs ((n + 1 : Nat) : Int)) else (if (t.length : Int) = 2 then (spec_roPairs.l0 k xs ((n + 1 : Nat) : Int)) else (some false))) (fun k => ?_) (Ev.bind (roPlaces_ev xs n hx) ?_)
    · simp (disch := omega) only [if_true, if_false, Bool.false_eq_true, spec_roPairs.l0, if_pos, w64s]
    · generalize hp : placesFrom (n : Int) xs 0 = p
      by_cases c : p.length = 0
      · have c' : (p.length : Int) = 0 := by omega
        simp only [c', if_true]
        exact ih.cast (by simp [pBf, hp, c])
      · have c' : ¬ (p.length : Int) = 0 := by omega
        by_cases d : p.length = 2
        · have d' : (p.length : Int) = 2 := by omega
          simp only [c', d', if_true, if_false]
          exact ih.cast (by simp [pBf, hp, d])
        · have d' : ¬ (p.length : Int) = 2 := by omega
          simp only [c', d', if_false]
          refine (Ev.now _).cast ?_
          have e1 : (p.length == 0) = false := beq_eq_false_iff_ne.2 c
          have e2 : (p.length == 2) = false := beq_eq_false_iff_ne.2 d
          simp [pBf, hp, e1, e2]
theorem roPairs_ev (xs : List Int) (hx : xs.length ≤ 1048576) : Ev (fun k => spec_roPairs.f k xs) (pBf xs 20 1) :=
  Ev.congr (fun k => rfl) (roPairs_l0 xs hx 20 1 rfl)
theorem roIs_ev (xs : List Int) (hx : xs.length ≤ 1048576) : Ev (fun k => spec_roIs.f k xs) (isB xs) := by
  unfold spec_roIs.f isB
  refine Ev.bind (roGood_ev xs hx) ?_
  by_cases c : rowB xs = true
  · simp only [c, if_true, Bool.true_and]
    exact (Ev.bind (roPairs_ev xs hx) (Ev.now _))
  · simp only [c, if_false]
    exact (Ev.now _).cast (by simp)
theorem roNumber_at (n : Int) : spec_roNumber.f n = some (decide (1 ≤ n ∧ n ≤ 20)) := by
  unfold spec_roNumber.f spec_l1In.f
  by_cases c : n ≥ 1
  · have c' : 1 ≤ n := c
    simp [c, c']
  · have c' : ¬ 1 ≤ n := c
    simp [c, c']
theorem l1Has_l0 (n : Int) (xs : List Int) (hx : xs.length ≤ 1048576) : ∀ (t : List Int) (i : Nat), xs.drop i = t → Ev (fun k => spec_l1Has.l0 k n xs xs.length (i : Int)) (hasB n t)
  | [], i, h => by
    have h1 := dropNil h
    refine Ev.of1 (fun k => ?_)
    simp (disch := omega) only [if_true, if_false, Bool.false_eq_true, spec_l1Has.l0, if_neg]
    rfl
  | x :: t, i, h => by
    obtain ⟨h1, h2, h3⟩ := dropCons h
    by_cases c : x = n
    · refine Ev.of1 (fun k => ?_)
      simp (disch := omega) only [if_true, if_false, Bool.false_eq_true, spec_l1Has.l0, if_pos, h2, c]
      simp [hasB]
    · refine Ev.step (f := fun k => spec_l1Has.l0 k n xs xs.length ((i + 1 : Nat) : Int)) (fun k => ?_) ((l1Has_l0 n xs hx t (i + 1) h3).cast (by simp [hasB, c]))
      simp (disch := omega) only [if_true, if_false, Bool.false_eq_true, spec_l1Has.l0, if_pos, if_neg, w64s, h2]
theorem l1Has_ev (xs : List Int) (n : Int) (hx : xs.length ≤ 1048576) : Ev (fun k => spec_l1Has.f k xs n) (hasB n xs) :=
  Ev.congr (fun k => rfl) (l1Has_l0 n xs hx xs 0 rfl)
theorem l1Own_at (xs : List Int) (hx : xs.length ≤ 1048576) : spec_l1Own.f xs = some xs := by
  simp only [spec_l1Own.f, Option.bind_some, List.length_nil, Nat.zero_add, List.nil_append]
  rw [if_pos (by omega)]
theorem IsRow_l0 (xs : List Int) (hx : xs.length ≤ 1048576) : ∀ (t : List Int) (i : Nat), xs.drop i = t → Ev (fun k => impl_IsRow.l0 k xs xs xs.length (i : Int)) (decide ((xs.length : Int) ≤ 40) && t.all fun n => decide (0 ≤ n ∧ n ≤ 20))
  | [], i, h => by
    have h1 := dropNil h
    refine Ev.of1 (fun k => ?_)
    simp (disch := omega) only [if_true, if_false, Bool.false_eq_true, impl_IsRow.l0, if_neg]
    simp
  | x :: t, i, h => by
    obtain ⟨h1, h2, h3⟩ := dropCons h
    by_cases c : 0 ≤ x ∧ x ≤ 20
    · refine Ev.step (f := fun k => impl_IsRow.l0 k xs xs xs.length ((i + 1 : Nat) : Int)) (fun k => ?_) ((IsRow_l0 xs hx t (i + 1) h3).cast (by simp [c]))
      simp (disch := omega) only [if_true, if_false, Bool.false_eq_true, impl_IsRow.l0, if_pos, if_neg, w64s, h2]
    · refine Ev.of1 (fun k => ?_)
      simp (disch := omega) only [if_true, if_false, Bool.false_eq_true, impl_IsRow.l0, if_pos, h2]
      by_cases c1 : x < 0
      · have : ¬ 0 ≤ x := by omega
        simp [c1, this]
      · have c2 : 20 < x := by omega
        have : ¬ x ≤ 20 := by omega
        simp [c1, c2, this]
theorem IsRow_ev (xs : List Int) (hx : xs.length ≤ 1048576) : Ev (fun k => impl_IsRow.f k xs) (rowB xs) :=
  Ev.congr (fun k => rfl) (IsRow_l0 xs hx xs 0 rfl)
theorem isPairs_ev (xs : List Int) (hx : xs.length ≤ 1048576) : Ev (fun k => impl_isPairs.f k xs) (isB xs) := by
  unfold impl_isPairs.f isB
  refine Ev.bind (IsRow_ev xs hx) ?_
  by_cases c : rowB xs = true
  · simp only [c, if_true, Bool.true_and]
    exact (Ev.now _).cast (okl_pB xs ((rowB_iff xs).1 c).2)
  · simp only [c, if_false]
    exact (Ev.now _).cast (by simp)
theorem Clone_at (xs : List Int) (hx : xs.length ≤ 1048576) : slices_Clone_int_int.f xs = some xs := by
  unfold slices_Clone_int_int.f
  rw [if_pos (by omega)]
theorem Index_l0 (n : Int) (xs : List Int) (hx : xs.length ≤ 1048576) : ∀ (t : List Int) (i : Nat), xs.drop i = t → ∃ r : Int, Ev (fun k => slices_Index_int_int.l0 k xs n xs.length (i : Int)) r ∧ decide (r ≥ 0) = hasB n t
  | [], i, h => by
    have h1 := dropNil h
    refine ⟨-1, Ev.of1 (fun k => ?_), by simp [hasB]⟩
    simp (disch := omega) only [if_true, if_false, Bool.false_eq_true, slices_Index_int_int.l0, if_neg]
  | x :: t, i, h => by
    obtain ⟨h1, h2, h3⟩ := dropCons h
    by_cases c : n = x
    · refine ⟨(i : Int), Ev.of1 (fun k => ?_), by simp [hasB, c]⟩
      simp (disch := omega) only [if_true, if_false, Bool.false_eq_true, slices_Index_int_int.l0, if_pos, h2]
    · obtain ⟨r, hr, hd⟩ := Index_l0 n xs hx t (i + 1) h3
      refine ⟨r, Ev.step (f := fun k => slices_Index_int_int.l0 k xs n xs.length ((i + 1 : Nat) : Int)) (fun k => ?_) hr, by rw [hd]; simp [hasB, Ne.symm c]⟩
      simp (disch := omega) only [if_true, if_false, Bool.false_eq_true, slices_Index_int_int.l0, if_pos, if_neg, w64s, h2]
theorem Contains_ev (xs : List Int) (n : Int) (hx : xs.length ≤ 1048576) : Ev (fun k => slices_Contains_int_int.f k xs n) (hasB n xs) := by
  obtain ⟨r, hr, hd⟩ := Index_l0 n xs hx xs 0 rfl
  unfold slices_Contains_int_int.f
  refine (Ev.bind (f := fun _ t => some (decide (t ≥ 0))) (a := r) (Ev.congr (fun k => rfl) hr) (Ev.now _)).cast hd
theorem isShift_at (n : Int) : impl_isShift.f n = some (decide (0 ≤ n ∧ n ≤ 1)) := by
  unfold impl_isShift.f
  by_cases c : n = 0
  · simp [c]
  · by_cases d : n = 1
    · simp [d]
    · have : ¬ (0 ≤ n ∧ n ≤ 1) := by omega
      rw [if_neg c, decide_eq_false this, beq_eq_false_iff_ne.2 d]
theorem l1In01_at (n : Int) : spec_l1In.f n 0 1 = some (decide (0 ≤ n ∧ n ≤ 1)) := by
  unfold spec_l1In.f
  by_cases c : n ≥ 0
  · have c' : 0 ≤ n := c
    simp [c, c']
  · have c' : ¬ 0 ≤ n := c
    simp [c, c']
theorem isNumber_at (n : Int) : impl_isNumber.f n = some (decide (1 ≤ n ∧ n ≤ 20)) := by
  unfold impl_isNumber.f
  by_cases c : n ≥ 1
  · have c' : 1 ≤ n := c
    simp [c, c']
  · have c' : ¬ 1 ≤ n := c
    simp [c, c']
def putR (xs : List Int) (n at_ s : Int) : List Int × Bool :=
  if isB xs = true ∧ (1 ≤ n ∧ n ≤ 20) ∧ (0 ≤ s ∧ s ≤ 1) ∧ ¬ hasB n xs = true ∧ (0 ≤ at_ ∧ at_ + n + s < xs.length) ∧ rd xs at_ = 0 ∧ rd xs (at_ + n + s) = 0 then ((xs.set at_.toNat n).set (at_ + n + s).toNat n, true) else ([], false)
theorem sPutNumber_ev (xs : List Int) (n at_ s : Int) (hx : xs.length ≤ 1048576) : Ev (fun k => spec_PutNumber.f k xs n at_ s) (putR xs n at_ s) := by
  unfold spec_PutNumber.f
  refine Ev.bind (roIs_ev xs hx) ?_
  by_cases c : isB xs = true
  · have hlen := isB_len c
    by_cases d : 1 ≤ n ∧ n ≤ 20
    · by_cases e : 0 ≤ s ∧ s ≤ 1
      · simp only [c, if_true, roNumber_at, l1In01_at, Option.bind_some, decide_eq_true d, decide_eq_true e]
        refine Ev.bind (l1Has_ev xs n hx) ?_
        by_cases g : hasB n xs = true
        · simp only [g, if_true]
          exact (Ev.now _).cast (by unfold putR; rw [if_neg (fun h => h.2.2.2.1 g)])
        · simp only [g, if_false, Bool.false_eq_true]
          have w1 : wrap64 (wrap64 (wrap64 ((xs.length : Int) - 1) - n) - s) = (xs.length : Int) - 1 - n - s := by
            rw [w64 (n := (xs.length : Int) - 1) (by omega) (by omega), w64 (n := (xs.length : Int) - 1 - n) (by omega) (by omega), w64 (by omega) (by omega)]
          rw [w1]
          by_cases f : 0 ≤ at_ ∧ at_ + n + s < xs.length
          · have w2 : wrap64 (wrap64 (at_ + n) + s) = at_ + n + s := by
              rw [w64 (n := at_ + n) (by omega) (by omega), w64 (by omega) (by omega)]
            have e1 : spec_l1In.f at_ 0 ((xs.length : Int) - 1 - n - s) = some true := by
              unfold spec_l1In.f
              rw [if_pos (by omega), decide_eq_true (by omega)]
            have f1 : at_ < (xs.length : Int) := by omega
            have f2 : 0 ≤ at_ + n + s := by omega
            simp only [e1, Option.bind_some, if_true, f.1, f1, w2, f2, f.2, l1Own_at xs hx]
            by_cases z : rd xs at_ = 0
            · by_cases y : rd xs (at_ + n + s) = 0
              · simp only [z, y, if_true]
                exact (Ev.now _).cast (by unfold putR; rw [if_pos ⟨c, d, e, g, f, z, y⟩])
              · simp only [z, y, if_true, if_false]
                exact (Ev.now _).cast (by unfold putR; rw [if_neg (fun h => y h.2.2.2.2.2.2)])
            · simp only [z, if_false]
              exact (Ev.now _).cast (by unfold putR; rw [if_neg (fun h => z h.2.2.2.2.2.1)])
          · have e1 : spec_l1In.f at_ 0 ((xs.length : Int) - 1 - n - s) = some false := by
              unfold spec_l1In.f
              by_cases z : at_ ≥ 0
              · rw [if_pos z, decide_eq_false (by omega)]
              · rw [if_neg z]
            simp only [e1, Option.bind_some, Bool.false_eq_true, if_false]
            exact (Ev.now _).cast (by unfold putR; rw [if_neg (fun h => f h.2.2.2.2.1)])
      · simp only [c, if_true, roNumber_at, l1In01_at, Option.bind_some, decide_eq_true d, decide_eq_false e, Bool.false_eq_true, if_false]
        exact (Ev.now _).cast (by unfold putR; rw [if_neg (fun h => e h.2.2.1)])
    · simp only [c, if_true, roNumber_at, Option.bind_some, decide_eq_false d, Bool.false_eq_true, if_false]
      exact (Ev.now _).cast (by unfold putR; rw [if_neg (fun h => d h.2.1)])
  · simp only [c, if_false, Bool.false_eq_true]
    exact (Ev.now _).cast (by unfold putR; rw [if_neg (fun h => c h.1)])
theorem put_t (xs : List Int) (n at_ s : Int) (h : ¬ (isB xs = true ∧ (1 ≤ n ∧ n ≤ 20) ∧ (0 ≤ s ∧ s ≤ 1) ∧ ¬ hasB n xs = true ∧ (0 ≤ at_ ∧ at_ + n + s < xs.length) ∧ rd xs at_ = 0 ∧ rd xs (at_ + n + s) = 0)) : Ev (fun k => impl_PutNumber.j0 k xs n at_ s true) (putR xs n at_ s) :=
  (Ev.of1 (r := ([], false)) (fun k => by simp [impl_PutNumber.j0])).cast (by unfold putR; rw [if_neg h])
theorem PutNumber_ev (xs : List Int) (n at_ s : Int) (hx : xs.length ≤ 1048576) : Ev (fun k => impl_PutNumber.f k xs n at_ s) (putR xs n at_ s) := by
  unfold impl_PutNumber.f
  refine Ev.bind (isPairs_ev xs hx) ?_
  by_cases c : isB xs = true
  · have hlen := isB_len c
    by_cases d : 1 ≤ n ∧ n ≤ 20
    · by_cases e : 0 ≤ s ∧ s ≤ 1
      · simp only [c, if_true, isNumber_at, isShift_at, Option.bind_some, decide_eq_true d, decide_eq_true e]
        refine Ev.bind (Contains_ev xs n hx) ?_
        by_cases g : hasB n xs = true
        · simp only [g, if_true]
          exact put_t xs n at_ s (fun h => h.2.2.2.1 g)
        · simp only [g, if_false, Bool.false_eq_true]
          by_cases f1 : at_ < 0
          · simp only [f1, if_true]
            exact put_t xs n at_ s (fun h => by have := h.2.2.2.2.1; omega)
          · simp only [f1, if_false]
            by_cases f2 : at_ ≥ (xs.length : Int)
            · simp only [f2, if_true]
              exact put_t xs n at_ s (fun h => by have := h.2.2.2.2.1; omega)
            · simp only [f2, if_false]
              have w2 : wrap64 (wrap64 (at_ + n) + s) = at_ + n + s := by
                rw [w64 (n := at_ + n) (by omega) (by omega), w64 (by omega) (by omega)]
              rw [w2]
              by_cases f3 : at_ + n + s ≥ (xs.length : Int)
              · rw [decide_eq_true f3]
                exact put_t xs n at_ s (fun h => by have := h.2.2.2.2.1; omega)
              · rw [decide_eq_false f3]
                refine Ev.of1 (fun k => ?_)
                have e1 : slices_Clone_int_int.f xs = some xs := by unfold slices_Clone_int_int.f; rw [if_pos (by omega)]
                have f4 : 0 ≤ at_ := by omega
                have f5 : at_ < (xs.length : Int) := by omega
                have f6 : 0 ≤ at_ + n + s := by omega
                have f7 : at_ + n + s < (xs.length : Int) := by omega
                simp only [impl_PutNumber.j0, Bool.false_eq_true, if_false, f4, f5, if_true, w2, f6, f7, e1, Option.bind_some]
                unfold putR
                by_cases z : rd xs at_ = 0
                · by_cases y : rd xs (at_ + n + s) = 0
                  · rw [if_pos z, if_pos y, if_pos ⟨c, d, e, g, ⟨f4, f7⟩, z, y⟩]
                  · rw [if_pos z, if_neg y, if_neg (fun h => y h.2.2.2.2.2.2)]
                · rw [if_neg z, if_neg (fun h => z h.2.2.2.2.2.1)]
      · simp only [c, if_true, isNumber_at, isShift_at, Option.bind_some, decide_eq_true d, decide_eq_false e, Bool.false_eq_true, if_false]
        exact put_t xs n at_ s (fun h => e h.2.2.1)
    · simp only [c, if_true, isNumber_at, Option.bind_some, decide_eq_false d, Bool.false_eq_true, if_false]
      exact put_t xs n at_ s (fun h => d h.2.1)
  · simp only [c, if_false, Bool.false_eq_true]
    exact put_t xs n at_ s (fun h => c h.1)
theorem putR_len (xs : List Int) (n at_ s : Int) (hx : xs.length ≤ 1048576) : (putR xs n at_ s).1.length ≤ 1048576 := by
  unfold putR
  split <;> simp <;> omega
theorem FnExactPutNumber : laws_FnExactPutNumber.Pure := by
  intro l n a s hm hr hw hv0 hv1 hv2
  by_cases c : (l.length : Int) > 1048576
  · exact ⟨0, by unfold laws_FnExactPutNumber.f; rw [if_pos c]⟩
  · have hl : l.length ≤ 1048576 := by omega
    obtain ⟨r, b, hR, hS, hI⟩ : ∃ (r : List Int) (b : Bool), r.length ≤ 1048576 ∧ Ev (fun k => spec_PutNumber.f k l n a s) (r, b) ∧ Ev (fun k => impl_PutNumber.f k l n a s) (r, b) := by
      exact ⟨(putR l n a s).1, (putR l n a s).2, putR_len l n a s hl, sPutNumber_ev l n a s hl, PutNumber_ev l n a s hl⟩
    obtain ⟨K1, h1⟩ := toIntS_ev l hl
    obtain ⟨K2, h2⟩ := hS
    obtain ⟨K3, h3⟩ := hI
    obtain ⟨K4, h4⟩ := eqIntS_same l hl
    obtain ⟨K5, h5⟩ := eqIntS_same r hR
    obtain ⟨K6, h6⟩ := markIntS_ev l hl
    obtain ⟨K7, h7⟩ := markIntS_ev r hR
    obtain ⟨K8, h8⟩ := heldIntS_ev r.length hR
    obtain ⟨K, hK⟩ : ∃ K, K = K1 + K2 + K3 + K4 + K5 + K6 + K7 + K8 := ⟨_, rfl⟩
    have n1 : ¬ (1 + (l.length : Int) < 0) := by omega
    have n2 : ¬ (1 + (r.length : Int) < 0) := by omega
    have a1_0 := h1 (K) (by omega)
    have a1_1 := h1 (K + 1) (by omega)
    have a1_2 := h1 (K + 1 + 1) (by omega)
    have a1_3 := h1 (K + 1 + 1 + 1) (by omega)
    have a2_0 := h2 (K) (by omega)
    have a2_1 := h2 (K + 1) (by omega)
    have a2_2 := h2 (K + 1 + 1) (by omega)
    have a2_3 := h2 (K + 1 + 1 + 1) (by omega)
    have a3_0 := h3 (K) (by omega)
    have a3_1 := h3 (K + 1) (by omega)
    have a3_2 := h3 (K + 1 + 1) (by omega)
    have a3_3 := h3 (K + 1 + 1 + 1) (by omega)
    have a4_0 := h4 (K) (by omega)
    have a4_1 := h4 (K + 1) (by omega)
    have a4_2 := h4 (K + 1 + 1) (by omega)
    have a4_3 := h4 (K + 1 + 1 + 1) (by omega)
    have a5_0 := h5 (K) (by omega)
    have a5_1 := h5 (K + 1) (by omega)
    have a5_2 := h5 (K + 1 + 1) (by omega)
    have a5_3 := h5 (K + 1 + 1 + 1) (by omega)
    have a6_0 := h6 (K) (by omega)
    have a6_1 := h6 (K + 1) (by omega)
    have a6_2 := h6 (K + 1 + 1) (by omega)
    have a6_3 := h6 (K + 1 + 1 + 1) (by omega)
    have a7_0 := h7 (K) (by omega)
    have a7_1 := h7 (K + 1) (by omega)
    have a7_2 := h7 (K + 1 + 1) (by omega)
    have a7_3 := h7 (K + 1 + 1 + 1) (by omega)
    have a8_0 := h8 (K) (by omega)
    have a8_1 := h8 (K + 1) (by omega)
    have a8_2 := h8 (K + 1 + 1) (by omega)
    have a8_3 := h8 (K + 1 + 1 + 1) (by omega)
    clear h1 h2 h3 h4 h5 h6 h7 h8 hK hm hr hw hl hR
    refine ⟨K + 1 + 1 + 1, ?_⟩
    simp only [laws_FnExactPutNumber.f, laws_FnExactPutNumber.j0, laws_FnExactPutNumber.j1, laws_FnExactPutNumber.j2, c, n1, n2, a1_0, a1_1, a1_2, a1_3, a2_0, a2_1, a2_2, a2_3, a3_0, a3_1, a3_2, a3_3, a4_0, a4_1, a4_2, a4_3, a5_0, a5_1, a5_2, a5_3, a6_0, a6_1, a6_2, a6_3, a7_0, a7_1, a7_2, a7_3, a8_0, a8_1, a8_2, a8_3, Option.bind_some, bne_self_eq_false, Bool.false_eq_true, if_false, if_true]
end Go.Proofs.Ytkkafjipnlmjoaa.Pure
