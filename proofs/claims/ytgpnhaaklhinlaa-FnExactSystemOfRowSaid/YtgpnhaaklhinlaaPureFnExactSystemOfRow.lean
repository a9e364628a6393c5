/- The law FnExactSystemOfRow holds for every input: what the program's function computes is what the reference's computes. Conditions: none but the statement's own. -/
import Derived.Test.YtgpnhaaklhinlaaPFnExactSystemOfRowx10
import Derived.Test.YtgpnhaaklhinlaaAid
namespace Go.Proofs.Ytgpnhaaklhinlaa.Pure
open Go.RowKit Go.Proofs.Ytgpnhaaklhinlaa.PFnExactSystemOfRow Go.Proofs.YtgpnhaaklhinlaaW.PrintWords Go.Proofs.YtgpnhaaklhinlaaW.PrintLast Go.Proofs.Ytgpnhaaklhinlaa.Aid
set_option linter.unusedVariables false
set_option linter.unusedSimpArgs false
theorem toIntS_l0 (xs : List Int) (hx : xs.length ≤ 1048576) : ∀ (t : List Int) (i : Nat) (ys : List Int), xs.drop i = t → i ≤ xs.length → ys.length = xs.length → ys.take i = xs.take i → Ev (fun k => laws_toIntS.l0 k xs ys (i : Int)) xs
  | [], i, ys, h, hi, hl, he => by
    have h1 := dropNil h
    obtain rfl : ys = xs := by
      have : i = xs.length := by omega
      subst this
      rw [List.take_of_length_le (by omega), List.take_of_length_le (by omega)] at he
      exact he
    refine Ev.of1 (fun k => ?_)
    simp (disch := omega) only [if_true, if_false, Bool.false_eq_true, laws_toIntS.l0, if_neg]
  | x :: t, i, ys, h, hi, hl, he => by
    obtain ⟨h1, h2, h3⟩ := dropCons h
    refine Ev.step (f := fun k => laws_toIntS.l0 k xs (ys.set i x) ((i + 1 : Nat) : Int)) (fun k => ?_) (toIntS_l0 xs hx t (i + 1) _ h3 (by omega) (by simpa using hl) ?_)
    · simp (disch := omega) only [if_true, if_false, Bool.false_eq_true, laws_toIntS.l0, if_pos, w64s, h2, toNat_cast]
    · rw [take_succ_at h, List.take_add_one, List.take_set_of_le (by omega), he]
      simp [hl, h1]
theorem toIntS_ev (xs : List Int) (hx : xs.length ≤ 1048576) : Ev (fun k => laws_toIntS.f k xs) xs := by
  refine Ev.congr (fun k => ?_) (toIntS_l0 xs hx xs 0 (List.replicate xs.length 0) rfl (by omega) (by simp) rfl)
  unfold laws_toIntS.f
  rw [if_pos (by omega), if_pos (by omega)]
  rfl
theorem eqIntS_l0 (xs ys : List Int) (hx : xs.length ≤ 1048576) (hl : xs.length = ys.length) : ∀ (s t : List Int) (i : Nat), xs.drop i = s → ys.drop i = t → Ev (fun k => laws_eqIntS.l0 k xs ys (i : Int)) (decide (s = t))
  | [], t, i, h, h' => by
    have h1 := dropNil h
    have h2 : t = [] := by rw [← h']; simp; omega
    subst h2
    refine Ev.of1 (fun k => ?_)
    simp (disch := omega) only [if_true, if_false, Bool.false_eq_true, laws_eqIntS.l0, if_neg]
    simp
  | x :: s, [], i, h, h' => by
    have h1 := dropLt h
    have h2 := dropNil h'
    omega
  | x :: s, y :: t, i, h, h' => by
    obtain ⟨h1, h2, h3⟩ := dropCons h
    obtain ⟨h1', h2', h3'⟩ := dropCons h'
    by_cases c : x = y
    · refine Ev.step (f := fun k => laws_eqIntS.l0 k xs ys ((i + 1 : Nat) : Int)) (fun k => ?_) ((eqIntS_l0 xs ys hx hl s t (i + 1) h3 h3').cast (by simp [c]))
      simp (disch := omega) only [if_true, if_false, Bool.false_eq_true, laws_eqIntS.l0, if_pos, w64s, h2, h2']
    · refine Ev.of1 (fun k => ?_)
      simp (disch := omega) only [if_true, if_false, Bool.false_eq_true, laws_eqIntS.l0, if_pos, if_neg, h2, h2']
      simp [c]
theorem eqIntS_ev (xs ys : List Int) (hx : xs.length ≤ 1048576) : Ev (fun k => laws_eqIntS.f k xs ys) (decide (xs = ys)) := by
  by_cases c : xs.length = ys.length
  · refine Ev.congr (fun k => ?_) (eqIntS_l0 xs ys hx c xs ys 0 rfl rfl)
    unfold laws_eqIntS.f
    rw [if_pos (by omega)]
    rfl
  · refine Ev.all (fun k => ?_)
    unfold laws_eqIntS.f
    rw [if_neg (by omega)]
    have : xs ≠ ys := fun e => c (by rw [e])
    simp [this]
theorem eqIntS_same (xs : List Int) (hx : xs.length ≤ 1048576) : Ev (fun k => laws_eqIntS.f k xs xs) true := (eqIntS_ev xs xs hx).cast (by simp)
theorem dropConsL {xs : List (List Int)} {i : Nat} {x : List Int} {t : List (List Int)} (h : xs.drop i = x :: t) : i < xs.length ∧ rd_L1 xs (i : Int) = x ∧ xs.drop (i + 1) = t :=
  ⟨dropLt h, by simp [rd_L1, List.getD_eq_getElem?_getD, dropGet h], dropSucc h⟩
theorem memDrop {α : Type} {xs : List α} {i : Nat} {x : α} {t : List α} (h : xs.drop i = x :: t) : x ∈ xs := by
  rw [← List.take_append_drop i xs, h]
  simp
theorem eqIntSS_l0 (xs ys : List (List Int)) (hx : xs.length ≤ 1048576) (hm : ∀ x ∈ xs, x.length ≤ 1048576) (hl : xs.length = ys.length) : ∀ (s t : List (List Int)) (i : Nat), xs.drop i = s → ys.drop i = t → Ev (fun k => laws_eqIntSS.l0 k xs ys (i : Int)) (decide (s = t))
  | [], t, i, h, h' => by
    have h1 := dropNil h
    have h2 : t = [] := by rw [← h']; simp; omega
    subst h2
    refine Ev.of1 (fun k => ?_)
    simp (disch := omega) only [if_true, if_false, Bool.false_eq_true, laws_eqIntSS.l0, if_neg]
    simp
  | x :: s, [], i, h, h' => by
    have h1 := dropLt h
    have h2 := dropNil h'
    omega
  | x :: s, y :: t, i, h, h' => by
    obtain ⟨h1, h2, h3⟩ := dropConsL h
    obtain ⟨h1', h2', h3'⟩ := dropConsL h'
    refine Ev.step (f := fun k => (laws_eqIntS.f k x y).bind fun t120 => (if t120 = true then (laws_eqIntSS.l0 k xs ys ((i + 1 : Nat) : Int)) else (some false))) (fun k => ?_) (Ev.bind (eqIntS_ev x y (hm x (memDrop h))) ?_)
    · simp (disch := omega) only [if_true, if_false, Bool.false_eq_true, laws_eqIntSS.l0, if_pos, w64s, h2, h2']
    · by_cases c : x = y
      · simp only [c, decide_true, if_true]
        exact (eqIntSS_l0 xs ys hx hm hl s t (i + 1) h3 h3').cast (by simp)
      · simp only [c, decide_false, Bool.false_eq_true, if_false]
        exact (Ev.now _).cast (by simp [c])
theorem eqIntSS_ev (xs ys : List (List Int)) (hx : xs.length ≤ 1048576) (hm : ∀ x ∈ xs, x.length ≤ 1048576) : Ev (fun k => laws_eqIntSS.f k xs ys) (decide (xs = ys)) := by
  by_cases c : xs.length = ys.length
  · refine Ev.congr (fun k => ?_) (eqIntSS_l0 xs ys hx hm c xs ys 0 rfl rfl)
    unfold laws_eqIntSS.f
    rw [if_pos (by omega)]
    rfl
  · refine Ev.all (fun k => ?_)
    unfold laws_eqIntSS.f
    rw [if_neg (by omega)]
    have : xs ≠ ys := fun e => c (by rw [e])
    simp [this]
theorem eqIntSS_same (xs : List (List Int)) (hx : xs.length ≤ 1048576) (hm : ∀ x ∈ xs, x.length ≤ 1048576) : Ev (fun k => laws_eqIntSS.f k xs xs) true := (eqIntSS_ev xs xs hx hm).cast (by simp)
theorem markIntS_l0 : ∀ (t : List Int) (xs : List Int) (i : Nat) (m : Int), xs.length ≤ 1048576 → xs.drop i = t → 0 ≤ m → m + t.length ≤ 9223372036854775807 → Ev (fun k => laws_markIntS.l0 k xs m (i : Int)) (m + t.length, xs.take i ++ upFrom t.length m)
  | [], xs, i, m, hx, h, hm, hb => by
    have h1 := dropNil h
    refine Ev.of1 (fun k => ?_)
    simp (disch := omega) only [if_true, if_false, Bool.false_eq_true, laws_markIntS.l0, if_neg]
    simp [upFrom, List.take_of_length_le h1]
  | x :: t, xs, i, m, hx, h, hm, hb => by
    obtain ⟨h1, h2, h3⟩ := dropCons h
    simp only [List.length_cons] at hb
    have e : (xs.set i m).drop (i + 1) = t := by rw [List.drop_set_of_lt (by omega), h3]
    refine Ev.step (f := fun k => laws_markIntS.l0 k (xs.set i m) (m + 1) ((i + 1 : Nat) : Int)) (fun k => ?_) ((markIntS_l0 t (xs.set i m) (i + 1) (m + 1) (by simpa using hx) e (by omega) (by omega)).cast ?_)
    · have e1 : wrap64 (m + 1) = m + 1 := w64 (by omega) (by omega)
      simp (disch := omega) only [if_true, if_false, Bool.false_eq_true, laws_markIntS.l0, if_pos, w64s, e1, toNat_cast]
    · rw [set_at _ _ _ _ _ h]
      have : (xs.take i ++ m :: t).take (i + 1) = xs.take i ++ [m] := by
        have hl : (xs.take i).length = i := by simp; omega
        rw [List.take_append, List.take_of_length_le (by omega), hl, show i + 1 - i = 1 by omega]
        rfl
      rw [this]
      simp [upFrom]
      omega
theorem markIntS_ev (xs : List Int) (hx : xs.length ≤ 1048576) : Ev (fun k => laws_markIntS.f k xs 1) (1 + xs.length, upFrom xs.length 1) :=
  (Ev.congr (fun k => rfl) (markIntS_l0 xs xs 0 1 hx rfl (by omega) (by omega))).cast (by simp)
theorem heldIntS_l0 (xs : List Int) (hx : xs.length ≤ 1048576) : ∀ (n : Nat) (i : Nat) (m : Int), xs.drop i = upFrom n m → 0 ≤ m → m + n ≤ 9223372036854775807 → Ev (fun k => laws_heldIntS.l0 k xs m (i : Int)) (m + n)
  | 0, i, m, h, hm, hb => by
    have h1 := dropNil h
    refine Ev.of1 (fun k => ?_)
    simp (disch := omega) only [if_true, if_false, Bool.false_eq_true, laws_heldIntS.l0, if_neg]
    simp
  | n + 1, i, m, h, hm, hb => by
    obtain ⟨h1, h2, h3⟩ := dropCons (x := m) (t := upFrom n (m + 1)) h
    refine Ev.step (f := fun k => laws_heldIntS.l0 k xs (m + 1) ((i + 1 : Nat) : Int)) (fun k => ?_) ((heldIntS_l0 xs hx n (i + 1) (m + 1) h3 (by omega) (by omega)).cast (by omega))
    have e1 : wrap64 (m + 1) = m + 1 := w64 (by omega) (by omega)
    simp (disch := omega) only [if_true, if_false, Bool.false_eq_true, laws_heldIntS.l0, if_pos, w64s, e1, h2]
theorem heldIntS_ev (n : Nat) (hx : n ≤ 1048576) : Ev (fun k => laws_heldIntS.f k (upFrom n 1) 1) (1 + n) :=
  Ev.congr (fun k => rfl) (heldIntS_l0 (upFrom n 1) (by rw [upFrom_length]; exact hx) n 0 1 rfl (by omega) (by omega))
theorem l1All_l0 (lo hi : Int) (xs : List Int) (hx : xs.length ≤ 1048576) : ∀ (t : List Int) (i : Nat), xs.drop i = t → Ev (fun k => spec_l1All.l0 k lo hi xs xs.length (i : Int)) (t.all fun n => decide (lo ≤ n ∧ n ≤ hi))
  | [], i, h => by
    have h1 := dropNil h
    refine Ev.of1 (fun k => ?_)
    simp (disch := omega) only [if_true, if_false, Bool.false_eq_true, spec_l1All.l0, if_neg]
    rfl
  | x :: t, i, h => by
    obtain ⟨h1, h2, h3⟩ := dropCons h
    by_cases c : lo ≤ x ∧ x ≤ hi
    · refine Ev.step (f := fun k => spec_l1All.l0 k lo hi xs xs.length ((i + 1 : Nat) : Int)) (fun k => ?_) ((l1All_l0 lo hi xs hx t (i + 1) h3).cast (by simp [c]))
      simp (disch := omega) only [if_true, if_false, Bool.false_eq_true, spec_l1All.l0, spec_l1In.f, if_pos, w64s, h2, Option.bind_some, decide_eq_true_eq]
    · refine Ev.of1 (fun k => ?_)
      simp (disch := omega) only [if_true, if_false, Bool.false_eq_true, spec_l1All.l0, spec_l1In.f, if_pos, h2]
      by_cases c1 : lo ≤ x
      · have c2 : ¬ x ≤ hi := fun h' => c ⟨c1, h'⟩
        simp [c1, c2]
      · simp [c1]
theorem l1All_ev (xs : List Int) (lo hi : Int) (hx : xs.length ≤ 1048576) : Ev (fun k => spec_l1All.f k xs lo hi) (xs.all fun n => decide (lo ≤ n ∧ n ≤ hi)) :=
  Ev.congr (fun k => rfl) (l1All_l0 lo hi xs hx xs 0 rfl)
def rowB (l : List Int) : Bool := decide ((l.length : Int) ≤ 40) && l.all fun n => decide (0 ≤ n ∧ n ≤ 20)
theorem roGood_ev (xs : List Int) (hx : xs.length ≤ 1048576) : Ev (fun k => spec_roGood.f k xs) (rowB xs) := by
  unfold spec_roGood.f rowB
  by_cases c : (xs.length : Int) ≤ 40
  · simp only [c, if_true]
    refine (Ev.bind (l1All_ev xs 0 20 hx) (Ev.now _)).cast (by simp)
  · simp only [c, if_false]
    exact (Ev.now _).cast (by simp)
/-- The places, counted from i on, of a number. -/
def placesFrom (n : Int) : List Int → Nat → List Int
  | [], _ => []
  | x :: t, i => if x = n then (i : Int) :: placesFrom n t (i + 1) else placesFrom n t (i + 1)
theorem placesFrom_length (n : Int) : ∀ (t : List Int) (i : Nat), (placesFrom n t i).length ≤ t.length
  | [], _ => Nat.le_refl _
  | x :: t, i => by
    have := placesFrom_length n t (i + 1)
    unfold placesFrom
    split <;> simp <;> omega
theorem roPlaces_l0 (n : Int) (xs : List Int) (hx : xs.length ≤ 1048576) : ∀ (t : List Int) (i : Nat) (acc : List Int), xs.drop i = t → acc.length ≤ i → Ev (fun k => spec_roPlaces.l0 k n acc xs xs.length (i : Int)) (acc ++ placesFrom n t i)
  | [], i, acc, h, ha => by
    have h1 := dropNil h
    refine Ev.of1 (fun k => ?_)
    simp (disch := omega) only [if_true, if_false, Bool.false_eq_true, spec_roPlaces.l0, if_neg]
    simp [placesFrom]
  | x :: t, i, acc, h, ha => by
    obtain ⟨h1, h2, h3⟩ := dropCons h
    by_cases c : x = n
    · refine Ev.step (f := fun k => spec_roPlaces.l0 k n (acc ++ [(i : Int)]) xs xs.length ((i + 1 : Nat) : Int)) (fun k => ?_) ((roPlaces_l0 n xs hx t (i + 1) _ h3 (by simp; omega)).cast (by simp [placesFrom, c]))
      simp (disch := omega) only [if_true, if_false, Bool.false_eq_true, spec_roPlaces.l0, if_pos, w64s, h2, c]
    · refine Ev.step (f := fun k => spec_roPlaces.l0 k n acc xs xs.length ((i + 1 : Nat) : Int)) (fun k => ?_) ((roPlaces_l0 n xs hx t (i + 1) _ h3 (by omega)).cast (by simp [placesFrom, c]))
      simp (disch := omega) only [if_true, if_false, Bool.false_eq_true, spec_roPlaces.l0, if_pos, if_neg, w64s, h2]
theorem roPlaces_ev (xs : List Int) (n : Int) (hx : xs.length ≤ 1048576) : Ev (fun k => spec_roPlaces.f k xs n) (placesFrom n xs 0) :=
  (Ev.congr (fun k => rfl) (roPlaces_l0 n xs hx xs 0 [] rfl (by simp))).cast (by simp)
def hasB (n : Int) (l : List Int) : Bool := l.any fun x => decide (x = n)
theorem hasB_places (n : Int) : ∀ (t : List Int) (i : Nat), hasB n t = decide ((placesFrom n t i).length ≠ 0)
  | [], i => by simp [hasB, placesFrom]
  | x :: t, i => by
    have h := hasB_places n t (i + 1)
    by_cases c : x = n
    · simp [hasB, placesFrom, c]
    · simp only [placesFrom, if_neg c, ← h]
      simp [hasB, c]
theorem placesFrom_snoc (n x : Int) : ∀ (t : List Int) (i : Nat), placesFrom n (t ++ [x]) i = placesFrom n t i ++ (if x = n then [((i + t.length : Nat) : Int)] else [])
  | [], i => by
    simp only [List.nil_append, placesFrom, List.length_nil, Nat.add_zero]
  | y :: t, i => by
    have h := placesFrom_snoc n x t (i + 1)
    simp only [List.cons_append, placesFrom, h, List.length_cons]
    rw [show i + (t.length + 1) = i + 1 + t.length by omega]
    split <;> simp
theorem rowB_iff (xs : List Int) : rowB xs = true ↔ xs.length ≤ 40 ∧ ∀ x ∈ xs, 0 ≤ x ∧ x ≤ 20 := by
  simp only [rowB, Bool.and_eq_true, decide_eq_true_eq, List.all_eq_true]
  constructor
  · intro h
    exact ⟨by omega, h.2⟩
  · intro h
    exact ⟨by omega, h.2⟩
theorem st_get (xs : List Int) (hx : ∀ x ∈ xs, 0 ≤ x ∧ x ≤ 20) : ∀ k, k ≤ xs.length → ∀ n, n < 21 → (impl_pairs.st xs k).getD n [] = if n = 0 then [] else placesFrom (n : Int) (xs.take k) 0
  | 0, _, n, hn => by
    rw [impl_pairs.st, List.getD_eq_getElem?_getD, List.getElem?_replicate, if_pos hn, List.take_zero]
    split <;> rfl
  | k + 1, hk, n, hn => by
    have ih := st_get xs hx k (by omega)
    have hlt : k < xs.length := by omega
    have e : rd xs (k : Int) = xs[k] := rd_lt hlt
    have hb := hx xs[k] (List.getElem_mem hlt)
    have et : xs.take (k + 1) = xs.take k ++ [xs[k]] := List.take_succ_eq_append_getElem hlt
    have el : (xs.take k).length = k := by simp; omega
    rw [et, placesFrom_snoc, el, impl_pairs.st, e]
    generalize xs[k] = x at hb
    by_cases c : 0 < x
    · rw [if_pos c, List.getD_eq_getElem?_getD, List.getElem?_set]
      by_cases d : x.toNat = n
      · rw [if_pos d, if_pos (by rw [impl_pairs.st_len]; omega), Option.getD_some, d, ih n hn]
        have h0 : n ≠ 0 := by omega
        have h1 : x = (n : Int) := by omega
        simp [h0, h1]
      · rw [if_neg d, ← List.getD_eq_getElem?_getD, ih n hn]
        have h1 : ¬ x = (n : Int) := by omega
        simp [h1]
    · rw [if_neg c, ih n hn]
      by_cases z : n = 0
      · simp [z]
      · have h1 : ¬ x = (n : Int) := by omega
        simp [z, h1]
theorem st_all (xs : List Int) (hx : ∀ x ∈ xs, 0 ≤ x ∧ x ≤ 20) (n : Nat) (hn : n < 21) (h0 : n ≠ 0) : (impl_pairs.st xs xs.length).getD n [] = placesFrom (n : Int) xs 0 := by
  rw [st_get xs hx _ (Nat.le_refl _) n hn, if_neg h0, List.take_length]
theorem st_zero (xs : List Int) (hx : ∀ x ∈ xs, 0 ≤ x ∧ x ≤ 20) : (impl_pairs.st xs xs.length).getD 0 [] = [] := by
  rw [st_get xs hx _ (Nat.le_refl _) 0 (by omega), if_pos rfl]
theorem okl_iff (L : List (List Int)) : ∀ k, impl_pairs.okl L k = true ↔ ∀ n, n < k → (L.getD n []).length = 0 ∨ (L.getD n []).length = 2
  | 0 => by simp [impl_pairs.okl]
  | k + 1 => by
    simp only [impl_pairs.okl, Bool.and_eq_true, Bool.or_eq_true, beq_iff_eq, okl_iff L k]
    constructor
    · intro h n hn
      by_cases e : n = k
      · subst e; exact h.2
      · exact h.1 n (by omega)
    · intro h
      exact ⟨fun n hn => h n (by omega), h k (by omega)⟩
def pBf (xs : List Int) : Nat → Nat → Bool
  | 0, _ => true
  | r + 1, n => ((placesFrom (n : Int) xs 0).length == 0 || (placesFrom (n : Int) xs 0).length == 2) && pBf xs r (n + 1)
theorem pBf_iff (xs : List Int) : ∀ r n, pBf xs r n = true ↔ ∀ m, n ≤ m → m < n + r → (placesFrom (m : Int) xs 0).length = 0 ∨ (placesFrom (m : Int) xs 0).length = 2
  | 0, n => by
    simp only [pBf, true_iff]
    intro m h1 h2
    omega
  | r + 1, n => by
    simp only [pBf, Bool.and_eq_true, Bool.or_eq_true, beq_iff_eq, pBf_iff xs r (n + 1)]
    constructor
    · intro h m h1 h2
      by_cases e : m = n
      · subst e; exact h.1
      · exact h.2 m (by omega) (by omega)
    · intro h
      exact ⟨h n (by omega) (by omega), fun m h1 h2 => h m (by omega) (by omega)⟩
theorem okl_pB (xs : List Int) (hx : ∀ x ∈ xs, 0 ≤ x ∧ x ≤ 20) : impl_pairs.okl (impl_pairs.st xs xs.length) 21 = pBf xs 20 1 := by
  rw [Bool.eq_iff_iff, okl_iff, pBf_iff]
  constructor
  · intro h m h1 h2
    have := h m (by omega)
    rwa [st_all xs hx m (by omega) (by omega)] at this
  · intro h n hn
    by_cases e : n = 0
    · subst e
      rw [st_zero xs hx]
      exact .inl rfl
    · rw [st_all xs hx n hn e]
      exact h n (by omega) (by omega)
/-- A pair row. -/
def isB (xs : List Int) : Bool := rowB xs && pBf xs 20 1
theorem isB_row {xs : List Int} (h : isB xs = true) : rowB xs = true := by
  simp only [isB, Bool.and_eq_true] at h
  exact h.1
theorem isB_len {xs : List Int} (h : isB xs = true) : xs.length ≤ 40 := ((rowB_iff xs).1 (isB_row h)).1
theorem isB_rng {xs : List Int} (h : isB xs = true) : ∀ x ∈ xs, 0 ≤ x ∧ x ≤ 20 := ((rowB_iff xs).1 (isB_row h)).2
theorem isB_two {xs : List Int} (h : isB xs = true) (m : Nat) (h1 : 1 ≤ m) (h2 : m ≤ 20) : (placesFrom (m : Int) xs 0).length = 0 ∨ (placesFrom (m : Int) xs 0).length = 2 := by
  simp only [isB, Bool.and_eq_true] at h
  exact (pBf_iff xs 20 1).1 h.2 m h1 (by omega)
def numsFrom (xs : List Int) : Nat → Nat → List Int
  | 0, _ => []
  | r + 1, n => if hasB (n : Int) xs = true then (n : Int) :: numsFrom xs r (n + 1) else numsFrom xs r (n + 1)
theorem numsFrom_len (xs : List Int) : ∀ r n, (numsFrom xs r n).length ≤ r
  | 0, _ => Nat.le_refl _
  | r + 1, n => by
    have := numsFrom_len xs r (n + 1)
    unfold numsFrom
    split <;> simp <;> omega
theorem numsFrom_mem (xs : List Int) (x : Int) : ∀ r n, x ∈ numsFrom xs r n ↔ ∃ m : Nat, n ≤ m ∧ m < n + r ∧ x = (m : Int) ∧ hasB (m : Int) xs = true
  | 0, n => by
    simp only [numsFrom, List.not_mem_nil, false_iff]
    rintro ⟨m, h1, h2, _⟩
    omega
  | r + 1, n => by
    have ih := numsFrom_mem xs x r (n + 1)
    unfold numsFrom
    by_cases c : hasB (n : Int) xs = true
    · rw [if_pos c, List.mem_cons, ih]
      constructor
      · rintro (h | ⟨m, h1, h2, h3, h4⟩)
        · exact ⟨n, by omega, by omega, h, c⟩
        · exact ⟨m, by omega, by omega, h3, h4⟩
      · rintro ⟨m, h1, h2, h3, h4⟩
        by_cases e : m = n
        · subst e; exact .inl h3
        · exact .inr ⟨m, by omega, by omega, h3, h4⟩
    · rw [if_neg c, ih]
      constructor
      · rintro ⟨m, h1, h2, h3, h4⟩
        exact ⟨m, by omega, by omega, h3, h4⟩
      · rintro ⟨m, h1, h2, h3, h4⟩
        by_cases e : m = n
        · subst e; exact absurd h4 c
        · exact ⟨m, by omega, by omega, h3, h4⟩
/-- A row's numbers, increasing. -/
def numsL (xs : List Int) : List Int := numsFrom xs 20 1
theorem numsL_mem {xs : List Int} {x : Int} (h : x ∈ numsL xs) : 1 ≤ x ∧ x ≤ 20 ∧ hasB x xs = true := by
  obtain ⟨m, h1, h2, rfl, h4⟩ := (numsFrom_mem xs x 20 1).1 h
  exact ⟨by omega, by omega, h4⟩
theorem numsL_two {xs : List Int} (h : isB xs = true) {x : Int} (hx : x ∈ numsL xs) : (placesFrom x xs 0).length = 2 := by
  obtain ⟨m, h1, h2, rfl, h4⟩ := (numsFrom_mem xs x 20 1).1 hx
  rw [hasB_places (m : Int) xs 0, decide_eq_true_eq] at h4
  have := isB_two h m h1 (by omega)
  omega
theorem roPairs_l0 (xs : List Int) (hx : xs.length ≤ 1048576) : ∀ (r n : Nat), n + r = 21 → Ev (fun k => spec_roPairs.l0 k xs (n : Int)) (pBf xs r n)
  | 0, n, h => by
    refine Ev.of1 (fun k => ?_)
    simp (disch := omega) only [if_true, if_false, Bool.false_eq_true, spec_roPairs.l0, if_neg, pBf]
  | r + 1, n, h => by
    have ih := roPairs_l0 xs hx r (n + 1) (by omega)
    refine Ev.step (f := fun k => (spec_roPlaces.f k xs (n : Int)).bind fun t => if (t.length : Int) = 0 then (spec_roPairs.l0 k xs ((n + 1 : Nat) : Int)) else (if (t.length : Int) = 2 then (spec_roPairs.l0 k xs ((n + 1 : Nat) : Int)) else (some false))) (fun k => ?_) (Ev.bind (roPlaces_ev xs n hx) ?_)
    · simp (disch := omega) only [if_true, if_false, Bool.false_eq_true, spec_roPairs.l0, if_pos, w64s]
    · generalize hp : placesFrom (n : Int) xs 0 = p
      by_cases c : p.length = 0
      · have c' : (p.length : Int) = 0 := by omega
        simp only [c', if_true]
        exact ih.cast (by simp [pBf, hp, c])
      · have c' : ¬ (p.length : Int) = 0 := by omega
        by_cases d : p.length = 2
        · have d' : (p.length : Int) = 2 := by omega
          simp only [c', d', if_true, if_false]
          exact ih.cast (by simp [pBf, hp, d])
        · have d' : ¬ (p.length : Int) = 2 := by omega
          simp only [c', d', if_false]
          refine (Ev.now _).cast ?_
          have e1 : (p.length == 0) = false := beq_eq_false_iff_ne.2 c
          have e2 : (p.length == 2) = false := beq_eq_false_iff_ne.2 d
          simp [pBf, hp, e1, e2]
theorem roPairs_ev (xs : List Int) (hx : xs.length ≤ 1048576) : Ev (fun k => spec_roPairs.f k xs) (pBf xs 20 1) :=
  Ev.congr (fun k => rfl) (roPairs_l0 xs hx 20 1 rfl)
theorem roIs_ev (xs : List Int) (hx : xs.length ≤ 1048576) : Ev (fun k => spec_roIs.f k xs) (isB xs) := by
  unfold spec_roIs.f isB
  refine Ev.bind (roGood_ev xs hx) ?_
  by_cases c : rowB xs = true
  · simp only [c, if_true, Bool.true_and]
    exact (Ev.bind (roPairs_ev xs hx) (Ev.now _))
  · simp only [c, if_false]
    exact (Ev.now _).cast (by simp)
theorem l1Has_l0 (n : Int) (xs : List Int) (hx : xs.length ≤ 1048576) : ∀ (t : List Int) (i : Nat), xs.drop i = t → Ev (fun k => spec_l1Has.l0 k n xs xs.length (i : Int)) (hasB n t)
  | [], i, h => by
    have h1 := dropNil h
    refine Ev.of1 (fun k => ?_)
    simp (disch := omega) only [if_true, if_false, Bool.false_eq_true, spec_l1Has.l0, if_neg]
    rfl
  | x :: t, i, h => by
    obtain ⟨h1, h2, h3⟩ := dropCons h
    by_cases c : x = n
    · refine Ev.of1 (fun k => ?_)
      simp (disch := omega) only [if_true, if_false, Bool.false_eq_true, spec_l1Has.l0, if_pos, h2, c]
      simp [hasB]
    · refine Ev.step (f := fun k => spec_l1Has.l0 k n xs xs.length ((i + 1 : Nat) : Int)) (fun k => ?_) ((l1Has_l0 n xs hx t (i + 1) h3).cast (by simp [hasB, c]))
      simp (disch := omega) only [if_true, if_false, Bool.false_eq_true, spec_l1Has.l0, if_pos, if_neg, w64s, h2]
theorem l1Has_ev (xs : List Int) (n : Int) (hx : xs.length ≤ 1048576) : Ev (fun k => spec_l1Has.f k xs n) (hasB n xs) :=
  Ev.congr (fun k => rfl) (l1Has_l0 n xs hx xs 0 rfl)
theorem roNumbers_l0 (xs : List Int) (hx : xs.length ≤ 1048576) : ∀ (r n : Nat) (acc : List Int), n + r = 21 → acc.length ≤ n → Ev (fun k => spec_roNumbers.l0 k xs acc (n : Int)) (acc ++ numsFrom xs r n)
  | 0, n, acc, h, ha => by
    refine Ev.of1 (fun k => ?_)
    simp (disch := omega) only [if_true, if_false, Bool.false_eq_true, spec_roNumbers.l0, if_neg, numsFrom, List.append_nil]
  | r + 1, n, acc, h, ha => by
    by_cases c : hasB (n : Int) xs = true
    · refine Ev.step (f := fun k => (spec_l1Has.f k xs (n : Int)).bind fun t => if t = true then (spec_roNumbers.l0 k xs (acc ++ [(n : Int)]) ((n + 1 : Nat) : Int)) else (spec_roNumbers.l0 k xs acc ((n + 1 : Nat) : Int))) (fun k => ?_) (Ev.bind (l1Has_ev xs n hx) ?_)
      · simp (disch := omega) only [if_true, if_false, Bool.false_eq_true, spec_roNumbers.l0, if_pos, w64s]
      · simp only [c, if_true]
        exact (roNumbers_l0 xs hx r (n + 1) _ (by omega) (by simp; omega)).cast (by simp [numsFrom, c])
    · refine Ev.step (f := fun k => (spec_l1Has.f k xs (n : Int)).bind fun t => if t = true then (spec_roNumbers.l0 k xs (acc ++ [(n : Int)]) ((n + 1 : Nat) : Int)) else (spec_roNumbers.l0 k xs acc ((n + 1 : Nat) : Int))) (fun k => ?_) (Ev.bind (l1Has_ev xs n hx) ?_)
      · simp (disch := omega) only [if_true, if_false, Bool.false_eq_true, spec_roNumbers.l0, if_pos, w64s]
      · simp only [c, if_false]
        exact (roNumbers_l0 xs hx r (n + 1) _ (by omega) (by omega)).cast (by simp [numsFrom, c])
theorem roNumbers_ev (xs : List Int) (hx : xs.length ≤ 1048576) : Ev (fun k => spec_roNumbers.f k xs) (numsL xs) :=
  (Ev.congr (fun k => rfl) (roNumbers_l0 xs hx 20 1 [] rfl (by simp))).cast (by simp [numsL])
/-- Each of the numbers stands at the told distance. -/
def fitL (xs : List Int) (s : Int) : List Int → Bool
  | [] => true
  | x :: t => decide (wrap64 (rd (placesFrom x xs 0) 1 - rd (placesFrom x xs 0) 0) = wrap64 (x + s)) && fitL xs s t
theorem fitL_iff (xs : List Int) (s : Int) : ∀ t, fitL xs s t = true ↔ ∀ x ∈ t, wrap64 (rd (placesFrom x xs 0) 1 - rd (placesFrom x xs 0) 0) = wrap64 (x + s)
  | [] => by simp [fitL]
  | y :: t => by simp [fitL, fitL_iff xs s t]
theorem roFits_l0 (xs : List Int) (s : Int) (hx : xs.length ≤ 1048576) (ns : List Int) (hn : ns.length ≤ 1048576) (h2 : ∀ x ∈ ns, (placesFrom x xs 0).length = 2) : ∀ (t : List Int) (i : Nat), ns.drop i = t → Ev (fun k => spec_roFits.l0 k xs s ns ns.length (i : Int)) (fitL xs s t)
  | [], i, h => by
    have h1 := dropNil h
    refine Ev.of1 (fun k => ?_)
    simp (disch := omega) only [if_true, if_false, Bool.false_eq_true, spec_roFits.l0, if_neg, fitL]
  | x :: t, i, h => by
    obtain ⟨h1, h2', h3⟩ := dropCons h
    have ih := roFits_l0 xs s hx ns hn h2 t (i + 1) h3
    have e := h2 x (List.mem_of_mem_drop (by rw [h]; exact List.mem_cons_self))
    refine Ev.step (f := fun k => (spec_roPlaces.f k xs x).bind fun t => (if 1 < (t.length : Int) then (if 0 < (t.length : Int) then (if (wrap64 ((rd t 1) - (rd t 0))) = (wrap64 (x + s)) then (spec_roFits.l0 k xs s ns ns.length ((i + 1 : Nat) : Int)) else (some false)) else (none)) else (none))) (fun k => ?_) (Ev.bind (roPlaces_ev xs x hx) ?_)
    · simp (disch := omega) only [if_true, if_false, Bool.false_eq_true, spec_roFits.l0, if_pos, w64s, h2']
    · unfold fitL
      generalize placesFrom x xs 0 = p at e
      have c1 : 1 < (p.length : Int) := by omega
      have c0 : 0 < (p.length : Int) := by omega
      simp only [c0, c1, if_true]
      by_cases d : wrap64 (rd p 1 - rd p 0) = wrap64 (x + s)
      · rw [decide_eq_true d, Bool.true_and]
        simp only [d, if_true]
        exact ih
      · rw [decide_eq_false d, Bool.false_and]
        simp only [d, if_false]
        exact Ev.now _
theorem roFits_ev (xs : List Int) (s : Int) (hx : xs.length ≤ 1048576) (h : isB xs = true) : Ev (fun k => spec_roFits.f k xs s) (fitL xs s (numsL xs)) := by
  unfold spec_roFits.f
  have hn := numsFrom_len xs 20 1
  exact Ev.bind (roNumbers_ev xs hx) (roFits_l0 xs s hx (numsL xs) (by unfold numsL; omega) (fun x hx => numsL_two h hx) (numsL xs) 0 rfl)
/-- The numbers are d, d + 1, and so on. -/
def fromB (d : Int) : List Int → Nat → Bool
  | [], _ => true
  | x :: t, i => decide (x = wrap64 (d + (i : Int))) && fromB d t (i + 1)
theorem numsL_short (xs : List Int) : (numsL xs).length ≤ 20 := numsFrom_len xs 20 1
theorem roFrom_l0 (d : Int) (ns : List Int) (hn : ns.length ≤ 1048576) : ∀ (t : List Int) (i : Nat), ns.drop i = t → Ev (fun k => spec_roFrom.l0 k d ns ns ns.length (i : Int)) (fromB d t i && decide ((ns.length : Int) > 0))
  | [], i, h => by
    have h1 := dropNil h
    refine Ev.of1 (fun k => ?_)
    simp (disch := omega) only [if_true, if_false, Bool.false_eq_true, spec_roFrom.l0, if_neg, fromB, Bool.true_and]
  | x :: t, i, h => by
    obtain ⟨h1, h2, h3⟩ := dropCons h
    by_cases c : x = wrap64 (d + (i : Int))
    · refine Ev.step (f := fun k => spec_roFrom.l0 k d ns ns ns.length ((i + 1 : Nat) : Int)) (fun k => ?_) ((roFrom_l0 d ns hn t (i + 1) h3).cast (by simp only [fromB, decide_eq_true c, Bool.true_and]))
      rw [spec_roFrom.l0, h2, w64s (by omega), if_pos (by omega), if_pos (by omega), if_pos (by omega), if_pos c]
    · refine Ev.of1 (fun k => ?_)
      rw [spec_roFrom.l0, h2, if_pos (by omega), if_pos (by omega), if_pos (by omega), if_neg c]
      simp only [fromB, decide_eq_false c, Bool.false_and]
theorem roFrom_ev (xs : List Int) (d : Int) (hx : xs.length ≤ 1048576) : Ev (fun k => spec_roFrom.f k xs d) (fromB d (numsL xs) 0 && decide (((numsL xs).length : Int) > 0)) := by
  unfold spec_roFrom.f
  have hn := numsL_short xs
  exact Ev.bind (roNumbers_ev xs hx) (roFrom_l0 d (numsL xs) (by omega) (numsL xs) 0 rfl)
def lexB : List Int → List Int → Bool
  | x :: a, y :: b => if x = y then lexB a b else decide (x < y)
  | _, _ => false
theorem trLess_l0 (xs ys : List Int) (hx : xs.length ≤ 1048576) (hl : xs.length = ys.length) : ∀ (s t : List Int) (i : Nat), xs.drop i = s → ys.drop i = t → Ev (fun k => spec_trLess.l0 k xs ys xs.length (i : Int)) (lexB s t)
  | [], t, i, h, h' => by
    have h1 := dropNil h
    refine Ev.of1 (fun k => ?_)
    simp (disch := omega) only [if_true, if_false, Bool.false_eq_true, spec_trLess.l0, if_neg, lexB]
  | x :: s, [], i, h, h' => by
    have h1 := dropLt h
    have h2 := dropNil h'
    omega
  | x :: s, y :: t, i, h, h' => by
    obtain ⟨h1, h2, h3⟩ := dropCons h
    obtain ⟨h1', h2', h3'⟩ := dropCons h'
    by_cases c : x = y
    · refine Ev.step (f := fun k => spec_trLess.l0 k xs ys xs.length ((i + 1 : Nat) : Int)) (fun k => ?_) ((trLess_l0 xs ys hx hl s t (i + 1) h3 h3').cast (by simp [lexB, c]))
      simp (disch := omega) only [if_true, if_false, Bool.false_eq_true, spec_trLess.l0, if_pos, w64s, h2, h2']
    · refine Ev.of1 (fun k => ?_)
      simp (disch := omega) only [if_true, if_false, Bool.false_eq_true, spec_trLess.l0, if_pos, if_neg, h2, h2']
      simp [lexB, c]
theorem trLess_ev (xs ys : List Int) (hx : xs.length ≤ 1048576) (hl : xs.length = ys.length) : Ev (fun k => spec_trLess.f k xs ys) (lexB xs ys) :=
  Ev.congr (fun k => rfl) (trLess_l0 xs ys hx hl xs ys 0 rfl rfl)
theorem lex_S : ∀ (a b : List Int), a.length = b.length → lexB a b = decide (Search.cmpL a b < 0)
  | [], [], _ => rfl
  | [], y :: b, h => by simp at h
  | x :: a, [], h => by simp at h
  | x :: a, y :: b, h => by
    have ih := lex_S a b (by simpa using h)
    by_cases c : x = y
    · subst c
      simp [lexB, Search.cmpL, ih]
    · rcases Int.lt_or_gt_of_ne c with c1 | c1
      · simp [lexB, Search.cmpL, c, c1]
      · have c2 : ¬ x < y := by omega
        simp [lexB, Search.cmpL, c, c1, c2]
theorem trPut_l0 (l : List (List Int)) (x : List Int) (hl : l.length ≤ 100000) (hx : x.length = 3) (h3 : ∀ y ∈ l, y.length = 3) : ∀ p, p ≤ l.length → Ev (fun k => spec_trPut.l0 k l x (p : Int)) (l.take (Search.putAt x l p) ++ x :: l.drop (Search.putAt x l p))
  | 0, hp => by
    refine Ev.of1 (fun k => ?_)
    rw [spec_trPut.l0, if_neg (by omega)]
    simp [Search.putAt]
    omega
  | p + 1, hp => by
    have hpl : p < l.length := by omega
    have hr : rd_L1 l (p : Int) = l[p] := by simp [rd_L1, List.getD_eq_getElem?_getD, hpl]
    have hg : l.getD p [] = l[p] := by simp [List.getD_eq_getElem?_getD, hpl]
    have hy := h3 l[p] (List.getElem_mem hpl)
    obtain ⟨K1, k1⟩ := trLess_ev x l[p] (by omega) (by omega)
    rw [lex_S x l[p] (by omega)] at k1
    by_cases c : Search.cmpL x l[p] < 0
    · obtain ⟨K2, k2⟩ := trPut_l0 l x hl hx h3 p (by omega)
      refine ⟨K1 + K2 + 1, fun k hk => ?_⟩
      obtain ⟨k, rfl⟩ : ∃ m, k = m + 1 := ⟨k - 1, by omega⟩
      have a1 := k1 k (by omega)
      have a2 := k2 k (by omega)
      simp only [decide_eq_true c] at a1 a2
      show spec_trPut.l0 (k + 1) l x ((p + 1 : Nat) : Int) = _
      rw [spec_trPut.l0, if_pos (by omega), w64q (by omega), if_pos (by omega), if_pos (by omega), hr, a1, Option.bind_some, if_pos rfl, a2]
      simp only [Search.putAt, hg, c, if_true]
    · refine ⟨K1 + 1, fun k hk => ?_⟩
      obtain ⟨k, rfl⟩ : ∃ m, k = m + 1 := ⟨k - 1, by omega⟩
      have a1 := k1 k (by omega)
      simp only [decide_eq_false c] at a1
      show spec_trPut.l0 (k + 1) l x ((p + 1 : Nat) : Int) = _
      rw [spec_trPut.l0, if_pos (by omega), w64q (by omega), if_pos (by omega), if_pos (by omega), hr, a1, Option.bind_some, if_neg (by simp)]
      have ep : Search.putAt x l (p + 1) = p + 1 := by simp only [Search.putAt, hg, c, if_false]
      rw [ep, Option.bind_some, if_pos (by omega), if_pos (by omega), Option.bind_some, Int.toNat_natCast]
      simp only [List.nil_append, List.length_nil, Nat.zero_add, List.length_take, Option.bind_some, List.length_append, List.length_drop, List.length_singleton]
      rw [if_pos (by omega), if_pos (by omega), if_pos (by omega)]
      simp
theorem trPut_ev (l : List (List Int)) (x : List Int) (hl : l.length ≤ 100000) (hx : x.length = 3) (h3 : ∀ y ∈ l, y.length = 3) : Ev (fun k => spec_trPut.f k l x) (Search.putL x l) :=
  Ev.congr (fun k => rfl) (trPut_l0 l x hl hx h3 l.length (Nat.le_refl _))
theorem trSort_ev (a b c : Int) : Ev (fun k => spec_trSort.f k a b c) (Search.ins3 a b c) := by
  refine Ev.of1 (fun k => ?_)
  unfold spec_trSort.f Search.ins3
  by_cases c1 : b < a
  · rw [if_pos (show a > b from c1), if_pos c1, spec_trSort.j0]
    by_cases c2 : c < a
    · rw [if_pos (show a > c from c2), if_pos c2]
      by_cases c3 : c < b
      · rw [if_pos (show b > c from c3), if_pos c3]
      · rw [if_neg (show ¬ b > c from c3), if_neg c3]
    · rw [if_neg (show ¬ a > c from c2), if_neg c2, if_neg (by omega)]
  · rw [if_neg (show ¬ a > b from c1), if_neg c1, spec_trSort.j0]
    by_cases c2 : c < b
    · rw [if_pos (show b > c from c2), if_pos c2]
      by_cases c3 : c < a
      · rw [if_pos (show a > c from c3), if_pos c3]
      · rw [if_neg (show ¬ a > c from c3), if_neg c3]
    · rw [if_neg (show ¬ b > c from c2), if_neg c2, if_neg (by omega)]
theorem trBlocks_l1 (v : Int) (hv : 1 ≤ v ∧ v ≤ 40) (L : List (List Int)) (hL : L.length ≤ 10) (i : Nat) (hi : i < L.length) (t : List Int) (ht : t.length = 3) (hb : 0 ≤ rd t 0 ∧ rd t 0 ≤ 1000 ∧ 0 ≤ rd t 1 ∧ rd t 1 ≤ 1000) (r : List (List Int)) : ∀ (n : Nat) (kk : Int) (out : List (List Int)), kk + n = v → 0 ≤ kk → out.length + n ≤ 100000 → (∀ y ∈ out, y.length = 3) →
    Ev (fun k => spec_trBlocks.l0 k v (Search.putAll out (Search.circRows v t n kk)) L L.length ((i + 1 : Nat) : Int)) r → Ev (fun k => spec_trBlocks.l1 k v out t kk L L.length (i : Int)) r
  | 0, kk, out, hk, h0, ho, h3, h => by
    refine Ev.step (fun k => ?_) h
    rw [spec_trBlocks.l1, if_neg (by omega), w64s (by omega)]
    rfl
  | n + 1, kk, out, hk, h0, ho, h3, h => by
    have e1 : wrap64 (kk + rd t 0) = kk + rd t 0 := w64 (by omega) (by omega)
    have e2 : wrap64 (kk + rd t 0 + rd t 1) = kk + rd t 0 + rd t 1 := w64 (by omega) (by omega)
    have e3 : wrap64 (kk + 1) = kk + 1 := w64 (by omega) (by omega)
    have hput : (Search.putL (Search.circRow v t kk) out).length = out.length + 1 := by rw [(Search.putL_perm _ _).length_eq]; rfl
    obtain ⟨K1, k1⟩ := trSort_ev kk (Int.tmod (kk + rd t 0) v) (Int.tmod (kk + rd t 0 + rd t 1) v)
    obtain ⟨K2, k2⟩ := trPut_ev out (Search.circRow v t kk) (by omega) (Search.ins3_len _ _ _) h3
    obtain ⟨K3, k3⟩ := trBlocks_l1 v hv L hL i hi t ht hb r n (kk + 1) (Search.putL (Search.circRow v t kk) out) (by omega) (by omega) (by omega) (fun y hy => by
      rcases List.mem_cons.1 ((Search.putL_perm _ _).mem_iff.1 hy) with rfl | hy
      · exact Search.ins3_len _ _ _
      · exact h3 y hy) h
    refine ⟨K1 + K2 + K3 + 1, fun k hk => ?_⟩
    obtain ⟨k, rfl⟩ : ∃ m, k = m + 1 := ⟨k - 1, by omega⟩
    have a1 := k1 k (by omega)
    have a2 := k2 k (by omega)
    have a3 := k3 k (by omega)
    simp only [Search.circRow] at a1 a2 a3
    show spec_trBlocks.l1 (k + 1) v out t kk L (L.length : Int) (i : Int) = _
    rw [spec_trBlocks.l1, if_pos (by omega), if_pos (by omega), if_neg (by omega), if_pos (by omega), e1, e2, e3, a1, Option.bind_some, a2, Option.bind_some]
    exact a3
theorem trBlocks_l0 (v : Int) (hv : 1 ≤ v ∧ v ≤ 40) (L : List (List Int)) (hL : L.length ≤ 10) (h : ∀ t ∈ L, t.length = 3 ∧ 0 ≤ rd t 0 ∧ rd t 0 ≤ 1000 ∧ 0 ≤ rd t 1 ∧ rd t 1 ≤ 1000) : ∀ (T : List (List Int)) (i : Nat) (out : List (List Int)), L.drop i = T → out.length ≤ 40 * i → (∀ y ∈ out, y.length = 3) →
    Ev (fun k => spec_trBlocks.l0 k v out L L.length (i : Int)) (Search.putAll out (Search.circAll v T))
  | [], i, out, hd, ho, h3 => by
    have h1 := dropNil hd
    refine Ev.of1 (fun k => ?_)
    rw [spec_trBlocks.l0, if_neg (by omega)]
    rfl
  | t :: T, i, out, hd, ho, h3 => by
    obtain ⟨h1, h2, h4⟩ := dropConsL hd
    have ht := h t (memDrop hd)
    have ho2 : (Search.putAll out (Search.circRows v t v.toNat 0)).length ≤ 40 * (i + 1) := by rw [Search.putAll_len, Search.circRows_len]; omega
    have hs : ∀ y ∈ Search.putAll out (Search.circRows v t v.toNat 0), y.length = 3 := Search.putAll_all3 (Search.circRows_small v t _ _) h3
    refine Ev.step (f := fun k => spec_trBlocks.l1 k v out t 0 L L.length (i : Int)) (fun k => ?_) (trBlocks_l1 v hv L hL i h1 t ht.1 ht.2 _ v.toNat 0 out (by omega) (by omega) (by omega) h3 ?_)
    · rw [spec_trBlocks.l0, if_pos (by omega), if_pos (by omega), if_pos (by omega), h2]
    · refine (trBlocks_l0 v hv L hL h T (i + 1) _ h4 ho2 hs).cast ?_
      rw [show Search.circAll v (t :: T) = Search.circRows v t v.toNat 0 ++ Search.circAll v T from rfl, Search.putAll_append]
theorem trBlocks_ev (v : Int) (hv : 1 ≤ v ∧ v ≤ 40) (L : List (List Int)) (hL : L.length ≤ 10) (h : ∀ t ∈ L, t.length = 3 ∧ 0 ≤ rd t 0 ∧ rd t 0 ≤ 1000 ∧ 0 ≤ rd t 1 ∧ rd t 1 ≤ 1000) : Ev (fun k => spec_trBlocks.f k v L) (Search.putAll [] (Search.circAll v L)) :=
  Ev.congr (fun k => rfl) (trBlocks_l0 v hv L hL h L 0 [] rfl (by simp) (by simp))
theorem IsRow_l0 (xs : List Int) (hx : xs.length ≤ 1048576) : ∀ (t : List Int) (i : Nat), xs.drop i = t → Ev (fun k => impl_IsRow.l0 k xs xs xs.length (i : Int)) (decide ((xs.length : Int) ≤ 40) && t.all fun n => decide (0 ≤ n ∧ n ≤ 20))
  | [], i, h => by
    have h1 := dropNil h
    refine Ev.of1 (fun k => ?_)
    simp (disch := omega) only [if_true, if_false, Bool.false_eq_true, impl_IsRow.l0, if_neg]
    simp
  | x :: t, i, h => by
    obtain ⟨h1, h2, h3⟩ := dropCons h
    by_cases c : 0 ≤ x ∧ x ≤ 20
    · refine Ev.step (f := fun k => impl_IsRow.l0 k xs xs xs.length ((i + 1 : Nat) : Int)) (fun k => ?_) ((IsRow_l0 xs hx t (i + 1) h3).cast (by simp [c]))
      simp (disch := omega) only [if_true, if_false, Bool.false_eq_true, impl_IsRow.l0, if_pos, if_neg, w64s, h2]
    · refine Ev.of1 (fun k => ?_)
      simp (disch := omega) only [if_true, if_false, Bool.false_eq_true, impl_IsRow.l0, if_pos, h2]
      by_cases c1 : x < 0
      · have : ¬ 0 ≤ x := by omega
        simp [c1, this]
      · have c2 : 20 < x := by omega
        have : ¬ x ≤ 20 := by omega
        simp [c1, c2, this]
theorem IsRow_ev (xs : List Int) (hx : xs.length ≤ 1048576) : Ev (fun k => impl_IsRow.f k xs) (rowB xs) :=
  Ev.congr (fun k => rfl) (IsRow_l0 xs hx xs 0 rfl)
theorem isPairs_ev (xs : List Int) (hx : xs.length ≤ 1048576) : Ev (fun k => impl_isPairs.f k xs) (isB xs) := by
  unfold impl_isPairs.f isB
  refine Ev.bind (IsRow_ev xs hx) ?_
  by_cases c : rowB xs = true
  · simp only [c, if_true, Bool.true_and]
    exact (Ev.now _).cast (okl_pB xs ((rowB_iff xs).1 c).2)
  · simp only [c, if_false]
    exact (Ev.now _).cast (by simp)
theorem chk_iff (L : List (List Int)) (s : Int) : ∀ k, impl_fits.chk L s k = true ↔ ∀ n, n < k → (L.getD n []).length = 2 → wrap64 (rd (L.getD n []) 1 - rd (L.getD n []) 0) = wrap64 ((n : Int) + s)
  | 0 => by simp [impl_fits.chk]
  | k + 1 => by
    simp only [impl_fits.chk, Bool.and_eq_true, chk_iff L s k, Bool.not_eq_true', Bool.and_eq_false_iff, beq_eq_false_iff_ne, Bool.not_eq_false', beq_iff_eq]
    constructor
    · intro h n hn h2
      by_cases e : n = k
      · subst e
        rcases h.2 with h' | h'
        · exact absurd h2 h'
        · exact h'
      · exact h.1 n (by omega) h2
    · intro h
      refine ⟨fun n hn => h n (by omega), ?_⟩
      by_cases c : (L.getD k []).length = 2
      · exact .inr (h k (by omega) c)
      · exact .inl c
theorem chk_fit (xs : List Int) (s : Int) (h : isB xs = true) : impl_fits.chk (impl_pairs.st xs xs.length) s 21 = fitL xs s (numsL xs) := by
  rw [Bool.eq_iff_iff, chk_iff, fitL_iff]
  constructor
  · intro g x hx
    obtain ⟨m, h1, h2, rfl, h4⟩ := (numsFrom_mem xs x 20 1).1 hx
    have e := st_all xs (isB_rng h) m (by omega) (by omega)
    have := g m (by omega)
    rw [e] at this
    exact this (numsL_two h hx)
  · intro g n hn h2
    by_cases z : n = 0
    · subst z
      rw [st_zero xs (isB_rng h)] at h2
      simp at h2
    · have e := st_all xs (isB_rng h) n hn z
      rw [e] at h2 ⊢
      refine g n ((numsFrom_mem xs n 20 1).2 ⟨n, by omega, by omega, rfl, ?_⟩)
      rw [hasB_places (n : Int) xs 0, decide_eq_true_eq]
      omega
theorem fits_ev (xs : List Int) (s : Int) (hx : xs.length ≤ 1048576) : Ev (fun k => impl_fits.f k xs s) (isB xs && fitL xs s (numsL xs)) := by
  unfold impl_fits.f
  refine Ev.bind (isPairs_ev xs hx) ?_
  by_cases c : isB xs = true
  · simp only [c, if_true, Bool.true_and]
    exact (Ev.now _).cast (chk_fit xs s c)
  · simp only [c, if_false]
    exact (Ev.now _).cast (by simp)
theorem holes_l0 (xs : List Int) (hx : xs.length ≤ 1048576) : ∀ (t : List Int) (i : Nat) (acc : List Int), xs.drop i = t → acc.length ≤ i → Ev (fun k => impl_holes.l0 k acc xs xs.length (i : Int)) (acc ++ placesFrom 0 t i)
  | [], i, acc, h, ha => by
    have h1 := dropNil h
    refine Ev.of1 (fun k => ?_)
    simp (disch := omega) only [if_true, if_false, Bool.false_eq_true, impl_holes.l0, if_neg]
    simp [placesFrom]
  | x :: t, i, acc, h, ha => by
    obtain ⟨h1, h2, h3⟩ := dropCons h
    by_cases c : x = 0
    · refine Ev.step (f := fun k => impl_holes.l0 k (acc ++ [(i : Int)]) xs xs.length ((i + 1 : Nat) : Int)) (fun k => ?_) ((holes_l0 xs hx t (i + 1) _ h3 (by simp; omega)).cast (by simp [placesFrom, c]))
      simp (disch := omega) only [if_true, if_false, Bool.false_eq_true, impl_holes.l0, if_pos, w64s, h2, c]
    · refine Ev.step (f := fun k => impl_holes.l0 k acc xs xs.length ((i + 1 : Nat) : Int)) (fun k => ?_) ((holes_l0 xs hx t (i + 1) _ h3 (by omega)).cast (by simp [placesFrom, c]))
      simp (disch := omega) only [if_true, if_false, Bool.false_eq_true, impl_holes.l0, if_pos, if_neg, w64s, h2]
theorem holes_ev (xs : List Int) (hx : xs.length ≤ 1048576) : Ev (fun k => impl_holes.f k xs) (placesFrom 0 xs 0) :=
  (Ev.congr (fun k => rfl) (holes_l0 xs hx xs 0 [] rfl (by simp))).cast (by simp)
theorem Index_l0 (n : Int) (xs : List Int) (hx : xs.length ≤ 1048576) : ∀ (t : List Int) (i : Nat), xs.drop i = t → ∃ r : Int, Ev (fun k => slices_Index_int_int.l0 k xs n xs.length (i : Int)) r ∧ decide (r ≥ 0) = hasB n t
  | [], i, h => by
    have h1 := dropNil h
    refine ⟨-1, Ev.of1 (fun k => ?_), by simp [hasB]⟩
    simp (disch := omega) only [if_true, if_false, Bool.false_eq_true, slices_Index_int_int.l0, if_neg]
  | x :: t, i, h => by
    obtain ⟨h1, h2, h3⟩ := dropCons h
    by_cases c : n = x
    · refine ⟨(i : Int), Ev.of1 (fun k => ?_), by simp [hasB, c]⟩
      simp (disch := omega) only [if_true, if_false, Bool.false_eq_true, slices_Index_int_int.l0, if_pos, h2]
    · obtain ⟨r, hr, hd⟩ := Index_l0 n xs hx t (i + 1) h3
      refine ⟨r, Ev.step (f := fun k => slices_Index_int_int.l0 k xs n xs.length ((i + 1 : Nat) : Int)) (fun k => ?_) hr, by rw [hd]; simp [hasB, Ne.symm c]⟩
      simp (disch := omega) only [if_true, if_false, Bool.false_eq_true, slices_Index_int_int.l0, if_pos, if_neg, w64s, h2]
theorem Contains_ev (xs : List Int) (n : Int) (hx : xs.length ≤ 1048576) : Ev (fun k => slices_Contains_int_int.f k xs n) (hasB n xs) := by
  obtain ⟨r, hr, hd⟩ := Index_l0 n xs hx xs 0 rfl
  unfold slices_Contains_int_int.f
  refine (Ev.bind (f := fun _ t => some (decide (t ≥ 0))) (a := r) (Ev.congr (fun k => rfl) hr) (Ev.now _)).cast hd
theorem numbers_l0 (xs : List Int) (hx : xs.length ≤ 1048576) : ∀ (r n : Nat) (acc : List Int), n + r = 21 → acc.length ≤ n → Ev (fun k => impl_numbers.l0 k xs acc (n : Int)) (acc ++ numsFrom xs r n)
  | 0, n, acc, h, ha => by
    refine Ev.of1 (fun k => ?_)
    simp (disch := omega) only [if_true, if_false, Bool.false_eq_true, impl_numbers.l0, if_neg, numsFrom, List.append_nil]
  | r + 1, n, acc, h, ha => by
    by_cases c : hasB (n : Int) xs = true
    · refine Ev.step (f := fun k => (slices_Contains_int_int.f k xs (n : Int)).bind fun t => if t = true then (impl_numbers.l0 k xs (acc ++ [(n : Int)]) ((n + 1 : Nat) : Int)) else (impl_numbers.l0 k xs acc ((n + 1 : Nat) : Int))) (fun k => ?_) (Ev.bind (Contains_ev xs n hx) ?_)
      · simp (disch := omega) only [if_true, if_false, Bool.false_eq_true, impl_numbers.l0, if_pos, w64s]
      · simp only [c, if_true]
        exact (numbers_l0 xs hx r (n + 1) _ (by omega) (by simp; omega)).cast (by simp [numsFrom, c])
    · refine Ev.step (f := fun k => (slices_Contains_int_int.f k xs (n : Int)).bind fun t => if t = true then (impl_numbers.l0 k xs (acc ++ [(n : Int)]) ((n + 1 : Nat) : Int)) else (impl_numbers.l0 k xs acc ((n + 1 : Nat) : Int))) (fun k => ?_) (Ev.bind (Contains_ev xs n hx) ?_)
      · simp (disch := omega) only [if_true, if_false, Bool.false_eq_true, impl_numbers.l0, if_pos, w64s]
      · simp only [c, if_false]
        exact (numbers_l0 xs hx r (n + 1) _ (by omega) (by omega)).cast (by simp [numsFrom, c])
theorem numbers_ev (xs : List Int) (hx : xs.length ≤ 1048576) : Ev (fun k => impl_numbers.f k xs) (numsL xs) :=
  (Ev.congr (fun k => rfl) (numbers_l0 xs hx 20 1 [] rfl (by simp))).cast (by simp [numsL])
theorem isFrom_l0 (d : Int) (ns : List Int) (hn : ns.length ≤ 1048576) : ∀ (t : List Int) (i : Nat), ns.drop i = t → Ev (fun k => impl_isFrom.l0 k d ns ns ns.length (i : Int)) (if fromB d t i = true then ((ns.length : Int), decide ((ns.length : Int) > 0)) else (0, false))
  | [], i, h => by
    have h1 := dropNil h
    refine Ev.of1 (fun k => ?_)
    simp (disch := omega) only [if_true, if_false, Bool.false_eq_true, impl_isFrom.l0, if_neg, fromB]
  | x :: t, i, h => by
    obtain ⟨h1, h2, h3⟩ := dropCons h
    by_cases c : x = wrap64 (d + (i : Int))
    · refine Ev.step (f := fun k => impl_isFrom.l0 k d ns ns ns.length ((i + 1 : Nat) : Int)) (fun k => ?_) ((isFrom_l0 d ns hn t (i + 1) h3).cast (by simp only [fromB, decide_eq_true c, Bool.true_and]))
      rw [impl_isFrom.l0, h2, w64s (by omega), if_pos (by omega), if_pos (by omega), if_pos (by omega), if_pos c]
    · refine Ev.of1 (fun k => ?_)
      rw [impl_isFrom.l0, h2, if_pos (by omega), if_pos (by omega), if_pos (by omega), if_neg c]
      simp only [fromB, decide_eq_false c, Bool.false_and, Bool.false_eq_true, if_false]
theorem isFrom_ev (xs : List Int) (d : Int) (hx : xs.length ≤ 1048576) : Ev (fun k => impl_isFrom.f k xs d) (if fromB d (numsL xs) 0 = true then (((numsL xs).length : Int), decide (((numsL xs).length : Int) > 0)) else (0, false)) := by
  unfold impl_isFrom.f
  have hn := numsL_short xs
  exact Ev.bind (numbers_ev xs hx) (isFrom_l0 d (numsL xs) (by omega) (numsL xs) 0 rfl)
def skB (xs : List Int) : Bool := fitL xs 0 (numsL xs) && ((fromB 1 (numsL xs) 0 && decide (((numsL xs).length : Int) > 0)) && (((placesFrom 0 xs 0).length : Int) == 0))
def hkB (xs : List Int) : Bool := fitL xs 0 (numsL xs) && ((fromB 1 (numsL xs) 0 && decide (((numsL xs).length : Int) > 0)) && (decide (((placesFrom 0 xs 0).length : Int) = 1) && (rd (placesFrom 0 xs 0) 0 == wrap64 ((xs.length : Int) - 2))))
/-- How many cells hold one of the numbers n, n + 1, .., r of them. -/
def sumPl (xs : List Int) : Nat → Nat → Nat
  | 0, _ => 0
  | r + 1, n => (placesFrom (n : Int) xs 0).length + sumPl xs r (n + 1)
theorem places_len_at (n : Int) : ∀ (t : List Int) (i j : Nat), (placesFrom n t i).length = (placesFrom n t j).length
  | [], i, j => rfl
  | x :: t, i, j => by
    have h := places_len_at n t (i + 1) (j + 1)
    unfold placesFrom
    split <;> simp [h]
theorem sumPl_cons (x : Int) (t : List Int) : ∀ r n, sumPl (x :: t) r n = sumPl t r n + (if (n : Int) ≤ x ∧ x < ((n + r : Nat) : Int) then 1 else 0)
  | 0, n => by
    rw [if_neg (by omega)]
    rfl
  | r + 1, n => by
    have ih := sumPl_cons x t r (n + 1)
    have e : (placesFrom (n : Int) (x :: t) 0).length = (placesFrom (n : Int) t 0).length + (if x = (n : Int) then 1 else 0) := by
      have h := places_len_at (n : Int) t 1 0
      show (if x = (n : Int) then ((0 : Nat) : Int) :: placesFrom (n : Int) t 1 else placesFrom (n : Int) t 1).length = _
      split <;> simp [h]
    rw [sumPl, sumPl, e, ih]
    by_cases c : x = (n : Int)
    · rw [if_pos c, if_neg (by omega), if_pos (by omega)]
      omega
    · rw [if_neg c]
      by_cases d : ((n + 1 : Nat) : Int) ≤ x ∧ x < ((n + 1 + r : Nat) : Int)
      · rw [if_pos d, if_pos (by omega)]
        omega
      · rw [if_neg d, if_neg (by omega)]
        omega
theorem sumPl_all : ∀ (xs : List Int), (∀ x ∈ xs, 0 ≤ x ∧ x ≤ 20) → xs.length = sumPl xs 21 0
  | [], _ => by decide
  | x :: t, h => by
    have ih := sumPl_all t (fun y hy => h y (List.mem_cons_of_mem _ hy))
    have hx := h x List.mem_cons_self
    rw [sumPl_cons, if_pos (by omega), List.length_cons, ih]
theorem sumPl_two (xs : List Int) : ∀ (r n : Nat), (∀ m : Nat, n ≤ m → m < n + r → (placesFrom (m : Int) xs 0).length = 0 ∨ (placesFrom (m : Int) xs 0).length = 2) → sumPl xs r n = 2 * (numsFrom xs r n).length
  | 0, n, _ => rfl
  | r + 1, n, h => by
    have ih := sumPl_two xs r (n + 1) (fun m h1 h2 => h m (by omega) (by omega))
    have h0 := h n (Nat.le_refl _) (by omega)
    rw [sumPl, numsFrom, ih]
    rw [hasB_places (n : Int) xs 0]
    rcases h0 with h0 | h0
    · rw [if_neg (by simp [h0])]
      omega
    · rw [if_pos (by simp [h0]), List.length_cons]
      omega
theorem isB_count {xs : List Int} (h : isB xs = true) : xs.length = (placesFrom 0 xs 0).length + 2 * (numsL xs).length := by
  have e := sumPl_all xs (isB_rng h)
  rw [sumPl, sumPl_two xs 20 1 (fun m h1 h2 => isB_two h m h1 (by omega))] at e
  exact e
theorem fromB_at (d : Int) : ∀ (t : List Int) (i : Nat), fromB d t i = true → ∀ j (hj : j < t.length), t[j] = wrap64 (d + ((i + j : Nat) : Int))
  | [], i, h, j, hj => absurd hj (by simp)
  | x :: t, i, h, j, hj => by
    simp only [fromB, Bool.and_eq_true, decide_eq_true_eq] at h
    cases j with
    | zero => exact h.1
    | succ j =>
      have := fromB_at d t (i + 1) h.2 j (by simpa using hj)
      rw [List.getElem_cons_succ, this, show i + 1 + j = i + (j + 1) by omega]
theorem fromB_mem {xs : List Int} (h : fromB 1 (numsL xs) 0 = true) {m : Nat} (h1 : 1 ≤ m) (h2 : m ≤ (numsL xs).length) : (m : Int) ∈ numsL xs := by
  have hn := numsL_short xs
  have e := fromB_at 1 (numsL xs) 0 h (m - 1) (by omega)
  have w : wrap64 (1 + ((0 + (m - 1) : Nat) : Int)) = (m : Int) := by unfold wrap64; omega
  rw [w] at e
  rw [← e]
  exact List.getElem_mem _
theorem placesFrom_bounds (n y : Int) : ∀ (t : List Int) (i : Nat), y ∈ placesFrom n t i → (i : Int) ≤ y ∧ y < (i : Int) + t.length
  | [], i, h => absurd h List.not_mem_nil
  | x :: t, i, h => by
    have ih := placesFrom_bounds n y t (i + 1)
    unfold placesFrom at h
    simp only [List.length_cons]
    by_cases c : x = n
    · rw [if_pos c, List.mem_cons] at h
      rcases h with h | h
      · omega
      · have := ih h; omega
    · rw [if_neg c] at h
      have := ih h
      omega
theorem len_two {p : List Int} (h : p.length = 2) : ∃ u v, p = [u, v] := by
  match p, h with
  | [u, v], _ => exact ⟨u, v, rfl⟩
def trip (xs : List Int) (n x : Int) : List Int := [x, wrap64 (wrap64 (rd (placesFrom x xs 0) 0 + n) + 1), wrap64 (wrap64 (rd (placesFrom x xs 0) 1 + n) + 1)]
def TL (xs : List Int) (n : Int) (m : Nat) : List (List Int) := (List.range m).map (fun (i : Nat) => trip xs n ((i : Int) + 1))
/-- A row of triples: Skolem's or hooked, of at most ten pairs. -/
def trB (xs : List Int) : Bool := isB xs && ((hkB xs || skB xs) && decide ((numsL xs).length ≤ 10))
theorem skB_parts {xs : List Int} (h : skB xs = true) : fromB 1 (numsL xs) 0 = true ∧ 0 < (numsL xs).length ∧ (placesFrom 0 xs 0).length = 0 := by
  unfold skB at h
  simp only [Bool.and_eq_true, decide_eq_true_eq, beq_iff_eq] at h
  exact ⟨h.2.1.1, by omega, by omega⟩
theorem hkB_parts {xs : List Int} (h : hkB xs = true) : fromB 1 (numsL xs) 0 = true ∧ 0 < (numsL xs).length ∧ (placesFrom 0 xs 0).length = 1 := by
  unfold hkB at h
  simp only [Bool.and_eq_true, decide_eq_true_eq, beq_iff_eq] at h
  exact ⟨h.2.1.1, by omega, by omega⟩
theorem either_parts {xs : List Int} (h : (hkB xs || skB xs) = true) : fromB 1 (numsL xs) 0 = true ∧ 0 < (numsL xs).length ∧ (placesFrom 0 xs 0).length ≤ 1 := by
  rw [Bool.or_eq_true] at h
  rcases h with h | h
  · have := hkB_parts h
    exact ⟨this.1, this.2.1, by omega⟩
  · have := skB_parts h
    exact ⟨this.1, this.2.1, by omega⟩
theorem half_len {xs : List Int} (c : isB xs = true) (h : (hkB xs || skB xs) = true) : wrap64 ((xs.length : Int) / 2) = ((numsL xs).length : Int) := by
  have e := isB_count c
  have p := either_parts h
  have := isB_len c
  unfold wrap64
  omega
theorem TL_succ (xs : List Int) (n : Int) (m : Nat) : TL xs n (m + 1) = TL xs n m ++ [trip xs n ((m : Int) + 1)] := by
  unfold TL
  rw [List.range_succ, List.map_append, List.map_singleton]
theorem TL_len (xs : List Int) (n : Int) (m : Nat) : (TL xs n m).length = m := by unfold TL; simp
theorem two_of {xs : List Int} (c : isB xs = true) (h : (hkB xs || skB xs) = true) : ∀ m : Nat, 1 ≤ m → m ≤ (numsL xs).length → (placesFrom (m : Int) xs 0).length = 2 :=
  fun _ h1 h3 => numsL_two c (fromB_mem (either_parts h).1 h1 h3)
def trV (xs : List Int) : List (List Int) × Bool := if trB xs = true then (TL xs (numsL xs).length (numsL xs).length, true) else ([], false)
theorem skolemV (xs : List Int) (hx : xs.length ≤ 1048576) (h : isB xs = true) : Ev (fun k => impl_skolem.f k xs) (if skB xs = true then ((numsL xs).length : Int) else 0) := by
  unfold impl_skolem.f skB
  have hf := fits_ev xs 0 hx
  rw [h, Bool.true_and] at hf
  cases c : fitL xs 0 (numsL xs) with
  | false =>
    rw [c] at hf
    refine Ev.bind hf ?_
    simp only [Bool.false_eq_true, if_false, Bool.false_and]
    exact Ev.now _
  | true =>
    rw [c] at hf
    refine Ev.bind hf ?_
    simp only [if_true, Bool.true_and]
    refine Ev.bind (holes_ev xs hx) ?_
    by_cases d : ((placesFrom 0 xs 0).length : Int) > 0
    · have d0 : (((placesFrom 0 xs 0).length : Int) == 0) = false := beq_eq_false_iff_ne.2 (by omega)
      rw [d0]
      simp only [d, if_true, Bool.and_false, Bool.false_eq_true, if_false]
      exact Ev.now _
    · have d0 : (((placesFrom 0 xs 0).length : Int) == 0) = true := beq_iff_eq.2 (by omega)
      rw [d0]
      simp only [d, if_false, Bool.and_true]
      refine Ev.bind (isFrom_ev xs 1 hx) ?_
      refine (Ev.now _).cast ?_
      cases fromB 1 (numsL xs) 0 with
      | false => simp
      | true =>
        by_cases z : ((numsL xs).length : Int) > 0
        · simp only [decide_eq_true z, if_true, Bool.and_self]
        · simp only [decide_eq_false z, if_true, Bool.true_and, Bool.false_eq_true, if_false]
          omega
theorem skolem0 (xs : List Int) (hx : xs.length ≤ 1048576) (h : isB xs = false) : Ev (fun k => impl_skolem.f k xs) 0 := by
  have hf := fits_ev xs 0 hx
  rw [h, Bool.false_and] at hf
  unfold impl_skolem.f
  refine Ev.bind hf ?_
  simp only [Bool.false_eq_true, if_false]
  exact Ev.now _
theorem extended_t (xs : List Int) : Ev (fun k => impl_extended.j0 k xs true) (0, 0) := Ev.of1 (fun k => by simp [impl_extended.j0])
theorem extended_f (xs : List Int) (hx : xs.length ≤ 1048576) (d : ((placesFrom 0 xs 0).length : Int) = 1) : Ev (fun k => impl_extended.j0 k xs false) ((if fromB 1 (numsL xs) 0 = true then ((numsL xs).length : Int) else 0), rd (placesFrom 0 xs 0) 0) := by
  refine Ev.step (f := fun k => (impl_isFrom.f k xs 1).bind fun bt165 => ((impl_holes.f k xs).bind fun t167 => (if 0 < (t167.length : Int) then (some (bt165.1, rd t167 0)) else (none)))) (fun k => by simp only [impl_extended.j0, Bool.false_eq_true, if_false]) (Ev.bind (isFrom_ev xs 1 hx) (Ev.bind (holes_ev xs hx) ?_))
  rw [if_pos (by omega)]
  exact (Ev.now _).cast (by split <;> rfl)
theorem hookedV (xs : List Int) (hx : xs.length ≤ 1048576) (h : isB xs = true) : Ev (fun k => impl_hooked.f k xs) (if hkB xs = true then ((numsL xs).length : Int) else 0) := by
  have hf := fits_ev xs 0 hx
  rw [h, Bool.true_and] at hf
  have zero : ∀ (e : hkB xs = false), Ev (fun k => impl_extended.f k xs) (0, 0) → Ev (fun k => impl_hooked.f k xs) (if hkB xs = true then ((numsL xs).length : Int) else 0) := fun e g => by
    rw [e]
    unfold impl_hooked.f
    refine Ev.bind g ?_
    simp only [ite_self, Bool.false_eq_true, if_false]
    exact Ev.now _
  cases c : fitL xs 0 (numsL xs) with
  | false =>
    rw [c] at hf
    refine zero (by simp [hkB, c]) ?_
    unfold impl_extended.f
    refine Ev.bind hf ?_
    simp only [Bool.false_eq_true, if_false]
    exact extended_t xs
  | true =>
    rw [c] at hf
    by_cases d : ((placesFrom 0 xs 0).length : Int) = 1
    · have g : Ev (fun k => impl_extended.f k xs) ((if fromB 1 (numsL xs) 0 = true then ((numsL xs).length : Int) else 0), rd (placesFrom 0 xs 0) 0) := by
        unfold impl_extended.f
        refine Ev.bind hf ?_
        simp only [if_true]
        refine Ev.bind (holes_ev xs hx) ?_
        rw [bne_eq_false_iff_eq.2 d]
        exact extended_f xs hx d
      unfold impl_hooked.f
      refine Ev.bind g ?_
      unfold hkB
      rw [c, decide_eq_true d]
      by_cases z : rd (placesFrom 0 xs 0) 0 = wrap64 ((xs.length : Int) - 2)
      · rw [beq_iff_eq.2 z]
        simp only [z, if_true]
        refine (Ev.now _).cast ?_
        cases fromB 1 (numsL xs) 0 with
        | false => simp
        | true =>
          by_cases y : ((numsL xs).length : Int) > 0
          · simp only [decide_eq_true y, if_true, Bool.and_self]
          · simp only [decide_eq_false y, if_true, Bool.true_and, Bool.false_eq_true, if_false, Bool.false_and]
            omega
      · rw [beq_eq_false_iff_ne.2 z]
        simp only [z, if_false, Bool.and_false, Bool.false_eq_true]
        exact Ev.now _
    · refine zero (by unfold hkB; rw [decide_eq_false d]; simp) ?_
      unfold impl_extended.f
      refine Ev.bind hf ?_
      simp only [if_true]
      refine Ev.bind (holes_ev xs hx) ?_
      rw [bne_iff_ne.2 d]
      exact extended_t xs
theorem hooked0 (xs : List Int) (hx : xs.length ≤ 1048576) (h : isB xs = false) : Ev (fun k => impl_hooked.f k xs) 0 := by
  have hf := fits_ev xs 0 hx
  rw [h, Bool.false_and] at hf
  have g : Ev (fun k => impl_extended.f k xs) (0, 0) := by
    unfold impl_extended.f
    refine Ev.bind hf ?_
    simp only [Bool.false_eq_true, if_false]
    exact extended_t xs
  unfold impl_hooked.f
  refine Ev.bind g ?_
  simp only [ite_self]
  exact Ev.now _
theorem iok {xs : List Int} (c : isB xs = true) (d : (hkB xs || skB xs) = true) : impl_TriplesOfRow.ok xs (numsL xs).length = true := by
  have hn := numsL_short xs
  unfold impl_TriplesOfRow.ok
  rw [Bool.and_eq_true, Bool.and_eq_true]
  refine ⟨⟨decide_eq_true (isB_len c), List.all_eq_true.2 (fun x hx => decide_eq_true (isB_rng c x hx).2)⟩, List.all_eq_true.2 (fun i hi => decide_eq_true ?_)⟩
  have hi := List.mem_range.1 hi
  rw [st_all xs (isB_rng c) (i + 1) (by omega) (by omega)]
  exact two_of c d (i + 1) (by omega) (by omega)
theorem iL {xs : List Int} (c : isB xs = true) (n : Int) (m : Nat) (hm : m ≤ 20) : impl_TriplesOfRow.L xs n m = TL xs n m := by
  unfold impl_TriplesOfRow.L TL
  refine List.map_congr_left (fun i hi => ?_)
  have hi := List.mem_range.1 hi
  have e := st_all xs (isB_rng c) (i + 1) (by omega) (by omega)
  unfold impl_TriplesOfRow.one trip
  rw [show ((i : Int) + 1).toNat = i + 1 by omega, e]
  rfl
theorem iTriples_ev (xs : List Int) (hx : xs.length ≤ 1048576) : Ev (fun k => impl_TriplesOfRow.f k xs) (trV xs) := by
  have hn := numsL_short xs
  unfold impl_TriplesOfRow.f trV
  cases c : isB xs with
  | false =>
    refine Ev.bind (skolem0 xs hx c) (Ev.bind (hooked0 xs hx c) ?_)
    rw [if_neg (show ¬ trB xs = true by simp [trB, c])]
    exact Ev.now _
  | true =>
    refine Ev.bind (skolemV xs hx c) (Ev.bind (hookedV xs hx c) ?_)
    by_cases d : (hkB xs || skB xs) = true
    · have p := either_parts d
      have e : (if (if skB xs = true then ((numsL xs).length : Int) else 0) < (if hkB xs = true then ((numsL xs).length : Int) else 0) then (if hkB xs = true then ((numsL xs).length : Int) else 0) else (if skB xs = true then ((numsL xs).length : Int) else 0)) = ((numsL xs).length : Int) := by
        cases h1 : skB xs <;> cases h2 : hkB xs <;> first | (exfalso; rw [h1, h2] at d; exact Bool.false_ne_true d) | (simp only [Bool.false_eq_true, if_true, if_false]; split <;> omega)
      rw [e]
      unfold impl_TriplesOfRow.rest impl_isMany.f
      rw [if_pos (show ((numsL xs).length : Int) ≥ 1 by omega)]
      simp only [Option.bind_some]
      by_cases z : (numsL xs).length ≤ 10
      · rw [if_pos (show trB xs = true by simp only [trB, c, d, decide_eq_true z, Bool.and_self]), if_pos (decide_eq_true (by omega)), Int.toNat_natCast, if_pos (iok c d), iL c _ _ (by omega)]
        exact Ev.now _
      · rw [if_neg (show ¬ trB xs = true by simp [trB, c, z]), if_neg (by rw [decide_eq_true_eq]; omega)]
        exact Ev.now _
    · rw [if_neg (show ¬ trB xs = true by simp [trB, d])]
      rw [Bool.or_eq_true, not_or] at d
      rw [if_neg d.1, if_neg d.2]
      exact Ev.now _
def cmpL : List Int → List Int → Int
  | [], [] => 0
  | [], _ :: _ => -1
  | _ :: _, [] => 1
  | x :: a, y :: b => if x < y then -1 else if y < x then 1 else cmpL a b
theorem cmpInt_at (x y : Int) : cmp_Compare_int.f x y = some (if x < y then -1 else if y < x then 1 else 0) := by
  unfold cmp_Compare_int.f cmp_isNaN_int.f
  by_cases c : x < y <;> by_cases c' : y < x <;> simp [c, c']
theorem Compare_l0 (xs ys : List Int) (hx : xs.length ≤ 1048576) : ∀ (s t : List Int) (i : Nat), xs.drop i = s → ys.drop i = t → i ≤ ys.length → i ≤ xs.length → Ev (fun k => slices_Compare_int_int.l0 k xs ys xs xs.length (i : Int)) (cmpL s t)
  | [], [], i, h, h', hi, hj => by
    have h1 := dropNil h
    have h2 := dropNil h'
    refine Ev.of1 (fun k => ?_)
    simp (disch := omega) only [if_true, if_false, Bool.false_eq_true, slices_Compare_int_int.l0, if_neg, cmpL]
  | [], y :: t, i, h, h', hi, hj => by
    have h1 := dropNil h
    have h2 := dropLt h'
    refine Ev.of1 (fun k => ?_)
    simp (disch := omega) only [if_true, if_false, Bool.false_eq_true, slices_Compare_int_int.l0, if_neg, if_pos, cmpL]
  | x :: s, [], i, h, h', hi, hj => by
    obtain ⟨h1, h2, h3⟩ := dropCons h
    have h4 := dropNil h'
    refine Ev.of1 (fun k => ?_)
    simp (disch := omega) only [if_true, if_false, Bool.false_eq_true, slices_Compare_int_int.l0, if_pos, cmpL]
  | x :: s, y :: t, i, h, h', hi, hj => by
    obtain ⟨h1, h2, h3⟩ := dropCons h
    obtain ⟨h1', h2', h3'⟩ := dropCons h'
    by_cases c : x < y
    · refine Ev.of1 (fun k => ?_)
      simp (disch := omega) only [if_true, if_false, Bool.false_eq_true, slices_Compare_int_int.l0, if_pos, if_neg, h2, h2', cmpInt_at, Option.bind_some, cmpL]
    · by_cases c' : y < x
      · refine Ev.of1 (fun k => ?_)
        simp (disch := omega) only [if_true, if_false, Bool.false_eq_true, slices_Compare_int_int.l0, if_pos, if_neg, h2, h2', cmpInt_at, Option.bind_some, cmpL]
      · refine Ev.step (f := fun k => slices_Compare_int_int.l0 k xs ys xs xs.length ((i + 1 : Nat) : Int)) (fun k => ?_) ((Compare_l0 xs ys hx s t (i + 1) h3 h3' (by omega) (by omega)).cast (by simp [cmpL, c, c']))
        simp (disch := omega) only [if_true, if_false, Bool.false_eq_true, slices_Compare_int_int.l0, if_pos, if_neg, h2, h2', cmpInt_at, Option.bind_some, w64s]
theorem Compare_ev (xs ys : List Int) (hx : xs.length ≤ 1048576) : Ev (fun k => slices_Compare_int_int.f k xs ys) (cmpL xs ys) :=
  Ev.congr (fun k => rfl) (Compare_l0 xs ys hx xs ys 0 rfl rfl (by omega) (by omega))
theorem roSkolem_ev (xs : List Int) (hx : xs.length ≤ 1048576) (h : isB xs = true) : Ev (fun k => spec_roSkolem.f k xs) (skB xs) := by
  unfold spec_roSkolem.f skB
  refine Ev.bind (roFits_ev xs 0 hx h) ?_
  cases fitL xs 0 (numsL xs) with
  | false =>
    simp only [Bool.false_eq_true, if_false, Bool.false_and]
    exact Ev.now _
  | true =>
    simp only [if_true, Bool.true_and]
    refine Ev.bind (roFrom_ev xs 1 hx) ?_
    cases (fromB 1 (numsL xs) 0 && decide (((numsL xs).length : Int) > 0)) with
    | false =>
      simp only [Bool.false_eq_true, if_false, Bool.false_and]
      exact Ev.now _
    | true =>
      simp only [if_true, Bool.true_and]
      exact Ev.bind (roPlaces_ev xs 0 hx) (Ev.now _)
theorem roHooked_ev (xs : List Int) (hx : xs.length ≤ 1048576) (h : isB xs = true) : Ev (fun k => spec_roHooked.f k xs) (hkB xs) := by
  unfold spec_roHooked.f hkB
  refine Ev.bind (roPlaces_ev xs 0 hx) ?_
  refine Ev.bind (roFits_ev xs 0 hx h) ?_
  cases fitL xs 0 (numsL xs) with
  | false =>
    simp only [Bool.false_eq_true, if_false, Bool.false_and]
    exact Ev.now _
  | true =>
    simp only [if_true, Bool.true_and]
    refine Ev.bind (roFrom_ev xs 1 hx) ?_
    cases (fromB 1 (numsL xs) 0 && decide (((numsL xs).length : Int) > 0)) with
    | false =>
      simp only [Bool.false_eq_true, if_false, Bool.false_and]
      exact Ev.now _
    | true =>
      simp only [if_true, Bool.true_and]
      by_cases d : ((placesFrom 0 xs 0).length : Int) = 1
      · have d1 : 0 < ((placesFrom 0 xs 0).length : Int) := by omega
        rw [decide_eq_true d, Bool.true_and, if_pos d, if_pos d1]
        exact Ev.now _
      · rw [decide_eq_false d, Bool.false_and, if_neg d]
        exact Ev.now _
theorem trRow_ev (xs : List Int) (hx : xs.length ≤ 1048576) (c : isB xs = true) : Ev (fun k => spec_trRow.f k xs) (wrap64 ((xs.length : Int) / 2), hkB xs, (hkB xs || skB xs) && decide (wrap64 ((xs.length : Int) / 2) ≤ 10)) := by
  unfold spec_trRow.f
  have hi := roIs_ev xs hx
  rw [c] at hi
  refine Ev.bind hi ?_
  simp only [if_true]
  refine Ev.bind (roHooked_ev xs hx c) ?_
  cases hkB xs with
  | true =>
    simp only [if_true, Bool.true_or, Bool.true_and]
    exact Ev.now _
  | false =>
    simp only [Bool.false_eq_true, if_false, Bool.false_or]
    refine Ev.bind (roSkolem_ev xs hx c) ?_
    cases skB xs with
    | true =>
      simp only [if_true, Bool.true_and]
      exact Ev.now _
    | false =>
      simp only [Bool.false_eq_true, if_false, Bool.false_and]
      exact Ev.now _
theorem trRow_no (xs : List Int) (hx : xs.length ≤ 1048576) (c : isB xs = false) : Ev (fun k => spec_trRow.f k xs) (0, false, false) := by
  unfold spec_trRow.f
  have hi := roIs_ev xs hx
  rw [c] at hi
  refine Ev.bind hi ?_
  simp only [Bool.false_eq_true, if_false]
  exact Ev.now _
theorem trOfRow_l0 (xs : List Int) (hx : xs.length ≤ 1048576) (n : Nat) (hn : n ≤ 1000) (h2 : ∀ m : Nat, 1 ≤ m → m ≤ n → (placesFrom (m : Int) xs 0).length = 2) :
    ∀ (r i : Nat), i + r = n → Ev (fun k => spec_trOfRow.l0 k xs (n : Int) (TL xs n i) ((i + 1 : Nat) : Int)) (TL xs n n) := by
  intro r
  induction r with
  | zero =>
    intro i h
    refine Ev.of1 (fun k => ?_)
    obtain rfl : i = n := by omega
    simp (disch := omega) only [spec_trOfRow.l0, if_neg]
  | succ r ih =>
    intro i h
    have e := h2 (i + 1) (by omega) (by omega)
    have H := ih (i + 1) (by omega)
    refine Ev.step (f := fun k => (spec_roPlaces.f k xs ((i + 1 : Nat) : Int)).bind fun t159 => (if 0 < (t159.length : Int) then (if 1 < (t159.length : Int) then (if (TL xs n i).length < 5864062014805 then (spec_trOfRow.l0 k xs (n : Int) (TL xs n i ++ [(([((i + 1 : Nat) : Int), wrap64 ((wrap64 ((rd t159 0) + (n : Int))) + 1), wrap64 ((wrap64 ((rd t159 1) + (n : Int))) + 1)] : List Int))]) ((i + 1 + 1 : Nat) : Int)) else (none)) else (none)) else (none))) (fun k => ?_) (Ev.bind (roPlaces_ev xs _ hx) ?_)
    · simp (disch := omega) only [spec_trOfRow.l0, if_pos, w64s]
    · refine Ev.congr (fun k => ?_) H
      rw [if_pos (by omega), if_pos (by omega), if_pos (by rw [TL_len]; omega), TL_succ]
      rfl
theorem trOfRow_ev (xs : List Int) (hx : xs.length ≤ 1048576) (n : Nat) (hn : n ≤ 1000) (h2 : ∀ m : Nat, 1 ≤ m → m ≤ n → (placesFrom (m : Int) xs 0).length = 2) : Ev (fun k => spec_trOfRow.f k xs (n : Int)) (TL xs n n) :=
  Ev.congr (fun k => rfl) (trOfRow_l0 xs hx n hn h2 n 0 (by omega))
def rowN (n : Int) (t : List Int) : List Int := if rd t 2 = 3 * n + 1 then t.set 2 (3 * n) else t
theorem irow {n : Nat} (hn : n ≤ 1000) : impl_SystemOfRow.row (n : Int) = rowN (n : Int) := by
  funext t
  unfold impl_SystemOfRow.row rowN
  rw [w64 (n := 3 * (n : Int)) (by omega) (by omega), w64 (n := 3 * (n : Int) + 1) (by omega) (by omega)]
theorem srow {n : Nat} (hn : n ≤ 1000) : spec_SystemOfRow.row (n : Int) = rowN (n : Int) := by
  funext t
  unfold spec_SystemOfRow.row rowN
  rw [w64 (n := 3 * (n : Int)) (by omega) (by omega), w64 (n := 3 * (n : Int) + 1) (by omega) (by omega)]
theorem place_two {xs : List Int} {m : Int} (h : (placesFrom m xs 0).length = 2) : (0 ≤ rd (placesFrom m xs 0) 0 ∧ rd (placesFrom m xs 0) 0 < xs.length) ∧ 0 ≤ rd (placesFrom m xs 0) 1 ∧ rd (placesFrom m xs 0) 1 < xs.length := by
  have hb := placesFrom_bounds m
  match e : placesFrom m xs 0, h with
  | [p, q], _ =>
    have h1 := hb p xs 0 (by rw [e]; simp)
    have h2 := hb q xs 0 (by rw [e]; simp)
    exact ⟨⟨show 0 ≤ p by omega, show p < xs.length by omega⟩, show 0 ≤ q by omega, show q < xs.length by omega⟩
theorem TL_rows {xs : List Int} (c : isB xs = true) (d : (hkB xs || skB xs) = true) : ∀ t ∈ TL xs (numsL xs).length (numsL xs).length, ∃ x y z, t = [x, y, z] ∧ 1 ≤ x ∧ x ≤ 40 ∧ 0 ≤ y ∧ y ≤ 100 ∧ z ≤ (numsL xs).length + xs.length := by
  intro t ht
  have hs := numsL_short xs
  have hl := isB_len c
  unfold TL at ht
  obtain ⟨i, hi, rfl⟩ := List.mem_map.1 ht
  have hi := List.mem_range.1 hi
  have h2 := two_of c d (i + 1) (by omega) (by omega)
  obtain ⟨⟨p1, p2⟩, q1, q2⟩ := place_two h2
  rw [show ((i + 1 : Nat) : Int) = (i : Int) + 1 by omega] at p1 p2 q1 q2
  unfold trip
  rw [w64 (n := rd (placesFrom ((i : Int) + 1) xs 0) 0 + ((numsL xs).length : Int)) (by omega) (by omega), w64 (n := rd (placesFrom ((i : Int) + 1) xs 0) 1 + ((numsL xs).length : Int)) (by omega) (by omega), w64 (by omega) (by omega), w64 (by omega) (by omega)]
  exact ⟨_, _, _, rfl, by omega, by omega, by omega, by omega, by omega⟩
theorem rowN_form (n x y z : Int) : ∃ z', rowN n [x, y, z] = [x, y, z'] := by
  unfold rowN
  split
  · exact ⟨_, rfl⟩
  · exact ⟨_, rfl⟩
theorem TL_fine {xs : List Int} (c : isB xs = true) (d : (hkB xs || skB xs) = true) (n : Int) : ∀ t ∈ (TL xs (numsL xs).length (numsL xs).length).map (rowN n), t.length = 3 ∧ 0 ≤ rd t 0 ∧ rd t 0 ≤ 1000 ∧ 0 ≤ rd t 1 ∧ rd t 1 ≤ 1000 := by
  intro t ht
  obtain ⟨u, hu, rfl⟩ := List.mem_map.1 ht
  obtain ⟨x, y, z, rfl, h1, h2, h3, h4, _⟩ := TL_rows c d u hu
  obtain ⟨z', e⟩ := rowN_form n x y z
  rw [e]
  exact ⟨rfl, show 0 ≤ x by omega, show x ≤ 1000 by omega, show 0 ≤ y by omega, show y ≤ 1000 by omega⟩
theorem TL_threes {xs : List Int} (c : isB xs = true) (d : (hkB xs || skB xs) = true) : ((TL xs (numsL xs).length (numsL xs).length).all fun t => decide (t.length = 3)) = true := by
  refine List.all_eq_true.2 (fun t ht => decide_eq_true ?_)
  obtain ⟨x, y, z, rfl, _⟩ := TL_rows c d t ht
  rfl
/-- In a row that is not hooked no number is 3 n + 1. -/
theorem TL_flat {xs : List Int} (c : isB xs = true) (d : (hkB xs || skB xs) = true) (e : hkB xs = false) : (TL xs (numsL xs).length (numsL xs).length).map (rowN ((numsL xs).length : Int)) = TL xs (numsL xs).length (numsL xs).length := by
  have hk : skB xs = true := by rw [e, Bool.false_or] at d; exact d
  have p := skB_parts hk
  have hc := isB_count c
  refine (List.map_congr_left (fun t ht => ?_)).trans (List.map_id _)
  obtain ⟨x, y, z, rfl, h1, h2, h3, h4, h5⟩ := TL_rows c d t ht
  unfold rowN
  rw [if_neg (show ¬ rd [x, y, z] 2 = 3 * ((numsL xs).length : Int) + 1 from fun h => by
    have h' : z = 3 * ((numsL xs).length : Int) + 1 := h
    omega)]
  rfl
def sysV (xs : List Int) : List (List Int) × Bool := if trB xs = true ∧ (numsL xs).length ≤ 6 then (Search.putAll [] (Search.circAll (6 * ((numsL xs).length : Int) + 1) ((TL xs (numsL xs).length (numsL xs).length).map (rowN ((numsL xs).length : Int)))), true) else ([], false)
theorem trB_parts {xs : List Int} (h : trB xs = true) : isB xs = true ∧ (hkB xs || skB xs) = true ∧ (numsL xs).length ≤ 10 ∧ 1 ≤ (numsL xs).length := by
  unfold trB at h
  rw [Bool.and_eq_true, Bool.and_eq_true, decide_eq_true_eq] at h
  exact ⟨h.1, h.2.1, h.2.2, (either_parts h.2.1).2.1⟩
theorem sys_circ {xs : List Int} (h : trB xs = true) (h6 : (numsL xs).length ≤ 6) : impl_circle.f (6 * ((numsL xs).length : Int) + 1) ((TL xs (numsL xs).length (numsL xs).length).map (rowN ((numsL xs).length : Int))) = some (Search.putAll [] (Search.circAll (6 * ((numsL xs).length : Int) + 1) ((TL xs (numsL xs).length (numsL xs).length).map (rowN ((numsL xs).length : Int))))) := by
  obtain ⟨c, d, h10, h1⟩ := trB_parts h
  unfold impl_circle.f
  rw [if_pos]
  unfold circOk
  rw [Bool.and_eq_true, decide_eq_true_eq, List.all_eq_true, List.length_map, TL_len]
  exact ⟨by omega, fun t ht => decide_eq_true (TL_fine c d _ t ht)⟩
theorem iSys_ev (xs : List Int) (hx : xs.length ≤ 1048576) : Ev (fun k => impl_SystemOfRow.f k xs) (sysV xs) := by
  unfold impl_SystemOfRow.f
  refine Ev.bind (iTriples_ev xs hx) ?_
  refine Ev.all (fun k => ?_)
  have hs := numsL_short xs
  unfold trV sysV
  by_cases h : trB xs = true
  · obtain ⟨c, d, h10, h1⟩ := trB_parts h
    rw [if_pos h]
    show impl_SystemOfRow.rest (TL xs (numsL xs).length (numsL xs).length) true = _
    unfold impl_SystemOfRow.rest
    rw [if_pos rfl, TL_len, w64 (n := 6 * ((numsL xs).length : Int)) (by omega) (by omega), w64 (n := 6 * ((numsL xs).length : Int) + 1) (by omega) (by omega)]
    by_cases h6 : (numsL xs).length ≤ 6
    · rw [if_neg (by omega), if_pos (by rw [TL_threes c d, Bool.and_true]; exact decide_eq_true h1), irow (by omega), sys_circ h h6, if_pos ⟨h, h6⟩]
      rfl
    · rw [if_pos (by omega), if_neg (fun e => h6 e.2)]
  · rw [if_neg h, if_neg (fun e => h e.1)]
    rfl
theorem sSys_ev (xs : List Int) (hx : xs.length ≤ 1048576) : Ev (fun k => spec_SystemOfRow.f k xs) (sysV xs) := by
  have hs := numsL_short xs
  unfold spec_SystemOfRow.f sysV
  cases c : isB xs with
  | false =>
    refine Ev.bind (trRow_no xs hx c) ?_
    rw [if_neg (by simp [trB, c])]
    exact Ev.now _
  | true =>
    refine Ev.bind (trRow_ev xs hx c) ?_
    by_cases d : (hkB xs || skB xs) = true
    · have hl := half_len c d
      rw [hl]
      by_cases z : (numsL xs).length ≤ 10
      · have h : trB xs = true := by simp only [trB, c, d, decide_eq_true z, Bool.and_self]
        obtain ⟨_, _, _, h1⟩ := trB_parts h
        unfold spec_SystemOfRow.rest
        have hd : decide (((numsL xs).length : Int) ≤ 10) = true := decide_eq_true (by omega)
        rw [d, hd]
        simp only [Bool.and_self, if_true]
        rw [w64 (n := 6 * ((numsL xs).length : Int)) (by omega) (by omega), w64 (n := 6 * ((numsL xs).length : Int) + 1) (by omega) (by omega)]
        by_cases h6 : (numsL xs).length ≤ 6
        · rw [if_pos ⟨h, h6⟩]
          have hng : ¬ 6 * ((numsL xs).length : Int) + 1 > 40 := by omega
          simp only [hng, if_false]
          have ht : spec_SystemOfRow.trip ((numsL xs).length : Int) (hkB xs) (TL xs (numsL xs).length (numsL xs).length) = some ((TL xs (numsL xs).length (numsL xs).length).map (rowN ((numsL xs).length : Int))) := by
            unfold spec_SystemOfRow.trip
            cases e : hkB xs with
            | false => rw [if_neg (by decide), TL_flat c d e]
            | true =>
              rw [if_pos rfl, if_pos, srow (by omega)]
              rw [TL_threes c d, Bool.and_true, TL_len]
              exact decide_eq_true (by omega)
          refine Ev.bind (trOfRow_ev xs hx (numsL xs).length (by omega) (two_of c d)) ?_
          simp only [ht, Option.bind_some]
          exact Ev.bind (trBlocks_ev _ (by omega) _ (by rw [List.length_map, TL_len]; omega) (TL_fine c d _)) (Ev.now _)
        · rw [if_neg (fun e => h6 e.2)]
          have hg : 6 * ((numsL xs).length : Int) + 1 > 40 := by omega
          simp only [hg, if_true]
          exact Ev.now _
      · have hd : decide (((numsL xs).length : Int) ≤ 10) = false := decide_eq_false (by omega)
        rw [if_neg (by simp [trB, c, z])]
        unfold spec_SystemOfRow.rest
        simp only [hd, Bool.and_false, Bool.false_eq_true, if_false]
        exact Ev.now _
    · rw [if_neg (by simp [trB, d])]
      unfold spec_SystemOfRow.rest
      simp only [d, Bool.false_and, Bool.false_eq_true, if_false]
      exact Ev.now _
theorem total3 : ∀ (t : List (List Int)), (∀ x ∈ t, x.length = 3) → totalL t = 3 * t.length
  | [], _ => rfl
  | x :: t, h => by
    unfold totalL
    rw [total3 t (fun y hy => h y (List.mem_cons_of_mem _ hy)), h x List.mem_cons_self, List.length_cons]
    omega
theorem FnExactSystemOfRow : laws_FnExactSystemOfRow.Pure := by
  intro l hl hw
  obtain ⟨K1, h1⟩ := sSys_ev l hl
  obtain ⟨K2, h2⟩ := iSys_ev l hl
  unfold sysV at h1 h2
  by_cases c : trB l = true ∧ (numsL l).length ≤ 6
  · rw [if_pos c] at h1 h2
    have hs3 := Search.putAll_all3 (circAll_small (6 * ((numsL l).length : Int) + 1) ((TL l (numsL l).length (numsL l).length).map (rowN ((numsL l).length : Int)))) (l := []) (fun x hx => by simp at hx)
    have hlen : (Search.putAll [] (Search.circAll (6 * ((numsL l).length : Int) + 1) ((TL l (numsL l).length (numsL l).length).map (rowN ((numsL l).length : Int))))).length ≤ 400 := by
      rw [Search.putAll_len, circAll_len, List.length_nil, Nat.add_zero, List.length_map, TL_len]
      exact Nat.le_trans (Nat.mul_le_mul (show (numsL l).length ≤ 10 by omega) (show (6 * ((numsL l).length : Int) + 1).toNat ≤ 40 by omega)) (Nat.le_refl _)
    exact ⟨K1 + K2, _, _, h1 _ (by omega), h2 _ (by omega), by omega, by rw [total3 _ hs3]; omega⟩
  · rw [if_neg c] at h1 h2
    exact ⟨K1 + K2, _, _, h1 _ (by omega), h2 _ (by omega), by decide, by decide⟩
end Go.Proofs.Ytgpnhaaklhinlaa.Pure
