/- The law FnExactRowOfPairs holds for every input: what the program's function computes is what the reference's computes. Conditions: none but the statement's own. -/
import Derived.Test.YteepinopcmcklaaPFnExactRowOfPairsx6
import Derived.Test.YteepinopcmcklaaAid
namespace Go.Proofs.Yteepinopcmcklaa.Pure
open Go.RowKit Go.Proofs.Yteepinopcmcklaa.PFnExactRowOfPairs Go.Proofs.YteepinopcmcklaaW.PrintWords Go.Proofs.YteepinopcmcklaaW.PrintLast Go.Proofs.Yteepinopcmcklaa.Aid
set_option linter.unusedVariables false
set_option linter.unusedSimpArgs false
theorem dropConsL {xs : List (List Int)} {i : Nat} {x : List Int} {t : List (List Int)} (h : xs.drop i = x :: t) : i < xs.length ∧ rd_L1 xs (i : Int) = x ∧ xs.drop (i + 1) = t :=
  ⟨dropLt h, by simp [rd_L1, List.getD_eq_getElem?_getD, dropGet h], dropSucc h⟩
theorem memDrop {α : Type} {xs : List α} {i : Nat} {x : α} {t : List α} (h : xs.drop i = x :: t) : x ∈ xs := by
  rw [← List.take_append_drop i xs, h]
  simp
def szL (m : Int) : List (List Int) → Int
  | [] => m
  | x :: t => if m - (x.length : Int) < 0 then -1 else szL (m - (x.length : Int)) t
def totL : List (List Int) → Nat
  | [] => 0
  | x :: t => x.length + totL t
theorem szL_tot : ∀ (t : List (List Int)) (m : Int), 0 ≤ szL m t → (totL t : Int) ≤ m
  | [], m, h => by simpa [szL, totL] using h
  | x :: t, m, h => by
    unfold szL at h
    by_cases c : m - (x.length : Int) < 0
    · rw [if_pos c] at h
      omega
    · rw [if_neg c] at h
      have := szL_tot t _ h
      unfold totL
      omega
theorem totL_mem : ∀ (t : List (List Int)) (x : List Int), x ∈ t → x.length ≤ totL t
  | [], x, h => by simp at h
  | y :: t, x, h => by
    unfold totL
    rcases List.mem_cons.1 h with rfl | h
    · omega
    · have := totL_mem t x h
      omega
theorem szIntSS_l0 (xs : List (List Int)) (hx : xs.length ≤ 1048576) (hm : ∀ x ∈ xs, x.length ≤ maxLen) : ∀ (t : List (List Int)) (i : Nat) (m : Int), xs.drop i = t → 0 ≤ m → m ≤ 1048576 → Ev (fun k => laws_szIntSS.l0 k xs m (i : Int)) (szL m t)
  | [], i, m, h, h0, hb => by
    have h1 := dropNil h
    refine Ev.of1 (fun k => ?_)
    simp (disch := omega) only [if_true, if_false, Bool.false_eq_true, laws_szIntSS.l0, if_neg, szL]
  | x :: t, i, m, h, h0, hb => by
    obtain ⟨h1, h2, h3⟩ := dropConsL h
    have hl := hm x (memDrop h)
    unfold maxLen at hl
    have e1 : wrap64 (m - (x.length : Int)) = m - (x.length : Int) := w64 (by omega) (by omega)
    by_cases c : m - (x.length : Int) < 0
    · refine Ev.of1 (fun k => ?_)
      simp (disch := omega) only [if_true, if_false, Bool.false_eq_true, laws_szIntSS.l0, laws_szIntS.f, if_pos, h2, e1, Option.bind_some, szL]
    · refine Ev.step (f := fun k => laws_szIntSS.l0 k xs (m - (x.length : Int)) ((i + 1 : Nat) : Int)) (fun k => ?_) ((szIntSS_l0 xs hx hm t (i + 1) _ h3 (by omega) (by omega)).cast (by simp only [szL, c, if_false]))
      simp (disch := omega) only [if_true, if_false, Bool.false_eq_true, laws_szIntSS.l0, laws_szIntS.f, if_pos, if_neg, h2, e1, Option.bind_some, w64s]
theorem szIntSS_ev (xs : List (List Int)) (hb : xs.length * 24 ≤ 140737488351232) (hm : ∀ x ∈ xs, x.length ≤ maxLen) : ∃ r : Int, Ev (fun k => laws_szIntSS.f k xs 1048576) r ∧ (¬ r < 0 → xs.length ≤ 1048576 ∧ (totL xs : Int) + xs.length ≤ 1048576) := by
  have e1 : wrap64 (1048576 - (xs.length : Int)) = 1048576 - (xs.length : Int) := w64 (by omega) (by omega)
  by_cases c : 1048576 - (xs.length : Int) < 0
  · refine ⟨-1, Ev.all (fun k => ?_), fun h => by omega⟩
    simp (disch := omega) only [if_true, if_false, Bool.false_eq_true, laws_szIntSS.f, e1, if_pos]
  · refine ⟨szL (1048576 - (xs.length : Int)) xs, Ev.congr (fun k => ?_) (szIntSS_l0 xs (by omega) hm xs 0 _ rfl (by omega) (by omega)), fun h => ⟨by omega, ?_⟩⟩
    · simp (disch := omega) only [if_true, if_false, Bool.false_eq_true, laws_szIntSS.f, e1, if_neg]
      rfl
    · have := szL_tot xs (1048576 - (xs.length : Int)) (by omega)
      omega
theorem toIntS_l0 (xs : List Int) (hx : xs.length ≤ 1048576) : ∀ (t : List Int) (i : Nat) (ys : List Int), xs.drop i = t → i ≤ xs.length → ys.length = xs.length → ys.take i = xs.take i → Ev (fun k => laws_toIntS.l0 k xs ys (i : Int)) xs
  | [], i, ys, h, hi, hl, he => by
    have h1 := dropNil h
    obtain rfl : ys = xs := by
      have : i = xs.length := by omega
      subst this
      rw [List.take_of_length_le (by omega), List.take_of_length_le (by omega)] at he
      exact he
    refine Ev.of1 (fun k => ?_)
    simp (disch := omega) only [if_true, if_false, Bool.false_eq_true, laws_toIntS.l0, if_neg]
  | x :: t, i, ys, h, hi, hl, he => by
    obtain ⟨h1, h2, h3⟩ := dropCons h
    refine Ev.step (f := fun k => laws_toIntS.l0 k xs (ys.set i x) ((i + 1 : Nat) : Int)) (fun k => ?_) (toIntS_l0 xs hx t (i + 1) _ h3 (by omega) (by simpa using hl) ?_)
    · simp (disch := omega) only [if_true, if_false, Bool.false_eq_true, laws_toIntS.l0, if_pos, w64s, h2, toNat_cast]
    · rw [take_succ_at h, List.take_add_one, List.take_set_of_le (by omega), he]
      simp [hl, h1]
theorem toIntS_ev (xs : List Int) (hx : xs.length ≤ 1048576) : Ev (fun k => laws_toIntS.f k xs) xs := by
  refine Ev.congr (fun k => ?_) (toIntS_l0 xs hx xs 0 (List.replicate xs.length 0) rfl (by omega) (by simp) rfl)
  unfold laws_toIntS.f
  rw [if_pos (by omega), if_pos (by omega)]
  rfl
theorem toIntSS_l0 (xs : List (List Int)) (hx : xs.length ≤ 1048576) (hm : ∀ x ∈ xs, x.length ≤ 1048576) : ∀ (t : List (List Int)) (i : Nat) (ys : List (List Int)), xs.drop i = t → i ≤ xs.length → ys.length = xs.length → ys.take i = xs.take i → Ev (fun k => laws_toIntSS.l0 k xs ys (i : Int)) xs
  | [], i, ys, h, hi, hl, he => by
    have h1 := dropNil h
    obtain rfl : ys = xs := by
      have : i = xs.length := by omega
      subst this
      rw [List.take_of_length_le (by omega), List.take_of_length_le (by omega)] at he
      exact he
    refine Ev.of1 (fun k => ?_)
    simp (disch := omega) only [if_true, if_false, Bool.false_eq_true, laws_toIntSS.l0, if_neg]
  | x :: t, i, ys, h, hi, hl, he => by
    obtain ⟨h1, h2, h3⟩ := dropConsL h
    refine Ev.step (f := fun k => (laws_toIntS.f k x).bind fun t112 => laws_toIntSS.l0 k xs (ys.set i t112) ((i + 1 : Nat) : Int)) (fun k => ?_) (Ev.bind (toIntS_ev x (hm x (memDrop h))) (toIntSS_l0 xs hx hm t (i + 1) _ h3 (by omega) (by simpa using hl) ?_))
    · simp (disch := omega) only [if_true, if_false, Bool.false_eq_true, laws_toIntSS.l0, if_pos, w64s, h2, toNat_cast]
    · rw [take_succ_at h, List.take_add_one, List.take_set_of_le (by omega), he]
      simp [hl, h1]
theorem toIntSS_ev (xs : List (List Int)) (hx : xs.length ≤ 1048576) (hm : ∀ x ∈ xs, x.length ≤ 1048576) : Ev (fun k => laws_toIntSS.f k xs) xs := by
  refine Ev.congr (fun k => ?_) (toIntSS_l0 xs hx hm xs 0 (List.replicate xs.length []) rfl (by omega) (by simp) rfl)
  unfold laws_toIntSS.f
  rw [if_pos (by omega), if_pos (by omega)]
  rfl
theorem eqIntS_l0 (xs ys : List Int) (hx : xs.length ≤ 1048576) (hl : xs.length = ys.length) : ∀ (s t : List Int) (i : Nat), xs.drop i = s → ys.drop i = t → Ev (fun k => laws_eqIntS.l0 k xs ys (i : Int)) (decide (s = t))
  | [], t, i, h, h' => by
    have h1 := dropNil h
    have h2 : t = [] := by rw [← h']; simp; omega
    subst h2
    refine Ev.of1 (fun k => ?_)
    simp (disch := omega) only [if_true, if_false, Bool.false_eq_true, laws_eqIntS.l0, if_neg]
    simp
  | x :: s, [], i, h, h' => by
    have h1 := dropLt h
    have h2 := dropNil h'
    omega
  | x :: s, y :: t, i, h, h' => by
    obtain ⟨h1, h2, h3⟩ := dropCons h
    obtain ⟨h1', h2', h3'⟩ := dropCons h'
    by_cases c : x = y
    · refine Ev.step (f := fun k => laws_eqIntS.l0 k xs ys ((i + 1 : Nat) : Int)) (fun k => ?_) ((eqIntS_l0 xs ys hx hl s t (i + 1) h3 h3').cast (by simp [c]))
      simp (disch := omega) only [if_true, if_false, Bool.false_eq_true, laws_eqIntS.l0, if_pos, w64s, h2, h2']
    · refine Ev.of1 (fun k => ?_)
      simp (disch := omega) only [if_true, if_false, Bool.false_eq_true, laws_eqIntS.l0, if_pos, if_neg, h2, h2']
      simp [c]
theorem eqIntS_ev (xs ys : List Int) (hx : xs.length ≤ 1048576) : Ev (fun k => laws_eqIntS.f k xs ys) (decide (xs = ys)) := by
  by_cases c : xs.length = ys.length
  · refine Ev.congr (fun k => ?_) (eqIntS_l0 xs ys hx c xs ys 0 rfl rfl)
    unfold laws_eqIntS.f
    rw [if_pos (by omega)]
    rfl
  · refine Ev.all (fun k => ?_)
    unfold laws_eqIntS.f
    rw [if_neg (by omega)]
    have : xs ≠ ys := fun e => c (by rw [e])
    simp [this]
theorem eqIntS_same (xs : List Int) (hx : xs.length ≤ 1048576) : Ev (fun k => laws_eqIntS.f k xs xs) true := (eqIntS_ev xs xs hx).cast (by simp)
theorem eqIntSS_l0 (xs ys : List (List Int)) (hx : xs.length ≤ 1048576) (hm : ∀ x ∈ xs, x.length ≤ 1048576) (hl : xs.length = ys.length) : ∀ (s t : List (List Int)) (i : Nat), xs.drop i = s → ys.drop i = t → Ev (fun k => laws_eqIntSS.l0 k xs ys (i : Int)) (decide (s = t))
  | [], t, i, h, h' => by
    have h1 := dropNil h
    have h2 : t = [] := by rw [← h']; simp; omega
    subst h2
    refine Ev.of1 (fun k => ?_)
    simp (disch := omega) only [if_true, if_false, Bool.false_eq_true, laws_eqIntSS.l0, if_neg]
    simp
  | x :: s, [], i, h, h' => by
    have h1 := dropLt h
    have h2 := dropNil h'
    omega
  | x :: s, y :: t, i, h, h' => by
    obtain ⟨h1, h2, h3⟩ := dropConsL h
    obtain ⟨h1', h2', h3'⟩ := dropConsL h'
    refine Ev.step (f := fun k => (laws_eqIntS.f k x y).bind fun t120 => (if t120 = true then (laws_eqIntSS.l0 k xs ys ((i + 1 : Nat) : Int)) else (some false))) (fun k => ?_) (Ev.bind (eqIntS_ev x y (hm x (memDrop h))) ?_)
    · simp (disch := omega) only [if_true, if_false, Bool.false_eq_true, laws_eqIntSS.l0, if_pos, w64s, h2, h2']
    · by_cases c : x = y
      · simp only [c, decide_true, if_true]
        exact (eqIntSS_l0 xs ys hx hm hl s t (i + 1) h3 h3').cast (by simp)
      · simp only [c, decide_false, Bool.false_eq_true, if_false]
        exact (Ev.now _).cast (by simp [c])
theorem eqIntSS_ev (xs ys : List (List Int)) (hx : xs.length ≤ 1048576) (hm : ∀ x ∈ xs, x.length ≤ 1048576) : Ev (fun k => laws_eqIntSS.f k xs ys) (decide (xs = ys)) := by
  by_cases c : xs.length = ys.length
  · refine Ev.congr (fun k => ?_) (eqIntSS_l0 xs ys hx hm c xs ys 0 rfl rfl)
    unfold laws_eqIntSS.f
    rw [if_pos (by omega)]
    rfl
  · refine Ev.all (fun k => ?_)
    unfold laws_eqIntSS.f
    rw [if_neg (by omega)]
    have : xs ≠ ys := fun e => c (by rw [e])
    simp [this]
theorem eqIntSS_same (xs : List (List Int)) (hx : xs.length ≤ 1048576) (hm : ∀ x ∈ xs, x.length ≤ 1048576) : Ev (fun k => laws_eqIntSS.f k xs xs) true := (eqIntSS_ev xs xs hx hm).cast (by simp)
theorem roNumber_at (n : Int) : spec_roNumber.f n = some (decide (1 ≤ n ∧ n ≤ 20)) := by
  unfold spec_roNumber.f spec_l1In.f
  by_cases c : n ≥ 1
  · have c' : 1 ≤ n := c
    simp [c, c']
  · have c' : ¬ 1 ≤ n := c
    simp [c, c']
def hasB (n : Int) (l : List Int) : Bool := l.any fun x => decide (x = n)
theorem l1Has_l0 (n : Int) (xs : List Int) (hx : xs.length ≤ 1048576) : ∀ (t : List Int) (i : Nat), xs.drop i = t → Ev (fun k => spec_l1Has.l0 k n xs xs.length (i : Int)) (hasB n t)
  | [], i, h => by
    have h1 := dropNil h
    refine Ev.of1 (fun k => ?_)
    simp (disch := omega) only [if_true, if_false, Bool.false_eq_true, spec_l1Has.l0, if_neg]
    rfl
  | x :: t, i, h => by
    obtain ⟨h1, h2, h3⟩ := dropCons h
    by_cases c : x = n
    · refine Ev.of1 (fun k => ?_)
      simp (disch := omega) only [if_true, if_false, Bool.false_eq_true, spec_l1Has.l0, if_pos, h2, c]
      simp [hasB]
    · refine Ev.step (f := fun k => spec_l1Has.l0 k n xs xs.length ((i + 1 : Nat) : Int)) (fun k => ?_) ((l1Has_l0 n xs hx t (i + 1) h3).cast (by simp [hasB, c]))
      simp (disch := omega) only [if_true, if_false, Bool.false_eq_true, spec_l1Has.l0, if_pos, if_neg, w64s, h2]
theorem l1Has_ev (xs : List Int) (n : Int) (hx : xs.length ≤ 1048576) : Ev (fun k => spec_l1Has.f k xs n) (hasB n xs) :=
  Ev.congr (fun k => rfl) (l1Has_l0 n xs hx xs 0 rfl)
theorem Index_l0 (n : Int) (xs : List Int) (hx : xs.length ≤ 1048576) : ∀ (t : List Int) (i : Nat), xs.drop i = t → ∃ r : Int, Ev (fun k => slices_Index_int_int.l0 k xs n xs.length (i : Int)) r ∧ decide (r ≥ 0) = hasB n t
  | [], i, h => by
    have h1 := dropNil h
    refine ⟨-1, Ev.of1 (fun k => ?_), by simp [hasB]⟩
    simp (disch := omega) only [if_true, if_false, Bool.false_eq_true, slices_Index_int_int.l0, if_neg]
  | x :: t, i, h => by
    obtain ⟨h1, h2, h3⟩ := dropCons h
    by_cases c : n = x
    · refine ⟨(i : Int), Ev.of1 (fun k => ?_), by simp [hasB, c]⟩
      simp (disch := omega) only [if_true, if_false, Bool.false_eq_true, slices_Index_int_int.l0, if_pos, h2]
    · obtain ⟨r, hr, hd⟩ := Index_l0 n xs hx t (i + 1) h3
      refine ⟨r, Ev.step (f := fun k => slices_Index_int_int.l0 k xs n xs.length ((i + 1 : Nat) : Int)) (fun k => ?_) hr, by rw [hd]; simp [hasB, Ne.symm c]⟩
      simp (disch := omega) only [if_true, if_false, Bool.false_eq_true, slices_Index_int_int.l0, if_pos, if_neg, w64s, h2]
theorem Contains_ev (xs : List Int) (n : Int) (hx : xs.length ≤ 1048576) : Ev (fun k => slices_Contains_int_int.f k xs n) (hasB n xs) := by
  obtain ⟨r, hr, hd⟩ := Index_l0 n xs hx xs 0 rfl
  unfold slices_Contains_int_int.f
  refine (Ev.bind (f := fun _ t => some (decide (t ≥ 0))) (a := r) (Ev.congr (fun k => rfl) hr) (Ev.now _)).cast hd
theorem markIntS_l0 : ∀ (t : List Int) (xs : List Int) (i : Nat) (m : Int), xs.length ≤ 1048576 → xs.drop i = t → 0 ≤ m → m + t.length ≤ 9223372036854775807 → Ev (fun k => laws_markIntS.l0 k xs m (i : Int)) (m + t.length, xs.take i ++ upFrom t.length m)
  | [], xs, i, m, hx, h, hm, hb => by
    have h1 := dropNil h
    refine Ev.of1 (fun k => ?_)
    simp (disch := omega) only [if_true, if_false, Bool.false_eq_true, laws_markIntS.l0, if_neg]
    simp [upFrom, List.take_of_length_le h1]
  | x :: t, xs, i, m, hx, h, hm, hb => by
    obtain ⟨h1, h2, h3⟩ := dropCons h
    simp only [List.length_cons] at hb
    have e : (xs.set i m).drop (i + 1) = t := by rw [List.drop_set_of_lt (by omega), h3]
    refine Ev.step (f := fun k => laws_markIntS.l0 k (xs.set i m) (m + 1) ((i + 1 : Nat) : Int)) (fun k => ?_) ((markIntS_l0 t (xs.set i m) (i + 1) (m + 1) (by simpa using hx) e (by omega) (by omega)).cast ?_)
    · have e1 : wrap64 (m + 1) = m + 1 := w64 (by omega) (by omega)
      simp (disch := omega) only [if_true, if_false, Bool.false_eq_true, laws_markIntS.l0, if_pos, w64s, e1, toNat_cast]
    · rw [set_at _ _ _ _ _ h]
      have : (xs.take i ++ m :: t).take (i + 1) = xs.take i ++ [m] := by
        have hl : (xs.take i).length = i := by simp; omega
        rw [List.take_append, List.take_of_length_le (by omega), hl, show i + 1 - i = 1 by omega]
        rfl
      rw [this]
      simp [upFrom]
      omega
theorem markIntS_ev (xs : List Int) (hx : xs.length ≤ 1048576) : Ev (fun k => laws_markIntS.f k xs 1) (1 + xs.length, upFrom xs.length 1) :=
  (Ev.congr (fun k => rfl) (markIntS_l0 xs xs 0 1 hx rfl (by omega) (by omega))).cast (by simp)
theorem heldIntS_l0 (xs : List Int) (hx : xs.length ≤ 1048576) : ∀ (n : Nat) (i : Nat) (m : Int), xs.drop i = upFrom n m → 0 ≤ m → m + n ≤ 9223372036854775807 → Ev (fun k => laws_heldIntS.l0 k xs m (i : Int)) (m + n)
  | 0, i, m, h, hm, hb => by
    have h1 := dropNil h
    refine Ev.of1 (fun k => ?_)
    simp (disch := omega) only [if_true, if_false, Bool.false_eq_true, laws_heldIntS.l0, if_neg]
    simp
  | n + 1, i, m, h, hm, hb => by
    obtain ⟨h1, h2, h3⟩ := dropCons (x := m) (t := upFrom n (m + 1)) h
    refine Ev.step (f := fun k => laws_heldIntS.l0 k xs (m + 1) ((i + 1 : Nat) : Int)) (fun k => ?_) ((heldIntS_l0 xs hx n (i + 1) (m + 1) h3 (by omega) (by omega)).cast (by omega))
    have e1 : wrap64 (m + 1) = m + 1 := w64 (by omega) (by omega)
    simp (disch := omega) only [if_true, if_false, Bool.false_eq_true, laws_heldIntS.l0, if_pos, w64s, e1, h2]
theorem heldIntS_ev (n : Nat) (hx : n ≤ 1048576) : Ev (fun k => laws_heldIntS.f k (upFrom n 1) 1) (1 + n) :=
  Ev.congr (fun k => rfl) (heldIntS_l0 (upFrom n 1) (by rw [upFrom_length]; exact hx) n 0 1 rfl (by omega) (by omega))
def okP (n : Nat) (r : List Int) : List Int → Bool
  | [x, a, b] => decide ((1 ≤ x ∧ x ≤ 20) ∧ hasB x r = false ∧ 0 ≤ a ∧ a < b ∧ b < (n : Int) ∧ rd r a = 0 ∧ rd r b = 0)
  | _ => false
theorem okP_form {n : Nat} {r t : List Int} (h : okP n r t = true) : ∃ x a b, t = [x, a, b] ∧ (1 ≤ x ∧ x ≤ 20) ∧ hasB x r = false ∧ 0 ≤ a ∧ a < b ∧ b < (n : Int) ∧ rd r a = 0 ∧ rd r b = 0 := by
  unfold okP at h
  split at h
  · exact ⟨_, _, _, rfl, of_decide_eq_true h⟩
  · cases h
def nextP (r : List Int) : List Int → List Int
  | [x, a, b] => (r.set a.toNat x).set b.toNat x
  | _ => r
def rowP (n : Nat) : List (List Int) → List Int → List Int × Bool
  | [], r => (r, true)
  | t :: T, r => if okP n r t = true then rowP n T (nextP r t) else ([], false)
theorem nextP_len (r t : List Int) : (nextP r t).length = r.length := by
  unfold nextP
  split <;> simp
theorem rowP_len (n : Nat) : ∀ (T : List (List Int)) (r : List Int), r.length ≤ 1000 → (rowP n T r).1.length ≤ 1000
  | [], r, h => h
  | t :: T, r, h => by
    unfold rowP
    split
    · exact rowP_len n T _ (by rw [nextP_len]; exact h)
    · simp
set_option maxHeartbeats 2000000 in
theorem sRowP_l0 (n : Nat) (hn : n ≤ 40) (L : List (List Int)) (hL : L.length ≤ 1048576) : ∀ (T : List (List Int)) (i : Nat) (r : List Int), L.drop i = T → r.length = n → Ev (fun k => spec_RowOfPairs.l0 k (n : Int) r L L.length (i : Int)) (rowP n T r)
  | [], i, r, h, hr => by
    have h1 := dropNil h
    refine Ev.of1 (fun k => ?_)
    simp (disch := omega) only [spec_RowOfPairs.l0, if_neg, rowP]
  | t :: T, i, r, h, hr => by
    obtain ⟨h1, h2, h3⟩ := dropConsL h
    by_cases c3 : t.length = 3
    · obtain ⟨x, a, b, rfl⟩ : ∃ x a b, t = [x, a, b] := by
        match t, c3 with
        | [x, a, b], _ => exact ⟨x, a, b, rfl⟩
      have f0 : rd [x, a, b] 0 = x := rfl
      have f1 : rd [x, a, b] 1 = a := rfl
      have f2 : rd [x, a, b] 2 = b := rfl
      have f3 : (([x, a, b] : List Int).length : Int) = 3 := rfl
      have no : ∀ (hok : okP n r [x, a, b] = false), rowP n ([x, a, b] :: T) r = ([], false) := fun hok => by simp [rowP, hok]
      obtain ⟨K1, k1⟩ := l1Has_ev r x (by omega)
      have num : spec_roNumber.f x = some (decide (1 ≤ x ∧ x ≤ 20)) := by
        unfold spec_roNumber.f spec_l1In.f
        by_cases c : 1 ≤ x
        · simp [c]
        · simp [c]
      by_cases cx : 1 ≤ x ∧ x ≤ 20
      · rw [decide_eq_true cx] at num
        cases ch : hasB x r with
        | true =>
          rw [ch] at k1
          rw [no (by simp [okP, ch])]
          refine ⟨K1 + 1, fun k hk => ?_⟩
          obtain ⟨k, rfl⟩ : ∃ m, k = m + 1 := ⟨k - 1, by omega⟩
          have a1 := k1 k (by omega)
          simp only [] at a1
          show spec_RowOfPairs.l0 (k + 1) (n : Int) r L (L.length : Int) (i : Int) = _
          unfold spec_RowOfPairs.l0
          rw [h2, if_pos (by omega), if_pos (by omega), if_pos (by omega), if_pos f3, if_pos (by omega), f0, num, Option.bind_some, if_pos rfl, a1, Option.bind_some, if_pos rfl]
        | false =>
          rw [ch] at k1
          have en : wrap64 ((n : Int) - 1) = (n : Int) - 1 := w64 (by omega) (by omega)
          have one : spec_l1In.f a 0 ((n : Int) - 1) = some (decide (0 ≤ a ∧ a ≤ (n : Int) - 1)) := by
            unfold spec_l1In.f
            by_cases c : 0 ≤ a
            · simp [c]
            · simp [c]
          by_cases ca : 0 ≤ a ∧ a ≤ (n : Int) - 1
          · rw [decide_eq_true ca] at one
            have ea : wrap64 (a + 1) = a + 1 := w64 (by omega) (by omega)
            have two : spec_l1In.f b (a + 1) ((n : Int) - 1) = some (decide (a + 1 ≤ b ∧ b ≤ (n : Int) - 1)) := by
              unfold spec_l1In.f
              by_cases c : a + 1 ≤ b
              · simp [c]
              · simp [c]
            by_cases cb : a + 1 ≤ b ∧ b ≤ (n : Int) - 1
            · rw [decide_eq_true cb] at two
              by_cases ra : rd r a = 0
              · by_cases rb : rd r b = 0
                · have hok : okP n r [x, a, b] = true := by
                    simp only [okP, ch, ra, rb, and_true, true_and, decide_eq_true_eq]
                    omega
                  obtain ⟨K2, k2⟩ := sRowP_l0 n hn L hL T (i + 1) (nextP r [x, a, b]) h3 (by rw [nextP_len]; exact hr)
                  rw [show rowP n ([x, a, b] :: T) r = rowP n T (nextP r [x, a, b]) by simp [rowP, hok]]
                  refine ⟨K1 + K2 + 1, fun k hk => ?_⟩
                  obtain ⟨k, rfl⟩ : ∃ m, k = m + 1 := ⟨k - 1, by omega⟩
                  have a1 := k1 k (by omega)
                  have a2 := k2 k (by omega)
                  simp only [] at a1 a2
                  show spec_RowOfPairs.l0 (k + 1) (n : Int) r L (L.length : Int) (i : Int) = _
                  unfold spec_RowOfPairs.l0
                  rw [h2, if_pos (by omega), if_pos (by omega), if_pos (by omega), if_pos f3, if_pos (by omega), f0, num, Option.bind_some, if_pos rfl, a1, Option.bind_some, if_neg (by simp), if_pos (by omega), f1, en, one, Option.bind_some, if_pos rfl, if_pos (by omega), f2, ea, two, Option.bind_some, if_pos rfl, if_pos (by omega), if_pos (by omega), if_pos ra, if_pos (by omega), if_pos (by omega), if_pos rb, w64s (by omega)]
                  exact a2
                · rw [no (by simp [okP, rb])]
                  refine ⟨K1 + 1, fun k hk => ?_⟩
                  obtain ⟨k, rfl⟩ : ∃ m, k = m + 1 := ⟨k - 1, by omega⟩
                  have a1 := k1 k (by omega)
                  simp only [] at a1
                  show spec_RowOfPairs.l0 (k + 1) (n : Int) r L (L.length : Int) (i : Int) = _
                  unfold spec_RowOfPairs.l0
                  rw [h2, if_pos (by omega), if_pos (by omega), if_pos (by omega), if_pos f3, if_pos (by omega), f0, num, Option.bind_some, if_pos rfl, a1, Option.bind_some, if_neg (by simp), if_pos (by omega), f1, en, one, Option.bind_some, if_pos rfl, if_pos (by omega), f2, ea, two, Option.bind_some, if_pos rfl, if_pos (by omega), if_pos (by omega), if_pos ra, if_pos (by omega), if_pos (by omega), if_neg rb]
              · rw [no (by simp [okP, ra])]
                refine ⟨K1 + 1, fun k hk => ?_⟩
                obtain ⟨k, rfl⟩ : ∃ m, k = m + 1 := ⟨k - 1, by omega⟩
                have a1 := k1 k (by omega)
                simp only [] at a1
                show spec_RowOfPairs.l0 (k + 1) (n : Int) r L (L.length : Int) (i : Int) = _
                unfold spec_RowOfPairs.l0
                rw [h2, if_pos (by omega), if_pos (by omega), if_pos (by omega), if_pos f3, if_pos (by omega), f0, num, Option.bind_some, if_pos rfl, a1, Option.bind_some, if_neg (by simp), if_pos (by omega), f1, en, one, Option.bind_some, if_pos rfl, if_pos (by omega), f2, ea, two, Option.bind_some, if_pos rfl, if_pos (by omega), if_pos (by omega), if_neg ra]
            · rw [decide_eq_false cb] at two
              rw [no (by simp [okP]; omega)]
              refine ⟨K1 + 1, fun k hk => ?_⟩
              obtain ⟨k, rfl⟩ : ∃ m, k = m + 1 := ⟨k - 1, by omega⟩
              have a1 := k1 k (by omega)
              simp only [] at a1
              show spec_RowOfPairs.l0 (k + 1) (n : Int) r L (L.length : Int) (i : Int) = _
              unfold spec_RowOfPairs.l0
              rw [h2, if_pos (by omega), if_pos (by omega), if_pos (by omega), if_pos f3, if_pos (by omega), f0, num, Option.bind_some, if_pos rfl, a1, Option.bind_some, if_neg (by simp), if_pos (by omega), f1, en, one, Option.bind_some, if_pos rfl, if_pos (by omega), f2, ea, two, Option.bind_some, if_neg (by simp)]
          · rw [decide_eq_false ca] at one
            rw [no (by simp [okP]; omega)]
            refine ⟨K1 + 1, fun k hk => ?_⟩
            obtain ⟨k, rfl⟩ : ∃ m, k = m + 1 := ⟨k - 1, by omega⟩
            have a1 := k1 k (by omega)
            simp only [] at a1
            show spec_RowOfPairs.l0 (k + 1) (n : Int) r L (L.length : Int) (i : Int) = _
            unfold spec_RowOfPairs.l0
            rw [h2, if_pos (by omega), if_pos (by omega), if_pos (by omega), if_pos f3, if_pos (by omega), f0, num, Option.bind_some, if_pos rfl, a1, Option.bind_some, if_neg (by simp), if_pos (by omega), f1, en, one, Option.bind_some, if_neg (by simp)]
      · rw [decide_eq_false cx] at num
        rw [no (by simp [okP]; omega)]
        refine Ev.of1 (fun k => ?_)
        unfold spec_RowOfPairs.l0
        rw [h2, if_pos (by omega), if_pos (by omega), if_pos (by omega), if_pos f3, if_pos (by omega), f0, num, Option.bind_some, if_neg (by simp)]
    · have hok : okP n r t = false := by
        cases hk : okP n r t with
        | false => rfl
        | true => obtain ⟨x, a, b, rfl, _⟩ := okP_form hk; exact absurd rfl c3
      rw [show rowP n (t :: T) r = ([], false) by simp [rowP, hok]]
      refine Ev.of1 (fun k => ?_)
      unfold spec_RowOfPairs.l0
      rw [h2, if_pos (by omega), if_pos (by omega), if_pos (by omega), if_neg (by omega)]
set_option maxHeartbeats 2000000 in
theorem iRowP_l0 (n : Nat) (hn : n ≤ 40) (L : List (List Int)) (hL : L.length ≤ 1048576) : ∀ (T : List (List Int)) (i : Nat) (r : List Int), L.drop i = T → r.length = n → Ev (fun k => impl_RowOfPairs.l0 k (n : Int) r L L.length (i : Int)) (rowP n T r)
  | [], i, r, h, hr => by
    have h1 := dropNil h
    refine Ev.of1 (fun k => ?_)
    simp (disch := omega) only [impl_RowOfPairs.l0, if_neg, rowP]
  | t :: T, i, r, h, hr => by
    obtain ⟨h1, h2, h3⟩ := dropConsL h
    by_cases c3 : t.length = 3
    · obtain ⟨x, a, b, rfl⟩ : ∃ x a b, t = [x, a, b] := by
        match t, c3 with
        | [x, a, b], _ => exact ⟨x, a, b, rfl⟩
      have f0 : rd [x, a, b] 0 = x := rfl
      have f1 : rd [x, a, b] 1 = a := rfl
      have f2 : rd [x, a, b] 2 = b := rfl
      have f3 : (([x, a, b] : List Int).length : Int) = 3 := rfl
      have no : ∀ (hok : okP n r [x, a, b] = false), rowP n ([x, a, b] :: T) r = ([], false) := fun hok => by simp [rowP, hok]
      obtain ⟨K1, k1⟩ := Contains_ev r x (by omega)
      have num : impl_isNumber.f x = some (decide (1 ≤ x ∧ x ≤ 20)) := by
        unfold impl_isNumber.f
        by_cases c : 1 ≤ x
        · simp [c]
        · simp [c]
      by_cases cx : 1 ≤ x ∧ x ≤ 20
      · rw [decide_eq_true cx] at num
        cases ch : hasB x r with
        | true =>
          rw [ch] at k1
          rw [no (by simp [okP, ch])]
          refine ⟨K1 + 1, fun k hk => ?_⟩
          obtain ⟨k, rfl⟩ : ∃ m, k = m + 1 := ⟨k - 1, by omega⟩
          have a1 := k1 k (by omega)
          simp only [] at a1
          show impl_RowOfPairs.l0 (k + 1) (n : Int) r L (L.length : Int) (i : Int) = _
          unfold impl_RowOfPairs.l0
          rw [h2, if_pos (by omega), if_pos (by omega), if_pos (by omega), if_pos f3, if_pos (by omega), f0, num, Option.bind_some, if_pos rfl, a1, Option.bind_some, if_pos rfl]
        | false =>
          rw [ch] at k1
          by_cases d1 : a < 0
          · rw [no (by simp [okP]; omega)]
            refine ⟨K1 + 1, fun k hk => ?_⟩
            obtain ⟨k, rfl⟩ : ∃ m, k = m + 1 := ⟨k - 1, by omega⟩
            have a1 := k1 k (by omega)
            simp only [] at a1
            show impl_RowOfPairs.l0 (k + 1) (n : Int) r L (L.length : Int) (i : Int) = _
            unfold impl_RowOfPairs.l0
            rw [h2, if_pos (by omega), if_pos (by omega), if_pos (by omega), if_pos f3, if_pos (by omega), f0, num, Option.bind_some, if_pos rfl, a1, Option.bind_some, if_neg (by simp), if_pos (by omega), f1, if_pos d1]
          · by_cases d2 : b ≥ (n : Int)
            · rw [no (by simp [okP]; omega)]
              refine ⟨K1 + 1, fun k hk => ?_⟩
              obtain ⟨k, rfl⟩ : ∃ m, k = m + 1 := ⟨k - 1, by omega⟩
              have a1 := k1 k (by omega)
              simp only [] at a1
              show impl_RowOfPairs.l0 (k + 1) (n : Int) r L (L.length : Int) (i : Int) = _
              unfold impl_RowOfPairs.l0
              rw [h2, if_pos (by omega), if_pos (by omega), if_pos (by omega), if_pos f3, if_pos (by omega), f0, num, Option.bind_some, if_pos rfl, a1, Option.bind_some, if_neg (by simp), if_pos (by omega), f1, if_neg d1, if_pos (by omega), f2, if_pos d2]
            · by_cases d3 : a ≥ b
              · rw [no (by simp [okP]; omega)]
                refine ⟨K1 + 1, fun k hk => ?_⟩
                obtain ⟨k, rfl⟩ : ∃ m, k = m + 1 := ⟨k - 1, by omega⟩
                have a1 := k1 k (by omega)
                simp only [] at a1
                show impl_RowOfPairs.l0 (k + 1) (n : Int) r L (L.length : Int) (i : Int) = _
                unfold impl_RowOfPairs.l0
                rw [h2, if_pos (by omega), if_pos (by omega), if_pos (by omega), if_pos f3, if_pos (by omega), f0, num, Option.bind_some, if_pos rfl, a1, Option.bind_some, if_neg (by simp), if_pos (by omega), f1, if_neg d1, if_pos (by omega), f2, if_neg d2, if_pos d3]
              · by_cases ra : rd r a = 0
                · by_cases rb : rd r b = 0
                  · have hok : okP n r [x, a, b] = true := by
                      simp only [okP, ch, ra, rb, and_true, true_and, decide_eq_true_eq]
                      omega
                    obtain ⟨K2, k2⟩ := iRowP_l0 n hn L hL T (i + 1) (nextP r [x, a, b]) h3 (by rw [nextP_len]; exact hr)
                    rw [show rowP n ([x, a, b] :: T) r = rowP n T (nextP r [x, a, b]) by simp [rowP, hok]]
                    refine ⟨K1 + K2 + 1, fun k hk => ?_⟩
                    obtain ⟨k, rfl⟩ : ∃ m, k = m + 1 := ⟨k - 1, by omega⟩
                    have a1 := k1 k (by omega)
                    have a2 := k2 k (by omega)
                    simp only [] at a1 a2
                    show impl_RowOfPairs.l0 (k + 1) (n : Int) r L (L.length : Int) (i : Int) = _
                    unfold impl_RowOfPairs.l0
                    rw [h2, if_pos (by omega), if_pos (by omega), if_pos (by omega), if_pos f3, if_pos (by omega), f0, num, Option.bind_some, if_pos rfl, a1, Option.bind_some, if_neg (by simp), if_pos (by omega), f1, if_neg d1, if_pos (by omega), f2, if_neg d2, if_neg d3, if_pos (by omega), if_pos (by omega), if_pos ra, if_pos (by omega), if_pos (by omega), if_pos rb, w64s (by omega)]
                    exact a2
                  · rw [no (by simp [okP, rb])]
                    refine ⟨K1 + 1, fun k hk => ?_⟩
                    obtain ⟨k, rfl⟩ : ∃ m, k = m + 1 := ⟨k - 1, by omega⟩
                    have a1 := k1 k (by omega)
                    simp only [] at a1
                    show impl_RowOfPairs.l0 (k + 1) (n : Int) r L (L.length : Int) (i : Int) = _
                    unfold impl_RowOfPairs.l0
                    rw [h2, if_pos (by omega), if_pos (by omega), if_pos (by omega), if_pos f3, if_pos (by omega), f0, num, Option.bind_some, if_pos rfl, a1, Option.bind_some, if_neg (by simp), if_pos (by omega), f1, if_neg d1, if_pos (by omega), f2, if_neg d2, if_neg d3, if_pos (by omega), if_pos (by omega), if_pos ra, if_pos (by omega), if_pos (by omega), if_neg rb]
                · rw [no (by simp [okP, ra])]
                  refine ⟨K1 + 1, fun k hk => ?_⟩
                  obtain ⟨k, rfl⟩ : ∃ m, k = m + 1 := ⟨k - 1, by omega⟩
                  have a1 := k1 k (by omega)
                  simp only [] at a1
                  show impl_RowOfPairs.l0 (k + 1) (n : Int) r L (L.length : Int) (i : Int) = _
                  unfold impl_RowOfPairs.l0
                  rw [h2, if_pos (by omega), if_pos (by omega), if_pos (by omega), if_pos f3, if_pos (by omega), f0, num, Option.bind_some, if_pos rfl, a1, Option.bind_some, if_neg (by simp), if_pos (by omega), f1, if_neg d1, if_pos (by omega), f2, if_neg d2, if_neg d3, if_pos (by omega), if_pos (by omega), if_neg ra]
      · rw [decide_eq_false cx] at num
        rw [no (by simp [okP]; omega)]
        refine Ev.of1 (fun k => ?_)
        unfold impl_RowOfPairs.l0
        rw [h2, if_pos (by omega), if_pos (by omega), if_pos (by omega), if_pos f3, if_pos (by omega), f0, num, Option.bind_some, if_neg (by simp)]
    · have hok : okP n r t = false := by
        cases hk : okP n r t with
        | false => rfl
        | true => obtain ⟨x, a, b, rfl, _⟩ := okP_form hk; exact absurd rfl c3
      rw [show rowP n (t :: T) r = ([], false) by simp [rowP, hok]]
      refine Ev.of1 (fun k => ?_)
      unfold impl_RowOfPairs.l0
      rw [h2, if_pos (by omega), if_pos (by omega), if_pos (by omega), if_neg (by omega)]
theorem FnExactRowOfPairs : laws_FnExactRowOfPairs.Pure := by
  intro v L hv hL ht hw
  by_cases c : (0 ≤ v ∧ v ≤ 40) ∧ L.length ≤ 20
  · obtain ⟨⟨c1, c2⟩, c3⟩ := c
    obtain ⟨n, rfl⟩ : ∃ n : Nat, v = (n : Int) := ⟨v.toNat, by omega⟩
    obtain ⟨K1, k1⟩ := sRowP_l0 n (by omega) L hL L 0 (List.replicate n 0) rfl (by simp)
    obtain ⟨K2, k2⟩ := iRowP_l0 n (by omega) L hL L 0 (List.replicate n 0) rfl (by simp)
    have b1 := k1 (K1 + K2) (by omega)
    have b2 := k2 (K1 + K2) (by omega)
    simp only [Int.natCast_zero] at b1 b2
    refine ⟨K1 + K2 + 1, (rowP n L (List.replicate n 0)).1, (rowP n L (List.replicate n 0)).2, ?_, ?_, ?_⟩
    · unfold spec_RowOfPairs.f spec_l1In.f
      rw [if_pos (by omega), Option.bind_some, if_pos (decide_eq_true (by omega)), decide_eq_false (by omega)]
      rw [spec_RowOfPairs.j0, if_neg (by simp), if_pos (by omega), if_pos (by omega), Int.toNat_natCast]
      exact b1
    · unfold impl_RowOfPairs.f
      rw [if_neg (by omega), if_neg (by omega), decide_eq_false (by omega)]
      rw [impl_RowOfPairs.j0, if_neg (by simp), if_pos (by omega), if_pos (by omega), Int.toNat_natCast]
      exact b2
    · have := rowP_len n L (List.replicate n 0) (by simp; omega)
      omega
  · refine ⟨1, [], false, ?_, ?_, by simp⟩
    · unfold spec_RowOfPairs.f spec_l1In.f
      by_cases d1 : v ≥ 0
      · rw [if_pos d1, Option.bind_some]
        by_cases d2 : v ≤ 40
        · rw [if_pos (decide_eq_true d2), decide_eq_true (by omega)]
          rfl
        · rw [if_neg (by simp [d2])]
          rfl
      · rw [if_neg d1]
        rfl
    · unfold impl_RowOfPairs.f
      by_cases d1 : v < 0
      · rw [if_pos d1]
        rfl
      · rw [if_neg d1]
        by_cases d2 : v > 40
        · rw [if_pos d2]
          rfl
        · rw [if_neg d2, decide_eq_true (by omega)]
          rfl
end Go.Proofs.Yteepinopcmcklaa.Pure
