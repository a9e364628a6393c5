/- The law FnExactCountParallel holds for every input: what the program's function computes is what the reference's computes. Conditions: none but the statement's own. -/
import Derived.Test.YteeniaklmgcahaaPFnExactCountParallelx7
import Derived.Test.YteeniaklmgcahaaAid
namespace Go.Proofs.Yteeniaklmgcahaa.Pure
open Go.RowKit Go.Proofs.Yteeniaklmgcahaa.PFnExactCountParallel Go.Proofs.YteeniaklmgcahaaW.PrintWords Go.Proofs.YteeniaklmgcahaaW.PrintLast Go.Proofs.Yteeniaklmgcahaa.Aid
set_option linter.unusedVariables false
set_option linter.unusedSimpArgs false
theorem dropConsL {xs : List (List Int)} {i : Nat} {x : List Int} {t : List (List Int)} (h : xs.drop i = x :: t) : i < xs.length ∧ rd_L1 xs (i : Int) = x ∧ xs.drop (i + 1) = t :=
  ⟨dropLt h, by simp [rd_L1, List.getD_eq_getElem?_getD, dropGet h], dropSucc h⟩
theorem memDrop {α : Type} {xs : List α} {i : Nat} {x : α} {t : List α} (h : xs.drop i = x :: t) : x ∈ xs := by
  rw [← List.take_append_drop i xs, h]
  simp
def szL (m : Int) : List (List Int) → Int
  | [] => m
  | x :: t => if m - (x.length : Int) < 0 then -1 else szL (m - (x.length : Int)) t
def totL : List (List Int) → Nat
  | [] => 0
  | x :: t => x.length + totL t
theorem szL_tot : ∀ (t : List (List Int)) (m : Int), 0 ≤ szL m t → (totL t : Int) ≤ m
  | [], m, h => by simpa [szL, totL] using h
  | x :: t, m, h => by
    unfold szL at h
    by_cases c : m - (x.length : Int) < 0
    · rw [if_pos c] at h
      omega
    · rw [if_neg c] at h
      have := szL_tot t _ h
      unfold totL
      omega
theorem totL_mem : ∀ (t : List (List Int)) (x : List Int), x ∈ t → x.length ≤ totL t
  | [], x, h => by simp at h
  | y :: t, x, h => by
    unfold totL
    rcases List.mem_cons.1 h with rfl | h
    · omega
    · have := totL_mem t x h
      omega
theorem szIntSS_l0 (xs : List (List Int)) (hx : xs.length ≤ 1048576) (hm : ∀ x ∈ xs, x.length ≤ maxLen) : ∀ (t : List (List Int)) (i : Nat) (m : Int), xs.drop i = t → 0 ≤ m → m ≤ 1048576 → Ev (fun k => laws_szIntSS.l0 k xs m (i : Int)) (szL m t)
  | [], i, m, h, h0, hb => by
    have h1 := dropNil h
    refine Ev.of1 (fun k => ?_)
    simp (disch := omega) only [if_true, if_false, Bool.false_eq_true, laws_szIntSS.l0, if_neg, szL]
  | x :: t, i, m, h, h0, hb => by
    obtain ⟨h1, h2, h3⟩ := dropConsL h
    have hl := hm x (memDrop h)
    unfold maxLen at hl
    have e1 : wrap64 (m - (x.length : Int)) = m - (x.length : Int) := w64 (by omega) (by omega)
    by_cases c : m - (x.length : Int) < 0
    · refine Ev.of1 (fun k => ?_)
      simp (disch := omega) only [if_true, if_false, Bool.false_eq_true, laws_szIntSS.l0, laws_szIntS.f, if_pos, h2, e1, Option.bind_some, szL]
    · refine Ev.step (f := fun k => laws_szIntSS.l0 k xs (m - (x.length : Int)) ((i + 1 : Nat) : Int)) (fun k => ?_) ((szIntSS_l0 xs hx hm t (i + 1) _ h3 (by omega) (by omega)).cast (by simp only [szL, c, if_false]))
      simp (disch := omega) only [if_true, if_false, Bool.false_eq_true, laws_szIntSS.l0, laws_szIntS.f, if_pos, if_neg, h2, e1, Option.bind_some, w64s]
theorem szIntSS_ev (xs : List (List Int)) (hb : xs.length * 24 ≤ 140737488351232) (hm : ∀ x ∈ xs, x.length ≤ maxLen) : ∃ r : Int, Ev (fun k => laws_szIntSS.f k xs 1048576) r ∧ (¬ r < 0 → xs.length ≤ 1048576 ∧ (totL xs : Int) + xs.length ≤ 1048576) := by
  have e1 : wrap64 (1048576 - (xs.length : Int)) = 1048576 - (xs.length : Int) := w64 (by omega) (by omega)
  by_cases c : 1048576 - (xs.length : Int) < 0
  · refine ⟨-1, Ev.all (fun k => ?_), fun h => by omega⟩
    simp (disch := omega) only [if_true, if_false, Bool.false_eq_true, laws_szIntSS.f, e1, if_pos]
  · refine ⟨szL (1048576 - (xs.length : Int)) xs, Ev.congr (fun k => ?_) (szIntSS_l0 xs (by omega) hm xs 0 _ rfl (by omega) (by omega)), fun h => ⟨by omega, ?_⟩⟩
    · simp (disch := omega) only [if_true, if_false, Bool.false_eq_true, laws_szIntSS.f, e1, if_neg]
      rfl
    · have := szL_tot xs (1048576 - (xs.length : Int)) (by omega)
      omega
theorem toIntS_l0 (xs : List Int) (hx : xs.length ≤ 1048576) : ∀ (t : List Int) (i : Nat) (ys : List Int), xs.drop i = t → i ≤ xs.length → ys.length = xs.length → ys.take i = xs.take i → Ev (fun k => laws_toIntS.l0 k xs ys (i : Int)) xs
  | [], i, ys, h, hi, hl, he => by
    have h1 := dropNil h
    obtain rfl : ys = xs := by
      have : i = xs.length := by omega
      subst this
      rw [List.take_of_length_le (by omega), List.take_of_length_le (by omega)] at he
      exact he
    refine Ev.of1 (fun k => ?_)
    simp (disch := omega) only [if_true, if_false, Bool.false_eq_true, laws_toIntS.l0, if_neg]
  | x :: t, i, ys, h, hi, hl, he => by
    obtain ⟨h1, h2, h3⟩ := dropCons h
    refine Ev.step (f := fun k => laws_toIntS.l0 k xs (ys.set i x) ((i + 1 : Nat) : Int)) (fun k => ?_) (toIntS_l0 xs hx t (i + 1) _ h3 (by omega) (by simpa using hl) ?_)
    · simp (disch := omega) only [if_true, if_false, Bool.false_eq_true, laws_toIntS.l0, if_pos, w64s, h2, toNat_cast]
    · rw [take_succ_at h, List.take_add_one, List.take_set_of_le (by omega), he]
      simp [hl, h1]
theorem toIntS_ev (xs : List Int) (hx : xs.length ≤ 1048576) : Ev (fun k => laws_toIntS.f k xs) xs := by
  refine Ev.congr (fun k => ?_) (toIntS_l0 xs hx xs 0 (List.replicate xs.length 0) rfl (by omega) (by simp) rfl)
  unfold laws_toIntS.f
  rw [if_pos (by omega), if_pos (by omega)]
  rfl
theorem toIntSS_l0 (xs : List (List Int)) (hx : xs.length ≤ 1048576) (hm : ∀ x ∈ xs, x.length ≤ 1048576) : ∀ (t : List (List Int)) (i : Nat) (ys : List (List Int)), xs.drop i = t → i ≤ xs.length → ys.length = xs.length → ys.take i = xs.take i → Ev (fun k => laws_toIntSS.l0 k xs ys (i : Int)) xs
  | [], i, ys, h, hi, hl, he => by
    have h1 := dropNil h
    obtain rfl : ys = xs := by
      have : i = xs.length := by omega
      subst this
      rw [List.take_of_length_le (by omega), List.take_of_length_le (by omega)] at he
      exact he
    refine Ev.of1 (fun k => ?_)
    simp (disch := omega) only [if_true, if_false, Bool.false_eq_true, laws_toIntSS.l0, if_neg]
  | x :: t, i, ys, h, hi, hl, he => by
    obtain ⟨h1, h2, h3⟩ := dropConsL h
    refine Ev.step (f := fun k => (laws_toIntS.f k x).bind fun t112 => laws_toIntSS.l0 k xs (ys.set i t112) ((i + 1 : Nat) : Int)) (fun k => ?_) (Ev.bind (toIntS_ev x (hm x (memDrop h))) (toIntSS_l0 xs hx hm t (i + 1) _ h3 (by omega) (by simpa using hl) ?_))
    · simp (disch := omega) only [if_true, if_false, Bool.false_eq_true, laws_toIntSS.l0, if_pos, w64s, h2, toNat_cast]
    · rw [take_succ_at h, List.take_add_one, List.take_set_of_le (by omega), he]
      simp [hl, h1]
theorem toIntSS_ev (xs : List (List Int)) (hx : xs.length ≤ 1048576) (hm : ∀ x ∈ xs, x.length ≤ 1048576) : Ev (fun k => laws_toIntSS.f k xs) xs := by
  refine Ev.congr (fun k => ?_) (toIntSS_l0 xs hx hm xs 0 (List.replicate xs.length []) rfl (by omega) (by simp) rfl)
  unfold laws_toIntSS.f
  rw [if_pos (by omega), if_pos (by omega)]
  rfl
theorem eqIntS_l0 (xs ys : List Int) (hx : xs.length ≤ 1048576) (hl : xs.length = ys.length) : ∀ (s t : List Int) (i : Nat), xs.drop i = s → ys.drop i = t → Ev (fun k => laws_eqIntS.l0 k xs ys (i : Int)) (decide (s = t))
  | [], t, i, h, h' => by
    have h1 := dropNil h
    have h2 : t = [] := by rw [← h']; simp; omega
    subst h2
    refine Ev.of1 (fun k => ?_)
    simp (disch := omega) only [if_true, if_false, Bool.false_eq_true, laws_eqIntS.l0, if_neg]
    simp
  | x :: s, [], i, h, h' => by
    have h1 := dropLt h
    have h2 := dropNil h'
    omega
  | x :: s, y :: t, i, h, h' => by
    obtain ⟨h1, h2, h3⟩ := dropCons h
    obtain ⟨h1', h2', h3'⟩ := dropCons h'
    by_cases c : x = y
    · refine Ev.step (f := fun k => laws_eqIntS.l0 k xs ys ((i + 1 : Nat) : Int)) (fun k => ?_) ((eqIntS_l0 xs ys hx hl s t (i + 1) h3 h3').cast (by simp [c]))
      simp (disch := omega) only [if_true, if_false, Bool.false_eq_true, laws_eqIntS.l0, if_pos, w64s, h2, h2']
    · refine Ev.of1 (fun k => ?_)
      simp (disch := omega) only [if_true, if_false, Bool.false_eq_true, laws_eqIntS.l0, if_pos, if_neg, h2, h2']
      simp [c]
theorem eqIntS_ev (xs ys : List Int) (hx : xs.length ≤ 1048576) : Ev (fun k => laws_eqIntS.f k xs ys) (decide (xs = ys)) := by
  by_cases c : xs.length = ys.length
  · refine Ev.congr (fun k => ?_) (eqIntS_l0 xs ys hx c xs ys 0 rfl rfl)
    unfold laws_eqIntS.f
    rw [if_pos (by omega)]
    rfl
  · refine Ev.all (fun k => ?_)
    unfold laws_eqIntS.f
    rw [if_neg (by omega)]
    have : xs ≠ ys := fun e => c (by rw [e])
    simp [this]
theorem eqIntS_same (xs : List Int) (hx : xs.length ≤ 1048576) : Ev (fun k => laws_eqIntS.f k xs xs) true := (eqIntS_ev xs xs hx).cast (by simp)
theorem eqIntSS_l0 (xs ys : List (List Int)) (hx : xs.length ≤ 1048576) (hm : ∀ x ∈ xs, x.length ≤ 1048576) (hl : xs.length = ys.length) : ∀ (s t : List (List Int)) (i : Nat), xs.drop i = s → ys.drop i = t → Ev (fun k => laws_eqIntSS.l0 k xs ys (i : Int)) (decide (s = t))
  | [], t, i, h, h' => by
    have h1 := dropNil h
    have h2 : t = [] := by rw [← h']; simp; omega
    subst h2
    refine Ev.of1 (fun k => ?_)
    simp (disch := omega) only [if_true, if_false, Bool.false_eq_true, laws_eqIntSS.l0, if_neg]
    simp
  | x :: s, [], i, h, h' => by
    have h1 := dropLt h
    have h2 := dropNil h'
    omega
  | x :: s, y :: t, i, h, h' => by
    obtain ⟨h1, h2, h3⟩ := dropConsL h
    obtain ⟨h1', h2', h3'⟩ := dropConsL h'
    refine Ev.step (f := fun k => (laws_eqIntS.f k x y).bind fun t120 => (if t120 = true then (laws_eqIntSS.l0 k xs ys ((i + 1 : Nat) : Int)) else (some false))) (fun k => ?_) (Ev.bind (eqIntS_ev x y (hm x (memDrop h))) ?_)
    · simp (disch := omega) only [if_true, if_false, Bool.false_eq_true, laws_eqIntSS.l0, if_pos, w64s, h2, h2']
    · by_cases c : x = y
      · simp only [c, decide_true, if_true]
        exact (eqIntSS_l0 xs ys hx hm hl s t (i + 1) h3 h3').cast (by simp)
      · simp only [c, decide_false, Bool.false_eq_true, if_false]
        exact (Ev.now _).cast (by simp [c])
theorem eqIntSS_ev (xs ys : List (List Int)) (hx : xs.length ≤ 1048576) (hm : ∀ x ∈ xs, x.length ≤ 1048576) : Ev (fun k => laws_eqIntSS.f k xs ys) (decide (xs = ys)) := by
  by_cases c : xs.length = ys.length
  · refine Ev.congr (fun k => ?_) (eqIntSS_l0 xs ys hx hm c xs ys 0 rfl rfl)
    unfold laws_eqIntSS.f
    rw [if_pos (by omega)]
    rfl
  · refine Ev.all (fun k => ?_)
    unfold laws_eqIntSS.f
    rw [if_neg (by omega)]
    have : xs ≠ ys := fun e => c (by rw [e])
    simp [this]
theorem eqIntSS_same (xs : List (List Int)) (hx : xs.length ≤ 1048576) (hm : ∀ x ∈ xs, x.length ≤ 1048576) : Ev (fun k => laws_eqIntSS.f k xs xs) true := (eqIntSS_ev xs xs hx hm).cast (by simp)
theorem l1All_l0 (lo hi : Int) (xs : List Int) (hx : xs.length ≤ 1048576) : ∀ (t : List Int) (i : Nat), xs.drop i = t → Ev (fun k => spec_l1All.l0 k lo hi xs xs.length (i : Int)) (t.all fun n => decide (lo ≤ n ∧ n ≤ hi))
  | [], i, h => by
    have h1 := dropNil h
    refine Ev.of1 (fun k => ?_)
    simp (disch := omega) only [if_true, if_false, Bool.false_eq_true, spec_l1All.l0, if_neg]
    rfl
  | x :: t, i, h => by
    obtain ⟨h1, h2, h3⟩ := dropCons h
    by_cases c : lo ≤ x ∧ x ≤ hi
    · refine Ev.step (f := fun k => spec_l1All.l0 k lo hi xs xs.length ((i + 1 : Nat) : Int)) (fun k => ?_) ((l1All_l0 lo hi xs hx t (i + 1) h3).cast (by simp [c]))
      simp (disch := omega) only [if_true, if_false, Bool.false_eq_true, spec_l1All.l0, spec_l1In.f, if_pos, w64s, h2, Option.bind_some, decide_eq_true_eq]
    · refine Ev.of1 (fun k => ?_)
      simp (disch := omega) only [if_true, if_false, Bool.false_eq_true, spec_l1All.l0, spec_l1In.f, if_pos, h2]
      by_cases c1 : lo ≤ x
      · have c2 : ¬ x ≤ hi := fun h' => c ⟨c1, h'⟩
        simp [c1, c2]
      · simp [c1]
theorem l1All_ev (xs : List Int) (lo hi : Int) (hx : xs.length ≤ 1048576) : Ev (fun k => spec_l1All.f k xs lo hi) (xs.all fun n => decide (lo ≤ n ∧ n ≤ hi)) :=
  Ev.congr (fun k => rfl) (l1All_l0 lo hi xs hx xs 0 rfl)
def lexB : List Int → List Int → Bool
  | x :: a, y :: b => if x = y then lexB a b else decide (x < y)
  | _, _ => false
theorem trLess_l0 (xs ys : List Int) (hx : xs.length ≤ 1048576) (hl : xs.length = ys.length) : ∀ (s t : List Int) (i : Nat), xs.drop i = s → ys.drop i = t → Ev (fun k => spec_trLess.l0 k xs ys xs.length (i : Int)) (lexB s t)
  | [], t, i, h, h' => by
    have h1 := dropNil h
    refine Ev.of1 (fun k => ?_)
    simp (disch := omega) only [if_true, if_false, Bool.false_eq_true, spec_trLess.l0, if_neg, lexB]
  | x :: s, [], i, h, h' => by
    have h1 := dropLt h
    have h2 := dropNil h'
    omega
  | x :: s, y :: t, i, h, h' => by
    obtain ⟨h1, h2, h3⟩ := dropCons h
    obtain ⟨h1', h2', h3'⟩ := dropCons h'
    by_cases c : x = y
    · refine Ev.step (f := fun k => spec_trLess.l0 k xs ys xs.length ((i + 1 : Nat) : Int)) (fun k => ?_) ((trLess_l0 xs ys hx hl s t (i + 1) h3 h3').cast (by simp [lexB, c]))
      simp (disch := omega) only [if_true, if_false, Bool.false_eq_true, spec_trLess.l0, if_pos, w64s, h2, h2']
    · refine Ev.of1 (fun k => ?_)
      simp (disch := omega) only [if_true, if_false, Bool.false_eq_true, spec_trLess.l0, if_pos, if_neg, h2, h2']
      simp [lexB, c]
theorem trLess_ev (xs ys : List Int) (hx : xs.length ≤ 1048576) (hl : xs.length = ys.length) : Ev (fun k => spec_trLess.f k xs ys) (lexB xs ys) :=
  Ev.congr (fun k => rfl) (trLess_l0 xs ys hx hl xs ys 0 rfl rfl)
def cmpL : List Int → List Int → Int
  | [], [] => 0
  | [], _ :: _ => -1
  | _ :: _, [] => 1
  | x :: a, y :: b => if x < y then -1 else if y < x then 1 else cmpL a b
theorem cmpInt_at (x y : Int) : cmp_Compare_int.f x y = some (if x < y then -1 else if y < x then 1 else 0) := by
  unfold cmp_Compare_int.f cmp_isNaN_int.f
  by_cases c : x < y <;> by_cases c' : y < x <;> simp [c, c']
theorem Compare_l0 (xs ys : List Int) (hx : xs.length ≤ 1048576) : ∀ (s t : List Int) (i : Nat), xs.drop i = s → ys.drop i = t → i ≤ ys.length → i ≤ xs.length → Ev (fun k => slices_Compare_int_int.l0 k xs ys xs xs.length (i : Int)) (cmpL s t)
  | [], [], i, h, h', hi, hj => by
    have h1 := dropNil h
    have h2 := dropNil h'
    refine Ev.of1 (fun k => ?_)
    simp (disch := omega) only [if_true, if_false, Bool.false_eq_true, slices_Compare_int_int.l0, if_neg, cmpL]
  | [], y :: t, i, h, h', hi, hj => by
    have h1 := dropNil h
    have h2 := dropLt h'
    refine Ev.of1 (fun k => ?_)
    simp (disch := omega) only [if_true, if_false, Bool.false_eq_true, slices_Compare_int_int.l0, if_neg, if_pos, cmpL]
  | x :: s, [], i, h, h', hi, hj => by
    obtain ⟨h1, h2, h3⟩ := dropCons h
    have h4 := dropNil h'
    refine Ev.of1 (fun k => ?_)
    simp (disch := omega) only [if_true, if_false, Bool.false_eq_true, slices_Compare_int_int.l0, if_pos, cmpL]
  | x :: s, y :: t, i, h, h', hi, hj => by
    obtain ⟨h1, h2, h3⟩ := dropCons h
    obtain ⟨h1', h2', h3'⟩ := dropCons h'
    by_cases c : x < y
    · refine Ev.of1 (fun k => ?_)
      simp (disch := omega) only [if_true, if_false, Bool.false_eq_true, slices_Compare_int_int.l0, if_pos, if_neg, h2, h2', cmpInt_at, Option.bind_some, cmpL]
    · by_cases c' : y < x
      · refine Ev.of1 (fun k => ?_)
        simp (disch := omega) only [if_true, if_false, Bool.false_eq_true, slices_Compare_int_int.l0, if_pos, if_neg, h2, h2', cmpInt_at, Option.bind_some, cmpL]
      · refine Ev.step (f := fun k => slices_Compare_int_int.l0 k xs ys xs xs.length ((i + 1 : Nat) : Int)) (fun k => ?_) ((Compare_l0 xs ys hx s t (i + 1) h3 h3' (by omega) (by omega)).cast (by simp [cmpL, c, c']))
        simp (disch := omega) only [if_true, if_false, Bool.false_eq_true, slices_Compare_int_int.l0, if_pos, if_neg, h2, h2', cmpInt_at, Option.bind_some, w64s]
theorem Compare_ev (xs ys : List Int) (hx : xs.length ≤ 1048576) : Ev (fun k => slices_Compare_int_int.f k xs ys) (cmpL xs ys) :=
  Ev.congr (fun k => rfl) (Compare_l0 xs ys hx xs ys 0 rfl rfl (by omega) (by omega))
def ordFrom (p : List Int) : List (List Int) → Bool
  | [] => true
  | x :: t => decide (cmpL p x < 0) && ordFrom x t
def ordB : List (List Int) → Bool
  | [] => true
  | x :: t => ordFrom x t
theorem inOrder_l0 (xs : List (List Int)) (hx : xs.length ≤ 1048576) (hm : ∀ x ∈ xs, x.length ≤ 1048576) : ∀ (t : List (List Int)) (j : Nat) (p : List Int), xs.drop j = p :: t → Ev (fun k => impl_inOrder.l0 k xs ((j + 1 : Nat) : Int)) (ordFrom p t)
  | [], j, p, h => by
    obtain ⟨h1, h2, h3⟩ := dropConsL h
    have h4 := dropNil h3
    refine Ev.of1 (fun k => ?_)
    simp (disch := omega) only [if_true, if_false, Bool.false_eq_true, impl_inOrder.l0, if_neg, ordFrom]
  | x :: t, j, p, h => by
    obtain ⟨h1, h2, h3⟩ := dropConsL h
    obtain ⟨h1', h2', h3'⟩ := dropConsL h3
    refine Ev.step (f := fun k => (slices_Compare_int_int.f k p x).bind fun t168 => (if t168 ≥ 0 then (some false) else (impl_inOrder.l0 k xs ((j + 1 + 1 : Nat) : Int)))) (fun k => ?_) (Ev.bind (Compare_ev p x (hm p (memDrop h))) ?_)
    · simp (disch := omega) only [if_true, if_false, Bool.false_eq_true, impl_inOrder.l0, if_pos, w64s, w64q, h2, h2']
    · by_cases c : cmpL p x < 0
      · simp (disch := omega) only [if_true, if_false, Bool.false_eq_true, if_neg]
        exact (inOrder_l0 xs hx hm t (j + 1) x h3).cast (by simp [ordFrom, c])
      · simp (disch := omega) only [if_true, if_false, Bool.false_eq_true, if_pos]
        exact (Ev.now _).cast (by simp [ordFrom, c])
theorem inOrder_ev (xs : List (List Int)) (hx : xs.length ≤ 1048576) (hm : ∀ x ∈ xs, x.length ≤ 1048576) : Ev (fun k => impl_inOrder.f k xs) (ordB xs) := by
  cases xs with
  | nil =>
    refine Ev.of1 (fun k => ?_)
    simp [impl_inOrder.f, impl_inOrder.l0, ordB]
  | cons x t => exact Ev.congr (fun k => rfl) (inOrder_l0 (x :: t) hx hm t 0 x rfl)
theorem cmp_lex : ∀ (a b : List Int), a.length = b.length → lexB a b = decide (cmpL a b < 0)
  | [], [], _ => rfl
  | [], y :: b, h => by simp at h
  | x :: a, [], h => by simp at h
  | x :: a, y :: b, h => by
    have ih := cmp_lex a b (by simpa using h)
    by_cases c : x = y
    · subst c
      simp [lexB, cmpL, ih]
    · rcases Int.lt_or_gt_of_ne c with c1 | c1
      · simp [lexB, cmpL, c, c1]
      · have c2 : ¬ x < y := by omega
        simp [lexB, cmpL, c, c1, c2]
def contB (r : Bool) (g : List Bool → Nat → Option Bool) : Option (List Bool) → Prop
  | none => r = false
  | some S => Ev (g S) r
def seeB : List Int → List Bool → Option (List Bool)
  | [], S => some S
  | x :: t, S => if rdOf false S x = true then none else seeB t (S.set x.toNat true)
theorem seeB_length : ∀ (t : List Int) (S S' : List Bool), seeB t S = some S' → S'.length = S.length
  | [], S, S', h => by simp [seeB] at h; rw [h]
  | x :: t, S, S', h => by
    unfold seeB at h
    by_cases c : rdOf false S x = true
    · rw [if_pos c] at h; cases h
    · rw [if_neg c] at h
      simpa using seeB_length t _ _ h
def okS (v : Int) : List Int → Bool
  | [a, b, c] => decide (0 ≤ a ∧ a < b ∧ b < c ∧ c < v)
  | _ => false
def pairsS (v : Int) : List Int → List Int
  | [a, b, c] => [a * v + b, a * v + c, b * v + c]
  | _ => []
def sysLoop (v : Int) (fin : Bool) : List (List Int) → List Bool → Bool
  | [], _ => fin
  | t :: T, S => okS v t && match seeB (pairsS v t) S with
    | none => false
    | some S' => sysLoop v fin T S'
def leadB : Option (List Int) → List Int → Bool
  | none, _ => true
  | some q, t => lexB q t
def sysLoopP (v : Int) (fin : Bool) : Option (List Int) → List (List Int) → List Bool → Bool
  | _, [], _ => fin
  | p, t :: T, S => okS v t && (leadB p t && match seeB (pairsS v t) S with
    | none => false
    | some S' => sysLoopP v fin (some t) T S')
theorem okS_form {v : Int} {t : List Int} (h : okS v t = true) : ∃ a b c, t = [a, b, c] ∧ 0 ≤ a ∧ a < b ∧ b < c ∧ c < v := by
  unfold okS at h
  split at h
  · exact ⟨_, _, _, rfl, by simpa using h⟩
  · cases h
theorem sys_same (v : Int) (fin : Bool) : ∀ (T : List (List Int)) (p : List Int) (S : List Bool), p.length = 3 → sysLoopP v fin (some p) T S = (ordFrom p T && sysLoop v fin T S)
  | [], p, S, hp => by simp [sysLoopP, ordFrom, sysLoop]
  | t :: T, p, S, hp => by
    unfold sysLoopP sysLoop ordFrom leadB
    by_cases c : okS v t = true
    · obtain ⟨a, b, d, rfl, _⟩ := okS_form c
      simp only [c, Bool.true_and]
      rw [cmp_lex p [a, b, d] (by simpa using hp)]
      cases seeB (pairsS v [a, b, d]) S with
      | none => simp
      | some S' =>
        simp only []
        rw [sys_same v fin T [a, b, d] S' rfl, Bool.and_assoc]
    · simp [c]
theorem sys_same0 (v : Int) (fin : Bool) (T : List (List Int)) (S : List Bool) : sysLoopP v fin none T S = (ordB T && sysLoop v fin T S) := by
  cases T with
  | nil => simp [sysLoopP, ordB, sysLoop]
  | cons t T =>
    unfold sysLoopP sysLoop ordB leadB
    by_cases c : okS v t = true
    · obtain ⟨a, b, d, rfl, _⟩ := okS_form c
      simp only [c, Bool.true_and]
      cases seeB (pairsS v [a, b, d]) S with
      | none => simp
      | some S' =>
        simp only []
        exact sys_same v fin T [a, b, d] S' rfl
    · simp [c]
theorem idx_facts {a b v : Int} (h0 : 0 ≤ a) (h1 : a < v) (h2 : 0 ≤ b) (h3 : b < v) (hv : v ≤ 40) : 0 ≤ a * v ∧ a * v ≤ 1600 ∧ 0 ≤ a * v + b ∧ a * v + b < v * v ∧ v * v ≤ 1600 := by
  have e1 : a * v ≤ (v - 1) * v := Int.mul_le_mul_of_nonneg_right (by omega) (by omega)
  have e2 : (v - 1) * v = v * v - v := by rw [Int.sub_mul, Int.one_mul]
  have e3 : v * v ≤ 40 * v := Int.mul_le_mul_of_nonneg_right hv (by omega)
  have e4 : 0 ≤ a * v := Int.mul_nonneg h0 (by omega)
  omega
def sysB (v : Int) (L : List (List Int)) : Bool := ordB L && sysLoop v (decide (6 * (L.length : Int) = v * (v - 1))) L (List.replicate (v * v).toNat false)
theorem sys_fin {v : Int} (L : List (List Int)) (hL : L.length ≤ 1048576) (h0 : 0 ≤ v) (hv : v ≤ 40) : (wrap64 (6 * (L.length : Int)) == wrap64 (v * wrap64 (v - 1))) = decide (6 * (L.length : Int) = v * (v - 1)) := by
  have e1 : wrap64 (v - 1) = v - 1 := w64 (by omega) (by omega)
  have e3 : v * v ≤ 40 * v := Int.mul_le_mul_of_nonneg_right hv (by omega)
  have e4 : 0 ≤ v * v := Int.mul_nonneg h0 h0
  have e5 : v * (v - 1) = v * v - v := by rw [Int.mul_sub, Int.mul_one]
  rw [e1, w64 (by omega) (by omega), w64 (by omega) (by omega)]
  rfl
theorem l1All3 (lo hi a b c : Int) : ([a, b, c].all fun n => decide (lo ≤ n ∧ n ≤ hi)) = decide ((lo ≤ a ∧ a ≤ hi) ∧ (lo ≤ b ∧ b ≤ hi) ∧ (lo ≤ c ∧ c ≤ hi)) := by
  simp [Bool.and_assoc, and_assoc]
theorem trSystem_l1 (v : Int) (L : List (List Int)) (hL : L.length ≤ 1048576) (i : Nat) (hi : i < L.length) (hv : v ≤ 40) (r : Bool) (ps : List (List Int)) (hps : ps.length ≤ 3) : ∀ (s : List (List Int)) (j : Nat) (S : List Bool), ps.drop j = s → S.length = (v * v).toNat →
    (∀ p ∈ s, ∃ a b, p = [a, b] ∧ 0 ≤ a ∧ a < v ∧ 0 ≤ b ∧ b < v) →
    contB r (fun S' k => spec_trSystem.l0 k v L S' L L.length ((i + 1 : Nat) : Int)) (seeB (s.map fun p => rd p 0 * v + rd p 1) S) → Ev (fun k => spec_trSystem.l1 k v L S L L.length (i : Int) ps ps.length (j : Int)) r
  | [], j, S, h, hS, hb, hc => by
    have h1 := dropNil h
    refine Ev.step (fun k => ?_) hc
    simp (disch := omega) only [if_true, if_false, Bool.false_eq_true, spec_trSystem.l1, if_neg, w64s]
  | p :: s, j, S, h, hS, hb, hc => by
    obtain ⟨h1, h2, h3⟩ := dropConsL h
    obtain ⟨a, b, rfl, ha0, ha1, hb0, hb1⟩ := hb p (by simp)
    have hx := idx_facts ha0 ha1 hb0 hb1 hv
    have e0 : rd [a, b] 0 = a := rfl
    have e1 : rd [a, b] 1 = b := rfl
    have e2 : wrap64 (a * v) = a * v := w64 (by omega) (by omega)
    have e3 : wrap64 (a * v + b) = a * v + b := w64 (by omega) (by omega)
    have e4 : (([a, b] : List Int).length : Int) = 2 := rfl
    simp only [List.map_cons, seeB, e0, e1] at hc
    by_cases c : rdOf false S (a * v + b) = true
    · rw [if_pos c] at hc
      have hc' : r = false := hc
      subst hc'
      refine Ev.of1 (fun k => ?_)
      simp (disch := omega) only [if_true, if_false, Bool.false_eq_true, spec_trSystem.l1, if_pos, h2, e0, e1, e2, e3, e4, c, if_true]
    · rw [if_neg c] at hc
      have c' : rdOf false S (a * v + b) = false := by simpa using c
      refine Ev.step (f := fun k => spec_trSystem.l1 k v L (S.set (a * v + b).toNat true) L L.length (i : Int) ps ps.length ((j + 1 : Nat) : Int)) (fun k => ?_) (trSystem_l1 v L hL i hi hv r ps hps s (j + 1) _ h3 (by simpa using hS) (fun q hq => hb q (by simp [hq])) hc)
      simp (disch := omega) only [if_true, if_false, Bool.false_eq_true, spec_trSystem.l1, if_pos, h2, e0, e1, e2, e3, e4, c', w64s, Bool.false_eq_true, if_false]
set_option maxHeartbeats 8000000 in
theorem trSystem_l0 (v : Int) (L : List (List Int)) (hL : L.length ≤ 1048576) (hm : ∀ x ∈ L, x.length ≤ 1048576) (h0v : 0 ≤ v) (hv : v ≤ 40) : ∀ (T : List (List Int)) (i : Nat) (S : List Bool) (p : Option (List Int)), L.drop i = T → S.length = (v * v).toNat →
    (match p with | none => i = 0 | some q => q.length = 3 ∧ ∃ j, i = j + 1 ∧ L[j]? = some q) →
    Ev (fun k => spec_trSystem.l0 k v L S L L.length (i : Int)) (sysLoopP v (decide (6 * (L.length : Int) = v * (v - 1))) p T S)
  | [], i, S, p, h, hS, hp => by
    have h1 := dropNil h
    refine Ev.of1 (fun k => ?_)
    simp (config := { maxSteps := 1000000 }) (disch := omega) only [if_true, if_false, Bool.false_eq_true, spec_trSystem.l0, if_neg, sysLoopP, sys_fin L hL h0v hv]
  | t :: T, i, S, p, h, hS, hp => by
    obtain ⟨h1, h2, h3⟩ := dropConsL h
    have ht := hm t (memDrop h)
    have e1 : wrap64 (v - 1) = v - 1 := w64 (by omega) (by omega)
    by_cases c3 : t.length = 3
    · obtain ⟨a, b, c, rfl⟩ : ∃ a b c, t = [a, b, c] := by
        match t, c3 with
        | [a, b, c], _ => exact ⟨a, b, c, rfl⟩
      have f0 : rd [a, b, c] 0 = a := rfl
      have f1 : rd [a, b, c] 1 = b := rfl
      have f2 : rd [a, b, c] 2 = c := rfl
      have f3 : (([a, b, c] : List Int).length : Int) = 3 := rfl
      obtain ⟨KA, hA⟩ := l1All_ev [a, b, c] 0 (v - 1) ht
      rw [l1All3] at hA
      by_cases cA : (0 ≤ a ∧ a ≤ v - 1) ∧ (0 ≤ b ∧ b ≤ v - 1) ∧ (0 ≤ c ∧ c ≤ v - 1)
      · by_cases c1 : a < b
        · by_cases c2 : b < c
          · have hok : okS v [a, b, c] = true := by simp [okS]; omega
            have hcont : ∀ (pl : Bool), pl = leadB p [a, b, c] → Ev (fun k => spec_trSystem.j1 k v L S [a, b, c] L L.length (i : Int) (!pl)) (sysLoopP v (decide (6 * (L.length : Int) = v * (v - 1))) p ([a, b, c] :: T) S) := by
              intro pl hpl
              cases hq : pl with
              | false =>
                refine Ev.of1 (fun k => ?_)
                rw [hq] at hpl
                simp only [spec_trSystem.j1, Bool.not_false, if_true]
                unfold sysLoopP
                rw [← hpl]
                simp
              | true =>
                rw [hq] at hpl
                refine Ev.step (f := fun k => spec_trSystem.l1 k v L S L L.length (i : Int) [[a, b], [a, c], [b, c]] (([[a, b], [a, c], [b, c]] : List (List Int)).length : Int) ((0 : Nat) : Int)) (fun k => ?_) (trSystem_l1 v L hL i h1 hv _ [[a, b], [a, c], [b, c]] (by simp) [[a, b], [a, c], [b, c]] 0 S rfl hS ?_ ?_)
                · simp (config := { maxSteps := 1000000 }) (disch := omega) only [if_true, if_false, Bool.false_eq_true, spec_trSystem.j1, if_pos, f0, f1, f2, f3, Option.bind_some, Bool.not_true, Bool.false_eq_true, if_false]
                  rfl
                · intro q hq'
                  simp only [List.mem_cons, List.not_mem_nil, or_false] at hq'
                  rcases hq' with rfl | rfl | rfl
                  · exact ⟨a, b, rfl, by omega, by omega, by omega, by omega⟩
                  · exact ⟨a, c, rfl, by omega, by omega, by omega, by omega⟩
                  · exact ⟨b, c, rfl, by omega, by omega, by omega, by omega⟩
                · have em : ([[a, b], [a, c], [b, c]].map fun p => rd p 0 * v + rd p 1) = pairsS v [a, b, c] := rfl
                  rw [em]
                  unfold sysLoopP
                  rw [hok, ← hpl]
                  simp only [Bool.true_and]
                  cases e : seeB (pairsS v [a, b, c]) S with
                  | none => rfl
                  | some S' =>
                    exact trSystem_l0 v L hL hm h0v hv T (i + 1) S' (some [a, b, c]) h3 (by rw [seeB_length _ _ _ e]; exact hS) ⟨rfl, i, rfl, dropGet h⟩
            match p, hp, hcont with
            | none, hp, hcont =>
              have hp' : i = 0 := hp
              obtain ⟨K, hK⟩ := hcont true rfl
              refine ⟨KA + K + 1, fun k hk => ?_⟩
              obtain ⟨k, rfl⟩ : ∃ m, k = m + 1 := ⟨k - 1, by omega⟩
              have a1 := hA k (by omega)
              have a2 := hK k (by omega)
              simp (config := { maxSteps := 1000000 }) (disch := omega) only [if_true, if_false, Bool.false_eq_true, spec_trSystem.l0, if_pos, if_neg, h2, f0, f1, f2, f3, e1, a1, Option.bind_some, decide_eq_true_eq]
              exact a2
            | some q, hp, hcont =>
              obtain ⟨hq3, j, rfl, hj⟩ := hp
              have hq : rd_L1 L (j : Int) = q := by simp [rd_L1, List.getD_eq_getElem?_getD, hj]
              obtain ⟨KL, hKL⟩ := trLess_ev q [a, b, c] (by omega) (by simpa using hq3)
              obtain ⟨K, hK⟩ := hcont (lexB q [a, b, c]) rfl
              refine ⟨KA + K + KL + 1, fun k hk => ?_⟩
              obtain ⟨k, rfl⟩ : ∃ m, k = m + 1 := ⟨k - 1, by omega⟩
              have a1 := hA k (by omega)
              have a2 := hK k (by omega)
              have a3 := hKL k (by omega)
              simp (config := { maxSteps := 1000000 }) (disch := omega) only [if_true, if_false, Bool.false_eq_true, spec_trSystem.l0, if_pos, if_neg, h2, f0, f1, f2, f3, e1, a1, a3, hq, w64q, Option.bind_some, decide_eq_true_eq]
              exact a2
          · refine ⟨KA + 2, fun k hk => ?_⟩
            obtain ⟨k, rfl⟩ : ∃ m, k = m + 2 := ⟨k - 2, by omega⟩
            have a1 := hA (k + 1) (by omega)
            simp (config := { maxSteps := 1000000 }) (disch := omega) only [if_true, if_false, Bool.false_eq_true, spec_trSystem.l0, spec_trSystem.j1, if_pos, if_neg, h2, f0, f1, f2, f3, e1, a1, Option.bind_some, decide_eq_true_eq]
            simp [sysLoopP, okS, c2]
        · refine ⟨KA + 2, fun k hk => ?_⟩
          obtain ⟨k, rfl⟩ : ∃ m, k = m + 2 := ⟨k - 2, by omega⟩
          have a1 := hA (k + 1) (by omega)
          simp (config := { maxSteps := 1000000 }) (disch := omega) only [if_true, if_false, Bool.false_eq_true, spec_trSystem.l0, spec_trSystem.j1, if_pos, if_neg, h2, f0, f1, f2, f3, e1, a1, Option.bind_some, decide_eq_true_eq]
          simp [sysLoopP, okS, c1]
      · refine ⟨KA + 2, fun k hk => ?_⟩
        obtain ⟨k, rfl⟩ : ∃ m, k = m + 2 := ⟨k - 2, by omega⟩
        have a1 := hA (k + 1) (by omega)
        have cok : okS v [a, b, c] = false := by simp [okS]; omega
        simp only [cA, decide_false] at a1
        simp (config := { maxSteps := 1000000 }) (disch := omega) only [if_true, if_false, Bool.false_eq_true, spec_trSystem.l0, spec_trSystem.j1, if_pos, h2, f3, e1, a1, Option.bind_some, Bool.false_eq_true, if_false, if_true]
        simp [sysLoopP, cok]
    · refine ⟨2, fun k hk => ?_⟩
      obtain ⟨k, rfl⟩ : ∃ m, k = m + 2 := ⟨k - 2, by omega⟩
      have cok : okS v t = false := by
        cases hok : okS v t with
        | false => rfl
        | true => obtain ⟨a, b, c, rfl, _⟩ := okS_form hok; exact absurd rfl c3
      simp (config := { maxSteps := 1000000 }) (disch := omega) only [if_true, if_false, Bool.false_eq_true, spec_trSystem.l0, spec_trSystem.j1, if_pos, if_neg, h2, if_true]
      simp [sysLoopP, cok]
theorem trSystem_ev (v : Int) (L : List (List Int)) (hL : L.length ≤ 1048576) (hm : ∀ x ∈ L, x.length ≤ 1048576) (h0v : 0 ≤ v) (hv : v ≤ 40) : Ev (fun k => spec_trSystem.f k v L) (sysB v L) := by
  have e3 : v * v ≤ 40 * v := Int.mul_le_mul_of_nonneg_right hv (by omega)
  have e4 : 0 ≤ v * v := Int.mul_nonneg h0v h0v
  have e1 : wrap64 (v * v) = v * v := w64 (by omega) (by omega)
  refine Ev.congr (fun k => ?_) ((trSystem_l0 v L hL hm h0v hv L 0 (List.replicate (v * v).toNat false) none rfl (by simp) rfl).cast (sys_same0 v _ L _))
  simp (config := { maxSteps := 1000000 }) (disch := omega) only [if_true, if_false, Bool.false_eq_true, spec_trSystem.f, e1, if_pos]
  rfl
def firstZ (h : Nat) : Nat → Nat → Nat
  | 0, s => s
  | f + 1, s => if h.testBit s = true then firstZ h f (s + 1) else s
theorem firstZ_facts (h : Nat) : ∀ (f s : Nat), s ≤ firstZ h f s ∧ firstZ h f s ≤ s + f ∧ (∀ q, s ≤ q → q < firstZ h f s → h.testBit q = true) ∧ (firstZ h f s < s + f → h.testBit (firstZ h f s) = false)
  | 0, s => ⟨Nat.le_refl _, Nat.le_refl _, fun q h1 h2 => by simp [firstZ] at h2; omega, fun h1 => by simp [firstZ] at h1⟩
  | f + 1, s => by
    unfold firstZ
    by_cases c : h.testBit s = true
    · rw [if_pos c]
      obtain ⟨h1, h2, h3, h4⟩ := firstZ_facts h f (s + 1)
      refine ⟨by omega, by omega, fun q hq hq' => ?_, fun hl => h4 (by omega)⟩
      by_cases e : q = s
      · subst e; exact c
      · exact h3 q (by omega) hq'
    · rw [if_neg c]
      exact ⟨Nat.le_refl _, by omega, fun q h1 h2 => by omega, fun _ => by simpa using c⟩
theorem firstZ_full (h v : Nat) (hv : h < 2 ^ v) : firstZ h v 0 = v ↔ h = 2 ^ v - 1 := by
  obtain ⟨h1, h2, h3, h4⟩ := firstZ_facts h v 0
  constructor
  · intro e
    refine Nat.eq_of_testBit_eq fun i => ?_
    rw [Nat.testBit_two_pow_sub_one]
    by_cases c : i < v
    · rw [h3 i (by omega) (by omega)]
      simp [c]
    · rw [Nat.testBit_lt_two_pow (Nat.lt_of_lt_of_le hv (Nat.pow_le_pow_right (by omega) (by omega)))]
      simp [c]
  · intro e
    rcases Nat.lt_or_ge (firstZ h v 0) v with c | c
    · have := h4 (by omega)
      rw [e, Nat.testBit_two_pow_sub_one] at this
      have h5 : firstZ (2 ^ v - 1) v 0 < v := by rw [← e]; exact c
      simp [h5] at this
    · omega
def mask3 (a b c : Nat) : Nat := (2 ^ a ||| 2 ^ b) ||| 2 ^ c
theorem mask3_bit (a b c i : Nat) : (mask3 a b c).testBit i = (decide (a = i) || decide (b = i) || decide (c = i)) := by
  unfold mask3
  rw [Nat.testBit_or, Nat.testBit_or, Nat.testBit_two_pow, Nat.testBit_two_pow, Nat.testBit_two_pow]
theorem mask3_free (h a b c : Nat) : (h &&& mask3 a b c) = 0 ↔ (h.testBit a = false ∧ h.testBit b = false ∧ h.testBit c = false) := by
  constructor
  · intro e
    have : ∀ i, (h.testBit i && (mask3 a b c).testBit i) = false := fun i => by rw [← Nat.testBit_and, e]; simp
    have ha := this a
    have hb := this b
    have hc := this c
    rw [mask3_bit] at ha hb hc
    simp at ha hb hc
    exact ⟨ha, hb, hc⟩
  · rintro ⟨ha, hb, hc⟩
    refine Nat.eq_of_testBit_eq fun i => ?_
    rw [Nat.testBit_and, mask3_bit]
    by_cases c1 : a = i
    · subst c1; simp [ha]
    · by_cases c2 : b = i
      · subst c2; simp [hb]
      · by_cases c3 : c = i
        · subst c3; simp [hc]
        · simp [c1, c2, c3]
theorem mask3_lt {v a b c : Nat} (ha : a < v) (hb : b < v) (hc : c < v) : mask3 a b c < 2 ^ v :=
  Nat.or_lt_two_pow (Nat.or_lt_two_pow (Nat.pow_lt_pow_right (by omega) ha) (Nat.pow_lt_pow_right (by omega) hb)) (Nat.pow_lt_pow_right (by omega) hc)
theorem or_more {h m a : Nat} (h0 : h.testBit a = false) (h1 : m.testBit a = true) : h < h ||| m := by
  have h2 : h ≤ h ||| m := Nat.left_le_or
  rcases Nat.lt_or_ge h (h ||| m) with c | c
  · exact c
  · have e : h = h ||| m := by omega
    have := congrArg (fun x => Nat.testBit x a) e
    simp only [Nat.testBit_or, h0, h1] at this
    simp at this
def parL (rec : Nat → Int) (p h : Nat) : List (List Int) → Int → Int
  | [], n => n
  | t :: T, n => match t with
    | [a, b, c] => if a = (p : Int) ∧ h.testBit b.toNat = false ∧ h.testBit c.toNat = false then parL rec p h T (wrap64 (n + rec (h ||| mask3 a.toNat b.toNat c.toNat))) else parL rec p h T n
    | _ => parL rec p h T n
def parN (v : Nat) (L : List (List Int)) : Nat → Nat → Int
  | 0, _ => 1
  | N + 1, h => if h = 2 ^ v - 1 then 1 else parL (parN v L N) (firstZ h v 0) h L 0
def relH (v : Nat) (M : List Bool) (h : Nat) : Prop := M.length = v ∧ ∀ p : Nat, p < v → M.getD p false = !h.testBit p
theorem relH_get {v : Nat} {M : List Bool} {h : Nat} (r : relH v M h) (p : Nat) (hp : p < v) : rdOf false M (p : Int) = !h.testBit p := r.2 p hp
theorem getDset (l : List Bool) (i j : Nat) (b : Bool) (hi : i < l.length) : (l.set i b).getD j false = if i = j then b else l.getD j false := by
  rw [List.getD_eq_getElem?_getD, List.getElem?_set, List.getD_eq_getElem?_getD]
  by_cases c : i = j
  · subst c
    simp [hi]
  · simp [c]
theorem relH_set {v : Nat} {M : List Bool} {h : Nat} (r : relH v M h) (a b c : Nat) (ha : a < v) (hb : b < v) (hc : c < v) : relH v (((M.set a false).set b false).set c false) (h ||| mask3 a b c) := by
  obtain ⟨r1, r2⟩ := r
  refine ⟨by simpa using r1, fun p hp => ?_⟩
  rw [getDset _ _ _ _ (by simp; omega), getDset _ _ _ _ (by simp; omega), getDset _ _ _ _ (by omega), Nat.testBit_or, mask3_bit, r2 p hp]
  by_cases c1 : c = p
  · simp [c1]
  · by_cases c2 : b = p
    · simp [c2]
    · by_cases c3 : a = p
      · simp [c3]
      · simp [c1, c2, c3]
theorem trl1_a {k : Nat} {L : List (List Int)} {M : List Bool} {p n : Int} {i : Nat} {a b d : Int} (hi : i < L.length) (hL : L.length ≤ 1048576) (d2 : rd_L1 L (i : Int) = [a, b, d]) (ca : ¬ a = p) :
    spec_trParallel.l1 (k + 1) L M p n L L.length (i : Int) = spec_trParallel.l1 k L M p n L L.length ((i + 1 : Nat) : Int) := by
  rw [spec_trParallel.l1, d2, w64s (by omega)]
  simp only [show rd [a, b, d] 0 = a from rfl]
  rw [if_pos (by omega), if_pos (by omega), if_pos (by omega), if_pos (by simp), if_neg ca]
theorem trl1_b {k : Nat} {L : List (List Int)} {M : List Bool} {p n : Int} {i : Nat} {b d : Int} (hi : i < L.length) (hL : L.length ≤ 1048576) (d2 : rd_L1 L (i : Int) = [p, b, d]) (h0 : 0 ≤ b) (h1 : b < (M.length : Int)) (gb : rdOf false M b = false) :
    spec_trParallel.l1 (k + 1) L M p n L L.length (i : Int) = spec_trParallel.l1 k L M p n L L.length ((i + 1 : Nat) : Int) := by
  rw [spec_trParallel.l1, d2, w64s (by omega)]
  simp only [show rd [p, b, d] 0 = p from rfl, show rd [p, b, d] 1 = b from rfl]
  rw [if_pos (by omega), if_pos (by omega), if_pos (by omega), if_pos (by simp), if_pos trivial, if_pos (by simp), if_pos h0, if_pos h1, if_neg (by rw [gb]; decide)]
theorem trl1_d {k : Nat} {L : List (List Int)} {M : List Bool} {p n : Int} {i : Nat} {b d : Int} (hi : i < L.length) (hL : L.length ≤ 1048576) (d2 : rd_L1 L (i : Int) = [p, b, d]) (h0 : 0 ≤ b) (h1 : b < (M.length : Int)) (gb : rdOf false M b = true) (h2 : 0 ≤ d) (h3 : d < (M.length : Int)) (gd : rdOf false M d = false) :
    spec_trParallel.l1 (k + 1) L M p n L L.length (i : Int) = spec_trParallel.l1 k L M p n L L.length ((i + 1 : Nat) : Int) := by
  rw [spec_trParallel.l1, d2, w64s (by omega)]
  simp only [show rd [p, b, d] 0 = p from rfl, show rd [p, b, d] 1 = b from rfl, show rd [p, b, d] 2 = d from rfl]
  rw [if_pos (by omega), if_pos (by omega), if_pos (by omega), if_pos (by simp), if_pos trivial, if_pos (by simp), if_pos h0, if_pos h1, if_pos gb, if_pos (by simp), if_pos h2, if_pos h3, if_neg (by rw [gd]; decide)]
theorem trl1_y {k : Nat} {L : List (List Int)} {M : List Bool} {n : Int} {i : Nat} {p b d : Nat} (hi : i < L.length) (hL : L.length ≤ 1048576) (hM : M.length ≤ 1048576) (d2 : rd_L1 L (i : Int) = [(p : Int), (b : Int), (d : Int)]) (hp : p < M.length) (hb : b < M.length) (gb : rdOf false M (b : Int) = true) (hd : d < M.length) (gd : rdOf false M (d : Int) = true) :
    spec_trParallel.l1 (k + 1) L M (p : Int) n L L.length (i : Int) = (spec_trParallel.f k L (((M.set p false).set b false).set d false)).bind fun t182 => spec_trParallel.l1 k L M (p : Int) (wrap64 (n + t182)) L L.length ((i + 1 : Nat) : Int) := by
  rw [spec_trParallel.l1, d2, w64s (by omega)]
  simp only [show rd [(p : Int), (b : Int), (d : Int)] 0 = (p : Int) from rfl, show rd [(p : Int), (b : Int), (d : Int)] 1 = (b : Int) from rfl, show rd [(p : Int), (b : Int), (d : Int)] 2 = (d : Int) from rfl, Option.bind_some, List.nil_append, List.length_nil, Nat.zero_add, toNat_cast]
  rw [if_pos (by omega), if_pos (by omega), if_pos (by omega), if_pos (by simp), if_pos trivial, if_pos (by simp), if_pos (by omega), if_pos (by omega), if_pos gb, if_pos (by simp), if_pos (by omega), if_pos (by omega), if_pos gd, if_pos (by omega), if_pos (by omega), if_pos (by omega), if_pos (by omega), if_pos (by omega)]
set_option maxHeartbeats 8000000 in
theorem trParallel_ev (v : Nat) (hv : v ≤ 15) (L : List (List Int)) (hL : L.length ≤ 1048576) (hok : ∀ t ∈ L, okS (v : Int) t = true) : ∀ (N h : Nat) (M : List Bool), relH v M h → h < 2 ^ v → 2 ^ v - h ≤ N → Ev (fun k => spec_trParallel.f k L M) (parN v L N h) := by
  intro N
  induction N with
  | zero => intro h M hr h1 h2; omega
  | succ N ih =>
    intro h M hr h1 h2
    obtain ⟨z1, z2, z3, z4⟩ := firstZ_facts h v 0
    have zf := firstZ_full h v h1
    obtain ⟨p, hpe⟩ : ∃ p, p = firstZ h v 0 := ⟨_, rfl⟩
    rw [← hpe] at z2 z3 z4 zf
    have hM := hr.1
    have fin : Ev (fun k => spec_trParallel.j1 k L M (p : Int)) (parN v L (N + 1) h) := by
      by_cases c : h = 2 ^ v - 1
      · have hp := zf.2 c
        refine Ev.of1 (fun k => ?_)
        have e1 : (p : Int) = (M.length : Int) := by omega
        simp only [spec_trParallel.j1, e1, if_true, parN, if_pos c]
      · have hp : p < v := by
          rcases Nat.lt_or_ge p v with c1 | c1
          · exact c1
          · exact absurd (zf.1 (by omega)) c
        have hpb := z4 (by omega)
        have l1 : ∀ (T : List (List Int)) (i : Nat) (n : Int), L.drop i = T → Ev (fun k => spec_trParallel.l1 k L M (p : Int) n L L.length (i : Int)) (parL (parN v L N) p h T n) := by
          intro T
          induction T with
          | nil =>
            intro i n hd
            have d1 := dropNil hd
            refine Ev.of1 (fun k => ?_)
            simp (config := { maxSteps := 1000000 }) (disch := omega) only [if_true, if_false, Bool.false_eq_true, spec_trParallel.l1, if_neg, parL]
          | cons t T ihT =>
            intro i n hd
            obtain ⟨d1, d2, d3⟩ := dropConsL hd
            obtain ⟨a, b, d, rfl, q1, q2, q3, q4⟩ := okS_form (hok t (memDrop hd))
            have f0 : rd [a, b, d] 0 = a := rfl
            have f1 : rd [a, b, d] 1 = b := rfl
            have f2 : rd [a, b, d] 2 = d := rfl
            have f3 : (([a, b, d] : List Int).length : Int) = 3 := rfl
            obtain ⟨a', ea⟩ : ∃ a' : Nat, a = (a' : Int) := ⟨a.toNat, by omega⟩
            obtain ⟨b', eb⟩ : ∃ b' : Nat, b = (b' : Int) := ⟨b.toNat, by omega⟩
            obtain ⟨d', ed⟩ : ∃ d' : Nat, d = (d' : Int) := ⟨d.toNat, by omega⟩
            subst ea eb ed
            have gb := relH_get hr b' (by omega)
            have gd := relH_get hr d' (by omega)
            by_cases ca : a' = p
            · subst ca
              by_cases cb : h.testBit b' = false
              · by_cases cd : h.testBit d' = false
                · have hlt : h < h ||| mask3 a' b' d' := or_more (a := b') cb (by rw [mask3_bit]; simp)
                  have hlt2 : h ||| mask3 a' b' d' < 2 ^ v := Nat.or_lt_two_pow h1 (mask3_lt (by omega) (by omega) (by omega))
                  rw [cb] at gb
                  rw [cd] at gd
                  refine Ev.step (f := fun k => (spec_trParallel.f k L (((M.set a' false).set b' false).set d' false)).bind fun t182 => spec_trParallel.l1 k L M (a' : Int) (wrap64 (n + t182)) L L.length ((i + 1 : Nat) : Int)) (fun k => trl1_y d1 hL (by omega) d2 (by omega) (by omega) gb (by omega) gd) ((Ev.bind (ih _ _ (relH_set hr a' b' d' (by omega) (by omega) (by omega)) hlt2 (by omega)) (ihT (i + 1) _ d3)).cast ?_)
                  simp [parL, cb, cd]
                · have cd' : h.testBit d' = true := by simpa using cd
                  rw [cb] at gb
                  rw [cd'] at gd
                  exact Ev.step (f := fun k => spec_trParallel.l1 k L M (a' : Int) n L L.length ((i + 1 : Nat) : Int)) (fun k => trl1_d d1 hL d2 (by omega) (by omega) gb (by omega) (by omega) gd) ((ihT (i + 1) n d3).cast (by simp [parL, cd']))
              · have cb' : h.testBit b' = true := by simpa using cb
                rw [cb'] at gb
                exact Ev.step (f := fun k => spec_trParallel.l1 k L M (a' : Int) n L L.length ((i + 1 : Nat) : Int)) (fun k => trl1_b d1 hL d2 (by omega) (by omega) gb) ((ihT (i + 1) n d3).cast (by simp [parL, cb']))
            · have ca' : ¬ (a' : Int) = (p : Int) := by omega
              exact Ev.step (f := fun k => spec_trParallel.l1 k L M (p : Int) n L L.length ((i + 1 : Nat) : Int)) (fun k => trl1_a d1 hL d2 ca') ((ihT (i + 1) n d3).cast (by simp [parL, ca']))
        refine Ev.step (fun k => ?_) ((l1 L 0 0 rfl).cast (by unfold parN; rw [if_neg c, ← hpe]))
        have e1 : ¬ (p : Int) = (M.length : Int) := by omega
        simp only [spec_trParallel.j1, e1, if_false]
        rfl
    have l0 : ∀ (f s : Nat), s + f = p → Ev (fun k => spec_trParallel.l0 k L M (s : Int)) (parN v L (N + 1) h) := by
      intro f
      induction f with
      | zero =>
        intro s hs
        have hs' : s = p := by omega
        subst hs'
        refine Ev.step (fun k => ?_) fin
        by_cases c : s < v
        · have g := relH_get hr s c
          rw [z4 (by omega)] at g
          simp (config := { maxSteps := 1000000 }) (disch := omega) only [if_true, if_false, Bool.false_eq_true, spec_trParallel.l0, if_pos, g, Bool.not_false]
        · simp (config := { maxSteps := 1000000 }) (disch := omega) only [if_true, if_false, Bool.false_eq_true, spec_trParallel.l0, if_neg]
      | succ f ihf =>
        intro s hs
        have g := relH_get hr s (by omega)
        rw [z3 s (by omega) (by omega)] at g
        refine Ev.step (f := fun k => spec_trParallel.l0 k L M ((s + 1 : Nat) : Int)) (fun k => ?_) (ihf (s + 1) (by omega))
        simp (config := { maxSteps := 1000000 }) (disch := omega) only [if_true, if_false, Bool.false_eq_true, spec_trParallel.l0, if_pos, g, Bool.not_true, Bool.false_eq_true, w64s]
    refine Ev.step (fun k => ?_) (l0 p 0 (by omega))
    simp only [spec_trParallel.f]
    rfl
theorem isSystem_l1 (v : Int) (L : List (List Int)) (hL : L.length ≤ 1048576) (i : Nat) (hi : i < L.length) (r : Bool) (ps : List Int) (hps : ps.length ≤ 3) : ∀ (s : List Int) (j : Nat) (S : List Bool), ps.drop j = s → S.length = (v * v).toNat →
    (∀ p ∈ s, 0 ≤ p ∧ p < v * v) →
    contB r (fun S' k => impl_isSystem.l0 k v L S' L L.length ((i + 1 : Nat) : Int)) (seeB s S) → Ev (fun k => impl_isSystem.l1 k v L S L L.length (i : Int) ps ps.length (j : Int)) r
  | [], j, S, h, hS, hb, hc => by
    have h1 := dropNil h
    refine Ev.step (fun k => ?_) hc
    simp (disch := omega) only [if_true, if_false, Bool.false_eq_true, impl_isSystem.l1, if_neg, w64s]
  | p :: s, j, S, h, hS, hb, hc => by
    obtain ⟨h1, h2, h3⟩ := dropCons h
    have hx := hb p (by simp)
    simp only [seeB] at hc
    by_cases c : rdOf false S p = true
    · rw [if_pos c] at hc
      have hc' : r = false := hc
      subst hc'
      refine Ev.of1 (fun k => ?_)
      simp (disch := omega) only [if_true, if_false, Bool.false_eq_true, impl_isSystem.l1, if_pos, h2, c, if_true]
    · rw [if_neg c] at hc
      have c' : rdOf false S p = false := by simpa using c
      refine Ev.step (f := fun k => impl_isSystem.l1 k v L (S.set p.toNat true) L L.length (i : Int) ps ps.length ((j + 1 : Nat) : Int)) (fun k => ?_) (isSystem_l1 v L hL i hi r ps hps s (j + 1) _ h3 (by simpa using hS) (fun q hq => hb q (by simp [hq])) hc)
      simp (disch := omega) only [if_true, if_false, Bool.false_eq_true, impl_isSystem.l1, if_pos, h2, c', w64s, Bool.false_eq_true, if_false]
set_option maxHeartbeats 8000000 in
theorem isSystem_l0 (v : Int) (L : List (List Int)) (hL : L.length ≤ 1048576) (h0v : 0 ≤ v) (hv : v ≤ 40) : ∀ (T : List (List Int)) (i : Nat) (S : List Bool), L.drop i = T → S.length = (v * v).toNat →
    Ev (fun k => impl_isSystem.l0 k v L S L L.length (i : Int)) (sysLoop v (decide (6 * (L.length : Int) = v * (v - 1))) T S)
  | [], i, S, h, hS => by
    have h1 := dropNil h
    refine Ev.of1 (fun k => ?_)
    simp (disch := omega) only [if_true, if_false, Bool.false_eq_true, impl_isSystem.l0, if_neg, sysLoop, sys_fin L hL h0v hv]
  | t :: T, i, S, h, hS => by
    obtain ⟨h1, h2, h3⟩ := dropConsL h
    by_cases c3 : t.length = 3
    · obtain ⟨a, b, c, rfl⟩ : ∃ a b c, t = [a, b, c] := by
        match t, c3 with
        | [a, b, c], _ => exact ⟨a, b, c, rfl⟩
      have f0 : rd [a, b, c] 0 = a := rfl
      have f1 : rd [a, b, c] 1 = b := rfl
      have f2 : rd [a, b, c] 2 = c := rfl
      have f3 : (([a, b, c] : List Int).length : Int) = 3 := rfl
      by_cases c0 : a < 0
      · refine ⟨2, fun k hk => ?_⟩
        obtain ⟨k, rfl⟩ : ∃ m, k = m + 2 := ⟨k - 2, by omega⟩
        have cok : okS v [a, b, c] = false := by simp [okS]; omega
        simp (disch := omega) only [if_true, if_false, Bool.false_eq_true, impl_isSystem.l0, impl_isSystem.j2, if_pos, if_neg, h2, f0, f1, f2, f3]
        simp [sysLoop, cok]
      · by_cases c1 : a ≥ b
        · refine ⟨2, fun k hk => ?_⟩
          obtain ⟨k, rfl⟩ : ∃ m, k = m + 2 := ⟨k - 2, by omega⟩
          have cok : okS v [a, b, c] = false := by simp [okS]; omega
          simp (disch := omega) only [if_true, if_false, Bool.false_eq_true, impl_isSystem.l0, impl_isSystem.j2, if_pos, if_neg, h2, f0, f1, f2, f3]
          simp [sysLoop, cok]
        · by_cases c2 : b ≥ c
          · refine ⟨2, fun k hk => ?_⟩
            obtain ⟨k, rfl⟩ : ∃ m, k = m + 2 := ⟨k - 2, by omega⟩
            have cok : okS v [a, b, c] = false := by simp [okS]; omega
            simp (disch := omega) only [if_true, if_false, Bool.false_eq_true, impl_isSystem.l0, impl_isSystem.j2, if_pos, if_neg, h2, f0, f1, f2, f3]
            simp [sysLoop, cok]
          · by_cases c4 : c ≥ v
            · refine ⟨2, fun k hk => ?_⟩
              obtain ⟨k, rfl⟩ : ∃ m, k = m + 2 := ⟨k - 2, by omega⟩
              have cok : okS v [a, b, c] = false := by simp [okS]; omega
              simp (disch := omega) only [if_true, if_false, Bool.false_eq_true, impl_isSystem.l0, impl_isSystem.j2, if_pos, if_neg, h2, f0, f1, f2, f3]
              simp [sysLoop, cok, c4]
            · have hok : okS v [a, b, c] = true := by simp [okS]; omega
              have x1 := idx_facts (a := a) (b := b) (v := v) (by omega) (by omega) (by omega) (by omega) hv
              have x2 := idx_facts (a := a) (b := c) (v := v) (by omega) (by omega) (by omega) (by omega) hv
              have x3 := idx_facts (a := b) (b := c) (v := v) (by omega) (by omega) (by omega) (by omega) hv
              have e1 : wrap64 (a * v) = a * v := w64 (by omega) (by omega)
              have e2 : wrap64 (b * v) = b * v := w64 (by omega) (by omega)
              have e3 : wrap64 (a * v + b) = a * v + b := w64 (by omega) (by omega)
              have e4 : wrap64 (a * v + c) = a * v + c := w64 (by omega) (by omega)
              have e5 : wrap64 (b * v + c) = b * v + c := w64 (by omega) (by omega)
              have c4' : decide (c ≥ v) = false := by simpa using c4
              refine Ev.step (f := fun k => impl_isSystem.j2 k v L S [a, b, c] L L.length (i : Int) false) (fun k => ?_) ?_
              · simp (disch := omega) only [if_true, if_false, Bool.false_eq_true, impl_isSystem.l0, if_pos, if_neg, h2, f0, f1, f2, f3, c4']
              · refine Ev.step (f := fun k => impl_isSystem.l1 k v L S L L.length (i : Int) (pairsS v [a, b, c]) ((pairsS v [a, b, c]).length : Int) ((0 : Nat) : Int)) (fun k => ?_) (isSystem_l1 v L hL i h1 _ (pairsS v [a, b, c]) (by simp [pairsS]) (pairsS v [a, b, c]) 0 S rfl hS ?_ ?_)
                · simp (disch := omega) only [if_true, if_false, Bool.false_eq_true, impl_isSystem.j2, if_pos, f0, f1, f2, f3, e1, e2, e3, e4, e5, Option.bind_some, Bool.false_eq_true, if_false]
                  rfl
                · intro p hp
                  simp only [pairsS, List.mem_cons, List.not_mem_nil, or_false] at hp
                  rcases hp with rfl | rfl | rfl <;> omega
                · unfold sysLoop
                  rw [hok]
                  simp only [Bool.true_and]
                  cases e : seeB (pairsS v [a, b, c]) S with
                  | none => rfl
                  | some S' => exact isSystem_l0 v L hL h0v hv T (i + 1) S' h3 (by rw [seeB_length _ _ _ e]; exact hS)
    · refine ⟨2, fun k hk => ?_⟩
      obtain ⟨k, rfl⟩ : ∃ m, k = m + 2 := ⟨k - 2, by omega⟩
      have cok : okS v t = false := by
        cases hok : okS v t with
        | false => rfl
        | true => obtain ⟨a, b, c, rfl, _⟩ := okS_form hok; exact absurd rfl c3
      simp (disch := omega) only [if_true, if_false, Bool.false_eq_true, impl_isSystem.l0, impl_isSystem.j2, if_pos, if_neg, h2, if_true]
      simp [sysLoop, cok]
theorem isSystem_ev (v : Int) (L : List (List Int)) (hL : L.length ≤ 1048576) (hm : ∀ x ∈ L, x.length ≤ 1048576) : Ev (fun k => impl_isSystem.f k v L) (decide (3 ≤ v ∧ v ≤ 40 ∧ L.length ≤ 300) && sysB v L) := by
  by_cases c1 : 3 ≤ v
  · by_cases c2 : v ≤ 40
    · by_cases c3 : (L.length : Int) > 300
      · refine Ev.of1 (fun k => ?_)
        have : ¬ L.length ≤ 300 := by omega
        simp [impl_isSystem.f, impl_isSystem.j0, impl_isPoints.f, c1, c2, c3, this]
      · have c3' : L.length ≤ 300 := by omega
        obtain ⟨K1, h1⟩ := inOrder_ev L hL hm
        have e3 : v * v ≤ 40 * v := Int.mul_le_mul_of_nonneg_right c2 (by omega)
        have e4 : 0 ≤ v * v := Int.mul_nonneg (by omega) (by omega)
        have e1 : wrap64 (v * v) = v * v := w64 (by omega) (by omega)
        cases co : ordB L with
        | false =>
          refine ⟨K1 + 1, fun k hk => ?_⟩
          obtain ⟨k, rfl⟩ : ∃ m, k = m + 1 := ⟨k - 1, by omega⟩
          have a1 := h1 (k + 1) (by omega)
          rw [co] at a1
          simp [impl_isSystem.f, impl_isSystem.j0, impl_isPoints.f, c1, c2, c3, c3', a1, sysB, co]
        | true =>
          obtain ⟨K2, h2⟩ := isSystem_l0 v L hL (by omega) c2 L 0 (List.replicate (v * v).toNat false) rfl (by simp)
          simp only [Int.natCast_zero] at h2
          refine ⟨K1 + K2 + 1, fun k hk => ?_⟩
          obtain ⟨k, rfl⟩ : ∃ m, k = m + 1 := ⟨k - 1, by omega⟩
          have a1 := h1 (k + 1) (by omega)
          have a2 := h2 k (by omega)
          rw [co] at a1
          have g1 : (v * v).toNat ≤ 281474976710656 := by omega
          simp only [impl_isSystem.f, impl_isPoints.f, ge_iff_le, c1, if_true, Option.bind_some, c2, decide_true, c3, if_false, a1, impl_isSystem.j0, Bool.not_true, Bool.false_eq_true, e1, e4, g1, a2, sysB, co, c3', Bool.true_and, and_self]
    · refine Ev.of1 (fun k => ?_)
      simp [impl_isSystem.f, impl_isSystem.j0, impl_isPoints.f, c1, c2]
  · refine Ev.of1 (fun k => ?_)
    simp [impl_isSystem.f, impl_isSystem.j0, impl_isPoints.f, c1]
theorem w62 (n : Int) (h0 : 0 ≤ n) (h1 : n < 2 ^ 62) : IntKind.i64.wrap n = n := by
  rw [IntKind.wrap_i64]
  omega
theorem and_nat (a b : Nat) (ha : a < 2 ^ 62) (hb : b < 2 ^ 62) : Go.bits .and .i64 (a : Int) (b : Int) = ((a &&& b : Nat) : Int) := (bits_nat .i64 62 (by decide) w62 a b ha hb).1
theorem or_nat (a b : Nat) (ha : a < 2 ^ 62) (hb : b < 2 ^ 62) : Go.bits .or .i64 (a : Int) (b : Int) = ((a ||| b : Nat) : Int) := (bits_nat .i64 62 (by decide) w62 a b ha hb).2
theorem p15 {a : Nat} (h : a ≤ 15) : 2 ^ a ≤ 32768 := Nat.le_trans (Nat.pow_le_pow_right (by omega) h) (by decide)
theorem shl_nat (a : Nat) (h : a ≤ 15) : shl .i64 1 (a : Int) = ((2 ^ a : Nat) : Int) := by
  have e : min ((a : Int)).toNat IntKind.i64.bits = a := by
    simp [IntKind.bits]
    omega
  have h2 := p15 h
  have h3 : ((2 : Int) ^ a) = ((2 ^ a : Nat) : Int) := by simp
  unfold shl
  rw [e, Int.one_mul, h3]
  obtain ⟨z, hz⟩ : ∃ z, z = 2 ^ a := ⟨_, rfl⟩
  rw [← hz] at h2 ⊢
  exact w62 _ (by omega) (by omega)
theorem bit_at (h p : Nat) (hh : h < 2 ^ 15) (hp : p ≤ 15) : Go.bits .and .i64 (shr .i64 (h : Int) (p : Int)) 1 = if h.testBit p = true then 1 else 0 := by
  have e : min ((p : Int)).toNat IntKind.i64.bits = p := by
    simp [IntKind.bits]
    omega
  have h3 : ((2 : Int) ^ p) = ((2 ^ p : Nat) : Int) := by simp
  have h4 : h / 2 ^ p ≤ h := Nat.div_le_self _ _
  have e2 : shr .i64 (h : Int) (p : Int) = ((h / 2 ^ p : Nat) : Int) := by
    unfold shr
    rw [e, h3]
    rfl
  rw [e2]
  have := and_nat (h / 2 ^ p) 1 (by omega) (by decide)
  rw [show ((1 : Nat) : Int) = 1 from rfl] at this
  rw [this, Nat.and_one_is_mod, Nat.testBit_eq_decide_div_mod_eq]
  by_cases c : h / 2 ^ p % 2 = 1
  · simp [c]
  · have : h / 2 ^ p % 2 = 0 := by omega
    simp [this]
theorem mask_at (a b c : Nat) (ha : a ≤ 15) (hb : b ≤ 15) (hc : c ≤ 15) : Go.bits .or .i64 (Go.bits .or .i64 (shl .i64 1 (a : Int)) (shl .i64 1 (b : Int))) (shl .i64 1 (c : Int)) = ((mask3 a b c : Nat) : Int) := by
  have h1 := p15 ha
  have h2 := p15 hb
  have h3 := p15 hc
  have h4 : 2 ^ a ||| 2 ^ b < 2 ^ 16 := Nat.or_lt_two_pow (by omega) (by omega)
  rw [shl_nat a ha, shl_nat b hb, shl_nat c hc, or_nat _ _ (by omega) (by omega), or_nat _ _ (by omega) (by omega)]
  rfl
theorem prl1_a {k : Nat} {L : List (List Int)} {v h p n : Int} {i : Nat} {a b d : Int} (hi : i < L.length) (hL : L.length ≤ 1048576) (d2 : rd_L1 L (i : Int) = [a, b, d]) (h0 : 0 ≤ a) (h1 : 0 ≤ b) (h2 : 0 ≤ d) (ca : ¬ a = p) :
    impl_parallel.l1 (k + 1) v L h p n L L.length (i : Int) = impl_parallel.l1 k v L h p n L L.length ((i + 1 : Nat) : Int) := by
  rw [impl_parallel.l1, d2, w64s (by omega)]
  simp only [show rd [a, b, d] 0 = a from rfl, show rd [a, b, d] 1 = b from rfl, show rd [a, b, d] 2 = d from rfl]
  rw [if_pos (by omega), if_pos (by omega), if_pos (by omega), if_pos (by simp), if_pos h0, if_pos (by simp), if_pos h1, if_pos (by simp), if_pos h2, if_neg ca]
theorem prl1_m {k : Nat} {L : List (List Int)} {v h p n m : Int} {i : Nat} {b d : Int} (hi : i < L.length) (hL : L.length ≤ 1048576) (d2 : rd_L1 L (i : Int) = [p, b, d]) (h0 : 0 ≤ p) (h1 : 0 ≤ b) (h2 : 0 ≤ d) (em : Go.bits .or .i64 (Go.bits .or .i64 (shl .i64 1 p) (shl .i64 1 b)) (shl .i64 1 d) = m) (cz : ¬ Go.bits .and .i64 h m = 0) :
    impl_parallel.l1 (k + 1) v L h p n L L.length (i : Int) = impl_parallel.l1 k v L h p n L L.length ((i + 1 : Nat) : Int) := by
  rw [impl_parallel.l1, d2, w64s (by omega)]
  simp only [show rd [p, b, d] 0 = p from rfl, show rd [p, b, d] 1 = b from rfl, show rd [p, b, d] 2 = d from rfl, em]
  rw [if_pos (by omega), if_pos (by omega), if_pos (by omega), if_pos (by simp), if_pos h0, if_pos (by simp), if_pos h1, if_pos (by simp), if_pos h2, if_pos trivial, if_neg cz]
theorem prl1_y {k : Nat} {L : List (List Int)} {v h p n m : Int} {i : Nat} {b d : Int} (hi : i < L.length) (hL : L.length ≤ 1048576) (d2 : rd_L1 L (i : Int) = [p, b, d]) (h0 : 0 ≤ p) (h1 : 0 ≤ b) (h2 : 0 ≤ d) (em : Go.bits .or .i64 (Go.bits .or .i64 (shl .i64 1 p) (shl .i64 1 b)) (shl .i64 1 d) = m) (cz : Go.bits .and .i64 h m = 0) :
    impl_parallel.l1 (k + 1) v L h p n L L.length (i : Int) = (impl_parallel.f k v L (Go.bits .or .i64 h m)).bind fun t227 => impl_parallel.l1 k v L h p (wrap64 (n + t227)) L L.length ((i + 1 : Nat) : Int) := by
  rw [impl_parallel.l1, d2, w64s (by omega)]
  simp only [show rd [p, b, d] 0 = p from rfl, show rd [p, b, d] 1 = b from rfl, show rd [p, b, d] 2 = d from rfl, em]
  rw [if_pos (by omega), if_pos (by omega), if_pos (by omega), if_pos (by simp), if_pos h0, if_pos (by simp), if_pos h1, if_pos (by simp), if_pos h2, if_pos trivial, if_pos cz]
set_option maxHeartbeats 8000000 in
theorem parallel_ev (v : Nat) (hv : v ≤ 15) (L : List (List Int)) (hL : L.length ≤ 1048576) (hok : ∀ t ∈ L, okS (v : Int) t = true) : ∀ (N h : Nat), h < 2 ^ v → 2 ^ v - h ≤ N → Ev (fun k => impl_parallel.f k (v : Int) L (h : Int)) (parN v L N h) := by
  have hv2 := p15 hv
  intro N
  induction N with
  | zero => intro h h1 h2; omega
  | succ N ih =>
    intro h h1 h2
    obtain ⟨z1, z2, z3, z4⟩ := firstZ_facts h v 0
    have zf := firstZ_full h v h1
    have e0 : wrap64 (((2 ^ v : Nat) : Int) - 1) = ((2 ^ v - 1 : Nat) : Int) := by
      rw [w64 (by omega) (by omega)]
      omega
    by_cases c : h = 2 ^ v - 1
    · refine Ev.of1 (fun k => ?_)
      have c' : (h : Int) = ((2 ^ v - 1 : Nat) : Int) := by omega
      simp (config := { maxSteps := 1000000 }) (disch := omega) only [if_true, if_false, Bool.false_eq_true, impl_parallel.f, if_pos, shl_nat v hv, e0, c', parN, c]
    · have c' : ¬ (h : Int) = ((2 ^ v - 1 : Nat) : Int) := by omega
      have hp : firstZ h v 0 < v := by
        rcases Nat.lt_or_ge (firstZ h v 0) v with c1 | c1
        · exact c1
        · exact absurd (zf.1 (by omega)) c
      have hpb := z4 (by omega)
      obtain ⟨p, hpe⟩ : ∃ p, p = firstZ h v 0 := ⟨_, rfl⟩
      rw [← hpe] at hp hpb z3
      have l1 : ∀ (T : List (List Int)) (i : Nat) (n : Int), L.drop i = T → Ev (fun k => impl_parallel.l1 k (v : Int) L (h : Int) (p : Int) n L L.length (i : Int)) (parL (parN v L N) p h T n) := by
        intro T
        induction T with
        | nil =>
          intro i n hd
          have d1 := dropNil hd
          refine Ev.of1 (fun k => ?_)
          simp (config := { maxSteps := 1000000 }) (disch := omega) only [if_true, if_false, Bool.false_eq_true, impl_parallel.l1, if_neg, parL]
        | cons t T ihT =>
          intro i n hd
          obtain ⟨d1, d2, d3⟩ := dropConsL hd
          obtain ⟨a, b, d, rfl, q1, q2, q3, q4⟩ := okS_form (hok t (memDrop hd))
          have f0 : rd [a, b, d] 0 = a := rfl
          have f1 : rd [a, b, d] 1 = b := rfl
          have f2 : rd [a, b, d] 2 = d := rfl
          have f3 : (([a, b, d] : List Int).length : Int) = 3 := rfl
          obtain ⟨a', ea⟩ : ∃ a' : Nat, a = (a' : Int) := ⟨a.toNat, by omega⟩
          obtain ⟨b', eb⟩ : ∃ b' : Nat, b = (b' : Int) := ⟨b.toNat, by omega⟩
          obtain ⟨d', ed⟩ : ∃ d' : Nat, d = (d' : Int) := ⟨d.toNat, by omega⟩
          subst ea eb ed
          have em := mask_at a' b' d' (by omega) (by omega) (by omega)
          have hm := mask3_lt (v := v) (a := a') (b := b') (c := d') (by omega) (by omega) (by omega)
          by_cases ca : a' = p
          · subst ca
            by_cases cf : h.testBit b' = false ∧ h.testBit d' = false
            · have cz : (h &&& mask3 a' b' d') = 0 := (mask3_free h a' b' d').2 ⟨hpb, cf.1, cf.2⟩
              have hlt : h < h ||| mask3 a' b' d' := or_more (a := b') cf.1 (by rw [mask3_bit]; simp)
              have hlt2 : h ||| mask3 a' b' d' < 2 ^ v := Nat.or_lt_two_pow h1 hm
              have e3 : Go.bits .and .i64 (h : Int) ((mask3 a' b' d' : Nat) : Int) = 0 := by rw [and_nat _ _ (by omega) (by omega), cz]; rfl
              have e4 : Go.bits .or .i64 (h : Int) ((mask3 a' b' d' : Nat) : Int) = ((h ||| mask3 a' b' d' : Nat) : Int) := or_nat _ _ (by omega) (by omega)
              refine Ev.step (f := fun k => (impl_parallel.f k (v : Int) L ((h ||| mask3 a' b' d' : Nat) : Int)).bind fun t227 => impl_parallel.l1 k (v : Int) L (h : Int) (a' : Int) (wrap64 (n + t227)) L L.length ((i + 1 : Nat) : Int)) (fun k => ?_) ((Ev.bind (ih _ hlt2 (by omega)) (ihT (i + 1) _ d3)).cast ?_)
              · rw [← e4]
                exact prl1_y d1 hL d2 (by omega) (by omega) (by omega) em e3
              · simp [parL, cf]
            · have cz : ¬ (h &&& mask3 a' b' d') = 0 := fun e => cf ⟨((mask3_free h a' b' d').1 e).2.1, ((mask3_free h a' b' d').1 e).2.2⟩
              have e3 : ¬ Go.bits .and .i64 (h : Int) ((mask3 a' b' d' : Nat) : Int) = 0 := by rw [and_nat _ _ (by omega) (by omega)]; omega
              refine Ev.step (f := fun k => impl_parallel.l1 k (v : Int) L (h : Int) (a' : Int) n L L.length ((i + 1 : Nat) : Int)) (fun k => prl1_m d1 hL d2 (by omega) (by omega) (by omega) em e3) ((ihT (i + 1) n d3).cast ?_)
              simp only [parL, Int.toNat_natCast]
              rw [if_neg (fun h => cf h.2)]
          · have ca' : ¬ (a' : Int) = (p : Int) := by omega
            exact Ev.step (f := fun k => impl_parallel.l1 k (v : Int) L (h : Int) (p : Int) n L L.length ((i + 1 : Nat) : Int)) (fun k => prl1_a d1 hL d2 (by omega) (by omega) (by omega) ca') ((ihT (i + 1) n d3).cast (by simp [parL, ca']))
      have l0 : ∀ (f s : Nat), s + f = p → Ev (fun k => impl_parallel.l0 k (v : Int) L (h : Int) (s : Int)) (parL (parN v L N) p h L 0) := by
        intro f
        induction f with
        | zero =>
          intro s hs
          have hs' : s = p := by omega
          subst hs'
          refine Ev.step (fun k => ?_) (l1 L 0 0 rfl)
          simp (config := { maxSteps := 1000000 }) (disch := omega) only [if_true, if_false, Bool.false_eq_true, impl_parallel.l0, if_pos, bit_at h s (by omega) (by omega), hpb, Bool.false_eq_true]
          simp
        | succ f ihf =>
          intro s hs
          refine Ev.step (f := fun k => impl_parallel.l0 k (v : Int) L (h : Int) ((s + 1 : Nat) : Int)) (fun k => ?_) (ihf (s + 1) (by omega))
          simp (config := { maxSteps := 1000000 }) (disch := omega) only [if_true, if_false, Bool.false_eq_true, impl_parallel.l0, if_pos, bit_at h s (by omega) (by omega), z3 s (by omega) (by omega), w64s]
      refine Ev.step (f := fun k => impl_parallel.l0 k (v : Int) L (h : Int) ((0 : Nat) : Int)) (fun k => ?_) ((l0 p 0 (by omega)).cast ?_)
      · simp (config := { maxSteps := 1000000 }) (disch := omega) only [if_true, if_false, Bool.false_eq_true, impl_parallel.f, if_pos, shl_nat v hv, e0, c']
        rfl
      · unfold parN
        rw [if_neg c, ← hpe]
theorem sysLoop_ok' (v : Int) (fin : Bool) : ∀ (T : List (List Int)) (S : List Bool), sysLoop v fin T S = true → ∀ t ∈ T, okS v t = true
  | [], S, h, t, ht => by simp at ht
  | u :: T, S, h, t, ht => by
    unfold sysLoop at h
    simp only [Bool.and_eq_true] at h
    rcases List.mem_cons.1 ht with rfl | ht
    · exact h.1
    · cases e : seeB (pairsS v u) S with
      | none => rw [e] at h; simp at h
      | some S' => rw [e] at h; exact sysLoop_ok' v fin T S' h.2 t ht
theorem sCountParallel_l0 (n : Nat) (hn : n ≤ 15) (L : List (List Int)) (r : Int) (hr : Ev (fun k => spec_trParallel.f k L (List.replicate n true)) r) : ∀ (f i : Nat) (M : List Bool), i + f = n → M.length = n → M.take i = List.replicate i true → Ev (fun k => spec_CountParallel.l0 k L M (n : Int) (i : Int)) (r, true)
  | 0, i, M, hi, hM, ht => by
    have e : M = List.replicate n true := by
      rw [show i = n by omega] at ht
      rw [← ht, List.take_of_length_le (by omega)]
    subst e
    refine Ev.step (f := fun k => (spec_trParallel.f k L (List.replicate n true)).bind fun t189 => (some (t189, true))) (fun k => ?_) (Ev.bind hr (Ev.now _))
    simp (disch := omega) only [if_true, if_false, Bool.false_eq_true, spec_CountParallel.l0, if_neg]
  | f + 1, i, M, hi, hM, ht => by
    refine Ev.step (f := fun k => spec_CountParallel.l0 k L (M.set i true) (n : Int) ((i + 1 : Nat) : Int)) (fun k => ?_) (sCountParallel_l0 n hn L r hr f (i + 1) (M.set i true) (by omega) (by simpa using hM) ?_)
    · simp (disch := omega) only [if_true, if_false, Bool.false_eq_true, spec_CountParallel.l0, if_pos, w64s, toNat_cast]
    · rw [List.take_add_one, List.take_set_of_le (by omega), ht, List.getElem?_set_self (by omega), List.replicate_succ']
      rfl
def parM (v : Int) (L : List (List Int)) : Int × Bool := if (3 ≤ v ∧ v ≤ 15) ∧ Int.tmod v 3 = 0 ∧ L.length ≤ 300 ∧ sysB v L = true then (parN v.toNat L (2 ^ v.toNat) 0, true) else (0, false)
theorem countParallel_both (v : Int) (L : List (List Int)) (hL : L.length ≤ 1048576) (hm : ∀ x ∈ L, x.length ≤ 1048576) : ∃ r, Ev (fun k => spec_CountParallel.f k v L) r ∧ Ev (fun k => impl_CountParallel.f k v L) r := by
  refine ⟨parM v L, ?_, ?_⟩
  · by_cases c1 : 3 ≤ v ∧ v ≤ 15
    · obtain ⟨c1, c2⟩ := c1
      obtain ⟨n, rfl⟩ : ∃ n : Nat, v = (n : Int) := ⟨v.toNat, by omega⟩
      by_cases c3 : Int.tmod (n : Int) 3 = 0
      · by_cases c4 : L.length ≤ 300
        · have c4' : ¬ (L.length : Int) > 300 := by omega
          obtain ⟨K1, k1⟩ := trSystem_ev (n : Int) L hL hm (by omega) (by omega)
          cases cs : sysB (n : Int) L with
          | false =>
            rw [cs] at k1
            refine ⟨K1 + 1, fun k hk => ?_⟩
            obtain ⟨k, rfl⟩ : ∃ m, k = m + 1 := ⟨k - 1, by omega⟩
            have a1 := k1 (k + 1) (by omega)
            simp only [] at a1
            simp (disch := omega) only [if_true, if_false, Bool.false_eq_true, spec_CountParallel.f, spec_CountParallel.j0, spec_l1In.f, if_pos, if_neg, Option.bind_some, decide_eq_true_eq, c3, a1, Bool.not_false, parM, cs, Bool.false_eq_true, and_false]
          | true =>
            rw [cs] at k1
            have hok : ∀ t ∈ L, okS (n : Int) t = true := by
              have cs' := cs
              simp only [sysB, Bool.and_eq_true] at cs'
              exact sysLoop_ok' _ _ _ _ cs'.2
            have hp : (0 : Nat) < 2 ^ n := Nat.two_pow_pos n
            have hr := trParallel_ev n (by omega) L hL hok (2 ^ n) 0 (List.replicate n true) ⟨by simp, fun p hp => by simp [List.getD_eq_getElem?_getD, List.getElem?_replicate, hp]⟩ hp (by omega)
            obtain ⟨K2, k2⟩ := sCountParallel_l0 n (by omega) L _ hr n 0 (List.replicate n false) (by omega) (by simp) rfl
            refine ⟨K1 + K2 + 1, fun k hk => ?_⟩
            obtain ⟨k, rfl⟩ : ∃ m, k = m + 1 := ⟨k - 1, by omega⟩
            have a1 := k1 (k + 1) (by omega)
            have a2 := k2 k (by omega)
            simp only [Int.natCast_zero] at a1 a2
            have er : ((List.replicate n false).length : Int) = (n : Int) := by simp
            simp (disch := omega) only [if_true, if_false, Bool.false_eq_true, spec_CountParallel.f, spec_CountParallel.j0, spec_l1In.f, if_pos, if_neg, Option.bind_some, decide_eq_true_eq, c3, a1, Bool.not_true, Bool.false_eq_true, toNat_cast, er, a2, parM, cs, c1, c2, c4, and_self]
        · have c4' : (L.length : Int) > 300 := by omega
          refine Ev.of1 (fun k => ?_)
          simp (disch := omega) only [if_true, if_false, Bool.false_eq_true, spec_CountParallel.f, spec_CountParallel.j0, spec_l1In.f, if_pos, Option.bind_some, decide_eq_true_eq, c3, parM, c4, false_and, and_false]
      · refine Ev.of1 (fun k => ?_)
        simp (disch := omega) only [if_true, if_false, Bool.false_eq_true, spec_CountParallel.f, spec_CountParallel.j0, spec_l1In.f, if_pos, Option.bind_some, decide_eq_true_eq, c3, parM, false_and, and_false]
    · have e : parM v L = (0, false) := by unfold parM; rw [if_neg (fun h => c1 h.1)]
      rw [e]
      refine Ev.of1 (fun k => ?_)
      by_cases d1 : 3 ≤ v
      · have d2 : ¬ v ≤ 15 := fun h => c1 ⟨d1, h⟩
        simp [spec_CountParallel.f, spec_CountParallel.j0, spec_l1In.f, d1, d2]
      · simp [spec_CountParallel.f, spec_CountParallel.j0, spec_l1In.f, d1]
  · by_cases c3 : Int.tmod v 3 = 0
    · by_cases c2 : v > 15
      · have e : parM v L = (0, false) := by unfold parM; rw [if_neg (fun h => by omega)]
        refine Ev.of1 (fun k => ?_)
        simp only [impl_CountParallel.f, c3, if_true, c2, e]
      · obtain ⟨K1, k1⟩ := isSystem_ev v L hL hm
        by_cases c : 3 ≤ v ∧ L.length ≤ 300 ∧ sysB v L = true
        · obtain ⟨c1, c4, cs⟩ := c
          obtain ⟨n, rfl⟩ : ∃ n : Nat, v = (n : Int) := ⟨v.toNat, by omega⟩
          have hok : ∀ t ∈ L, okS (n : Int) t = true := by
            have cs' := cs
            simp only [sysB, Bool.and_eq_true] at cs'
            exact sysLoop_ok' _ _ _ _ cs'.2
          have hp : (0 : Nat) < 2 ^ n := Nat.two_pow_pos n
          obtain ⟨K2, k2⟩ := parallel_ev n (by omega) L hL hok (2 ^ n) 0 hp (by omega)
          have d : decide (3 ≤ (n : Int) ∧ (n : Int) ≤ 40 ∧ L.length ≤ 300) = true := decide_eq_true (by omega)
          rw [d, cs] at k1
          refine ⟨K1 + K2, fun k hk => ?_⟩
          have a1 := k1 k (by omega)
          have a2 := k2 k (by omega)
          simp only [Int.natCast_zero, Bool.and_self] at a1 a2
          have e : parM (n : Int) L = (parN n L (2 ^ n) 0, true) := by unfold parM; rw [if_pos ⟨⟨c1, by omega⟩, c3, c4, cs⟩]; rfl
          simp only [impl_CountParallel.f, c3, if_true, c2, if_false, a1, a2, Option.bind_some, e]
        · have e : parM v L = (0, false) := by unfold parM; rw [if_neg (fun h => c ⟨h.1.1, h.2.2.1, h.2.2.2⟩)]
          have d : (decide (3 ≤ v ∧ v ≤ 40 ∧ L.length ≤ 300) && sysB v L) = false := by
            by_cases d1 : 3 ≤ v ∧ v ≤ 40 ∧ L.length ≤ 300
            · have : sysB v L = false := by
                cases h : sysB v L with
                | false => rfl
                | true => exact absurd ⟨d1.1, d1.2.2, h⟩ c
              simp [this]
            · simp [d1]
          rw [d] at k1
          refine ⟨K1, fun k hk => ?_⟩
          have a1 := k1 k hk
          simp only [] at a1
          simp only [impl_CountParallel.f, c3, if_true, c2, if_false, a1, Option.bind_some, e, Bool.false_eq_true]
    · have e : parM v L = (0, false) := by unfold parM; rw [if_neg (fun h => c3 h.2.1)]
      refine Ev.of1 (fun k => ?_)
      simp only [impl_CountParallel.f, c3, if_false, e]
theorem FnExactCountParallel : laws_FnExactCountParallel.Pure := by
  intro v L hv hb hm hw
  obtain ⟨r0, hz, hz2⟩ := szIntSS_ev L hb hm
  obtain ⟨K0, h0⟩ := hz
  by_cases c : r0 < 0
  · refine ⟨K0, ?_⟩
    have a0 := h0 K0 (Nat.le_refl _)
    simp only [] at a0
    simp only [laws_FnExactCountParallel.f, a0, Option.bind_some, c, if_true]
  · obtain ⟨hL, htot⟩ := hz2 c
    have hmm : ∀ x ∈ L, x.length ≤ 1048576 := fun x hx => by
      have := totL_mem L x hx
      omega
    obtain ⟨r, hS, hI⟩ : ∃ (r : Int × Bool), Ev (fun k => spec_CountParallel.f k v L) r ∧ Ev (fun k => impl_CountParallel.f k v L) r := by
      exact countParallel_both v L hL hmm
    obtain ⟨K1, h1⟩ := toIntSS_ev L hL hmm
    obtain ⟨K2, h2⟩ := hS
    obtain ⟨K3, h3⟩ := hI
    obtain ⟨K4, h4⟩ := eqIntSS_same L hL hmm
    obtain ⟨K, hK⟩ : ∃ K, K = K0 + K1 + K2 + K3 + K4 := ⟨_, rfl⟩
    have a0 := h0 (K + 1) (by omega)
    have a1 := h1 (K + 1) (by omega)
    have a1' := h1 K (by omega)
    have a2 := h2 (K + 1) (by omega)
    have a3 := h3 (K + 1) (by omega)
    have a4 := h4 K (by omega)
    simp only [] at a0 a1 a1' a2 a3 a4
    refine ⟨K + 1, ?_⟩
    simp only [laws_FnExactCountParallel.f, laws_FnExactCountParallel.j0, c, a0, a1, a1', a2, a3, a4, Option.bind_some, bne_self_eq_false, Bool.false_eq_true, if_false, if_true]
end Go.Proofs.Yteeniaklmgcahaa.Pure
