/- The law FnExactAreSplits holds for every input: what the program's function computes is what the reference's computes. Conditions: none but the statement's own. -/
import Derived.Test.YteeniaklmgcahaaPFnExactAreSplitsx7
import Derived.Test.YteeniaklmgcahaaAid
namespace Go.Proofs.Yteeniaklmgcahaa.Pure
open Go.RowKit Go.Proofs.Yteeniaklmgcahaa.PFnExactAreSplits Go.Proofs.YteeniaklmgcahaaW.PrintWords Go.Proofs.YteeniaklmgcahaaW.PrintLast Go.Proofs.Yteeniaklmgcahaa.Aid
set_option linter.unusedVariables false
set_option linter.unusedSimpArgs false
theorem dropConsL {xs : List (List Int)} {i : Nat} {x : List Int} {t : List (List Int)} (h : xs.drop i = x :: t) : i < xs.length ∧ rd_L1 xs (i : Int) = x ∧ xs.drop (i + 1) = t :=
  ⟨dropLt h, by simp [rd_L1, List.getD_eq_getElem?_getD, dropGet h], dropSucc h⟩
theorem memDrop {α : Type} {xs : List α} {i : Nat} {x : α} {t : List α} (h : xs.drop i = x :: t) : x ∈ xs := by
  rw [← List.take_append_drop i xs, h]
  simp
def szL (m : Int) : List (List Int) → Int
  | [] => m
  | x :: t => if m - (x.length : Int) < 0 then -1 else szL (m - (x.length : Int)) t
def totL : List (List Int) → Nat
  | [] => 0
  | x :: t => x.length + totL t
theorem szL_tot : ∀ (t : List (List Int)) (m : Int), 0 ≤ szL m t → (totL t : Int) ≤ m
  | [], m, h => by simpa [szL, totL] using h
  | x :: t, m, h => by
    unfold szL at h
    by_cases c : m - (x.length : Int) < 0
    · rw [if_pos c] at h
      omega
    · rw [if_neg c] at h
      have := szL_tot t _ h
      unfold totL
      omega
theorem totL_mem : ∀ (t : List (List Int)) (x : List Int), x ∈ t → x.length ≤ totL t
  | [], x, h => by simp at h
  | y :: t, x, h => by
    unfold totL
    rcases List.mem_cons.1 h with rfl | h
    · omega
    · have := totL_mem t x h
      omega
theorem szIntSS_l0 (xs : List (List Int)) (hx : xs.length ≤ 1048576) (hm : ∀ x ∈ xs, x.length ≤ maxLen) : ∀ (t : List (List Int)) (i : Nat) (m : Int), xs.drop i = t → 0 ≤ m → m ≤ 1048576 → Ev (fun k => laws_szIntSS.l0 k xs m (i : Int)) (szL m t)
  | [], i, m, h, h0, hb => by
    have h1 := dropNil h
    refine Ev.of1 (fun k => ?_)
    simp (disch := omega) only [if_true, if_false, Bool.false_eq_true, laws_szIntSS.l0, if_neg, szL]
  | x :: t, i, m, h, h0, hb => by
    obtain ⟨h1, h2, h3⟩ := dropConsL h
    have hl := hm x (memDrop h)
    unfold maxLen at hl
    have e1 : wrap64 (m - (x.length : Int)) = m - (x.length : Int) := w64 (by omega) (by omega)
    by_cases c : m - (x.length : Int) < 0
    · refine Ev.of1 (fun k => ?_)
      simp (disch := omega) only [if_true, if_false, Bool.false_eq_true, laws_szIntSS.l0, laws_szIntS.f, if_pos, h2, e1, Option.bind_some, szL]
    · refine Ev.step (f := fun k => laws_szIntSS.l0 k xs (m - (x.length : Int)) ((i + 1 : Nat) : Int)) (fun k => ?_) ((szIntSS_l0 xs hx hm t (i + 1) _ h3 (by omega) (by omega)).cast (by simp only [szL, c, if_false]))
      simp (disch := omega) only [if_true, if_false, Bool.false_eq_true, laws_szIntSS.l0, laws_szIntS.f, if_pos, if_neg, h2, e1, Option.bind_some, w64s]
theorem szIntSS_ev (xs : List (List Int)) (hb : xs.length * 24 ≤ 140737488351232) (hm : ∀ x ∈ xs, x.length ≤ maxLen) : ∃ r : Int, Ev (fun k => laws_szIntSS.f k xs 1048576) r ∧ (¬ r < 0 → xs.length ≤ 1048576 ∧ (totL xs : Int) + xs.length ≤ 1048576) := by
  have e1 : wrap64 (1048576 - (xs.length : Int)) = 1048576 - (xs.length : Int) := w64 (by omega) (by omega)
  by_cases c : 1048576 - (xs.length : Int) < 0
  · refine ⟨-1, Ev.all (fun k => ?_), fun h => by omega⟩
    simp (disch := omega) only [if_true, if_false, Bool.false_eq_true, laws_szIntSS.f, e1, if_pos]
  · refine ⟨szL (1048576 - (xs.length : Int)) xs, Ev.congr (fun k => ?_) (szIntSS_l0 xs (by omega) hm xs 0 _ rfl (by omega) (by omega)), fun h => ⟨by omega, ?_⟩⟩
    · simp (disch := omega) only [if_true, if_false, Bool.false_eq_true, laws_szIntSS.f, e1, if_neg]
      rfl
    · have := szL_tot xs (1048576 - (xs.length : Int)) (by omega)
      omega
theorem toIntS_l0 (xs : List Int) (hx : xs.length ≤ 1048576) : ∀ (t : List Int) (i : Nat) (ys : List Int), xs.drop i = t → i ≤ xs.length → ys.length = xs.length → ys.take i = xs.take i → Ev (fun k => laws_toIntS.l0 k xs ys (i : Int)) xs
  | [], i, ys, h, hi, hl, he => by
    have h1 := dropNil h
    obtain rfl : ys = xs := by
      have : i = xs.length := by omega
      subst this
      rw [List.take_of_length_le (by omega), List.take_of_length_le (by omega)] at he
      exact he
    refine Ev.of1 (fun k => ?_)
    simp (disch := omega) only [if_true, if_false, Bool.false_eq_true, laws_toIntS.l0, if_neg]
  | x :: t, i, ys, h, hi, hl, he => by
    obtain ⟨h1, h2, h3⟩ := dropCons h
    refine Ev.step (f := fun k => laws_toIntS.l0 k xs (ys.set i x) ((i + 1 : Nat) : Int)) (fun k => ?_) (toIntS_l0 xs hx t (i + 1) _ h3 (by omega) (by simpa using hl) ?_)
    · simp (disch := omega) only [if_true, if_false, Bool.false_eq_true, laws_toIntS.l0, if_pos, w64s, h2, toNat_cast]
    · rw [take_succ_at h, List.take_add_one, List.take_set_of_le (by omega), he]
      simp [hl, h1]
theorem toIntS_ev (xs : List Int) (hx : xs.length ≤ 1048576) : Ev (fun k => laws_toIntS.f k xs) xs := by
  refine Ev.congr (fun k => ?_) (toIntS_l0 xs hx xs 0 (List.replicate xs.length 0) rfl (by omega) (by simp) rfl)
  unfold laws_toIntS.f
  rw [if_pos (by omega), if_pos (by omega)]
  rfl
theorem toIntSS_l0 (xs : List (List Int)) (hx : xs.length ≤ 1048576) (hm : ∀ x ∈ xs, x.length ≤ 1048576) : ∀ (t : List (List Int)) (i : Nat) (ys : List (List Int)), xs.drop i = t → i ≤ xs.length → ys.length = xs.length → ys.take i = xs.take i → Ev (fun k => laws_toIntSS.l0 k xs ys (i : Int)) xs
  | [], i, ys, h, hi, hl, he => by
    have h1 := dropNil h
    obtain rfl : ys = xs := by
      have : i = xs.length := by omega
      subst this
      rw [List.take_of_length_le (by omega), List.take_of_length_le (by omega)] at he
      exact he
    refine Ev.of1 (fun k => ?_)
    simp (disch := omega) only [if_true, if_false, Bool.false_eq_true, laws_toIntSS.l0, if_neg]
  | x :: t, i, ys, h, hi, hl, he => by
    obtain ⟨h1, h2, h3⟩ := dropConsL h
    refine Ev.step (f := fun k => (laws_toIntS.f k x).bind fun t112 => laws_toIntSS.l0 k xs (ys.set i t112) ((i + 1 : Nat) : Int)) (fun k => ?_) (Ev.bind (toIntS_ev x (hm x (memDrop h))) (toIntSS_l0 xs hx hm t (i + 1) _ h3 (by omega) (by simpa using hl) ?_))
    · simp (disch := omega) only [if_true, if_false, Bool.false_eq_true, laws_toIntSS.l0, if_pos, w64s, h2, toNat_cast]
    · rw [take_succ_at h, List.take_add_one, List.take_set_of_le (by omega), he]
      simp [hl, h1]
theorem toIntSS_ev (xs : List (List Int)) (hx : xs.length ≤ 1048576) (hm : ∀ x ∈ xs, x.length ≤ 1048576) : Ev (fun k => laws_toIntSS.f k xs) xs := by
  refine Ev.congr (fun k => ?_) (toIntSS_l0 xs hx hm xs 0 (List.replicate xs.length []) rfl (by omega) (by simp) rfl)
  unfold laws_toIntSS.f
  rw [if_pos (by omega), if_pos (by omega)]
  rfl
theorem eqIntS_l0 (xs ys : List Int) (hx : xs.length ≤ 1048576) (hl : xs.length = ys.length) : ∀ (s t : List Int) (i : Nat), xs.drop i = s → ys.drop i = t → Ev (fun k => laws_eqIntS.l0 k xs ys (i : Int)) (decide (s = t))
  | [], t, i, h, h' => by
    have h1 := dropNil h
    have h2 : t = [] := by rw [← h']; simp; omega
    subst h2
    refine Ev.of1 (fun k => ?_)
    simp (disch := omega) only [if_true, if_false, Bool.false_eq_true, laws_eqIntS.l0, if_neg]
    simp
  | x :: s, [], i, h, h' => by
    have h1 := dropLt h
    have h2 := dropNil h'
    omega
  | x :: s, y :: t, i, h, h' => by
    obtain ⟨h1, h2, h3⟩ := dropCons h
    obtain ⟨h1', h2', h3'⟩ := dropCons h'
    by_cases c : x = y
    · refine Ev.step (f := fun k => laws_eqIntS.l0 k xs ys ((i + 1 : Nat) : Int)) (fun k => ?_) ((eqIntS_l0 xs ys hx hl s t (i + 1) h3 h3').cast (by simp [c]))
      simp (disch := omega) only [if_true, if_false, Bool.false_eq_true, laws_eqIntS.l0, if_pos, w64s, h2, h2']
    · refine Ev.of1 (fun k => ?_)
      simp (disch := omega) only [if_true, if_false, Bool.false_eq_true, laws_eqIntS.l0, if_pos, if_neg, h2, h2']
      simp [c]
theorem eqIntS_ev (xs ys : List Int) (hx : xs.length ≤ 1048576) : Ev (fun k => laws_eqIntS.f k xs ys) (decide (xs = ys)) := by
  by_cases c : xs.length = ys.length
  · refine Ev.congr (fun k => ?_) (eqIntS_l0 xs ys hx c xs ys 0 rfl rfl)
    unfold laws_eqIntS.f
    rw [if_pos (by omega)]
    rfl
  · refine Ev.all (fun k => ?_)
    unfold laws_eqIntS.f
    rw [if_neg (by omega)]
    have : xs ≠ ys := fun e => c (by rw [e])
    simp [this]
theorem eqIntS_same (xs : List Int) (hx : xs.length ≤ 1048576) : Ev (fun k => laws_eqIntS.f k xs xs) true := (eqIntS_ev xs xs hx).cast (by simp)
theorem eqIntSS_l0 (xs ys : List (List Int)) (hx : xs.length ≤ 1048576) (hm : ∀ x ∈ xs, x.length ≤ 1048576) (hl : xs.length = ys.length) : ∀ (s t : List (List Int)) (i : Nat), xs.drop i = s → ys.drop i = t → Ev (fun k => laws_eqIntSS.l0 k xs ys (i : Int)) (decide (s = t))
  | [], t, i, h, h' => by
    have h1 := dropNil h
    have h2 : t = [] := by rw [← h']; simp; omega
    subst h2
    refine Ev.of1 (fun k => ?_)
    simp (disch := omega) only [if_true, if_false, Bool.false_eq_true, laws_eqIntSS.l0, if_neg]
    simp
  | x :: s, [], i, h, h' => by
    have h1 := dropLt h
    have h2 := dropNil h'
    omega
  | x :: s, y :: t, i, h, h' => by
    obtain ⟨h1, h2, h3⟩ := dropConsL h
    obtain ⟨h1', h2', h3'⟩ := dropConsL h'
    refine Ev.step (f := fun k => (laws_eqIntS.f k x y).bind fun t120 => (if t120 = true then (laws_eqIntSS.l0 k xs ys ((i + 1 : Nat) : Int)) else (some false))) (fun k => ?_) (Ev.bind (eqIntS_ev x y (hm x (memDrop h))) ?_)
    · simp (disch := omega) only [if_true, if_false, Bool.false_eq_true, laws_eqIntSS.l0, if_pos, w64s, h2, h2']
    · by_cases c : x = y
      · simp only [c, decide_true, if_true]
        exact (eqIntSS_l0 xs ys hx hm hl s t (i + 1) h3 h3').cast (by simp)
      · simp only [c, decide_false, Bool.false_eq_true, if_false]
        exact (Ev.now _).cast (by simp [c])
theorem eqIntSS_ev (xs ys : List (List Int)) (hx : xs.length ≤ 1048576) (hm : ∀ x ∈ xs, x.length ≤ 1048576) : Ev (fun k => laws_eqIntSS.f k xs ys) (decide (xs = ys)) := by
  by_cases c : xs.length = ys.length
  · refine Ev.congr (fun k => ?_) (eqIntSS_l0 xs ys hx hm c xs ys 0 rfl rfl)
    unfold laws_eqIntSS.f
    rw [if_pos (by omega)]
    rfl
  · refine Ev.all (fun k => ?_)
    unfold laws_eqIntSS.f
    rw [if_neg (by omega)]
    have : xs ≠ ys := fun e => c (by rw [e])
    simp [this]
theorem eqIntSS_same (xs : List (List Int)) (hx : xs.length ≤ 1048576) (hm : ∀ x ∈ xs, x.length ≤ 1048576) : Ev (fun k => laws_eqIntSS.f k xs xs) true := (eqIntSS_ev xs xs hx hm).cast (by simp)
def lexB : List Int → List Int → Bool
  | x :: a, y :: b => if x = y then lexB a b else decide (x < y)
  | _, _ => false
theorem trLess_l0 (xs ys : List Int) (hx : xs.length ≤ 1048576) (hl : xs.length = ys.length) : ∀ (s t : List Int) (i : Nat), xs.drop i = s → ys.drop i = t → Ev (fun k => spec_trLess.l0 k xs ys xs.length (i : Int)) (lexB s t)
  | [], t, i, h, h' => by
    have h1 := dropNil h
    refine Ev.of1 (fun k => ?_)
    simp (disch := omega) only [if_true, if_false, Bool.false_eq_true, spec_trLess.l0, if_neg, lexB]
  | x :: s, [], i, h, h' => by
    have h1 := dropLt h
    have h2 := dropNil h'
    omega
  | x :: s, y :: t, i, h, h' => by
    obtain ⟨h1, h2, h3⟩ := dropCons h
    obtain ⟨h1', h2', h3'⟩ := dropCons h'
    by_cases c : x = y
    · refine Ev.step (f := fun k => spec_trLess.l0 k xs ys xs.length ((i + 1 : Nat) : Int)) (fun k => ?_) ((trLess_l0 xs ys hx hl s t (i + 1) h3 h3').cast (by simp [lexB, c]))
      simp (disch := omega) only [if_true, if_false, Bool.false_eq_true, spec_trLess.l0, if_pos, w64s, h2, h2']
    · refine Ev.of1 (fun k => ?_)
      simp (disch := omega) only [if_true, if_false, Bool.false_eq_true, spec_trLess.l0, if_pos, if_neg, h2, h2']
      simp [lexB, c]
theorem trLess_ev (xs ys : List Int) (hx : xs.length ≤ 1048576) (hl : xs.length = ys.length) : Ev (fun k => spec_trLess.f k xs ys) (lexB xs ys) :=
  Ev.congr (fun k => rfl) (trLess_l0 xs ys hx hl xs ys 0 rfl rfl)
theorem l1All_l0 (lo hi : Int) (xs : List Int) (hx : xs.length ≤ 1048576) : ∀ (t : List Int) (i : Nat), xs.drop i = t → Ev (fun k => spec_l1All.l0 k lo hi xs xs.length (i : Int)) (t.all fun n => decide (lo ≤ n ∧ n ≤ hi))
  | [], i, h => by
    have h1 := dropNil h
    refine Ev.of1 (fun k => ?_)
    simp (disch := omega) only [if_true, if_false, Bool.false_eq_true, spec_l1All.l0, if_neg]
    rfl
  | x :: t, i, h => by
    obtain ⟨h1, h2, h3⟩ := dropCons h
    by_cases c : lo ≤ x ∧ x ≤ hi
    · refine Ev.step (f := fun k => spec_l1All.l0 k lo hi xs xs.length ((i + 1 : Nat) : Int)) (fun k => ?_) ((l1All_l0 lo hi xs hx t (i + 1) h3).cast (by simp [c]))
      simp (disch := omega) only [if_true, if_false, Bool.false_eq_true, spec_l1All.l0, spec_l1In.f, if_pos, w64s, h2, Option.bind_some, decide_eq_true_eq]
    · refine Ev.of1 (fun k => ?_)
      simp (disch := omega) only [if_true, if_false, Bool.false_eq_true, spec_l1All.l0, spec_l1In.f, if_pos, h2]
      by_cases c1 : lo ≤ x
      · have c2 : ¬ x ≤ hi := fun h' => c ⟨c1, h'⟩
        simp [c1, c2]
      · simp [c1]
theorem l1All_ev (xs : List Int) (lo hi : Int) (hx : xs.length ≤ 1048576) : Ev (fun k => spec_l1All.f k xs lo hi) (xs.all fun n => decide (lo ≤ n ∧ n ≤ hi)) :=
  Ev.congr (fun k => rfl) (l1All_l0 lo hi xs hx xs 0 rfl)
def triB : List Int → Bool
  | [a, b, c] => decide (((1 ≤ a ∧ a ≤ 1000) ∧ (1 ≤ b ∧ b ≤ 1000) ∧ (1 ≤ c ∧ c ≤ 1000)) ∧ a < b ∧ a + b = c)
  | _ => false
theorem l1All3' (lo hi a b c : Int) : ([a, b, c].all fun n => decide (lo ≤ n ∧ n ≤ hi)) = decide ((lo ≤ a ∧ a ≤ hi) ∧ (lo ≤ b ∧ b ≤ hi) ∧ (lo ≤ c ∧ c ≤ hi)) := by
  simp [Bool.and_assoc, and_assoc]
theorem triB_form {t : List Int} (h : triB t = true) : ∃ a b c, t = [a, b, c] ∧ 1 ≤ a ∧ a < b ∧ a + b = c ∧ c ≤ 1000 := by
  unfold triB at h
  split at h
  · rename_i a b c
    have h' := of_decide_eq_true h
    exact ⟨a, b, c, rfl, by omega⟩
  · cases h
theorem trTriple_ev (t : List Int) (hm : t.length ≤ 1048576) : Ev (fun k => spec_trTriple.f k t) (triB t) := by
  by_cases c3 : t.length = 3
  · obtain ⟨a, b, c, rfl⟩ : ∃ a b c, t = [a, b, c] := by
      match t, c3 with
      | [a, b, c], _ => exact ⟨a, b, c, rfl⟩
    have f0 : rd [a, b, c] 0 = a := rfl
    have f1 : rd [a, b, c] 1 = b := rfl
    have f2 : rd [a, b, c] 2 = c := rfl
    have f3 : (([a, b, c] : List Int).length : Int) = 3 := rfl
    obtain ⟨K, hA⟩ := l1All_ev [a, b, c] 1 1000 hm
    rw [l1All3'] at hA
    refine ⟨K, fun k hk => ?_⟩
    have a1 := hA k hk
    by_cases cA : (1 ≤ a ∧ a ≤ 1000) ∧ (1 ≤ b ∧ b ≤ 1000) ∧ (1 ≤ c ∧ c ≤ 1000)
    · have e1 : wrap64 (a + b) = a + b := w64 (by omega) (by omega)
      simp only [cA, and_self, decide_true] at a1
      by_cases c1 : a < b
      · have c2 : (a + b == c) = decide (a + b = c) := rfl
        simp (disch := omega) only [if_true, if_false, Bool.false_eq_true, spec_trTriple.f, f0, f1, f2, f3, a1, Option.bind_some, if_pos, e1, c1, triB, cA, c2, and_self, true_and]
      · simp (disch := omega) only [if_true, if_false, Bool.false_eq_true, spec_trTriple.f, f0, f1, f3, a1, Option.bind_some, if_pos, c1, triB, false_and, and_false, decide_false]
    · simp only [cA, decide_false] at a1
      simp (disch := omega) only [if_true, if_false, Bool.false_eq_true, spec_trTriple.f, f3, a1, Option.bind_some, if_pos, triB, cA, Bool.false_eq_true, false_and, decide_false]
  · have cok : triB t = false := by
      cases h : triB t with
      | false => rfl
      | true => obtain ⟨a, b, c, rfl, _⟩ := triB_form h; exact absurd rfl c3
    refine Ev.all (fun k => ?_)
    simp (disch := omega) only [if_true, if_false, Bool.false_eq_true, spec_trTriple.f, if_neg, cok]
def cmpL : List Int → List Int → Int
  | [], [] => 0
  | [], _ :: _ => -1
  | _ :: _, [] => 1
  | x :: a, y :: b => if x < y then -1 else if y < x then 1 else cmpL a b
theorem cmpInt_at (x y : Int) : cmp_Compare_int.f x y = some (if x < y then -1 else if y < x then 1 else 0) := by
  unfold cmp_Compare_int.f cmp_isNaN_int.f
  by_cases c : x < y <;> by_cases c' : y < x <;> simp [c, c']
theorem Compare_l0 (xs ys : List Int) (hx : xs.length ≤ 1048576) : ∀ (s t : List Int) (i : Nat), xs.drop i = s → ys.drop i = t → i ≤ ys.length → i ≤ xs.length → Ev (fun k => slices_Compare_int_int.l0 k xs ys xs xs.length (i : Int)) (cmpL s t)
  | [], [], i, h, h', hi, hj => by
    have h1 := dropNil h
    have h2 := dropNil h'
    refine Ev.of1 (fun k => ?_)
    simp (disch := omega) only [if_true, if_false, Bool.false_eq_true, slices_Compare_int_int.l0, if_neg, cmpL]
  | [], y :: t, i, h, h', hi, hj => by
    have h1 := dropNil h
    have h2 := dropLt h'
    refine Ev.of1 (fun k => ?_)
    simp (disch := omega) only [if_true, if_false, Bool.false_eq_true, slices_Compare_int_int.l0, if_neg, if_pos, cmpL]
  | x :: s, [], i, h, h', hi, hj => by
    obtain ⟨h1, h2, h3⟩ := dropCons h
    have h4 := dropNil h'
    refine Ev.of1 (fun k => ?_)
    simp (disch := omega) only [if_true, if_false, Bool.false_eq_true, slices_Compare_int_int.l0, if_pos, cmpL]
  | x :: s, y :: t, i, h, h', hi, hj => by
    obtain ⟨h1, h2, h3⟩ := dropCons h
    obtain ⟨h1', h2', h3'⟩ := dropCons h'
    by_cases c : x < y
    · refine Ev.of1 (fun k => ?_)
      simp (disch := omega) only [if_true, if_false, Bool.false_eq_true, slices_Compare_int_int.l0, if_pos, if_neg, h2, h2', cmpInt_at, Option.bind_some, cmpL]
    · by_cases c' : y < x
      · refine Ev.of1 (fun k => ?_)
        simp (disch := omega) only [if_true, if_false, Bool.false_eq_true, slices_Compare_int_int.l0, if_pos, if_neg, h2, h2', cmpInt_at, Option.bind_some, cmpL]
      · refine Ev.step (f := fun k => slices_Compare_int_int.l0 k xs ys xs xs.length ((i + 1 : Nat) : Int)) (fun k => ?_) ((Compare_l0 xs ys hx s t (i + 1) h3 h3' (by omega) (by omega)).cast (by simp [cmpL, c, c']))
        simp (disch := omega) only [if_true, if_false, Bool.false_eq_true, slices_Compare_int_int.l0, if_pos, if_neg, h2, h2', cmpInt_at, Option.bind_some, w64s]
theorem Compare_ev (xs ys : List Int) (hx : xs.length ≤ 1048576) : Ev (fun k => slices_Compare_int_int.f k xs ys) (cmpL xs ys) :=
  Ev.congr (fun k => rfl) (Compare_l0 xs ys hx xs ys 0 rfl rfl (by omega) (by omega))
def ordFrom (p : List Int) : List (List Int) → Bool
  | [] => true
  | x :: t => decide (cmpL p x < 0) && ordFrom x t
def ordB : List (List Int) → Bool
  | [] => true
  | x :: t => ordFrom x t
theorem inOrder_l0 (xs : List (List Int)) (hx : xs.length ≤ 1048576) (hm : ∀ x ∈ xs, x.length ≤ 1048576) : ∀ (t : List (List Int)) (j : Nat) (p : List Int), xs.drop j = p :: t → Ev (fun k => impl_inOrder.l0 k xs ((j + 1 : Nat) : Int)) (ordFrom p t)
  | [], j, p, h => by
    obtain ⟨h1, h2, h3⟩ := dropConsL h
    have h4 := dropNil h3
    refine Ev.of1 (fun k => ?_)
    simp (disch := omega) only [if_true, if_false, Bool.false_eq_true, impl_inOrder.l0, if_neg, ordFrom]
  | x :: t, j, p, h => by
    obtain ⟨h1, h2, h3⟩ := dropConsL h
    obtain ⟨h1', h2', h3'⟩ := dropConsL h3
    refine Ev.step (f := fun k => (slices_Compare_int_int.f k p x).bind fun t168 => (if t168 ≥ 0 then (some false) else (impl_inOrder.l0 k xs ((j + 1 + 1 : Nat) : Int)))) (fun k => ?_) (Ev.bind (Compare_ev p x (hm p (memDrop h))) ?_)
    · simp (disch := omega) only [if_true, if_false, Bool.false_eq_true, impl_inOrder.l0, if_pos, w64s, w64q, h2, h2']
    · by_cases c : cmpL p x < 0
      · simp (disch := omega) only [if_true, if_false, Bool.false_eq_true, if_neg]
        exact (inOrder_l0 xs hx hm t (j + 1) x h3).cast (by simp [ordFrom, c])
      · simp (disch := omega) only [if_true, if_false, Bool.false_eq_true, if_pos]
        exact (Ev.now _).cast (by simp [ordFrom, c])
theorem inOrder_ev (xs : List (List Int)) (hx : xs.length ≤ 1048576) (hm : ∀ x ∈ xs, x.length ≤ 1048576) : Ev (fun k => impl_inOrder.f k xs) (ordB xs) := by
  cases xs with
  | nil =>
    refine Ev.of1 (fun k => ?_)
    simp [impl_inOrder.f, impl_inOrder.l0, ordB]
  | cons x t => exact Ev.congr (fun k => rfl) (inOrder_l0 (x :: t) hx hm t 0 x rfl)
theorem cmp_lex : ∀ (a b : List Int), a.length = b.length → lexB a b = decide (cmpL a b < 0)
  | [], [], _ => rfl
  | [], y :: b, h => by simp at h
  | x :: a, [], h => by simp at h
  | x :: a, y :: b, h => by
    have ih := cmp_lex a b (by simpa using h)
    by_cases c : x = y
    · subst c
      simp [lexB, cmpL, ih]
    · rcases Int.lt_or_gt_of_ne c with c1 | c1
      · simp [lexB, cmpL, c, c1]
      · have c2 : ¬ x < y := by omega
        simp [lexB, cmpL, c, c1, c2]
def contB (r : Bool) (g : List Bool → Nat → Option Bool) : Option (List Bool) → Prop
  | none => r = false
  | some S => Ev (g S) r
def seeB : List Int → List Bool → Option (List Bool)
  | [], S => some S
  | x :: t, S => if rdOf false S x = true then none else seeB t (S.set x.toNat true)
theorem seeB_length : ∀ (t : List Int) (S S' : List Bool), seeB t S = some S' → S'.length = S.length
  | [], S, S', h => by simp [seeB] at h; rw [h]
  | x :: t, S, S', h => by
    unfold seeB at h
    by_cases c : rdOf false S x = true
    · rw [if_pos c] at h; cases h
    · rw [if_neg c] at h
      simpa using seeB_length t _ _ h
def okS (v : Int) : List Int → Bool
  | [a, b, c] => decide (0 ≤ a ∧ a < b ∧ b < c ∧ c < v)
  | _ => false
def pairsS (v : Int) : List Int → List Int
  | [a, b, c] => [a * v + b, a * v + c, b * v + c]
  | _ => []
def sysLoop (v : Int) (fin : Bool) : List (List Int) → List Bool → Bool
  | [], _ => fin
  | t :: T, S => okS v t && match seeB (pairsS v t) S with
    | none => false
    | some S' => sysLoop v fin T S'
def leadB : Option (List Int) → List Int → Bool
  | none, _ => true
  | some q, t => lexB q t
def sysLoopP (v : Int) (fin : Bool) : Option (List Int) → List (List Int) → List Bool → Bool
  | _, [], _ => fin
  | p, t :: T, S => okS v t && (leadB p t && match seeB (pairsS v t) S with
    | none => false
    | some S' => sysLoopP v fin (some t) T S')
theorem okS_form {v : Int} {t : List Int} (h : okS v t = true) : ∃ a b c, t = [a, b, c] ∧ 0 ≤ a ∧ a < b ∧ b < c ∧ c < v := by
  unfold okS at h
  split at h
  · exact ⟨_, _, _, rfl, by simpa using h⟩
  · cases h
theorem sys_same (v : Int) (fin : Bool) : ∀ (T : List (List Int)) (p : List Int) (S : List Bool), p.length = 3 → sysLoopP v fin (some p) T S = (ordFrom p T && sysLoop v fin T S)
  | [], p, S, hp => by simp [sysLoopP, ordFrom, sysLoop]
  | t :: T, p, S, hp => by
    unfold sysLoopP sysLoop ordFrom leadB
    by_cases c : okS v t = true
    · obtain ⟨a, b, d, rfl, _⟩ := okS_form c
      simp only [c, Bool.true_and]
      rw [cmp_lex p [a, b, d] (by simpa using hp)]
      cases seeB (pairsS v [a, b, d]) S with
      | none => simp
      | some S' =>
        simp only []
        rw [sys_same v fin T [a, b, d] S' rfl, Bool.and_assoc]
    · simp [c]
theorem sys_same0 (v : Int) (fin : Bool) (T : List (List Int)) (S : List Bool) : sysLoopP v fin none T S = (ordB T && sysLoop v fin T S) := by
  cases T with
  | nil => simp [sysLoopP, ordB, sysLoop]
  | cons t T =>
    unfold sysLoopP sysLoop ordB leadB
    by_cases c : okS v t = true
    · obtain ⟨a, b, d, rfl, _⟩ := okS_form c
      simp only [c, Bool.true_and]
      cases seeB (pairsS v [a, b, d]) S with
      | none => simp
      | some S' =>
        simp only []
        exact sys_same v fin T [a, b, d] S' rfl
    · simp [c]
theorem idx_facts {a b v : Int} (h0 : 0 ≤ a) (h1 : a < v) (h2 : 0 ≤ b) (h3 : b < v) (hv : v ≤ 40) : 0 ≤ a * v ∧ a * v ≤ 1600 ∧ 0 ≤ a * v + b ∧ a * v + b < v * v ∧ v * v ≤ 1600 := by
  have e1 : a * v ≤ (v - 1) * v := Int.mul_le_mul_of_nonneg_right (by omega) (by omega)
  have e2 : (v - 1) * v = v * v - v := by rw [Int.sub_mul, Int.one_mul]
  have e3 : v * v ≤ 40 * v := Int.mul_le_mul_of_nonneg_right hv (by omega)
  have e4 : 0 ≤ a * v := Int.mul_nonneg h0 (by omega)
  omega
def sysB (v : Int) (L : List (List Int)) : Bool := ordB L && sysLoop v (decide (6 * (L.length : Int) = v * (v - 1))) L (List.replicate (v * v).toNat false)
theorem sys_fin {v : Int} (L : List (List Int)) (hL : L.length ≤ 1048576) (h0 : 0 ≤ v) (hv : v ≤ 40) : (wrap64 (6 * (L.length : Int)) == wrap64 (v * wrap64 (v - 1))) = decide (6 * (L.length : Int) = v * (v - 1)) := by
  have e1 : wrap64 (v - 1) = v - 1 := w64 (by omega) (by omega)
  have e3 : v * v ≤ 40 * v := Int.mul_le_mul_of_nonneg_right hv (by omega)
  have e4 : 0 ≤ v * v := Int.mul_nonneg h0 h0
  have e5 : v * (v - 1) = v * v - v := by rw [Int.mul_sub, Int.mul_one]
  rw [e1, w64 (by omega) (by omega), w64 (by omega) (by omega)]
  rfl
def onceL : List Int → List Bool → Option (List Bool)
  | [], M => some M
  | x :: t, M => if (0 ≤ x ∧ x ≤ (M.length : Int) - 1) ∧ rdOf false M x = true then onceL t (M.set x.toNat false) else none
def onceFin : Option (List Bool) → Bool
  | none => false
  | some M => M.all fun b => !b
theorem onceL_length : ∀ (t : List Int) (M M' : List Bool), onceL t M = some M' → M'.length = M.length
  | [], M, M', h => by simp [onceL] at h; rw [h]
  | x :: t, M, M', h => by
    unfold onceL at h
    split at h
    · simpa using onceL_length t _ _ h
    · cases h
theorem onceL_append : ∀ (a b : List Int) (M : List Bool), onceL (a ++ b) M = (onceL a M).bind (onceL b)
  | [], b, M => rfl
  | x :: a, b, M => by
    simp only [List.cons_append, onceL]
    split
    · exact onceL_append a b _
    · rfl
theorem trOnce_l2 (M : List Bool) (hM : M.length ≤ 1048576) : ∀ (s : List Bool) (j : Nat), M.drop j = s → Ev (fun k => spec_trOnce.l2 k M M.length (j : Int)) (s.all fun b => !b)
  | [], j, h => by
    have h1 := dropNil h
    refine Ev.of1 (fun k => ?_)
    simp (disch := omega) only [if_true, if_false, Bool.false_eq_true, spec_trOnce.l2, if_neg, List.all_nil]
  | b :: s, j, h => by
    obtain ⟨h1, h2, h3⟩ := dropConsOf (d := false) h
    cases b with
    | true =>
      refine Ev.of1 (fun k => ?_)
      simp (disch := omega) only [if_true, if_false, Bool.false_eq_true, spec_trOnce.l2, if_pos, h2]
      simp
    | false =>
      refine Ev.step (f := fun k => spec_trOnce.l2 k M M.length ((j + 1 : Nat) : Int)) (fun k => ?_) ((trOnce_l2 M hM s (j + 1) h3).cast (by simp))
      simp (disch := omega) only [if_true, if_false, Bool.false_eq_true, spec_trOnce.l2, if_pos, h2, w64s, Bool.false_eq_true]
theorem trOnce_l1 (L : List (List Int)) (hL : L.length ≤ 1048576) (i : Nat) (hi : i < L.length) (r : Bool) (u : List Int) (hu : u.length ≤ 1048576) : ∀ (s : List Int) (j : Nat) (M : List Bool), u.drop j = s → 1 ≤ M.length → M.length ≤ 1048576 →
    contB r (fun M' k => spec_trOnce.l0 k M' L L.length ((i + 1 : Nat) : Int)) (onceL s M) → Ev (fun k => spec_trOnce.l1 k M L L.length (i : Int) u u.length (j : Int)) r
  | [], j, M, h, hM0, hM, hc => by
    have h1 := dropNil h
    refine Ev.step (fun k => ?_) hc
    simp (disch := omega) only [if_true, if_false, Bool.false_eq_true, spec_trOnce.l1, if_neg, w64s]
  | x :: s, j, M, h, hM0, hM, hc => by
    obtain ⟨h1, h2, h3⟩ := dropCons h
    have e1 : wrap64 ((M.length : Int) - 1) = (M.length : Int) - 1 := w64 (by omega) (by omega)
    unfold onceL at hc
    by_cases c0 : 0 ≤ x
    · by_cases c1 : x ≤ (M.length : Int) - 1
      · by_cases c2 : rdOf false M x = true
        · rw [if_pos ⟨⟨c0, c1⟩, c2⟩] at hc
          refine Ev.step (f := fun k => spec_trOnce.l1 k (M.set x.toNat false) L L.length (i : Int) u u.length ((j + 1 : Nat) : Int)) (fun k => ?_) (trOnce_l1 L hL i hi r u hu s (j + 1) _ h3 (by simpa using hM0) (by simpa using hM) hc)
          simp (disch := omega) only [if_true, if_false, Bool.false_eq_true, spec_trOnce.l1, spec_l1In.f, if_pos, h2, e1, Option.bind_some, decide_eq_true_eq, c2, w64s]
        · rw [if_neg (fun h => c2 h.2)] at hc
          have hc' : r = false := hc
          subst hc'
          refine Ev.of1 (fun k => ?_)
          simp (disch := omega) only [if_true, if_false, Bool.false_eq_true, spec_trOnce.l1, spec_l1In.f, if_pos, h2, e1, Option.bind_some, decide_eq_true_eq, c2]
      · rw [if_neg (fun h => c1 h.1.2)] at hc
        have hc' : r = false := hc
        subst hc'
        refine Ev.of1 (fun k => ?_)
        simp (disch := omega) only [if_true, if_false, Bool.false_eq_true, spec_trOnce.l1, spec_l1In.f, if_pos, if_neg, h2, e1, Option.bind_some, decide_eq_true_eq]
    · rw [if_neg (fun h => c0 h.1.1)] at hc
      have hc' : r = false := hc
      subst hc'
      refine Ev.of1 (fun k => ?_)
      simp (disch := omega) only [if_true, if_false, Bool.false_eq_true, spec_trOnce.l1, spec_l1In.f, if_pos, if_neg, h2, e1, Option.bind_some, Bool.false_eq_true]
theorem trOnce_l0 (L : List (List Int)) (hL : L.length ≤ 1048576) (hm : ∀ x ∈ L, x.length ≤ 1048576) : ∀ (T : List (List Int)) (i : Nat) (M : List Bool), L.drop i = T → 1 ≤ M.length → M.length ≤ 1048576 → Ev (fun k => spec_trOnce.l0 k M L L.length (i : Int)) (onceFin (onceL T.flatten M))
  | [], i, M, h, hM0, hM => by
    have h1 := dropNil h
    refine Ev.step (f := fun k => spec_trOnce.l2 k M M.length ((0 : Nat) : Int)) (fun k => ?_) (trOnce_l2 M hM M 0 rfl)
    simp (disch := omega) only [if_true, if_false, Bool.false_eq_true, spec_trOnce.l0, if_neg]
    rfl
  | t :: T, i, M, h, hM0, hM => by
    obtain ⟨h1, h2, h3⟩ := dropConsL h
    refine Ev.step (f := fun k => spec_trOnce.l1 k M L L.length (i : Int) t t.length ((0 : Nat) : Int)) (fun k => ?_) (trOnce_l1 L hL i h1 _ t (hm t (memDrop h)) t 0 M rfl hM0 hM ?_)
    · simp (disch := omega) only [if_true, if_false, Bool.false_eq_true, spec_trOnce.l0, if_pos, h2]
      rfl
    · rw [List.flatten_cons, onceL_append]
      cases e : onceL t M with
      | none => rfl
      | some M' =>
        have el := onceL_length _ _ _ e
        exact trOnce_l0 L hL hm T (i + 1) M' h3 (by omega) (by omega)
theorem trOnce_ev (L : List (List Int)) (M : List Bool) (hL : L.length ≤ 1048576) (hm : ∀ x ∈ L, x.length ≤ 1048576) (hM0 : 1 ≤ M.length) (hM : M.length ≤ 1048576) : Ev (fun k => spec_trOnce.f k L M) (onceFin (onceL L.flatten M)) := by
  refine Ev.congr (fun k => ?_) (trOnce_l0 L hL hm L 0 M rfl hM0 hM)
  simp (disch := omega) only [if_true, if_false, Bool.false_eq_true, spec_trOnce.f, Option.bind_some, List.length_nil, Nat.zero_add, List.nil_append, if_pos]
  rfl
def marksL (n : Nat) : List Bool := false :: (List.replicate (3 * n) true ++ [false])
theorem trMarks_ev (n : Nat) (h1 : 1 ≤ n) (h2 : n ≤ 10) : Ev (fun k => spec_trMarks.f k (n : Int) false) (marksL n) := by
  have h : n = 1 ∨ n = 2 ∨ n = 3 ∨ n = 4 ∨ n = 5 ∨ n = 6 ∨ n = 7 ∨ n = 8 ∨ n = 9 ∨ n = 10 := by omega
  rcases h with rfl | rfl | rfl | rfl | rfl | rfl | rfl | rfl | rfl | rfl <;> exact Ev.of (fun k => spec_trMarks.mono _ _ k) (k := 40) (by kernel_rfl)
def splitP : Option (List Int) → List (List Int) → Bool
  | _, [] => true
  | p, t :: T => triB t && ((match p with | none => true | some q => lexB q t) && splitP (some t) T)
theorem splitP_eq : ∀ (T : List (List Int)) (p : List Int), p.length = 3 → splitP (some p) T = (T.all triB && ordFrom p T)
  | [], p, hp => rfl
  | t :: T, p, hp => by
    unfold splitP ordFrom
    by_cases c : triB t = true
    · obtain ⟨a, b, d, rfl, _⟩ := triB_form c
      simp only [c, Bool.true_and, List.all_cons]
      rw [cmp_lex p [a, b, d] (by simpa using hp), splitP_eq T [a, b, d] rfl]
      cases decide (cmpL p [a, b, d] < 0) <;> simp
    · simp [c]
theorem splitP_eq0 (T : List (List Int)) : splitP none T = (T.all triB && ordB T) := by
  cases T with
  | nil => rfl
  | cons t T =>
    unfold splitP ordB
    by_cases c : triB t = true
    · obtain ⟨a, b, d, rfl, _⟩ := triB_form c
      simp only [c, Bool.true_and, List.all_cons]
      exact splitP_eq T [a, b, d] rfl
    · simp [c]
theorem trSplit_l0 (n : Nat) (hn1 : 1 ≤ n) (hn2 : n ≤ 10) (L : List (List Int)) (hL : L.length ≤ 1048576) (hm : ∀ x ∈ L, x.length ≤ 1048576) : ∀ (T : List (List Int)) (i : Nat) (p : Option (List Int)), L.drop i = T →
    (match p with | none => i = 0 | some q => q.length = 3 ∧ ∃ j, i = j + 1 ∧ L[j]? = some q) →
    Ev (fun k => spec_trSplit.l0 k (n : Int) L false L L.length (i : Int)) (splitP p T && onceFin (onceL L.flatten (marksL n)))
  | [], i, p, h, hp => by
    have h1 := dropNil h
    obtain ⟨K1, k1⟩ := trMarks_ev n hn1 hn2
    obtain ⟨K2, k2⟩ := trOnce_ev L (marksL n) hL hm (by simp [marksL]) (by simp [marksL]; omega)
    refine ⟨K1 + K2 + 1, fun k hk => ?_⟩
    obtain ⟨k, rfl⟩ : ∃ m, k = m + 1 := ⟨k - 1, by omega⟩
    have a1 := k1 k (by omega)
    have a2 := k2 k (by omega)
    simp only [] at a1 a2
    simp (disch := omega) only [if_true, if_false, Bool.false_eq_true, spec_trSplit.l0, if_neg, a1, a2, Option.bind_some, splitP, Bool.true_and]
  | t :: T, i, p, h, hp => by
    obtain ⟨h1, h2, h3⟩ := dropConsL h
    have ht := hm t (memDrop h)
    obtain ⟨K1, k1⟩ := trTriple_ev t ht
    cases ct : triB t with
    | false =>
      rw [ct] at k1
      refine ⟨K1 + 1, fun k hk => ?_⟩
      obtain ⟨k, rfl⟩ : ∃ m, k = m + 1 := ⟨k - 1, by omega⟩
      have a1 := k1 k (by omega)
      simp only [] at a1
      simp (disch := omega) only [if_true, if_false, Bool.false_eq_true, spec_trSplit.l0, if_pos, h2, a1, Option.bind_some, Bool.false_eq_true]
      simp [splitP, ct]
    | true =>
      rw [ct] at k1
      obtain ⟨a, b, d, rfl, _⟩ := triB_form ct
      obtain ⟨K2, k2⟩ := trSplit_l0 n hn1 hn2 L hL hm T (i + 1) (some [a, b, d]) h3 ⟨rfl, i, rfl, dropGet h⟩
      match p, hp with
      | none, hp =>
        have hp' : i = 0 := hp
        subst hp'
        refine ⟨K1 + K2 + 1, fun k hk => ?_⟩
        obtain ⟨k, rfl⟩ : ∃ m, k = m + 1 := ⟨k - 1, by omega⟩
        have a1 := k1 k (by omega)
        have a2 := k2 k (by omega)
        simp only [] at a1 a2
        simp (disch := omega) only [if_true, if_false, Bool.false_eq_true, spec_trSplit.l0, if_pos, if_neg, h2, a1, Option.bind_some, w64s]
        rw [a2]
        simp [splitP, ct]
      | some q, hp =>
        obtain ⟨hq3, j, rfl, hj⟩ := hp
        have hq : rd_L1 L (j : Int) = q := by simp [rd_L1, List.getD_eq_getElem?_getD, hj]
        obtain ⟨K3, k3⟩ := trLess_ev q [a, b, d] (by omega) (by simpa using hq3)
        refine ⟨K1 + K2 + K3 + 1, fun k hk => ?_⟩
        obtain ⟨k, rfl⟩ : ∃ m, k = m + 1 := ⟨k - 1, by omega⟩
        have a1 := k1 k (by omega)
        have a2 := k2 k (by omega)
        have a3 := k3 k (by omega)
        simp only [] at a1 a2 a3
        simp (disch := omega) only [if_true, if_false, Bool.false_eq_true, spec_trSplit.l0, if_pos, h2, a1, a3, hq, w64q, Option.bind_some, w64s]
        rw [a2]
        cases cl : lexB q [a, b, d] <;> simp [splitP, ct, cl]
theorem trSplit_ev (n : Nat) (hn1 : 1 ≤ n) (hn2 : n ≤ 10) (L : List (List Int)) (hL : L.length ≤ 1048576) (hm : ∀ x ∈ L, x.length ≤ 1048576) : Ev (fun k => spec_trSplit.f k (n : Int) L false) (decide (L.length = n) && (splitP none L && onceFin (onceL L.flatten (marksL n)))) := by
  by_cases c : L.length = n
  · refine Ev.congr (fun k => ?_) ((trSplit_l0 n hn1 hn2 L hL hm L 0 none rfl rfl).cast (by simp [c]))
    unfold spec_trSplit.f
    rw [if_pos (by omega)]
    rfl
  · refine Ev.all (fun k => ?_)
    unfold spec_trSplit.f
    rw [if_neg (by omega)]
    simp [c]
def okT (n : Int) : List Int → Bool
  | [a, b, c] => decide (1 ≤ a ∧ a < b ∧ b < c ∧ c ≤ 3 * n ∧ a + b = c)
  | _ => false
theorem okT_form {n : Int} {t : List Int} (h : okT n t = true) : ∃ a b c, t = [a, b, c] ∧ 1 ≤ a ∧ a < b ∧ b < c ∧ c ≤ 3 * n ∧ a + b = c := by
  unfold okT at h
  split at h
  · exact ⟨_, _, _, rfl, of_decide_eq_true h⟩
  · cases h
def splitI (n : Int) : List (List Int) → List Bool → Bool
  | [], _ => true
  | t :: T, S => okT n t && match seeB t S with
    | none => false
    | some S' => splitI n T S'
theorem isSplit_l1 (n last : Int) (L : List (List Int)) (hL : L.length ≤ 1048576) (i : Nat) (hi : i < L.length) (r : Bool) (u : List Int) (hu : u.length ≤ 1048576) : ∀ (s : List Int) (j : Nat) (S : List Bool), u.drop j = s → (∀ x ∈ s, 0 ≤ x ∧ x < S.length) →
    contB r (fun S' k => impl_isSplit.l0 k n last S' L L.length ((i + 1 : Nat) : Int)) (seeB s S) → Ev (fun k => impl_isSplit.l1 k n last S L L.length (i : Int) u u.length (j : Int)) r
  | [], j, S, h, hb, hc => by
    have h1 := dropNil h
    refine Ev.step (fun k => ?_) hc
    simp (disch := omega) only [if_true, if_false, Bool.false_eq_true, impl_isSplit.l1, if_neg, w64s]
  | x :: s, j, S, h, hb, hc => by
    obtain ⟨h1, h2, h3⟩ := dropCons h
    have hx := hb x (by simp)
    unfold seeB at hc
    by_cases c : rdOf false S x = true
    · rw [if_pos c] at hc
      have hc' : r = false := hc
      subst hc'
      refine Ev.of1 (fun k => ?_)
      simp (disch := omega) only [if_true, if_false, Bool.false_eq_true, impl_isSplit.l1, if_pos, h2, c]
    · rw [if_neg c] at hc
      have c' : rdOf false S x = false := by simpa using c
      refine Ev.step (f := fun k => impl_isSplit.l1 k n last (S.set x.toNat true) L L.length (i : Int) u u.length ((j + 1 : Nat) : Int)) (fun k => ?_) (isSplit_l1 n last L hL i hi r u hu s (j + 1) _ h3 (fun y hy => by simpa using hb y (by simp [hy])) hc)
      simp (disch := omega) only [if_true, if_false, Bool.false_eq_true, impl_isSplit.l1, if_pos, h2, c', w64s, Bool.false_eq_true]
theorem isSplit_l0 (n : Nat) (hn2 : n ≤ 10) (L : List (List Int)) (hL : L.length ≤ 1048576) (hm : ∀ x ∈ L, x.length ≤ 1048576) : ∀ (T : List (List Int)) (i : Nat) (S : List Bool), L.drop i = T → S.length = 3 * n + 2 → Ev (fun k => impl_isSplit.l0 k (n : Int) (3 * (n : Int)) S L L.length (i : Int)) (splitI n T S)
  | [], i, S, h, hS => by
    have h1 := dropNil h
    refine Ev.of1 (fun k => ?_)
    simp (disch := omega) only [if_true, if_false, Bool.false_eq_true, impl_isSplit.l0, if_neg, splitI]
  | t :: T, i, S, h, hS => by
    obtain ⟨h1, h2, h3⟩ := dropConsL h
    have ht := hm t (memDrop h)
    have e0 : wrap64 (3 * (n : Int)) = 3 * (n : Int) := w64 (by omega) (by omega)
    by_cases c3 : t.length = 3
    · obtain ⟨a, b, c, rfl⟩ : ∃ a b c, t = [a, b, c] := by
        match t, c3 with
        | [a, b, c], _ => exact ⟨a, b, c, rfl⟩
      have f0 : rd [a, b, c] 0 = a := rfl
      have f1 : rd [a, b, c] 1 = b := rfl
      have f2 : rd [a, b, c] 2 = c := rfl
      have f3 : (([a, b, c] : List Int).length : Int) = 3 := rfl
      by_cases c1 : 1 ≤ a ∧ a < b ∧ b < c ∧ c ≤ 3 * (n : Int)
      · have e1 : wrap64 (a + b) = a + b := w64 (by omega) (by omega)
        have step : ∀ k, impl_isSplit.l0 (k + 1) (n : Int) (3 * (n : Int)) S L L.length (i : Int) = impl_isSplit.j2 k (n : Int) (3 * (n : Int)) S [a, b, c] L L.length (i : Int) (a + b != c) := fun k => by
          by_cases ce : c = 3 * (n : Int)
          · simp (disch := omega) only [if_true, if_false, Bool.false_eq_true, impl_isSplit.l0, if_pos, if_neg, h2, f0, f1, f2, f3, e0, e1]
          · simp (disch := omega) only [if_true, if_false, Bool.false_eq_true, impl_isSplit.l0, if_pos, if_neg, h2, f0, f1, f2, f3, e0, e1]
        by_cases cs : a + b = c
        · have hok : okT (n : Int) [a, b, c] = true := by simp [okT]; omega
          have cs' : (a + b != c) = false := by simp [cs]
          refine Ev.step step ?_
          rw [cs']
          refine Ev.step (f := fun k => impl_isSplit.l1 k (n : Int) (3 * (n : Int)) S L L.length (i : Int) [a, b, c] (([a, b, c] : List Int).length : Int) ((0 : Nat) : Int)) (fun k => ?_) (isSplit_l1 (n : Int) (3 * (n : Int)) L hL i h1 _ [a, b, c] ht [a, b, c] 0 S rfl ?_ ?_)
          · simp only [impl_isSplit.j2, Bool.false_eq_true, if_false]
            rfl
          · intro x hx
            simp only [List.mem_cons, List.not_mem_nil, or_false] at hx
            rcases hx with rfl | rfl | rfl <;> omega
          · unfold splitI
            rw [hok]
            simp only [Bool.true_and]
            cases e : seeB [a, b, c] S with
            | none => rfl
            | some S' => exact isSplit_l0 n hn2 L hL hm T (i + 1) S' h3 (by rw [seeB_length _ _ _ e]; exact hS)
        · have hok : okT (n : Int) [a, b, c] = false := by simp [okT]; omega
          have cs' : (a + b != c) = true := by simp [cs]
          refine Ev.step step ?_
          rw [cs']
          refine Ev.of1 (fun k => ?_)
          simp only [impl_isSplit.j2, if_true]
          simp [splitI, hok]
      · have hok : okT (n : Int) [a, b, c] = false := by simp [okT]; omega
        refine ⟨2, fun k hk => ?_⟩
        obtain ⟨k, rfl⟩ : ∃ m, k = m + 2 := ⟨k - 2, by omega⟩
        have hr : splitI (n : Int) ([a, b, c] :: T) S = false := by simp [splitI, hok]
        rw [hr]
        by_cases d0 : a < 1
        · simp (disch := omega) only [if_true, if_false, Bool.false_eq_true, impl_isSplit.l0, impl_isSplit.j2, if_pos, if_neg, h2, f0, f1, f2, f3]
        · by_cases d1 : a ≥ b
          · simp (disch := omega) only [if_true, if_false, Bool.false_eq_true, impl_isSplit.l0, impl_isSplit.j2, if_pos, if_neg, h2, f0, f1, f2, f3]
          · by_cases d2 : b ≥ c
            · simp (disch := omega) only [if_true, if_false, Bool.false_eq_true, impl_isSplit.l0, impl_isSplit.j2, if_pos, if_neg, h2, f0, f1, f2, f3]
            · have d3 : c > 3 * (n : Int) := by omega
              simp (disch := omega) only [if_true, if_false, Bool.false_eq_true, impl_isSplit.l0, impl_isSplit.j2, if_pos, if_neg, h2, f0, f1, f2, f3]
    · have hok : okT (n : Int) t = false := by
        cases hk : okT (n : Int) t with
        | false => rfl
        | true => obtain ⟨a, b, c, rfl, _⟩ := okT_form hk; exact absurd rfl c3
      refine ⟨2, fun k hk => ?_⟩
      obtain ⟨k, rfl⟩ : ∃ m, k = m + 2 := ⟨k - 2, by omega⟩
      simp (disch := omega) only [if_true, if_false, Bool.false_eq_true, impl_isSplit.l0, impl_isSplit.j2, if_pos, if_neg, h2]
      simp [splitI, hok]
theorem isSplit_ev (n : Nat) (hn2 : n ≤ 10) (L : List (List Int)) (hL : L.length ≤ 1048576) (hm : ∀ x ∈ L, x.length ≤ 1048576) : Ev (fun k => impl_isSplit.f k (n : Int) L (3 * (n : Int))) (decide (L.length = n) && (ordB L && splitI n L (List.replicate (3 * n + 2) false))) := by
  by_cases c : L.length = n
  · obtain ⟨K1, k1⟩ := inOrder_ev L hL hm
    obtain ⟨K2, k2⟩ := isSplit_l0 n hn2 L hL hm L 0 (List.replicate (3 * n + 2) false) rfl (by simp)
    have e0 : wrap64 (3 * (n : Int)) = 3 * (n : Int) := w64 (by omega) (by omega)
    have e1 : wrap64 (3 * (n : Int) + 2) = 3 * (n : Int) + 2 := w64 (by omega) (by omega)
    have e2 : (3 * (n : Int) + 2).toNat = 3 * n + 2 := by omega
    have c' : (L.length : Int) = (n : Int) := by omega
    refine ⟨K1 + K2 + 1, fun k hk => ?_⟩
    obtain ⟨k, rfl⟩ : ∃ m, k = m + 1 := ⟨k - 1, by omega⟩
    have a1 := k1 (k + 1) (by omega)
    have a2 := k2 k (by omega)
    simp only [Int.natCast_zero] at a1 a2
    cases co : ordB L with
    | false =>
      rw [co] at a1
      simp only [impl_isSplit.f, impl_isSplit.j0, c', if_true, a1, Option.bind_some, Bool.not_false, c, decide_true, Bool.false_and, Bool.and_false]
    | true =>
      rw [co] at a1
      simp (disch := omega) only [if_true, if_false, Bool.false_eq_true, impl_isSplit.f, impl_isSplit.j0, if_pos, a1, Option.bind_some, Bool.not_true, Bool.false_eq_true, e0, e1, e2, c, decide_true, Bool.true_and]
      rw [← c'] at a2 ⊢
      exact a2
  · refine Ev.of1 (fun k => ?_)
    have c' : ¬ (L.length : Int) = (n : Int) := by omega
    simp only [impl_isSplit.f, impl_isSplit.j0, c', if_false, if_true, c, decide_false, Bool.false_and]
theorem seeB_append : ∀ (a b : List Int) (S : List Bool), seeB (a ++ b) S = (seeB a S).bind (seeB b)
  | [], b, S => rfl
  | x :: a, b, S => by
    simp only [List.cons_append, seeB]
    split
    · rfl
    · exact seeB_append a b _
theorem splitI_eq (n : Int) : ∀ (T : List (List Int)) (S : List Bool), splitI n T S = (T.all (okT n) && (seeB T.flatten S).isSome)
  | [], S => rfl
  | t :: T, S => by
    unfold splitI
    rw [List.flatten_cons, seeB_append, List.all_cons]
    cases e : seeB t S with
    | none => simp
    | some S' =>
      simp only [Option.bind_some]
      rw [splitI_eq n T S', Bool.and_assoc]
def trues : List Bool → Nat
  | [] => 0
  | b :: t => (if b then 1 else 0) + trues t
theorem trues_set : ∀ (M : List Bool) (i : Nat), M[i]? = some true → trues (M.set i false) + 1 = trues M
  | [], i, h => by simp at h
  | b :: M, 0, h => by
    simp at h
    subst h
    simp [trues, Nat.add_comm]
  | b :: M, i + 1, h => by
    have := trues_set M i (by simpa using h)
    simp only [List.set_cons_succ, trues]
    omega
theorem trues_zero : ∀ (M : List Bool), (M.all fun b => !b) = decide (trues M = 0)
  | [] => rfl
  | b :: M => by
    rw [List.all_cons, trues_zero M]
    cases b <;> simp [trues]
theorem trues_append : ∀ (a b : List Bool), trues (a ++ b) = trues a + trues b
  | [], b => by simp [trues]
  | x :: a, b => by simp only [List.cons_append, trues, trues_append a b]; omega
theorem trues_replicate : ∀ n, trues (List.replicate n true) = n
  | 0 => rfl
  | n + 1 => by simp only [List.replicate_succ, trues, trues_replicate n]; simp; omega
theorem rdOf_true {M : List Bool} {x : Int} (h : rdOf false M x = true) : M[x.toNat]? = some true := by
  unfold rdOf at h
  rw [List.getD_eq_getElem?_getD] at h
  cases e : M[x.toNat]? with
  | none => rw [e] at h; simp at h
  | some b => rw [e] at h; simp at h; rw [h]
theorem onceL_count : ∀ (l : List Int) (M M' : List Bool), onceL l M = some M' → trues M' + l.length = trues M
  | [], M, M', h => by simp [onceL] at h; rw [h]; rfl
  | x :: l, M, M', h => by
    unfold onceL at h
    split at h
    · rename_i c
      have h1 := onceL_count l _ _ h
      have h2 := trues_set M x.toNat (rdOf_true c.2)
      simp only [List.length_cons]
      omega
    · cases h
def relMS (n : Nat) (M S : List Bool) : Prop := M.length = 3 * n + 2 ∧ S.length = 3 * n + 2 ∧ ∀ x : Nat, x < 3 * n + 2 → M.getD x false = (decide (1 ≤ x ∧ x ≤ 3 * n) && !S.getD x false)
theorem getD_set (l : List Bool) (i j : Nat) (b : Bool) (hi : i < l.length) : (l.set i b).getD j false = if i = j then b else l.getD j false := by
  rw [List.getD_eq_getElem?_getD, List.getElem?_set, List.getD_eq_getElem?_getD]
  by_cases c : i = j
  · subst c
    simp [hi]
  · simp [c]
theorem rel_set {n : Nat} {M S : List Bool} (h : relMS n M S) (x : Nat) (hx : x < 3 * n + 2) : relMS n (M.set x false) (S.set x true) := by
  obtain ⟨h1, h2, h3⟩ := h
  refine ⟨by simpa using h1, by simpa using h2, fun y hy => ?_⟩
  rw [getD_set _ _ _ _ (by omega), getD_set _ _ _ _ (by omega)]
  by_cases c : x = y
  · simp [c]
  · simp only [c, if_false]
    exact h3 y hy
theorem once_see (n : Nat) : ∀ (l : List Int) (M S : List Bool), relMS n M S → (∀ x ∈ l, 1 ≤ x ∧ x ≤ 3 * (n : Int)) → (onceL l M).isSome = (seeB l S).isSome
  | [], M, S, h, hl => rfl
  | x :: l, M, S, h, hl => by
    obtain ⟨hx1, hx2⟩ := hl x (by simp)
    have e := h.2.2 x.toNat (by omega)
    have eM : rdOf false M x = M.getD x.toNat false := rfl
    have eS : rdOf false S x = S.getD x.toNat false := rfl
    have hd : decide (1 ≤ x.toNat ∧ x.toNat ≤ 3 * n) = true := decide_eq_true (by omega)
    rw [hd, Bool.true_and, ← eM, ← eS] at e
    unfold onceL seeB
    have hb : 0 ≤ x ∧ x ≤ (M.length : Int) - 1 := by have := h.1; omega
    cases cS : rdOf false S x with
    | true =>
      rw [cS] at e
      simp [e]
    | false =>
      rw [cS] at e
      have e' : rdOf false M x = true := by simpa using e
      rw [if_pos ⟨hb, e'⟩, if_neg (by simp)]
      exact once_see n l _ _ (rel_set h x.toNat (by omega)) (fun y hy => hl y (by simp [hy]))
theorem once_le (n : Nat) : ∀ (l : List Int) (M S : List Bool), relMS n M S → (onceL l M).isSome = true → ∀ x ∈ l, x ≤ 3 * (n : Int)
  | [], M, S, h, ho, x, hx => by simp at hx
  | y :: l, M, S, h, ho, x, hx => by
    unfold onceL at ho
    split at ho
    · rename_i c
      have e := h.2.2 y.toNat (by have := h.1; omega)
      have eM : rdOf false M y = M.getD y.toNat false := rfl
      rw [← eM, c.2] at e
      have e2 : 1 ≤ y.toNat ∧ y.toNat ≤ 3 * n := by
        have := (Bool.and_eq_true _ _).mp e.symm
        exact of_decide_eq_true this.1
      rcases List.mem_cons.1 hx with rfl | hx
      · omega
      · exact once_le n l _ _ (rel_set h y.toNat (by omega)) ho x hx
    · simp at ho
theorem rel_start (n : Nat) : relMS n (marksL n) (List.replicate (3 * n + 2) false) := by
  refine ⟨by simp [marksL], by simp, fun x hx => ?_⟩
  unfold marksL
  cases x with
  | zero => simp
  | succ x =>
    rw [List.getD_eq_getElem?_getD, List.getElem?_cons_succ, List.getElem?_append]
    by_cases c : x < 3 * n
    · have c' : x + 1 ≤ 3 * n := by omega
      have c4 : x < 3 * n + 1 := by omega
      simp [c, c', c4, List.getD_eq_getElem?_getD, List.getElem?_replicate]
    · have c' : ¬ x + 1 ≤ 3 * n := by omega
      have c2 : x - 3 * n = 0 := by omega
      simp [c, c', c2]
theorem flat3 : ∀ (T : List (List Int)), T.all triB = true → T.flatten.length = 3 * T.length ∧ ∀ x ∈ T.flatten, 1 ≤ x
  | [], _ => ⟨rfl, fun x hx => by simp at hx⟩
  | t :: T, h => by
    rw [List.all_cons, Bool.and_eq_true] at h
    obtain ⟨a, b, c, rfl, h1, h2, h3, h4⟩ := triB_form h.1
    obtain ⟨i1, i2⟩ := flat3 T h.2
    refine ⟨by simp [i1]; omega, fun x hx => ?_⟩
    rw [List.flatten_cons, List.mem_append] at hx
    rcases hx with hx | hx
    · simp only [List.mem_cons, List.not_mem_nil, or_false] at hx
      rcases hx with rfl | rfl | rfl <;> omega
    · exact i2 x hx
theorem tri_ok {n : Nat} (hn : n ≤ 10) : ∀ (T : List (List Int)), T.all triB = true → (∀ x ∈ T.flatten, x ≤ 3 * (n : Int)) → T.all (okT n) = true
  | [], _, _ => rfl
  | t :: T, h, hx => by
    rw [List.all_cons, Bool.and_eq_true] at h
    obtain ⟨a, b, c, rfl, h1, h2, h3, h4⟩ := triB_form h.1
    rw [List.all_cons, tri_ok hn T h.2 (fun x hm => hx x (by rw [List.flatten_cons]; exact List.mem_append_right _ hm))]
    have := hx c (by simp)
    simp [okT]
    omega
theorem ok_tri {n : Nat} (hn : n ≤ 10) : ∀ (T : List (List Int)), T.all (okT n) = true → T.all triB = true ∧ ∀ x ∈ T.flatten, x ≤ 3 * (n : Int)
  | [], _ => ⟨rfl, fun x hx => by simp at hx⟩
  | t :: T, h => by
    rw [List.all_cons, Bool.and_eq_true] at h
    obtain ⟨a, b, c, rfl, h1, h2, h3, h4, h5⟩ := okT_form h.1
    obtain ⟨i1, i2⟩ := ok_tri hn T h.2
    refine ⟨?_, fun x hx => ?_⟩
    · rw [List.all_cons, i1]
      simp [triB]
      omega
    · rw [List.flatten_cons, List.mem_append] at hx
      rcases hx with hx | hx
      · simp only [List.mem_cons, List.not_mem_nil, or_false] at hx
        rcases hx with rfl | rfl | rfl <;> omega
      · exact i2 x hx
theorem split_same (n : Nat) (hn : n ≤ 10) (L : List (List Int)) (hL : L.length = n) : (splitP none L && onceFin (onceL L.flatten (marksL n))) = (ordB L && splitI n L (List.replicate (3 * n + 2) false)) := by
  rw [splitP_eq0, splitI_eq]
  have hr := rel_start n
  cases ct : L.all triB with
  | false =>
    have : L.all (okT n) = false := by
      cases h : L.all (okT n) with
      | false => rfl
      | true => rw [(ok_tri hn L h).1] at ct; cases ct
    simp [this]
  | true =>
    obtain ⟨f1, f2⟩ := flat3 L ct
    simp only [Bool.true_and]
    congr 1
    cases e : onceL L.flatten (marksL n) with
    | none =>
      cases h : L.all (okT n) with
      | false => simp [onceFin]
      | true =>
        have := once_see n L.flatten _ _ hr (fun x hx => ⟨f2 x hx, (ok_tri hn L h).2 x hx⟩)
        rw [e] at this
        simp only [Option.isSome_none] at this
        simp [onceFin, ← this]
    | some M' =>
      have hle := once_le n L.flatten _ _ hr (by rw [e]; rfl)
      have h := tri_ok hn L ct hle
      have := once_see n L.flatten _ _ hr (fun x hx => ⟨f2 x hx, hle x hx⟩)
      rw [e] at this
      simp only [Option.isSome_some] at this
      have hc := onceL_count _ _ _ e
      have ht : trues (marksL n) = 3 * n := by
        unfold marksL
        simp only [trues, trues_append, trues_replicate]
        simp
      have h0 : trues M' = 0 := by omega
      simp only [onceFin, trues_zero, h0, decide_true, h, ← this, Bool.and_self]
def splitsM (v : Int) (L : List (List Int)) : Bool × Bool := if 1 ≤ v ∧ v ≤ 10 ∧ L.length ≤ 10 then (decide ((L.length : Int) = v) && (ordB L && splitI v L (List.replicate (3 * v.toNat + 2) false)), true) else (false, false)
theorem sAreSplits_ev (v : Int) (L : List (List Int)) (hL : L.length ≤ 1048576) (hm : ∀ x ∈ L, x.length ≤ 1048576) : Ev (fun k => spec_AreSplits.f k v L) (splitsM v L) := by
  unfold splitsM
  by_cases c : 1 ≤ v ∧ v ≤ 10
  · obtain ⟨c1, c2⟩ := c
    obtain ⟨n, rfl⟩ : ∃ n : Nat, v = (n : Int) := ⟨v.toNat, by omega⟩
    by_cases c3 : L.length ≤ 10
    · obtain ⟨K, hk⟩ := trSplit_ev n (by omega) (by omega) L hL hm
      refine ⟨K, fun k hk' => ?_⟩
      have a1 := hk k hk'
      have c3' : ¬ (L.length : Int) > 10 := by omega
      simp only [] at a1
      simp (disch := omega) only [if_true, if_false, Bool.false_eq_true, spec_AreSplits.f, spec_l1In.f, if_pos, Option.bind_some, decide_eq_true_eq, c3', a1, c1, c2, c3, and_self, true_and, Int.toNat_natCast, Int.natCast_inj]
      by_cases d : L.length = n
      · rw [split_same n (by omega) L d]
      · simp [d]
    · refine Ev.all (fun k => ?_)
      have c3' : (L.length : Int) > 10 := by omega
      simp (disch := omega) only [if_true, if_false, Bool.false_eq_true, spec_AreSplits.f, spec_l1In.f, if_pos, Option.bind_some, decide_eq_true_eq, c3, and_false]
  · refine Ev.all (fun k => ?_)
    rw [if_neg (fun h => c ⟨h.1, h.2.1⟩)]
    by_cases c1 : 1 ≤ v
    · have c2 : ¬ v ≤ 10 := fun h => c ⟨c1, h⟩
      simp [spec_AreSplits.f, spec_l1In.f, c1, c2]
    · simp [spec_AreSplits.f, spec_l1In.f, c1]
theorem AreSplits_ev (v : Int) (L : List (List Int)) (hL : L.length ≤ 1048576) (hm : ∀ x ∈ L, x.length ≤ 1048576) : Ev (fun k => impl_AreSplits.f k v L) (splitsM v L) := by
  unfold splitsM
  by_cases c : 1 ≤ v ∧ v ≤ 10
  · obtain ⟨c1, c2⟩ := c
    obtain ⟨n, rfl⟩ : ∃ n : Nat, v = (n : Int) := ⟨v.toNat, by omega⟩
    have e0 : wrap64 (3 * (n : Int)) = 3 * (n : Int) := w64 (by omega) (by omega)
    by_cases c3 : L.length ≤ 10
    · obtain ⟨K, hk⟩ := isSplit_ev n (by omega) L hL hm
      refine ⟨K, fun k hk' => ?_⟩
      have a1 := hk k hk'
      have c3' : ¬ (L.length : Int) > 10 := by omega
      simp only [] at a1
      simp (disch := omega) only [if_true, if_false, Bool.false_eq_true, impl_AreSplits.f, impl_isMany.f, if_pos, Option.bind_some, decide_eq_true_eq, c3', e0, a1, c1, c2, c3, and_self, true_and, Int.toNat_natCast, Int.natCast_inj]
    · refine Ev.all (fun k => ?_)
      have c3' : (L.length : Int) > 10 := by omega
      simp (disch := omega) only [if_true, if_false, Bool.false_eq_true, impl_AreSplits.f, impl_isMany.f, if_pos, Option.bind_some, decide_eq_true_eq, c3, and_false]
  · refine Ev.all (fun k => ?_)
    rw [if_neg (fun h => c ⟨h.1, h.2.1⟩)]
    by_cases c1 : 1 ≤ v
    · have c2 : ¬ v ≤ 10 := fun h => c ⟨c1, h⟩
      simp [impl_AreSplits.f, impl_isMany.f, c1, c2]
    · simp [impl_AreSplits.f, impl_isMany.f, c1]
theorem FnExactAreSplits : laws_FnExactAreSplits.Pure := by
  intro v L hv hb hm hw
  obtain ⟨r0, hz, hz2⟩ := szIntSS_ev L hb hm
  obtain ⟨K0, h0⟩ := hz
  by_cases c : r0 < 0
  · refine ⟨K0, ?_⟩
    have a0 := h0 K0 (Nat.le_refl _)
    simp only [] at a0
    simp only [laws_FnExactAreSplits.f, a0, Option.bind_some, c, if_true]
  · obtain ⟨hL, htot⟩ := hz2 c
    have hmm : ∀ x ∈ L, x.length ≤ 1048576 := fun x hx => by
      have := totL_mem L x hx
      omega
    obtain ⟨r, hS, hI⟩ : ∃ (r : Bool × Bool), Ev (fun k => spec_AreSplits.f k v L) r ∧ Ev (fun k => impl_AreSplits.f k v L) r := by
      exact ⟨_, sAreSplits_ev v L hL hmm, AreSplits_ev v L hL hmm⟩
    obtain ⟨K1, h1⟩ := toIntSS_ev L hL hmm
    obtain ⟨K2, h2⟩ := hS
    obtain ⟨K3, h3⟩ := hI
    obtain ⟨K4, h4⟩ := eqIntSS_same L hL hmm
    obtain ⟨K, hK⟩ : ∃ K, K = K0 + K1 + K2 + K3 + K4 := ⟨_, rfl⟩
    have a0 := h0 (K + 1) (by omega)
    have a1 := h1 (K + 1) (by omega)
    have a1' := h1 K (by omega)
    have a2 := h2 (K + 1) (by omega)
    have a3 := h3 (K + 1) (by omega)
    have a4 := h4 K (by omega)
    simp only [] at a0 a1 a1' a2 a3 a4
    refine ⟨K + 1, ?_⟩
    simp only [laws_FnExactAreSplits.f, laws_FnExactAreSplits.j0, c, a0, a1, a1', a2, a3, a4, Option.bind_some, bne_self_eq_false, Bool.false_eq_true, if_false, if_true]
end Go.Proofs.Yteeniaklmgcahaa.Pure
