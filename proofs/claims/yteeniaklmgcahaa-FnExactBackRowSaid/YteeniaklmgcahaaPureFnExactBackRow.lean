/- The law FnExactBackRow holds for every input: what the program's function computes is what the reference's computes. Conditions: none but the statement's own. -/
import Derived.Test.YteeniaklmgcahaaPFnExactBackRowx3
import Derived.Test.YteeniaklmgcahaaAid
namespace Go.Proofs.Yteeniaklmgcahaa.Pure
open Go.RowKit Go.Proofs.Yteeniaklmgcahaa.PFnExactBackRow Go.Proofs.YteeniaklmgcahaaW.PrintWords Go.Proofs.YteeniaklmgcahaaW.PrintLast Go.Proofs.Yteeniaklmgcahaa.Aid
set_option linter.unusedVariables false
set_option linter.unusedSimpArgs false
theorem toIntS_l0 (xs : List Int) (hx : xs.length ≤ 1048576) : ∀ (t : List Int) (i : Nat) (ys : List Int), xs.drop i = t → i ≤ xs.length → ys.length = xs.length → ys.take i = xs.take i → Ev (fun k => laws_toIntS.l0 k xs ys (i : Int)) xs
  | [], i, ys, h, hi, hl, he => by
    have h1 := dropNil h
    obtain rfl : ys = xs := by
      have : i = xs.length := by omega
      subst this
      rw [List.take_of_length_le (by omega), List.take_of_length_le (by omega)] at he
      exact he
    refine Ev.of1 (fun k => ?_)
    simp (disch := omega) only [if_true, if_false, laws_toIntS.l0, if_neg]
  | x :: t, i, ys, h, hi, hl, he => by
    obtain ⟨h1, h2, h3⟩ := dropCons h
    refine Ev.step (f := fun k => laws_toIntS.l0 k xs (ys.set i x) ((i + 1 : Nat) : Int)) (fun k => ?_) (toIntS_l0 xs hx t (i + 1) _ h3 (by omega) (by simpa using hl) ?_)
    · simp (disch := omega) only [if_true, if_false, laws_toIntS.l0, if_pos, w64s, h2, toNat_cast]
    · rw [take_succ_at h, List.take_add_one, List.take_set_of_le (by omega), he]
      simp [hl, h1]
theorem toIntS_ev (xs : List Int) (hx : xs.length ≤ 1048576) : Ev (fun k => laws_toIntS.f k xs) xs := by
  refine Ev.congr (fun k => ?_) (toIntS_l0 xs hx xs 0 (List.replicate xs.length 0) rfl (by omega) (by simp) rfl)
  unfold laws_toIntS.f
  rw [if_pos (by omega), if_pos (by omega)]
  rfl
theorem eqIntS_l0 (xs ys : List Int) (hx : xs.length ≤ 1048576) (hl : xs.length = ys.length) : ∀ (s t : List Int) (i : Nat), xs.drop i = s → ys.drop i = t → Ev (fun k => laws_eqIntS.l0 k xs ys (i : Int)) (decide (s = t))
  | [], t, i, h, h' => by
    have h1 := dropNil h
    have h2 : t = [] := by rw [← h']; simp; omega
    subst h2
    refine Ev.of1 (fun k => ?_)
    simp (disch := omega) only [if_true, if_false, laws_eqIntS.l0, if_neg]
    simp
  | x :: s, [], i, h, h' => by
    have h1 := dropLt h
    have h2 := dropNil h'
    omega
  | x :: s, y :: t, i, h, h' => by
    obtain ⟨h1, h2, h3⟩ := dropCons h
    obtain ⟨h1', h2', h3'⟩ := dropCons h'
    by_cases c : x = y
    · refine Ev.step (f := fun k => laws_eqIntS.l0 k xs ys ((i + 1 : Nat) : Int)) (fun k => ?_) ((eqIntS_l0 xs ys hx hl s t (i + 1) h3 h3').cast (by simp [c]))
      simp (disch := omega) only [if_true, if_false, laws_eqIntS.l0, if_pos, w64s, h2, h2']
    · refine Ev.of1 (fun k => ?_)
      simp (disch := omega) only [if_true, if_false, laws_eqIntS.l0, if_pos, if_neg, h2, h2']
      simp [c]
theorem eqIntS_ev (xs ys : List Int) (hx : xs.length ≤ 1048576) : Ev (fun k => laws_eqIntS.f k xs ys) (decide (xs = ys)) := by
  by_cases c : xs.length = ys.length
  · refine Ev.congr (fun k => ?_) (eqIntS_l0 xs ys hx c xs ys 0 rfl rfl)
    unfold laws_eqIntS.f
    rw [if_pos (by omega)]
    rfl
  · refine Ev.all (fun k => ?_)
    unfold laws_eqIntS.f
    rw [if_neg (by omega)]
    have : xs ≠ ys := fun e => c (by rw [e])
    simp [this]
theorem eqIntS_same (xs : List Int) (hx : xs.length ≤ 1048576) : Ev (fun k => laws_eqIntS.f k xs xs) true := (eqIntS_ev xs xs hx).cast (by simp)
theorem l1All_l0 (lo hi : Int) (xs : List Int) (hx : xs.length ≤ 1048576) : ∀ (t : List Int) (i : Nat), xs.drop i = t → Ev (fun k => spec_l1All.l0 k lo hi xs xs.length (i : Int)) (t.all fun n => decide (lo ≤ n ∧ n ≤ hi))
  | [], i, h => by
    have h1 := dropNil h
    refine Ev.of1 (fun k => ?_)
    simp (disch := omega) only [if_true, if_false, spec_l1All.l0, if_neg]
    rfl
  | x :: t, i, h => by
    obtain ⟨h1, h2, h3⟩ := dropCons h
    by_cases c : lo ≤ x ∧ x ≤ hi
    · refine Ev.step (f := fun k => spec_l1All.l0 k lo hi xs xs.length ((i + 1 : Nat) : Int)) (fun k => ?_) ((l1All_l0 lo hi xs hx t (i + 1) h3).cast (by simp [c]))
      simp (disch := omega) only [if_true, if_false, spec_l1All.l0, spec_l1In.f, if_pos, w64s, h2, Option.bind_some, decide_eq_true_eq]
    · refine Ev.of1 (fun k => ?_)
      simp (disch := omega) only [if_true, if_false, spec_l1All.l0, spec_l1In.f, if_pos, h2]
      by_cases c1 : lo ≤ x
      · have c2 : ¬ x ≤ hi := fun h' => c ⟨c1, h'⟩
        simp [c1, c2]
      · simp [c1]
theorem l1All_ev (xs : List Int) (lo hi : Int) (hx : xs.length ≤ 1048576) : Ev (fun k => spec_l1All.f k xs lo hi) (xs.all fun n => decide (lo ≤ n ∧ n ≤ hi)) :=
  Ev.congr (fun k => rfl) (l1All_l0 lo hi xs hx xs 0 rfl)
def rowB (l : List Int) : Bool := decide ((l.length : Int) ≤ 40) && l.all fun n => decide (0 ≤ n ∧ n ≤ 20)
theorem roGood_ev (xs : List Int) (hx : xs.length ≤ 1048576) : Ev (fun k => spec_roGood.f k xs) (rowB xs) := by
  unfold spec_roGood.f rowB
  by_cases c : (xs.length : Int) ≤ 40
  · simp only [c, if_true]
    refine (Ev.bind (l1All_ev xs 0 20 hx) (Ev.now _)).cast (by simp)
  · simp only [c, if_false]
    exact (Ev.now _).cast (by simp)
theorem roBack_l0 (xs : List Int) (hx : xs.length ≤ 1048576) : ∀ (i : Nat) (x4 : Int) (acc : List Int), x4 + 1 = i → i ≤ xs.length → acc.length + i ≤ 1048576 → Ev (fun k => spec_roBack.l0 k xs acc x4) (acc ++ (xs.take i).reverse)
  | 0, x4, acc, h, hi, ha => by
    refine Ev.of1 (fun k => ?_)
    simp (disch := omega) only [if_true, if_false, spec_roBack.l0, if_neg]
    simp
  | j + 1, x4, acc, h, hi, ha => by
    obtain rfl : x4 = (j : Int) := by omega
    have e1 : wrap64 ((j : Int) - 1) = (j : Int) - 1 := w64 (by omega) (by omega)
    refine Ev.step (f := fun k => spec_roBack.l0 k xs (acc ++ [rd xs (j : Int)]) ((j : Int) - 1)) (fun k => ?_) ((roBack_l0 xs hx j _ _ (by omega) (by omega) (by simp; omega)).cast ?_)
    · simp (disch := omega) only [if_true, if_false, spec_roBack.l0, if_pos, e1]
    · rw [rd_lt (by omega : j < xs.length), List.take_succ_eq_append_getElem (by omega : j < xs.length), List.reverse_append, List.append_assoc]
      rfl
theorem roBack_ev (xs : List Int) (hx : xs.length ≤ 1048576) : Ev (fun k => spec_roBack.f k xs) xs.reverse := by
  refine Ev.congr (fun k => ?_) ((roBack_l0 xs hx xs.length ((xs.length : Int) - 1) [] (by omega) (Nat.le_refl _) (by simp; omega)).cast (by simp))
  unfold spec_roBack.f
  rw [w64 (by omega) (by omega)]
theorem IsRow_l0 (xs : List Int) (hx : xs.length ≤ 1048576) : ∀ (t : List Int) (i : Nat), xs.drop i = t → Ev (fun k => impl_IsRow.l0 k xs xs xs.length (i : Int)) (decide ((xs.length : Int) ≤ 40) && t.all fun n => decide (0 ≤ n ∧ n ≤ 20))
  | [], i, h => by
    have h1 := dropNil h
    refine Ev.of1 (fun k => ?_)
    simp (disch := omega) only [if_true, if_false, impl_IsRow.l0, if_neg]
    simp
  | x :: t, i, h => by
    obtain ⟨h1, h2, h3⟩ := dropCons h
    by_cases c : 0 ≤ x ∧ x ≤ 20
    · refine Ev.step (f := fun k => impl_IsRow.l0 k xs xs xs.length ((i + 1 : Nat) : Int)) (fun k => ?_) ((IsRow_l0 xs hx t (i + 1) h3).cast (by simp [c]))
      simp (disch := omega) only [if_true, if_false, impl_IsRow.l0, if_pos, if_neg, w64s, h2]
    · refine Ev.of1 (fun k => ?_)
      simp (disch := omega) only [if_true, if_false, impl_IsRow.l0, if_pos, h2]
      by_cases c1 : x < 0
      · have : ¬ 0 ≤ x := by omega
        simp [c1, this]
      · have c2 : 20 < x := by omega
        have : ¬ x ≤ 20 := by omega
        simp [c1, c2, this]
theorem IsRow_ev (xs : List Int) (hx : xs.length ≤ 1048576) : Ev (fun k => impl_IsRow.f k xs) (rowB xs) :=
  Ev.congr (fun k => rfl) (IsRow_l0 xs hx xs 0 rfl)
theorem Clone_at (xs : List Int) (hx : xs.length ≤ 1048576) : slices_Clone_int_int.f xs = some xs := by
  unfold slices_Clone_int_int.f
  rw [if_pos (by omega)]
theorem set_mid {α : Type} (A : List α) (x v : α) (T : List α) : (A ++ x :: T).set A.length v = A ++ v :: T := by simp
theorem rd_mid (A : List Int) (x : Int) (T : List Int) : rd (A ++ x :: T) (A.length : Int) = x := rd_get (by simp)
theorem Reverse_l0 : ∀ (n : Nat) (A M B : List Int), M.length ≤ n → (A ++ M ++ B).length ≤ 1048576 → ∀ i j : Int, i = A.length → j = (A.length : Int) + M.length - 1 → Ev (fun k => slices_Reverse_int_int.l0 k (A ++ M ++ B) i j) (A ++ M.reverse ++ B)
  | n, A, [], B, hn, hl, i, j, hi, hj => by
    refine Ev.of1 (fun k => ?_)
    simp at hj
    simp (disch := omega) only [if_true, if_false, slices_Reverse_int_int.l0, if_neg, List.reverse_nil]
  | n, A, [x], B, hn, hl, i, j, hi, hj => by
    refine Ev.of1 (fun k => ?_)
    simp at hj
    simp (disch := omega) only [if_true, if_false, slices_Reverse_int_int.l0, if_neg, List.reverse_singleton]
  | 0, A, x :: y :: M, B, hn, hl, i, j, hi, hj => by simp at hn
  | 1, A, x :: y :: M, B, hn, hl, i, j, hi, hj => by simp at hn
  | n + 2, A, x :: y :: M, B, hn, hl, i, j, hi, hj => by
    obtain ⟨N, z, e⟩ : ∃ N z, y :: M = N ++ [z] := ⟨(y :: M).dropLast, (y :: M).getLast (by simp), (List.dropLast_concat_getLast _).symm⟩
    have eN : N.length = M.length := by
      have := congrArg List.length e
      simp at this
      omega
    rw [e]
    rw [e] at hl hj
    simp only [List.length_append, List.length_cons, List.length_nil] at hn hl hj
    have e1 : A ++ x :: (N ++ [z]) ++ B = (A ++ x :: N) ++ z :: B := by simp
    have e2 : A ++ x :: (N ++ [z]) ++ B = A ++ x :: (N ++ z :: B) := by simp
    have r1 : rd (A ++ x :: (N ++ [z]) ++ B) i = x := by rw [e2, hi]; exact rd_mid _ _ _
    have hj' : j = ((A ++ x :: N).length : Int) := by rw [hj]; simp; omega
    have r2 : rd (A ++ x :: (N ++ [z]) ++ B) j = z := by rw [e1, hj']; exact rd_mid _ _ _
    have s1 : ((A ++ x :: (N ++ [z]) ++ B).set i.toNat z).set j.toNat x = (A ++ [z]) ++ N ++ (x :: B) := by
      have t1 : i.toNat = A.length := by omega
      rw [e2, t1, set_mid]
      have t2 : A ++ z :: (N ++ z :: B) = (A ++ z :: N) ++ z :: B := by simp
      have t3 : j.toNat = (A ++ z :: N).length := by rw [hj]; simp; omega
      rw [t2, t3, set_mid]
      simp
    have hlen : (A ++ x :: (N ++ [z]) ++ B).length = A.length + (N.length + 2) + B.length := by simp; omega
    have w1 : wrap64 (i + 1) = i + 1 := w64 (by omega) (by omega)
    have w2 : wrap64 (j - 1) = j - 1 := w64 (by omega) (by omega)
    refine Ev.step (f := fun k => slices_Reverse_int_int.l0 k ((A ++ [z]) ++ N ++ (x :: B)) (i + 1) (j - 1)) (fun k => ?_) ((Reverse_l0 (n + 1) (A ++ [z]) N (x :: B) (by omega) (by simp; omega) (i + 1) (j - 1) (by simp; omega) (by simp; omega)).cast (by simp))
    simp (disch := omega) only [if_true, if_false, slices_Reverse_int_int.l0, if_pos, r1, r2, s1, w1, w2]
theorem Reverse_ev (xs : List Int) (hx : xs.length ≤ 1048576) : Ev (fun k => slices_Reverse_int_int.f k xs) xs.reverse := by
  have := Reverse_l0 xs.length [] xs [] (Nat.le_refl _) (by simpa using hx) 0 ((xs.length : Int) - 1) (by simp) (by simp)
  simp only [List.nil_append, List.append_nil] at this
  refine Ev.congr (fun k => ?_) this
  unfold slices_Reverse_int_int.f
  rw [w64 (by omega) (by omega)]
theorem back_ev (xs : List Int) (hx : xs.length ≤ 1048576) : Ev (fun k => impl_back.f k xs) xs.reverse := by
  unfold impl_back.f
  simp only [Clone_at xs hx, Option.bind_some]
  exact Ev.bind (Reverse_ev xs hx) (Ev.now _)
theorem sBackRow_ev (xs : List Int) (hx : xs.length ≤ 1048576) : Ev (fun k => spec_BackRow.f k xs) (if rowB xs = true then (xs.reverse, true) else ([], false)) := by
  unfold spec_BackRow.f
  refine Ev.bind (roGood_ev xs hx) ?_
  by_cases c : rowB xs = true
  · simp only [c, if_true]
    exact Ev.bind (roBack_ev xs hx) (Ev.now _)
  · simp only [c, if_false]
    exact Ev.now _
theorem BackRow_ev (xs : List Int) (hx : xs.length ≤ 1048576) : Ev (fun k => impl_BackRow.f k xs) (if rowB xs = true then (xs.reverse, true) else ([], false)) := by
  unfold impl_BackRow.f
  refine Ev.bind (IsRow_ev xs hx) ?_
  by_cases c : rowB xs = true
  · simp only [c, if_true]
    exact Ev.bind (back_ev xs hx) (Ev.now _)
  · simp only [c, if_false]
    exact Ev.now _
theorem markIntS_l0 : ∀ (t : List Int) (xs : List Int) (i : Nat) (m : Int), xs.length ≤ 1048576 → xs.drop i = t → 0 ≤ m → m + t.length ≤ 9223372036854775807 → Ev (fun k => laws_markIntS.l0 k xs m (i : Int)) (m + t.length, xs.take i ++ upFrom t.length m)
  | [], xs, i, m, hx, h, hm, hb => by
    have h1 := dropNil h
    refine Ev.of1 (fun k => ?_)
    simp (disch := omega) only [if_true, if_false, laws_markIntS.l0, if_neg]
    simp [upFrom, List.take_of_length_le h1]
  | x :: t, xs, i, m, hx, h, hm, hb => by
    obtain ⟨h1, h2, h3⟩ := dropCons h
    simp only [List.length_cons] at hb
    have e : (xs.set i m).drop (i + 1) = t := by rw [List.drop_set_of_lt (by omega), h3]
    refine Ev.step (f := fun k => laws_markIntS.l0 k (xs.set i m) (m + 1) ((i + 1 : Nat) : Int)) (fun k => ?_) ((markIntS_l0 t (xs.set i m) (i + 1) (m + 1) (by simpa using hx) e (by omega) (by omega)).cast ?_)
    · have e1 : wrap64 (m + 1) = m + 1 := w64 (by omega) (by omega)
      simp (disch := omega) only [if_true, if_false, laws_markIntS.l0, if_pos, w64s, e1, toNat_cast]
    · rw [set_at _ _ _ _ _ h]
      have : (xs.take i ++ m :: t).take (i + 1) = xs.take i ++ [m] := by
        have hl : (xs.take i).length = i := by simp; omega
        rw [List.take_append, List.take_of_length_le (by omega), hl, show i + 1 - i = 1 by omega]
        rfl
      rw [this]
      simp [upFrom]
      omega
theorem markIntS_ev (xs : List Int) (hx : xs.length ≤ 1048576) : Ev (fun k => laws_markIntS.f k xs 1) (1 + xs.length, upFrom xs.length 1) :=
  (Ev.congr (fun k => rfl) (markIntS_l0 xs xs 0 1 hx rfl (by omega) (by omega))).cast (by simp)
theorem heldIntS_l0 (xs : List Int) (hx : xs.length ≤ 1048576) : ∀ (n : Nat) (i : Nat) (m : Int), xs.drop i = upFrom n m → 0 ≤ m → m + n ≤ 9223372036854775807 → Ev (fun k => laws_heldIntS.l0 k xs m (i : Int)) (m + n)
  | 0, i, m, h, hm, hb => by
    have h1 := dropNil h
    refine Ev.of1 (fun k => ?_)
    simp (disch := omega) only [if_true, if_false, laws_heldIntS.l0, if_neg]
    simp
  | n + 1, i, m, h, hm, hb => by
    obtain ⟨h1, h2, h3⟩ := dropCons (x := m) (t := upFrom n (m + 1)) h
    refine Ev.step (f := fun k => laws_heldIntS.l0 k xs (m + 1) ((i + 1 : Nat) : Int)) (fun k => ?_) ((heldIntS_l0 xs hx n (i + 1) (m + 1) h3 (by omega) (by omega)).cast (by omega))
    have e1 : wrap64 (m + 1) = m + 1 := w64 (by omega) (by omega)
    simp (disch := omega) only [if_true, if_false, laws_heldIntS.l0, if_pos, w64s, e1, h2]
theorem heldIntS_ev (n : Nat) (hx : n ≤ 1048576) : Ev (fun k => laws_heldIntS.f k (upFrom n 1) 1) (1 + n) :=
  Ev.congr (fun k => rfl) (heldIntS_l0 (upFrom n 1) (by rw [upFrom_length]; exact hx) n 0 1 rfl (by omega) (by omega))
theorem FnExactBackRow : laws_FnExactBackRow.Pure := by
  intro l hm hr hw
  by_cases c : (l.length : Int) > 1048576
  · exact ⟨0, by unfold laws_FnExactBackRow.f; rw [if_pos c]⟩
  · have hl : l.length ≤ 1048576 := by omega
    obtain ⟨r, b, hR, hS, hI⟩ : ∃ (r : List Int) (b : Bool), r.length ≤ 1048576 ∧ Ev (fun k => spec_BackRow.f k l) (r, b) ∧ Ev (fun k => impl_BackRow.f k l) (r, b) := by
      by_cases c : rowB l = true
      · exact ⟨l.reverse, true, by simpa using hl, (sBackRow_ev l hl).cast (if_pos c), (BackRow_ev l hl).cast (if_pos c)⟩
      · exact ⟨[], false, by simp, (sBackRow_ev l hl).cast (if_neg c), (BackRow_ev l hl).cast (if_neg c)⟩
    obtain ⟨K1, h1⟩ := toIntS_ev l hl
    obtain ⟨K2, h2⟩ := hS
    obtain ⟨K3, h3⟩ := hI
    obtain ⟨K4, h4⟩ := eqIntS_same l hl
    obtain ⟨K5, h5⟩ := eqIntS_same r hR
    obtain ⟨K6, h6⟩ := markIntS_ev l hl
    obtain ⟨K7, h7⟩ := markIntS_ev r hR
    obtain ⟨K8, h8⟩ := heldIntS_ev r.length hR
    obtain ⟨K, hK⟩ : ∃ K, K = K1 + K2 + K3 + K4 + K5 + K6 + K7 + K8 := ⟨_, rfl⟩
    have n1 : ¬ (1 + (l.length : Int) < 0) := by omega
    have n2 : ¬ (1 + (r.length : Int) < 0) := by omega
    have a1_0 := h1 (K) (by omega)
    have a1_1 := h1 (K + 1) (by omega)
    have a1_2 := h1 (K + 1 + 1) (by omega)
    have a1_3 := h1 (K + 1 + 1 + 1) (by omega)
    have a2_0 := h2 (K) (by omega)
    have a2_1 := h2 (K + 1) (by omega)
    have a2_2 := h2 (K + 1 + 1) (by omega)
    have a2_3 := h2 (K + 1 + 1 + 1) (by omega)
    have a3_0 := h3 (K) (by omega)
    have a3_1 := h3 (K + 1) (by omega)
    have a3_2 := h3 (K + 1 + 1) (by omega)
    have a3_3 := h3 (K + 1 + 1 + 1) (by omega)
    have a4_0 := h4 (K) (by omega)
    have a4_1 := h4 (K + 1) (by omega)
    have a4_2 := h4 (K + 1 + 1) (by omega)
    have a4_3 := h4 (K + 1 + 1 + 1) (by omega)
    have a5_0 := h5 (K) (by omega)
    have a5_1 := h5 (K + 1) (by omega)
    have a5_2 := h5 (K + 1 + 1) (by omega)
    have a5_3 := h5 (K + 1 + 1 + 1) (by omega)
    have a6_0 := h6 (K) (by omega)
    have a6_1 := h6 (K + 1) (by omega)
    have a6_2 := h6 (K + 1 + 1) (by omega)
    have a6_3 := h6 (K + 1 + 1 + 1) (by omega)
    have a7_0 := h7 (K) (by omega)
    have a7_1 := h7 (K + 1) (by omega)
    have a7_2 := h7 (K + 1 + 1) (by omega)
    have a7_3 := h7 (K + 1 + 1 + 1) (by omega)
    have a8_0 := h8 (K) (by omega)
    have a8_1 := h8 (K + 1) (by omega)
    have a8_2 := h8 (K + 1 + 1) (by omega)
    have a8_3 := h8 (K + 1 + 1 + 1) (by omega)
    clear h1 h2 h3 h4 h5 h6 h7 h8 hK hm hr hw hl hR
    refine ⟨K + 1 + 1 + 1, ?_⟩
    simp only [laws_FnExactBackRow.f, laws_FnExactBackRow.j0, laws_FnExactBackRow.j1, laws_FnExactBackRow.j2, c, n1, n2, a1_0, a1_1, a1_2, a1_3, a2_0, a2_1, a2_2, a2_3, a3_0, a3_1, a3_2, a3_3, a4_0, a4_1, a4_2, a4_3, a5_0, a5_1, a5_2, a5_3, a6_0, a6_1, a6_2, a6_3, a7_0, a7_1, a7_2, a7_3, a8_0, a8_1, a8_2, a8_3, Option.bind_some, bne_self_eq_false, Bool.false_eq_true, if_false, if_true]
end Go.Proofs.Yteeniaklmgcahaa.Pure
