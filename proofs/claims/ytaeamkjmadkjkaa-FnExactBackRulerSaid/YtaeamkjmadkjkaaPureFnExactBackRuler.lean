/- The law FnExactBackRuler holds for every input: what the program's function computes is what the reference's computes. Conditions: none but the statement's own. -/
import Derived.Test.YtaeamkjmadkjkaaPFnExactBackRulerx4
import Derived.Test.YtaeamkjmadkjkaaAid
namespace Go.Proofs.Ytaeamkjmadkjkaa.Pure
open Go.RowKit Go.Proofs.Ytaeamkjmadkjkaa.PFnExactBackRuler Go.Proofs.YtaeamkjmadkjkaaW.PrintWords Go.Proofs.YtaeamkjmadkjkaaW.PrintLast Go.Proofs.Ytaeamkjmadkjkaa.Aid
set_option linter.unusedVariables false
set_option linter.unusedSimpArgs false
theorem toIntS_l0 (xs : List Int) (hx : xs.length ≤ 1048576) : ∀ (t : List Int) (i : Nat) (ys : List Int), xs.drop i = t → i ≤ xs.length → ys.length = xs.length → ys.take i = xs.take i → Ev (fun k => laws_toIntS.l0 k xs ys (i : Int)) xs
  | [], i, ys, h, hi, hl, he => by
    have h1 := dropNil h
    obtain rfl : ys = xs := by
      have : i = xs.length := by omega
      subst this
      rw [List.take_of_length_le (by omega), List.take_of_length_le (by omega)] at he
      exact he
    refine Ev.of1 (fun k => ?_)
    simp (disch := omega) only [if_true, if_false, laws_toIntS.l0, if_neg]
  | x :: t, i, ys, h, hi, hl, he => by
    obtain ⟨h1, h2, h3⟩ := dropCons h
    refine Ev.step (f := fun k => laws_toIntS.l0 k xs (ys.set i x) ((i + 1 : Nat) : Int)) (fun k => ?_) (toIntS_l0 xs hx t (i + 1) _ h3 (by omega) (by simpa using hl) ?_)
    · simp (disch := omega) only [if_true, if_false, laws_toIntS.l0, if_pos, w64s, h2, toNat_cast]
    · rw [take_succ_at h, List.take_add_one, List.take_set_of_le (by omega), he]
      simp [hl, h1]
theorem toIntS_ev (xs : List Int) (hx : xs.length ≤ 1048576) : Ev (fun k => laws_toIntS.f k xs) xs := by
  refine Ev.congr (fun k => ?_) (toIntS_l0 xs hx xs 0 (List.replicate xs.length 0) rfl (by omega) (by simp) rfl)
  unfold laws_toIntS.f
  rw [if_pos (by omega), if_pos (by omega)]
  rfl
theorem eqIntS_l0 (xs ys : List Int) (hx : xs.length ≤ 1048576) (hl : xs.length = ys.length) : ∀ (s t : List Int) (i : Nat), xs.drop i = s → ys.drop i = t → Ev (fun k => laws_eqIntS.l0 k xs ys (i : Int)) (decide (s = t))
  | [], t, i, h, h' => by
    have h1 := dropNil h
    have h2 : t = [] := by rw [← h']; simp; omega
    subst h2
    refine Ev.of1 (fun k => ?_)
    simp (disch := omega) only [if_true, if_false, laws_eqIntS.l0, if_neg]
    simp
  | x :: s, [], i, h, h' => by
    have h1 := dropLt h
    have h2 := dropNil h'
    omega
  | x :: s, y :: t, i, h, h' => by
    obtain ⟨h1, h2, h3⟩ := dropCons h
    obtain ⟨h1', h2', h3'⟩ := dropCons h'
    by_cases c : x = y
    · refine Ev.step (f := fun k => laws_eqIntS.l0 k xs ys ((i + 1 : Nat) : Int)) (fun k => ?_) ((eqIntS_l0 xs ys hx hl s t (i + 1) h3 h3').cast (by simp [c]))
      simp (disch := omega) only [if_true, if_false, laws_eqIntS.l0, if_pos, w64s, h2, h2']
    · refine Ev.of1 (fun k => ?_)
      simp (disch := omega) only [if_true, if_false, laws_eqIntS.l0, if_pos, if_neg, h2, h2']
      simp [c]
theorem eqIntS_ev (xs ys : List Int) (hx : xs.length ≤ 1048576) : Ev (fun k => laws_eqIntS.f k xs ys) (decide (xs = ys)) := by
  by_cases c : xs.length = ys.length
  · refine Ev.congr (fun k => ?_) (eqIntS_l0 xs ys hx c xs ys 0 rfl rfl)
    unfold laws_eqIntS.f
    rw [if_pos (by omega)]
    rfl
  · refine Ev.all (fun k => ?_)
    unfold laws_eqIntS.f
    rw [if_neg (by omega)]
    have : xs ≠ ys := fun e => c (by rw [e])
    simp [this]
theorem eqIntS_same (xs : List Int) (hx : xs.length ≤ 1048576) : Ev (fun k => laws_eqIntS.f k xs xs) true := (eqIntS_ev xs xs hx).cast (by simp)
def incFrom (p : Int) : List Int → Bool
  | [] => true
  | x :: t => decide (p < x) && incFrom x t
def lastR (xs : List Int) : Int := rd xs ((xs.length : Int) - 1)
def rulerB (xs : List Int) : Bool := decide (1 ≤ (xs.length : Int)) && (decide ((xs.length : Int) ≤ 12) && (decide (rd xs 0 = 0) && (incFrom (rd xs 0) (xs.drop 1) && decide (lastR xs ≤ 60))))
theorem ruGood_l0 (xs : List Int) (hx : xs.length ≤ 1048576) : ∀ (t : List Int) (j : Nat) (p : Int), xs.drop j = p :: t → Ev (fun k => spec_ruGood.l0 k xs ((j + 1 : Nat) : Int)) (incFrom p t && decide (lastR xs ≤ 60))
  | [], j, p, h => by
    obtain ⟨h1, h2, h3⟩ := dropCons h
    have h4 := dropNil h3
    refine Ev.of1 (fun k => ?_)
    simp (disch := omega) only [if_true, if_false, spec_ruGood.l0, if_neg, if_pos, w64]
    simp [incFrom, lastR]
    exact decide_eq_decide.2 Iff.rfl
  | x :: t, j, p, h => by
    obtain ⟨h1, h2, h3⟩ := dropCons h
    obtain ⟨h1', h2', h3'⟩ := dropCons h3
    by_cases c : p < x
    · refine Ev.step (f := fun k => spec_ruGood.l0 k xs ((j + 1 + 1 : Nat) : Int)) (fun k => ?_) ((ruGood_l0 xs hx t (j + 1) x h3).cast (by simp [incFrom, c]))
      simp (disch := omega) only [if_true, if_false, spec_ruGood.l0, if_pos, if_neg, w64s, w64q, h2, h2']
    · refine Ev.of1 (fun k => ?_)
      simp (disch := omega) only [if_true, if_false, spec_ruGood.l0, if_pos, w64q, h2, h2']
      simp [incFrom, c]
theorem ruGood_ev (xs : List Int) (hx : xs.length ≤ 1048576) : Ev (fun k => spec_ruGood.f k xs) (rulerB xs) := by
  by_cases c1 : 1 ≤ (xs.length : Int)
  · by_cases c2 : (xs.length : Int) ≤ 12
    · obtain ⟨x, t, e⟩ : ∃ x t, xs = x :: t := by
        cases xs with
        | nil => simp at c1
        | cons x t => exact ⟨x, t, rfl⟩
      have e0 : xs.drop 0 = x :: t := by rw [e]; rfl
      have e1 : xs.drop 1 = t := dropSucc e0
      have e2 : rd xs 0 = x := rd_get (i := 0) (dropGet e0)
      by_cases c3 : x = 0
      · refine Ev.step (f := fun k => spec_ruGood.l0 k xs ((0 + 1 : Nat) : Int)) (fun k => ?_) ((ruGood_l0 xs hx t 0 x e0).cast ?_)
        · simp (disch := omega) only [if_true, if_false, spec_ruGood.f, spec_ruGood.j0, spec_l1In.f, if_pos, Option.bind_some, decide_eq_true_eq, e2]
          simp only [c3]
          simp
        · simp [rulerB, c1, c2, c3, e1, e2]
      · refine Ev.of1 (fun k => ?_)
        simp (disch := omega) only [if_true, if_false, spec_ruGood.f, spec_ruGood.j0, spec_l1In.f, if_pos, Option.bind_some, decide_eq_true_eq, e2]
        simp [rulerB, c3, e2, spec_ruGood.j0]
    · refine Ev.of1 (fun k => ?_)
      simp [spec_ruGood.f, spec_ruGood.j0, spec_l1In.f, c1, c2, rulerB]
  · refine Ev.of1 (fun k => ?_)
    simp [spec_ruGood.f, spec_ruGood.j0, spec_l1In.f, c1, rulerB]
theorem ruLength_at (xs : List Int) (hx : xs.length ≤ 1048576) (h : 1 ≤ xs.length) : spec_ruLength.f xs = some (lastR xs) := by
  simp (disch := omega) only [if_true, if_false, spec_ruLength.f, if_pos, w64, lastR]
theorem rulerB_pos {xs : List Int} (h : rulerB xs = true) : 1 ≤ xs.length ∧ xs.length ≤ 12 ∧ rd xs 0 = 0 ∧ incFrom (rd xs 0) (xs.drop 1) = true ∧ lastR xs ≤ 60 := by
  simp only [rulerB, Bool.and_eq_true, decide_eq_true_eq] at h
  obtain ⟨ha, hb, hc, hd, he⟩ := h
  exact ⟨by omega, by omega, hc, hd, he⟩
theorem IsRuler_l0 (xs : List Int) (hx : xs.length ≤ 1048576) : ∀ (t : List Int) (j : Nat) (p : Int), xs.drop j = p :: t → Ev (fun k => impl_IsRuler.l0 k xs ((j + 1 : Nat) : Int)) (incFrom p t)
  | [], j, p, h => by
    obtain ⟨h1, h2, h3⟩ := dropCons h
    have h4 := dropNil h3
    refine Ev.of1 (fun k => ?_)
    simp (disch := omega) only [if_true, if_false, impl_IsRuler.l0, if_neg]
    rfl
  | x :: t, j, p, h => by
    obtain ⟨h1, h2, h3⟩ := dropCons h
    obtain ⟨h1', h2', h3'⟩ := dropCons h3
    by_cases c : p < x
    · refine Ev.step (f := fun k => impl_IsRuler.l0 k xs ((j + 1 + 1 : Nat) : Int)) (fun k => ?_) ((IsRuler_l0 xs hx t (j + 1) x h3).cast (by simp [incFrom, c]))
      simp (disch := omega) only [if_true, if_false, impl_IsRuler.l0, if_pos, if_neg, w64s, w64q, h2, h2']
    · refine Ev.of1 (fun k => ?_)
      simp (disch := omega) only [if_true, if_false, impl_IsRuler.l0, if_pos, w64q, h2, h2']
      simp [incFrom, c]
theorem IsRuler_ev (xs : List Int) (hx : xs.length ≤ 1048576) : Ev (fun k => impl_IsRuler.f k xs) (rulerB xs) := by
  by_cases c1 : 1 ≤ (xs.length : Int)
  · by_cases c2 : (xs.length : Int) ≤ 12
    · obtain ⟨x, t, e⟩ : ∃ x t, xs = x :: t := by
        cases xs with
        | nil => simp at c1
        | cons x t => exact ⟨x, t, rfl⟩
      have e0 : xs.drop 0 = x :: t := by rw [e]; rfl
      have e1 : xs.drop 1 = t := dropSucc e0
      have e2 : rd xs 0 = x := rd_get (i := 0) (dropGet e0)
      by_cases c3 : x = 0
      · by_cases c4 : lastR xs ≤ 60
        · refine Ev.step (f := fun k => impl_IsRuler.l0 k xs ((0 + 1 : Nat) : Int)) (fun k => ?_) ((IsRuler_l0 xs hx t 0 x e0).cast ?_)
          · have c5 : ¬ rd xs ((xs.length : Int) - 1) > 60 := by unfold lastR at c4; omega
            simp (disch := omega) only [if_true, if_false, impl_IsRuler.f, impl_IsRuler.j0, if_pos, if_neg, e2, w64]
            simp only [c5]
            simp
          · simp [rulerB, c1, c2, c3, c4, e1, e2]
        · refine Ev.of1 (fun k => ?_)
          have c5 : rd xs ((xs.length : Int) - 1) > 60 := by unfold lastR at c4; omega
          simp (disch := omega) only [if_true, if_false, impl_IsRuler.f, impl_IsRuler.j0, if_pos, if_neg, e2, w64]
          simp [c5, rulerB, c4]
      · refine Ev.of1 (fun k => ?_)
        simp (disch := omega) only [if_true, if_false, impl_IsRuler.f, impl_IsRuler.j0, if_pos, if_neg, e2]
        simp [rulerB, c3, e2]
    · refine Ev.of1 (fun k => ?_)
      simp (disch := omega) only [if_true, if_false, impl_IsRuler.f, impl_IsRuler.j0, if_pos, if_neg]
      simp [c2, rulerB]
  · refine Ev.of1 (fun k => ?_)
    simp (disch := omega) only [if_true, if_false, impl_IsRuler.f, impl_IsRuler.j0, if_pos]
    simp [c1, rulerB]
def backL (xs : List Int) : Nat → List Int
  | 0 => []
  | j + 1 => wrap64 (lastR xs - rd xs (j : Int)) :: backL xs j
theorem backL_length (xs : List Int) : ∀ n, (backL xs n).length = n
  | 0 => rfl
  | n + 1 => by simp [backL, backL_length xs n]
theorem sBackRuler_l0 (xs : List Int) (hx : xs.length ≤ 1048576) : ∀ (i : Nat) (x5 : Int) (acc : List Int), x5 + 1 = i → i ≤ xs.length → acc.length + i ≤ 1048576 → Ev (fun k => spec_BackRuler.l0 k xs acc x5) (acc ++ backL xs i, true)
  | 0, x5, acc, h, hi, ha => by
    refine Ev.of1 (fun k => ?_)
    simp (disch := omega) only [if_true, if_false, spec_BackRuler.l0, if_neg]
    simp [backL]
  | j + 1, x5, acc, h, hi, ha => by
    obtain rfl : x5 = (j : Int) := by omega
    refine Ev.step (f := fun k => spec_BackRuler.l0 k xs (acc ++ [wrap64 (lastR xs - rd xs (j : Int))]) ((j : Int) - 1)) (fun k => ?_) ((sBackRuler_l0 xs hx j _ _ (by omega) (by omega) (by simp; omega)).cast (by simp [backL]))
    have e := ruLength_at xs hx (by omega)
    have e1 : wrap64 ((j : Int) - 1) = (j : Int) - 1 := w64 (by omega) (by omega)
    simp (disch := omega) only [if_true, if_false, spec_BackRuler.l0, if_pos, e, e1, Option.bind_some]
theorem BackRuler_l0 (xs : List Int) (hx : xs.length ≤ 1048576) : ∀ (i : Nat) (x5 : Int) (acc : List Int), x5 + 1 = i → i ≤ xs.length → acc.length + i ≤ 1048576 → Ev (fun k => impl_BackRuler.l0 k xs acc x5) (acc ++ backL xs i, true)
  | 0, x5, acc, h, hi, ha => by
    refine Ev.of1 (fun k => ?_)
    simp (disch := omega) only [if_true, if_false, impl_BackRuler.l0, if_neg]
    simp [backL]
  | j + 1, x5, acc, h, hi, ha => by
    obtain rfl : x5 = (j : Int) := by omega
    refine Ev.step (f := fun k => impl_BackRuler.l0 k xs (acc ++ [wrap64 (lastR xs - rd xs (j : Int))]) ((j : Int) - 1)) (fun k => ?_) ((BackRuler_l0 xs hx j _ _ (by omega) (by omega) (by simp; omega)).cast (by simp [backL]))
    have e1 : wrap64 ((j : Int) - 1) = (j : Int) - 1 := w64 (by omega) (by omega)
    have e2 : wrap64 ((xs.length : Int) - 1) = (xs.length : Int) - 1 := w64 (by omega) (by omega)
    simp (disch := omega) only [if_true, if_false, impl_BackRuler.l0, if_pos, e1, e2, lastR]
theorem sBackRuler_ev (xs : List Int) (hx : xs.length ≤ 1048576) : Ev (fun k => spec_BackRuler.f k xs) (if rulerB xs = true then (backL xs xs.length, true) else ([], false)) := by
  unfold spec_BackRuler.f
  refine Ev.bind (ruGood_ev xs hx) ?_
  by_cases c : rulerB xs = true
  · have := (rulerB_pos c).1
    simp (disch := omega) only [if_true, if_false, c, if_true, w64]
    exact (sBackRuler_l0 xs hx xs.length _ [] (by omega) (by omega) (by simp; omega)).cast (by simp)
  · simp only [c, if_false]
    exact Ev.now _
theorem BackRuler_ev (xs : List Int) (hx : xs.length ≤ 1048576) : Ev (fun k => impl_BackRuler.f k xs) (if rulerB xs = true then (backL xs xs.length, true) else ([], false)) := by
  unfold impl_BackRuler.f
  refine Ev.bind (IsRuler_ev xs hx) ?_
  by_cases c : rulerB xs = true
  · have := (rulerB_pos c).1
    simp (disch := omega) only [if_true, if_false, c, if_true, w64]
    exact (BackRuler_l0 xs hx xs.length _ [] (by omega) (by omega) (by simp; omega)).cast (by simp)
  · simp only [c, if_false]
    exact Ev.now _
theorem markIntS_l0 : ∀ (t : List Int) (xs : List Int) (i : Nat) (m : Int), xs.length ≤ 1048576 → xs.drop i = t → 0 ≤ m → m + t.length ≤ 9223372036854775807 → Ev (fun k => laws_markIntS.l0 k xs m (i : Int)) (m + t.length, xs.take i ++ upFrom t.length m)
  | [], xs, i, m, hx, h, hm, hb => by
    have h1 := dropNil h
    refine Ev.of1 (fun k => ?_)
    simp (disch := omega) only [if_true, if_false, laws_markIntS.l0, if_neg]
    simp [upFrom, List.take_of_length_le h1]
  | x :: t, xs, i, m, hx, h, hm, hb => by
    obtain ⟨h1, h2, h3⟩ := dropCons h
    simp only [List.length_cons] at hb
    have e : (xs.set i m).drop (i + 1) = t := by rw [List.drop_set_of_lt (by omega), h3]
    refine Ev.step (f := fun k => laws_markIntS.l0 k (xs.set i m) (m + 1) ((i + 1 : Nat) : Int)) (fun k => ?_) ((markIntS_l0 t (xs.set i m) (i + 1) (m + 1) (by simpa using hx) e (by omega) (by omega)).cast ?_)
    · have e1 : wrap64 (m + 1) = m + 1 := w64 (by omega) (by omega)
      simp (disch := omega) only [if_true, if_false, laws_markIntS.l0, if_pos, w64s, e1, toNat_cast]
    · rw [set_at _ _ _ _ _ h]
      have : (xs.take i ++ m :: t).take (i + 1) = xs.take i ++ [m] := by
        have hl : (xs.take i).length = i := by simp; omega
        rw [List.take_append, List.take_of_length_le (by omega), hl, show i + 1 - i = 1 by omega]
        rfl
      rw [this]
      simp [upFrom]
      omega
theorem markIntS_ev (xs : List Int) (hx : xs.length ≤ 1048576) : Ev (fun k => laws_markIntS.f k xs 1) (1 + xs.length, upFrom xs.length 1) :=
  (Ev.congr (fun k => rfl) (markIntS_l0 xs xs 0 1 hx rfl (by omega) (by omega))).cast (by simp)
theorem heldIntS_l0 (xs : List Int) (hx : xs.length ≤ 1048576) : ∀ (n : Nat) (i : Nat) (m : Int), xs.drop i = upFrom n m → 0 ≤ m → m + n ≤ 9223372036854775807 → Ev (fun k => laws_heldIntS.l0 k xs m (i : Int)) (m + n)
  | 0, i, m, h, hm, hb => by
    have h1 := dropNil h
    refine Ev.of1 (fun k => ?_)
    simp (disch := omega) only [if_true, if_false, laws_heldIntS.l0, if_neg]
    simp
  | n + 1, i, m, h, hm, hb => by
    obtain ⟨h1, h2, h3⟩ := dropCons (x := m) (t := upFrom n (m + 1)) h
    refine Ev.step (f := fun k => laws_heldIntS.l0 k xs (m + 1) ((i + 1 : Nat) : Int)) (fun k => ?_) ((heldIntS_l0 xs hx n (i + 1) (m + 1) h3 (by omega) (by omega)).cast (by omega))
    have e1 : wrap64 (m + 1) = m + 1 := w64 (by omega) (by omega)
    simp (disch := omega) only [if_true, if_false, laws_heldIntS.l0, if_pos, w64s, e1, h2]
theorem heldIntS_ev (n : Nat) (hx : n ≤ 1048576) : Ev (fun k => laws_heldIntS.f k (upFrom n 1) 1) (1 + n) :=
  Ev.congr (fun k => rfl) (heldIntS_l0 (upFrom n 1) (by rw [upFrom_length]; exact hx) n 0 1 rfl (by omega) (by omega))
theorem FnExactBackRuler : laws_FnExactBackRuler.Pure := by
  intro l hm hr hw
  by_cases c : (l.length : Int) > 1048576
  · exact ⟨0, by unfold laws_FnExactBackRuler.f; rw [if_pos c]⟩
  · have hl : l.length ≤ 1048576 := by omega
    obtain ⟨r, b, hR, hS, hI⟩ : ∃ (r : List Int) (b : Bool), r.length ≤ 1048576 ∧ Ev (fun k => spec_BackRuler.f k l) (r, b) ∧ Ev (fun k => impl_BackRuler.f k l) (r, b) := by
      by_cases c : rulerB l = true
      · exact ⟨backL l l.length, true, by rw [backL_length]; exact hl, (sBackRuler_ev l hl).cast (if_pos c), (BackRuler_ev l hl).cast (if_pos c)⟩
      · exact ⟨[], false, by simp, (sBackRuler_ev l hl).cast (if_neg c), (BackRuler_ev l hl).cast (if_neg c)⟩
    obtain ⟨K1, h1⟩ := toIntS_ev l hl
    obtain ⟨K2, h2⟩ := hS
    obtain ⟨K3, h3⟩ := hI
    obtain ⟨K4, h4⟩ := eqIntS_same l hl
    obtain ⟨K5, h5⟩ := eqIntS_same r hR
    obtain ⟨K6, h6⟩ := markIntS_ev l hl
    obtain ⟨K7, h7⟩ := markIntS_ev r hR
    obtain ⟨K8, h8⟩ := heldIntS_ev r.length hR
    obtain ⟨K, hK⟩ : ∃ K, K = K1 + K2 + K3 + K4 + K5 + K6 + K7 + K8 := ⟨_, rfl⟩
    have n1 : ¬ (1 + (l.length : Int) < 0) := by omega
    have n2 : ¬ (1 + (r.length : Int) < 0) := by omega
    have a1_0 := h1 (K) (by omega)
    have a1_1 := h1 (K + 1) (by omega)
    have a1_2 := h1 (K + 1 + 1) (by omega)
    have a1_3 := h1 (K + 1 + 1 + 1) (by omega)
    have a2_0 := h2 (K) (by omega)
    have a2_1 := h2 (K + 1) (by omega)
    have a2_2 := h2 (K + 1 + 1) (by omega)
    have a2_3 := h2 (K + 1 + 1 + 1) (by omega)
    have a3_0 := h3 (K) (by omega)
    have a3_1 := h3 (K + 1) (by omega)
    have a3_2 := h3 (K + 1 + 1) (by omega)
    have a3_3 := h3 (K + 1 + 1 + 1) (by omega)
    have a4_0 := h4 (K) (by omega)
    have a4_1 := h4 (K + 1) (by omega)
    have a4_2 := h4 (K + 1 + 1) (by omega)
    have a4_3 := h4 (K + 1 + 1 + 1) (by omega)
    have a5_0 := h5 (K) (by omega)
    have a5_1 := h5 (K + 1) (by omega)
    have a5_2 := h5 (K + 1 + 1) (by omega)
    have a5_3 := h5 (K + 1 + 1 + 1) (by omega)
    have a6_0 := h6 (K) (by omega)
    have a6_1 := h6 (K + 1) (by omega)
    have a6_2 := h6 (K + 1 + 1) (by omega)
    have a6_3 := h6 (K + 1 + 1 + 1) (by omega)
    have a7_0 := h7 (K) (by omega)
    have a7_1 := h7 (K + 1) (by omega)
    have a7_2 := h7 (K + 1 + 1) (by omega)
    have a7_3 := h7 (K + 1 + 1 + 1) (by omega)
    have a8_0 := h8 (K) (by omega)
    have a8_1 := h8 (K + 1) (by omega)
    have a8_2 := h8 (K + 1 + 1) (by omega)
    have a8_3 := h8 (K + 1 + 1 + 1) (by omega)
    clear h1 h2 h3 h4 h5 h6 h7 h8 hK hm hr hw hl hR
    refine ⟨K + 1 + 1 + 1, ?_⟩
    simp only [laws_FnExactBackRuler.f, laws_FnExactBackRuler.j0, laws_FnExactBackRuler.j1, laws_FnExactBackRuler.j2, c, n1, n2, a1_0, a1_1, a1_2, a1_3, a2_0, a2_1, a2_2, a2_3, a3_0, a3_1, a3_2, a3_3, a4_0, a4_1, a4_2, a4_3, a5_0, a5_1, a5_2, a5_3, a6_0, a6_1, a6_2, a6_3, a7_0, a7_1, a7_2, a7_3, a8_0, a8_1, a8_2, a8_3, Option.bind_some, bne_self_eq_false, Bool.false_eq_true, if_false, if_true]
end Go.Proofs.Ytaeamkjmadkjkaa.Pure
