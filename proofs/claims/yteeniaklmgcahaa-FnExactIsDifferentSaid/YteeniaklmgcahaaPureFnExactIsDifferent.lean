/- The law FnExactIsDifferent holds for every input: what the program's function computes is what the reference's computes. Conditions: none but the statement's own. -/
import Derived.Test.YteeniaklmgcahaaPFnExactIsDifferentx3
import Derived.Test.YteeniaklmgcahaaAid
namespace Go.Proofs.Yteeniaklmgcahaa.Pure
open Go.RowKit Go.Proofs.Yteeniaklmgcahaa.PFnExactIsDifferent Go.Proofs.YteeniaklmgcahaaW.PrintWords Go.Proofs.YteeniaklmgcahaaW.PrintLast Go.Proofs.Yteeniaklmgcahaa.Aid
set_option linter.unusedVariables false
set_option linter.unusedSimpArgs false
theorem toIntS_l0 (xs : List Int) (hx : xs.length ≤ 1048576) : ∀ (t : List Int) (i : Nat) (ys : List Int), xs.drop i = t → i ≤ xs.length → ys.length = xs.length → ys.take i = xs.take i → Ev (fun k => laws_toIntS.l0 k xs ys (i : Int)) xs
  | [], i, ys, h, hi, hl, he => by
    have h1 := dropNil h
    obtain rfl : ys = xs := by
      have : i = xs.length := by omega
      subst this
      rw [List.take_of_length_le (by omega), List.take_of_length_le (by omega)] at he
      exact he
    refine Ev.of1 (fun k => ?_)
    simp (disch := omega) only [if_true, if_false, laws_toIntS.l0, if_neg]
  | x :: t, i, ys, h, hi, hl, he => by
    obtain ⟨h1, h2, h3⟩ := dropCons h
    refine Ev.step (f := fun k => laws_toIntS.l0 k xs (ys.set i x) ((i + 1 : Nat) : Int)) (fun k => ?_) (toIntS_l0 xs hx t (i + 1) _ h3 (by omega) (by simpa using hl) ?_)
    · simp (disch := omega) only [if_true, if_false, laws_toIntS.l0, if_pos, w64s, h2, toNat_cast]
    · rw [take_succ_at h, List.take_add_one, List.take_set_of_le (by omega), he]
      simp [hl, h1]
theorem toIntS_ev (xs : List Int) (hx : xs.length ≤ 1048576) : Ev (fun k => laws_toIntS.f k xs) xs := by
  refine Ev.congr (fun k => ?_) (toIntS_l0 xs hx xs 0 (List.replicate xs.length 0) rfl (by omega) (by simp) rfl)
  unfold laws_toIntS.f
  rw [if_pos (by omega), if_pos (by omega)]
  rfl
theorem eqIntS_l0 (xs ys : List Int) (hx : xs.length ≤ 1048576) (hl : xs.length = ys.length) : ∀ (s t : List Int) (i : Nat), xs.drop i = s → ys.drop i = t → Ev (fun k => laws_eqIntS.l0 k xs ys (i : Int)) (decide (s = t))
  | [], t, i, h, h' => by
    have h1 := dropNil h
    have h2 : t = [] := by rw [← h']; simp; omega
    subst h2
    refine Ev.of1 (fun k => ?_)
    simp (disch := omega) only [if_true, if_false, laws_eqIntS.l0, if_neg]
    simp
  | x :: s, [], i, h, h' => by
    have h1 := dropLt h
    have h2 := dropNil h'
    omega
  | x :: s, y :: t, i, h, h' => by
    obtain ⟨h1, h2, h3⟩ := dropCons h
    obtain ⟨h1', h2', h3'⟩ := dropCons h'
    by_cases c : x = y
    · refine Ev.step (f := fun k => laws_eqIntS.l0 k xs ys ((i + 1 : Nat) : Int)) (fun k => ?_) ((eqIntS_l0 xs ys hx hl s t (i + 1) h3 h3').cast (by simp [c]))
      simp (disch := omega) only [if_true, if_false, laws_eqIntS.l0, if_pos, w64s, h2, h2']
    · refine Ev.of1 (fun k => ?_)
      simp (disch := omega) only [if_true, if_false, laws_eqIntS.l0, if_pos, if_neg, h2, h2']
      simp [c]
theorem eqIntS_ev (xs ys : List Int) (hx : xs.length ≤ 1048576) : Ev (fun k => laws_eqIntS.f k xs ys) (decide (xs = ys)) := by
  by_cases c : xs.length = ys.length
  · refine Ev.congr (fun k => ?_) (eqIntS_l0 xs ys hx c xs ys 0 rfl rfl)
    unfold laws_eqIntS.f
    rw [if_pos (by omega)]
    rfl
  · refine Ev.all (fun k => ?_)
    unfold laws_eqIntS.f
    rw [if_neg (by omega)]
    have : xs ≠ ys := fun e => c (by rw [e])
    simp [this]
theorem eqIntS_same (xs : List Int) (hx : xs.length ≤ 1048576) : Ev (fun k => laws_eqIntS.f k xs xs) true := (eqIntS_ev xs xs hx).cast (by simp)
def incFrom (p : Int) : List Int → Bool
  | [] => true
  | x :: t => decide (p < x) && incFrom x t
def lastR (xs : List Int) : Int := rd xs ((xs.length : Int) - 1)
def rulerB (xs : List Int) : Bool := decide (1 ≤ (xs.length : Int)) && (decide ((xs.length : Int) ≤ 12) && (decide (rd xs 0 = 0) && (incFrom (rd xs 0) (xs.drop 1) && decide (lastR xs ≤ 60))))
theorem ruGood_l0 (xs : List Int) (hx : xs.length ≤ 1048576) : ∀ (t : List Int) (j : Nat) (p : Int), xs.drop j = p :: t → Ev (fun k => spec_ruGood.l0 k xs ((j + 1 : Nat) : Int)) (incFrom p t && decide (lastR xs ≤ 60))
  | [], j, p, h => by
    obtain ⟨h1, h2, h3⟩ := dropCons h
    have h4 := dropNil h3
    refine Ev.of1 (fun k => ?_)
    simp (disch := omega) only [if_true, if_false, spec_ruGood.l0, if_neg, if_pos, w64]
    simp [incFrom, lastR]
    exact decide_eq_decide.2 Iff.rfl
  | x :: t, j, p, h => by
    obtain ⟨h1, h2, h3⟩ := dropCons h
    obtain ⟨h1', h2', h3'⟩ := dropCons h3
    by_cases c : p < x
    · refine Ev.step (f := fun k => spec_ruGood.l0 k xs ((j + 1 + 1 : Nat) : Int)) (fun k => ?_) ((ruGood_l0 xs hx t (j + 1) x h3).cast (by simp [incFrom, c]))
      simp (disch := omega) only [if_true, if_false, spec_ruGood.l0, if_pos, if_neg, w64s, w64q, h2, h2']
    · refine Ev.of1 (fun k => ?_)
      simp (disch := omega) only [if_true, if_false, spec_ruGood.l0, if_pos, w64q, h2, h2']
      simp [incFrom, c]
theorem ruGood_ev (xs : List Int) (hx : xs.length ≤ 1048576) : Ev (fun k => spec_ruGood.f k xs) (rulerB xs) := by
  by_cases c1 : 1 ≤ (xs.length : Int)
  · by_cases c2 : (xs.length : Int) ≤ 12
    · obtain ⟨x, t, e⟩ : ∃ x t, xs = x :: t := by
        cases xs with
        | nil => simp at c1
        | cons x t => exact ⟨x, t, rfl⟩
      have e0 : xs.drop 0 = x :: t := by rw [e]; rfl
      have e1 : xs.drop 1 = t := dropSucc e0
      have e2 : rd xs 0 = x := rd_get (i := 0) (dropGet e0)
      by_cases c3 : x = 0
      · refine Ev.step (f := fun k => spec_ruGood.l0 k xs ((0 + 1 : Nat) : Int)) (fun k => ?_) ((ruGood_l0 xs hx t 0 x e0).cast ?_)
        · simp (disch := omega) only [if_true, if_false, spec_ruGood.f, spec_ruGood.j0, spec_l1In.f, if_pos, Option.bind_some, decide_eq_true_eq, e2]
          simp only [c3]
          simp
        · simp [rulerB, c1, c2, c3, e1, e2]
      · refine Ev.of1 (fun k => ?_)
        simp (disch := omega) only [if_true, if_false, spec_ruGood.f, spec_ruGood.j0, spec_l1In.f, if_pos, Option.bind_some, decide_eq_true_eq, e2]
        simp [rulerB, c3, e2, spec_ruGood.j0]
    · refine Ev.of1 (fun k => ?_)
      simp [spec_ruGood.f, spec_ruGood.j0, spec_l1In.f, c1, c2, rulerB]
  · refine Ev.of1 (fun k => ?_)
    simp [spec_ruGood.f, spec_ruGood.j0, spec_l1In.f, c1, rulerB]
theorem ruLength_at (xs : List Int) (hx : xs.length ≤ 1048576) (h : 1 ≤ xs.length) : spec_ruLength.f xs = some (lastR xs) := by
  simp (disch := omega) only [if_true, if_false, spec_ruLength.f, if_pos, w64, lastR]
theorem rulerB_pos {xs : List Int} (h : rulerB xs = true) : 1 ≤ xs.length ∧ xs.length ≤ 12 ∧ rd xs 0 = 0 ∧ incFrom (rd xs 0) (xs.drop 1) = true ∧ lastR xs ≤ 60 := by
  simp only [rulerB, Bool.and_eq_true, decide_eq_true_eq] at h
  obtain ⟨ha, hb, hc, hd, he⟩ := h
  exact ⟨by omega, by omega, hc, hd, he⟩
theorem incFrom_pairwise : ∀ (p : Int) (t : List Int), incFrom p t = true → (p :: t).Pairwise (· < ·)
  | p, [], _ => by simp
  | p, x :: t, h => by
    simp only [incFrom, Bool.and_eq_true, decide_eq_true_eq] at h
    have ih := incFrom_pairwise x t h.2
    refine List.pairwise_cons.2 ⟨fun y hy => ?_, ih⟩
    rcases List.mem_cons.1 hy with rfl | hy
    · exact h.1
    · have := (List.pairwise_cons.1 ih).1 y hy
      omega
theorem ruler_facts {xs : List Int} (h : rulerB xs = true) : 1 ≤ xs.length ∧ xs.length ≤ 12 ∧ lastR xs ≤ 60 ∧ xs.Pairwise (· < ·) ∧ ∀ x ∈ xs, 0 ≤ x ∧ x ≤ lastR xs := by
  have h1 : 1 ≤ xs.length ∧ xs.length ≤ 12 ∧ rd xs 0 = 0 ∧ incFrom (rd xs 0) (xs.drop 1) = true ∧ lastR xs ≤ 60 := by
    simp only [rulerB, Bool.and_eq_true, decide_eq_true_eq] at h
    obtain ⟨ha, hb, hc, hd, he⟩ := h
    exact ⟨by omega, by omega, hc, hd, he⟩
  obtain ⟨ha, hb, hc, hd, he⟩ := h1
  cases xs with
  | nil => simp at ha
  | cons x t =>
    have e : rd (x :: t) 0 = x := by simp [rd]
    rw [e] at hd hc
    have hp := incFrom_pairwise x t hd
    refine ⟨ha, hb, he, hp, fun y hy => ⟨?_, ?_⟩⟩
    · rcases List.mem_cons.1 hy with rfl | hy
      · omega
      · have := (List.pairwise_cons.1 hp).1 y hy
        omega
    · obtain ⟨i, hi, rfl⟩ := List.getElem_of_mem hy
      have el : lastR (x :: t) = (x :: t)[(x :: t).length - 1] := by
        unfold lastR
        rw [show (((x :: t).length : Nat) : Int) - 1 = (((x :: t).length - 1 : Nat) : Int) by omega]
        exact rd_lt (by omega)
      rw [el]
      rcases Nat.lt_or_ge i ((x :: t).length - 1) with h' | h'
      · exact Int.le_of_lt (List.pairwise_iff_getElem.1 hp i _ hi (by omega) h')
      · have : i = (x :: t).length - 1 := by omega
        subst this
        exact Int.le_refl _
theorem ruler_before {xs : List Int} (h : rulerB xs = true) {i : Nat} {m : Int} {t : List Int} (hd : xs.drop i = m :: t) : ∀ p ∈ xs.take i, p < m := by
  intro p hp
  obtain ⟨_, _, _, hpw, _⟩ := ruler_facts h
  have hi := dropLt hd
  have hm := dropGet hd
  obtain ⟨j, hj, rfl⟩ := List.getElem_of_mem hp
  simp at hj
  have e : m = xs[i] := by
    rw [List.getElem?_eq_getElem hi] at hm
    simpa using hm.symm
  rw [e, List.getElem_take]
  exact List.pairwise_iff_getElem.1 hpw j i (by omega) hi (by omega)
def tIn (m : Int) (T : List Int) : List Int → List Int
  | [] => T
  | p :: t => tIn m (T.set (m - p).toNat (wrap64 (rd T (m - p) + 1))) t
def tOut (xs : List Int) (T : List Int) : List Int → Nat → List Int
  | [], _ => T
  | m :: t, i => tOut xs (tIn m T (xs.take i)) t (i + 1)
theorem tIn_length (m : Int) : ∀ (s T : List Int), (tIn m T s).length = T.length
  | [], _ => rfl
  | p :: s, T => by simp [tIn, tIn_length m s]
theorem tOut_length (xs : List Int) : ∀ (t T : List Int) (i : Nat), (tOut xs T t i).length = T.length
  | [], _, _ => rfl
  | m :: t, T, i => by simp [tOut, tOut_length xs t, tIn_length]
def timesL (xs : List Int) : List Int := tOut xs (List.replicate (lastR xs + 1).toNat 0) xs 0
theorem timesL_length (xs : List Int) : (timesL xs).length = (lastR xs + 1).toNat := by simp [timesL, tOut_length]
theorem ruTimes_l1 (xs : List Int) (n i : Nat) (m : Int) (r : List Int) (pre : List Int) (hp : pre.length ≤ 1048576) : ∀ (s : List Int) (j : Nat) (T : List Int), pre.drop j = s → T.length ≤ 61 → (∀ p ∈ s, 0 ≤ m - p ∧ m - p < T.length ∧ 0 ≤ p ∧ p ≤ 60) → i < 1048576 →
    Ev (fun k => spec_ruTimes.l0 k xs (tIn m T s) xs n ((i + 1 : Nat) : Int)) r → Ev (fun k => spec_ruTimes.l1 k xs T m xs n (i : Int) pre pre.length (j : Int)) r
  | [], j, T, h, hT, hb, hi, hr => by
    have h1 := dropNil h
    refine Ev.step (fun k => ?_) hr
    simp (disch := omega) only [if_true, if_false, spec_ruTimes.l1, if_neg, w64s, tIn]
  | p :: s, j, T, h, hT, hb, hi, hr => by
    obtain ⟨h1, h2, h3⟩ := dropCons h
    have hb1 := hb p (by simp)
    have e1 : wrap64 (m - p) = m - p := w64 (by omega) (by omega)
    refine Ev.step (f := fun k => spec_ruTimes.l1 k xs (T.set (m - p).toNat (wrap64 (rd T (m - p) + 1))) m xs n (i : Int) pre pre.length ((j + 1 : Nat) : Int)) (fun k => ?_) (ruTimes_l1 xs n i m r pre hp s (j + 1) _ h3 (by simpa using hT) (fun q hq => by simpa using hb q (by simp [hq])) hi hr)
    simp (disch := omega) only [if_true, if_false, spec_ruTimes.l1, if_pos, w64s, h2, e1]
theorem ruTimes_l0 (xs : List Int) (hR : rulerB xs = true) : ∀ (t : List Int) (i : Nat) (T : List Int), xs.drop i = t → T.length = (lastR xs + 1).toNat → Ev (fun k => spec_ruTimes.l0 k xs T xs xs.length (i : Int)) (tOut xs T t i)
  | [], i, T, h, hT => by
    have h1 := dropNil h
    refine Ev.of1 (fun k => ?_)
    simp (disch := omega) only [if_true, if_false, spec_ruTimes.l0, if_neg, tOut]
  | m :: t, i, T, h, hT => by
    obtain ⟨h1, h2, h3⟩ := dropCons h
    obtain ⟨ha, hb, hc, hd, he⟩ := ruler_facts hR
    have hm := he m (by rw [← List.take_append_drop i xs, h]; simp)
    refine Ev.step (f := fun k => spec_ruTimes.l1 k xs T m xs xs.length (i : Int) (xs.take i) (xs.take i).length ((0 : Nat) : Int)) (fun k => ?_) ?_
    · simp (disch := omega) only [if_true, if_false, spec_ruTimes.l0, if_pos, h2, toNat_cast]
      rfl
    · refine ruTimes_l1 xs xs.length i m _ (xs.take i) (by simp; omega) (xs.take i) 0 T rfl (by omega) (fun p hp => ?_) (by omega) (ruTimes_l0 xs hR t (i + 1) _ h3 (by rw [tIn_length]; exact hT))
      have h4 := ruler_before hR h p hp
      have h5 := he p (List.mem_of_mem_take hp)
      omega
theorem ruTimes_ev (xs : List Int) (hx : xs.length ≤ 1048576) (hR : rulerB xs = true) : Ev (fun k => spec_ruTimes.f k xs) (timesL xs) := by
  obtain ⟨ha, hb, hc, hd, he⟩ := ruler_facts hR
  have h0 : 0 ≤ lastR xs := by
    cases xs with
    | nil => simp at ha
    | cons x t => have := he x (by simp); omega
  have e1 := ruLength_at xs hx ha
  have e2 : wrap64 (lastR xs + 1) = lastR xs + 1 := w64 (by omega) (by omega)
  refine Ev.congr (fun k => ?_) (ruTimes_l0 xs hR xs 0 (List.replicate (lastR xs + 1).toNat 0) rfl (by simp))
  simp (disch := omega) only [if_true, if_false, spec_ruTimes.f, e1, Option.bind_some, e2, if_pos]
  rfl
theorem IsRuler_l0 (xs : List Int) (hx : xs.length ≤ 1048576) : ∀ (t : List Int) (j : Nat) (p : Int), xs.drop j = p :: t → Ev (fun k => impl_IsRuler.l0 k xs ((j + 1 : Nat) : Int)) (incFrom p t)
  | [], j, p, h => by
    obtain ⟨h1, h2, h3⟩ := dropCons h
    have h4 := dropNil h3
    refine Ev.of1 (fun k => ?_)
    simp (disch := omega) only [if_true, if_false, impl_IsRuler.l0, if_neg]
    rfl
  | x :: t, j, p, h => by
    obtain ⟨h1, h2, h3⟩ := dropCons h
    obtain ⟨h1', h2', h3'⟩ := dropCons h3
    by_cases c : p < x
    · refine Ev.step (f := fun k => impl_IsRuler.l0 k xs ((j + 1 + 1 : Nat) : Int)) (fun k => ?_) ((IsRuler_l0 xs hx t (j + 1) x h3).cast (by simp [incFrom, c]))
      simp (disch := omega) only [if_true, if_false, impl_IsRuler.l0, if_pos, if_neg, w64s, w64q, h2, h2']
    · refine Ev.of1 (fun k => ?_)
      simp (disch := omega) only [if_true, if_false, impl_IsRuler.l0, if_pos, w64q, h2, h2']
      simp [incFrom, c]
theorem IsRuler_ev (xs : List Int) (hx : xs.length ≤ 1048576) : Ev (fun k => impl_IsRuler.f k xs) (rulerB xs) := by
  by_cases c1 : 1 ≤ (xs.length : Int)
  · by_cases c2 : (xs.length : Int) ≤ 12
    · obtain ⟨x, t, e⟩ : ∃ x t, xs = x :: t := by
        cases xs with
        | nil => simp at c1
        | cons x t => exact ⟨x, t, rfl⟩
      have e0 : xs.drop 0 = x :: t := by rw [e]; rfl
      have e1 : xs.drop 1 = t := dropSucc e0
      have e2 : rd xs 0 = x := rd_get (i := 0) (dropGet e0)
      by_cases c3 : x = 0
      · by_cases c4 : lastR xs ≤ 60
        · refine Ev.step (f := fun k => impl_IsRuler.l0 k xs ((0 + 1 : Nat) : Int)) (fun k => ?_) ((IsRuler_l0 xs hx t 0 x e0).cast ?_)
          · have c5 : ¬ rd xs ((xs.length : Int) - 1) > 60 := by unfold lastR at c4; omega
            simp (disch := omega) only [if_true, if_false, impl_IsRuler.f, impl_IsRuler.j0, if_pos, if_neg, e2, w64]
            simp only [c5]
            simp
          · simp [rulerB, c1, c2, c3, c4, e1, e2]
        · refine Ev.of1 (fun k => ?_)
          have c5 : rd xs ((xs.length : Int) - 1) > 60 := by unfold lastR at c4; omega
          simp (disch := omega) only [if_true, if_false, impl_IsRuler.f, impl_IsRuler.j0, if_pos, if_neg, e2, w64]
          simp [c5, rulerB, c4]
      · refine Ev.of1 (fun k => ?_)
        simp (disch := omega) only [if_true, if_false, impl_IsRuler.f, impl_IsRuler.j0, if_pos, if_neg, e2]
        simp [rulerB, c3, e2]
    · refine Ev.of1 (fun k => ?_)
      simp (disch := omega) only [if_true, if_false, impl_IsRuler.f, impl_IsRuler.j0, if_pos, if_neg]
      simp [c2, rulerB]
  · refine Ev.of1 (fun k => ?_)
    simp (disch := omega) only [if_true, if_false, impl_IsRuler.f, impl_IsRuler.j0, if_pos]
    simp [c1, rulerB]
theorem measured_l1 (xs : List Int) (n i : Nat) (m : Int) (r : List Int) (pre : List Int) (hp : pre.length ≤ 1048576) : ∀ (s : List Int) (j : Nat) (T : List Int), pre.drop j = s → T.length ≤ 61 → (∀ p ∈ s, 0 ≤ m - p ∧ m - p < T.length ∧ 0 ≤ p ∧ p ≤ 60) → i < 1048576 →
    Ev (fun k => impl_measured.l0 k xs (tIn m T s) xs n ((i + 1 : Nat) : Int)) r → Ev (fun k => impl_measured.l1 k xs T m xs n (i : Int) pre pre.length (j : Int)) r
  | [], j, T, h, hT, hb, hi, hr => by
    have h1 := dropNil h
    refine Ev.step (fun k => ?_) hr
    simp (disch := omega) only [if_true, if_false, impl_measured.l1, if_neg, w64s, tIn]
  | p :: s, j, T, h, hT, hb, hi, hr => by
    obtain ⟨h1, h2, h3⟩ := dropCons h
    have hb1 := hb p (by simp)
    have e1 : wrap64 (m - p) = m - p := w64 (by omega) (by omega)
    refine Ev.step (f := fun k => impl_measured.l1 k xs (T.set (m - p).toNat (wrap64 (rd T (m - p) + 1))) m xs n (i : Int) pre pre.length ((j + 1 : Nat) : Int)) (fun k => ?_) (measured_l1 xs n i m r pre hp s (j + 1) _ h3 (by simpa using hT) (fun q hq => by simpa using hb q (by simp [hq])) hi hr)
    simp (disch := omega) only [if_true, if_false, impl_measured.l1, if_pos, w64s, h2, e1]
theorem measured_l0 (xs : List Int) (hR : rulerB xs = true) : ∀ (t : List Int) (i : Nat) (T : List Int), xs.drop i = t → T.length = (lastR xs + 1).toNat → Ev (fun k => impl_measured.l0 k xs T xs xs.length (i : Int)) (tOut xs T t i)
  | [], i, T, h, hT => by
    have h1 := dropNil h
    refine Ev.of1 (fun k => ?_)
    simp (disch := omega) only [if_true, if_false, impl_measured.l0, if_neg, tOut]
  | m :: t, i, T, h, hT => by
    obtain ⟨h1, h2, h3⟩ := dropCons h
    obtain ⟨ha, hb, hc, hd, he⟩ := ruler_facts hR
    have hm := he m (by rw [← List.take_append_drop i xs, h]; simp)
    refine Ev.step (f := fun k => impl_measured.l1 k xs T m xs xs.length (i : Int) (xs.take i) (xs.take i).length ((0 : Nat) : Int)) (fun k => ?_) ?_
    · simp (disch := omega) only [if_true, if_false, impl_measured.l0, if_pos, h2, toNat_cast]
      rfl
    · refine measured_l1 xs xs.length i m _ (xs.take i) (by simp; omega) (xs.take i) 0 T rfl (by omega) (fun p hp => ?_) (by omega) (measured_l0 xs hR t (i + 1) _ h3 (by rw [tIn_length]; exact hT))
      have h4 := ruler_before hR h p hp
      have h5 := he p (List.mem_of_mem_take hp)
      omega
theorem measured_ev (xs : List Int) (hx : xs.length ≤ 1048576) (hR : rulerB xs = true) : Ev (fun k => impl_measured.f k xs) (timesL xs) := by
  obtain ⟨ha, hb, hc, hd, he⟩ := ruler_facts hR
  have h0 : 0 ≤ lastR xs := by
    cases xs with
    | nil => simp at ha
    | cons x t => have := he x (by simp); omega
  have e1 : wrap64 ((xs.length : Int) - 1) = (xs.length : Int) - 1 := w64 (by omega) (by omega)
  have e3 : rd xs ((xs.length : Int) - 1) = lastR xs := rfl
  have e2 : wrap64 (lastR xs + 1) = lastR xs + 1 := w64 (by omega) (by omega)
  refine Ev.congr (fun k => ?_) (measured_l0 xs hR xs 0 (List.replicate (lastR xs + 1).toNat 0) rfl (by simp))
  simp (disch := omega) only [if_true, if_false, impl_measured.f, e1, e3, e2, if_pos]
  rfl
def oneB (t : List Int) : Bool := t.all fun x => decide (x ≤ 1)
theorem ruDifferent_l0 (xs : List Int) (hx : xs.length ≤ 1048576) : ∀ (t : List Int) (i : Nat), xs.drop i = t → Ev (fun k => spec_ruDifferent.l0 k xs xs.length (i : Int)) (oneB t)
  | [], i, h => by
    have h1 := dropNil h
    refine Ev.of1 (fun k => ?_)
    simp (disch := omega) only [if_true, if_false, spec_ruDifferent.l0, if_neg]
    rfl
  | x :: t, i, h => by
    obtain ⟨h1, h2, h3⟩ := dropCons h
    by_cases c : x ≤ 1
    · refine Ev.step (f := fun k => spec_ruDifferent.l0 k xs xs.length ((i + 1 : Nat) : Int)) (fun k => ?_) ((ruDifferent_l0 xs hx t (i + 1) h3).cast (by simp [oneB, c]))
      simp (disch := omega) only [if_true, if_false, spec_ruDifferent.l0, if_pos, if_neg, w64s, h2]
    · refine Ev.of1 (fun k => ?_)
      simp (disch := omega) only [if_true, if_false, spec_ruDifferent.l0, if_pos, h2]
      simp [oneB, c]
theorem Max_l0 (xs : List Int) (hx : xs.length ≤ 1048576) : ∀ (t : List Int) (i : Nat) (m : Int), xs.drop i = t → ∃ r, Ev (fun k => slices_Max_int_int.l0 k xs m (i : Int)) r ∧ decide (r ≤ 1) = (decide (m ≤ 1) && oneB t)
  | [], i, m, h => by
    have h1 := dropNil h
    refine ⟨m, Ev.of1 (fun k => ?_), by simp [oneB]⟩
    simp (disch := omega) only [if_true, if_false, slices_Max_int_int.l0, if_neg]
  | x :: t, i, m, h => by
    obtain ⟨h1, h2, h3⟩ := dropCons h
    obtain ⟨r, hr, hd⟩ := Max_l0 xs hx t (i + 1) (mx m x) h3
    refine ⟨r, Ev.step (f := fun k => slices_Max_int_int.l0 k xs (mx m x) ((i + 1 : Nat) : Int)) (fun k => ?_) hr, ?_⟩
    · simp (disch := omega) only [if_true, if_false, slices_Max_int_int.l0, if_pos, w64s, h2]
    · rw [hd]
      have : decide (mx m x ≤ 1) = (decide (m ≤ 1) && decide (x ≤ 1)) := by
        rw [Bool.eq_iff_iff]
        simp
        unfold mx
        omega
      rw [this]
      simp [oneB, Bool.and_assoc]
theorem ruDifferent_ev (xs : List Int) (hx : xs.length ≤ 1048576) (hR : rulerB xs = true) : Ev (fun k => spec_ruDifferent.f k xs) (oneB (timesL xs)) := by
  unfold spec_ruDifferent.f
  have hc := (ruler_facts hR).2.2.1
  exact Ev.bind (ruTimes_ev xs hx hR) (ruDifferent_l0 (timesL xs) (by rw [timesL_length]; omega) _ 0 rfl)
theorem different_ev (xs : List Int) (hx : xs.length ≤ 1048576) (hR : rulerB xs = true) : Ev (fun k => impl_different.f k xs) (oneB (timesL xs)) := by
  obtain ⟨ha, hb, hc, hd, he⟩ := ruler_facts hR
  have h0 : 0 ≤ lastR xs := by
    cases xs with
    | nil => simp at ha
    | cons x t => have := he x (by simp); omega
  have hl := timesL_length xs
  obtain ⟨m, T, e⟩ : ∃ m T, timesL xs = m :: T := by
    cases e : timesL xs with
    | nil => rw [e] at hl; simp at hl; omega
    | cons m T => exact ⟨m, T, rfl⟩
  obtain ⟨r, hr, hd⟩ := Max_l0 (timesL xs) (by omega) T 1 m (by rw [e]; rfl)
  have e0 : rd (timesL xs) 0 = m := by rw [e]; rfl
  unfold impl_different.f
  refine Ev.bind (measured_ev xs hx hR) ?_
  refine (Ev.bind (f := fun _ t => some (decide (t ≤ 1))) (a := r) ?_ (Ev.now _)).cast ?_
  · refine Ev.congr (fun k => ?_) hr
    simp (disch := omega) only [if_true, if_false, slices_Max_int_int.f, if_neg, if_pos, e0]
    rfl
  · rw [hd, e]
    simp [oneB]
theorem sIsDifferent_ev (xs : List Int) (hx : xs.length ≤ 1048576) : Ev (fun k => spec_IsDifferent.f k xs) (if rulerB xs = true then (oneB (timesL xs), true) else (false, false)) := by
  unfold spec_IsDifferent.f
  refine Ev.bind (ruGood_ev xs hx) ?_
  by_cases c : rulerB xs = true
  · simp only [c, if_true]
    exact Ev.bind (ruDifferent_ev xs hx c) (Ev.now _)
  · simp only [c, if_false]
    exact Ev.now _
theorem IsDifferent_ev (xs : List Int) (hx : xs.length ≤ 1048576) : Ev (fun k => impl_IsDifferent.f k xs) (if rulerB xs = true then (oneB (timesL xs), true) else (false, false)) := by
  unfold impl_IsDifferent.f
  refine Ev.bind (IsRuler_ev xs hx) ?_
  by_cases c : rulerB xs = true
  · simp only [c, if_true]
    exact Ev.bind (different_ev xs hx c) (Ev.now _)
  · simp only [c, if_false]
    exact Ev.now _
theorem FnExactIsDifferent : laws_FnExactIsDifferent.Pure := by
  intro l hm hr hw
  by_cases c : (l.length : Int) > 1048576
  · exact ⟨0, by unfold laws_FnExactIsDifferent.f; rw [if_pos c]⟩
  · have hl : l.length ≤ 1048576 := by omega
    obtain ⟨r, hS, hI⟩ : ∃ (r : Bool × Bool), Ev (fun k => spec_IsDifferent.f k l) r ∧ Ev (fun k => impl_IsDifferent.f k l) r := by
      exact ⟨_, sIsDifferent_ev l hl, IsDifferent_ev l hl⟩
    obtain ⟨K1, h1⟩ := toIntS_ev l hl
    obtain ⟨K2, h2⟩ := hS
    obtain ⟨K3, h3⟩ := hI
    obtain ⟨K4, h4⟩ := eqIntS_same l hl
    refine ⟨K1 + K2 + K3 + K4 + 4, ?_⟩
    simp (disch := omega) only [if_true, if_false, laws_FnExactIsDifferent.f, laws_FnExactIsDifferent.j0, if_pos, if_neg, h1, h2, h3, h4, Option.bind_some, bne_self_eq_false, Bool.false_eq_true, if_false, if_true]
end Go.Proofs.Yteeniaklmgcahaa.Pure
