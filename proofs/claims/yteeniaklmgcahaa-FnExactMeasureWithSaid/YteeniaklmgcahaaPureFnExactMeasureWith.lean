/- The law FnExactMeasureWith holds for every input: what the program's function computes is what the reference's computes. Conditions: none but the statement's own. -/
import Derived.Test.YteeniaklmgcahaaPFnExactMeasureWithx3
import Derived.Test.YteeniaklmgcahaaAid
namespace Go.Proofs.Yteeniaklmgcahaa.Pure
open Go.RowKit Go.Proofs.Yteeniaklmgcahaa.PFnExactMeasureWith Go.Proofs.YteeniaklmgcahaaW.PrintWords Go.Proofs.YteeniaklmgcahaaW.PrintLast Go.Proofs.Yteeniaklmgcahaa.Aid
set_option linter.unusedVariables false
set_option linter.unusedSimpArgs false
def incFrom (p : Int) : List Int → Bool
  | [] => true
  | x :: t => decide (p < x) && incFrom x t
def lastR (xs : List Int) : Int := rd xs ((xs.length : Int) - 1)
def rulerB (xs : List Int) : Bool := decide (1 ≤ (xs.length : Int)) && (decide ((xs.length : Int) ≤ 12) && (decide (rd xs 0 = 0) && (incFrom (rd xs 0) (xs.drop 1) && decide (lastR xs ≤ 60))))
theorem ruGood_l0 (xs : List Int) (hx : xs.length ≤ 1048576) : ∀ (t : List Int) (j : Nat) (p : Int), xs.drop j = p :: t → Ev (fun k => spec_ruGood.l0 k xs ((j + 1 : Nat) : Int)) (incFrom p t && decide (lastR xs ≤ 60))
  | [], j, p, h => by
    obtain ⟨h1, h2, h3⟩ := dropCons h
    have h4 := dropNil h3
    refine Ev.of1 (fun k => ?_)
    simp (disch := omega) only [if_true, if_false, spec_ruGood.l0, if_neg, if_pos, w64]
    simp [incFrom, lastR]
    exact decide_eq_decide.2 Iff.rfl
  | x :: t, j, p, h => by
    obtain ⟨h1, h2, h3⟩ := dropCons h
    obtain ⟨h1', h2', h3'⟩ := dropCons h3
    by_cases c : p < x
    · refine Ev.step (f := fun k => spec_ruGood.l0 k xs ((j + 1 + 1 : Nat) : Int)) (fun k => ?_) ((ruGood_l0 xs hx t (j + 1) x h3).cast (by simp [incFrom, c]))
      simp (disch := omega) only [if_true, if_false, spec_ruGood.l0, if_pos, if_neg, w64s, w64q, h2, h2']
    · refine Ev.of1 (fun k => ?_)
      simp (disch := omega) only [if_true, if_false, spec_ruGood.l0, if_pos, w64q, h2, h2']
      simp [incFrom, c]
theorem ruGood_ev (xs : List Int) (hx : xs.length ≤ 1048576) : Ev (fun k => spec_ruGood.f k xs) (rulerB xs) := by
  by_cases c1 : 1 ≤ (xs.length : Int)
  · by_cases c2 : (xs.length : Int) ≤ 12
    · obtain ⟨x, t, e⟩ : ∃ x t, xs = x :: t := by
        cases xs with
        | nil => simp at c1
        | cons x t => exact ⟨x, t, rfl⟩
      have e0 : xs.drop 0 = x :: t := by rw [e]; rfl
      have e1 : xs.drop 1 = t := dropSucc e0
      have e2 : rd xs 0 = x := rd_get (i := 0) (dropGet e0)
      by_cases c3 : x = 0
      · refine Ev.step (f := fun k => spec_ruGood.l0 k xs ((0 + 1 : Nat) : Int)) (fun k => ?_) ((ruGood_l0 xs hx t 0 x e0).cast ?_)
        · simp (disch := omega) only [if_true, if_false, spec_ruGood.f, spec_ruGood.j0, spec_l1In.f, if_pos, Option.bind_some, decide_eq_true_eq, e2]
          simp only [c3]
          simp
        · simp [rulerB, c1, c2, c3, e1, e2]
      · refine Ev.of1 (fun k => ?_)
        simp (disch := omega) only [if_true, if_false, spec_ruGood.f, spec_ruGood.j0, spec_l1In.f, if_pos, Option.bind_some, decide_eq_true_eq, e2]
        simp [rulerB, c3, e2, spec_ruGood.j0]
    · refine Ev.of1 (fun k => ?_)
      simp [spec_ruGood.f, spec_ruGood.j0, spec_l1In.f, c1, c2, rulerB]
  · refine Ev.of1 (fun k => ?_)
    simp [spec_ruGood.f, spec_ruGood.j0, spec_l1In.f, c1, rulerB]
def hasB (n : Int) (l : List Int) : Bool := l.any fun x => decide (x = n)
theorem l1Has_l0 (n : Int) (xs : List Int) (hx : xs.length ≤ 1048576) : ∀ (t : List Int) (i : Nat), xs.drop i = t → Ev (fun k => spec_l1Has.l0 k n xs xs.length (i : Int)) (hasB n t)
  | [], i, h => by
    have h1 := dropNil h
    refine Ev.of1 (fun k => ?_)
    simp (disch := omega) only [if_true, if_false, spec_l1Has.l0, if_neg]
    rfl
  | x :: t, i, h => by
    obtain ⟨h1, h2, h3⟩ := dropCons h
    by_cases c : x = n
    · refine Ev.of1 (fun k => ?_)
      simp (disch := omega) only [if_true, if_false, spec_l1Has.l0, if_pos, h2, c]
      simp [hasB]
    · refine Ev.step (f := fun k => spec_l1Has.l0 k n xs xs.length ((i + 1 : Nat) : Int)) (fun k => ?_) ((l1Has_l0 n xs hx t (i + 1) h3).cast (by simp [hasB, c]))
      simp (disch := omega) only [if_true, if_false, spec_l1Has.l0, if_pos, if_neg, w64s, h2]
theorem l1Has_ev (xs : List Int) (n : Int) (hx : xs.length ≤ 1048576) : Ev (fun k => spec_l1Has.f k xs n) (hasB n xs) :=
  Ev.congr (fun k => rfl) (l1Has_l0 n xs hx xs 0 rfl)
theorem toIntS_l0 (xs : List Int) (hx : xs.length ≤ 1048576) : ∀ (t : List Int) (i : Nat) (ys : List Int), xs.drop i = t → i ≤ xs.length → ys.length = xs.length → ys.take i = xs.take i → Ev (fun k => laws_toIntS.l0 k xs ys (i : Int)) xs
  | [], i, ys, h, hi, hl, he => by
    have h1 := dropNil h
    obtain rfl : ys = xs := by
      have : i = xs.length := by omega
      subst this
      rw [List.take_of_length_le (by omega), List.take_of_length_le (by omega)] at he
      exact he
    refine Ev.of1 (fun k => ?_)
    simp (disch := omega) only [if_true, if_false, laws_toIntS.l0, if_neg]
  | x :: t, i, ys, h, hi, hl, he => by
    obtain ⟨h1, h2, h3⟩ := dropCons h
    refine Ev.step (f := fun k => laws_toIntS.l0 k xs (ys.set i x) ((i + 1 : Nat) : Int)) (fun k => ?_) (toIntS_l0 xs hx t (i + 1) _ h3 (by omega) (by simpa using hl) ?_)
    · simp (disch := omega) only [if_true, if_false, laws_toIntS.l0, if_pos, w64s, h2, toNat_cast]
    · rw [take_succ_at h, List.take_add_one, List.take_set_of_le (by omega), he]
      simp [hl, h1]
theorem toIntS_ev (xs : List Int) (hx : xs.length ≤ 1048576) : Ev (fun k => laws_toIntS.f k xs) xs := by
  refine Ev.congr (fun k => ?_) (toIntS_l0 xs hx xs 0 (List.replicate xs.length 0) rfl (by omega) (by simp) rfl)
  unfold laws_toIntS.f
  rw [if_pos (by omega), if_pos (by omega)]
  rfl
theorem IsRuler_l0 (xs : List Int) (hx : xs.length ≤ 1048576) : ∀ (t : List Int) (j : Nat) (p : Int), xs.drop j = p :: t → Ev (fun k => impl_IsRuler.l0 k xs ((j + 1 : Nat) : Int)) (incFrom p t)
  | [], j, p, h => by
    obtain ⟨h1, h2, h3⟩ := dropCons h
    have h4 := dropNil h3
    refine Ev.of1 (fun k => ?_)
    simp (disch := omega) only [if_true, if_false, impl_IsRuler.l0, if_neg]
    rfl
  | x :: t, j, p, h => by
    obtain ⟨h1, h2, h3⟩ := dropCons h
    obtain ⟨h1', h2', h3'⟩ := dropCons h3
    by_cases c : p < x
    · refine Ev.step (f := fun k => impl_IsRuler.l0 k xs ((j + 1 + 1 : Nat) : Int)) (fun k => ?_) ((IsRuler_l0 xs hx t (j + 1) x h3).cast (by simp [incFrom, c]))
      simp (disch := omega) only [if_true, if_false, impl_IsRuler.l0, if_pos, if_neg, w64s, w64q, h2, h2']
    · refine Ev.of1 (fun k => ?_)
      simp (disch := omega) only [if_true, if_false, impl_IsRuler.l0, if_pos, w64q, h2, h2']
      simp [incFrom, c]
theorem IsRuler_ev (xs : List Int) (hx : xs.length ≤ 1048576) : Ev (fun k => impl_IsRuler.f k xs) (rulerB xs) := by
  by_cases c1 : 1 ≤ (xs.length : Int)
  · by_cases c2 : (xs.length : Int) ≤ 12
    · obtain ⟨x, t, e⟩ : ∃ x t, xs = x :: t := by
        cases xs with
        | nil => simp at c1
        | cons x t => exact ⟨x, t, rfl⟩
      have e0 : xs.drop 0 = x :: t := by rw [e]; rfl
      have e1 : xs.drop 1 = t := dropSucc e0
      have e2 : rd xs 0 = x := rd_get (i := 0) (dropGet e0)
      by_cases c3 : x = 0
      · by_cases c4 : lastR xs ≤ 60
        · refine Ev.step (f := fun k => impl_IsRuler.l0 k xs ((0 + 1 : Nat) : Int)) (fun k => ?_) ((IsRuler_l0 xs hx t 0 x e0).cast ?_)
          · have c5 : ¬ rd xs ((xs.length : Int) - 1) > 60 := by unfold lastR at c4; omega
            simp (disch := omega) only [if_true, if_false, impl_IsRuler.f, impl_IsRuler.j0, if_pos, if_neg, e2, w64]
            simp only [c5]
            simp
          · simp [rulerB, c1, c2, c3, c4, e1, e2]
        · refine Ev.of1 (fun k => ?_)
          have c5 : rd xs ((xs.length : Int) - 1) > 60 := by unfold lastR at c4; omega
          simp (disch := omega) only [if_true, if_false, impl_IsRuler.f, impl_IsRuler.j0, if_pos, if_neg, e2, w64]
          simp [c5, rulerB, c4]
      · refine Ev.of1 (fun k => ?_)
        simp (disch := omega) only [if_true, if_false, impl_IsRuler.f, impl_IsRuler.j0, if_pos, if_neg, e2]
        simp [rulerB, c3, e2]
    · refine Ev.of1 (fun k => ?_)
      simp (disch := omega) only [if_true, if_false, impl_IsRuler.f, impl_IsRuler.j0, if_pos, if_neg]
      simp [c2, rulerB]
  · refine Ev.of1 (fun k => ?_)
    simp (disch := omega) only [if_true, if_false, impl_IsRuler.f, impl_IsRuler.j0, if_pos]
    simp [c1, rulerB]
theorem Index_l0 (n : Int) (xs : List Int) (hx : xs.length ≤ 1048576) : ∀ (t : List Int) (i : Nat), xs.drop i = t → ∃ r : Int, Ev (fun k => slices_Index_int_int.l0 k xs n xs.length (i : Int)) r ∧ decide (r ≥ 0) = hasB n t
  | [], i, h => by
    have h1 := dropNil h
    refine ⟨-1, Ev.of1 (fun k => ?_), by simp [hasB]⟩
    simp (disch := omega) only [if_true, if_false, slices_Index_int_int.l0, if_neg]
  | x :: t, i, h => by
    obtain ⟨h1, h2, h3⟩ := dropCons h
    by_cases c : n = x
    · refine ⟨(i : Int), Ev.of1 (fun k => ?_), by simp [hasB, c]⟩
      simp (disch := omega) only [if_true, if_false, slices_Index_int_int.l0, if_pos, h2]
    · obtain ⟨r, hr, hd⟩ := Index_l0 n xs hx t (i + 1) h3
      refine ⟨r, Ev.step (f := fun k => slices_Index_int_int.l0 k xs n xs.length ((i + 1 : Nat) : Int)) (fun k => ?_) hr, by rw [hd]; simp [hasB, Ne.symm c]⟩
      simp (disch := omega) only [if_true, if_false, slices_Index_int_int.l0, if_pos, if_neg, w64s, h2]
theorem Contains_ev (xs : List Int) (n : Int) (hx : xs.length ≤ 1048576) : Ev (fun k => slices_Contains_int_int.f k xs n) (hasB n xs) := by
  obtain ⟨r, hr, hd⟩ := Index_l0 n xs hx xs 0 rfl
  unfold slices_Contains_int_int.f
  refine (Ev.bind (f := fun _ t => some (decide (t ≥ 0))) (a := r) (Ev.congr (fun k => rfl) hr) (Ev.now _)).cast hd
def measM (xs : List Int) (a : Int) : List Int → Int × Int × Bool
  | [] => (0, 0, false)
  | x :: t => if hasB (wrap64 (x + a)) xs = true then (x, wrap64 (x + a), true) else measM xs a t
theorem sMeasureWith_l0 (a : Int) (xs : List Int) (hx : xs.length ≤ 1048576) : ∀ (t : List Int) (i : Nat), xs.drop i = t → Ev (fun k => spec_MeasureWith.l0 k xs a xs xs.length (i : Int)) (measM xs a t)
  | [], i, h => by
    have h1 := dropNil h
    refine Ev.of1 (fun k => ?_)
    simp (disch := omega) only [if_true, if_false, spec_MeasureWith.l0, if_neg, measM]
  | x :: t, i, h => by
    obtain ⟨h1, h2, h3⟩ := dropCons h
    refine Ev.step (f := fun k => (spec_l1Has.f k xs (wrap64 (x + a))).bind fun t111 => (if t111 = true then (some (x, wrap64 (x + a), true)) else (spec_MeasureWith.l0 k xs a xs xs.length ((i + 1 : Nat) : Int)))) (fun k => ?_) (Ev.bind (l1Has_ev xs (wrap64 (x + a)) hx) ?_)
    · simp (disch := omega) only [if_true, if_false, spec_MeasureWith.l0, if_pos, w64s, h2]
    · by_cases c : hasB (wrap64 (x + a)) xs = true
      · simp only [c, if_true, measM]
        exact Ev.now _
      · simp only [c, if_false, measM]
        exact sMeasureWith_l0 a xs hx t (i + 1) h3
theorem MeasureWith_l0 (a : Int) (xs : List Int) (hx : xs.length ≤ 1048576) : ∀ (t : List Int) (i : Nat), xs.drop i = t → Ev (fun k => impl_MeasureWith.l0 k xs a xs xs.length (i : Int)) (measM xs a t)
  | [], i, h => by
    have h1 := dropNil h
    refine Ev.of1 (fun k => ?_)
    simp (disch := omega) only [if_true, if_false, impl_MeasureWith.l0, if_neg, measM]
  | x :: t, i, h => by
    obtain ⟨h1, h2, h3⟩ := dropCons h
    refine Ev.step (f := fun k => (slices_Contains_int_int.f k xs (wrap64 (x + a))).bind fun t111 => (if t111 = true then (some (x, wrap64 (x + a), true)) else (impl_MeasureWith.l0 k xs a xs xs.length ((i + 1 : Nat) : Int)))) (fun k => ?_) (Ev.bind (Contains_ev xs (wrap64 (x + a)) hx) ?_)
    · simp (disch := omega) only [if_true, if_false, impl_MeasureWith.l0, if_pos, w64s, h2]
    · by_cases c : hasB (wrap64 (x + a)) xs = true
      · simp only [c, if_true, measM]
        exact Ev.now _
      · simp only [c, if_false, measM]
        exact MeasureWith_l0 a xs hx t (i + 1) h3
theorem measureWith_both (xs : List Int) (a : Int) (hx : xs.length ≤ 1048576) (ha : (Lit.int .i64 a).wf = true) : ∃ r, Ev (fun k => spec_MeasureWith.f k xs a) r ∧ Ev (fun k => impl_MeasureWith.f k xs a) r := by
  obtain ⟨K1, h1⟩ := ruGood_ev xs hx
  obtain ⟨K2, h2⟩ := IsRuler_ev xs hx
  obtain ⟨K3, h3⟩ := sMeasureWith_l0 a xs hx xs 0 rfl
  obtain ⟨K4, h4⟩ := MeasureWith_l0 a xs hx xs 0 rfl
  simp only [Int.natCast_zero] at h3 h4
  by_cases c : rulerB xs = true ∧ 1 ≤ a ∧ a ≤ 60
  · obtain ⟨c0, c1, c2⟩ := c
    refine ⟨measM xs a xs, ⟨K1 + K3 + 1, fun k hk => ?_⟩, ⟨K2 + K4 + 1, fun k hk => ?_⟩⟩
    · obtain ⟨k, rfl⟩ : ∃ m, k = m + 1 := ⟨k - 1, by omega⟩
      simp (disch := omega) [spec_MeasureWith.f, spec_MeasureWith.j0, spec_ruDistance.f, spec_l1In.f, h1, h3, c0, c1, c2]
    · obtain ⟨k, rfl⟩ : ∃ m, k = m + 1 := ⟨k - 1, by omega⟩
      simp (disch := omega) [impl_MeasureWith.f, impl_MeasureWith.j0, impl_isDistance.f, h2, h4, c0, c1, c2]
  · refine ⟨(0, 0, false), ⟨K1 + 1, fun k hk => ?_⟩, ⟨K2 + 1, fun k hk => ?_⟩⟩
    · obtain ⟨k, rfl⟩ : ∃ m, k = m + 1 := ⟨k - 1, by omega⟩
      by_cases c0 : rulerB xs = true <;> by_cases c1 : 1 ≤ a <;> by_cases c2 : a ≤ 60 <;> simp (disch := omega) [spec_MeasureWith.f, spec_MeasureWith.j0, spec_ruDistance.f, spec_l1In.f, h1, c0, c1, c2]
      exact absurd ⟨c0, c1, c2⟩ c
    · obtain ⟨k, rfl⟩ : ∃ m, k = m + 1 := ⟨k - 1, by omega⟩
      by_cases c0 : rulerB xs = true <;> by_cases c1 : 1 ≤ a <;> by_cases c2 : a ≤ 60 <;> simp (disch := omega) [impl_MeasureWith.f, impl_MeasureWith.j0, impl_isDistance.f, h2, c0, c1, c2]
      exact absurd ⟨c0, c1, c2⟩ c
theorem eqIntS_l0 (xs ys : List Int) (hx : xs.length ≤ 1048576) (hl : xs.length = ys.length) : ∀ (s t : List Int) (i : Nat), xs.drop i = s → ys.drop i = t → Ev (fun k => laws_eqIntS.l0 k xs ys (i : Int)) (decide (s = t))
  | [], t, i, h, h' => by
    have h1 := dropNil h
    have h2 : t = [] := by rw [← h']; simp; omega
    subst h2
    refine Ev.of1 (fun k => ?_)
    simp (disch := omega) only [if_true, if_false, laws_eqIntS.l0, if_neg]
    simp
  | x :: s, [], i, h, h' => by
    have h1 := dropLt h
    have h2 := dropNil h'
    omega
  | x :: s, y :: t, i, h, h' => by
    obtain ⟨h1, h2, h3⟩ := dropCons h
    obtain ⟨h1', h2', h3'⟩ := dropCons h'
    by_cases c : x = y
    · refine Ev.step (f := fun k => laws_eqIntS.l0 k xs ys ((i + 1 : Nat) : Int)) (fun k => ?_) ((eqIntS_l0 xs ys hx hl s t (i + 1) h3 h3').cast (by simp [c]))
      simp (disch := omega) only [if_true, if_false, laws_eqIntS.l0, if_pos, w64s, h2, h2']
    · refine Ev.of1 (fun k => ?_)
      simp (disch := omega) only [if_true, if_false, laws_eqIntS.l0, if_pos, if_neg, h2, h2']
      simp [c]
theorem eqIntS_ev (xs ys : List Int) (hx : xs.length ≤ 1048576) : Ev (fun k => laws_eqIntS.f k xs ys) (decide (xs = ys)) := by
  by_cases c : xs.length = ys.length
  · refine Ev.congr (fun k => ?_) (eqIntS_l0 xs ys hx c xs ys 0 rfl rfl)
    unfold laws_eqIntS.f
    rw [if_pos (by omega)]
    rfl
  · refine Ev.all (fun k => ?_)
    unfold laws_eqIntS.f
    rw [if_neg (by omega)]
    have : xs ≠ ys := fun e => c (by rw [e])
    simp [this]
theorem eqIntS_same (xs : List Int) (hx : xs.length ≤ 1048576) : Ev (fun k => laws_eqIntS.f k xs xs) true := (eqIntS_ev xs xs hx).cast (by simp)
theorem FnExactMeasureWith : laws_FnExactMeasureWith.Pure := by
  intro l a hm hr hw ha
  by_cases c : (l.length : Int) > 1048576
  · exact ⟨0, by unfold laws_FnExactMeasureWith.f; rw [if_pos c]⟩
  · have hl : l.length ≤ 1048576 := by omega
    obtain ⟨r, hS, hI⟩ : ∃ (r : Int × Int × Bool), Ev (fun k => spec_MeasureWith.f k l a) r ∧ Ev (fun k => impl_MeasureWith.f k l a) r := by
      exact measureWith_both l a hl ha
    obtain ⟨K1, h1⟩ := toIntS_ev l hl
    obtain ⟨K2, h2⟩ := hS
    obtain ⟨K3, h3⟩ := hI
    obtain ⟨K4, h4⟩ := eqIntS_same l hl
    refine ⟨K1 + K2 + K3 + K4 + 4, ?_⟩
    simp (disch := omega) only [if_true, if_false, laws_FnExactMeasureWith.f, laws_FnExactMeasureWith.j0, if_pos, if_neg, h1, h2, h3, h4, Option.bind_some, bne_self_eq_false, Bool.false_eq_true, if_false, if_true]
end Go.Proofs.Yteeniaklmgcahaa.Pure
