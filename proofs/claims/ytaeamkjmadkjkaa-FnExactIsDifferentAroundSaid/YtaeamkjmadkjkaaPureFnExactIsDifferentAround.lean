/- The law FnExactIsDifferentAround holds for every input: what the program's function computes is what the reference's computes. Conditions: none but the statement's own. -/
import Derived.Test.YtaeamkjmadkjkaaPFnExactIsDifferentAroundx3
import Derived.Test.YtaeamkjmadkjkaaAid
namespace Go.Proofs.Ytaeamkjmadkjkaa.Pure
open Go.RowKit Go.Proofs.Ytaeamkjmadkjkaa.PFnExactIsDifferentAround Go.Proofs.YtaeamkjmadkjkaaW.PrintWords Go.Proofs.YtaeamkjmadkjkaaW.PrintLast Go.Proofs.Ytaeamkjmadkjkaa.Aid
set_option linter.unusedVariables false
set_option linter.unusedSimpArgs false
theorem toIntS_l0 (xs : List Int) (hx : xs.length ≤ 1048576) : ∀ (t : List Int) (i : Nat) (ys : List Int), xs.drop i = t → i ≤ xs.length → ys.length = xs.length → ys.take i = xs.take i → Ev (fun k => laws_toIntS.l0 k xs ys (i : Int)) xs
  | [], i, ys, h, hi, hl, he => by
    have h1 := dropNil h
    obtain rfl : ys = xs := by
      have : i = xs.length := by omega
      subst this
      rw [List.take_of_length_le (by omega), List.take_of_length_le (by omega)] at he
      exact he
    refine Ev.of1 (fun k => ?_)
    simp (disch := omega) only [if_true, if_false, laws_toIntS.l0, if_neg]
  | x :: t, i, ys, h, hi, hl, he => by
    obtain ⟨h1, h2, h3⟩ := dropCons h
    refine Ev.step (f := fun k => laws_toIntS.l0 k xs (ys.set i x) ((i + 1 : Nat) : Int)) (fun k => ?_) (toIntS_l0 xs hx t (i + 1) _ h3 (by omega) (by simpa using hl) ?_)
    · simp (disch := omega) only [if_true, if_false, laws_toIntS.l0, if_pos, w64s, h2, toNat_cast]
    · rw [take_succ_at h, List.take_add_one, List.take_set_of_le (by omega), he]
      simp [hl, h1]
theorem toIntS_ev (xs : List Int) (hx : xs.length ≤ 1048576) : Ev (fun k => laws_toIntS.f k xs) xs := by
  refine Ev.congr (fun k => ?_) (toIntS_l0 xs hx xs 0 (List.replicate xs.length 0) rfl (by omega) (by simp) rfl)
  unfold laws_toIntS.f
  rw [if_pos (by omega), if_pos (by omega)]
  rfl
theorem eqIntS_l0 (xs ys : List Int) (hx : xs.length ≤ 1048576) (hl : xs.length = ys.length) : ∀ (s t : List Int) (i : Nat), xs.drop i = s → ys.drop i = t → Ev (fun k => laws_eqIntS.l0 k xs ys (i : Int)) (decide (s = t))
  | [], t, i, h, h' => by
    have h1 := dropNil h
    have h2 : t = [] := by rw [← h']; simp; omega
    subst h2
    refine Ev.of1 (fun k => ?_)
    simp (disch := omega) only [if_true, if_false, laws_eqIntS.l0, if_neg]
    simp
  | x :: s, [], i, h, h' => by
    have h1 := dropLt h
    have h2 := dropNil h'
    omega
  | x :: s, y :: t, i, h, h' => by
    obtain ⟨h1, h2, h3⟩ := dropCons h
    obtain ⟨h1', h2', h3'⟩ := dropCons h'
    by_cases c : x = y
    · refine Ev.step (f := fun k => laws_eqIntS.l0 k xs ys ((i + 1 : Nat) : Int)) (fun k => ?_) ((eqIntS_l0 xs ys hx hl s t (i + 1) h3 h3').cast (by simp [c]))
      simp (disch := omega) only [if_true, if_false, laws_eqIntS.l0, if_pos, w64s, h2, h2']
    · refine Ev.of1 (fun k => ?_)
      simp (disch := omega) only [if_true, if_false, laws_eqIntS.l0, if_pos, if_neg, h2, h2']
      simp [c]
theorem eqIntS_ev (xs ys : List Int) (hx : xs.length ≤ 1048576) : Ev (fun k => laws_eqIntS.f k xs ys) (decide (xs = ys)) := by
  by_cases c : xs.length = ys.length
  · refine Ev.congr (fun k => ?_) (eqIntS_l0 xs ys hx c xs ys 0 rfl rfl)
    unfold laws_eqIntS.f
    rw [if_pos (by omega)]
    rfl
  · refine Ev.all (fun k => ?_)
    unfold laws_eqIntS.f
    rw [if_neg (by omega)]
    have : xs ≠ ys := fun e => c (by rw [e])
    simp [this]
theorem eqIntS_same (xs : List Int) (hx : xs.length ≤ 1048576) : Ev (fun k => laws_eqIntS.f k xs xs) true := (eqIntS_ev xs xs hx).cast (by simp)
def incFrom (p : Int) : List Int → Bool
  | [] => true
  | x :: t => decide (p < x) && incFrom x t
def lastR (xs : List Int) : Int := rd xs ((xs.length : Int) - 1)
def rulerB (xs : List Int) : Bool := decide (1 ≤ (xs.length : Int)) && (decide ((xs.length : Int) ≤ 12) && (decide (rd xs 0 = 0) && (incFrom (rd xs 0) (xs.drop 1) && decide (lastR xs ≤ 60))))
theorem ruGood_l0 (xs : List Int) (hx : xs.length ≤ 1048576) : ∀ (t : List Int) (j : Nat) (p : Int), xs.drop j = p :: t → Ev (fun k => spec_ruGood.l0 k xs ((j + 1 : Nat) : Int)) (incFrom p t && decide (lastR xs ≤ 60))
  | [], j, p, h => by
    obtain ⟨h1, h2, h3⟩ := dropCons h
    have h4 := dropNil h3
    refine Ev.of1 (fun k => ?_)
    simp (disch := omega) only [if_true, if_false, spec_ruGood.l0, if_neg, if_pos, w64]
    simp [incFrom, lastR]
    exact decide_eq_decide.2 Iff.rfl
  | x :: t, j, p, h => by
    obtain ⟨h1, h2, h3⟩ := dropCons h
    obtain ⟨h1', h2', h3'⟩ := dropCons h3
    by_cases c : p < x
    · refine Ev.step (f := fun k => spec_ruGood.l0 k xs ((j + 1 + 1 : Nat) : Int)) (fun k => ?_) ((ruGood_l0 xs hx t (j + 1) x h3).cast (by simp [incFrom, c]))
      simp (disch := omega) only [if_true, if_false, spec_ruGood.l0, if_pos, if_neg, w64s, w64q, h2, h2']
    · refine Ev.of1 (fun k => ?_)
      simp (disch := omega) only [if_true, if_false, spec_ruGood.l0, if_pos, w64q, h2, h2']
      simp [incFrom, c]
theorem ruGood_ev (xs : List Int) (hx : xs.length ≤ 1048576) : Ev (fun k => spec_ruGood.f k xs) (rulerB xs) := by
  by_cases c1 : 1 ≤ (xs.length : Int)
  · by_cases c2 : (xs.length : Int) ≤ 12
    · obtain ⟨x, t, e⟩ : ∃ x t, xs = x :: t := by
        cases xs with
        | nil => simp at c1
        | cons x t => exact ⟨x, t, rfl⟩
      have e0 : xs.drop 0 = x :: t := by rw [e]; rfl
      have e1 : xs.drop 1 = t := dropSucc e0
      have e2 : rd xs 0 = x := rd_get (i := 0) (dropGet e0)
      by_cases c3 : x = 0
      · refine Ev.step (f := fun k => spec_ruGood.l0 k xs ((0 + 1 : Nat) : Int)) (fun k => ?_) ((ruGood_l0 xs hx t 0 x e0).cast ?_)
        · simp (disch := omega) only [if_true, if_false, spec_ruGood.f, spec_ruGood.j0, spec_l1In.f, if_pos, Option.bind_some, decide_eq_true_eq, e2]
          simp only [c3]
          simp
        · simp [rulerB, c1, c2, c3, e1, e2]
      · refine Ev.of1 (fun k => ?_)
        simp (disch := omega) only [if_true, if_false, spec_ruGood.f, spec_ruGood.j0, spec_l1In.f, if_pos, Option.bind_some, decide_eq_true_eq, e2]
        simp [rulerB, c3, e2, spec_ruGood.j0]
    · refine Ev.of1 (fun k => ?_)
      simp [spec_ruGood.f, spec_ruGood.j0, spec_l1In.f, c1, c2, rulerB]
  · refine Ev.of1 (fun k => ?_)
    simp [spec_ruGood.f, spec_ruGood.j0, spec_l1In.f, c1, rulerB]
theorem IsRuler_l0 (xs : List Int) (hx : xs.length ≤ 1048576) : ∀ (t : List Int) (j : Nat) (p : Int), xs.drop j = p :: t → Ev (fun k => impl_IsRuler.l0 k xs ((j + 1 : Nat) : Int)) (incFrom p t)
  | [], j, p, h => by
    obtain ⟨h1, h2, h3⟩ := dropCons h
    have h4 := dropNil h3
    refine Ev.of1 (fun k => ?_)
    simp (disch := omega) only [if_true, if_false, impl_IsRuler.l0, if_neg]
    rfl
  | x :: t, j, p, h => by
    obtain ⟨h1, h2, h3⟩ := dropCons h
    obtain ⟨h1', h2', h3'⟩ := dropCons h3
    by_cases c : p < x
    · refine Ev.step (f := fun k => impl_IsRuler.l0 k xs ((j + 1 + 1 : Nat) : Int)) (fun k => ?_) ((IsRuler_l0 xs hx t (j + 1) x h3).cast (by simp [incFrom, c]))
      simp (disch := omega) only [if_true, if_false, impl_IsRuler.l0, if_pos, if_neg, w64s, w64q, h2, h2']
    · refine Ev.of1 (fun k => ?_)
      simp (disch := omega) only [if_true, if_false, impl_IsRuler.l0, if_pos, w64q, h2, h2']
      simp [incFrom, c]
theorem IsRuler_ev (xs : List Int) (hx : xs.length ≤ 1048576) : Ev (fun k => impl_IsRuler.f k xs) (rulerB xs) := by
  by_cases c1 : 1 ≤ (xs.length : Int)
  · by_cases c2 : (xs.length : Int) ≤ 12
    · obtain ⟨x, t, e⟩ : ∃ x t, xs = x :: t := by
        cases xs with
        | nil => simp at c1
        | cons x t => exact ⟨x, t, rfl⟩
      have e0 : xs.drop 0 = x :: t := by rw [e]; rfl
      have e1 : xs.drop 1 = t := dropSucc e0
      have e2 : rd xs 0 = x := rd_get (i := 0) (dropGet e0)
      by_cases c3 : x = 0
      · by_cases c4 : lastR xs ≤ 60
        · refine Ev.step (f := fun k => impl_IsRuler.l0 k xs ((0 + 1 : Nat) : Int)) (fun k => ?_) ((IsRuler_l0 xs hx t 0 x e0).cast ?_)
          · have c5 : ¬ rd xs ((xs.length : Int) - 1) > 60 := by unfold lastR at c4; omega
            simp (disch := omega) only [if_true, if_false, impl_IsRuler.f, impl_IsRuler.j0, if_pos, if_neg, e2, w64]
            simp only [c5]
            simp
          · simp [rulerB, c1, c2, c3, c4, e1, e2]
        · refine Ev.of1 (fun k => ?_)
          have c5 : rd xs ((xs.length : Int) - 1) > 60 := by unfold lastR at c4; omega
          simp (disch := omega) only [if_true, if_false, impl_IsRuler.f, impl_IsRuler.j0, if_pos, if_neg, e2, w64]
          simp [c5, rulerB, c4]
      · refine Ev.of1 (fun k => ?_)
        simp (disch := omega) only [if_true, if_false, impl_IsRuler.f, impl_IsRuler.j0, if_pos, if_neg, e2]
        simp [rulerB, c3, e2]
    · refine Ev.of1 (fun k => ?_)
      simp (disch := omega) only [if_true, if_false, impl_IsRuler.f, impl_IsRuler.j0, if_pos, if_neg]
      simp [c2, rulerB]
  · refine Ev.of1 (fun k => ?_)
    simp (disch := omega) only [if_true, if_false, impl_IsRuler.f, impl_IsRuler.j0, if_pos]
    simp [c1, rulerB]
theorem incFrom_pairwise : ∀ (p : Int) (t : List Int), incFrom p t = true → (p :: t).Pairwise (· < ·)
  | p, [], _ => by simp
  | p, x :: t, h => by
    simp only [incFrom, Bool.and_eq_true, decide_eq_true_eq] at h
    have ih := incFrom_pairwise x t h.2
    refine List.pairwise_cons.2 ⟨fun y hy => ?_, ih⟩
    rcases List.mem_cons.1 hy with rfl | hy
    · exact h.1
    · have := (List.pairwise_cons.1 ih).1 y hy
      omega
theorem ruler_facts {xs : List Int} (h : rulerB xs = true) : 1 ≤ xs.length ∧ xs.length ≤ 12 ∧ lastR xs ≤ 60 ∧ xs.Pairwise (· < ·) ∧ ∀ x ∈ xs, 0 ≤ x ∧ x ≤ lastR xs := by
  have h1 : 1 ≤ xs.length ∧ xs.length ≤ 12 ∧ rd xs 0 = 0 ∧ incFrom (rd xs 0) (xs.drop 1) = true ∧ lastR xs ≤ 60 := by
    simp only [rulerB, Bool.and_eq_true, decide_eq_true_eq] at h
    obtain ⟨ha, hb, hc, hd, he⟩ := h
    exact ⟨by omega, by omega, hc, hd, he⟩
  obtain ⟨ha, hb, hc, hd, he⟩ := h1
  cases xs with
  | nil => simp at ha
  | cons x t =>
    have e : rd (x :: t) 0 = x := by simp [rd]
    rw [e] at hd hc
    have hp := incFrom_pairwise x t hd
    refine ⟨ha, hb, he, hp, fun y hy => ⟨?_, ?_⟩⟩
    · rcases List.mem_cons.1 hy with rfl | hy
      · omega
      · have := (List.pairwise_cons.1 hp).1 y hy
        omega
    · obtain ⟨i, hi, rfl⟩ := List.getElem_of_mem hy
      have el : lastR (x :: t) = (x :: t)[(x :: t).length - 1] := by
        unfold lastR
        rw [show (((x :: t).length : Nat) : Int) - 1 = (((x :: t).length - 1 : Nat) : Int) by omega]
        exact rd_lt (by omega)
      rw [el]
      rcases Nat.lt_or_ge i ((x :: t).length - 1) with h' | h'
      · exact Int.le_of_lt (List.pairwise_iff_getElem.1 hp i _ hi (by omega) h')
      · have : i = (x :: t).length - 1 := by omega
        subst this
        exact Int.le_refl _
theorem ruler_before {xs : List Int} (h : rulerB xs = true) {i : Nat} {m : Int} {t : List Int} (hd : xs.drop i = m :: t) : ∀ p ∈ xs.take i, p < m := by
  intro p hp
  obtain ⟨_, _, _, hpw, _⟩ := ruler_facts h
  have hi := dropLt hd
  have hm := dropGet hd
  obtain ⟨j, hj, rfl⟩ := List.getElem_of_mem hp
  simp at hj
  have e : m = xs[i] := by
    rw [List.getElem?_eq_getElem hi] at hm
    simpa using hm.symm
  rw [e, List.getElem_take]
  exact List.pairwise_iff_getElem.1 hpw j i (by omega) hi (by omega)
def dOf (x y n : Int) : Int := if Int.tmod (x - y) n < 0 then Int.tmod (x - y) n + n else Int.tmod (x - y) n
theorem dOf_facts (x y n : Int) (hn : 0 < n) (hn2 : n ≤ 200) : 0 ≤ dOf x y n ∧ dOf x y n < n ∧ -n < Int.tmod (x - y) n ∧ Int.tmod (x - y) n < n ∧ Int.tmod (Int.tmod (x - y) n + n) n = dOf x y n := by
  have h1 := Int.tmod_lt_of_pos (x - y) hn
  have h2 := Int.lt_tmod_of_pos (x - y) hn
  have h3 : Int.tmod (Int.tmod (x - y) n + n) n = Int.tmod (x - y) n % n := by
    rw [Int.tmod_eq_emod_of_nonneg (by omega), Int.add_emod_right]
  unfold dOf
  by_cases c : Int.tmod (x - y) n < 0
  · rw [if_pos c, h3]
    refine ⟨by omega, by omega, h2, h1, ?_⟩
    rw [← Int.add_emod_right]
    exact Int.emod_eq_of_lt (by omega) (by omega)
  · rw [if_neg c, h3]
    exact ⟨by omega, by omega, h2, h1, Int.emod_eq_of_lt (by omega) (by omega)⟩
def aIn (n x : Int) (i : Nat) : List Int → Nat → List Bool → Option (List Bool)
  | [], _, S => some S
  | y :: s, j, S => if i = j then aIn n x i s (j + 1) S else if rdOf false S (dOf x y n) = true then none else aIn n x i s (j + 1) (S.set (dOf x y n).toNat true)
theorem aIn_length (n x : Int) (i : Nat) : ∀ (s : List Int) (j : Nat) (S S' : List Bool), aIn n x i s j S = some S' → S'.length = S.length
  | [], j, S, S', h => by simp [aIn] at h; rw [h]
  | y :: s, j, S, S', h => by
    unfold aIn at h
    by_cases c : i = j
    · rw [if_pos c] at h
      exact aIn_length n x i s _ _ _ h
    · rw [if_neg c] at h
      by_cases c1 : rdOf false S (dOf x y n) = true
      · rw [if_pos c1] at h; cases h
      · rw [if_neg c1] at h
        simpa using aIn_length n x i s _ _ _ h
def aOut (xs : List Int) (n : Int) : List Int → Nat → List Bool → Bool
  | [], _, _ => true
  | x :: t, i, S => match aIn n x i xs 0 S with
    | none => false
    | some S' => aOut xs n t (i + 1) S'
def b01 (b : Bool) : Int := if b then 1 else 0
theorem rd_b01 (S : List Bool) (d : Int) : rd (S.map b01) d = b01 (rdOf false S d) := by
  unfold rd rdOf
  rw [List.getD_eq_getElem?_getD, List.getD_eq_getElem?_getD, List.getElem?_map]
  cases S[d.toNat]? <;> rfl
theorem rd_set_same (T : List Int) (d v : Int) (h0 : 0 ≤ d) (h : d < T.length) : rd (T.set d.toNat v) d = v := by
  unfold rd
  rw [List.getD_eq_getElem?_getD, List.getElem?_set_self (by omega)]
  rfl
theorem set_b01 (S : List Bool) (d : Nat) : (S.map b01).set d 1 = (S.set d true).map b01 := by
  rw [List.map_set]
  rfl
def contIs (r : Bool × Bool) (g : List Bool → Nat → Option (Bool × Bool)) : Option (List Bool) → Prop
  | none => r = (false, true)
  | some S => Ev (g S) r
theorem around_l1 (n : Int) (hn : 0 < n) (hn2 : n ≤ 200) (xs : List Int) (hx : xs.length ≤ 12) (hb : ∀ x ∈ xs, 0 ≤ x ∧ x ≤ 60) (i : Nat) (x : Int) (hx0 : 0 ≤ x ∧ x ≤ 60) (hi : i < xs.length) (r : Bool × Bool) : ∀ (s : List Int) (j : Nat) (S : List Bool), xs.drop j = s → S.length = n.toNat →
    contIs r (fun S' k => impl_IsDifferentAround.l0 k xs n S' xs xs.length ((i + 1 : Nat) : Int)) (aIn n x i s j S) → Ev (fun k => impl_IsDifferentAround.l1 k xs n S (i : Int) x xs xs.length (i : Int) xs xs.length (j : Int)) r
  | [], j, S, h, hS, hc => by
    have h1 := dropNil h
    refine Ev.step (fun k => ?_) hc
    simp (disch := omega) only [if_true, if_false, impl_IsDifferentAround.l1, if_neg, w64s]
  | y :: s, j, S, h, hS, hc => by
    obtain ⟨h1, h2, h3⟩ := dropCons h
    have hy := hb y (by rw [← List.take_append_drop j xs, h]; simp)
    have hd := dOf_facts x y n hn hn2
    have e1 : wrap64 (x - y) = x - y := w64 (by omega) (by omega)
    have e2 : wrap64 (Int.tmod (x - y) n + n) = Int.tmod (x - y) n + n := w64 (by omega) (by omega)
    unfold aIn at hc
    by_cases c : i = j
    · rw [if_pos c] at hc
      refine Ev.step (f := fun k => impl_IsDifferentAround.l1 k xs n S (i : Int) x xs xs.length (i : Int) xs xs.length ((j + 1 : Nat) : Int)) (fun k => ?_) (around_l1 n hn hn2 xs hx hb i x hx0 hi r s (j + 1) S h3 hS hc)
      simp (disch := omega) only [if_true, if_false, impl_IsDifferentAround.l1, if_pos, w64s, h2]
    · rw [if_neg c] at hc
      by_cases c1 : rdOf false S (dOf x y n) = true
      · rw [if_pos c1] at hc
        have hc' : r = (false, true) := hc
        subst hc'
        refine Ev.of1 (fun k => ?_)
        simp (disch := omega) only [if_true, if_false, impl_IsDifferentAround.l1, if_pos, if_neg, h2, e1, e2, hd.2.2.2.2, c1, if_true]
      · rw [if_neg c1] at hc
        refine Ev.step (f := fun k => impl_IsDifferentAround.l1 k xs n (S.set (dOf x y n).toNat true) (i : Int) x xs xs.length (i : Int) xs xs.length ((j + 1 : Nat) : Int)) (fun k => ?_) (around_l1 n hn hn2 xs hx hb i x hx0 hi r s (j + 1) _ h3 (by simpa using hS) hc)
        simp (disch := omega) only [if_true, if_false, impl_IsDifferentAround.l1, if_pos, if_neg, h2, e1, e2, hd.2.2.2.2, (show rdOf false S (dOf x y n) = false by simpa using c1), w64s, Bool.false_eq_true, if_false]
theorem saround_l1 (n : Int) (hn : 0 < n) (hn2 : n ≤ 200) (xs : List Int) (hx : xs.length ≤ 12) (hb : ∀ x ∈ xs, 0 ≤ x ∧ x ≤ 60) (i : Nat) (x : Int) (hx0 : 0 ≤ x ∧ x ≤ 60) (hi : i < xs.length) (r : Bool × Bool) : ∀ (s : List Int) (j : Nat) (S : List Bool), xs.drop j = s → S.length = n.toNat →
    contIs r (fun S' k => spec_IsDifferentAround.l0 k xs n (S'.map b01) xs xs.length ((i + 1 : Nat) : Int)) (aIn n x i s j S) → Ev (fun k => spec_IsDifferentAround.l1 k xs n (S.map b01) (i : Int) x xs xs.length (i : Int) xs xs.length (j : Int)) r
  | [], j, S, h, hS, hc => by
    have h1 := dropNil h
    refine Ev.step (fun k => ?_) hc
    simp (disch := omega) only [if_true, if_false, spec_IsDifferentAround.l1, if_neg, w64s]
  | y :: s, j, S, h, hS, hc => by
    obtain ⟨h1, h2, h3⟩ := dropCons h
    have hy := hb y (by rw [← List.take_append_drop j xs, h]; simp)
    have hd := dOf_facts x y n hn hn2
    have e1 : wrap64 (x - y) = x - y := w64 (by omega) (by omega)
    have e2 : wrap64 (Int.tmod (x - y) n + n) = Int.tmod (x - y) n + n := w64 (by omega) (by omega)
    have hl : (S.map b01).length = n.toNat := by simpa using hS
    unfold aIn at hc
    by_cases c : i = j
    · rw [if_pos c] at hc
      refine Ev.step (f := fun k => spec_IsDifferentAround.l1 k xs n (S.map b01) (i : Int) x xs xs.length (i : Int) xs xs.length ((j + 1 : Nat) : Int)) (fun k => ?_) (saround_l1 n hn hn2 xs hx hb i x hx0 hi r s (j + 1) S h3 hS hc)
      simp (disch := omega) only [if_true, if_false, spec_IsDifferentAround.l1, if_pos, w64s, h2]
    · rw [if_neg c] at hc
      obtain ⟨hd0, hd1, hd2, hd3, hd4⟩ := hd
      by_cases c2 : Int.tmod (x - y) n < 0
      · have ed : dOf x y n = Int.tmod (x - y) n + n := by unfold dOf; rw [if_pos c2]
        rw [ed] at hc hd0 hd1
        by_cases c1 : rdOf false S (Int.tmod (x - y) n + n) = true
        · rw [if_pos c1] at hc
          have hc' : r = (false, true) := hc
          subst hc'
          have e3 : wrap64 (b01 true + 1) = 2 := by unfold b01 wrap64; decide
          refine Ev.of1 (fun k => ?_)
          simp (disch := omega) only [if_true, if_false, spec_IsDifferentAround.l1, if_pos, if_neg, h2, e1, e2, rd_b01, c1, e3, Option.bind_some, rd_set_same]
        · have c1' : rdOf false S (Int.tmod (x - y) n + n) = false := by simpa using c1
          rw [if_neg c1] at hc
          have e3 : wrap64 (b01 false + 1) = 1 := by unfold b01 wrap64; decide
          refine Ev.step (f := fun k => spec_IsDifferentAround.l1 k xs n ((S.set (Int.tmod (x - y) n + n).toNat true).map b01) (i : Int) x xs xs.length (i : Int) xs xs.length ((j + 1 : Nat) : Int)) (fun k => ?_) (saround_l1 n hn hn2 xs hx hb i x hx0 hi r s (j + 1) _ h3 (by simpa using hS) hc)
          simp (disch := omega) only [if_true, if_false, spec_IsDifferentAround.l1, if_pos, if_neg, h2, e1, e2, rd_b01, c1', e3, Option.bind_some, rd_set_same, w64s]
          rw [set_b01]
      · have ed : dOf x y n = Int.tmod (x - y) n := by unfold dOf; rw [if_neg c2]
        rw [ed] at hc hd0 hd1
        by_cases c1 : rdOf false S (Int.tmod (x - y) n) = true
        · rw [if_pos c1] at hc
          have hc' : r = (false, true) := hc
          subst hc'
          have e3 : wrap64 (b01 true + 1) = 2 := by unfold b01 wrap64; decide
          refine Ev.of1 (fun k => ?_)
          simp (disch := omega) only [if_true, if_false, spec_IsDifferentAround.l1, if_pos, if_neg, h2, e1, rd_b01, c1, e3, Option.bind_some, rd_set_same]
        · have c1' : rdOf false S (Int.tmod (x - y) n) = false := by simpa using c1
          rw [if_neg c1] at hc
          have e3 : wrap64 (b01 false + 1) = 1 := by unfold b01 wrap64; decide
          refine Ev.step (f := fun k => spec_IsDifferentAround.l1 k xs n ((S.set (Int.tmod (x - y) n).toNat true).map b01) (i : Int) x xs xs.length (i : Int) xs xs.length ((j + 1 : Nat) : Int)) (fun k => ?_) (saround_l1 n hn hn2 xs hx hb i x hx0 hi r s (j + 1) _ h3 (by simpa using hS) hc)
          simp (disch := omega) only [if_true, if_false, spec_IsDifferentAround.l1, if_pos, if_neg, h2, e1, rd_b01, c1', e3, Option.bind_some, rd_set_same, w64s]
          rw [set_b01]
theorem around_l0 (n : Int) (hn : 0 < n) (hn2 : n ≤ 200) (xs : List Int) (hx : xs.length ≤ 12) (hb : ∀ x ∈ xs, 0 ≤ x ∧ x ≤ 60) : ∀ (t : List Int) (i : Nat) (S : List Bool), xs.drop i = t → S.length = n.toNat → Ev (fun k => impl_IsDifferentAround.l0 k xs n S xs xs.length (i : Int)) (aOut xs n t i S, true)
  | [], i, S, h, hS => by
    have h1 := dropNil h
    refine Ev.of1 (fun k => ?_)
    simp (disch := omega) only [if_true, if_false, impl_IsDifferentAround.l0, if_neg, aOut]
  | x :: t, i, S, h, hS => by
    obtain ⟨h1, h2, h3⟩ := dropCons h
    have hx0 := hb x (by rw [← List.take_append_drop i xs, h]; simp)
    refine Ev.step (f := fun k => impl_IsDifferentAround.l1 k xs n S (i : Int) x xs xs.length (i : Int) xs xs.length ((0 : Nat) : Int)) (fun k => ?_) (around_l1 n hn hn2 xs hx hb i x hx0 h1 _ xs 0 S rfl hS ?_)
    · simp (disch := omega) only [if_true, if_false, impl_IsDifferentAround.l0, if_pos, h2]
      rfl
    · unfold aOut
      cases e : aIn n x i xs 0 S with
      | none => rfl
      | some S' => exact around_l0 n hn hn2 xs hx hb t (i + 1) S' h3 (by rw [aIn_length _ _ _ _ _ _ _ e]; exact hS)
theorem saround_l0 (n : Int) (hn : 0 < n) (hn2 : n ≤ 200) (xs : List Int) (hx : xs.length ≤ 12) (hb : ∀ x ∈ xs, 0 ≤ x ∧ x ≤ 60) : ∀ (t : List Int) (i : Nat) (S : List Bool), xs.drop i = t → S.length = n.toNat → Ev (fun k => spec_IsDifferentAround.l0 k xs n (S.map b01) xs xs.length (i : Int)) (aOut xs n t i S, true)
  | [], i, S, h, hS => by
    have h1 := dropNil h
    refine Ev.of1 (fun k => ?_)
    simp (disch := omega) only [if_true, if_false, spec_IsDifferentAround.l0, if_neg, aOut]
  | x :: t, i, S, h, hS => by
    obtain ⟨h1, h2, h3⟩ := dropCons h
    have hx0 := hb x (by rw [← List.take_append_drop i xs, h]; simp)
    refine Ev.step (f := fun k => spec_IsDifferentAround.l1 k xs n (S.map b01) (i : Int) x xs xs.length (i : Int) xs xs.length ((0 : Nat) : Int)) (fun k => ?_) (saround_l1 n hn hn2 xs hx hb i x hx0 h1 _ xs 0 S rfl hS ?_)
    · simp (disch := omega) only [if_true, if_false, spec_IsDifferentAround.l0, if_pos, h2]
      rfl
    · unfold aOut
      cases e : aIn n x i xs 0 S with
      | none => rfl
      | some S' => exact saround_l0 n hn hn2 xs hx hb t (i + 1) S' h3 (by rw [aIn_length _ _ _ _ _ _ _ e]; exact hS)
theorem around_both (xs : List Int) (a : Int) (hx : xs.length ≤ 1048576) (ha : (Lit.int .i64 a).wf = true) : ∃ r, Ev (fun k => spec_IsDifferentAround.f k xs a) r ∧ Ev (fun k => impl_IsDifferentAround.f k xs a) r := by
  obtain ⟨K1, h1⟩ := ruGood_ev xs hx
  obtain ⟨K2, h2⟩ := IsRuler_ev xs hx
  by_cases c : rulerB xs = true ∧ 1 ≤ a ∧ a ≤ 200
  · obtain ⟨c0, c1, c2⟩ := c
    obtain ⟨ha, hb, hc, hd, he⟩ := ruler_facts c0
    have hb' : ∀ x ∈ xs, 0 ≤ x ∧ x ≤ 60 := fun x hx' => by have := he x hx'; omega
    obtain ⟨K3, h3⟩ := saround_l0 a (by omega) c2 xs hb hb' xs 0 (List.replicate a.toNat false) rfl (by simp)
    obtain ⟨K4, h4⟩ := around_l0 a (by omega) c2 xs hb hb' xs 0 (List.replicate a.toNat false) rfl (by simp)
    have e0 : (List.replicate a.toNat false).map b01 = List.replicate a.toNat 0 := by rw [List.map_replicate]; rfl
    rw [e0] at h3
    simp only [Int.natCast_zero] at h3 h4
    have c3 : ¬ a < 1 := by omega
    have c4 : ¬ 200 < a := by omega
    have c5 : 0 ≤ a := by omega
    have c6 : a.toNat ≤ 35184372088832 := by omega
    have c7 : a.toNat ≤ 281474976710656 := by omega
    refine ⟨(aOut xs a xs 0 (List.replicate a.toNat false), true), ⟨K1 + K3 + 1, fun k hk => ?_⟩, ⟨K2 + K4 + 1, fun k hk => ?_⟩⟩
    · obtain ⟨k, rfl⟩ : ∃ m, k = m + 1 := ⟨k - 1, by omega⟩
      simp (disch := omega) only [if_true, if_false, spec_IsDifferentAround.f, spec_IsDifferentAround.j0, spec_l1In.f, h1, c0, Option.bind_some, if_true, if_pos, c2, decide_true, Bool.not_true, Bool.false_eq_true, if_false]
      exact h3 k (by omega)
    · obtain ⟨k, rfl⟩ : ∃ m, k = m + 1 := ⟨k - 1, by omega⟩
      simp (disch := omega) only [if_true, if_false, impl_IsDifferentAround.f, impl_IsDifferentAround.j0, h2, c0, Option.bind_some, if_true, if_pos, if_neg, gt_iff_lt, c4, decide_false, Bool.false_eq_true, if_false]
      exact h4 k (by omega)
  · refine ⟨(false, false), ⟨K1 + 1, fun k hk => ?_⟩, ⟨K2 + 1, fun k hk => ?_⟩⟩
    · obtain ⟨k, rfl⟩ : ∃ m, k = m + 1 := ⟨k - 1, by omega⟩
      by_cases c0 : rulerB xs = true <;> by_cases c1 : 1 ≤ a <;> by_cases c2 : a ≤ 200 <;> simp (disch := omega) [spec_IsDifferentAround.f, spec_IsDifferentAround.j0, spec_l1In.f, h1, c0, c1, c2]
      exact absurd ⟨c0, c1, c2⟩ c
    · obtain ⟨k, rfl⟩ : ∃ m, k = m + 1 := ⟨k - 1, by omega⟩
      by_cases c0 : rulerB xs = true
      · by_cases c1 : a < 1
        · simp (disch := omega) [impl_IsDifferentAround.f, impl_IsDifferentAround.j0, h2, c0, c1]
        · have c2 : 200 < a := by
            rcases Int.lt_or_le 200 a with h | h
            · exact h
            · exact absurd ⟨c0, by omega, h⟩ c
          simp (disch := omega) [impl_IsDifferentAround.f, impl_IsDifferentAround.j0, h2, c0, c1, c2]
      · simp (disch := omega) [impl_IsDifferentAround.f, impl_IsDifferentAround.j0, h2, c0]
theorem FnExactIsDifferentAround : laws_FnExactIsDifferentAround.Pure := by
  intro l a hm hr hw ha
  by_cases c : (l.length : Int) > 1048576
  · exact ⟨0, by unfold laws_FnExactIsDifferentAround.f; rw [if_pos c]⟩
  · have hl : l.length ≤ 1048576 := by omega
    obtain ⟨r, hS, hI⟩ : ∃ (r : Bool × Bool), Ev (fun k => spec_IsDifferentAround.f k l a) r ∧ Ev (fun k => impl_IsDifferentAround.f k l a) r := by
      exact around_both l a hl ha
    obtain ⟨K1, h1⟩ := toIntS_ev l hl
    obtain ⟨K2, h2⟩ := hS
    obtain ⟨K3, h3⟩ := hI
    obtain ⟨K4, h4⟩ := eqIntS_same l hl
    refine ⟨K1 + K2 + K3 + K4 + 4, ?_⟩
    simp (disch := omega) only [if_true, if_false, laws_FnExactIsDifferentAround.f, laws_FnExactIsDifferentAround.j0, if_pos, if_neg, h1, h2, h3, h4, Option.bind_some, bne_self_eq_false, Bool.false_eq_true, if_false, if_true]
end Go.Proofs.Ytaeamkjmadkjkaa.Pure
