/- The law FnExactFirstLangford holds for every input: what the program's function computes is what the reference's computes. Conditions: none but the statement's own. -/
import Derived.Test.YtkffdloophagaaaPFnExactFirstLangfordx2
import Derived.Test.YtkffdloophagaaaAid
import Derived.Test.YtkffdloophagaaaSPure2
namespace Go.Proofs.Ytkffdloophagaaa.Pure
open Go.RowKit Go.Proofs.Ytkffdloophagaaa.PFnExactFirstLangford Go.Proofs.YtkffdloophagaaaW.PrintWords Go.Proofs.YtkffdloophagaaaW.PrintLast Go.Proofs.Ytkffdloophagaaa.Aid
set_option linter.unusedVariables false
set_option linter.unusedSimpArgs false
theorem eqIntS_l0 (xs ys : List Int) (hx : xs.length ≤ 1048576) (hl : xs.length = ys.length) : ∀ (s t : List Int) (i : Nat), xs.drop i = s → ys.drop i = t → Ev (fun k => laws_eqIntS.l0 k xs ys (i : Int)) (decide (s = t))
  | [], t, i, h, h' => by
    have h1 := dropNil h
    have h2 : t = [] := by rw [← h']; simp; omega
    subst h2
    refine Ev.of1 (fun k => ?_)
    simp (disch := omega) only [if_true, if_false, Bool.false_eq_true, laws_eqIntS.l0, if_neg]
    simp
  | x :: s, [], i, h, h' => by
    have h1 := dropLt h
    have h2 := dropNil h'
    omega
  | x :: s, y :: t, i, h, h' => by
    obtain ⟨h1, h2, h3⟩ := dropCons h
    obtain ⟨h1', h2', h3'⟩ := dropCons h'
    by_cases c : x = y
    · refine Ev.step (f := fun k => laws_eqIntS.l0 k xs ys ((i + 1 : Nat) : Int)) (fun k => ?_) ((eqIntS_l0 xs ys hx hl s t (i + 1) h3 h3').cast (by simp [c]))
      simp (disch := omega) only [if_true, if_false, Bool.false_eq_true, laws_eqIntS.l0, if_pos, w64s, h2, h2']
    · refine Ev.of1 (fun k => ?_)
      simp (disch := omega) only [if_true, if_false, Bool.false_eq_true, laws_eqIntS.l0, if_pos, if_neg, h2, h2']
      simp [c]
theorem eqIntS_ev (xs ys : List Int) (hx : xs.length ≤ 1048576) : Ev (fun k => laws_eqIntS.f k xs ys) (decide (xs = ys)) := by
  by_cases c : xs.length = ys.length
  · refine Ev.congr (fun k => ?_) (eqIntS_l0 xs ys hx c xs ys 0 rfl rfl)
    unfold laws_eqIntS.f
    rw [if_pos (by omega)]
    rfl
  · refine Ev.all (fun k => ?_)
    unfold laws_eqIntS.f
    rw [if_neg (by omega)]
    have : xs ≠ ys := fun e => c (by rw [e])
    simp [this]
theorem eqIntS_same (xs : List Int) (hx : xs.length ≤ 1048576) : Ev (fun k => laws_eqIntS.f k xs xs) true := (eqIntS_ev xs xs hx).cast (by simp)
theorem markIntS_l0 : ∀ (t : List Int) (xs : List Int) (i : Nat) (m : Int), xs.length ≤ 1048576 → xs.drop i = t → 0 ≤ m → m + t.length ≤ 9223372036854775807 → Ev (fun k => laws_markIntS.l0 k xs m (i : Int)) (m + t.length, xs.take i ++ upFrom t.length m)
  | [], xs, i, m, hx, h, hm, hb => by
    have h1 := dropNil h
    refine Ev.of1 (fun k => ?_)
    simp (disch := omega) only [if_true, if_false, Bool.false_eq_true, laws_markIntS.l0, if_neg]
    simp [upFrom, List.take_of_length_le h1]
  | x :: t, xs, i, m, hx, h, hm, hb => by
    obtain ⟨h1, h2, h3⟩ := dropCons h
    simp only [List.length_cons] at hb
    have e : (xs.set i m).drop (i + 1) = t := by rw [List.drop_set_of_lt (by omega), h3]
    refine Ev.step (f := fun k => laws_markIntS.l0 k (xs.set i m) (m + 1) ((i + 1 : Nat) : Int)) (fun k => ?_) ((markIntS_l0 t (xs.set i m) (i + 1) (m + 1) (by simpa using hx) e (by omega) (by omega)).cast ?_)
    · have e1 : wrap64 (m + 1) = m + 1 := w64 (by omega) (by omega)
      simp (disch := omega) only [if_true, if_false, Bool.false_eq_true, laws_markIntS.l0, if_pos, w64s, e1, toNat_cast]
    · rw [set_at _ _ _ _ _ h]
      have : (xs.take i ++ m :: t).take (i + 1) = xs.take i ++ [m] := by
        have hl : (xs.take i).length = i := by simp; omega
        rw [List.take_append, List.take_of_length_le (by omega), hl, show i + 1 - i = 1 by omega]
        rfl
      rw [this]
      simp [upFrom]
      omega
theorem markIntS_ev (xs : List Int) (hx : xs.length ≤ 1048576) : Ev (fun k => laws_markIntS.f k xs 1) (1 + xs.length, upFrom xs.length 1) :=
  (Ev.congr (fun k => rfl) (markIntS_l0 xs xs 0 1 hx rfl (by omega) (by omega))).cast (by simp)
theorem heldIntS_l0 (xs : List Int) (hx : xs.length ≤ 1048576) : ∀ (n : Nat) (i : Nat) (m : Int), xs.drop i = upFrom n m → 0 ≤ m → m + n ≤ 9223372036854775807 → Ev (fun k => laws_heldIntS.l0 k xs m (i : Int)) (m + n)
  | 0, i, m, h, hm, hb => by
    have h1 := dropNil h
    refine Ev.of1 (fun k => ?_)
    simp (disch := omega) only [if_true, if_false, Bool.false_eq_true, laws_heldIntS.l0, if_neg]
    simp
  | n + 1, i, m, h, hm, hb => by
    obtain ⟨h1, h2, h3⟩ := dropCons (x := m) (t := upFrom n (m + 1)) h
    refine Ev.step (f := fun k => laws_heldIntS.l0 k xs (m + 1) ((i + 1 : Nat) : Int)) (fun k => ?_) ((heldIntS_l0 xs hx n (i + 1) (m + 1) h3 (by omega) (by omega)).cast (by omega))
    have e1 : wrap64 (m + 1) = m + 1 := w64 (by omega) (by omega)
    simp (disch := omega) only [if_true, if_false, Bool.false_eq_true, laws_heldIntS.l0, if_pos, w64s, e1, h2]
theorem heldIntS_ev (n : Nat) (hx : n ≤ 1048576) : Ev (fun k => laws_heldIntS.f k (upFrom n 1) 1) (1 + n) :=
  Ev.congr (fun k => rfl) (heldIntS_l0 (upFrom n 1) (by rw [upFrom_length]; exact hx) n 0 1 rfl (by omega) (by omega))
theorem l1Own_at (xs : List Int) (hx : xs.length ≤ 1048576) : spec_l1Own.f xs = some xs := by
  simp only [spec_l1Own.f, Option.bind_some, List.length_nil, Nat.zero_add, List.nil_append]
  rw [if_pos (by omega)]
theorem sought_yes {a0 a1 : Int} (h : 1 ≤ a0 ∧ a0 ≤ 9 ∧ 1 ≤ a1 ∧ a1 ≤ 20 ∧ a1 + a0 ≤ 20) : impl_soughtFrom.f a0 a1 = some true := by
  have hw : wrap64 (a1 + a0) = a1 + a0 := by unfold wrap64; omega
  unfold impl_soughtFrom.f impl_sought.f impl_isNumber.f
  simp [h, hw]
theorem sought_no {a0 a1 : Int} (h : ¬ (1 ≤ a0 ∧ a0 ≤ 9 ∧ 1 ≤ a1 ∧ a1 ≤ 20 ∧ a1 + a0 ≤ 20)) : impl_soughtFrom.f a0 a1 = some false := by
  unfold impl_soughtFrom.f impl_sought.f impl_isNumber.f
  by_cases h1 : 1 ≤ a0 <;> by_cases h2 : a0 ≤ 9 <;> by_cases h3 : 1 ≤ a1 <;> by_cases h4 : a1 ≤ 20 <;> simp [h1, h2, h3, h4]
  have hw : wrap64 (a1 + a0) = a1 + a0 := by unfold wrap64; omega
  rw [hw]
  omega
theorem FnExactFirstLangford : laws_FnExactFirstLangford.Pure := by
  intro a0 a1 h0 h1'
  have h : ∃ r b, r.length ≤ 1048576 ∧ spec_FirstLangford.f a0 a1 = some (r, b) ∧ impl_FirstLangford.f a0 a1 = some (r, b) := by
    unfold spec_FirstLangford.f impl_FirstLangford.f
    by_cases hm : 1 ≤ a0 ∧ a0 ≤ 9 ∧ 1 ≤ a1 ∧ a1 ≤ 20 ∧ a1 + a0 ≤ 20
    · have es : impl_soughtFrom.f a0 a1 = some true := sought_yes hm
      have hb := Search.found_len a1.toNat (a1.toNat + a0.toNat - 1) 1 (-1) (by omega) (by omega)
      have hp := Search.found_row a1.toNat (a1.toNat + a0.toNat - 1) 1 (-1)
      have hs := Search.lookAll_found a1.toNat (a1.toNat + a0.toNat - 1) 1 (-1) 1 (by omega) (by omega)
      have hi := Search.fill_found Search.fstep 1 (2 * a0.toNat) a0.toNat a1.toNat (-1) [] (by omega) (by omega) (by omega) (by omega) (by unfold Search.placesOf; split <;> omega)
      
      rw [Search.runS_first] at hi
      rw [Search.cnt_len _ hb] at hs
      have hpp : 0 < Search.placesOf a1.toNat (a1.toNat + a0.toNat - 1) (-1) ∧ Search.placesOf a1.toNat (a1.toNat + a0.toNat - 1) (-1) ≤ 100 := by unfold Search.placesOf; split <;> omega
      generalize Search.found a1.toNat (a1.toNat + a0.toNat - 1) 1 (-1) = l at hb hp hs hi
      rw [if_pos hm, hs, hi]
      cases l with
      | nil => exact ⟨[], false, by simp, rfl, by rw [es, Option.bind_some, if_pos rfl]; rfl⟩
      | cons x t =>
        have hx := hp x List.mem_cons_self
        refine ⟨x, true, by omega, ?_, ?_⟩
        · simp only [Option.bind_some]
          rw [if_neg (by simp only [List.length_cons]; omega)]
          rfl
        · have hd : decide (x.length > 0) = true := decide_eq_true (by omega)
          rw [es, Option.bind_some, if_pos rfl]
          simp only [Option.map_some, hd]
    · refine ⟨[], false, by simp, by rw [if_neg hm], ?_⟩
      have es : impl_soughtFrom.f a0 a1 = some false := sought_no hm
      rw [es, Option.bind_some, if_neg (by decide)]
  obtain ⟨r, b, hR, h1, h2⟩ := h
  obtain ⟨K5, h5⟩ := eqIntS_same r hR
  obtain ⟨K7, h7⟩ := markIntS_ev r hR
  obtain ⟨K8, h8⟩ := heldIntS_ev r.length hR
  obtain ⟨K, hK⟩ : ∃ K, K = K5 + K7 + K8 := ⟨_, rfl⟩
  have n2 : ¬ (1 + (r.length : Int) < 0) := by omega
  have a5_0 := h5 (K) (by omega)
  have a5_1 := h5 (K + 1) (by omega)
  have a5_2 := h5 (K + 1 + 1) (by omega)
  have a5_3 := h5 (K + 1 + 1 + 1) (by omega)
  have a7_0 := h7 (K) (by omega)
  have a7_1 := h7 (K + 1) (by omega)
  have a7_2 := h7 (K + 1 + 1) (by omega)
  have a7_3 := h7 (K + 1 + 1 + 1) (by omega)
  have a8_0 := h8 (K) (by omega)
  have a8_1 := h8 (K + 1) (by omega)
  have a8_2 := h8 (K + 1 + 1) (by omega)
  have a8_3 := h8 (K + 1 + 1 + 1) (by omega)
  clear h5 h7 h8 hK
  refine ⟨K + 1 + 1 + 1, ?_⟩
  simp only [laws_FnExactFirstLangford.f, laws_FnExactFirstLangford.j0, laws_FnExactFirstLangford.j1, n2, h1, h2, a5_0, a5_1, a5_2, a5_3, a7_0, a7_1, a7_2, a7_3, a8_0, a8_1, a8_2, a8_3, Option.bind_some, bne_self_eq_false, Bool.false_eq_true, if_false, if_true]
end Go.Proofs.Ytkffdloophagaaa.Pure
