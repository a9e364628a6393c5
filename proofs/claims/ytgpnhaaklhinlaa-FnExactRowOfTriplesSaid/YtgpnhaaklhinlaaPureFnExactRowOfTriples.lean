/- The law FnExactRowOfTriples holds for every input: what the program's function computes is what the reference's computes. Conditions: none but the statement's own. -/
import Derived.Test.YtgpnhaaklhinlaaPFnExactRowOfTriplesx12
import Derived.Test.YtgpnhaaklhinlaaAid
namespace Go.Proofs.Ytgpnhaaklhinlaa.Pure
open Go.RowKit Go.Proofs.Ytgpnhaaklhinlaa.PFnExactRowOfTriples Go.Proofs.YtgpnhaaklhinlaaW.PrintWords Go.Proofs.YtgpnhaaklhinlaaW.PrintLast Go.Proofs.Ytgpnhaaklhinlaa.Aid
set_option linter.unusedVariables false
set_option linter.unusedSimpArgs false
theorem eqIntS_l0 (xs ys : List Int) (hx : xs.length ≤ 1048576) (hl : xs.length = ys.length) : ∀ (s t : List Int) (i : Nat), xs.drop i = s → ys.drop i = t → Ev (fun k => laws_eqIntS.l0 k xs ys (i : Int)) (decide (s = t))
  | [], t, i, h, h' => by
    have h1 := dropNil h
    have h2 : t = [] := by rw [← h']; simp; omega
    subst h2
    refine Ev.of1 (fun k => ?_)
    simp (disch := omega) only [if_true, if_false, Bool.false_eq_true, laws_eqIntS.l0, if_neg]
    simp
  | x :: s, [], i, h, h' => by
    have h1 := dropLt h
    have h2 := dropNil h'
    omega
  | x :: s, y :: t, i, h, h' => by
    obtain ⟨h1, h2, h3⟩ := dropCons h
    obtain ⟨h1', h2', h3'⟩ := dropCons h'
    by_cases c : x = y
    · refine Ev.step (f := fun k => laws_eqIntS.l0 k xs ys ((i + 1 : Nat) : Int)) (fun k => ?_) ((eqIntS_l0 xs ys hx hl s t (i + 1) h3 h3').cast (by simp [c]))
      simp (disch := omega) only [if_true, if_false, Bool.false_eq_true, laws_eqIntS.l0, if_pos, w64s, h2, h2']
    · refine Ev.of1 (fun k => ?_)
      simp (disch := omega) only [if_true, if_false, Bool.false_eq_true, laws_eqIntS.l0, if_pos, if_neg, h2, h2']
      simp [c]
theorem eqIntS_ev (xs ys : List Int) (hx : xs.length ≤ 1048576) : Ev (fun k => laws_eqIntS.f k xs ys) (decide (xs = ys)) := by
  by_cases c : xs.length = ys.length
  · refine Ev.congr (fun k => ?_) (eqIntS_l0 xs ys hx c xs ys 0 rfl rfl)
    unfold laws_eqIntS.f
    rw [if_pos (by omega)]
    rfl
  · refine Ev.all (fun k => ?_)
    unfold laws_eqIntS.f
    rw [if_neg (by omega)]
    have : xs ≠ ys := fun e => c (by rw [e])
    simp [this]
theorem eqIntS_same (xs : List Int) (hx : xs.length ≤ 1048576) : Ev (fun k => laws_eqIntS.f k xs xs) true := (eqIntS_ev xs xs hx).cast (by simp)
theorem dropConsL {xs : List (List Int)} {i : Nat} {x : List Int} {t : List (List Int)} (h : xs.drop i = x :: t) : i < xs.length ∧ rd_L1 xs (i : Int) = x ∧ xs.drop (i + 1) = t :=
  ⟨dropLt h, by simp [rd_L1, List.getD_eq_getElem?_getD, dropGet h], dropSucc h⟩
theorem memDrop {α : Type} {xs : List α} {i : Nat} {x : α} {t : List α} (h : xs.drop i = x :: t) : x ∈ xs := by
  rw [← List.take_append_drop i xs, h]
  simp
theorem eqIntSS_l0 (xs ys : List (List Int)) (hx : xs.length ≤ 1048576) (hm : ∀ x ∈ xs, x.length ≤ 1048576) (hl : xs.length = ys.length) : ∀ (s t : List (List Int)) (i : Nat), xs.drop i = s → ys.drop i = t → Ev (fun k => laws_eqIntSS.l0 k xs ys (i : Int)) (decide (s = t))
  | [], t, i, h, h' => by
    have h1 := dropNil h
    have h2 : t = [] := by rw [← h']; simp; omega
    subst h2
    refine Ev.of1 (fun k => ?_)
    simp (disch := omega) only [if_true, if_false, Bool.false_eq_true, laws_eqIntSS.l0, if_neg]
    simp
  | x :: s, [], i, h, h' => by
    have h1 := dropLt h
    have h2 := dropNil h'
    omega
  | x :: s, y :: t, i, h, h' => by
    obtain ⟨h1, h2, h3⟩ := dropConsL h
    obtain ⟨h1', h2', h3'⟩ := dropConsL h'
    refine Ev.step (f := fun k => (laws_eqIntS.f k x y).bind fun t120 => (if t120 = true then (laws_eqIntSS.l0 k xs ys ((i + 1 : Nat) : Int)) else (some false))) (fun k => ?_) (Ev.bind (eqIntS_ev x y (hm x (memDrop h))) ?_)
    · simp (disch := omega) only [if_true, if_false, Bool.false_eq_true, laws_eqIntSS.l0, if_pos, w64s, h2, h2']
    · by_cases c : x = y
      · simp only [c, decide_true, if_true]
        exact (eqIntSS_l0 xs ys hx hm hl s t (i + 1) h3 h3').cast (by simp)
      · simp only [c, decide_false, Bool.false_eq_true, if_false]
        exact (Ev.now _).cast (by simp [c])
theorem eqIntSS_ev (xs ys : List (List Int)) (hx : xs.length ≤ 1048576) (hm : ∀ x ∈ xs, x.length ≤ 1048576) : Ev (fun k => laws_eqIntSS.f k xs ys) (decide (xs = ys)) := by
  by_cases c : xs.length = ys.length
  · refine Ev.congr (fun k => ?_) (eqIntSS_l0 xs ys hx hm c xs ys 0 rfl rfl)
    unfold laws_eqIntSS.f
    rw [if_pos (by omega)]
    rfl
  · refine Ev.all (fun k => ?_)
    unfold laws_eqIntSS.f
    rw [if_neg (by omega)]
    have : xs ≠ ys := fun e => c (by rw [e])
    simp [this]
theorem eqIntSS_same (xs : List (List Int)) (hx : xs.length ≤ 1048576) (hm : ∀ x ∈ xs, x.length ≤ 1048576) : Ev (fun k => laws_eqIntSS.f k xs xs) true := (eqIntSS_ev xs xs hx hm).cast (by simp)
theorem markIntS_l0 : ∀ (t : List Int) (xs : List Int) (i : Nat) (m : Int), xs.length ≤ 1048576 → xs.drop i = t → 0 ≤ m → m + t.length ≤ 9223372036854775807 → Ev (fun k => laws_markIntS.l0 k xs m (i : Int)) (m + t.length, xs.take i ++ upFrom t.length m)
  | [], xs, i, m, hx, h, hm, hb => by
    have h1 := dropNil h
    refine Ev.of1 (fun k => ?_)
    simp (disch := omega) only [if_true, if_false, Bool.false_eq_true, laws_markIntS.l0, if_neg]
    simp [upFrom, List.take_of_length_le h1]
  | x :: t, xs, i, m, hx, h, hm, hb => by
    obtain ⟨h1, h2, h3⟩ := dropCons h
    simp only [List.length_cons] at hb
    have e : (xs.set i m).drop (i + 1) = t := by rw [List.drop_set_of_lt (by omega), h3]
    refine Ev.step (f := fun k => laws_markIntS.l0 k (xs.set i m) (m + 1) ((i + 1 : Nat) : Int)) (fun k => ?_) ((markIntS_l0 t (xs.set i m) (i + 1) (m + 1) (by simpa using hx) e (by omega) (by omega)).cast ?_)
    · have e1 : wrap64 (m + 1) = m + 1 := w64 (by omega) (by omega)
      simp (disch := omega) only [if_true, if_false, Bool.false_eq_true, laws_markIntS.l0, if_pos, w64s, e1, toNat_cast]
    · rw [set_at _ _ _ _ _ h]
      have : (xs.take i ++ m :: t).take (i + 1) = xs.take i ++ [m] := by
        have hl : (xs.take i).length = i := by simp; omega
        rw [List.take_append, List.take_of_length_le (by omega), hl, show i + 1 - i = 1 by omega]
        rfl
      rw [this]
      simp [upFrom]
      omega
theorem markIntS_ev (xs : List Int) (hx : xs.length ≤ 1048576) : Ev (fun k => laws_markIntS.f k xs 1) (1 + xs.length, upFrom xs.length 1) :=
  (Ev.congr (fun k => rfl) (markIntS_l0 xs xs 0 1 hx rfl (by omega) (by omega))).cast (by simp)
def szL (m : Int) : List (List Int) → Int
  | [] => m
  | x :: t => if m - (x.length : Int) < 0 then -1 else szL (m - (x.length : Int)) t
def totL : List (List Int) → Nat
  | [] => 0
  | x :: t => x.length + totL t
theorem szL_tot : ∀ (t : List (List Int)) (m : Int), 0 ≤ szL m t → (totL t : Int) ≤ m
  | [], m, h => by simpa [szL, totL] using h
  | x :: t, m, h => by
    unfold szL at h
    by_cases c : m - (x.length : Int) < 0
    · rw [if_pos c] at h
      omega
    · rw [if_neg c] at h
      have := szL_tot t _ h
      unfold totL
      omega
theorem totL_mem : ∀ (t : List (List Int)) (x : List Int), x ∈ t → x.length ≤ totL t
  | [], x, h => by simp at h
  | y :: t, x, h => by
    unfold totL
    rcases List.mem_cons.1 h with rfl | h
    · omega
    · have := totL_mem t x h
      omega
theorem szIntSS_l0 (xs : List (List Int)) (hx : xs.length ≤ 1048576) (hm : ∀ x ∈ xs, x.length ≤ maxLen) : ∀ (t : List (List Int)) (i : Nat) (m : Int), xs.drop i = t → 0 ≤ m → m ≤ 1048576 → Ev (fun k => laws_szIntSS.l0 k xs m (i : Int)) (szL m t)
  | [], i, m, h, h0, hb => by
    have h1 := dropNil h
    refine Ev.of1 (fun k => ?_)
    simp (disch := omega) only [if_true, if_false, Bool.false_eq_true, laws_szIntSS.l0, if_neg, szL]
  | x :: t, i, m, h, h0, hb => by
    obtain ⟨h1, h2, h3⟩ := dropConsL h
    have hl := hm x (memDrop h)
    unfold maxLen at hl
    have e1 : wrap64 (m - (x.length : Int)) = m - (x.length : Int) := w64 (by omega) (by omega)
    by_cases c : m - (x.length : Int) < 0
    · refine Ev.of1 (fun k => ?_)
      simp (disch := omega) only [if_true, if_false, Bool.false_eq_true, laws_szIntSS.l0, laws_szIntS.f, if_pos, h2, e1, Option.bind_some, szL]
    · refine Ev.step (f := fun k => laws_szIntSS.l0 k xs (m - (x.length : Int)) ((i + 1 : Nat) : Int)) (fun k => ?_) ((szIntSS_l0 xs hx hm t (i + 1) _ h3 (by omega) (by omega)).cast (by simp only [szL, c, if_false]))
      simp (disch := omega) only [if_true, if_false, Bool.false_eq_true, laws_szIntSS.l0, laws_szIntS.f, if_pos, if_neg, h2, e1, Option.bind_some, w64s]
theorem szIntSS_ev (xs : List (List Int)) (hb : xs.length * 24 ≤ 140737488351232) (hm : ∀ x ∈ xs, x.length ≤ maxLen) : ∃ r : Int, Ev (fun k => laws_szIntSS.f k xs 1048576) r ∧ (¬ r < 0 → xs.length ≤ 1048576 ∧ (totL xs : Int) + xs.length ≤ 1048576) := by
  have e1 : wrap64 (1048576 - (xs.length : Int)) = 1048576 - (xs.length : Int) := w64 (by omega) (by omega)
  by_cases c : 1048576 - (xs.length : Int) < 0
  · refine ⟨-1, Ev.all (fun k => ?_), fun h => by omega⟩
    simp (disch := omega) only [if_true, if_false, Bool.false_eq_true, laws_szIntSS.f, e1, if_pos]
  · refine ⟨szL (1048576 - (xs.length : Int)) xs, Ev.congr (fun k => ?_) (szIntSS_l0 xs (by omega) hm xs 0 _ rfl (by omega) (by omega)), fun h => ⟨by omega, ?_⟩⟩
    · simp (disch := omega) only [if_true, if_false, Bool.false_eq_true, laws_szIntSS.f, e1, if_neg]
      rfl
    · have := szL_tot xs (1048576 - (xs.length : Int)) (by omega)
      omega
def marksL (n : Nat) : List Bool := false :: (List.replicate (3 * n) true ++ [false])
theorem trMarks_ev (n : Nat) (h1 : 1 ≤ n) (h2 : n ≤ 10) : Ev (fun k => spec_trMarks.f k (n : Int) false) (marksL n) := by
  have h : n = 1 ∨ n = 2 ∨ n = 3 ∨ n = 4 ∨ n = 5 ∨ n = 6 ∨ n = 7 ∨ n = 8 ∨ n = 9 ∨ n = 10 := by omega
  rcases h with rfl | rfl | rfl | rfl | rfl | rfl | rfl | rfl | rfl | rfl <;> exact Ev.of (fun k => spec_trMarks.mono _ _ k) (k := 40) (by kernel_rfl)
theorem l1All_l0 (lo hi : Int) (xs : List Int) (hx : xs.length ≤ 1048576) : ∀ (t : List Int) (i : Nat), xs.drop i = t → Ev (fun k => spec_l1All.l0 k lo hi xs xs.length (i : Int)) (t.all fun n => decide (lo ≤ n ∧ n ≤ hi))
  | [], i, h => by
    have h1 := dropNil h
    refine Ev.of1 (fun k => ?_)
    simp (disch := omega) only [if_true, if_false, Bool.false_eq_true, spec_l1All.l0, if_neg]
    rfl
  | x :: t, i, h => by
    obtain ⟨h1, h2, h3⟩ := dropCons h
    by_cases c : lo ≤ x ∧ x ≤ hi
    · refine Ev.step (f := fun k => spec_l1All.l0 k lo hi xs xs.length ((i + 1 : Nat) : Int)) (fun k => ?_) ((l1All_l0 lo hi xs hx t (i + 1) h3).cast (by simp [c]))
      simp (disch := omega) only [if_true, if_false, Bool.false_eq_true, spec_l1All.l0, spec_l1In.f, if_pos, w64s, h2, Option.bind_some, decide_eq_true_eq]
    · refine Ev.of1 (fun k => ?_)
      simp (disch := omega) only [if_true, if_false, Bool.false_eq_true, spec_l1All.l0, spec_l1In.f, if_pos, h2]
      by_cases c1 : lo ≤ x
      · have c2 : ¬ x ≤ hi := fun h' => c ⟨c1, h'⟩
        simp [c1, c2]
      · simp [c1]
theorem l1All_ev (xs : List Int) (lo hi : Int) (hx : xs.length ≤ 1048576) : Ev (fun k => spec_l1All.f k xs lo hi) (xs.all fun n => decide (lo ≤ n ∧ n ≤ hi)) :=
  Ev.congr (fun k => rfl) (l1All_l0 lo hi xs hx xs 0 rfl)
def triB : List Int → Bool
  | [a, b, c] => decide (((1 ≤ a ∧ a ≤ 1000) ∧ (1 ≤ b ∧ b ≤ 1000) ∧ (1 ≤ c ∧ c ≤ 1000)) ∧ a < b ∧ a + b = c)
  | _ => false
theorem l1All3' (lo hi a b c : Int) : ([a, b, c].all fun n => decide (lo ≤ n ∧ n ≤ hi)) = decide ((lo ≤ a ∧ a ≤ hi) ∧ (lo ≤ b ∧ b ≤ hi) ∧ (lo ≤ c ∧ c ≤ hi)) := by
  simp [Bool.and_assoc, and_assoc]
theorem triB_form {t : List Int} (h : triB t = true) : ∃ a b c, t = [a, b, c] ∧ 1 ≤ a ∧ a < b ∧ a + b = c ∧ c ≤ 1000 := by
  unfold triB at h
  split at h
  · rename_i a b c
    have h' := of_decide_eq_true h
    exact ⟨a, b, c, rfl, by omega⟩
  · cases h
theorem trTriple_ev (t : List Int) (hm : t.length ≤ 1048576) : Ev (fun k => spec_trTriple.f k t) (triB t) := by
  by_cases c3 : t.length = 3
  · obtain ⟨a, b, c, rfl⟩ : ∃ a b c, t = [a, b, c] := by
      match t, c3 with
      | [a, b, c], _ => exact ⟨a, b, c, rfl⟩
    have f0 : rd [a, b, c] 0 = a := rfl
    have f1 : rd [a, b, c] 1 = b := rfl
    have f2 : rd [a, b, c] 2 = c := rfl
    have f3 : (([a, b, c] : List Int).length : Int) = 3 := rfl
    obtain ⟨K, hA⟩ := l1All_ev [a, b, c] 1 1000 hm
    rw [l1All3'] at hA
    refine ⟨K, fun k hk => ?_⟩
    have a1 := hA k hk
    by_cases cA : (1 ≤ a ∧ a ≤ 1000) ∧ (1 ≤ b ∧ b ≤ 1000) ∧ (1 ≤ c ∧ c ≤ 1000)
    · have e1 : wrap64 (a + b) = a + b := w64 (by omega) (by omega)
      simp only [cA, and_self, decide_true] at a1
      by_cases c1 : a < b
      · have c2 : (a + b == c) = decide (a + b = c) := rfl
        simp (disch := omega) only [if_true, if_false, Bool.false_eq_true, spec_trTriple.f, f0, f1, f2, f3, a1, Option.bind_some, if_pos, e1, c1, triB, cA, c2, and_self, true_and]
      · simp (disch := omega) only [if_true, if_false, Bool.false_eq_true, spec_trTriple.f, f0, f1, f3, a1, Option.bind_some, if_pos, c1, triB, false_and, and_false, decide_false]
    · simp only [cA, decide_false] at a1
      simp (disch := omega) only [if_true, if_false, Bool.false_eq_true, spec_trTriple.f, f3, a1, Option.bind_some, if_pos, triB, cA, Bool.false_eq_true, false_and, decide_false]
  · have cok : triB t = false := by
      cases h : triB t with
      | false => rfl
      | true => obtain ⟨a, b, c, rfl, _⟩ := triB_form h; exact absurd rfl c3
    refine Ev.all (fun k => ?_)
    simp (disch := omega) only [if_true, if_false, Bool.false_eq_true, spec_trTriple.f, if_neg, cok]
def lexB : List Int → List Int → Bool
  | x :: a, y :: b => if x = y then lexB a b else decide (x < y)
  | _, _ => false
theorem trLess_l0 (xs ys : List Int) (hx : xs.length ≤ 1048576) (hl : xs.length = ys.length) : ∀ (s t : List Int) (i : Nat), xs.drop i = s → ys.drop i = t → Ev (fun k => spec_trLess.l0 k xs ys xs.length (i : Int)) (lexB s t)
  | [], t, i, h, h' => by
    have h1 := dropNil h
    refine Ev.of1 (fun k => ?_)
    simp (disch := omega) only [if_true, if_false, Bool.false_eq_true, spec_trLess.l0, if_neg, lexB]
  | x :: s, [], i, h, h' => by
    have h1 := dropLt h
    have h2 := dropNil h'
    omega
  | x :: s, y :: t, i, h, h' => by
    obtain ⟨h1, h2, h3⟩ := dropCons h
    obtain ⟨h1', h2', h3'⟩ := dropCons h'
    by_cases c : x = y
    · refine Ev.step (f := fun k => spec_trLess.l0 k xs ys xs.length ((i + 1 : Nat) : Int)) (fun k => ?_) ((trLess_l0 xs ys hx hl s t (i + 1) h3 h3').cast (by simp [lexB, c]))
      simp (disch := omega) only [if_true, if_false, Bool.false_eq_true, spec_trLess.l0, if_pos, w64s, h2, h2']
    · refine Ev.of1 (fun k => ?_)
      simp (disch := omega) only [if_true, if_false, Bool.false_eq_true, spec_trLess.l0, if_pos, if_neg, h2, h2']
      simp [lexB, c]
theorem trLess_ev (xs ys : List Int) (hx : xs.length ≤ 1048576) (hl : xs.length = ys.length) : Ev (fun k => spec_trLess.f k xs ys) (lexB xs ys) :=
  Ev.congr (fun k => rfl) (trLess_l0 xs ys hx hl xs ys 0 rfl rfl)
def contB (r : Bool) (g : List Bool → Nat → Option Bool) : Option (List Bool) → Prop
  | none => r = false
  | some S => Ev (g S) r
def onceL : List Int → List Bool → Option (List Bool)
  | [], M => some M
  | x :: t, M => if (0 ≤ x ∧ x ≤ (M.length : Int) - 1) ∧ rdOf false M x = true then onceL t (M.set x.toNat false) else none
def onceFin : Option (List Bool) → Bool
  | none => false
  | some M => M.all fun b => !b
theorem onceL_length : ∀ (t : List Int) (M M' : List Bool), onceL t M = some M' → M'.length = M.length
  | [], M, M', h => by simp [onceL] at h; rw [h]
  | x :: t, M, M', h => by
    unfold onceL at h
    split at h
    · simpa using onceL_length t _ _ h
    · cases h
theorem onceL_append : ∀ (a b : List Int) (M : List Bool), onceL (a ++ b) M = (onceL a M).bind (onceL b)
  | [], b, M => rfl
  | x :: a, b, M => by
    simp only [List.cons_append, onceL]
    split
    · exact onceL_append a b _
    · rfl
theorem trOnce_l2 (M : List Bool) (hM : M.length ≤ 1048576) : ∀ (s : List Bool) (j : Nat), M.drop j = s → Ev (fun k => spec_trOnce.l2 k M M.length (j : Int)) (s.all fun b => !b)
  | [], j, h => by
    have h1 := dropNil h
    refine Ev.of1 (fun k => ?_)
    simp (disch := omega) only [if_true, if_false, Bool.false_eq_true, spec_trOnce.l2, if_neg, List.all_nil]
  | b :: s, j, h => by
    obtain ⟨h1, h2, h3⟩ := dropConsOf (d := false) h
    cases b with
    | true =>
      refine Ev.of1 (fun k => ?_)
      simp (disch := omega) only [if_true, if_false, Bool.false_eq_true, spec_trOnce.l2, if_pos, h2]
      simp
    | false =>
      refine Ev.step (f := fun k => spec_trOnce.l2 k M M.length ((j + 1 : Nat) : Int)) (fun k => ?_) ((trOnce_l2 M hM s (j + 1) h3).cast (by simp))
      simp (disch := omega) only [if_true, if_false, Bool.false_eq_true, spec_trOnce.l2, if_pos, h2, w64s, Bool.false_eq_true]
theorem trOnce_l1 (L : List (List Int)) (hL : L.length ≤ 1048576) (i : Nat) (hi : i < L.length) (r : Bool) (u : List Int) (hu : u.length ≤ 1048576) : ∀ (s : List Int) (j : Nat) (M : List Bool), u.drop j = s → 1 ≤ M.length → M.length ≤ 1048576 →
    contB r (fun M' k => spec_trOnce.l0 k M' L L.length ((i + 1 : Nat) : Int)) (onceL s M) → Ev (fun k => spec_trOnce.l1 k M L L.length (i : Int) u u.length (j : Int)) r
  | [], j, M, h, hM0, hM, hc => by
    have h1 := dropNil h
    refine Ev.step (fun k => ?_) hc
    simp (disch := omega) only [if_true, if_false, Bool.false_eq_true, spec_trOnce.l1, if_neg, w64s]
  | x :: s, j, M, h, hM0, hM, hc => by
    obtain ⟨h1, h2, h3⟩ := dropCons h
    have e1 : wrap64 ((M.length : Int) - 1) = (M.length : Int) - 1 := w64 (by omega) (by omega)
    unfold onceL at hc
    by_cases c0 : 0 ≤ x
    · by_cases c1 : x ≤ (M.length : Int) - 1
      · by_cases c2 : rdOf false M x = true
        · rw [if_pos ⟨⟨c0, c1⟩, c2⟩] at hc
          refine Ev.step (f := fun k => spec_trOnce.l1 k (M.set x.toNat false) L L.length (i : Int) u u.length ((j + 1 : Nat) : Int)) (fun k => ?_) (trOnce_l1 L hL i hi r u hu s (j + 1) _ h3 (by simpa using hM0) (by simpa using hM) hc)
          simp (disch := omega) only [if_true, if_false, Bool.false_eq_true, spec_trOnce.l1, spec_l1In.f, if_pos, h2, e1, Option.bind_some, decide_eq_true_eq, c2, w64s]
        · rw [if_neg (fun h => c2 h.2)] at hc
          have hc' : r = false := hc
          subst hc'
          refine Ev.of1 (fun k => ?_)
          simp (disch := omega) only [if_true, if_false, Bool.false_eq_true, spec_trOnce.l1, spec_l1In.f, if_pos, h2, e1, Option.bind_some, decide_eq_true_eq, c2]
      · rw [if_neg (fun h => c1 h.1.2)] at hc
        have hc' : r = false := hc
        subst hc'
        refine Ev.of1 (fun k => ?_)
        simp (disch := omega) only [if_true, if_false, Bool.false_eq_true, spec_trOnce.l1, spec_l1In.f, if_pos, if_neg, h2, e1, Option.bind_some, decide_eq_true_eq]
    · rw [if_neg (fun h => c0 h.1.1)] at hc
      have hc' : r = false := hc
      subst hc'
      refine Ev.of1 (fun k => ?_)
      simp (disch := omega) only [if_true, if_false, Bool.false_eq_true, spec_trOnce.l1, spec_l1In.f, if_pos, if_neg, h2, e1, Option.bind_some, Bool.false_eq_true]
theorem trOnce_l0 (L : List (List Int)) (hL : L.length ≤ 1048576) (hm : ∀ x ∈ L, x.length ≤ 1048576) : ∀ (T : List (List Int)) (i : Nat) (M : List Bool), L.drop i = T → 1 ≤ M.length → M.length ≤ 1048576 → Ev (fun k => spec_trOnce.l0 k M L L.length (i : Int)) (onceFin (onceL T.flatten M))
  | [], i, M, h, hM0, hM => by
    have h1 := dropNil h
    refine Ev.step (f := fun k => spec_trOnce.l2 k M M.length ((0 : Nat) : Int)) (fun k => ?_) (trOnce_l2 M hM M 0 rfl)
    simp (disch := omega) only [if_true, if_false, Bool.false_eq_true, spec_trOnce.l0, if_neg]
    rfl
  | t :: T, i, M, h, hM0, hM => by
    obtain ⟨h1, h2, h3⟩ := dropConsL h
    refine Ev.step (f := fun k => spec_trOnce.l1 k M L L.length (i : Int) t t.length ((0 : Nat) : Int)) (fun k => ?_) (trOnce_l1 L hL i h1 _ t (hm t (memDrop h)) t 0 M rfl hM0 hM ?_)
    · simp (disch := omega) only [if_true, if_false, Bool.false_eq_true, spec_trOnce.l0, if_pos, h2]
      rfl
    · rw [List.flatten_cons, onceL_append]
      cases e : onceL t M with
      | none => rfl
      | some M' =>
        have el := onceL_length _ _ _ e
        exact trOnce_l0 L hL hm T (i + 1) M' h3 (by omega) (by omega)
theorem trOnce_ev (L : List (List Int)) (M : List Bool) (hL : L.length ≤ 1048576) (hm : ∀ x ∈ L, x.length ≤ 1048576) (hM0 : 1 ≤ M.length) (hM : M.length ≤ 1048576) : Ev (fun k => spec_trOnce.f k L M) (onceFin (onceL L.flatten M)) := by
  refine Ev.congr (fun k => ?_) (trOnce_l0 L hL hm L 0 M rfl hM0 hM)
  simp (disch := omega) only [if_true, if_false, Bool.false_eq_true, spec_trOnce.f, Option.bind_some, List.length_nil, Nat.zero_add, List.nil_append, if_pos]
  rfl
def splitP : Option (List Int) → List (List Int) → Bool
  | _, [] => true
  | p, t :: T => triB t && ((match p with | none => true | some q => lexB q t) && splitP (some t) T)
theorem trSplit_l0 (n : Nat) (hn1 : 1 ≤ n) (hn2 : n ≤ 10) (L : List (List Int)) (hL : L.length ≤ 1048576) (hm : ∀ x ∈ L, x.length ≤ 1048576) : ∀ (T : List (List Int)) (i : Nat) (p : Option (List Int)), L.drop i = T →
    (match p with | none => i = 0 | some q => q.length = 3 ∧ ∃ j, i = j + 1 ∧ L[j]? = some q) →
    Ev (fun k => spec_trSplit.l0 k (n : Int) L false L L.length (i : Int)) (splitP p T && onceFin (onceL L.flatten (marksL n)))
  | [], i, p, h, hp => by
    have h1 := dropNil h
    obtain ⟨K1, k1⟩ := trMarks_ev n hn1 hn2
    obtain ⟨K2, k2⟩ := trOnce_ev L (marksL n) hL hm (by simp [marksL]) (by simp [marksL]; omega)
    refine ⟨K1 + K2 + 1, fun k hk => ?_⟩
    obtain ⟨k, rfl⟩ : ∃ m, k = m + 1 := ⟨k - 1, by omega⟩
    have a1 := k1 k (by omega)
    have a2 := k2 k (by omega)
    simp only [] at a1 a2
    simp (disch := omega) only [if_true, if_false, Bool.false_eq_true, spec_trSplit.l0, if_neg, a1, a2, Option.bind_some, splitP, Bool.true_and]
  | t :: T, i, p, h, hp => by
    obtain ⟨h1, h2, h3⟩ := dropConsL h
    have ht := hm t (memDrop h)
    obtain ⟨K1, k1⟩ := trTriple_ev t ht
    cases ct : triB t with
    | false =>
      rw [ct] at k1
      refine ⟨K1 + 1, fun k hk => ?_⟩
      obtain ⟨k, rfl⟩ : ∃ m, k = m + 1 := ⟨k - 1, by omega⟩
      have a1 := k1 k (by omega)
      simp only [] at a1
      simp (disch := omega) only [if_true, if_false, Bool.false_eq_true, spec_trSplit.l0, if_pos, h2, a1, Option.bind_some, Bool.false_eq_true]
      simp [splitP, ct]
    | true =>
      rw [ct] at k1
      obtain ⟨a, b, d, rfl, _⟩ := triB_form ct
      obtain ⟨K2, k2⟩ := trSplit_l0 n hn1 hn2 L hL hm T (i + 1) (some [a, b, d]) h3 ⟨rfl, i, rfl, dropGet h⟩
      match p, hp with
      | none, hp =>
        have hp' : i = 0 := hp
        subst hp'
        refine ⟨K1 + K2 + 1, fun k hk => ?_⟩
        obtain ⟨k, rfl⟩ : ∃ m, k = m + 1 := ⟨k - 1, by omega⟩
        have a1 := k1 k (by omega)
        have a2 := k2 k (by omega)
        simp only [] at a1 a2
        simp (disch := omega) only [if_true, if_false, Bool.false_eq_true, spec_trSplit.l0, if_pos, if_neg, h2, a1, Option.bind_some, w64s]
        rw [a2]
        simp [splitP, ct]
      | some q, hp =>
        obtain ⟨hq3, j, rfl, hj⟩ := hp
        have hq : rd_L1 L (j : Int) = q := by simp [rd_L1, List.getD_eq_getElem?_getD, hj]
        obtain ⟨K3, k3⟩ := trLess_ev q [a, b, d] (by omega) (by simpa using hq3)
        refine ⟨K1 + K2 + K3 + 1, fun k hk => ?_⟩
        obtain ⟨k, rfl⟩ : ∃ m, k = m + 1 := ⟨k - 1, by omega⟩
        have a1 := k1 k (by omega)
        have a2 := k2 k (by omega)
        have a3 := k3 k (by omega)
        simp only [] at a1 a2 a3
        simp (disch := omega) only [if_true, if_false, Bool.false_eq_true, spec_trSplit.l0, if_pos, h2, a1, a3, hq, w64q, Option.bind_some, w64s]
        rw [a2]
        cases cl : lexB q [a, b, d] <;> simp [splitP, ct, cl]
theorem trSplit_ev (n : Nat) (hn1 : 1 ≤ n) (hn2 : n ≤ 10) (L : List (List Int)) (hL : L.length ≤ 1048576) (hm : ∀ x ∈ L, x.length ≤ 1048576) : Ev (fun k => spec_trSplit.f k (n : Int) L false) (decide (L.length = n) && (splitP none L && onceFin (onceL L.flatten (marksL n)))) := by
  by_cases c : L.length = n
  · refine Ev.congr (fun k => ?_) ((trSplit_l0 n hn1 hn2 L hL hm L 0 none rfl rfl).cast (by simp [c]))
    unfold spec_trSplit.f
    rw [if_pos (by omega)]
    rfl
  · refine Ev.all (fun k => ?_)
    unfold spec_trSplit.f
    rw [if_neg (by omega)]
    simp [c]
theorem toIntS_l0 (xs : List Int) (hx : xs.length ≤ 1048576) : ∀ (t : List Int) (i : Nat) (ys : List Int), xs.drop i = t → i ≤ xs.length → ys.length = xs.length → ys.take i = xs.take i → Ev (fun k => laws_toIntS.l0 k xs ys (i : Int)) xs
  | [], i, ys, h, hi, hl, he => by
    have h1 := dropNil h
    obtain rfl : ys = xs := by
      have : i = xs.length := by omega
      subst this
      rw [List.take_of_length_le (by omega), List.take_of_length_le (by omega)] at he
      exact he
    refine Ev.of1 (fun k => ?_)
    simp (disch := omega) only [if_true, if_false, Bool.false_eq_true, laws_toIntS.l0, if_neg]
  | x :: t, i, ys, h, hi, hl, he => by
    obtain ⟨h1, h2, h3⟩ := dropCons h
    refine Ev.step (f := fun k => laws_toIntS.l0 k xs (ys.set i x) ((i + 1 : Nat) : Int)) (fun k => ?_) (toIntS_l0 xs hx t (i + 1) _ h3 (by omega) (by simpa using hl) ?_)
    · simp (disch := omega) only [if_true, if_false, Bool.false_eq_true, laws_toIntS.l0, if_pos, w64s, h2, toNat_cast]
    · rw [take_succ_at h, List.take_add_one, List.take_set_of_le (by omega), he]
      simp [hl, h1]
theorem toIntS_ev (xs : List Int) (hx : xs.length ≤ 1048576) : Ev (fun k => laws_toIntS.f k xs) xs := by
  refine Ev.congr (fun k => ?_) (toIntS_l0 xs hx xs 0 (List.replicate xs.length 0) rfl (by omega) (by simp) rfl)
  unfold laws_toIntS.f
  rw [if_pos (by omega), if_pos (by omega)]
  rfl
theorem toIntSS_l0 (xs : List (List Int)) (hx : xs.length ≤ 1048576) (hm : ∀ x ∈ xs, x.length ≤ 1048576) : ∀ (t : List (List Int)) (i : Nat) (ys : List (List Int)), xs.drop i = t → i ≤ xs.length → ys.length = xs.length → ys.take i = xs.take i → Ev (fun k => laws_toIntSS.l0 k xs ys (i : Int)) xs
  | [], i, ys, h, hi, hl, he => by
    have h1 := dropNil h
    obtain rfl : ys = xs := by
      have : i = xs.length := by omega
      subst this
      rw [List.take_of_length_le (by omega), List.take_of_length_le (by omega)] at he
      exact he
    refine Ev.of1 (fun k => ?_)
    simp (disch := omega) only [if_true, if_false, Bool.false_eq_true, laws_toIntSS.l0, if_neg]
  | x :: t, i, ys, h, hi, hl, he => by
    obtain ⟨h1, h2, h3⟩ := dropConsL h
    refine Ev.step (f := fun k => (laws_toIntS.f k x).bind fun t112 => laws_toIntSS.l0 k xs (ys.set i t112) ((i + 1 : Nat) : Int)) (fun k => ?_) (Ev.bind (toIntS_ev x (hm x (memDrop h))) (toIntSS_l0 xs hx hm t (i + 1) _ h3 (by omega) (by simpa using hl) ?_))
    · simp (disch := omega) only [if_true, if_false, Bool.false_eq_true, laws_toIntSS.l0, if_pos, w64s, h2, toNat_cast]
    · rw [take_succ_at h, List.take_add_one, List.take_set_of_le (by omega), he]
      simp [hl, h1]
theorem toIntSS_ev (xs : List (List Int)) (hx : xs.length ≤ 1048576) (hm : ∀ x ∈ xs, x.length ≤ 1048576) : Ev (fun k => laws_toIntSS.f k xs) xs := by
  refine Ev.congr (fun k => ?_) (toIntSS_l0 xs hx hm xs 0 (List.replicate xs.length []) rfl (by omega) (by simp) rfl)
  unfold laws_toIntSS.f
  rw [if_pos (by omega), if_pos (by omega)]
  rfl
def rowB (l : List Int) : Bool := decide ((l.length : Int) ≤ 40) && l.all fun n => decide (0 ≤ n ∧ n ≤ 20)
theorem IsRow_l0 (xs : List Int) (hx : xs.length ≤ 1048576) : ∀ (t : List Int) (i : Nat), xs.drop i = t → Ev (fun k => impl_IsRow.l0 k xs xs xs.length (i : Int)) (decide ((xs.length : Int) ≤ 40) && t.all fun n => decide (0 ≤ n ∧ n ≤ 20))
  | [], i, h => by
    have h1 := dropNil h
    refine Ev.of1 (fun k => ?_)
    simp (disch := omega) only [if_true, if_false, Bool.false_eq_true, impl_IsRow.l0, if_neg]
    simp
  | x :: t, i, h => by
    obtain ⟨h1, h2, h3⟩ := dropCons h
    by_cases c : 0 ≤ x ∧ x ≤ 20
    · refine Ev.step (f := fun k => impl_IsRow.l0 k xs xs xs.length ((i + 1 : Nat) : Int)) (fun k => ?_) ((IsRow_l0 xs hx t (i + 1) h3).cast (by simp [c]))
      simp (disch := omega) only [if_true, if_false, Bool.false_eq_true, impl_IsRow.l0, if_pos, if_neg, w64s, h2]
    · refine Ev.of1 (fun k => ?_)
      simp (disch := omega) only [if_true, if_false, Bool.false_eq_true, impl_IsRow.l0, if_pos, h2]
      by_cases c1 : x < 0
      · have : ¬ 0 ≤ x := by omega
        simp [c1, this]
      · have c2 : 20 < x := by omega
        have : ¬ x ≤ 20 := by omega
        simp [c1, c2, this]
theorem IsRow_ev (xs : List Int) (hx : xs.length ≤ 1048576) : Ev (fun k => impl_IsRow.f k xs) (rowB xs) :=
  Ev.congr (fun k => rfl) (IsRow_l0 xs hx xs 0 rfl)
/-- The places, counted from i on, of a number. -/
def placesFrom (n : Int) : List Int → Nat → List Int
  | [], _ => []
  | x :: t, i => if x = n then (i : Int) :: placesFrom n t (i + 1) else placesFrom n t (i + 1)
theorem placesFrom_length (n : Int) : ∀ (t : List Int) (i : Nat), (placesFrom n t i).length ≤ t.length
  | [], _ => Nat.le_refl _
  | x :: t, i => by
    have := placesFrom_length n t (i + 1)
    unfold placesFrom
    split <;> simp <;> omega
def hasB (n : Int) (l : List Int) : Bool := l.any fun x => decide (x = n)
theorem hasB_places (n : Int) : ∀ (t : List Int) (i : Nat), hasB n t = decide ((placesFrom n t i).length ≠ 0)
  | [], i => by simp [hasB, placesFrom]
  | x :: t, i => by
    have h := hasB_places n t (i + 1)
    by_cases c : x = n
    · simp [hasB, placesFrom, c]
    · simp only [placesFrom, if_neg c, ← h]
      simp [hasB, c]
theorem placesFrom_snoc (n x : Int) : ∀ (t : List Int) (i : Nat), placesFrom n (t ++ [x]) i = placesFrom n t i ++ (if x = n then [((i + t.length : Nat) : Int)] else [])
  | [], i => by
    simp only [List.nil_append, placesFrom, List.length_nil, Nat.add_zero]
  | y :: t, i => by
    have h := placesFrom_snoc n x t (i + 1)
    simp only [List.cons_append, placesFrom, h, List.length_cons]
    rw [show i + (t.length + 1) = i + 1 + t.length by omega]
    split <;> simp
theorem rowB_iff (xs : List Int) : rowB xs = true ↔ xs.length ≤ 40 ∧ ∀ x ∈ xs, 0 ≤ x ∧ x ≤ 20 := by
  simp only [rowB, Bool.and_eq_true, decide_eq_true_eq, List.all_eq_true]
  constructor
  · intro h
    exact ⟨by omega, h.2⟩
  · intro h
    exact ⟨by omega, h.2⟩
theorem st_get (xs : List Int) (hx : ∀ x ∈ xs, 0 ≤ x ∧ x ≤ 20) : ∀ k, k ≤ xs.length → ∀ n, n < 21 → (impl_pairs.st xs k).getD n [] = if n = 0 then [] else placesFrom (n : Int) (xs.take k) 0
  | 0, _, n, hn => by
    rw [impl_pairs.st, List.getD_eq_getElem?_getD, List.getElem?_replicate, if_pos hn, List.take_zero]
    split <;> rfl
  | k + 1, hk, n, hn => by
    have ih := st_get xs hx k (by omega)
    have hlt : k < xs.length := by omega
    have e : rd xs (k : Int) = xs[k] := rd_lt hlt
    have hb := hx xs[k] (List.getElem_mem hlt)
    have et : xs.take (k + 1) = xs.take k ++ [xs[k]] := List.take_succ_eq_append_getElem hlt
    have el : (xs.take k).length = k := by simp; omega
    rw [et, placesFrom_snoc, el, impl_pairs.st, e]
    generalize xs[k] = x at hb
    by_cases c : 0 < x
    · rw [if_pos c, List.getD_eq_getElem?_getD, List.getElem?_set]
      by_cases d : x.toNat = n
      · rw [if_pos d, if_pos (by rw [impl_pairs.st_len]; omega), Option.getD_some, d, ih n hn]
        have h0 : n ≠ 0 := by omega
        have h1 : x = (n : Int) := by omega
        simp [h0, h1]
      · rw [if_neg d, ← List.getD_eq_getElem?_getD, ih n hn]
        have h1 : ¬ x = (n : Int) := by omega
        simp [h1]
    · rw [if_neg c, ih n hn]
      by_cases z : n = 0
      · simp [z]
      · have h1 : ¬ x = (n : Int) := by omega
        simp [z, h1]
theorem st_all (xs : List Int) (hx : ∀ x ∈ xs, 0 ≤ x ∧ x ≤ 20) (n : Nat) (hn : n < 21) (h0 : n ≠ 0) : (impl_pairs.st xs xs.length).getD n [] = placesFrom (n : Int) xs 0 := by
  rw [st_get xs hx _ (Nat.le_refl _) n hn, if_neg h0, List.take_length]
theorem st_zero (xs : List Int) (hx : ∀ x ∈ xs, 0 ≤ x ∧ x ≤ 20) : (impl_pairs.st xs xs.length).getD 0 [] = [] := by
  rw [st_get xs hx _ (Nat.le_refl _) 0 (by omega), if_pos rfl]
theorem okl_iff (L : List (List Int)) : ∀ k, impl_pairs.okl L k = true ↔ ∀ n, n < k → (L.getD n []).length = 0 ∨ (L.getD n []).length = 2
  | 0 => by simp [impl_pairs.okl]
  | k + 1 => by
    simp only [impl_pairs.okl, Bool.and_eq_true, Bool.or_eq_true, beq_iff_eq, okl_iff L k]
    constructor
    · intro h n hn
      by_cases e : n = k
      · subst e; exact h.2
      · exact h.1 n (by omega)
    · intro h
      exact ⟨fun n hn => h n (by omega), h k (by omega)⟩
def pBf (xs : List Int) : Nat → Nat → Bool
  | 0, _ => true
  | r + 1, n => ((placesFrom (n : Int) xs 0).length == 0 || (placesFrom (n : Int) xs 0).length == 2) && pBf xs r (n + 1)
theorem pBf_iff (xs : List Int) : ∀ r n, pBf xs r n = true ↔ ∀ m, n ≤ m → m < n + r → (placesFrom (m : Int) xs 0).length = 0 ∨ (placesFrom (m : Int) xs 0).length = 2
  | 0, n => by
    simp only [pBf, true_iff]
    intro m h1 h2
    omega
  | r + 1, n => by
    simp only [pBf, Bool.and_eq_true, Bool.or_eq_true, beq_iff_eq, pBf_iff xs r (n + 1)]
    constructor
    · intro h m h1 h2
      by_cases e : m = n
      · subst e; exact h.1
      · exact h.2 m (by omega) (by omega)
    · intro h
      exact ⟨h n (by omega) (by omega), fun m h1 h2 => h m (by omega) (by omega)⟩
theorem okl_pB (xs : List Int) (hx : ∀ x ∈ xs, 0 ≤ x ∧ x ≤ 20) : impl_pairs.okl (impl_pairs.st xs xs.length) 21 = pBf xs 20 1 := by
  rw [Bool.eq_iff_iff, okl_iff, pBf_iff]
  constructor
  · intro h m h1 h2
    have := h m (by omega)
    rwa [st_all xs hx m (by omega) (by omega)] at this
  · intro h n hn
    by_cases e : n = 0
    · subst e
      rw [st_zero xs hx]
      exact .inl rfl
    · rw [st_all xs hx n hn e]
      exact h n (by omega) (by omega)
/-- A pair row. -/
def isB (xs : List Int) : Bool := rowB xs && pBf xs 20 1
theorem isB_row {xs : List Int} (h : isB xs = true) : rowB xs = true := by
  simp only [isB, Bool.and_eq_true] at h
  exact h.1
theorem isB_len {xs : List Int} (h : isB xs = true) : xs.length ≤ 40 := ((rowB_iff xs).1 (isB_row h)).1
theorem isB_rng {xs : List Int} (h : isB xs = true) : ∀ x ∈ xs, 0 ≤ x ∧ x ≤ 20 := ((rowB_iff xs).1 (isB_row h)).2
theorem isB_two {xs : List Int} (h : isB xs = true) (m : Nat) (h1 : 1 ≤ m) (h2 : m ≤ 20) : (placesFrom (m : Int) xs 0).length = 0 ∨ (placesFrom (m : Int) xs 0).length = 2 := by
  simp only [isB, Bool.and_eq_true] at h
  exact (pBf_iff xs 20 1).1 h.2 m h1 (by omega)
def numsFrom (xs : List Int) : Nat → Nat → List Int
  | 0, _ => []
  | r + 1, n => if hasB (n : Int) xs = true then (n : Int) :: numsFrom xs r (n + 1) else numsFrom xs r (n + 1)
theorem numsFrom_len (xs : List Int) : ∀ r n, (numsFrom xs r n).length ≤ r
  | 0, _ => Nat.le_refl _
  | r + 1, n => by
    have := numsFrom_len xs r (n + 1)
    unfold numsFrom
    split <;> simp <;> omega
theorem numsFrom_mem (xs : List Int) (x : Int) : ∀ r n, x ∈ numsFrom xs r n ↔ ∃ m : Nat, n ≤ m ∧ m < n + r ∧ x = (m : Int) ∧ hasB (m : Int) xs = true
  | 0, n => by
    simp only [numsFrom, List.not_mem_nil, false_iff]
    rintro ⟨m, h1, h2, _⟩
    omega
  | r + 1, n => by
    have ih := numsFrom_mem xs x r (n + 1)
    unfold numsFrom
    by_cases c : hasB (n : Int) xs = true
    · rw [if_pos c, List.mem_cons, ih]
      constructor
      · rintro (h | ⟨m, h1, h2, h3, h4⟩)
        · exact ⟨n, by omega, by omega, h, c⟩
        · exact ⟨m, by omega, by omega, h3, h4⟩
      · rintro ⟨m, h1, h2, h3, h4⟩
        by_cases e : m = n
        · subst e; exact .inl h3
        · exact .inr ⟨m, by omega, by omega, h3, h4⟩
    · rw [if_neg c, ih]
      constructor
      · rintro ⟨m, h1, h2, h3, h4⟩
        exact ⟨m, by omega, by omega, h3, h4⟩
      · rintro ⟨m, h1, h2, h3, h4⟩
        by_cases e : m = n
        · subst e; exact absurd h4 c
        · exact ⟨m, by omega, by omega, h3, h4⟩
/-- A row's numbers, increasing. -/
def numsL (xs : List Int) : List Int := numsFrom xs 20 1
theorem numsL_mem {xs : List Int} {x : Int} (h : x ∈ numsL xs) : 1 ≤ x ∧ x ≤ 20 ∧ hasB x xs = true := by
  obtain ⟨m, h1, h2, rfl, h4⟩ := (numsFrom_mem xs x 20 1).1 h
  exact ⟨by omega, by omega, h4⟩
theorem numsL_two {xs : List Int} (h : isB xs = true) {x : Int} (hx : x ∈ numsL xs) : (placesFrom x xs 0).length = 2 := by
  obtain ⟨m, h1, h2, rfl, h4⟩ := (numsFrom_mem xs x 20 1).1 hx
  rw [hasB_places (m : Int) xs 0, decide_eq_true_eq] at h4
  have := isB_two h m h1 (by omega)
  omega
theorem isPairs_ev (xs : List Int) (hx : xs.length ≤ 1048576) : Ev (fun k => impl_isPairs.f k xs) (isB xs) := by
  unfold impl_isPairs.f isB
  refine Ev.bind (IsRow_ev xs hx) ?_
  by_cases c : rowB xs = true
  · simp only [c, if_true, Bool.true_and]
    exact (Ev.now _).cast (okl_pB xs ((rowB_iff xs).1 c).2)
  · simp only [c, if_false]
    exact (Ev.now _).cast (by simp)
/-- Each of the numbers stands at the told distance. -/
def fitL (xs : List Int) (s : Int) : List Int → Bool
  | [] => true
  | x :: t => decide (wrap64 (rd (placesFrom x xs 0) 1 - rd (placesFrom x xs 0) 0) = wrap64 (x + s)) && fitL xs s t
theorem fitL_iff (xs : List Int) (s : Int) : ∀ t, fitL xs s t = true ↔ ∀ x ∈ t, wrap64 (rd (placesFrom x xs 0) 1 - rd (placesFrom x xs 0) 0) = wrap64 (x + s)
  | [] => by simp [fitL]
  | y :: t => by simp [fitL, fitL_iff xs s t]
theorem chk_iff (L : List (List Int)) (s : Int) : ∀ k, impl_fits.chk L s k = true ↔ ∀ n, n < k → (L.getD n []).length = 2 → wrap64 (rd (L.getD n []) 1 - rd (L.getD n []) 0) = wrap64 ((n : Int) + s)
  | 0 => by simp [impl_fits.chk]
  | k + 1 => by
    simp only [impl_fits.chk, Bool.and_eq_true, chk_iff L s k, Bool.not_eq_true', Bool.and_eq_false_iff, beq_eq_false_iff_ne, Bool.not_eq_false', beq_iff_eq]
    constructor
    · intro h n hn h2
      by_cases e : n = k
      · subst e
        rcases h.2 with h' | h'
        · exact absurd h2 h'
        · exact h'
      · exact h.1 n (by omega) h2
    · intro h
      refine ⟨fun n hn => h n (by omega), ?_⟩
      by_cases c : (L.getD k []).length = 2
      · exact .inr (h k (by omega) c)
      · exact .inl c
theorem chk_fit (xs : List Int) (s : Int) (h : isB xs = true) : impl_fits.chk (impl_pairs.st xs xs.length) s 21 = fitL xs s (numsL xs) := by
  rw [Bool.eq_iff_iff, chk_iff, fitL_iff]
  constructor
  · intro g x hx
    obtain ⟨m, h1, h2, rfl, h4⟩ := (numsFrom_mem xs x 20 1).1 hx
    have e := st_all xs (isB_rng h) m (by omega) (by omega)
    have := g m (by omega)
    rw [e] at this
    exact this (numsL_two h hx)
  · intro g n hn h2
    by_cases z : n = 0
    · subst z
      rw [st_zero xs (isB_rng h)] at h2
      simp at h2
    · have e := st_all xs (isB_rng h) n hn z
      rw [e] at h2 ⊢
      refine g n ((numsFrom_mem xs n 20 1).2 ⟨n, by omega, by omega, rfl, ?_⟩)
      rw [hasB_places (n : Int) xs 0, decide_eq_true_eq]
      omega
theorem fits_ev (xs : List Int) (s : Int) (hx : xs.length ≤ 1048576) : Ev (fun k => impl_fits.f k xs s) (isB xs && fitL xs s (numsL xs)) := by
  unfold impl_fits.f
  refine Ev.bind (isPairs_ev xs hx) ?_
  by_cases c : isB xs = true
  · simp only [c, if_true, Bool.true_and]
    exact (Ev.now _).cast (chk_fit xs s c)
  · simp only [c, if_false]
    exact (Ev.now _).cast (by simp)
theorem holes_l0 (xs : List Int) (hx : xs.length ≤ 1048576) : ∀ (t : List Int) (i : Nat) (acc : List Int), xs.drop i = t → acc.length ≤ i → Ev (fun k => impl_holes.l0 k acc xs xs.length (i : Int)) (acc ++ placesFrom 0 t i)
  | [], i, acc, h, ha => by
    have h1 := dropNil h
    refine Ev.of1 (fun k => ?_)
    simp (disch := omega) only [if_true, if_false, Bool.false_eq_true, impl_holes.l0, if_neg]
    simp [placesFrom]
  | x :: t, i, acc, h, ha => by
    obtain ⟨h1, h2, h3⟩ := dropCons h
    by_cases c : x = 0
    · refine Ev.step (f := fun k => impl_holes.l0 k (acc ++ [(i : Int)]) xs xs.length ((i + 1 : Nat) : Int)) (fun k => ?_) ((holes_l0 xs hx t (i + 1) _ h3 (by simp; omega)).cast (by simp [placesFrom, c]))
      simp (disch := omega) only [if_true, if_false, Bool.false_eq_true, impl_holes.l0, if_pos, w64s, h2, c]
    · refine Ev.step (f := fun k => impl_holes.l0 k acc xs xs.length ((i + 1 : Nat) : Int)) (fun k => ?_) ((holes_l0 xs hx t (i + 1) _ h3 (by omega)).cast (by simp [placesFrom, c]))
      simp (disch := omega) only [if_true, if_false, Bool.false_eq_true, impl_holes.l0, if_pos, if_neg, w64s, h2]
theorem holes_ev (xs : List Int) (hx : xs.length ≤ 1048576) : Ev (fun k => impl_holes.f k xs) (placesFrom 0 xs 0) :=
  (Ev.congr (fun k => rfl) (holes_l0 xs hx xs 0 [] rfl (by simp))).cast (by simp)
theorem Index_l0 (n : Int) (xs : List Int) (hx : xs.length ≤ 1048576) : ∀ (t : List Int) (i : Nat), xs.drop i = t → ∃ r : Int, Ev (fun k => slices_Index_int_int.l0 k xs n xs.length (i : Int)) r ∧ decide (r ≥ 0) = hasB n t
  | [], i, h => by
    have h1 := dropNil h
    refine ⟨-1, Ev.of1 (fun k => ?_), by simp [hasB]⟩
    simp (disch := omega) only [if_true, if_false, Bool.false_eq_true, slices_Index_int_int.l0, if_neg]
  | x :: t, i, h => by
    obtain ⟨h1, h2, h3⟩ := dropCons h
    by_cases c : n = x
    · refine ⟨(i : Int), Ev.of1 (fun k => ?_), by simp [hasB, c]⟩
      simp (disch := omega) only [if_true, if_false, Bool.false_eq_true, slices_Index_int_int.l0, if_pos, h2]
    · obtain ⟨r, hr, hd⟩ := Index_l0 n xs hx t (i + 1) h3
      refine ⟨r, Ev.step (f := fun k => slices_Index_int_int.l0 k xs n xs.length ((i + 1 : Nat) : Int)) (fun k => ?_) hr, by rw [hd]; simp [hasB, Ne.symm c]⟩
      simp (disch := omega) only [if_true, if_false, Bool.false_eq_true, slices_Index_int_int.l0, if_pos, if_neg, w64s, h2]
theorem Contains_ev (xs : List Int) (n : Int) (hx : xs.length ≤ 1048576) : Ev (fun k => slices_Contains_int_int.f k xs n) (hasB n xs) := by
  obtain ⟨r, hr, hd⟩ := Index_l0 n xs hx xs 0 rfl
  unfold slices_Contains_int_int.f
  refine (Ev.bind (f := fun _ t => some (decide (t ≥ 0))) (a := r) (Ev.congr (fun k => rfl) hr) (Ev.now _)).cast hd
theorem numbers_l0 (xs : List Int) (hx : xs.length ≤ 1048576) : ∀ (r n : Nat) (acc : List Int), n + r = 21 → acc.length ≤ n → Ev (fun k => impl_numbers.l0 k xs acc (n : Int)) (acc ++ numsFrom xs r n)
  | 0, n, acc, h, ha => by
    refine Ev.of1 (fun k => ?_)
    simp (disch := omega) only [if_true, if_false, Bool.false_eq_true, impl_numbers.l0, if_neg, numsFrom, List.append_nil]
  | r + 1, n, acc, h, ha => by
    by_cases c : hasB (n : Int) xs = true
    · refine Ev.step (f := fun k => (slices_Contains_int_int.f k xs (n : Int)).bind fun t => if t = true then (impl_numbers.l0 k xs (acc ++ [(n : Int)]) ((n + 1 : Nat) : Int)) else (impl_numbers.l0 k xs acc ((n + 1 : Nat) : Int))) (fun k => ?_) (Ev.bind (Contains_ev xs n hx) ?_)
      · simp (disch := omega) only [if_true, if_false, Bool.false_eq_true, impl_numbers.l0, if_pos, w64s]
      · simp only [c, if_true]
        exact (numbers_l0 xs hx r (n + 1) _ (by omega) (by simp; omega)).cast (by simp [numsFrom, c])
    · refine Ev.step (f := fun k => (slices_Contains_int_int.f k xs (n : Int)).bind fun t => if t = true then (impl_numbers.l0 k xs (acc ++ [(n : Int)]) ((n + 1 : Nat) : Int)) else (impl_numbers.l0 k xs acc ((n + 1 : Nat) : Int))) (fun k => ?_) (Ev.bind (Contains_ev xs n hx) ?_)
      · simp (disch := omega) only [if_true, if_false, Bool.false_eq_true, impl_numbers.l0, if_pos, w64s]
      · simp only [c, if_false]
        exact (numbers_l0 xs hx r (n + 1) _ (by omega) (by omega)).cast (by simp [numsFrom, c])
theorem numbers_ev (xs : List Int) (hx : xs.length ≤ 1048576) : Ev (fun k => impl_numbers.f k xs) (numsL xs) :=
  (Ev.congr (fun k => rfl) (numbers_l0 xs hx 20 1 [] rfl (by simp))).cast (by simp [numsL])
/-- The numbers are d, d + 1, and so on. -/
def fromB (d : Int) : List Int → Nat → Bool
  | [], _ => true
  | x :: t, i => decide (x = wrap64 (d + (i : Int))) && fromB d t (i + 1)
theorem numsL_short (xs : List Int) : (numsL xs).length ≤ 20 := numsFrom_len xs 20 1
theorem isFrom_l0 (d : Int) (ns : List Int) (hn : ns.length ≤ 1048576) : ∀ (t : List Int) (i : Nat), ns.drop i = t → Ev (fun k => impl_isFrom.l0 k d ns ns ns.length (i : Int)) (if fromB d t i = true then ((ns.length : Int), decide ((ns.length : Int) > 0)) else (0, false))
  | [], i, h => by
    have h1 := dropNil h
    refine Ev.of1 (fun k => ?_)
    simp (disch := omega) only [if_true, if_false, Bool.false_eq_true, impl_isFrom.l0, if_neg, fromB]
  | x :: t, i, h => by
    obtain ⟨h1, h2, h3⟩ := dropCons h
    by_cases c : x = wrap64 (d + (i : Int))
    · refine Ev.step (f := fun k => impl_isFrom.l0 k d ns ns ns.length ((i + 1 : Nat) : Int)) (fun k => ?_) ((isFrom_l0 d ns hn t (i + 1) h3).cast (by simp only [fromB, decide_eq_true c, Bool.true_and]))
      rw [impl_isFrom.l0, h2, w64s (by omega), if_pos (by omega), if_pos (by omega), if_pos (by omega), if_pos c]
    · refine Ev.of1 (fun k => ?_)
      rw [impl_isFrom.l0, h2, if_pos (by omega), if_pos (by omega), if_pos (by omega), if_neg c]
      simp only [fromB, decide_eq_false c, Bool.false_and, Bool.false_eq_true, if_false]
theorem isFrom_ev (xs : List Int) (d : Int) (hx : xs.length ≤ 1048576) : Ev (fun k => impl_isFrom.f k xs d) (if fromB d (numsL xs) 0 = true then (((numsL xs).length : Int), decide (((numsL xs).length : Int) > 0)) else (0, false)) := by
  unfold impl_isFrom.f
  have hn := numsL_short xs
  exact Ev.bind (numbers_ev xs hx) (isFrom_l0 d (numsL xs) (by omega) (numsL xs) 0 rfl)
def skB (xs : List Int) : Bool := fitL xs 0 (numsL xs) && ((fromB 1 (numsL xs) 0 && decide (((numsL xs).length : Int) > 0)) && (((placesFrom 0 xs 0).length : Int) == 0))
def hkB (xs : List Int) : Bool := fitL xs 0 (numsL xs) && ((fromB 1 (numsL xs) 0 && decide (((numsL xs).length : Int) > 0)) && (decide (((placesFrom 0 xs 0).length : Int) = 1) && (rd (placesFrom 0 xs 0) 0 == wrap64 ((xs.length : Int) - 2))))
/-- How many cells hold one of the numbers n, n + 1, .., r of them. -/
def sumPl (xs : List Int) : Nat → Nat → Nat
  | 0, _ => 0
  | r + 1, n => (placesFrom (n : Int) xs 0).length + sumPl xs r (n + 1)
theorem places_len_at (n : Int) : ∀ (t : List Int) (i j : Nat), (placesFrom n t i).length = (placesFrom n t j).length
  | [], i, j => rfl
  | x :: t, i, j => by
    have h := places_len_at n t (i + 1) (j + 1)
    unfold placesFrom
    split <;> simp [h]
theorem sumPl_cons (x : Int) (t : List Int) : ∀ r n, sumPl (x :: t) r n = sumPl t r n + (if (n : Int) ≤ x ∧ x < ((n + r : Nat) : Int) then 1 else 0)
  | 0, n => by
    rw [if_neg (by omega)]
    rfl
  | r + 1, n => by
    have ih := sumPl_cons x t r (n + 1)
    have e : (placesFrom (n : Int) (x :: t) 0).length = (placesFrom (n : Int) t 0).length + (if x = (n : Int) then 1 else 0) := by
      have h := places_len_at (n : Int) t 1 0
      show (if x = (n : Int) then ((0 : Nat) : Int) :: placesFrom (n : Int) t 1 else placesFrom (n : Int) t 1).length = _
      split <;> simp [h]
    rw [sumPl, sumPl, e, ih]
    by_cases c : x = (n : Int)
    · rw [if_pos c, if_neg (by omega), if_pos (by omega)]
      omega
    · rw [if_neg c]
      by_cases d : ((n + 1 : Nat) : Int) ≤ x ∧ x < ((n + 1 + r : Nat) : Int)
      · rw [if_pos d, if_pos (by omega)]
        omega
      · rw [if_neg d, if_neg (by omega)]
        omega
theorem sumPl_all : ∀ (xs : List Int), (∀ x ∈ xs, 0 ≤ x ∧ x ≤ 20) → xs.length = sumPl xs 21 0
  | [], _ => by decide
  | x :: t, h => by
    have ih := sumPl_all t (fun y hy => h y (List.mem_cons_of_mem _ hy))
    have hx := h x List.mem_cons_self
    rw [sumPl_cons, if_pos (by omega), List.length_cons, ih]
theorem sumPl_two (xs : List Int) : ∀ (r n : Nat), (∀ m : Nat, n ≤ m → m < n + r → (placesFrom (m : Int) xs 0).length = 0 ∨ (placesFrom (m : Int) xs 0).length = 2) → sumPl xs r n = 2 * (numsFrom xs r n).length
  | 0, n, _ => rfl
  | r + 1, n, h => by
    have ih := sumPl_two xs r (n + 1) (fun m h1 h2 => h m (by omega) (by omega))
    have h0 := h n (Nat.le_refl _) (by omega)
    rw [sumPl, numsFrom, ih]
    rw [hasB_places (n : Int) xs 0]
    rcases h0 with h0 | h0
    · rw [if_neg (by simp [h0])]
      omega
    · rw [if_pos (by simp [h0]), List.length_cons]
      omega
theorem isB_count {xs : List Int} (h : isB xs = true) : xs.length = (placesFrom 0 xs 0).length + 2 * (numsL xs).length := by
  have e := sumPl_all xs (isB_rng h)
  rw [sumPl, sumPl_two xs 20 1 (fun m h1 h2 => isB_two h m h1 (by omega))] at e
  exact e
theorem fromB_at (d : Int) : ∀ (t : List Int) (i : Nat), fromB d t i = true → ∀ j (hj : j < t.length), t[j] = wrap64 (d + ((i + j : Nat) : Int))
  | [], i, h, j, hj => absurd hj (by simp)
  | x :: t, i, h, j, hj => by
    simp only [fromB, Bool.and_eq_true, decide_eq_true_eq] at h
    cases j with
    | zero => exact h.1
    | succ j =>
      have := fromB_at d t (i + 1) h.2 j (by simpa using hj)
      rw [List.getElem_cons_succ, this, show i + 1 + j = i + (j + 1) by omega]
theorem fromB_mem {xs : List Int} (h : fromB 1 (numsL xs) 0 = true) {m : Nat} (h1 : 1 ≤ m) (h2 : m ≤ (numsL xs).length) : (m : Int) ∈ numsL xs := by
  have hn := numsL_short xs
  have e := fromB_at 1 (numsL xs) 0 h (m - 1) (by omega)
  have w : wrap64 (1 + ((0 + (m - 1) : Nat) : Int)) = (m : Int) := by unfold wrap64; omega
  rw [w] at e
  rw [← e]
  exact List.getElem_mem _
theorem placesFrom_bounds (n y : Int) : ∀ (t : List Int) (i : Nat), y ∈ placesFrom n t i → (i : Int) ≤ y ∧ y < (i : Int) + t.length
  | [], i, h => absurd h List.not_mem_nil
  | x :: t, i, h => by
    have ih := placesFrom_bounds n y t (i + 1)
    unfold placesFrom at h
    simp only [List.length_cons]
    by_cases c : x = n
    · rw [if_pos c, List.mem_cons] at h
      rcases h with h | h
      · omega
      · have := ih h; omega
    · rw [if_neg c] at h
      have := ih h
      omega
theorem len_two {p : List Int} (h : p.length = 2) : ∃ u v, p = [u, v] := by
  match p, h with
  | [u, v], _ => exact ⟨u, v, rfl⟩
def trip (xs : List Int) (n x : Int) : List Int := [x, wrap64 (wrap64 (rd (placesFrom x xs 0) 0 + n) + 1), wrap64 (wrap64 (rd (placesFrom x xs 0) 1 + n) + 1)]
def TL (xs : List Int) (n : Int) (m : Nat) : List (List Int) := (List.range m).map (fun (i : Nat) => trip xs n ((i : Int) + 1))
/-- A row of triples: Skolem's or hooked, of at most ten pairs. -/
def trB (xs : List Int) : Bool := isB xs && ((hkB xs || skB xs) && decide ((numsL xs).length ≤ 10))
theorem skB_parts {xs : List Int} (h : skB xs = true) : fromB 1 (numsL xs) 0 = true ∧ 0 < (numsL xs).length ∧ (placesFrom 0 xs 0).length = 0 := by
  unfold skB at h
  simp only [Bool.and_eq_true, decide_eq_true_eq, beq_iff_eq] at h
  exact ⟨h.2.1.1, by omega, by omega⟩
theorem hkB_parts {xs : List Int} (h : hkB xs = true) : fromB 1 (numsL xs) 0 = true ∧ 0 < (numsL xs).length ∧ (placesFrom 0 xs 0).length = 1 := by
  unfold hkB at h
  simp only [Bool.and_eq_true, decide_eq_true_eq, beq_iff_eq] at h
  exact ⟨h.2.1.1, by omega, by omega⟩
theorem either_parts {xs : List Int} (h : (hkB xs || skB xs) = true) : fromB 1 (numsL xs) 0 = true ∧ 0 < (numsL xs).length ∧ (placesFrom 0 xs 0).length ≤ 1 := by
  rw [Bool.or_eq_true] at h
  rcases h with h | h
  · have := hkB_parts h
    exact ⟨this.1, this.2.1, by omega⟩
  · have := skB_parts h
    exact ⟨this.1, this.2.1, by omega⟩
theorem half_len {xs : List Int} (c : isB xs = true) (h : (hkB xs || skB xs) = true) : wrap64 ((xs.length : Int) / 2) = ((numsL xs).length : Int) := by
  have e := isB_count c
  have p := either_parts h
  have := isB_len c
  unfold wrap64
  omega
theorem TL_succ (xs : List Int) (n : Int) (m : Nat) : TL xs n (m + 1) = TL xs n m ++ [trip xs n ((m : Int) + 1)] := by
  unfold TL
  rw [List.range_succ, List.map_append, List.map_singleton]
theorem TL_len (xs : List Int) (n : Int) (m : Nat) : (TL xs n m).length = m := by unfold TL; simp
theorem two_of {xs : List Int} (c : isB xs = true) (h : (hkB xs || skB xs) = true) : ∀ m : Nat, 1 ≤ m → m ≤ (numsL xs).length → (placesFrom (m : Int) xs 0).length = 2 :=
  fun _ h1 h3 => numsL_two c (fromB_mem (either_parts h).1 h1 h3)
def trV (xs : List Int) : List (List Int) × Bool := if trB xs = true then (TL xs (numsL xs).length (numsL xs).length, true) else ([], false)
theorem extended_t (xs : List Int) : Ev (fun k => impl_extended.j0 k xs true) (0, 0) := Ev.of1 (fun k => by simp [impl_extended.j0])
theorem extended_f (xs : List Int) (hx : xs.length ≤ 1048576) (d : ((placesFrom 0 xs 0).length : Int) = 1) : Ev (fun k => impl_extended.j0 k xs false) ((if fromB 1 (numsL xs) 0 = true then ((numsL xs).length : Int) else 0), rd (placesFrom 0 xs 0) 0) := by
  refine Ev.step (f := fun k => (impl_isFrom.f k xs 1).bind fun bt165 => ((impl_holes.f k xs).bind fun t167 => (if 0 < (t167.length : Int) then (some (bt165.1, rd t167 0)) else (none)))) (fun k => by simp only [impl_extended.j0, Bool.false_eq_true, if_false]) (Ev.bind (isFrom_ev xs 1 hx) (Ev.bind (holes_ev xs hx) ?_))
  rw [if_pos (by omega)]
  exact (Ev.now _).cast (by split <;> rfl)
theorem skolemV (xs : List Int) (hx : xs.length ≤ 1048576) (h : isB xs = true) : Ev (fun k => impl_skolem.f k xs) (if skB xs = true then ((numsL xs).length : Int) else 0) := by
  unfold impl_skolem.f skB
  have hf := fits_ev xs 0 hx
  rw [h, Bool.true_and] at hf
  cases c : fitL xs 0 (numsL xs) with
  | false =>
    rw [c] at hf
    refine Ev.bind hf ?_
    simp only [Bool.false_eq_true, if_false, Bool.false_and]
    exact Ev.now _
  | true =>
    rw [c] at hf
    refine Ev.bind hf ?_
    simp only [if_true, Bool.true_and]
    refine Ev.bind (holes_ev xs hx) ?_
    by_cases d : ((placesFrom 0 xs 0).length : Int) > 0
    · have d0 : (((placesFrom 0 xs 0).length : Int) == 0) = false := beq_eq_false_iff_ne.2 (by omega)
      rw [d0]
      simp only [d, if_true, Bool.and_false, Bool.false_eq_true, if_false]
      exact Ev.now _
    · have d0 : (((placesFrom 0 xs 0).length : Int) == 0) = true := beq_iff_eq.2 (by omega)
      rw [d0]
      simp only [d, if_false, Bool.and_true]
      refine Ev.bind (isFrom_ev xs 1 hx) ?_
      refine (Ev.now _).cast ?_
      cases fromB 1 (numsL xs) 0 with
      | false => simp
      | true =>
        by_cases z : ((numsL xs).length : Int) > 0
        · simp only [decide_eq_true z, if_true, Bool.and_self]
        · simp only [decide_eq_false z, if_true, Bool.true_and, Bool.false_eq_true, if_false]
          omega
theorem hookedV (xs : List Int) (hx : xs.length ≤ 1048576) (h : isB xs = true) : Ev (fun k => impl_hooked.f k xs) (if hkB xs = true then ((numsL xs).length : Int) else 0) := by
  have hf := fits_ev xs 0 hx
  rw [h, Bool.true_and] at hf
  have zero : ∀ (e : hkB xs = false), Ev (fun k => impl_extended.f k xs) (0, 0) → Ev (fun k => impl_hooked.f k xs) (if hkB xs = true then ((numsL xs).length : Int) else 0) := fun e g => by
    rw [e]
    unfold impl_hooked.f
    refine Ev.bind g ?_
    simp only [ite_self, Bool.false_eq_true, if_false]
    exact Ev.now _
  cases c : fitL xs 0 (numsL xs) with
  | false =>
    rw [c] at hf
    refine zero (by simp [hkB, c]) ?_
    unfold impl_extended.f
    refine Ev.bind hf ?_
    simp only [Bool.false_eq_true, if_false]
    exact extended_t xs
  | true =>
    rw [c] at hf
    by_cases d : ((placesFrom 0 xs 0).length : Int) = 1
    · have g : Ev (fun k => impl_extended.f k xs) ((if fromB 1 (numsL xs) 0 = true then ((numsL xs).length : Int) else 0), rd (placesFrom 0 xs 0) 0) := by
        unfold impl_extended.f
        refine Ev.bind hf ?_
        simp only [if_true]
        refine Ev.bind (holes_ev xs hx) ?_
        rw [bne_eq_false_iff_eq.2 d]
        exact extended_f xs hx d
      unfold impl_hooked.f
      refine Ev.bind g ?_
      unfold hkB
      rw [c, decide_eq_true d]
      by_cases z : rd (placesFrom 0 xs 0) 0 = wrap64 ((xs.length : Int) - 2)
      · rw [beq_iff_eq.2 z]
        simp only [z, if_true]
        refine (Ev.now _).cast ?_
        cases fromB 1 (numsL xs) 0 with
        | false => simp
        | true =>
          by_cases y : ((numsL xs).length : Int) > 0
          · simp only [decide_eq_true y, if_true, Bool.and_self]
          · simp only [decide_eq_false y, if_true, Bool.true_and, Bool.false_eq_true, if_false, Bool.false_and]
            omega
      · rw [beq_eq_false_iff_ne.2 z]
        simp only [z, if_false, Bool.and_false, Bool.false_eq_true]
        exact Ev.now _
    · refine zero (by unfold hkB; rw [decide_eq_false d]; simp) ?_
      unfold impl_extended.f
      refine Ev.bind hf ?_
      simp only [if_true]
      refine Ev.bind (holes_ev xs hx) ?_
      rw [bne_iff_ne.2 d]
      exact extended_t xs
theorem skolem0 (xs : List Int) (hx : xs.length ≤ 1048576) (h : isB xs = false) : Ev (fun k => impl_skolem.f k xs) 0 := by
  have hf := fits_ev xs 0 hx
  rw [h, Bool.false_and] at hf
  unfold impl_skolem.f
  refine Ev.bind hf ?_
  simp only [Bool.false_eq_true, if_false]
  exact Ev.now _
theorem hooked0 (xs : List Int) (hx : xs.length ≤ 1048576) (h : isB xs = false) : Ev (fun k => impl_hooked.f k xs) 0 := by
  have hf := fits_ev xs 0 hx
  rw [h, Bool.false_and] at hf
  have g : Ev (fun k => impl_extended.f k xs) (0, 0) := by
    unfold impl_extended.f
    refine Ev.bind hf ?_
    simp only [Bool.false_eq_true, if_false]
    exact extended_t xs
  unfold impl_hooked.f
  refine Ev.bind g ?_
  simp only [ite_self]
  exact Ev.now _
theorem iok {xs : List Int} (c : isB xs = true) (d : (hkB xs || skB xs) = true) : impl_TriplesOfRow.ok xs (numsL xs).length = true := by
  have hn := numsL_short xs
  unfold impl_TriplesOfRow.ok
  rw [Bool.and_eq_true, Bool.and_eq_true]
  refine ⟨⟨decide_eq_true (isB_len c), List.all_eq_true.2 (fun x hx => decide_eq_true (isB_rng c x hx).2)⟩, List.all_eq_true.2 (fun i hi => decide_eq_true ?_)⟩
  have hi := List.mem_range.1 hi
  rw [st_all xs (isB_rng c) (i + 1) (by omega) (by omega)]
  exact two_of c d (i + 1) (by omega) (by omega)
theorem iL {xs : List Int} (c : isB xs = true) (n : Int) (m : Nat) (hm : m ≤ 20) : impl_TriplesOfRow.L xs n m = TL xs n m := by
  unfold impl_TriplesOfRow.L TL
  refine List.map_congr_left (fun i hi => ?_)
  have hi := List.mem_range.1 hi
  have e := st_all xs (isB_rng c) (i + 1) (by omega) (by omega)
  unfold impl_TriplesOfRow.one trip
  rw [show ((i : Int) + 1).toNat = i + 1 by omega, e]
  rfl
theorem iTriples_ev (xs : List Int) (hx : xs.length ≤ 1048576) : Ev (fun k => impl_TriplesOfRow.f k xs) (trV xs) := by
  have hn := numsL_short xs
  unfold impl_TriplesOfRow.f trV
  cases c : isB xs with
  | false =>
    refine Ev.bind (skolem0 xs hx c) (Ev.bind (hooked0 xs hx c) ?_)
    rw [if_neg (show ¬ trB xs = true by simp [trB, c])]
    exact Ev.now _
  | true =>
    refine Ev.bind (skolemV xs hx c) (Ev.bind (hookedV xs hx c) ?_)
    by_cases d : (hkB xs || skB xs) = true
    · have p := either_parts d
      have e : (if (if skB xs = true then ((numsL xs).length : Int) else 0) < (if hkB xs = true then ((numsL xs).length : Int) else 0) then (if hkB xs = true then ((numsL xs).length : Int) else 0) else (if skB xs = true then ((numsL xs).length : Int) else 0)) = ((numsL xs).length : Int) := by
        cases h1 : skB xs <;> cases h2 : hkB xs <;> first | (exfalso; rw [h1, h2] at d; exact Bool.false_ne_true d) | (simp only [Bool.false_eq_true, if_true, if_false]; split <;> omega)
      rw [e]
      unfold impl_TriplesOfRow.rest impl_isMany.f
      rw [if_pos (show ((numsL xs).length : Int) ≥ 1 by omega)]
      simp only [Option.bind_some]
      by_cases z : (numsL xs).length ≤ 10
      · rw [if_pos (show trB xs = true by simp only [trB, c, d, decide_eq_true z, Bool.and_self]), if_pos (decide_eq_true (by omega)), Int.toNat_natCast, if_pos (iok c d), iL c _ _ (by omega)]
        exact Ev.now _
      · rw [if_neg (show ¬ trB xs = true by simp [trB, c, z]), if_neg (by rw [decide_eq_true_eq]; omega)]
        exact Ev.now _
    · rw [if_neg (show ¬ trB xs = true by simp [trB, d])]
      rw [Bool.or_eq_true, not_or] at d
      rw [if_neg d.1, if_neg d.2]
      exact Ev.now _
theorem slEq_l0 (xs ys : List Int) (hx : xs.length ≤ 1048576) (hl : xs.length = ys.length) : ∀ (s t : List Int) (i : Nat), xs.drop i = s → ys.drop i = t → Ev (fun k => slices_Equal_int_int.l0 k xs ys xs.length (i : Int)) (decide (s = t))
  | [], t, i, h, h' => by
    have h1 := dropNil h
    have h2 : t = [] := by rw [← h']; simp; omega
    subst h2
    refine Ev.of1 (fun k => ?_)
    simp (disch := omega) only [if_true, if_false, Bool.false_eq_true, slices_Equal_int_int.l0, if_neg]
    simp
  | x :: s, [], i, h, h' => by
    have h1 := dropLt h
    have h2 := dropNil h'
    omega
  | x :: s, y :: t, i, h, h' => by
    obtain ⟨h1, h2, h3⟩ := dropCons h
    obtain ⟨h1', h2', h3'⟩ := dropCons h'
    by_cases c : x = y
    · refine Ev.step (f := fun k => slices_Equal_int_int.l0 k xs ys xs.length ((i + 1 : Nat) : Int)) (fun k => ?_) ((slEq_l0 xs ys hx hl s t (i + 1) h3 h3').cast (by simp [c]))
      rw [slices_Equal_int_int.l0, h2, h2', w64s (by omega), if_pos (by omega), if_pos (by omega), if_pos (by omega), if_pos (by omega), if_pos c]
    · refine Ev.of1 (fun k => ?_)
      rw [slices_Equal_int_int.l0, h2, h2', if_pos (by omega), if_pos (by omega), if_pos (by omega), if_pos (by omega), if_neg c]
      simp [c]
theorem slEq_ev (xs ys : List Int) (hx : xs.length ≤ 1048576) : Ev (fun k => slices_Equal_int_int.f k xs ys) (decide (xs = ys)) := by
  by_cases c : xs.length = ys.length
  · refine Ev.congr (fun k => ?_) (slEq_l0 xs ys hx c xs ys 0 rfl rfl)
    unfold slices_Equal_int_int.f
    rw [if_pos (by omega)]
    rfl
  · refine Ev.all (fun k => ?_)
    unfold slices_Equal_int_int.f
    rw [if_neg (by omega)]
    have : xs ≠ ys := fun e => c (by rw [e])
    simp [this]
theorem slEqF_l0 (xs ys : List (List Int)) (hx : xs.length ≤ 1048576) (hm : ∀ x ∈ xs, x.length ≤ 1048576) (hl : xs.length = ys.length) : ∀ (s t : List (List Int)) (i : Nat), xs.drop i = s → ys.drop i = t → Ev (fun k => slices_EqualFunc_int_int_int_int.l0 k ys xs xs.length (i : Int)) (decide (s = t))
  | [], t, i, h, h' => by
    have h1 := dropNil h
    have h2 : t = [] := by rw [← h']; simp; omega
    subst h2
    refine Ev.of1 (fun k => ?_)
    simp (disch := omega) only [if_true, if_false, Bool.false_eq_true, slices_EqualFunc_int_int_int_int.l0, if_neg]
    simp
  | x :: s, [], i, h, h' => by
    have h1 := dropLt h
    have h2 := dropNil h'
    omega
  | x :: s, y :: t, i, h, h' => by
    obtain ⟨h1, h2, h3⟩ := dropConsL h
    obtain ⟨h1', h2', h3'⟩ := dropConsL h'
    refine Ev.step (f := fun k => (slices_Equal_int_int.f k x y).bind fun t120 => (if t120 = true then (slices_EqualFunc_int_int_int_int.l0 k ys xs xs.length ((i + 1 : Nat) : Int)) else (some false))) (fun k => ?_) (Ev.bind (slEq_ev x y (hm x (memDrop h))) ?_)
    · simp (disch := omega) only [if_true, if_false, Bool.false_eq_true, slices_EqualFunc_int_int_int_int.l0, if_pos, w64s, h2, h2']
    · by_cases c : x = y
      · simp only [c, decide_true, if_true]
        exact (slEqF_l0 xs ys hx hm hl s t (i + 1) h3 h3').cast (by simp)
      · simp only [c, decide_false, Bool.false_eq_true, if_false]
        exact (Ev.now _).cast (by simp [c])
/-- EqualFunc with Equal: are the two the same? -/
theorem slEqF_ev (xs ys : List (List Int)) (hx : xs.length ≤ 1048576) (hm : ∀ x ∈ xs, x.length ≤ 1048576) : Ev (fun k => slices_EqualFunc_int_int_int_int.f k xs ys) (decide (xs = ys)) := by
  by_cases c : xs.length = ys.length
  · refine Ev.congr (fun k => ?_) (slEqF_l0 xs ys hx hm c xs ys 0 rfl rfl)
    unfold slices_EqualFunc_int_int_int_int.f
    rw [if_pos (by omega)]
    rfl
  · refine Ev.all (fun k => ?_)
    unfold slices_EqualFunc_int_int_int_int.f
    rw [if_neg (by omega)]
    have : xs ≠ ys := fun e => c (by rw [e])
    simp [this]
theorem heldIntS_l0 (xs : List Int) (hx : xs.length ≤ 1048576) : ∀ (n : Nat) (i : Nat) (m : Int), xs.drop i = upFrom n m → 0 ≤ m → m + n ≤ 9223372036854775807 → Ev (fun k => laws_heldIntS.l0 k xs m (i : Int)) (m + n)
  | 0, i, m, h, hm, hb => by
    have h1 := dropNil h
    refine Ev.of1 (fun k => ?_)
    simp (disch := omega) only [if_true, if_false, Bool.false_eq_true, laws_heldIntS.l0, if_neg]
    simp
  | n + 1, i, m, h, hm, hb => by
    obtain ⟨h1, h2, h3⟩ := dropCons (x := m) (t := upFrom n (m + 1)) h
    refine Ev.step (f := fun k => laws_heldIntS.l0 k xs (m + 1) ((i + 1 : Nat) : Int)) (fun k => ?_) ((heldIntS_l0 xs hx n (i + 1) (m + 1) h3 (by omega) (by omega)).cast (by omega))
    have e1 : wrap64 (m + 1) = m + 1 := w64 (by omega) (by omega)
    simp (disch := omega) only [if_true, if_false, Bool.false_eq_true, laws_heldIntS.l0, if_pos, w64s, e1, h2]
theorem heldIntS_ev (n : Nat) (hx : n ≤ 1048576) : Ev (fun k => laws_heldIntS.f k (upFrom n 1) 1) (1 + n) :=
  Ev.congr (fun k => rfl) (heldIntS_l0 (upFrom n 1) (by rw [upFrom_length]; exact hx) n 0 1 rfl (by omega) (by omega))
/-- The numbers to be used once: of a split, or of a hooked one. -/
def marksH (n : Nat) (h : Bool) : List Bool := if h = true then ((marksL n).set (3 * n) false).set (3 * n + 1) true else marksL n
theorem marksH_len (n : Nat) (h : Bool) : (marksH n h).length = 3 * n + 2 := by
  unfold marksH
  split <;> simp [marksL]
theorem trMarksH_ev (n : Nat) (hb : Bool) (h1 : 1 ≤ n) (h2 : n ≤ 10) : Ev (fun k => spec_trMarks.f k (n : Int) hb) (marksH n hb) := by
  have h : n = 1 ∨ n = 2 ∨ n = 3 ∨ n = 4 ∨ n = 5 ∨ n = 6 ∨ n = 7 ∨ n = 8 ∨ n = 9 ∨ n = 10 := by omega
  cases hb <;> rcases h with rfl | rfl | rfl | rfl | rfl | rfl | rfl | rfl | rfl | rfl <;> exact Ev.of (fun k => spec_trMarks.mono _ _ k) (k := 40) (by kernel_rfl)
theorem trSplitH_l0 (n : Nat) (hb : Bool) (hn1 : 1 ≤ n) (hn2 : n ≤ 10) (L : List (List Int)) (hL : L.length ≤ 1048576) (hm : ∀ x ∈ L, x.length ≤ 1048576) : ∀ (T : List (List Int)) (i : Nat) (p : Option (List Int)), L.drop i = T →
    (match p with | none => i = 0 | some q => q.length = 3 ∧ ∃ j, i = j + 1 ∧ L[j]? = some q) →
    Ev (fun k => spec_trSplit.l0 k (n : Int) L hb L L.length (i : Int)) (splitP p T && onceFin (onceL L.flatten (marksH n hb)))
  | [], i, p, h, hp => by
    have h1 := dropNil h
    obtain ⟨K1, k1⟩ := trMarksH_ev n hb hn1 hn2
    obtain ⟨K2, k2⟩ := trOnce_ev L (marksH n hb) hL hm (by rw [marksH_len]; omega) (by rw [marksH_len]; omega)
    refine ⟨K1 + K2 + 1, fun k hk => ?_⟩
    obtain ⟨k, rfl⟩ : ∃ m, k = m + 1 := ⟨k - 1, by omega⟩
    have a1 := k1 k (by omega)
    have a2 := k2 k (by omega)
    simp only [] at a1 a2
    simp (disch := omega) only [if_true, if_false, Bool.false_eq_true, spec_trSplit.l0, if_neg, a1, a2, Option.bind_some, splitP, Bool.true_and]
  | t :: T, i, p, h, hp => by
    obtain ⟨h1, h2, h3⟩ := dropConsL h
    have ht := hm t (memDrop h)
    obtain ⟨K1, k1⟩ := trTriple_ev t ht
    cases ct : triB t with
    | false =>
      rw [ct] at k1
      refine ⟨K1 + 1, fun k hk => ?_⟩
      obtain ⟨k, rfl⟩ : ∃ m, k = m + 1 := ⟨k - 1, by omega⟩
      have a1 := k1 k (by omega)
      simp only [] at a1
      simp (disch := omega) only [if_true, if_false, Bool.false_eq_true, spec_trSplit.l0, if_pos, h2, a1, Option.bind_some, Bool.false_eq_true]
      simp [splitP, ct]
    | true =>
      rw [ct] at k1
      obtain ⟨a, b, d, rfl, _⟩ := triB_form ct
      obtain ⟨K2, k2⟩ := trSplitH_l0 n hb hn1 hn2 L hL hm T (i + 1) (some [a, b, d]) h3 ⟨rfl, i, rfl, dropGet h⟩
      match p, hp with
      | none, hp =>
        have hp' : i = 0 := hp
        subst hp'
        refine ⟨K1 + K2 + 1, fun k hk => ?_⟩
        obtain ⟨k, rfl⟩ : ∃ m, k = m + 1 := ⟨k - 1, by omega⟩
        have a1 := k1 k (by omega)
        have a2 := k2 k (by omega)
        simp only [] at a1 a2
        simp (disch := omega) only [if_true, if_false, Bool.false_eq_true, spec_trSplit.l0, if_pos, if_neg, h2, a1, Option.bind_some, w64s]
        rw [a2]
        simp [splitP, ct]
      | some q, hp =>
        obtain ⟨hq3, j, rfl, hj⟩ := hp
        have hq : rd_L1 L (j : Int) = q := by simp [rd_L1, List.getD_eq_getElem?_getD, hj]
        obtain ⟨K3, k3⟩ := trLess_ev q [a, b, d] (by omega) (by simpa using hq3)
        refine ⟨K1 + K2 + K3 + 1, fun k hk => ?_⟩
        obtain ⟨k, rfl⟩ : ∃ m, k = m + 1 := ⟨k - 1, by omega⟩
        have a1 := k1 k (by omega)
        have a2 := k2 k (by omega)
        have a3 := k3 k (by omega)
        simp only [] at a1 a2 a3
        simp (disch := omega) only [if_true, if_false, Bool.false_eq_true, spec_trSplit.l0, if_pos, h2, a1, a3, hq, w64q, Option.bind_some, w64s]
        rw [a2]
        cases cl : lexB q [a, b, d] <;> simp [splitP, ct, cl]
theorem trSplitH_ev (n : Nat) (hb : Bool) (hn1 : 1 ≤ n) (hn2 : n ≤ 10) (L : List (List Int)) (hL : L.length ≤ 1048576) (hm : ∀ x ∈ L, x.length ≤ 1048576) : Ev (fun k => spec_trSplit.f k (n : Int) L hb) (decide (L.length = n) && (splitP none L && onceFin (onceL L.flatten (marksH n hb)))) := by
  by_cases c : L.length = n
  · refine Ev.congr (fun k => ?_) ((trSplitH_l0 n hb hn1 hn2 L hL hm L 0 none rfl rfl).cast (by simp [c]))
    unfold spec_trSplit.f
    rw [if_pos (by omega)]
    rfl
  · refine Ev.all (fun k => ?_)
    unfold spec_trSplit.f
    rw [if_neg (by omega)]
    simp [c]
/-- The row that the triples write: the numbers at their places, or nothing where the numbers are not 1, 2, .. or a place is none. -/
def fillL (n : Nat) : List (List Int) → Nat → List Int → Option (List Int)
  | [], _, r => some r
  | t :: T, i, r => if rd t 0 = ((i + 1 : Nat) : Int) then (if rd t 1 ≤ (n : Int) then none else fillL n T (i + 1) ((r.set (rd t 1 - n - 1).toNat (rd t 0)).set (rd t 2 - n - 1).toNat (rd t 0))) else none
def fillR (o : Option (List Int)) : List Int × Bool := match o with | some r => (r, true) | none => ([], false)
def fitsIn (n p : Nat) (t : List Int) : Prop := t.length = 3 ∧ 1 ≤ rd t 0 ∧ rd t 1 < rd t 2 ∧ rd t 2 ≤ ((n + p : Nat) : Int)
theorem sFill_l0 (n p : Nat) (hn : n ≤ 10) (hp : p ≤ 1000) (L : List (List Int)) (hL : L.length ≤ 1000) (hf : ∀ t ∈ L, fitsIn n p t) : ∀ (T : List (List Int)) (i : Nat) (r : List Int), L.drop i = T → r.length = p → Ev (fun k => spec_RowOfTriples.l0 k (n : Int) r L L.length (i : Int)) (fillR (fillL n T i r)) := by
  intro T
  induction T with
  | nil =>
    intro i r h hr
    have h1 := dropNil h
    refine Ev.of1 (fun k => ?_)
    simp (disch := omega) only [spec_RowOfTriples.l0, if_neg, fillL, fillR]
  | cons t T ih =>
    intro i r h hr
    obtain ⟨d1, d2, d3⟩ := dropConsL h
    obtain ⟨l3, f0, f1, f2⟩ := hf t (memDrop h)
    have w : wrap64 ((i : Int) + 1) = ((i + 1 : Nat) : Int) := w64s (by omega)
    have g3 : (t.length : Int) = 3 := by omega
    by_cases c0 : rd t 0 = ((i + 1 : Nat) : Int)
    · by_cases c1 : rd t 1 ≤ (n : Int)
      · refine Ev.of1 (fun k => ?_)
        rw [spec_RowOfTriples.l0, d2, w, g3, if_pos (by omega), if_pos (by omega), if_pos (by omega), if_pos (by decide), if_pos c0, if_pos (by decide), if_pos c1, fillL, if_pos c0, if_pos c1, fillR]
      · have e1 : wrap64 (wrap64 (rd t 1 - n) - 1) = rd t 1 - n - 1 := by unfold wrap64; omega
        have e2 : wrap64 (wrap64 (rd t 2 - n) - 1) = rd t 2 - n - 1 := by unfold wrap64; omega
        have H := ih (i + 1) ((r.set (rd t 1 - n - 1).toNat (rd t 0)).set (rd t 2 - n - 1).toNat (rd t 0)) d3 (by simp [hr])
        refine Ev.step (fun k => ?_) (H.cast (by rw [fillL, if_pos c0, if_neg c1]))
        rw [spec_RowOfTriples.l0, d2, w, g3, e1, e2, if_pos (by omega), if_pos (by omega), if_pos (by omega), if_pos (by decide), if_pos c0, if_pos (by decide), if_neg c1, if_pos (by omega), if_pos (by omega), if_pos (by decide), if_pos (by omega), if_pos (by omega)]
    · refine Ev.of1 (fun k => ?_)
      rw [spec_RowOfTriples.l0, d2, w, g3, if_pos (by omega), if_pos (by omega), if_pos (by omega), if_pos (by decide), if_neg c0, fillL, if_neg c0, fillR]
/-- Is it a split (hooked or not) in order? -/
def splH (L : List (List Int)) (hb : Bool) : Bool := splitP none L && onceFin (onceL L.flatten (marksH L.length hb))
theorem splH_ev (L : List (List Int)) (hb : Bool) (h1 : 1 ≤ L.length) (h2 : L.length ≤ 10) (hm : ∀ x ∈ L, x.length ≤ 1048576) : Ev (fun k => spec_trSplit.f k (L.length : Int) L hb) (splH L hb) :=
  (trSplitH_ev L.length hb h1 h2 L (by omega) hm).cast (by rw [decide_eq_true rfl, Bool.true_and]; rfl)
theorem sRow_ev (L : List (List Int)) (h1 : 1 ≤ L.length) (h2 : L.length ≤ 10) (hm : ∀ x ∈ L, x.length ≤ 1048576) (hf : (splH L false || splH L true) = true → ∀ t ∈ L, fitsIn L.length (if splH L true = true then 2 * L.length + 1 else 2 * L.length) t) :
    Ev (fun k => spec_RowOfTriples.f k L) (if (splH L false || splH L true) = true then fillR (fillL L.length L 0 (List.replicate (if splH L true = true then 2 * L.length + 1 else 2 * L.length) 0)) else ([], false)) := by
  have s1 := splH_ev L true h1 h2 hm
  have s0 := splH_ev L false h1 h2 hm
  have hI : spec_l1In.f (L.length : Int) 1 10 = some true := by
    unfold spec_l1In.f
    rw [if_pos (by omega), decide_eq_true (by omega)]
  have w0 : wrap64 (2 * (L.length : Int)) = ((2 * L.length : Nat) : Int) := by unfold wrap64; omega
  have w1 : wrap64 (((2 * L.length : Nat) : Int) + 1) = ((2 * L.length + 1 : Nat) : Int) := by unfold wrap64; omega
  have hj1 : ∀ p : Nat, p ≤ 1000 → (∀ t ∈ L, fitsIn L.length p t) → Ev (fun k => spec_RowOfTriples.j1 k L (L.length : Int) (p : Int)) (fillR (fillL L.length L 0 (List.replicate p 0))) := fun p hp hg => by
    refine Ev.step (fun k => ?_) (sFill_l0 L.length p h2 hp L (by omega) hg L 0 (List.replicate p 0) rfl (by simp))
    rw [spec_RowOfTriples.j1, if_pos (by omega), if_pos (by omega), Int.toNat_natCast]
    rfl
  have hj0 : (splH L false || splH L true) = true → Ev (fun k => spec_RowOfTriples.j0 k L (L.length : Int) false) (fillR (fillL L.length L 0 (List.replicate (if splH L true = true then 2 * L.length + 1 else 2 * L.length) 0))) := fun hs => by
    have hg := hf hs
    refine Ev.step (f := fun k => (spec_trSplit.f k (L.length : Int) L true).bind fun t150 => (if t150 = true then (spec_RowOfTriples.j1 k L (L.length : Int) ((2 * L.length + 1 : Nat) : Int)) else (spec_RowOfTriples.j1 k L (L.length : Int) ((2 * L.length : Nat) : Int)))) (fun k => by rw [spec_RowOfTriples.j0, if_neg (by decide), w0, w1]) (Ev.bind s1 ?_)
    by_cases c : splH L true = true
    · rw [if_pos c] at hg
      simp only [c, if_true]
      exact hj1 _ (by omega) hg
    · rw [if_neg c] at hg
      simp only [c, if_false]
      exact hj1 _ (by omega) hg
  have hjn : Ev (fun k => spec_RowOfTriples.j0 k L (L.length : Int) true) ([], false) := Ev.of1 (fun k => by rw [spec_RowOfTriples.j0, if_pos rfl])
  refine Ev.congr (g := fun k => spec_RowOfTriples.f k L) (f := fun k => (spec_trSplit.f k (L.length : Int) L false).bind fun t148 => (if t148 = true then (spec_RowOfTriples.j0 k L (L.length : Int) false) else ((spec_trSplit.f k (L.length : Int) L true).bind fun t149 => (spec_RowOfTriples.j0 k L (L.length : Int) (!t149))))) (fun k => by unfold spec_RowOfTriples.f; rw [hI]; rfl) (Ev.bind s0 ?_)
  by_cases c : splH L false = true
  · have hs : (splH L false || splH L true) = true := by rw [c]; rfl
    rw [if_pos hs]
    simp only [c, if_true]
    exact hj0 hs
  · simp only [c, if_false]
    refine Ev.bind s1 ?_
    by_cases d : splH L true = true
    · have hs : (splH L false || splH L true) = true := by rw [d]; simp
      have := hj0 hs
      rw [if_pos (by rw [d]; simp)]
      rw [d] at this ⊢
      exact this
    · rw [if_neg (by simp [d])]
      simp only [d, Bool.not_false]
      exact hjn
theorem sRow_no (L : List (List Int)) (h : ¬ (1 ≤ L.length ∧ L.length ≤ 10)) : Ev (fun k => spec_RowOfTriples.f k L) ([], false) := by
  refine Ev.step (f := fun _ => some ([], false)) (fun k => ?_) (Ev.now _)
  unfold spec_RowOfTriples.f spec_l1In.f
  by_cases c : (L.length : Int) ≥ 1
  · rw [if_pos c, decide_eq_false (by omega)]
    show spec_RowOfTriples.j0 (k + 1) L (L.length : Int) true = _
    rw [spec_RowOfTriples.j0, if_pos rfl]
  · rw [if_neg c]
    show spec_RowOfTriples.j0 (k + 1) L (L.length : Int) true = _
    rw [spec_RowOfTriples.j0, if_pos rfl]
/-- The program's try at a row of p cells: nothing where a triple does not fit. -/
def goodT (n p : Nat) (t : List Int) : Bool := decide (t.length = 3 ∧ (1 ≤ rd t 0 ∧ rd t 0 ≤ 20) ∧ ((n : Int) < rd t 1 ∧ rd t 1 ≤ ((n + p : Nat) : Int)) ∧ (n : Int) < rd t 2 ∧ rd t 2 ≤ ((n + p : Nat) : Int))
def fillI (n p : Nat) : List (List Int) → List Int → Option (List Int)
  | [], r => some r
  | t :: T, r => if goodT n p t = true then fillI n p T ((r.set (rd t 1 - n - 1).toNat (rd t 0)).set (rd t 2 - n - 1).toNat (rd t 0)) else none
theorem iFill_l1 (n p : Nat) (hn : n ≤ 10) (hp : p ≤ 1000) (L : List (List Int)) (hL : L.length ≤ 1000) (ys : List Int) (i : Int) (R : List Int × Bool) : ∀ (T : List (List Int)) (j : Nat) (r : List Int), L.drop j = T → r.length = p →
    (fillI n p T r = none → ∀ q, Ev (fun k => impl_RowOfTriples.j2 k L (n : Int) q false ys ys.length i) R) →
    (∀ r', fillI n p T r = some r' → Ev (fun k => impl_RowOfTriples.j2 k L (n : Int) r' true ys ys.length i) R) → Ev (fun k => impl_RowOfTriples.l1 k L (n : Int) (p : Int) r true ys ys.length i L L.length (j : Int)) R := by
  intro T
  induction T with
  | nil =>
    intro j r h hr hno hk
    have h1 := dropNil h
    refine Ev.step (fun k => ?_) (hk r rfl)
    simp (disch := omega) only [impl_RowOfTriples.l1, if_neg]
  | cons t T ih =>
    intro j r h hr hno hk
    obtain ⟨d1, d2, d3⟩ := dropConsL h
    have w : wrap64 ((j : Int) + 1) = ((j + 1 : Nat) : Int) := w64s (by omega)
    have wn : wrap64 ((n : Int) + (p : Int)) = ((n + p : Nat) : Int) := by unfold wrap64; omega
    by_cases l3 : (t.length : Int) = 3
    · by_cases c0 : 1 ≤ rd t 0 ∧ rd t 0 ≤ 20
      · have hN : impl_isNumber.f (rd t 0) = some true := by
          unfold impl_isNumber.f
          rw [if_pos (by omega), decide_eq_true (by omega)]
        by_cases c1 : rd t 1 ≤ (n : Int)
        · refine Ev.step (fun k => ?_) (hno (by rw [fillI, if_neg (by unfold goodT; rw [decide_eq_true_eq]; omega)]) r)
          rw [impl_RowOfTriples.l1, d2, l3, hN, if_pos (by omega), if_pos (by omega), if_pos (by omega), if_pos rfl, if_pos (by decide), Option.bind_some, if_pos rfl, if_pos (by decide), if_pos c1]
        · by_cases c2 : rd t 1 > ((n + p : Nat) : Int)
          · refine Ev.step (fun k => ?_) (hno (by rw [fillI, if_neg (by unfold goodT; rw [decide_eq_true_eq]; omega)]) r)
            rw [impl_RowOfTriples.l1, d2, l3, hN, wn, if_pos (by omega), if_pos (by omega), if_pos (by omega), if_pos rfl, if_pos (by decide), Option.bind_some, if_pos rfl, if_pos (by decide), if_neg c1, if_pos c2]
          · by_cases c3 : rd t 2 ≤ (n : Int)
            · refine Ev.step (fun k => ?_) (hno (by rw [fillI, if_neg (by unfold goodT; rw [decide_eq_true_eq]; omega)]) r)
              rw [impl_RowOfTriples.l1, d2, l3, hN, wn, if_pos (by omega), if_pos (by omega), if_pos (by omega), if_pos rfl, if_pos (by decide), Option.bind_some, if_pos rfl, if_pos (by decide), if_neg c1, if_neg c2, if_pos (by decide), if_pos c3]
            · by_cases c4 : rd t 2 > ((n + p : Nat) : Int)
              · refine Ev.step (fun k => ?_) (hno (by rw [fillI, if_neg (by unfold goodT; rw [decide_eq_true_eq]; omega)]) r)
                rw [impl_RowOfTriples.l1, d2, l3, hN, wn, if_pos (by omega), if_pos (by omega), if_pos (by omega), if_pos rfl, if_pos (by decide), Option.bind_some, if_pos rfl, if_pos (by decide), if_neg c1, if_neg c2, if_pos (by decide), if_neg c3, if_pos c4]
              · have e1 : wrap64 (wrap64 (rd t 1 - n) - 1) = rd t 1 - n - 1 := by unfold wrap64; omega
                have e2 : wrap64 (wrap64 (rd t 2 - n) - 1) = rd t 2 - n - 1 := by unfold wrap64; omega
                have g : goodT n p t = true := decide_eq_true ⟨by omega, c0, ⟨by omega, by omega⟩, by omega, by omega⟩
                refine Ev.step (fun k => ?_) (ih (j + 1) ((r.set (rd t 1 - n - 1).toNat (rd t 0)).set (rd t 2 - n - 1).toNat (rd t 0)) d3 (by simp [hr]) (fun z => hno (by rw [fillI, if_pos g]; exact z)) (fun r' hr' => hk r' (by rw [fillI, if_pos g]; exact hr')))
                rw [impl_RowOfTriples.l1, d2, l3, hN, wn, w, e1, e2, if_pos (by omega), if_pos (by omega), if_pos (by omega), if_pos rfl, if_pos (by decide), Option.bind_some, if_pos rfl, if_pos (by decide), if_neg c1, if_neg c2, if_pos (by decide), if_neg c3, if_neg c4, if_pos (by omega), if_pos (by omega), if_pos (by omega), if_pos (by omega)]
      · have hN : impl_isNumber.f (rd t 0) = some false := by
          unfold impl_isNumber.f
          by_cases z : rd t 0 ≥ 1
          · rw [if_pos z, decide_eq_false (by omega)]
          · rw [if_neg z]
        refine Ev.step (fun k => ?_) (hno (by rw [fillI, if_neg (by unfold goodT; rw [decide_eq_true_eq]; omega)]) r)
        rw [impl_RowOfTriples.l1, d2, l3, hN, if_pos (by omega), if_pos (by omega), if_pos (by omega), if_pos rfl, if_pos (by decide), Option.bind_some, if_neg (by decide)]
    · refine Ev.step (fun k => ?_) (hno (by rw [fillI, if_neg (by unfold goodT; rw [decide_eq_true_eq]; omega)]) r)
      rw [impl_RowOfTriples.l1, d2, if_pos (by omega), if_pos (by omega), if_pos (by omega), if_neg l3]
/-- A try's row, where the program takes it. -/
def tryI (n p : Nat) (L : List (List Int)) : Option (List Int) := (fillI n p L (List.replicate p 0)).bind fun r => if (trV r).2 = true ∧ (trV r).1 = L then some r else none
def tryR (o : Option (List Int)) (R : List Int × Bool) : List Int × Bool := match o with | some r => (r, true) | none => R
theorem fillI_length (n p : Nat) : ∀ (T : List (List Int)) (r r' : List Int), fillI n p T r = some r' → r'.length = r.length
  | [], r, r', h => by simp [fillI] at h; rw [h]
  | t :: T, r, r', h => by
    unfold fillI at h
    split at h
    · rw [fillI_length n p T _ r' h]; simp
    · cases h
theorem trV_len (r : List Int) : (trV r).1.length ≤ 1000 := by
  have h := numsL_short r
  unfold trV
  split
  · rw [TL_len]; omega
  · simp
theorem trV_row (r : List Int) : ∀ x ∈ (trV r).1, x.length ≤ 1048576 := by
  intro x hx
  unfold trV at hx
  split at hx
  · obtain ⟨i, _, rfl⟩ := List.mem_map.1 hx
    simp [trip]
  · cases hx
theorem iTry (n p : Nat) (hn : n ≤ 10) (hp : p ≤ 1000) (L : List (List Int)) (hL : L.length ≤ 1000) (ys : List Int) (i : Int) (R : List Int × Bool)
    (hnext : Ev (fun k => impl_RowOfTriples.l0 k L (n : Int) ys ys.length (wrap64 (i + 1))) R) :
    Ev (fun k => impl_RowOfTriples.l1 k L (n : Int) (p : Int) (List.replicate p 0) true ys ys.length i L L.length 0) (tryR (tryI n p L) R) := by
  refine iFill_l1 n p hn hp L hL ys i _ L 0 _ rfl (by simp) (fun e q => ?_) (fun r' e => ?_)
  · rw [show tryI n p L = none by unfold tryI; rw [e]; rfl]
    exact Ev.step (fun k => by rw [impl_RowOfTriples.j2, if_neg (by decide)]) hnext
  · have hl : r'.length ≤ 1048576 := by rw [fillI_length n p L _ r' e]; simp; omega
    have ht : tryI n p L = if (trV r').2 = true ∧ (trV r').1 = L then some r' else none := by unfold tryI; rw [e]; rfl
    rw [ht]
    refine Ev.step (f := fun k => (impl_TriplesOfRow.f k r').bind fun bt235 => (if bt235.2 = true then ((slices_EqualFunc_int_int_int_int.f k bt235.1 L).bind fun t239 => (if t239 = true then (some (r', true)) else (impl_RowOfTriples.l0 k L (n : Int) ys ys.length (wrap64 (i + 1))))) else (impl_RowOfTriples.l0 k L (n : Int) ys ys.length (wrap64 (i + 1))))) (fun k => by rw [impl_RowOfTriples.j2, if_pos rfl]) (Ev.bind (iTriples_ev r' hl) ?_)
    by_cases c : (trV r').2 = true
    · simp only [c, if_true]
      have h1 := trV_len r'
      refine Ev.bind (slEqF_ev (trV r').1 L (by omega) (trV_row r')) ?_
      by_cases d : (trV r').1 = L
      · rw [decide_eq_true d, if_pos ⟨trivial, d⟩]
        simp only [if_true]
        exact Ev.now _
      · rw [decide_eq_false d, if_neg (fun z => d z.2)]
        simp only [Bool.false_eq_true, if_false]
        exact hnext
    · rw [if_neg (fun z => c z.1)]
      simp only [c, if_false]
      exact hnext
theorem iRow_ev (L : List (List Int)) (h1 : 1 ≤ L.length) (h2 : L.length ≤ 10) : Ev (fun k => impl_RowOfTriples.f k L) (tryR (tryI L.length (2 * L.length) L) (tryR (tryI L.length (2 * L.length + 1) L) ([], false))) := by
  obtain ⟨n, hn⟩ : ∃ n, n = L.length := ⟨_, rfl⟩
  rw [← hn] at h1 h2 ⊢
  have w0 : wrap64 (2 * (n : Int)) = ((2 * n : Nat) : Int) := by unfold wrap64; omega
  have w1 : wrap64 (((2 * n : Nat) : Int) + 1) = ((2 * n + 1 : Nat) : Int) := by unfold wrap64; omega
  have hM : impl_isMany.f (n : Int) = some true := by
    unfold impl_isMany.f
    rw [if_pos (by omega), decide_eq_true (by omega)]
  have hf : ∀ k, impl_RowOfTriples.f k L = impl_RowOfTriples.l0 k L (n : Int) [((2 * n : Nat) : Int), ((2 * n + 1 : Nat) : Int)] 2 0 := fun k => by
    unfold impl_RowOfTriples.f
    rw [← hn, hM, w0, w1]
    rfl
  refine Ev.congr hf ?_
  have e3 : Ev (fun k => impl_RowOfTriples.l0 k L (n : Int) [((2 * n : Nat) : Int), ((2 * n + 1 : Nat) : Int)] 2 (wrap64 (1 + 1))) ([], false) := Ev.of1 (fun k => by
    rw [impl_RowOfTriples.l0, if_neg (by unfold wrap64; omega)])
  have e2 : Ev (fun k => impl_RowOfTriples.l0 k L (n : Int) [((2 * n : Nat) : Int), ((2 * n + 1 : Nat) : Int)] 2 (wrap64 (0 + 1))) (tryR (tryI n (2 * n + 1) L) ([], false)) := by
    refine Ev.step (fun k => ?_) (iTry n (2 * n + 1) h2 (by omega) L (by omega) [((2 * n : Nat) : Int), ((2 * n + 1 : Nat) : Int)] 1 _ e3)
    rw [show wrap64 (0 + 1) = 1 by unfold wrap64; omega, impl_RowOfTriples.l0, show rd [((2 * n : Nat) : Int), ((2 * n + 1 : Nat) : Int)] 1 = ((2 * n + 1 : Nat) : Int) from rfl, if_pos (by decide), if_pos (by decide), if_pos (by simp), if_pos (by omega), if_pos (by omega), Int.toNat_natCast, ← hn]
    rfl
  refine Ev.step (fun k => ?_) (iTry n (2 * n) h2 (by omega) L (by omega) [((2 * n : Nat) : Int), ((2 * n + 1 : Nat) : Int)] 0 _ e2)
  rw [impl_RowOfTriples.l0, show rd [((2 * n : Nat) : Int), ((2 * n + 1 : Nat) : Int)] 0 = ((2 * n : Nat) : Int) from rfl, if_pos (by decide), if_pos (by decide), if_pos (by simp), if_pos (by omega), if_pos (by omega), Int.toNat_natCast, ← hn]
  rfl
theorem iRow_no (L : List (List Int)) (h : ¬ (1 ≤ L.length ∧ L.length ≤ 10)) : Ev (fun k => impl_RowOfTriples.f k L) ([], false) := by
  refine Ev.all (fun k => ?_)
  unfold impl_RowOfTriples.f impl_isMany.f
  by_cases c : (L.length : Int) ≥ 1
  · rw [if_pos c, decide_eq_false (by omega)]
    rfl
  · rw [if_neg c]
    rfl
theorem splitP_tri : ∀ (T : List (List Int)) (p : Option (List Int)), splitP p T = true → ∀ t ∈ T, triB t = true
  | [], p, h, t, ht => by cases ht
  | u :: T, p, h, t, ht => by
    unfold splitP at h
    rw [Bool.and_eq_true, Bool.and_eq_true] at h
    rcases List.mem_cons.1 ht with rfl | ht
    · exact h.1
    · exact splitP_tri T (some u) h.2.2 t ht
theorem onceL_mem : ∀ (l : List Int) (M : List Bool), onceFin (onceL l M) = true → ∀ x ∈ l, 0 ≤ x ∧ x < (M.length : Int) ∧ M[x.toNat]? = some true
  | [], M, h, x, hx => by cases hx
  | y :: l, M, h, x, hx => by
    unfold onceL at h
    split at h
    · rename_i c
      have hy : M[y.toNat]? = some true := by
        have h2 := c.2
        unfold rdOf at h2
        rw [List.getD_eq_getElem?_getD] at h2
        cases e : M[y.toNat]? with
        | none => rw [e] at h2; simp at h2
        | some b => rw [e] at h2; simp at h2; rw [h2]
      rcases List.mem_cons.1 hx with rfl | hx
      · exact ⟨c.1.1, by omega, hy⟩
      · have ih := onceL_mem l _ h x hx
        rw [List.length_set, List.getElem?_set] at ih
        refine ⟨ih.1, ih.2.1, ?_⟩
        have h3 := ih.2.2
        split at h3
        · split at h3
          · cases h3
          · cases h3
        · exact h3
    · cases h
theorem marks_last (n : Nat) : (marksL n)[3 * n + 1]? = some false := by
  unfold marksL
  rw [List.getElem?_cons_succ, List.getElem?_append_right (by simp)]
  simp
theorem spl_fits {L : List (List Int)} {hb : Bool} (h : splH L hb = true) : ∀ t ∈ L, fitsIn L.length (if hb = true then 2 * L.length + 1 else 2 * L.length) t := by
  intro t ht
  unfold splH at h
  rw [Bool.and_eq_true] at h
  obtain ⟨a, b, c, rfl, h1, h2, h3, h4⟩ := triB_form (splitP_tri L none h.1 t ht)
  have hc := onceL_mem _ _ h.2 c (List.mem_flatten.2 ⟨[a, b, c], ht, by simp⟩)
  rw [marksH_len] at hc
  refine ⟨rfl, h1, ?_, ?_⟩
  · show b < c
    omega
  · show c ≤ _
    cases hb with
    | true =>
      rw [if_pos rfl]
      omega
    | false =>
      rw [if_neg (by decide)]
      have hne : c.toNat ≠ 3 * L.length + 1 := fun e => by
        have := hc.2.2
        unfold marksH at this
        rw [if_neg (by decide), e, marks_last] at this
        cases this
      omega
theorem sRow_ev' (L : List (List Int)) (h1 : 1 ≤ L.length) (h2 : L.length ≤ 10) (hm : ∀ x ∈ L, x.length ≤ 1048576) :
    Ev (fun k => spec_RowOfTriples.f k L) (if (splH L false || splH L true) = true then fillR (fillL L.length L 0 (List.replicate (if splH L true = true then 2 * L.length + 1 else 2 * L.length) 0)) else ([], false)) := by
  refine sRow_ev L h1 h2 hm (fun hs => ?_)
  by_cases c : splH L true = true
  · rw [if_pos c]
    have := spl_fits c
    rw [if_pos rfl] at this
    exact this
  · rw [if_neg c]
    have d : splH L false = true := by
      cases e : splH L false with
      | true => rfl
      | false => rw [e] at hs; exact absurd hs (by simpa using c)
    have := spl_fits d
    rw [if_neg (by decide)] at this
    exact this
theorem onceFin_iff : ∀ (l : List Int) (M : List Bool), onceFin (onceL l M) = true ↔ (l.Nodup ∧ (∀ x ∈ l, 0 ≤ x) ∧ ∀ k : Nat, (k : Int) ∈ l ↔ M[k]? = some true)
  | [], M => by
    show (M.all fun b => !b) = true ↔ _
    rw [List.all_eq_true]
    constructor
    · intro h
      refine ⟨List.nodup_nil, fun x hx => absurd hx List.not_mem_nil, fun k => ⟨fun hk => absurd hk List.not_mem_nil, fun e => ?_⟩⟩
      have := h true (List.mem_of_getElem? e)
      cases this
    · intro h b hb
      obtain ⟨k, hk⟩ := List.mem_iff_getElem?.1 hb
      cases b with
      | false => rfl
      | true => exact absurd ((h.2.2 k).2 hk) List.not_mem_nil
  | x :: l, M => by
    unfold onceL
    by_cases c : (0 ≤ x ∧ x ≤ (M.length : Int) - 1) ∧ rdOf false M x = true
    · have hx : M[x.toNat]? = some true := by
        have h2 := c.2
        unfold rdOf at h2
        rw [List.getD_eq_getElem?_getD] at h2
        cases e : M[x.toNat]? with
        | none => rw [e] at h2; simp at h2
        | some b => rw [e] at h2; simp at h2; rw [h2]
      have xc : ((x.toNat : Nat) : Int) = x := by omega
      rw [if_pos c, onceFin_iff l (M.set x.toNat false)]
      have hs : ∀ k : Nat, (M.set x.toNat false)[k]? = some true ↔ ((k : Int) ≠ x ∧ M[k]? = some true) := by
        intro k
        rw [List.getElem?_set]
        by_cases e : x.toNat = k
        · rw [if_pos e]
          constructor
          · intro h
            split at h <;> cases h
          · intro h
            exact absurd (by omega) h.1
        · rw [if_neg e]
          exact ⟨fun h => ⟨by omega, h⟩, fun h => h.2⟩
      constructor
      · rintro ⟨h1, h2, h3⟩
        refine ⟨List.nodup_cons.2 ⟨fun hm => ?_, h1⟩, fun y hy => ?_, fun k => ?_⟩
        · have := (h3 x.toNat).1 (by rw [xc]; exact hm)
          exact ((hs _).1 this).1 xc
        · rcases List.mem_cons.1 hy with rfl | hy
          · exact c.1.1
          · exact h2 y hy
        · rw [List.mem_cons, h3 k, hs k]
          constructor
          · rintro (h | h)
            · have : k = x.toNat := by omega
              rw [this]
              exact hx
            · exact h.2
          · intro h
            by_cases e : (k : Int) = x
            · exact .inl e
            · exact .inr ⟨e, h⟩
      · rintro ⟨h1, h2, h3⟩
        have h1 := List.nodup_cons.1 h1
        refine ⟨h1.2, fun y hy => h2 y (List.mem_cons_of_mem _ hy), fun k => ?_⟩
        rw [hs k, ← h3 k, List.mem_cons]
        constructor
        · intro h
          exact ⟨fun e => h1.1 (e ▸ h), .inr h⟩
        · rintro ⟨h, h' | h'⟩
          · exact absurd h' h
          · exact h'
    · rw [if_neg c]
      constructor
      · intro h
        cases h
      · rintro ⟨h1, h2, h3⟩
        exfalso
        apply c
        have hx0 := h2 x List.mem_cons_self
        have e := (h3 x.toNat).1 (by rw [show ((x.toNat : Nat) : Int) = x by omega]; exact List.mem_cons_self)
        have hl : x.toNat < M.length := (List.getElem?_eq_some_iff.1 e).1
        refine ⟨⟨hx0, by omega⟩, ?_⟩
        unfold rdOf
        rw [List.getD_eq_getElem?_getD, e]
        rfl
theorem marksL_at (n k : Nat) : (marksL n)[k]? = some true ↔ (1 ≤ k ∧ k ≤ 3 * n) := by
  unfold marksL
  cases k with
  | zero => simp
  | succ k =>
    rw [List.getElem?_cons_succ]
    by_cases c : k < 3 * n
    · rw [List.getElem?_append_left (by simpa using c), List.getElem?_replicate, if_pos c]
      exact ⟨fun _ => ⟨by omega, by omega⟩, fun _ => rfl⟩
    · rw [List.getElem?_append_right (by simp; omega)]
      constructor
      · intro h
        have := List.mem_of_getElem? h
        simp at this
      · intro h
        omega
theorem marksH_at (n : Nat) (hb : Bool) (h1 : 1 ≤ n) (k : Nat) : (marksH n hb)[k]? = some true ↔ (1 ≤ k ∧ (if hb = true then (k < 3 * n ∨ k = 3 * n + 1) else k ≤ 3 * n)) := by
  have hl : (marksL n).length = 3 * n + 2 := by simp [marksL]
  unfold marksH
  cases hb with
  | false =>
    rw [if_neg (by decide), if_neg (by decide)]
    exact marksL_at n k
  | true =>
    rw [if_pos rfl, if_pos rfl, List.getElem?_set]
    by_cases c : 3 * n + 1 = k
    · rw [if_pos c, if_pos (by simp [hl])]
      exact ⟨fun _ => ⟨by omega, by omega⟩, fun _ => rfl⟩
    · rw [if_neg c, List.getElem?_set]
      by_cases d : 3 * n = k
      · rw [if_pos d, if_pos (by omega)]
        constructor
        · intro h
          cases h
        · intro h
          omega
      · rw [if_neg d, marksL_at]
        omega
theorem places_mem (x y : Int) : ∀ (r : List Int) (i : Nat), y ∈ placesFrom x r i ↔ ∃ j : Nat, r[j]? = some x ∧ y = ((i + j : Nat) : Int)
  | [], i => by simp [placesFrom]
  | z :: r, i => by
    have ih := places_mem x y r (i + 1)
    unfold placesFrom
    by_cases c : z = x
    · rw [if_pos c, List.mem_cons, ih]
      constructor
      · rintro (h | ⟨j, h1, h2⟩)
        · exact ⟨0, by simp [c], by simpa using h⟩
        · exact ⟨j + 1, by simpa using h1, by omega⟩
      · rintro ⟨j, h1, h2⟩
        cases j with
        | zero => exact .inl (by simpa using h2)
        | succ j => exact .inr ⟨j, by simpa using h1, by omega⟩
    · rw [if_neg c, ih]
      constructor
      · rintro ⟨j, h1, h2⟩
        exact ⟨j + 1, by simpa using h1, by omega⟩
      · rintro ⟨j, h1, h2⟩
        cases j with
        | zero =>
          simp at h1
          exact absurd h1 c
        | succ j => exact ⟨j, by simpa using h1, by omega⟩
theorem places_none (x : Int) (r : List Int) (i : Nat) (h : ∀ j : Nat, r[j]? ≠ some x) : placesFrom x r i = [] := by
  rw [List.eq_nil_iff_forall_not_mem]
  intro y hy
  obtain ⟨j, h1, _⟩ := (places_mem x y r i).1 hy
  exact h j h1
theorem places_one (x : Int) : ∀ (r : List Int) (i u : Nat), r[u]? = some x → (∀ j : Nat, r[j]? = some x → j = u) → placesFrom x r i = [((i + u : Nat) : Int)]
  | [], i, u, h, _ => by simp at h
  | z :: r, i, u, h, ha => by
    unfold placesFrom
    by_cases c : z = x
    · have hu : 0 = u := ha 0 (by simp [c])
      subst hu
      rw [if_pos c, places_none x r (i + 1) (fun j hj => by have := ha (j + 1) (by simpa using hj); omega)]
      rfl
    · cases u with
      | zero =>
        simp at h
        exact absurd h c
      | succ u =>
        rw [if_neg c, places_one x r (i + 1) u (by simpa using h) (fun j hj => by have := ha (j + 1) (by simpa using hj); omega), show i + 1 + u = i + (u + 1) by omega]
theorem places_two (x : Int) : ∀ (r : List Int) (i u v : Nat), u < v → r[u]? = some x → r[v]? = some x → (∀ j : Nat, r[j]? = some x → j = u ∨ j = v) → placesFrom x r i = [((i + u : Nat) : Int), ((i + v : Nat) : Int)]
  | [], i, u, v, _, h, _, _ => by simp at h
  | z :: r, i, u, v, huv, h, h', ha => by
    obtain ⟨v, rfl⟩ : ∃ w, v = w + 1 := ⟨v - 1, by omega⟩
    unfold placesFrom
    by_cases c : z = x
    · have hu : u = 0 := by have := ha 0 (by simp [c]); omega
      subst hu
      rw [if_pos c, places_one x r (i + 1) v (by simpa using h') (fun j hj => by have := ha (j + 1) (by simpa using hj); omega), show i + 1 + v = i + (v + 1) by omega]
      rfl
    · cases u with
      | zero =>
        simp at h
        exact absurd h c
      | succ u =>
        rw [if_neg c, places_two x r (i + 1) u v (by omega) (by simpa using h) (by simpa using h') (fun j hj => by have := ha (j + 1) (by simpa using hj); omega), show i + 1 + u = i + (u + 1) by omega, show i + 1 + v = i + (v + 1) by omega]
/-- The cells that a triple writes. -/
def P1 (n : Nat) (t : List Int) : Nat := (rd t 1 - n - 1).toNat
def P2 (n : Nat) (t : List Int) : Nat := (rd t 2 - n - 1).toNat
def apart (n : Nat) (t u : List Int) : Prop := P1 n t ≠ P1 n u ∧ P1 n t ≠ P2 n u ∧ P2 n t ≠ P1 n u ∧ P2 n t ≠ P2 n u
theorem fillL_firsts (n : Nat) : ∀ (T : List (List Int)) (i : Nat) (r r' : List Int), fillL n T i r = some r' → ∀ (m : Nat) (t : List Int), T[m]? = some t → rd t 0 = ((i + m + 1 : Nat) : Int) ∧ (n : Int) < rd t 1
  | [], i, r, r', h, m, t, ht => by simp at ht
  | u :: T, i, r, r', h, m, t, ht => by
    unfold fillL at h
    split at h
    · rename_i c0
      split at h
      · cases h
      · rename_i c1
        cases m with
        | zero =>
          simp at ht
          subst ht
          exact ⟨c0, by omega⟩
        | succ m =>
          have := fillL_firsts n T (i + 1) _ r' h m t (by simpa using ht)
          rw [show i + (m + 1) + 1 = i + 1 + m + 1 by omega]
          exact this
    · cases h
theorem fillL_cells (n : Nat) : ∀ (T : List (List Int)) (i : Nat) (r r' : List Int), fillL n T i r = some r' → (∀ t ∈ T, P1 n t < r.length ∧ P2 n t < r.length) → T.Pairwise (apart n) →
    (∀ t ∈ T, r'[P1 n t]? = some (rd t 0) ∧ r'[P2 n t]? = some (rd t 0)) ∧ (∀ j : Nat, (∀ t ∈ T, j ≠ P1 n t ∧ j ≠ P2 n t) → r'[j]? = r[j]?)
  | [], i, r, r', h, _, _ => by
    simp [fillL] at h
    subst h
    exact ⟨fun t ht => absurd ht List.not_mem_nil, fun j _ => rfl⟩
  | u :: T, i, r, r', h, hl, hp => by
    have hp' := List.pairwise_cons.1 hp
    unfold fillL at h
    split at h
    · split at h
      · cases h
      · have h' : fillL n T (i + 1) ((r.set (P1 n u) (rd u 0)).set (P2 n u) (rd u 0)) = some r' := h
        have hu := hl u List.mem_cons_self
        obtain ⟨a1, a2⟩ := fillL_cells n T (i + 1) _ r' h' (fun t ht => by simpa using hl t (List.mem_cons_of_mem _ ht)) hp'.2
        refine ⟨fun t ht => ?_, fun j hj => ?_⟩
        · rcases List.mem_cons.1 ht with rfl | ht
          · have b1 := a2 (P1 n t) (fun v hv => ⟨(hp'.1 v hv).1, (hp'.1 v hv).2.1⟩)
            have b2 := a2 (P2 n t) (fun v hv => ⟨(hp'.1 v hv).2.2.1, (hp'.1 v hv).2.2.2⟩)
            rw [b1, b2]
            constructor
            · rw [List.getElem?_set]
              split
              · rename_i e
                rw [if_pos (by simpa using hu.2)]
              · rw [List.getElem?_set, if_pos rfl, if_pos hu.1]
            · rw [List.getElem?_set, if_pos rfl, if_pos (by simpa using hu.2)]
          · exact a1 t ht
        · have hj0 := hj u List.mem_cons_self
          rw [a2 j (fun t ht => hj t (List.mem_cons_of_mem _ ht)), List.getElem?_set, if_neg (fun e => hj0.2 e.symm), List.getElem?_set, if_neg (fun e => hj0.1 e.symm)]
    · cases h
theorem fillL_fillI (n p : Nat) : ∀ (T : List (List Int)) (i : Nat) (r r' : List Int), fillL n T i r = some r' → (∀ t ∈ T, t.length = 3 ∧ rd t 1 < rd t 2 ∧ rd t 2 ≤ ((n + p : Nat) : Int)) → i + T.length ≤ 20 → fillI n p T r = some r'
  | [], i, r, r', h, _, _ => h
  | u :: T, i, r, r', h, hl, hi => by
    have hu := hl u List.mem_cons_self
    have hi' : i + (T.length + 1) ≤ 20 := by simpa using hi
    unfold fillL at h
    split at h
    · rename_i c0
      split at h
      · cases h
      · rename_i c1
        unfold fillI
        rw [if_pos (by unfold goodT; rw [decide_eq_true_eq]; omega)]
        exact fillL_fillI n p T (i + 1) _ r' h (fun t ht => hl t (List.mem_cons_of_mem _ ht)) (by omega)
    · cases h
theorem fillI_fillL (n p : Nat) : ∀ (T : List (List Int)) (i : Nat) (r r' : List Int), fillI n p T r = some r' → (∀ (m : Nat) (t : List Int), T[m]? = some t → rd t 0 = ((i + m + 1 : Nat) : Int)) → fillL n T i r = some r'
  | [], i, r, r', h, _ => h
  | u :: T, i, r, r', h, hf => by
    unfold fillI at h
    split at h
    · rename_i g
      unfold goodT at g
      rw [decide_eq_true_eq] at g
      have h0 := hf 0 u rfl
      unfold fillL
      rw [if_pos (by simpa using h0), if_neg (by omega)]
      refine fillI_fillL n p T (i + 1) _ r' h (fun m t ht => ?_)
      rw [hf (m + 1) t (by simpa using ht), show i + (m + 1) + 1 = i + 1 + m + 1 by omega]
    · cases h
theorem numsFrom_up (xs : List Int) (n : Nat) : ∀ r a, (∀ m : Nat, a ≤ m → m < a + r → hasB (m : Int) xs = decide (m ≤ n)) → n < a + r → numsFrom xs r a = (List.range' a (n + 1 - a)).map (fun (m : Nat) => (m : Int))
  | 0, a, h, h2 => by
    rw [show n + 1 - a = 0 by omega]
    rfl
  | r + 1, a, h, h2 => by
    have ih := numsFrom_up xs n r (a + 1) (fun m hm hm' => h m (by omega) (by omega)) (by omega)
    unfold numsFrom
    by_cases c : a ≤ n
    · rw [if_pos (by rw [h a (by omega) (by omega)]; exact decide_eq_true c), ih, show n + 1 - a = (n + 1 - (a + 1)) + 1 by omega, List.range'_succ, List.map_cons]
    · rw [if_neg (by rw [h a (by omega) (by omega), decide_eq_false c]; decide), ih, show n + 1 - (a + 1) = 0 by omega, show n + 1 - a = 0 by omega]
      rfl
theorem fromB_up : ∀ k i, i + k ≤ 1000 → fromB 1 ((List.range' (i + 1) k).map (fun (m : Nat) => (m : Int))) i = true
  | 0, i, h => rfl
  | k + 1, i, h => by
    rw [List.range'_succ, List.map_cons, fromB, Bool.and_eq_true]
    exact ⟨decide_eq_true (by unfold wrap64; omega), fromB_up k (i + 1) (by omega)⟩
theorem fillL_length (n : Nat) : ∀ (T : List (List Int)) (i : Nat) (r r' : List Int), fillL n T i r = some r' → r'.length = r.length
  | [], i, r, r', h => by simp [fillL] at h; rw [h]
  | t :: T, i, r, r', h => by
    unfold fillL at h
    split at h
    · split at h
      · cases h
      · rw [fillL_length n T (i + 1) _ r' h]; simp
    · cases h
theorem three_of {t : List Int} (e : t = [rd t 0, rd t 1, rd t 2]) : t.length = 3 ∧ rd t 1 ∈ t ∧ rd t 2 ∈ t ∧ ∀ k, k ∈ t → k = rd t 0 ∨ k = rd t 1 ∨ k = rd t 2 := by
  have h : t.length = 3 := by rw [e]; rfl
  obtain ⟨a, b, c, rfl⟩ : ∃ a b c, t = [a, b, c] := by
    match t, h with
    | [a, b, c], _ => exact ⟨a, b, c, rfl⟩
  have f0 : rd [a, b, c] 0 = a := rfl
  have f1 : rd [a, b, c] 1 = b := rfl
  have f2 : rd [a, b, c] 2 = c := rfl
  rw [f0, f1, f2]
  exact ⟨rfl, by simp, by simp, fun k hk => by simpa using hk⟩
/-- The length of a try's row. -/
def pOf (n : Nat) (hb : Bool) : Nat := if hb = true then 2 * n + 1 else 2 * n
theorem tryI_of (n : Nat) (hb : Bool) (L : List (List Int)) (hn1 : 1 ≤ n) (hn2 : n ≤ 10) (hL : L.length = n) (h : splH L hb = true) (r : List Int) (hr : fillL n L 0 (List.replicate (pOf n hb) 0) = some r) : tryI n (pOf n hb) L = some r := by
  obtain ⟨p, hp⟩ : ∃ p, p = pOf n hb := ⟨_, rfl⟩
  rw [← hp] at hr ⊢
  have hp2 : p ≤ 2 * n + 1 := by rw [hp]; unfold pOf; split <;> omega
  have hf := spl_fits h
  have hs : splitP none L = true ∧ onceFin (onceL L.flatten (marksH n hb)) = true := by
    unfold splH at h
    rw [Bool.and_eq_true, hL] at h
    exact h
  have tri := splitP_tri L none hs.1
  obtain ⟨o1, o2, o3⟩ := (onceFin_iff _ _).1 hs.2
  have o3 := fun k => (o3 k).trans (marksH_at n hb hn1 k)
  have first := fillL_firsts n L 0 _ r hr
  have hlen : r.length = p := by rw [fillL_length n L 0 _ r hr]; simp
  have ft : ∀ t ∈ L, ∃ m : Nat, m < n ∧ L[m]? = some t ∧ rd t 0 = ((m + 1 : Nat) : Int) ∧ (n : Int) < rd t 1 ∧ rd t 1 < rd t 2 ∧ rd t 2 ≤ ((n + p : Nat) : Int) ∧ rd t 0 + rd t 1 = rd t 2 ∧ t = [rd t 0, rd t 1, rd t 2] := by
    intro t ht
    obtain ⟨m, hm⟩ := List.mem_iff_getElem?.1 ht
    have hml : m < L.length := (List.getElem?_eq_some_iff.1 hm).1
    have h0 := first m t hm
    obtain ⟨f1, f2, f3, f4⟩ := hf t ht
    obtain ⟨a, b, c, rfl, g1, g2, g3, g4⟩ := triB_form (tri t ht)
    refine ⟨m, by omega, hm, by rw [h0.1]; omega, h0.2, f3, ?_, g3, rfl⟩
    rw [hL] at f4
    rw [hp]
    exact f4
  have hL0 : ∀ t ∈ L, P1 n t < (List.replicate p (0 : Int)).length ∧ P2 n t < (List.replicate p (0 : Int)).length := by
    intro t ht
    obtain ⟨m, _, _, _, h1, h2, h3, _⟩ := ft t ht
    rw [List.length_replicate]
    unfold P1 P2
    omega
  have hap : L.Pairwise (apart n) := by
    refine List.Pairwise.imp_of_mem ?_ (List.pairwise_flatten.1 o1).2
    intro t u ht hu hd
    obtain ⟨m, _, _, _, h1, h2, h3, _, e1⟩ := ft t ht
    obtain ⟨m', _, _, _, h1', h2', h3', _, e2⟩ := ft u hu
    obtain ⟨_, m1, m2, _⟩ := three_of e1
    obtain ⟨_, m3, m4, _⟩ := three_of e2
    have d1 := hd _ m1 _ m3
    have d2 := hd _ m1 _ m4
    have d3 := hd _ m2 _ m3
    have d4 := hd _ m2 _ m4
    unfold apart P1 P2
    omega
  obtain ⟨a1, a2⟩ := fillL_cells n L 0 _ r hr hL0 hap
  have cls : ∀ (j : Nat) (y : Int), r[j]? = some y → (∃ t ∈ L, (j = P1 n t ∨ j = P2 n t) ∧ y = rd t 0) ∨ (y = 0 ∧ j < p ∧ ∀ t ∈ L, j ≠ P1 n t ∧ j ≠ P2 n t) := by
    intro j y hj
    by_cases c : ∃ t ∈ L, j = P1 n t ∨ j = P2 n t
    · obtain ⟨t, ht, hc⟩ := c
      refine .inl ⟨t, ht, hc, ?_⟩
      have ha := a1 t ht
      rcases hc with rfl | rfl
      · rw [ha.1] at hj
        exact (Option.some.inj hj).symm
      · rw [ha.2] at hj
        exact (Option.some.inj hj).symm
    · have hc : ∀ t ∈ L, j ≠ P1 n t ∧ j ≠ P2 n t := fun t ht => ⟨fun e => c ⟨t, ht, .inl e⟩, fun e => c ⟨t, ht, .inr e⟩⟩
      have hjl : j < r.length := (List.getElem?_eq_some_iff.1 hj).1
      rw [a2 j hc, List.getElem?_replicate, if_pos (by omega)] at hj
      exact .inr ⟨(Option.some.inj hj).symm, by omega, hc⟩
  have two : ∀ t ∈ L, placesFrom (rd t 0) r 0 = [rd t 1 - n - 1, rd t 2 - n - 1] := by
    intro t ht
    obtain ⟨m, hm, hmt, e0, h1, h2, h3, _⟩ := ft t ht
    have ha := a1 t ht
    rw [places_two (rd t 0) r 0 (P1 n t) (P2 n t) (by unfold P1 P2; omega) ha.1 ha.2 (fun j hj => ?_)]
    · unfold P1 P2
      rw [show ((0 + (rd t 1 - n - 1).toNat : Nat) : Int) = rd t 1 - n - 1 by omega, show ((0 + (rd t 2 - n - 1).toNat : Nat) : Int) = rd t 2 - n - 1 by omega]
    · rcases cls j _ hj with ⟨u, hu, hju, e⟩ | ⟨e, _⟩
      · obtain ⟨m', hm', hmu, e0', _⟩ := ft u hu
        have : m' = m := by omega
        subst this
        rw [hmt] at hmu
        cases hmu
        exact hju
      · omega
  have at_ : ∀ m : Nat, m < n → ∃ t ∈ L, L[m]? = some t ∧ rd t 0 = ((m + 1 : Nat) : Int) := by
    intro m hm
    have e : L[m]? = some (L[m]'(by omega)) := List.getElem?_eq_getElem _
    refine ⟨_, List.mem_of_getElem? e, e, ?_⟩
    rw [(first m _ e).1]
    omega
  have none_ : ∀ m : Nat, n < m → placesFrom (m : Int) r 0 = [] := by
    intro m hm
    refine places_none _ r 0 (fun j hj => ?_)
    rcases cls j _ hj with ⟨u, hu, hju, e⟩ | ⟨e, _⟩
    · obtain ⟨m', hm', hmu, e0', _⟩ := ft u hu
      omega
    · omega
  have nums : numsL r = (List.range' 1 n).map (fun (m : Nat) => (m : Int)) := by
    have := numsFrom_up r n 20 1 (fun m h1 h2 => ?_) (by omega)
    · unfold numsL
      rw [this, show n + 1 - 1 = n by omega]
    · rw [hasB_places (m : Int) r 0]
      by_cases c : m ≤ n
      · obtain ⟨t, ht, _, e⟩ := at_ (m - 1) (by omega)
        have e2 := two t ht
        rw [e, show ((m - 1 + 1 : Nat) : Int) = (m : Int) by omega] at e2
        rw [e2, decide_eq_true c]
        rfl
      · rw [none_ m (by omega), decide_eq_false c]
        rfl
  have numsn : (numsL r).length = n := by rw [nums]; simp
  have hisB : isB r = true := by
    unfold isB
    rw [Bool.and_eq_true, rowB_iff, pBf_iff]
    refine ⟨⟨by omega, fun x hx => ?_⟩, fun m h1 h2 => ?_⟩
    · obtain ⟨j, hj⟩ := List.mem_iff_getElem?.1 hx
      rcases cls j _ hj with ⟨u, hu, hju, e⟩ | ⟨e, _⟩
      · obtain ⟨m', hm', hmu, e0', _⟩ := ft u hu
        omega
      · omega
    · by_cases c : m ≤ n
      · obtain ⟨t, ht, _, e⟩ := at_ (m - 1) (by omega)
        have e2 := two t ht
        rw [e, show ((m - 1 + 1 : Nat) : Int) = (m : Int) by omega] at e2
        rw [e2]
        exact .inr rfl
      · rw [none_ m (by omega)]
        exact .inl rfl
  have hfit : fitL r 0 (numsL r) = true := by
    rw [fitL_iff, nums]
    intro x hx
    obtain ⟨m, hm, rfl⟩ := List.mem_map.1 hx
    have hm := List.mem_range'_1.1 hm
    obtain ⟨t, ht, _, e⟩ := at_ (m - 1) (by omega)
    obtain ⟨_, _, _, _, h1, h2, h3, h4, _⟩ := ft t ht
    have e2 := two t ht
    rw [e, show ((m - 1 + 1 : Nat) : Int) = (m : Int) by omega] at e2
    rw [e2]
    show wrap64 (rd t 2 - n - 1 - (rd t 1 - n - 1)) = _
    congr 1
    omega
  have hfrom : fromB 1 (numsL r) 0 = true := by rw [nums]; exact fromB_up n 0 (by omega)
  have inL : ∀ k : Nat, n < k → (k : Int) ∈ L.flatten → ∃ t ∈ L, k - n - 1 = P1 n t ∨ k - n - 1 = P2 n t := by
    intro k hk hm
    obtain ⟨t, ht, hkt⟩ := List.mem_flatten.1 hm
    obtain ⟨m, hm, _, e0, h1, h2, h3, h4, e⟩ := ft t ht
    refine ⟨t, ht, ?_⟩
    have := (three_of e).2.2.2 _ hkt
    unfold P1 P2
    omega
  have hk : (hkB r || skB r) = true := by
    cases hb with
    | false =>
      have hp' : p = 2 * n := hp
      have h0 : placesFrom 0 r 0 = [] := by
        refine places_none _ r 0 (fun j hj => ?_)
        rcases cls j _ hj with ⟨u, hu, hju, e⟩ | ⟨_, e1, e2⟩
        · obtain ⟨m', hm', hmu, e0', _⟩ := ft u hu
          omega
        · obtain ⟨t, ht, hc⟩ := inL (j + n + 1) (by omega) ((o3 _).2 ⟨by omega, by rw [if_neg (by decide)]; omega⟩)
          rw [show j + n + 1 - n - 1 = j by omega] at hc
          rcases hc with hc | hc
          · exact (e2 t ht).1 hc
          · exact (e2 t ht).2 hc
      rw [Bool.or_eq_true]
      refine .inr ?_
      unfold skB
      rw [hfit, hfrom, h0, decide_eq_true (by omega)]
      rfl
    | true =>
      have hp' : p = 2 * n + 1 := hp
      have hno : ∀ t ∈ L, 2 * n - 1 ≠ P1 n t ∧ 2 * n - 1 ≠ P2 n t := by
        intro t ht
        obtain ⟨m, hm, _, e0, h1, h2, h3, h4, e⟩ := ft t ht
        obtain ⟨_, m1, m2, _⟩ := three_of e
        have z : ¬ (((3 * n : Nat) : Int) ∈ L.flatten) := by
          rw [o3, if_pos rfl]
          omega
        constructor
        · intro ec
          refine z (List.mem_flatten.2 ⟨t, ht, ?_⟩)
          unfold P1 at ec
          rw [show ((3 * n : Nat) : Int) = rd t 1 by omega]
          exact m1
        · intro ec
          refine z (List.mem_flatten.2 ⟨t, ht, ?_⟩)
          unfold P2 at ec
          rw [show ((3 * n : Nat) : Int) = rd t 2 by omega]
          exact m2
      have h0 : placesFrom 0 r 0 = [((0 + (2 * n - 1) : Nat) : Int)] := by
        refine places_one 0 r 0 (2 * n - 1) ?_ (fun j hj => ?_)
        · rw [a2 _ hno, List.getElem?_replicate, if_pos (by omega)]
        · rcases cls j _ hj with ⟨u, hu, hju, e⟩ | ⟨_, e1, e2⟩
          · obtain ⟨m', hm', hmu, e0', _⟩ := ft u hu
            omega
          · refine Classical.byContradiction fun ne => ?_
            obtain ⟨t, ht, hc⟩ := inL (j + n + 1) (by omega) ((o3 _).2 ⟨by omega, by rw [if_pos rfl]; omega⟩)
            rw [show j + n + 1 - n - 1 = j by omega] at hc
            rcases hc with hc | hc
            · exact (e2 t ht).1 hc
            · exact (e2 t ht).2 hc
      rw [Bool.or_eq_true]
      refine .inl ?_
      have hw : wrap64 ((r.length : Int) - 2) = ((0 + (2 * n - 1) : Nat) : Int) := by unfold wrap64; omega
      unfold hkB
      rw [hfit, hfrom, h0, hw, decide_eq_true (show ((numsL r).length : Int) > 0 by omega), Bool.true_and, Bool.true_and, Bool.and_eq_true]
      exact ⟨rfl, beq_iff_eq.2 rfl⟩
  have htr : trB r = true := by
    unfold trB
    rw [hisB, hk, numsn, decide_eq_true hn2]
    rfl
  have hTL : TL r n n = L := by
    refine List.ext_getElem? (fun m => ?_)
    by_cases c : m < n
    · obtain ⟨t, ht, hmt, e⟩ := at_ m c
      obtain ⟨_, _, _, _, h1, h2, h3, _, et⟩ := ft t ht
      have e2 := two t ht
      rw [hmt]
      unfold TL
      rw [List.getElem?_map, List.getElem?_range c, Option.map_some]
      congr 1
      unfold trip
      rw [e] at e2
      rw [show (m : Int) + 1 = ((m + 1 : Nat) : Int) by omega, e2]
      show [((m + 1 : Nat) : Int), wrap64 (wrap64 (rd t 1 - n - 1 + n) + 1), wrap64 (wrap64 (rd t 2 - n - 1 + n) + 1)] = t
      rw [show wrap64 (wrap64 (rd t 1 - n - 1 + n) + 1) = rd t 1 by unfold wrap64; omega, show wrap64 (wrap64 (rd t 2 - n - 1 + n) + 1) = rd t 2 by unfold wrap64; omega, ← e]
      exact et.symm
    · rw [List.getElem?_eq_none (by rw [TL_len]; omega), List.getElem?_eq_none (by omega)]
  have hI : fillI n p L (List.replicate p 0) = some r := by
    refine fillL_fillI n p L 0 _ r hr (fun t ht => ?_) (by omega)
    obtain ⟨_, _, _, _, h1, h2, h3, _, et⟩ := ft t ht
    exact ⟨(three_of et).1, h2, h3⟩
  unfold tryI
  rw [hI, Option.bind_some]
  unfold trV
  rw [if_pos htr, numsn, hTL, if_pos ⟨rfl, rfl⟩]
theorem wtwo {a b : Int} (h0 : -1000 ≤ a) (h1 : a ≤ 1000) (h2 : -1000 ≤ b) (h3 : b ≤ 1000) : wrap64 (wrap64 (a + b) + 1) = a + b + 1 := by
  rw [show wrap64 (a + b) = a + b by unfold wrap64; omega]
  unfold wrap64
  omega
theorem spl_of (n : Nat) (hb : Bool) (L : List (List Int)) (hn1 : 1 ≤ n) (hn2 : n ≤ 10) (hL : L.length = n) (r : List Int) (h : tryI n (pOf n hb) L = some r) : splH L hb = true ∧ fillL n L 0 (List.replicate (pOf n hb) 0) = some r := by
  obtain ⟨p, hp⟩ : ∃ p, p = pOf n hb := ⟨_, rfl⟩
  rw [← hp] at h ⊢
  have hp2 : p ≤ 2 * n + 1 ∧ 2 * n ≤ p := by rw [hp]; unfold pOf; split <;> omega
  unfold tryI at h
  cases e : fillI n p L (List.replicate p 0) with
  | none => rw [e] at h; cases h
  | some r' =>
    rw [e, Option.bind_some] at h
    split at h
    · rename_i c
      cases h
      have htr : trB r = true := by
        refine Classical.byContradiction fun z => ?_
        have := c.1
        unfold trV at this
        rw [if_neg z] at this
        cases this
      have hTL := c.2
      unfold trV at hTL
      rw [if_pos htr] at hTL
      have htr' := htr
      unfold trB at htr'
      rw [Bool.and_eq_true, Bool.and_eq_true] at htr'
      obtain ⟨hisB, hk, _⟩ := htr'
      have hm : (numsL r).length = n := by
        rw [← hL, ← hTL, TL_len]
      rw [hm] at hTL
      have hfrom := (either_parts hk).1
      have hlen : r.length = p := by rw [fillI_length n p L _ r e]; simp
      have hcount := isB_count hisB
      have hfit : fitL r 0 (numsL r) = true := by
        rw [Bool.or_eq_true] at hk
        rcases hk with hk | hk
        · unfold hkB at hk
          rw [Bool.and_eq_true] at hk
          exact hk.1
        · unfold skB at hk
          rw [Bool.and_eq_true] at hk
          exact hk.1
      have pl : ∀ m : Nat, 1 ≤ m → m ≤ n → ∃ u v : Nat, placesFrom (m : Int) r 0 = [(u : Int), (v : Int)] ∧ v = u + m ∧ v < p ∧ r[u]? = some (m : Int) ∧ r[v]? = some (m : Int) := by
        intro m h1 h2
        have hmem := fromB_mem hfrom h1 (by omega)
        obtain ⟨u, v, e2⟩ := len_two (numsL_two hisB hmem)
        have hw := (fitL_iff r 0 _).1 hfit _ hmem
        rw [e2] at hw
        have hu := (places_mem (m : Int) u r 0).1 (by rw [e2]; simp)
        have hv := (places_mem (m : Int) v r 0).1 (by rw [e2]; simp)
        obtain ⟨u', hu1, hu2⟩ := hu
        obtain ⟨v', hv1, hv2⟩ := hv
        have lu := (List.getElem?_eq_some_iff.1 hu1).1
        have lv := (List.getElem?_eq_some_iff.1 hv1).1
        have hw' : wrap64 (v - u) = wrap64 ((m : Int) + 0) := hw
        unfold wrap64 at hw'
        refine ⟨u', v', by rw [e2, hu2, hv2, Nat.zero_add, Nat.zero_add], by omega, by omega, hu1, hv1⟩
      have htrip : ∀ m : Nat, m < n → ∃ u v : Nat, trip r n ((m : Int) + 1) = [((m + 1 : Nat) : Int), ((u + n + 1 : Nat) : Int), ((v + n + 1 : Nat) : Int)] ∧ v = u + (m + 1) ∧ v < p ∧ r[u]? = some ((m + 1 : Nat) : Int) ∧ r[v]? = some ((m + 1 : Nat) : Int) ∧ placesFrom ((m + 1 : Nat) : Int) r 0 = [(u : Int), (v : Int)] := by
        intro m hmn
        obtain ⟨u, v, e2, h1, h2, h3, h4⟩ := pl (m + 1) (by omega) (by omega)
        refine ⟨u, v, ?_, h1, h2, h3, h4, e2⟩
        unfold trip
        rw [show (m : Int) + 1 = ((m + 1 : Nat) : Int) by omega, e2]
        show [((m + 1 : Nat) : Int), wrap64 (wrap64 ((u : Int) + n) + 1), wrap64 (wrap64 ((v : Int) + n) + 1)] = _
        rw [wtwo (by omega) (by omega) (by omega) (by omega), wtwo (by omega) (by omega) (by omega) (by omega), show ((u + n + 1 : Nat) : Int) = (u : Int) + n + 1 by omega, show ((v + n + 1 : Nat) : Int) = (v : Int) + n + 1 by omega]
      have nz : ∀ (j : Nat) (y : Int), r[j]? = some y → y ≠ 0 → ∃ m : Nat, m < n ∧ y = ((m + 1 : Nat) : Int) := by
        intro j y hj hy
        have hmem := List.mem_of_getElem? hj
        have hb2 := isB_rng hisB y hmem
        have hy2 : y ∈ numsL r := (numsFrom_mem r y 20 1).2 ⟨y.toNat, by omega, by omega, by omega, by
          rw [show ((y.toNat : Nat) : Int) = y by omega]
          unfold hasB
          rw [List.any_eq_true]
          exact ⟨y, hmem, decide_eq_true rfl⟩⟩
        obtain ⟨i, hi⟩ := List.mem_iff_getElem?.1 hy2
        obtain ⟨hil, hi⟩ := List.getElem?_eq_some_iff.1 hi
        have := fromB_at 1 (numsL r) 0 hfrom i hil
        rw [hi] at this
        refine ⟨i, by omega, ?_⟩
        rw [this]
        unfold wrap64
        omega
      have zs : ∀ j : Nat, r[j]? = some 0 ↔ (hb = true ∧ j = 2 * n - 1) := by
        intro j
        have hj : r[j]? = some 0 ↔ (j : Int) ∈ placesFrom 0 r 0 := by
          rw [places_mem]
          constructor
          · intro hj
            exact ⟨j, hj, by omega⟩
          · rintro ⟨j', hj', e⟩
            rw [show j = j' by omega]
            exact hj'
        rw [hj]
        cases hb with
        | false =>
          have hp' : p = 2 * n := hp
          have : placesFrom 0 r 0 = [] := List.eq_nil_of_length_eq_zero (by omega)
          rw [this]
          simp
        | true =>
          have hp' : p = 2 * n + 1 := hp
          have hkk : hkB r = true := by
            rw [Bool.or_eq_true] at hk
            rcases hk with hk | hk
            · exact hk
            · have := (skB_parts hk).2.2
              omega
          unfold hkB at hkk
          simp only [Bool.and_eq_true, decide_eq_true_eq, beq_iff_eq] at hkk
          obtain ⟨_, _, l1, l2⟩ := hkk
          obtain ⟨z, hz⟩ : ∃ z, placesFrom 0 r 0 = [z] := List.length_eq_one_iff.1 (by omega)
          rw [hz] at l2 ⊢
          have l2' : z = wrap64 ((r.length : Int) - 2) := l2
          unfold wrap64 at l2'
          rw [List.mem_singleton]
          constructor
          · intro ej
            exact ⟨rfl, by omega⟩
          · intro ej
            omega
      have hLe : L = (List.range n).map (fun (i : Nat) => trip r n ((i : Int) + 1)) := hTL.symm
      have memL : ∀ t, t ∈ L ↔ ∃ m : Nat, m < n ∧ t = trip r n ((m : Int) + 1) := by
        intro t
        rw [hLe, List.mem_map]
        constructor
        · rintro ⟨m, hm, e⟩
          exact ⟨m, List.mem_range.1 hm, e.symm⟩
        · rintro ⟨m, hm, e⟩
          exact ⟨m, List.mem_range.2 hm, e.symm⟩
      have atL : ∀ (m : Nat) (t : List Int), L[m]? = some t → rd t 0 = ((0 + m + 1 : Nat) : Int) := by
        intro m t hmt
        have hml : m < L.length := (List.getElem?_eq_some_iff.1 hmt).1
        rw [hLe, List.getElem?_map, List.getElem?_range (by omega), Option.map_some] at hmt
        cases hmt
        show (m : Int) + 1 = _
        omega
      refine ⟨?_, fillI_fillL n p L 0 _ r e atL⟩
      have hspl : ∀ (k i : Nat) (q : Option (List Int)), i + k = n → (match q with | none => True | some q => ∃ a b c : Int, q = [a, b, c] ∧ a = (i : Int)) → splitP q ((List.range' i k).map (fun (i : Nat) => trip r n ((i : Int) + 1))) = true := by
        intro k
        induction k with
        | zero =>
          intro i q _ _
          rfl
        | succ k ih =>
          intro i q hik hq
          obtain ⟨u, v, et, h1, h2, _⟩ := htrip i (by omega)
          rw [List.range'_succ, List.map_cons]
          have tail := ih (i + 1) (some (trip r n ((i : Int) + 1))) (by omega) ⟨_, _, _, et, by omega⟩
          have t3 : triB (trip r n ((i : Int) + 1)) = true := by
            rw [et]
            unfold triB
            exact decide_eq_true (by omega)
          match q, hq with
          | none, _ =>
            show (triB (trip r n ((i : Int) + 1)) && (true && splitP (some (trip r n ((i : Int) + 1))) ((List.range' (i + 1) k).map (fun (i : Nat) => trip r n ((i : Int) + 1))))) = true
            rw [t3, tail]
            rfl
          | some q, hq =>
            obtain ⟨a, b, c, rfl, ha⟩ := hq
            show (triB (trip r n ((i : Int) + 1)) && (lexB [a, b, c] (trip r n ((i : Int) + 1)) && splitP (some (trip r n ((i : Int) + 1))) ((List.range' (i + 1) k).map (fun (i : Nat) => trip r n ((i : Int) + 1))))) = true
            have lx : lexB [a, b, c] (trip r n ((i : Int) + 1)) = true := by
              rw [et, lexB, if_neg (by omega)]
              exact decide_eq_true (by omega)
            rw [t3, tail, lx]
            rfl
      unfold splH
      rw [Bool.and_eq_true, hL]
      constructor
      · rw [hLe, List.range_eq_range']
        exact hspl n 0 none (by omega) trivial
      · rw [onceFin_iff]
        refine ⟨?_, ?_, ?_⟩
        · unfold List.Nodup
          rw [List.pairwise_flatten]
          constructor
          · intro t ht
            obtain ⟨m, hmn, rfl⟩ := (memL t).1 ht
            obtain ⟨u, v, et, h1, h2, _⟩ := htrip m hmn
            rw [et]
            simp
            omega
          · rw [hLe, List.pairwise_map]
            refine List.Pairwise.imp_of_mem ?_ List.pairwise_lt_range
            intro i j hi hj hij x hx y hy
            have hi := List.mem_range.1 hi
            have hj := List.mem_range.1 hj
            obtain ⟨u, v, et, h1, h2, h3, h4, _⟩ := htrip i hi
            obtain ⟨u', v', et', h1', h2', h3', h4', _⟩ := htrip j hj
            rw [et] at hx
            rw [et'] at hy
            have ne : ∀ a b : Nat, r[a]? = some ((i + 1 : Nat) : Int) → r[b]? = some ((j + 1 : Nat) : Int) → a ≠ b := by
              intro a b ha hb' hab
              rw [hab, hb'] at ha
              have := Option.some.inj ha
              omega
            have n1 := ne _ _ h3 h3'
            have n2 := ne _ _ h3 h4'
            have n3 := ne _ _ h4 h3'
            have n4 := ne _ _ h4 h4'
            simp at hx hy
            omega
        · intro x hx
          obtain ⟨t, ht, hxt⟩ := List.mem_flatten.1 hx
          obtain ⟨m, hmn, rfl⟩ := (memL t).1 ht
          obtain ⟨u, v, et, h1, h2, _⟩ := htrip m hmn
          rw [et] at hxt
          simp at hxt
          omega
        · intro k
          rw [marksH_at n hb hn1]
          constructor
          · intro hx
            obtain ⟨t, ht, hxt⟩ := List.mem_flatten.1 hx
            obtain ⟨m, hmn, rfl⟩ := (memL t).1 ht
            obtain ⟨u, v, et, h1, h2, h3, h4, _⟩ := htrip m hmn
            rw [et] at hxt
            have hz := zs (2 * n - 1)
            have no : ∀ a : Nat, r[a]? = some ((m + 1 : Nat) : Int) → hb = true → a ≠ 2 * n - 1 := by
              intro a ha hbt ea
              have := (zs a).2 ⟨hbt, ea⟩
              rw [ha] at this
              have := Option.some.inj this
              omega
            have n1 := no u h3
            have n2 := no v h4
            simp at hxt
            cases hb with
            | false =>
              have hp' : p = 2 * n := hp
              rw [if_neg (by decide)]
              omega
            | true =>
              have hp' : p = 2 * n + 1 := hp
              have n1 := n1 rfl
              have n2 := n2 rfl
              rw [if_pos rfl]
              omega
          · rintro ⟨k1, k2⟩
            rw [List.mem_flatten]
            by_cases c : k ≤ n
            · refine ⟨_, (memL _).2 ⟨k - 1, by omega, rfl⟩, ?_⟩
              obtain ⟨u, v, et, _⟩ := htrip (k - 1) (by omega)
              rw [et, show k - 1 + 1 = k by omega]
              simp
            · have hj : k - n - 1 < p ∧ ¬ (hb = true ∧ k - n - 1 = 2 * n - 1) := by
                cases hb with
                | false =>
                  have hp' : p = 2 * n := hp
                  rw [if_neg (by decide)] at k2
                  exact ⟨by omega, fun z => by cases z.1⟩
                | true =>
                  have hp' : p = 2 * n + 1 := hp
                  rw [if_pos rfl] at k2
                  exact ⟨by omega, fun z => by omega⟩
              have hg : r[k - n - 1]? = some (r[k - n - 1]'(by omega)) := List.getElem?_eq_getElem _
              obtain ⟨m, hmn, hmy⟩ := nz _ _ hg (fun z => hj.2 ((zs _).1 (by rw [hg, z])))
              obtain ⟨u, v, et, h1, h2, h3, h4, hpl⟩ := htrip m hmn
              refine ⟨_, (memL _).2 ⟨m, hmn, rfl⟩, ?_⟩
              have hin := (places_mem ((m + 1 : Nat) : Int) ((k - n - 1 : Nat) : Int) r 0).2 ⟨k - n - 1, by rw [hg, hmy], by omega⟩
              rw [hpl] at hin
              rw [et]
              simp at hin ⊢
              omega
    · cases h
theorem spl_not_both {L : List (List Int)} (h1 : 1 ≤ L.length) (h : splH L true = true) : splH L false ≠ true := by
  intro g
  unfold splH at h g
  rw [Bool.and_eq_true] at h g
  have a := ((onceFin_iff _ _).1 h.2).2.2 (3 * L.length)
  have b := ((onceFin_iff _ _).1 g.2).2.2 (3 * L.length)
  rw [marksH_at _ _ h1, if_pos rfl] at a
  rw [marksH_at _ _ h1, if_neg (by decide)] at b
  have := b.2 ⟨by omega, by omega⟩
  have := a.1 this
  omega
theorem rows_eq (L : List (List Int)) (h1 : 1 ≤ L.length) (h2 : L.length ≤ 10) :
    tryR (tryI L.length (2 * L.length) L) (tryR (tryI L.length (2 * L.length + 1) L) ([], false)) = if (splH L false || splH L true) = true then fillR (fillL L.length L 0 (List.replicate (if splH L true = true then 2 * L.length + 1 else 2 * L.length) 0)) else ([], false) := by
  have B := fun hb r => spl_of L.length hb L h1 h2 rfl r
  have A := fun hb (h : splH L hb = true) r => tryI_of L.length hb L h1 h2 rfl h r
  have Bt := B true
  have Bf := B false
  have At := A true
  have Af := A false
  simp only [pOf, if_true, if_false, Bool.false_eq_true] at Bt Bf At Af
  have no : ∀ hb, splH L hb ≠ true → tryI L.length (if hb = true then 2 * L.length + 1 else 2 * L.length) L = none := by
    intro hb hne
    cases e : tryI L.length (if hb = true then 2 * L.length + 1 else 2 * L.length) L with
    | none => rfl
    | some r => exact absurd (B hb r e).1 hne
  by_cases ct : splH L true = true
  · have cf := spl_not_both h1 ct
    have e0 := no false cf
    rw [if_neg (by decide)] at e0
    rw [e0, if_pos (by rw [ct]; simp), if_pos ct]
    cases e : fillL L.length L 0 (List.replicate (2 * L.length + 1) 0) with
    | some r =>
      rw [At ct r e]
      rfl
    | none =>
      cases e' : tryI L.length (2 * L.length + 1) L with
      | none => rfl
      | some r =>
        have := (Bt r e').2
        rw [e] at this
        cases this
  · have e1 := no true ct
    rw [if_pos rfl] at e1
    rw [e1, if_neg ct]
    by_cases cf : splH L false = true
    · rw [if_pos (by rw [cf]; simp)]
      cases e : fillL L.length L 0 (List.replicate (2 * L.length) 0) with
      | some r =>
        rw [Af cf r e]
        rfl
      | none =>
        cases e' : tryI L.length (2 * L.length) L with
        | none => rfl
        | some r =>
          have := (Bf r e').2
          rw [e] at this
          cases this
    · have e0 := no false cf
      rw [if_neg (by decide)] at e0
      rw [e0, if_neg (by simp [ct, cf])]
      rfl
theorem tot_mem : ∀ (L : List (List Int)) (x : List Int), x ∈ L → x.length ≤ totalL L
  | [], x, h => absurd h List.not_mem_nil
  | y :: t, x, h => by
    unfold totalL
    rcases List.mem_cons.1 h with rfl | h
    · omega
    · have := tot_mem t x h
      omega
theorem fill_short (b : Prop) [Decidable b] (n : Nat) (l : List (List Int)) (p : Nat) (hp : p ≤ 1000) : (if b then fillR (fillL n l 0 (List.replicate p 0)) else ([], false)).1.length ≤ 1048576 := by
  by_cases c : b
  · rw [if_pos c]
    cases e : fillL n l 0 (List.replicate p 0) with
    | none => simp [fillR]
    | some r =>
      have := fillL_length _ _ _ _ _ e
      rw [List.length_replicate] at this
      show r.length ≤ 1048576
      omega
  · rw [if_neg c]
    simp
theorem FnExactRowOfTriples : laws_FnExactRowOfTriples.Pure := by
  intro l hl ht hw
  by_cases c : 1 ≤ l.length ∧ l.length ≤ 10
  · obtain ⟨K1, h1⟩ := sRow_ev' l c.1 c.2 (fun x hx => by have := tot_mem l x hx; omega)
    obtain ⟨K2, h2⟩ := iRow_ev l c.1 c.2
    rw [rows_eq l c.1 c.2] at h2
    refine ⟨K1 + K2, _, _, h1 _ (by omega), h2 _ (by omega), ?_⟩
    exact fill_short _ _ l _ (by split <;> omega)
  · obtain ⟨K1, h1⟩ := sRow_no l c
    obtain ⟨K2, h2⟩ := iRow_no l c
    exact ⟨K1 + K2, _, _, h1 _ (by omega), h2 _ (by omega), by simp⟩
end Go.Proofs.Ytgpnhaaklhinlaa.Pure
