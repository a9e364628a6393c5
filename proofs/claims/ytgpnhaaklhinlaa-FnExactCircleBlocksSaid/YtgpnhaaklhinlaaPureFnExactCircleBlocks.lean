/- The law FnExactCircleBlocks holds for every input: what the program's function computes is what the reference's computes. Conditions: none but the statement's own. -/
import Derived.Test.YtgpnhaaklhinlaaPFnExactCircleBlocksx9
import Derived.Test.YtgpnhaaklhinlaaAid
import Derived.Test.YtgpnhaaklhinlaaSCirc
namespace Go.Proofs.Ytgpnhaaklhinlaa.Pure
open Go.RowKit Go.Proofs.Ytgpnhaaklhinlaa.PFnExactCircleBlocks Go.Proofs.YtgpnhaaklhinlaaW.PrintWords Go.Proofs.YtgpnhaaklhinlaaW.PrintLast Go.Proofs.Ytgpnhaaklhinlaa.Aid
set_option linter.unusedVariables false
set_option linter.unusedSimpArgs false
theorem eqIntS_l0 (xs ys : List Int) (hx : xs.length ≤ 1048576) (hl : xs.length = ys.length) : ∀ (s t : List Int) (i : Nat), xs.drop i = s → ys.drop i = t → Ev (fun k => laws_eqIntS.l0 k xs ys (i : Int)) (decide (s = t))
  | [], t, i, h, h' => by
    have h1 := dropNil h
    have h2 : t = [] := by rw [← h']; simp; omega
    subst h2
    refine Ev.of1 (fun k => ?_)
    simp (disch := omega) only [if_true, if_false, Bool.false_eq_true, laws_eqIntS.l0, if_neg]
    simp
  | x :: s, [], i, h, h' => by
    have h1 := dropLt h
    have h2 := dropNil h'
    omega
  | x :: s, y :: t, i, h, h' => by
    obtain ⟨h1, h2, h3⟩ := dropCons h
    obtain ⟨h1', h2', h3'⟩ := dropCons h'
    by_cases c : x = y
    · refine Ev.step (f := fun k => laws_eqIntS.l0 k xs ys ((i + 1 : Nat) : Int)) (fun k => ?_) ((eqIntS_l0 xs ys hx hl s t (i + 1) h3 h3').cast (by simp [c]))
      simp (disch := omega) only [if_true, if_false, Bool.false_eq_true, laws_eqIntS.l0, if_pos, w64s, h2, h2']
    · refine Ev.of1 (fun k => ?_)
      simp (disch := omega) only [if_true, if_false, Bool.false_eq_true, laws_eqIntS.l0, if_pos, if_neg, h2, h2']
      simp [c]
theorem eqIntS_ev (xs ys : List Int) (hx : xs.length ≤ 1048576) : Ev (fun k => laws_eqIntS.f k xs ys) (decide (xs = ys)) := by
  by_cases c : xs.length = ys.length
  · refine Ev.congr (fun k => ?_) (eqIntS_l0 xs ys hx c xs ys 0 rfl rfl)
    unfold laws_eqIntS.f
    rw [if_pos (by omega)]
    rfl
  · refine Ev.all (fun k => ?_)
    unfold laws_eqIntS.f
    rw [if_neg (by omega)]
    have : xs ≠ ys := fun e => c (by rw [e])
    simp [this]
theorem eqIntS_same (xs : List Int) (hx : xs.length ≤ 1048576) : Ev (fun k => laws_eqIntS.f k xs xs) true := (eqIntS_ev xs xs hx).cast (by simp)
theorem dropConsL {xs : List (List Int)} {i : Nat} {x : List Int} {t : List (List Int)} (h : xs.drop i = x :: t) : i < xs.length ∧ rd_L1 xs (i : Int) = x ∧ xs.drop (i + 1) = t :=
  ⟨dropLt h, by simp [rd_L1, List.getD_eq_getElem?_getD, dropGet h], dropSucc h⟩
theorem memDrop {α : Type} {xs : List α} {i : Nat} {x : α} {t : List α} (h : xs.drop i = x :: t) : x ∈ xs := by
  rw [← List.take_append_drop i xs, h]
  simp
theorem eqIntSS_l0 (xs ys : List (List Int)) (hx : xs.length ≤ 1048576) (hm : ∀ x ∈ xs, x.length ≤ 1048576) (hl : xs.length = ys.length) : ∀ (s t : List (List Int)) (i : Nat), xs.drop i = s → ys.drop i = t → Ev (fun k => laws_eqIntSS.l0 k xs ys (i : Int)) (decide (s = t))
  | [], t, i, h, h' => by
    have h1 := dropNil h
    have h2 : t = [] := by rw [← h']; simp; omega
    subst h2
    refine Ev.of1 (fun k => ?_)
    simp (disch := omega) only [if_true, if_false, Bool.false_eq_true, laws_eqIntSS.l0, if_neg]
    simp
  | x :: s, [], i, h, h' => by
    have h1 := dropLt h
    have h2 := dropNil h'
    omega
  | x :: s, y :: t, i, h, h' => by
    obtain ⟨h1, h2, h3⟩ := dropConsL h
    obtain ⟨h1', h2', h3'⟩ := dropConsL h'
    refine Ev.step (f := fun k => (laws_eqIntS.f k x y).bind fun t120 => (if t120 = true then (laws_eqIntSS.l0 k xs ys ((i + 1 : Nat) : Int)) else (some false))) (fun k => ?_) (Ev.bind (eqIntS_ev x y (hm x (memDrop h))) ?_)
    · simp (disch := omega) only [if_true, if_false, Bool.false_eq_true, laws_eqIntSS.l0, if_pos, w64s, h2, h2']
    · by_cases c : x = y
      · simp only [c, decide_true, if_true]
        exact (eqIntSS_l0 xs ys hx hm hl s t (i + 1) h3 h3').cast (by simp)
      · simp only [c, decide_false, Bool.false_eq_true, if_false]
        exact (Ev.now _).cast (by simp [c])
theorem eqIntSS_ev (xs ys : List (List Int)) (hx : xs.length ≤ 1048576) (hm : ∀ x ∈ xs, x.length ≤ 1048576) : Ev (fun k => laws_eqIntSS.f k xs ys) (decide (xs = ys)) := by
  by_cases c : xs.length = ys.length
  · refine Ev.congr (fun k => ?_) (eqIntSS_l0 xs ys hx hm c xs ys 0 rfl rfl)
    unfold laws_eqIntSS.f
    rw [if_pos (by omega)]
    rfl
  · refine Ev.all (fun k => ?_)
    unfold laws_eqIntSS.f
    rw [if_neg (by omega)]
    have : xs ≠ ys := fun e => c (by rw [e])
    simp [this]
theorem eqIntSS_same (xs : List (List Int)) (hx : xs.length ≤ 1048576) (hm : ∀ x ∈ xs, x.length ≤ 1048576) : Ev (fun k => laws_eqIntSS.f k xs xs) true := (eqIntSS_ev xs xs hx hm).cast (by simp)
theorem markIntS_l0 : ∀ (t : List Int) (xs : List Int) (i : Nat) (m : Int), xs.length ≤ 1048576 → xs.drop i = t → 0 ≤ m → m + t.length ≤ 9223372036854775807 → Ev (fun k => laws_markIntS.l0 k xs m (i : Int)) (m + t.length, xs.take i ++ upFrom t.length m)
  | [], xs, i, m, hx, h, hm, hb => by
    have h1 := dropNil h
    refine Ev.of1 (fun k => ?_)
    simp (disch := omega) only [if_true, if_false, Bool.false_eq_true, laws_markIntS.l0, if_neg]
    simp [upFrom, List.take_of_length_le h1]
  | x :: t, xs, i, m, hx, h, hm, hb => by
    obtain ⟨h1, h2, h3⟩ := dropCons h
    simp only [List.length_cons] at hb
    have e : (xs.set i m).drop (i + 1) = t := by rw [List.drop_set_of_lt (by omega), h3]
    refine Ev.step (f := fun k => laws_markIntS.l0 k (xs.set i m) (m + 1) ((i + 1 : Nat) : Int)) (fun k => ?_) ((markIntS_l0 t (xs.set i m) (i + 1) (m + 1) (by simpa using hx) e (by omega) (by omega)).cast ?_)
    · have e1 : wrap64 (m + 1) = m + 1 := w64 (by omega) (by omega)
      simp (disch := omega) only [if_true, if_false, Bool.false_eq_true, laws_markIntS.l0, if_pos, w64s, e1, toNat_cast]
    · rw [set_at _ _ _ _ _ h]
      have : (xs.take i ++ m :: t).take (i + 1) = xs.take i ++ [m] := by
        have hl : (xs.take i).length = i := by simp; omega
        rw [List.take_append, List.take_of_length_le (by omega), hl, show i + 1 - i = 1 by omega]
        rfl
      rw [this]
      simp [upFrom]
      omega
theorem markIntS_ev (xs : List Int) (hx : xs.length ≤ 1048576) : Ev (fun k => laws_markIntS.f k xs 1) (1 + xs.length, upFrom xs.length 1) :=
  (Ev.congr (fun k => rfl) (markIntS_l0 xs xs 0 1 hx rfl (by omega) (by omega))).cast (by simp)
theorem heldIntS_l0 (xs : List Int) (hx : xs.length ≤ 1048576) : ∀ (n : Nat) (i : Nat) (m : Int), xs.drop i = upFrom n m → 0 ≤ m → m + n ≤ 9223372036854775807 → Ev (fun k => laws_heldIntS.l0 k xs m (i : Int)) (m + n)
  | 0, i, m, h, hm, hb => by
    have h1 := dropNil h
    refine Ev.of1 (fun k => ?_)
    simp (disch := omega) only [if_true, if_false, Bool.false_eq_true, laws_heldIntS.l0, if_neg]
    simp
  | n + 1, i, m, h, hm, hb => by
    obtain ⟨h1, h2, h3⟩ := dropCons (x := m) (t := upFrom n (m + 1)) h
    refine Ev.step (f := fun k => laws_heldIntS.l0 k xs (m + 1) ((i + 1 : Nat) : Int)) (fun k => ?_) ((heldIntS_l0 xs hx n (i + 1) (m + 1) h3 (by omega) (by omega)).cast (by omega))
    have e1 : wrap64 (m + 1) = m + 1 := w64 (by omega) (by omega)
    simp (disch := omega) only [if_true, if_false, Bool.false_eq_true, laws_heldIntS.l0, if_pos, w64s, e1, h2]
theorem heldIntS_ev (n : Nat) (hx : n ≤ 1048576) : Ev (fun k => laws_heldIntS.f k (upFrom n 1) 1) (1 + n) :=
  Ev.congr (fun k => rfl) (heldIntS_l0 (upFrom n 1) (by rw [upFrom_length]; exact hx) n 0 1 rfl (by omega) (by omega))
def szL (m : Int) : List (List Int) → Int
  | [] => m
  | x :: t => if m - (x.length : Int) < 0 then -1 else szL (m - (x.length : Int)) t
def totL : List (List Int) → Nat
  | [] => 0
  | x :: t => x.length + totL t
theorem szL_tot : ∀ (t : List (List Int)) (m : Int), 0 ≤ szL m t → (totL t : Int) ≤ m
  | [], m, h => by simpa [szL, totL] using h
  | x :: t, m, h => by
    unfold szL at h
    by_cases c : m - (x.length : Int) < 0
    · rw [if_pos c] at h
      omega
    · rw [if_neg c] at h
      have := szL_tot t _ h
      unfold totL
      omega
theorem totL_mem : ∀ (t : List (List Int)) (x : List Int), x ∈ t → x.length ≤ totL t
  | [], x, h => by simp at h
  | y :: t, x, h => by
    unfold totL
    rcases List.mem_cons.1 h with rfl | h
    · omega
    · have := totL_mem t x h
      omega
theorem szIntSS_l0 (xs : List (List Int)) (hx : xs.length ≤ 1048576) (hm : ∀ x ∈ xs, x.length ≤ maxLen) : ∀ (t : List (List Int)) (i : Nat) (m : Int), xs.drop i = t → 0 ≤ m → m ≤ 1048576 → Ev (fun k => laws_szIntSS.l0 k xs m (i : Int)) (szL m t)
  | [], i, m, h, h0, hb => by
    have h1 := dropNil h
    refine Ev.of1 (fun k => ?_)
    simp (disch := omega) only [if_true, if_false, Bool.false_eq_true, laws_szIntSS.l0, if_neg, szL]
  | x :: t, i, m, h, h0, hb => by
    obtain ⟨h1, h2, h3⟩ := dropConsL h
    have hl := hm x (memDrop h)
    unfold maxLen at hl
    have e1 : wrap64 (m - (x.length : Int)) = m - (x.length : Int) := w64 (by omega) (by omega)
    by_cases c : m - (x.length : Int) < 0
    · refine Ev.of1 (fun k => ?_)
      simp (disch := omega) only [if_true, if_false, Bool.false_eq_true, laws_szIntSS.l0, laws_szIntS.f, if_pos, h2, e1, Option.bind_some, szL]
    · refine Ev.step (f := fun k => laws_szIntSS.l0 k xs (m - (x.length : Int)) ((i + 1 : Nat) : Int)) (fun k => ?_) ((szIntSS_l0 xs hx hm t (i + 1) _ h3 (by omega) (by omega)).cast (by simp only [szL, c, if_false]))
      simp (disch := omega) only [if_true, if_false, Bool.false_eq_true, laws_szIntSS.l0, laws_szIntS.f, if_pos, if_neg, h2, e1, Option.bind_some, w64s]
theorem szIntSS_ev (xs : List (List Int)) (hb : xs.length * 24 ≤ 140737488351232) (hm : ∀ x ∈ xs, x.length ≤ maxLen) : ∃ r : Int, Ev (fun k => laws_szIntSS.f k xs 1048576) r ∧ (¬ r < 0 → xs.length ≤ 1048576 ∧ (totL xs : Int) + xs.length ≤ 1048576) := by
  have e1 : wrap64 (1048576 - (xs.length : Int)) = 1048576 - (xs.length : Int) := w64 (by omega) (by omega)
  by_cases c : 1048576 - (xs.length : Int) < 0
  · refine ⟨-1, Ev.all (fun k => ?_), fun h => by omega⟩
    simp (disch := omega) only [if_true, if_false, Bool.false_eq_true, laws_szIntSS.f, e1, if_pos]
  · refine ⟨szL (1048576 - (xs.length : Int)) xs, Ev.congr (fun k => ?_) (szIntSS_l0 xs (by omega) hm xs 0 _ rfl (by omega) (by omega)), fun h => ⟨by omega, ?_⟩⟩
    · simp (disch := omega) only [if_true, if_false, Bool.false_eq_true, laws_szIntSS.f, e1, if_neg]
      rfl
    · have := szL_tot xs (1048576 - (xs.length : Int)) (by omega)
      omega
theorem toIntS_l0 (xs : List Int) (hx : xs.length ≤ 1048576) : ∀ (t : List Int) (i : Nat) (ys : List Int), xs.drop i = t → i ≤ xs.length → ys.length = xs.length → ys.take i = xs.take i → Ev (fun k => laws_toIntS.l0 k xs ys (i : Int)) xs
  | [], i, ys, h, hi, hl, he => by
    have h1 := dropNil h
    obtain rfl : ys = xs := by
      have : i = xs.length := by omega
      subst this
      rw [List.take_of_length_le (by omega), List.take_of_length_le (by omega)] at he
      exact he
    refine Ev.of1 (fun k => ?_)
    simp (disch := omega) only [if_true, if_false, Bool.false_eq_true, laws_toIntS.l0, if_neg]
  | x :: t, i, ys, h, hi, hl, he => by
    obtain ⟨h1, h2, h3⟩ := dropCons h
    refine Ev.step (f := fun k => laws_toIntS.l0 k xs (ys.set i x) ((i + 1 : Nat) : Int)) (fun k => ?_) (toIntS_l0 xs hx t (i + 1) _ h3 (by omega) (by simpa using hl) ?_)
    · simp (disch := omega) only [if_true, if_false, Bool.false_eq_true, laws_toIntS.l0, if_pos, w64s, h2, toNat_cast]
    · rw [take_succ_at h, List.take_add_one, List.take_set_of_le (by omega), he]
      simp [hl, h1]
theorem toIntS_ev (xs : List Int) (hx : xs.length ≤ 1048576) : Ev (fun k => laws_toIntS.f k xs) xs := by
  refine Ev.congr (fun k => ?_) (toIntS_l0 xs hx xs 0 (List.replicate xs.length 0) rfl (by omega) (by simp) rfl)
  unfold laws_toIntS.f
  rw [if_pos (by omega), if_pos (by omega)]
  rfl
theorem toIntSS_l0 (xs : List (List Int)) (hx : xs.length ≤ 1048576) (hm : ∀ x ∈ xs, x.length ≤ 1048576) : ∀ (t : List (List Int)) (i : Nat) (ys : List (List Int)), xs.drop i = t → i ≤ xs.length → ys.length = xs.length → ys.take i = xs.take i → Ev (fun k => laws_toIntSS.l0 k xs ys (i : Int)) xs
  | [], i, ys, h, hi, hl, he => by
    have h1 := dropNil h
    obtain rfl : ys = xs := by
      have : i = xs.length := by omega
      subst this
      rw [List.take_of_length_le (by omega), List.take_of_length_le (by omega)] at he
      exact he
    refine Ev.of1 (fun k => ?_)
    simp (disch := omega) only [if_true, if_false, Bool.false_eq_true, laws_toIntSS.l0, if_neg]
  | x :: t, i, ys, h, hi, hl, he => by
    obtain ⟨h1, h2, h3⟩ := dropConsL h
    refine Ev.step (f := fun k => (laws_toIntS.f k x).bind fun t112 => laws_toIntSS.l0 k xs (ys.set i t112) ((i + 1 : Nat) : Int)) (fun k => ?_) (Ev.bind (toIntS_ev x (hm x (memDrop h))) (toIntSS_l0 xs hx hm t (i + 1) _ h3 (by omega) (by simpa using hl) ?_))
    · simp (disch := omega) only [if_true, if_false, Bool.false_eq_true, laws_toIntSS.l0, if_pos, w64s, h2, toNat_cast]
    · rw [take_succ_at h, List.take_add_one, List.take_set_of_le (by omega), he]
      simp [hl, h1]
theorem toIntSS_ev (xs : List (List Int)) (hx : xs.length ≤ 1048576) (hm : ∀ x ∈ xs, x.length ≤ 1048576) : Ev (fun k => laws_toIntSS.f k xs) xs := by
  refine Ev.congr (fun k => ?_) (toIntSS_l0 xs hx hm xs 0 (List.replicate xs.length []) rfl (by omega) (by simp) rfl)
  unfold laws_toIntSS.f
  rw [if_pos (by omega), if_pos (by omega)]
  rfl
def marksL (n : Nat) : List Bool := false :: (List.replicate (3 * n) true ++ [false])
theorem trMarks_ev (n : Nat) (h1 : 1 ≤ n) (h2 : n ≤ 10) : Ev (fun k => spec_trMarks.f k (n : Int) false) (marksL n) := by
  have h : n = 1 ∨ n = 2 ∨ n = 3 ∨ n = 4 ∨ n = 5 ∨ n = 6 ∨ n = 7 ∨ n = 8 ∨ n = 9 ∨ n = 10 := by omega
  rcases h with rfl | rfl | rfl | rfl | rfl | rfl | rfl | rfl | rfl | rfl <;> exact Ev.of (fun k => spec_trMarks.mono _ _ k) (k := 40) (by kernel_rfl)
def lexB : List Int → List Int → Bool
  | x :: a, y :: b => if x = y then lexB a b else decide (x < y)
  | _, _ => false
theorem trLess_l0 (xs ys : List Int) (hx : xs.length ≤ 1048576) (hl : xs.length = ys.length) : ∀ (s t : List Int) (i : Nat), xs.drop i = s → ys.drop i = t → Ev (fun k => spec_trLess.l0 k xs ys xs.length (i : Int)) (lexB s t)
  | [], t, i, h, h' => by
    have h1 := dropNil h
    refine Ev.of1 (fun k => ?_)
    simp (disch := omega) only [if_true, if_false, Bool.false_eq_true, spec_trLess.l0, if_neg, lexB]
  | x :: s, [], i, h, h' => by
    have h1 := dropLt h
    have h2 := dropNil h'
    omega
  | x :: s, y :: t, i, h, h' => by
    obtain ⟨h1, h2, h3⟩ := dropCons h
    obtain ⟨h1', h2', h3'⟩ := dropCons h'
    by_cases c : x = y
    · refine Ev.step (f := fun k => spec_trLess.l0 k xs ys xs.length ((i + 1 : Nat) : Int)) (fun k => ?_) ((trLess_l0 xs ys hx hl s t (i + 1) h3 h3').cast (by simp [lexB, c]))
      simp (disch := omega) only [if_true, if_false, Bool.false_eq_true, spec_trLess.l0, if_pos, w64s, h2, h2']
    · refine Ev.of1 (fun k => ?_)
      simp (disch := omega) only [if_true, if_false, Bool.false_eq_true, spec_trLess.l0, if_pos, if_neg, h2, h2']
      simp [lexB, c]
theorem trLess_ev (xs ys : List Int) (hx : xs.length ≤ 1048576) (hl : xs.length = ys.length) : Ev (fun k => spec_trLess.f k xs ys) (lexB xs ys) :=
  Ev.congr (fun k => rfl) (trLess_l0 xs ys hx hl xs ys 0 rfl rfl)
def contB (r : Bool) (g : List Bool → Nat → Option Bool) : Option (List Bool) → Prop
  | none => r = false
  | some S => Ev (g S) r
def onceL : List Int → List Bool → Option (List Bool)
  | [], M => some M
  | x :: t, M => if (0 ≤ x ∧ x ≤ (M.length : Int) - 1) ∧ rdOf false M x = true then onceL t (M.set x.toNat false) else none
def onceFin : Option (List Bool) → Bool
  | none => false
  | some M => M.all fun b => !b
theorem onceL_length : ∀ (t : List Int) (M M' : List Bool), onceL t M = some M' → M'.length = M.length
  | [], M, M', h => by simp [onceL] at h; rw [h]
  | x :: t, M, M', h => by
    unfold onceL at h
    split at h
    · simpa using onceL_length t _ _ h
    · cases h
theorem onceL_append : ∀ (a b : List Int) (M : List Bool), onceL (a ++ b) M = (onceL a M).bind (onceL b)
  | [], b, M => rfl
  | x :: a, b, M => by
    simp only [List.cons_append, onceL]
    split
    · exact onceL_append a b _
    · rfl
theorem trOnce_l2 (M : List Bool) (hM : M.length ≤ 1048576) : ∀ (s : List Bool) (j : Nat), M.drop j = s → Ev (fun k => spec_trOnce.l2 k M M.length (j : Int)) (s.all fun b => !b)
  | [], j, h => by
    have h1 := dropNil h
    refine Ev.of1 (fun k => ?_)
    simp (disch := omega) only [if_true, if_false, Bool.false_eq_true, spec_trOnce.l2, if_neg, List.all_nil]
  | b :: s, j, h => by
    obtain ⟨h1, h2, h3⟩ := dropConsOf (d := false) h
    cases b with
    | true =>
      refine Ev.of1 (fun k => ?_)
      simp (disch := omega) only [if_true, if_false, Bool.false_eq_true, spec_trOnce.l2, if_pos, h2]
      simp
    | false =>
      refine Ev.step (f := fun k => spec_trOnce.l2 k M M.length ((j + 1 : Nat) : Int)) (fun k => ?_) ((trOnce_l2 M hM s (j + 1) h3).cast (by simp))
      simp (disch := omega) only [if_true, if_false, Bool.false_eq_true, spec_trOnce.l2, if_pos, h2, w64s, Bool.false_eq_true]
theorem trOnce_l1 (L : List (List Int)) (hL : L.length ≤ 1048576) (i : Nat) (hi : i < L.length) (r : Bool) (u : List Int) (hu : u.length ≤ 1048576) : ∀ (s : List Int) (j : Nat) (M : List Bool), u.drop j = s → 1 ≤ M.length → M.length ≤ 1048576 →
    contB r (fun M' k => spec_trOnce.l0 k M' L L.length ((i + 1 : Nat) : Int)) (onceL s M) → Ev (fun k => spec_trOnce.l1 k M L L.length (i : Int) u u.length (j : Int)) r
  | [], j, M, h, hM0, hM, hc => by
    have h1 := dropNil h
    refine Ev.step (fun k => ?_) hc
    simp (disch := omega) only [if_true, if_false, Bool.false_eq_true, spec_trOnce.l1, if_neg, w64s]
  | x :: s, j, M, h, hM0, hM, hc => by
    obtain ⟨h1, h2, h3⟩ := dropCons h
    have e1 : wrap64 ((M.length : Int) - 1) = (M.length : Int) - 1 := w64 (by omega) (by omega)
    unfold onceL at hc
    by_cases c0 : 0 ≤ x
    · by_cases c1 : x ≤ (M.length : Int) - 1
      · by_cases c2 : rdOf false M x = true
        · rw [if_pos ⟨⟨c0, c1⟩, c2⟩] at hc
          refine Ev.step (f := fun k => spec_trOnce.l1 k (M.set x.toNat false) L L.length (i : Int) u u.length ((j + 1 : Nat) : Int)) (fun k => ?_) (trOnce_l1 L hL i hi r u hu s (j + 1) _ h3 (by simpa using hM0) (by simpa using hM) hc)
          simp (disch := omega) only [if_true, if_false, Bool.false_eq_true, spec_trOnce.l1, spec_l1In.f, if_pos, h2, e1, Option.bind_some, decide_eq_true_eq, c2, w64s]
        · rw [if_neg (fun h => c2 h.2)] at hc
          have hc' : r = false := hc
          subst hc'
          refine Ev.of1 (fun k => ?_)
          simp (disch := omega) only [if_true, if_false, Bool.false_eq_true, spec_trOnce.l1, spec_l1In.f, if_pos, h2, e1, Option.bind_some, decide_eq_true_eq, c2]
      · rw [if_neg (fun h => c1 h.1.2)] at hc
        have hc' : r = false := hc
        subst hc'
        refine Ev.of1 (fun k => ?_)
        simp (disch := omega) only [if_true, if_false, Bool.false_eq_true, spec_trOnce.l1, spec_l1In.f, if_pos, if_neg, h2, e1, Option.bind_some, decide_eq_true_eq]
    · rw [if_neg (fun h => c0 h.1.1)] at hc
      have hc' : r = false := hc
      subst hc'
      refine Ev.of1 (fun k => ?_)
      simp (disch := omega) only [if_true, if_false, Bool.false_eq_true, spec_trOnce.l1, spec_l1In.f, if_pos, if_neg, h2, e1, Option.bind_some, Bool.false_eq_true]
theorem trOnce_l0 (L : List (List Int)) (hL : L.length ≤ 1048576) (hm : ∀ x ∈ L, x.length ≤ 1048576) : ∀ (T : List (List Int)) (i : Nat) (M : List Bool), L.drop i = T → 1 ≤ M.length → M.length ≤ 1048576 → Ev (fun k => spec_trOnce.l0 k M L L.length (i : Int)) (onceFin (onceL T.flatten M))
  | [], i, M, h, hM0, hM => by
    have h1 := dropNil h
    refine Ev.step (f := fun k => spec_trOnce.l2 k M M.length ((0 : Nat) : Int)) (fun k => ?_) (trOnce_l2 M hM M 0 rfl)
    simp (disch := omega) only [if_true, if_false, Bool.false_eq_true, spec_trOnce.l0, if_neg]
    rfl
  | t :: T, i, M, h, hM0, hM => by
    obtain ⟨h1, h2, h3⟩ := dropConsL h
    refine Ev.step (f := fun k => spec_trOnce.l1 k M L L.length (i : Int) t t.length ((0 : Nat) : Int)) (fun k => ?_) (trOnce_l1 L hL i h1 _ t (hm t (memDrop h)) t 0 M rfl hM0 hM ?_)
    · simp (disch := omega) only [if_true, if_false, Bool.false_eq_true, spec_trOnce.l0, if_pos, h2]
      rfl
    · rw [List.flatten_cons, onceL_append]
      cases e : onceL t M with
      | none => rfl
      | some M' =>
        have el := onceL_length _ _ _ e
        exact trOnce_l0 L hL hm T (i + 1) M' h3 (by omega) (by omega)
theorem trOnce_ev (L : List (List Int)) (M : List Bool) (hL : L.length ≤ 1048576) (hm : ∀ x ∈ L, x.length ≤ 1048576) (hM0 : 1 ≤ M.length) (hM : M.length ≤ 1048576) : Ev (fun k => spec_trOnce.f k L M) (onceFin (onceL L.flatten M)) := by
  refine Ev.congr (fun k => ?_) (trOnce_l0 L hL hm L 0 M rfl hM0 hM)
  simp (disch := omega) only [if_true, if_false, Bool.false_eq_true, spec_trOnce.f, Option.bind_some, List.length_nil, Nat.zero_add, List.nil_append, if_pos]
  rfl
theorem l1All_l0 (lo hi : Int) (xs : List Int) (hx : xs.length ≤ 1048576) : ∀ (t : List Int) (i : Nat), xs.drop i = t → Ev (fun k => spec_l1All.l0 k lo hi xs xs.length (i : Int)) (t.all fun n => decide (lo ≤ n ∧ n ≤ hi))
  | [], i, h => by
    have h1 := dropNil h
    refine Ev.of1 (fun k => ?_)
    simp (disch := omega) only [if_true, if_false, Bool.false_eq_true, spec_l1All.l0, if_neg]
    rfl
  | x :: t, i, h => by
    obtain ⟨h1, h2, h3⟩ := dropCons h
    by_cases c : lo ≤ x ∧ x ≤ hi
    · refine Ev.step (f := fun k => spec_l1All.l0 k lo hi xs xs.length ((i + 1 : Nat) : Int)) (fun k => ?_) ((l1All_l0 lo hi xs hx t (i + 1) h3).cast (by simp [c]))
      simp (disch := omega) only [if_true, if_false, Bool.false_eq_true, spec_l1All.l0, spec_l1In.f, if_pos, w64s, h2, Option.bind_some, decide_eq_true_eq]
    · refine Ev.of1 (fun k => ?_)
      simp (disch := omega) only [if_true, if_false, Bool.false_eq_true, spec_l1All.l0, spec_l1In.f, if_pos, h2]
      by_cases c1 : lo ≤ x
      · have c2 : ¬ x ≤ hi := fun h' => c ⟨c1, h'⟩
        simp [c1, c2]
      · simp [c1]
theorem l1All_ev (xs : List Int) (lo hi : Int) (hx : xs.length ≤ 1048576) : Ev (fun k => spec_l1All.f k xs lo hi) (xs.all fun n => decide (lo ≤ n ∧ n ≤ hi)) :=
  Ev.congr (fun k => rfl) (l1All_l0 lo hi xs hx xs 0 rfl)
def cmpL : List Int → List Int → Int
  | [], [] => 0
  | [], _ :: _ => -1
  | _ :: _, [] => 1
  | x :: a, y :: b => if x < y then -1 else if y < x then 1 else cmpL a b
theorem cmpInt_at (x y : Int) : cmp_Compare_int.f x y = some (if x < y then -1 else if y < x then 1 else 0) := by
  unfold cmp_Compare_int.f cmp_isNaN_int.f
  by_cases c : x < y <;> by_cases c' : y < x <;> simp [c, c']
theorem Compare_l0 (xs ys : List Int) (hx : xs.length ≤ 1048576) : ∀ (s t : List Int) (i : Nat), xs.drop i = s → ys.drop i = t → i ≤ ys.length → i ≤ xs.length → Ev (fun k => slices_Compare_int_int.l0 k xs ys xs xs.length (i : Int)) (cmpL s t)
  | [], [], i, h, h', hi, hj => by
    have h1 := dropNil h
    have h2 := dropNil h'
    refine Ev.of1 (fun k => ?_)
    simp (disch := omega) only [if_true, if_false, Bool.false_eq_true, slices_Compare_int_int.l0, if_neg, cmpL]
  | [], y :: t, i, h, h', hi, hj => by
    have h1 := dropNil h
    have h2 := dropLt h'
    refine Ev.of1 (fun k => ?_)
    simp (disch := omega) only [if_true, if_false, Bool.false_eq_true, slices_Compare_int_int.l0, if_neg, if_pos, cmpL]
  | x :: s, [], i, h, h', hi, hj => by
    obtain ⟨h1, h2, h3⟩ := dropCons h
    have h4 := dropNil h'
    refine Ev.of1 (fun k => ?_)
    simp (disch := omega) only [if_true, if_false, Bool.false_eq_true, slices_Compare_int_int.l0, if_pos, cmpL]
  | x :: s, y :: t, i, h, h', hi, hj => by
    obtain ⟨h1, h2, h3⟩ := dropCons h
    obtain ⟨h1', h2', h3'⟩ := dropCons h'
    by_cases c : x < y
    · refine Ev.of1 (fun k => ?_)
      simp (disch := omega) only [if_true, if_false, Bool.false_eq_true, slices_Compare_int_int.l0, if_pos, if_neg, h2, h2', cmpInt_at, Option.bind_some, cmpL]
    · by_cases c' : y < x
      · refine Ev.of1 (fun k => ?_)
        simp (disch := omega) only [if_true, if_false, Bool.false_eq_true, slices_Compare_int_int.l0, if_pos, if_neg, h2, h2', cmpInt_at, Option.bind_some, cmpL]
      · refine Ev.step (f := fun k => slices_Compare_int_int.l0 k xs ys xs xs.length ((i + 1 : Nat) : Int)) (fun k => ?_) ((Compare_l0 xs ys hx s t (i + 1) h3 h3' (by omega) (by omega)).cast (by simp [cmpL, c, c']))
        simp (disch := omega) only [if_true, if_false, Bool.false_eq_true, slices_Compare_int_int.l0, if_pos, if_neg, h2, h2', cmpInt_at, Option.bind_some, w64s]
theorem Compare_ev (xs ys : List Int) (hx : xs.length ≤ 1048576) : Ev (fun k => slices_Compare_int_int.f k xs ys) (cmpL xs ys) :=
  Ev.congr (fun k => rfl) (Compare_l0 xs ys hx xs ys 0 rfl rfl (by omega) (by omega))
def ordFrom (p : List Int) : List (List Int) → Bool
  | [] => true
  | x :: t => decide (cmpL p x < 0) && ordFrom x t
def ordB : List (List Int) → Bool
  | [] => true
  | x :: t => ordFrom x t
theorem inOrder_l0 (xs : List (List Int)) (hx : xs.length ≤ 1048576) (hm : ∀ x ∈ xs, x.length ≤ 1048576) : ∀ (t : List (List Int)) (j : Nat) (p : List Int), xs.drop j = p :: t → Ev (fun k => impl_inOrder.l0 k xs ((j + 1 : Nat) : Int)) (ordFrom p t)
  | [], j, p, h => by
    obtain ⟨h1, h2, h3⟩ := dropConsL h
    have h4 := dropNil h3
    refine Ev.of1 (fun k => ?_)
    simp (disch := omega) only [if_true, if_false, Bool.false_eq_true, impl_inOrder.l0, if_neg, ordFrom]
  | x :: t, j, p, h => by
    obtain ⟨h1, h2, h3⟩ := dropConsL h
    obtain ⟨h1', h2', h3'⟩ := dropConsL h3
    refine Ev.step (f := fun k => (slices_Compare_int_int.f k p x).bind fun t168 => (if t168 ≥ 0 then (some false) else (impl_inOrder.l0 k xs ((j + 1 + 1 : Nat) : Int)))) (fun k => ?_) (Ev.bind (Compare_ev p x (hm p (memDrop h))) ?_)
    · simp (disch := omega) only [if_true, if_false, Bool.false_eq_true, impl_inOrder.l0, if_pos, w64s, w64q, h2, h2']
    · by_cases c : cmpL p x < 0
      · simp (disch := omega) only [if_true, if_false, Bool.false_eq_true, if_neg]
        exact (inOrder_l0 xs hx hm t (j + 1) x h3).cast (by simp [ordFrom, c])
      · simp (disch := omega) only [if_true, if_false, Bool.false_eq_true, if_pos]
        exact (Ev.now _).cast (by simp [ordFrom, c])
theorem inOrder_ev (xs : List (List Int)) (hx : xs.length ≤ 1048576) (hm : ∀ x ∈ xs, x.length ≤ 1048576) : Ev (fun k => impl_inOrder.f k xs) (ordB xs) := by
  cases xs with
  | nil =>
    refine Ev.of1 (fun k => ?_)
    simp [impl_inOrder.f, impl_inOrder.l0, ordB]
  | cons x t => exact Ev.congr (fun k => rfl) (inOrder_l0 (x :: t) hx hm t 0 x rfl)
theorem cmp_lex : ∀ (a b : List Int), a.length = b.length → lexB a b = decide (cmpL a b < 0)
  | [], [], _ => rfl
  | [], y :: b, h => by simp at h
  | x :: a, [], h => by simp at h
  | x :: a, y :: b, h => by
    have ih := cmp_lex a b (by simpa using h)
    by_cases c : x = y
    · subst c
      simp [lexB, cmpL, ih]
    · rcases Int.lt_or_gt_of_ne c with c1 | c1
      · simp [lexB, cmpL, c, c1]
      · have c2 : ¬ x < y := by omega
        simp [lexB, cmpL, c, c1, c2]
def seeB : List Int → List Bool → Option (List Bool)
  | [], S => some S
  | x :: t, S => if rdOf false S x = true then none else seeB t (S.set x.toNat true)
theorem seeB_length : ∀ (t : List Int) (S S' : List Bool), seeB t S = some S' → S'.length = S.length
  | [], S, S', h => by simp [seeB] at h; rw [h]
  | x :: t, S, S', h => by
    unfold seeB at h
    by_cases c : rdOf false S x = true
    · rw [if_pos c] at h; cases h
    · rw [if_neg c] at h
      simpa using seeB_length t _ _ h
def okS (v : Int) : List Int → Bool
  | [a, b, c] => decide (0 ≤ a ∧ a < b ∧ b < c ∧ c < v)
  | _ => false
def pairsS (v : Int) : List Int → List Int
  | [a, b, c] => [a * v + b, a * v + c, b * v + c]
  | _ => []
def sysLoop (v : Int) (fin : Bool) : List (List Int) → List Bool → Bool
  | [], _ => fin
  | t :: T, S => okS v t && match seeB (pairsS v t) S with
    | none => false
    | some S' => sysLoop v fin T S'
def leadB : Option (List Int) → List Int → Bool
  | none, _ => true
  | some q, t => lexB q t
def sysLoopP (v : Int) (fin : Bool) : Option (List Int) → List (List Int) → List Bool → Bool
  | _, [], _ => fin
  | p, t :: T, S => okS v t && (leadB p t && match seeB (pairsS v t) S with
    | none => false
    | some S' => sysLoopP v fin (some t) T S')
theorem okS_form {v : Int} {t : List Int} (h : okS v t = true) : ∃ a b c, t = [a, b, c] ∧ 0 ≤ a ∧ a < b ∧ b < c ∧ c < v := by
  unfold okS at h
  split at h
  · exact ⟨_, _, _, rfl, by simpa using h⟩
  · cases h
theorem sys_same (v : Int) (fin : Bool) : ∀ (T : List (List Int)) (p : List Int) (S : List Bool), p.length = 3 → sysLoopP v fin (some p) T S = (ordFrom p T && sysLoop v fin T S)
  | [], p, S, hp => by simp [sysLoopP, ordFrom, sysLoop]
  | t :: T, p, S, hp => by
    unfold sysLoopP sysLoop ordFrom leadB
    by_cases c : okS v t = true
    · obtain ⟨a, b, d, rfl, _⟩ := okS_form c
      simp only [c, Bool.true_and]
      rw [cmp_lex p [a, b, d] (by simpa using hp)]
      cases seeB (pairsS v [a, b, d]) S with
      | none => simp
      | some S' =>
        simp only []
        rw [sys_same v fin T [a, b, d] S' rfl, Bool.and_assoc]
    · simp [c]
theorem sys_same0 (v : Int) (fin : Bool) (T : List (List Int)) (S : List Bool) : sysLoopP v fin none T S = (ordB T && sysLoop v fin T S) := by
  cases T with
  | nil => simp [sysLoopP, ordB, sysLoop]
  | cons t T =>
    unfold sysLoopP sysLoop ordB leadB
    by_cases c : okS v t = true
    · obtain ⟨a, b, d, rfl, _⟩ := okS_form c
      simp only [c, Bool.true_and]
      cases seeB (pairsS v [a, b, d]) S with
      | none => simp
      | some S' =>
        simp only []
        exact sys_same v fin T [a, b, d] S' rfl
    · simp [c]
theorem idx_facts {a b v : Int} (h0 : 0 ≤ a) (h1 : a < v) (h2 : 0 ≤ b) (h3 : b < v) (hv : v ≤ 40) : 0 ≤ a * v ∧ a * v ≤ 1600 ∧ 0 ≤ a * v + b ∧ a * v + b < v * v ∧ v * v ≤ 1600 := by
  have e1 : a * v ≤ (v - 1) * v := Int.mul_le_mul_of_nonneg_right (by omega) (by omega)
  have e2 : (v - 1) * v = v * v - v := by rw [Int.sub_mul, Int.one_mul]
  have e3 : v * v ≤ 40 * v := Int.mul_le_mul_of_nonneg_right hv (by omega)
  have e4 : 0 ≤ a * v := Int.mul_nonneg h0 (by omega)
  omega
def sysB (v : Int) (L : List (List Int)) : Bool := ordB L && sysLoop v (decide (6 * (L.length : Int) = v * (v - 1))) L (List.replicate (v * v).toNat false)
theorem sys_fin {v : Int} (L : List (List Int)) (hL : L.length ≤ 1048576) (h0 : 0 ≤ v) (hv : v ≤ 40) : (wrap64 (6 * (L.length : Int)) == wrap64 (v * wrap64 (v - 1))) = decide (6 * (L.length : Int) = v * (v - 1)) := by
  have e1 : wrap64 (v - 1) = v - 1 := w64 (by omega) (by omega)
  have e3 : v * v ≤ 40 * v := Int.mul_le_mul_of_nonneg_right hv (by omega)
  have e4 : 0 ≤ v * v := Int.mul_nonneg h0 h0
  have e5 : v * (v - 1) = v * v - v := by rw [Int.mul_sub, Int.mul_one]
  rw [e1, w64 (by omega) (by omega), w64 (by omega) (by omega)]
  rfl
def okD (v n : Int) : List Int → Bool
  | [a, b, c] => decide (1 ≤ a ∧ a ≤ b ∧ b ≤ c ∧ c ≤ 3 * n ∧ (a + b = c ∨ a + b + c = v))
  | _ => false
theorem okD_form {v n : Int} {t : List Int} (h : okD v n t = true) : ∃ a b c, t = [a, b, c] ∧ 1 ≤ a ∧ a ≤ b ∧ b ≤ c ∧ c ≤ 3 * n ∧ (a + b = c ∨ a + b + c = v) := by
  unfold okD at h
  split at h
  · exact ⟨_, _, _, rfl, of_decide_eq_true h⟩
  · cases h
def splitD (v n : Int) : Option (List Int) → List (List Int) → Bool
  | _, [] => true
  | p, t :: T => okD v n t && (leadB p t && splitD v n (some t) T)
set_option maxHeartbeats 2000000 in
theorem trDiff_l0 (v : Int) (L : List (List Int)) (hn1 : 1 ≤ L.length) (hn2 : L.length ≤ 10) (hm : ∀ x ∈ L, x.length ≤ 1048576) : ∀ (T : List (List Int)) (i : Nat) (p : Option (List Int)), L.drop i = T →
    (match p with | none => i = 0 | some q => q.length = 3 ∧ ∃ j, i = j + 1 ∧ L[j]? = some q) →
    Ev (fun k => spec_trDifferences.l0 k v L (L.length : Int) L L.length (i : Int)) (splitD v L.length p T && onceFin (onceL L.flatten (marksL L.length)))
  | [], i, p, h, hp => by
    have h1 := dropNil h
    obtain ⟨K1, k1⟩ := trMarks_ev L.length hn1 hn2
    obtain ⟨K2, k2⟩ := trOnce_ev L (marksL L.length) (by omega) hm (by simp [marksL]) (by simp [marksL]; omega)
    refine ⟨K1 + K2 + 1, fun k hk => ?_⟩
    obtain ⟨k, rfl⟩ : ∃ m, k = m + 1 := ⟨k - 1, by omega⟩
    have a1 := k1 k (by omega)
    have a2 := k2 k (by omega)
    simp only [] at a1 a2
    simp (disch := omega) only [if_true, if_false, Bool.false_eq_true, spec_trDifferences.l0, if_neg, a1, a2, Option.bind_some, splitD, Bool.true_and]
  | t :: T, i, p, h, hp => by
    obtain ⟨h1, h2, h3⟩ := dropConsL h
    have ht := hm t (memDrop h)
    have e0 : wrap64 (3 * (L.length : Int)) = 3 * (L.length : Int) := w64 (by omega) (by omega)
    by_cases c3 : t.length = 3
    · obtain ⟨a, b, c, rfl⟩ : ∃ a b c, t = [a, b, c] := by
        match t, c3 with
        | [a, b, c], _ => exact ⟨a, b, c, rfl⟩
      have f0 : rd [a, b, c] 0 = a := rfl
      have f1 : rd [a, b, c] 1 = b := rfl
      have f2 : rd [a, b, c] 2 = c := rfl
      have f3 : (([a, b, c] : List Int).length : Int) = 3 := rfl
      obtain ⟨K1, k1⟩ := l1All_ev [a, b, c] 1 (3 * (L.length : Int)) ht
      by_cases ca : (1 ≤ a ∧ a ≤ 3 * (L.length : Int)) ∧ (1 ≤ b ∧ b ≤ 3 * (L.length : Int)) ∧ (1 ≤ c ∧ c ≤ 3 * (L.length : Int))
      · obtain ⟨⟨ca1, ca2⟩, ⟨cb1, cb2⟩, cc1, cc2⟩ := ca
        have hall : ([a, b, c].all fun n => decide (1 ≤ n ∧ n ≤ 3 * (L.length : Int))) = true := by simp [ca1, ca2, cb1, cb2, cc1, cc2]
        rw [hall] at k1
        have e1 : wrap64 (a + b) = a + b := w64 (by omega) (by omega)
        have e2 : wrap64 (a + b + c) = a + b + c := w64 (by omega) (by omega)
        by_cases co : (a ≤ b ∧ b ≤ c) ∧ (a + b = c ∨ a + b + c = v)
        · obtain ⟨⟨o1, o2⟩, o3⟩ := co
          have hok : okD v L.length [a, b, c] = true := by simp [okD]; omega
          obtain ⟨K2, k2⟩ := trDiff_l0 v L hn1 hn2 hm T (i + 1) (some [a, b, c]) h3 ⟨rfl, i, rfl, dropGet h⟩
          have step : ∀ k, spec_l1All.f k [a, b, c] 1 (3 * (L.length : Int)) = some true → spec_trDifferences.l0 (k + 1) v L (L.length : Int) L L.length (i : Int) =
              if (i : Int) > 0 then (if 0 ≤ (wrap64 ((i : Int) - 1)) then (if (wrap64 ((i : Int) - 1)) < (L.length : Int) then ((spec_trLess.f k (rd_L1 L (wrap64 ((i : Int) - 1))) [a, b, c]).bind fun t143 => (if t143 = true then (spec_trDifferences.l0 k v L (L.length : Int) L L.length (wrap64 ((i : Int) + 1))) else (some false))) else none) else none) else (spec_trDifferences.l0 k v L (L.length : Int) L L.length (wrap64 ((i : Int) + 1))) := fun k hk => by
            by_cases s1 : a + b = c
            · simp (disch := omega) only [spec_trDifferences.l0, if_pos, if_neg, h2, f0, f1, f2, f3, e0, e1, hk, Option.bind_some, if_true]
            · have s2 : a + b + c = v := by omega
              simp (disch := omega) only [spec_trDifferences.l0, if_pos, if_neg, h2, f0, f1, f2, f3, e0, e1, e2, hk, Option.bind_some, if_true]
          match p, hp with
          | none, hp =>
            have hp' : i = 0 := hp
            subst hp'
            refine ⟨K1 + K2 + 1, fun k hk => ?_⟩
            obtain ⟨k, rfl⟩ : ∃ m, k = m + 1 := ⟨k - 1, by omega⟩
            have a1 := k1 k (by omega)
            have a2 := k2 k (by omega)
            simp only [] at a1 a2
            refine (step k a1).trans ?_
            simp (disch := omega) only [if_neg, w64s]
            rw [a2]
            simp [splitD, hok, leadB]
          | some q, hp =>
            obtain ⟨hq3, j, rfl, hj⟩ := hp
            have hq : rd_L1 L (j : Int) = q := by simp [rd_L1, List.getD_eq_getElem?_getD, hj]
            obtain ⟨K3, k3⟩ := trLess_ev q [a, b, c] (by omega) (by simpa using hq3)
            refine ⟨K1 + K2 + K3 + 1, fun k hk => ?_⟩
            obtain ⟨k, rfl⟩ : ∃ m, k = m + 1 := ⟨k - 1, by omega⟩
            have a1 := k1 k (by omega)
            have a2 := k2 k (by omega)
            have a3 := k3 k (by omega)
            simp only [] at a1 a2 a3
            refine (step k a1).trans ?_
            simp (disch := omega) only [if_pos, a3, hq, w64q, Option.bind_some, w64s]
            rw [a2]
            cases cl : lexB q [a, b, c] <;> simp [splitD, hok, cl, leadB]
        · have hok : okD v L.length [a, b, c] = false := by simp [okD]; omega
          refine ⟨K1 + 1, fun k hk => ?_⟩
          obtain ⟨k, rfl⟩ : ∃ m, k = m + 1 := ⟨k - 1, by omega⟩
          have a1 := k1 k (by omega)
          simp only [] at a1
          have hr : splitD v L.length p ([a, b, c] :: T) = false := by simp [splitD, hok]
          rw [hr, Bool.false_and]
          by_cases d1 : a > b
          · simp (disch := omega) only [spec_trDifferences.l0, if_pos, if_neg, h2, f0, f1, f2, f3, e0, e1, a1, Option.bind_some, if_true]
          · by_cases d2 : b > c
            · simp (disch := omega) only [spec_trDifferences.l0, if_pos, if_neg, h2, f0, f1, f2, f3, e0, e1, a1, Option.bind_some, if_true]
            · have d3 : ¬ a + b = c := by omega
              have d4 : ¬ a + b + c = v := by omega
              simp (disch := omega) only [spec_trDifferences.l0, if_pos, if_neg, h2, f0, f1, f2, f3, e0, e1, e2, a1, Option.bind_some, if_true]
      · have hall : ([a, b, c].all fun n => decide (1 ≤ n ∧ n ≤ 3 * (L.length : Int))) = false := by
          cases hh : ([a, b, c].all fun n => decide (1 ≤ n ∧ n ≤ 3 * (L.length : Int))) with
          | false => rfl
          | true =>
            simp only [List.all_cons, List.all_nil, Bool.and_eq_true, decide_eq_true_eq, and_true] at hh
            exact absurd hh ca
        rw [hall] at k1
        have hok : okD v L.length [a, b, c] = false := by simp [okD]; omega
        refine ⟨K1 + 1, fun k hk => ?_⟩
        obtain ⟨k, rfl⟩ : ∃ m, k = m + 1 := ⟨k - 1, by omega⟩
        have a1 := k1 k (by omega)
        simp only [] at a1
        have hr : splitD v L.length p ([a, b, c] :: T) = false := by simp [splitD, hok]
        rw [hr, Bool.false_and]
        show spec_trDifferences.l0 (k + 1) v L (L.length : Int) L (L.length : Int) (i : Int) = some false
        unfold spec_trDifferences.l0
        rw [h2, if_pos (by omega), if_pos (by omega), if_pos (by omega), if_pos f3, e0, a1]
        rfl
    · have hok : okD v L.length t = false := by
        cases hk : okD v L.length t with
        | false => rfl
        | true => obtain ⟨a, b, c, rfl, _⟩ := okD_form hk; exact absurd rfl c3
      have hr : splitD v L.length p (t :: T) = false := by simp [splitD, hok]
      rw [hr, Bool.false_and]
      refine Ev.of1 (fun k => ?_)
      simp (disch := omega) only [spec_trDifferences.l0, if_pos, if_neg, h2]
theorem lex_S : ∀ (a b : List Int), a.length = b.length → lexB a b = decide (Search.cmpL a b < 0)
  | [], [], _ => rfl
  | [], y :: b, h => by simp at h
  | x :: a, [], h => by simp at h
  | x :: a, y :: b, h => by
    have ih := lex_S a b (by simpa using h)
    by_cases c : x = y
    · subst c
      simp [lexB, Search.cmpL, ih]
    · rcases Int.lt_or_gt_of_ne c with c1 | c1
      · simp [lexB, Search.cmpL, c, c1]
      · have c2 : ¬ x < y := by omega
        simp [lexB, Search.cmpL, c, c1, c2]
theorem trPut_l0 (l : List (List Int)) (x : List Int) (hl : l.length ≤ 100000) (hx : x.length = 3) (h3 : ∀ y ∈ l, y.length = 3) : ∀ p, p ≤ l.length → Ev (fun k => spec_trPut.l0 k l x (p : Int)) (l.take (Search.putAt x l p) ++ x :: l.drop (Search.putAt x l p))
  | 0, hp => by
    refine Ev.of1 (fun k => ?_)
    rw [spec_trPut.l0, if_neg (by omega)]
    simp [Search.putAt]
    omega
  | p + 1, hp => by
    have hpl : p < l.length := by omega
    have hr : rd_L1 l (p : Int) = l[p] := by simp [rd_L1, List.getD_eq_getElem?_getD, hpl]
    have hg : l.getD p [] = l[p] := by simp [List.getD_eq_getElem?_getD, hpl]
    have hy := h3 l[p] (List.getElem_mem hpl)
    obtain ⟨K1, k1⟩ := trLess_ev x l[p] (by omega) (by omega)
    rw [lex_S x l[p] (by omega)] at k1
    by_cases c : Search.cmpL x l[p] < 0
    · obtain ⟨K2, k2⟩ := trPut_l0 l x hl hx h3 p (by omega)
      refine ⟨K1 + K2 + 1, fun k hk => ?_⟩
      obtain ⟨k, rfl⟩ : ∃ m, k = m + 1 := ⟨k - 1, by omega⟩
      have a1 := k1 k (by omega)
      have a2 := k2 k (by omega)
      simp only [decide_eq_true c] at a1 a2
      show spec_trPut.l0 (k + 1) l x ((p + 1 : Nat) : Int) = _
      rw [spec_trPut.l0, if_pos (by omega), w64q (by omega), if_pos (by omega), if_pos (by omega), hr, a1, Option.bind_some, if_pos rfl, a2]
      simp only [Search.putAt, hg, c, if_true]
    · refine ⟨K1 + 1, fun k hk => ?_⟩
      obtain ⟨k, rfl⟩ : ∃ m, k = m + 1 := ⟨k - 1, by omega⟩
      have a1 := k1 k (by omega)
      simp only [decide_eq_false c] at a1
      show spec_trPut.l0 (k + 1) l x ((p + 1 : Nat) : Int) = _
      rw [spec_trPut.l0, if_pos (by omega), w64q (by omega), if_pos (by omega), if_pos (by omega), hr, a1, Option.bind_some, if_neg (by simp)]
      have ep : Search.putAt x l (p + 1) = p + 1 := by simp only [Search.putAt, hg, c, if_false]
      rw [ep, Option.bind_some, if_pos (by omega), if_pos (by omega), Option.bind_some, Int.toNat_natCast]
      simp only [List.nil_append, List.length_nil, Nat.zero_add, List.length_take, Option.bind_some, List.length_append, List.length_drop, List.length_singleton]
      rw [if_pos (by omega), if_pos (by omega), if_pos (by omega)]
      simp
theorem trPut_ev (l : List (List Int)) (x : List Int) (hl : l.length ≤ 100000) (hx : x.length = 3) (h3 : ∀ y ∈ l, y.length = 3) : Ev (fun k => spec_trPut.f k l x) (Search.putL x l) :=
  Ev.congr (fun k => rfl) (trPut_l0 l x hl hx h3 l.length (Nat.le_refl _))
theorem trSort_ev (a b c : Int) : Ev (fun k => spec_trSort.f k a b c) (Search.ins3 a b c) := by
  refine Ev.of1 (fun k => ?_)
  unfold spec_trSort.f Search.ins3
  by_cases c1 : b < a
  · rw [if_pos (show a > b from c1), if_pos c1, spec_trSort.j0]
    by_cases c2 : c < a
    · rw [if_pos (show a > c from c2), if_pos c2]
      by_cases c3 : c < b
      · rw [if_pos (show b > c from c3), if_pos c3]
      · rw [if_neg (show ¬ b > c from c3), if_neg c3]
    · rw [if_neg (show ¬ a > c from c2), if_neg c2, if_neg (by omega)]
  · rw [if_neg (show ¬ a > b from c1), if_neg c1, spec_trSort.j0]
    by_cases c2 : c < b
    · rw [if_pos (show b > c from c2), if_pos c2]
      by_cases c3 : c < a
      · rw [if_pos (show a > c from c3), if_pos c3]
      · rw [if_neg (show ¬ a > c from c3), if_neg c3]
    · rw [if_neg (show ¬ b > c from c2), if_neg c2, if_neg (by omega)]
theorem trBlocks_l1 (v : Int) (hv : 1 ≤ v ∧ v ≤ 40) (L : List (List Int)) (hL : L.length ≤ 10) (i : Nat) (hi : i < L.length) (t : List Int) (ht : t.length = 3) (hb : 0 ≤ rd t 0 ∧ rd t 0 ≤ 1000 ∧ 0 ≤ rd t 1 ∧ rd t 1 ≤ 1000) (r : List (List Int)) : ∀ (n : Nat) (kk : Int) (out : List (List Int)), kk + n = v → 0 ≤ kk → out.length + n ≤ 100000 → (∀ y ∈ out, y.length = 3) →
    Ev (fun k => spec_trBlocks.l0 k v (Search.putAll out (Search.circRows v t n kk)) L L.length ((i + 1 : Nat) : Int)) r → Ev (fun k => spec_trBlocks.l1 k v out t kk L L.length (i : Int)) r
  | 0, kk, out, hk, h0, ho, h3, h => by
    refine Ev.step (fun k => ?_) h
    rw [spec_trBlocks.l1, if_neg (by omega), w64s (by omega)]
    rfl
  | n + 1, kk, out, hk, h0, ho, h3, h => by
    have e1 : wrap64 (kk + rd t 0) = kk + rd t 0 := w64 (by omega) (by omega)
    have e2 : wrap64 (kk + rd t 0 + rd t 1) = kk + rd t 0 + rd t 1 := w64 (by omega) (by omega)
    have e3 : wrap64 (kk + 1) = kk + 1 := w64 (by omega) (by omega)
    have hput : (Search.putL (Search.circRow v t kk) out).length = out.length + 1 := by rw [(Search.putL_perm _ _).length_eq]; rfl
    obtain ⟨K1, k1⟩ := trSort_ev kk (Int.tmod (kk + rd t 0) v) (Int.tmod (kk + rd t 0 + rd t 1) v)
    obtain ⟨K2, k2⟩ := trPut_ev out (Search.circRow v t kk) (by omega) (Search.ins3_len _ _ _) h3
    obtain ⟨K3, k3⟩ := trBlocks_l1 v hv L hL i hi t ht hb r n (kk + 1) (Search.putL (Search.circRow v t kk) out) (by omega) (by omega) (by omega) (fun y hy => by
      rcases List.mem_cons.1 ((Search.putL_perm _ _).mem_iff.1 hy) with rfl | hy
      · exact Search.ins3_len _ _ _
      · exact h3 y hy) h
    refine ⟨K1 + K2 + K3 + 1, fun k hk => ?_⟩
    obtain ⟨k, rfl⟩ : ∃ m, k = m + 1 := ⟨k - 1, by omega⟩
    have a1 := k1 k (by omega)
    have a2 := k2 k (by omega)
    have a3 := k3 k (by omega)
    simp only [Search.circRow] at a1 a2 a3
    show spec_trBlocks.l1 (k + 1) v out t kk L (L.length : Int) (i : Int) = _
    rw [spec_trBlocks.l1, if_pos (by omega), if_pos (by omega), if_neg (by omega), if_pos (by omega), e1, e2, e3, a1, Option.bind_some, a2, Option.bind_some]
    exact a3
theorem trBlocks_l0 (v : Int) (hv : 1 ≤ v ∧ v ≤ 40) (L : List (List Int)) (hL : L.length ≤ 10) (h : ∀ t ∈ L, t.length = 3 ∧ 0 ≤ rd t 0 ∧ rd t 0 ≤ 1000 ∧ 0 ≤ rd t 1 ∧ rd t 1 ≤ 1000) : ∀ (T : List (List Int)) (i : Nat) (out : List (List Int)), L.drop i = T → out.length ≤ 40 * i → (∀ y ∈ out, y.length = 3) →
    Ev (fun k => spec_trBlocks.l0 k v out L L.length (i : Int)) (Search.putAll out (Search.circAll v T))
  | [], i, out, hd, ho, h3 => by
    have h1 := dropNil hd
    refine Ev.of1 (fun k => ?_)
    rw [spec_trBlocks.l0, if_neg (by omega)]
    rfl
  | t :: T, i, out, hd, ho, h3 => by
    obtain ⟨h1, h2, h4⟩ := dropConsL hd
    have ht := h t (memDrop hd)
    have ho2 : (Search.putAll out (Search.circRows v t v.toNat 0)).length ≤ 40 * (i + 1) := by rw [Search.putAll_len, Search.circRows_len]; omega
    have hs : ∀ y ∈ Search.putAll out (Search.circRows v t v.toNat 0), y.length = 3 := Search.putAll_all3 (Search.circRows_small v t _ _) h3
    refine Ev.step (f := fun k => spec_trBlocks.l1 k v out t 0 L L.length (i : Int)) (fun k => ?_) (trBlocks_l1 v hv L hL i h1 t ht.1 ht.2 _ v.toNat 0 out (by omega) (by omega) (by omega) h3 ?_)
    · rw [spec_trBlocks.l0, if_pos (by omega), if_pos (by omega), if_pos (by omega), h2]
    · refine (trBlocks_l0 v hv L hL h T (i + 1) _ h4 ho2 hs).cast ?_
      rw [show Search.circAll v (t :: T) = Search.circRows v t v.toNat 0 ++ Search.circAll v T from rfl, Search.putAll_append]
theorem trBlocks_ev (v : Int) (hv : 1 ≤ v ∧ v ≤ 40) (L : List (List Int)) (hL : L.length ≤ 10) (h : ∀ t ∈ L, t.length = 3 ∧ 0 ≤ rd t 0 ∧ rd t 0 ≤ 1000 ∧ 0 ≤ rd t 1 ∧ rd t 1 ≤ 1000) : Ev (fun k => spec_trBlocks.f k v L) (Search.putAll [] (Search.circAll v L)) :=
  Ev.congr (fun k => rfl) (trBlocks_l0 v hv L hL h L 0 [] rfl (by simp) (by simp))
def splitE (v n : Int) : List (List Int) → List Bool → Bool
  | [], _ => true
  | t :: T, S => okD v n t && match seeB t S with
    | none => false
    | some S' => splitE v n T S'
theorem areDiff_l1 (v n : Int) (L : List (List Int)) (hL : L.length ≤ 1048576) (i : Nat) (hi : i < L.length) (r : Bool) (u : List Int) (hu : u.length ≤ 1048576) : ∀ (s : List Int) (j : Nat) (S : List Bool), u.drop j = s → (∀ x ∈ s, 0 ≤ x ∧ x < S.length) →
    contB r (fun S' k => impl_areDifferences.l0 k v n S' L L.length ((i + 1 : Nat) : Int)) (seeB s S) → Ev (fun k => impl_areDifferences.l1 k v n S L L.length (i : Int) u u.length (j : Int)) r
  | [], j, S, h, hb, hc => by
    have h1 := dropNil h
    refine Ev.step (fun k => ?_) hc
    simp (disch := omega) only [if_true, if_false, Bool.false_eq_true, impl_areDifferences.l1, if_neg, w64s]
  | x :: s, j, S, h, hb, hc => by
    obtain ⟨h1, h2, h3⟩ := dropCons h
    have hx := hb x (by simp)
    unfold seeB at hc
    by_cases c : rdOf false S x = true
    · rw [if_pos c] at hc
      have hc' : r = false := hc
      subst hc'
      refine Ev.of1 (fun k => ?_)
      simp (disch := omega) only [if_true, if_false, Bool.false_eq_true, impl_areDifferences.l1, if_pos, h2, c]
    · rw [if_neg c] at hc
      have c' : rdOf false S x = false := by simpa using c
      refine Ev.step (f := fun k => impl_areDifferences.l1 k v n (S.set x.toNat true) L L.length (i : Int) u u.length ((j + 1 : Nat) : Int)) (fun k => ?_) (areDiff_l1 v n L hL i hi r u hu s (j + 1) _ h3 (fun y hy => by simpa using hb y (by simp [hy])) hc)
      simp (disch := omega) only [if_true, if_false, Bool.false_eq_true, impl_areDifferences.l1, if_pos, h2, c', w64s, Bool.false_eq_true]
theorem areDiff_l0 (v : Int) (n : Nat) (hn2 : n ≤ 10) (L : List (List Int)) (hL : L.length ≤ 1048576) (hm : ∀ x ∈ L, x.length ≤ 1048576) : ∀ (T : List (List Int)) (i : Nat) (S : List Bool), L.drop i = T → S.length = 3 * n + 1 → Ev (fun k => impl_areDifferences.l0 k v (n : Int) S L L.length (i : Int)) (splitE v n T S)
  | [], i, S, h, hS => by
    have h1 := dropNil h
    refine Ev.of1 (fun k => ?_)
    simp (disch := omega) only [if_true, if_false, Bool.false_eq_true, impl_areDifferences.l0, if_neg, splitE]
  | t :: T, i, S, h, hS => by
    obtain ⟨h1, h2, h3⟩ := dropConsL h
    have ht := hm t (memDrop h)
    have e0 : wrap64 (3 * (n : Int)) = 3 * (n : Int) := w64 (by omega) (by omega)
    by_cases c3 : t.length = 3
    · obtain ⟨a, b, c, rfl⟩ : ∃ a b c, t = [a, b, c] := by
        match t, c3 with
        | [a, b, c], _ => exact ⟨a, b, c, rfl⟩
      have f0 : rd [a, b, c] 0 = a := rfl
      have f1 : rd [a, b, c] 1 = b := rfl
      have f2 : rd [a, b, c] 2 = c := rfl
      have f3 : (([a, b, c] : List Int).length : Int) = 3 := rfl
      by_cases c1 : 1 ≤ a ∧ a ≤ b ∧ b ≤ c ∧ c ≤ 3 * (n : Int)
      · have e1 : wrap64 (a + b) = a + b := w64 (by omega) (by omega)
        have e2 : wrap64 (a + b + c) = a + b + c := w64 (by omega) (by omega)
        have step : ∀ k, impl_areDifferences.l0 (k + 1) v (n : Int) S L L.length (i : Int) = impl_areDifferences.j2 k v (n : Int) S [a, b, c] L L.length (i : Int) (!okD v n [a, b, c]) := fun k => by
          by_cases s1 : a + b = c
          · have hok : okD v (n : Int) [a, b, c] = true := by simp [okD]; omega
            simp (disch := omega) only [if_true, impl_areDifferences.l0, if_pos, if_neg, h2, f0, f1, f2, f3, e0, e1, hok, Bool.not_true]
          · by_cases s2 : a + b + c = v
            · have hok : okD v (n : Int) [a, b, c] = true := by simp [okD]; omega
              have s3 : (a + b + c != v) = false := by simp [s2]
              simp (disch := omega) only [if_true, impl_areDifferences.l0, if_pos, if_neg, h2, f0, f1, f2, f3, e0, e1, e2, hok, Bool.not_true, s3]
            · have hok : okD v (n : Int) [a, b, c] = false := by simp [okD]; omega
              have s3 : (a + b + c != v) = true := by simp [s2]
              simp (disch := omega) only [if_true, impl_areDifferences.l0, if_pos, if_neg, h2, f0, f1, f2, f3, e0, e1, e2, hok, Bool.not_false, s3]
        refine Ev.step step ?_
        cases hok : okD v (n : Int) [a, b, c] with
        | true =>
          refine Ev.step (f := fun k => impl_areDifferences.l1 k v (n : Int) S L L.length (i : Int) [a, b, c] (([a, b, c] : List Int).length : Int) ((0 : Nat) : Int)) (fun k => ?_) (areDiff_l1 v (n : Int) L hL i h1 _ [a, b, c] ht [a, b, c] 0 S rfl ?_ ?_)
          · simp only [impl_areDifferences.j2, Bool.not_true, Bool.false_eq_true, if_false]
            rfl
          · intro x hx
            simp only [List.mem_cons, List.not_mem_nil, or_false] at hx
            rcases hx with rfl | rfl | rfl <;> omega
          · unfold splitE
            rw [hok]
            simp only [Bool.true_and]
            cases e : seeB [a, b, c] S with
            | none => rfl
            | some S' => exact areDiff_l0 v n hn2 L hL hm T (i + 1) S' h3 (by rw [seeB_length _ _ _ e]; exact hS)
        | false =>
          refine Ev.of1 (fun k => ?_)
          simp only [impl_areDifferences.j2, Bool.not_false, if_true]
          simp [splitE, hok]
      · have hok : okD v (n : Int) [a, b, c] = false := by simp [okD]; omega
        refine ⟨2, fun k hk => ?_⟩
        obtain ⟨k, rfl⟩ : ∃ m, k = m + 2 := ⟨k - 2, by omega⟩
        have hr : splitE v (n : Int) ([a, b, c] :: T) S = false := by simp [splitE, hok]
        rw [hr]
        by_cases d0 : a < 1
        · simp (disch := omega) only [if_true, if_false, Bool.false_eq_true, impl_areDifferences.l0, impl_areDifferences.j2, if_pos, if_neg, h2, f0, f1, f2, f3]
        · by_cases d1 : a > b
          · simp (disch := omega) only [if_true, if_false, Bool.false_eq_true, impl_areDifferences.l0, impl_areDifferences.j2, if_pos, if_neg, h2, f0, f1, f2, f3]
          · by_cases d2 : b > c
            · simp (disch := omega) only [if_true, if_false, Bool.false_eq_true, impl_areDifferences.l0, impl_areDifferences.j2, if_pos, if_neg, h2, f0, f1, f2, f3]
            · have d3 : c > 3 * (n : Int) := by omega
              simp (disch := omega) only [if_true, if_false, Bool.false_eq_true, impl_areDifferences.l0, impl_areDifferences.j2, if_pos, if_neg, h2, f0, f1, f2, f3, e0]
    · have hok : okD v (n : Int) t = false := by
        cases hk : okD v (n : Int) t with
        | false => rfl
        | true => obtain ⟨a, b, c, rfl, _⟩ := okD_form hk; exact absurd rfl c3
      refine ⟨2, fun k hk => ?_⟩
      obtain ⟨k, rfl⟩ : ∃ m, k = m + 2 := ⟨k - 2, by omega⟩
      simp (disch := omega) only [if_true, if_false, Bool.false_eq_true, impl_areDifferences.l0, impl_areDifferences.j2, if_pos, if_neg, h2]
      simp [splitE, hok]
theorem seeB_append : ∀ (a b : List Int) (S : List Bool), seeB (a ++ b) S = (seeB a S).bind (seeB b)
  | [], b, S => rfl
  | x :: a, b, S => by
    simp only [List.cons_append, seeB]
    split
    · rfl
    · exact seeB_append a b _
def trues : List Bool → Nat
  | [] => 0
  | b :: t => (if b then 1 else 0) + trues t
theorem trues_set : ∀ (M : List Bool) (i : Nat), M[i]? = some true → trues (M.set i false) + 1 = trues M
  | [], i, h => by simp at h
  | b :: M, 0, h => by
    simp at h
    subst h
    simp [trues, Nat.add_comm]
  | b :: M, i + 1, h => by
    have := trues_set M i (by simpa using h)
    simp only [List.set_cons_succ, trues]
    omega
theorem trues_zero : ∀ (M : List Bool), (M.all fun b => !b) = decide (trues M = 0)
  | [] => rfl
  | b :: M => by
    rw [List.all_cons, trues_zero M]
    cases b <;> simp [trues]
theorem trues_append : ∀ (a b : List Bool), trues (a ++ b) = trues a + trues b
  | [], b => by simp [trues]
  | x :: a, b => by simp only [List.cons_append, trues, trues_append a b]; omega
theorem trues_replicate : ∀ n, trues (List.replicate n true) = n
  | 0 => rfl
  | n + 1 => by simp only [List.replicate_succ, trues, trues_replicate n]; simp; omega
theorem rdOf_true {M : List Bool} {x : Int} (h : rdOf false M x = true) : M[x.toNat]? = some true := by
  unfold rdOf at h
  rw [List.getD_eq_getElem?_getD] at h
  cases e : M[x.toNat]? with
  | none => rw [e] at h; simp at h
  | some b => rw [e] at h; simp at h; rw [h]
theorem onceL_count : ∀ (l : List Int) (M M' : List Bool), onceL l M = some M' → trues M' + l.length = trues M
  | [], M, M', h => by simp [onceL] at h; rw [h]; rfl
  | x :: l, M, M', h => by
    unfold onceL at h
    split at h
    · rename_i c
      have h1 := onceL_count l _ _ h
      have h2 := trues_set M x.toNat (rdOf_true c.2)
      simp only [List.length_cons]
      omega
    · cases h
theorem getD_set (l : List Bool) (i j : Nat) (b : Bool) (hi : i < l.length) : (l.set i b).getD j false = if i = j then b else l.getD j false := by
  rw [List.getD_eq_getElem?_getD, List.getElem?_set, List.getD_eq_getElem?_getD]
  by_cases c : i = j
  · subst c
    simp [hi]
  · simp [c]
def relD (n : Nat) (M S : List Bool) : Prop := M.length = 3 * n + 2 ∧ S.length = 3 * n + 1 ∧ ∀ x : Nat, x < 3 * n + 1 → M.getD x false = (decide (1 ≤ x) && !S.getD x false)
theorem relD_set {n : Nat} {M S : List Bool} (h : relD n M S) (x : Nat) (hx : x < 3 * n + 1) : relD n (M.set x false) (S.set x true) := by
  obtain ⟨h1, h2, h3⟩ := h
  refine ⟨by simpa using h1, by simpa using h2, fun y hy => ?_⟩
  rw [getD_set _ _ _ _ (by omega), getD_set _ _ _ _ (by omega)]
  by_cases c : x = y
  · simp [c]
  · simp only [c, if_false]
    exact h3 y hy
theorem once_see (n : Nat) : ∀ (l : List Int) (M S : List Bool), relD n M S → (∀ x ∈ l, 1 ≤ x ∧ x ≤ 3 * (n : Int)) → (onceL l M).isSome = (seeB l S).isSome
  | [], M, S, h, hl => rfl
  | x :: l, M, S, h, hl => by
    obtain ⟨hx1, hx2⟩ := hl x (by simp)
    have e := h.2.2 x.toNat (by omega)
    have eM : rdOf false M x = M.getD x.toNat false := rfl
    have eS : rdOf false S x = S.getD x.toNat false := rfl
    have hd : decide (1 ≤ x.toNat) = true := decide_eq_true (by omega)
    rw [hd, Bool.true_and, ← eM, ← eS] at e
    unfold onceL seeB
    have hb : 0 ≤ x ∧ x ≤ (M.length : Int) - 1 := by have := h.1; omega
    cases cS : rdOf false S x with
    | true =>
      rw [cS] at e
      simp [e]
    | false =>
      rw [cS] at e
      have e' : rdOf false M x = true := by simpa using e
      rw [if_pos ⟨hb, e'⟩, if_neg (by simp)]
      exact once_see n l _ _ (relD_set h x.toNat (by omega)) (fun y hy => hl y (by simp [hy]))
theorem relD_start (n : Nat) : relD n (marksL n) (List.replicate (3 * n + 1) false) := by
  refine ⟨by simp [marksL], by simp, fun x hx => ?_⟩
  unfold marksL
  cases x with
  | zero => simp
  | succ x =>
    have c : x < 3 * n := by omega
    rw [List.getD_eq_getElem?_getD, List.getElem?_cons_succ, List.getElem?_append]
    simp [c, List.getD_eq_getElem?_getD, List.getElem?_replicate, hx]
theorem splitD_eq (v n : Int) : ∀ (T : List (List Int)) (p : List Int), p.length = 3 → splitD v n (some p) T = (T.all (okD v n) && ordFrom p T)
  | [], p, hp => rfl
  | t :: T, p, hp => by
    unfold splitD ordFrom
    by_cases c : okD v n t = true
    · obtain ⟨a, b, d, rfl, _⟩ := okD_form c
      simp only [c, Bool.true_and, List.all_cons, leadB]
      rw [cmp_lex p [a, b, d] (by simpa using hp), splitD_eq v n T [a, b, d] rfl]
      cases decide (cmpL p [a, b, d] < 0) <;> simp
    · simp [c]
theorem splitD_eq0 (v n : Int) (T : List (List Int)) : splitD v n none T = (T.all (okD v n) && ordB T) := by
  cases T with
  | nil => rfl
  | cons t T =>
    unfold splitD ordB
    by_cases c : okD v n t = true
    · obtain ⟨a, b, d, rfl, _⟩ := okD_form c
      simp only [c, Bool.true_and, List.all_cons, leadB]
      exact splitD_eq v n T [a, b, d] rfl
    · simp [c]
theorem splitE_eq (v n : Int) : ∀ (T : List (List Int)) (S : List Bool), splitE v n T S = (T.all (okD v n) && (seeB T.flatten S).isSome)
  | [], S => rfl
  | t :: T, S => by
    unfold splitE
    rw [List.flatten_cons, seeB_append, List.all_cons]
    cases e : seeB t S with
    | none => simp
    | some S' =>
      simp only [Option.bind_some]
      rw [splitE_eq v n T S', Bool.and_assoc]
theorem flatD (v n : Int) : ∀ (T : List (List Int)), T.all (okD v n) = true → T.flatten.length = 3 * T.length ∧ ∀ x ∈ T.flatten, 1 ≤ x ∧ x ≤ 3 * n
  | [], _ => ⟨rfl, fun x hx => by simp at hx⟩
  | t :: T, h => by
    rw [List.all_cons, Bool.and_eq_true] at h
    obtain ⟨a, b, c, rfl, h1, h2, h3, h4, _⟩ := okD_form h.1
    obtain ⟨i1, i2⟩ := flatD v n T h.2
    refine ⟨by simp [i1]; omega, fun x hx => ?_⟩
    rw [List.flatten_cons, List.mem_append] at hx
    rcases hx with hx | hx
    · simp only [List.mem_cons, List.not_mem_nil, or_false] at hx
      rcases hx with rfl | rfl | rfl <;> omega
    · exact i2 x hx
theorem diff_same (v : Int) (L : List (List Int)) : (splitD v L.length none L && onceFin (onceL L.flatten (marksL L.length))) = (ordB L && splitE v L.length L (List.replicate (3 * L.length + 1) false)) := by
  rw [splitD_eq0, splitE_eq]
  have hr := relD_start L.length
  cases ct : L.all (okD v L.length) with
  | false => simp
  | true =>
    obtain ⟨f1, f2⟩ := flatD v L.length L ct
    simp only [Bool.true_and]
    congr 1
    have hs := once_see L.length L.flatten _ _ hr f2
    cases e : onceL L.flatten (marksL L.length) with
    | none =>
      rw [e] at hs
      simp only [Option.isSome_none] at hs
      simp [onceFin, ← hs]
    | some M' =>
      rw [e] at hs
      simp only [Option.isSome_some] at hs
      have hc := onceL_count _ _ _ e
      have ht : trues (marksL L.length) = 3 * L.length := by
        unfold marksL
        simp only [trues, trues_append, trues_replicate]
        simp
      have h0 : trues M' = 0 := by omega
      simp only [onceFin, trues_zero, h0, decide_true, ← hs]
theorem isdiff_at (v : Int) (hv : -9223372036854775808 ≤ v ∧ v ≤ 9223372036854775807) : ∃ m, impl_isDifference.f v = some (m, decide ((7 ≤ v ∧ v ≤ 40) ∧ v % 6 = 1)) ∧ (7 ≤ v ∧ v ≤ 40 → m = (v - 1) / 6) := by
  refine ⟨wrap64 (Int.tdiv (wrap64 (v - 1)) 6), ?_, fun h => ?_⟩
  · unfold impl_isDifference.f
    by_cases c1 : 7 ≤ v
    · by_cases c2 : v ≤ 40
      · have e : Int.tmod v 6 = v % 6 := Int.tmod_eq_emod_of_nonneg (by omega)
        by_cases c3 : v % 6 = 1 <;> simp [c1, c2, c3, e]
      · simp [c1, c2]
    · simp [c1]
  · rw [w64 (n := v - 1) (by omega) (by omega), Int.tdiv_eq_ediv_of_nonneg (by omega)]
    exact w64 (by omega) (by omega)
def diffB (v : Int) (L : List (List Int)) : Bool := decide ((7 ≤ v ∧ v ≤ 40) ∧ v = 6 * (L.length : Int) + 1) && (ordB L && splitE v L.length L (List.replicate (3 * L.length + 1) false))
theorem sdiff_ev (v : Int) (L : List (List Int)) (hn : L.length ≤ 10) (hm : ∀ x ∈ L, x.length ≤ 1048576) : Ev (fun k => spec_trDifferences.f k v L) (diffB v L) := by
  have e0 : wrap64 (wrap64 (6 * (L.length : Int)) + 1) = 6 * (L.length : Int) + 1 := by rw [w64 (n := 6 * (L.length : Int)) (by omega) (by omega), w64 (by omega) (by omega)]
  unfold diffB
  by_cases c : 7 ≤ v ∧ v ≤ 40
  · by_cases d : v = 6 * (L.length : Int) + 1
    · obtain ⟨K, hk⟩ := trDiff_l0 v L (by omega) (by omega) hm L 0 none rfl rfl
      refine ⟨K + 1, fun k hk' => ?_⟩
      obtain ⟨k, rfl⟩ : ∃ m, k = m + 1 := ⟨k - 1, by omega⟩
      have a1 := hk k (by omega)
      simp only [Int.natCast_zero] at a1
      have d' : (v != 6 * (L.length : Int) + 1) = false := by simp [← d]
      simp (disch := omega) only [c, spec_trDifferences.f, spec_trDifferences.j0, spec_l1In.f, if_pos, Option.bind_some, decide_true, if_true, and_self, e0, d', if_false, Bool.false_eq_true, decide_eq_true_eq, a1, diff_same]
      simp [← d]
    · refine ⟨1, fun k hk' => ?_⟩
      obtain ⟨k, rfl⟩ : ∃ m, k = m + 1 := ⟨k - 1, by omega⟩
      have d' : (v != 6 * (L.length : Int) + 1) = true := by simp [d]
      simp (disch := omega) only [c, spec_trDifferences.f, spec_trDifferences.j0, spec_l1In.f, if_pos, Option.bind_some, decide_true, if_true, and_self, e0, d', decide_eq_true_eq, d, and_false, decide_false, Bool.false_and]
  · refine ⟨1, fun k hk' => ?_⟩
    obtain ⟨k, rfl⟩ : ∃ m, k = m + 1 := ⟨k - 1, by omega⟩
    have hl : spec_l1In.f v 7 40 = some false := by
      unfold spec_l1In.f
      by_cases c1 : 7 ≤ v
      · simp [c1, show ¬ v ≤ 40 by omega]
      · simp [c1]
    simp (disch := omega) only [spec_trDifferences.f, spec_trDifferences.j0, hl, Option.bind_some, if_false, Bool.false_eq_true, if_true, c, false_and, decide_false, Bool.false_and]
theorem idiff_ev (v : Int) (hv : -9223372036854775808 ≤ v ∧ v ≤ 9223372036854775807) (L : List (List Int)) (hL : L.length ≤ 1048576) (hm : ∀ x ∈ L, x.length ≤ 1048576) : Ev (fun k => impl_areDifferences.f k v L) (diffB v L) := by
  obtain ⟨m, hi, hi2⟩ := isdiff_at v hv
  unfold diffB
  by_cases c : (7 ≤ v ∧ v ≤ 40) ∧ v % 6 = 1
  · have hmv := hi2 c.1
    rw [decide_eq_true c] at hi
    by_cases d : v = 6 * (L.length : Int) + 1
    · have dm : (L.length : Int) = m := by omega
      obtain ⟨K1, k1⟩ := inOrder_ev L hL hm
      obtain ⟨K2, k2⟩ := areDiff_l0 v L.length (by omega) L hL hm L 0 (List.replicate (3 * L.length + 1) false) rfl (by simp)
      have e0 : wrap64 (wrap64 (3 * (L.length : Int)) + 1) = 3 * (L.length : Int) + 1 := by rw [w64 (n := 3 * (L.length : Int)) (by omega) (by omega), w64 (by omega) (by omega)]
      have e2 : (3 * (L.length : Int) + 1).toNat = 3 * L.length + 1 := by omega
      refine ⟨K1 + K2 + 1, fun k hk => ?_⟩
      obtain ⟨k, rfl⟩ : ∃ m, k = m + 1 := ⟨k - 1, by omega⟩
      have a1 := k1 (k + 1) (by omega)
      have a2 := k2 k (by omega)
      simp only [Int.natCast_zero] at a1 a2
      subst dm
      cases co : ordB L with
      | false =>
        rw [co] at a1
        simp only [impl_areDifferences.f, impl_areDifferences.j0, hi, if_true, a1, Option.bind_some, Bool.not_false, Bool.false_and, Bool.and_false]
      | true =>
        rw [co] at a1
        simp (disch := omega) only [impl_areDifferences.f, impl_areDifferences.j0, hi, if_false, if_true, if_pos, a1, Option.bind_some, Bool.not_true, Bool.false_eq_true, e0, e2, Bool.true_and, a2]
        simp [c.1, ← d]
    · have dm : ¬ (L.length : Int) = m := by omega
      refine ⟨1, fun k hk' => ?_⟩
      obtain ⟨k, rfl⟩ : ∃ m, k = m + 1 := ⟨k - 1, by omega⟩
      simp only [impl_areDifferences.f, impl_areDifferences.j0, hi, if_false, if_true, Option.bind_some, dm, d, and_false, decide_false, Bool.false_and]
  · rw [decide_eq_false c] at hi
    have hf : ¬ ((7 ≤ v ∧ v ≤ 40) ∧ v = 6 * (L.length : Int) + 1) := fun h => c ⟨h.1, by omega⟩
    refine ⟨1, fun k hk' => ?_⟩
    obtain ⟨k, rfl⟩ : ∃ m, k = m + 1 := ⟨k - 1, by omega⟩
    simp only [impl_areDifferences.f, impl_areDifferences.j0, hi, Option.bind_some, if_false, if_true, Bool.false_eq_true, hf, decide_false, Bool.false_and]
theorem diffB_rows {v : Int} {L : List (List Int)} (h : diffB v L = true) : (7 ≤ v ∧ v ≤ 40) ∧ L.length ≤ 10 ∧ 1 ≤ L.length ∧ ∀ t ∈ L, t.length = 3 ∧ 0 ≤ rd t 0 ∧ rd t 0 ≤ 1000 ∧ 0 ≤ rd t 1 ∧ rd t 1 ≤ 1000 := by
  unfold diffB at h
  rw [splitE_eq, Bool.and_eq_true, Bool.and_eq_true, Bool.and_eq_true, decide_eq_true_eq] at h
  refine ⟨h.1.1, by omega, by omega, fun t ht => ?_⟩
  obtain ⟨a, b, c, rfl, h1, h2, h3, h4, _⟩ := okD_form (List.all_eq_true.1 h.2.2.1 t ht)
  have := h.1
  exact ⟨rfl, show 0 ≤ a by omega, show a ≤ 1000 by omega, show 0 ≤ b by omega, show b ≤ 1000 by omega⟩
theorem total3 : ∀ (t : List (List Int)), (∀ x ∈ t, x.length = 3) → totalL t = 3 * t.length
  | [], _ => rfl
  | x :: t, h => by
    unfold totalL
    rw [total3 t (fun y hy => h y (List.mem_cons_of_mem _ hy)), h x List.mem_cons_self, List.length_cons]
    omega
theorem FnExactCircleBlocks : laws_FnExactCircleBlocks.Pure := by
  intro v L hv hL ht hw
  have hm : ∀ x ∈ L, x.length ≤ 1048576 := fun x hx => by have := totalL_mem L x hx; omega
  obtain ⟨K2, k2⟩ := idiff_ev v (wf_bounds hv) L hL hm
  cases e : diffB v L with
  | false =>
    rw [e] at k2
    by_cases c : L.length ≤ 10
    · obtain ⟨K1, k1⟩ := sdiff_ev v L c hm
      rw [e] at k1
      have a1 := k1 (K1 + K2) (by omega)
      have a2 := k2 (K1 + K2) (by omega)
      simp only [] at a1 a2
      refine ⟨K1 + K2, [], false, ?_, ?_, by decide, by decide⟩
      · unfold spec_CircleBlocks.f
        rw [if_neg (by omega), a1]
        rfl
      · unfold impl_CircleBlocks.f
        rw [a2]
        rfl
    · have a2 := k2 K2 (by omega)
      simp only [] at a2
      refine ⟨K2, [], false, ?_, ?_, by decide, by decide⟩
      · unfold spec_CircleBlocks.f
        rw [if_pos (by omega)]
      · unfold impl_CircleBlocks.f
        rw [a2]
        rfl
  | true =>
    rw [e] at k2
    obtain ⟨h1, h2, h3, h4⟩ := diffB_rows e
    obtain ⟨K1, k1⟩ := sdiff_ev v L h2 hm
    rw [e] at k1
    obtain ⟨K3, k3⟩ := trBlocks_ev v (by omega) L h2 h4
    have a1 := k1 (K1 + K2 + K3) (by omega)
    have a2 := k2 (K1 + K2 + K3) (by omega)
    have a3 := k3 (K1 + K2 + K3) (by omega)
    simp only [] at a1 a2 a3
    have hok : circOk v L = true := by
      unfold circOk
      rw [Bool.and_eq_true, decide_eq_true_eq, List.all_eq_true]
      exact ⟨by omega, fun t ht => decide_eq_true (h4 t ht)⟩
    have hs3 := Search.putAll_all3 (circAll_small v L) (l := []) (fun x hx => by simp at hx)
    have hlen : (Search.putAll [] (Search.circAll v L)).length ≤ 400 := by
      rw [Search.putAll_len, circAll_len, List.length_nil, Nat.add_zero]
      exact Nat.le_trans (Nat.mul_le_mul h2 (show v.toNat ≤ 40 by omega)) (Nat.le_refl _)
    refine ⟨K1 + K2 + K3, Search.putAll [] (Search.circAll v L), true, ?_, ?_, by omega, ?_⟩
    · unfold spec_CircleBlocks.f
      rw [if_neg (by omega), a1, Option.bind_some, if_pos rfl, a3]
      rfl
    · unfold impl_CircleBlocks.f impl_circle.f
      rw [a2, Option.bind_some, if_pos rfl, if_pos hok]
      rfl
    · rw [total3 _ hs3]
      omega
end Go.Proofs.Ytgpnhaaklhinlaa.Pure
