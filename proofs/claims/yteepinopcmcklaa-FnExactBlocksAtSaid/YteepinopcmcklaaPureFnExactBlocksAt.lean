/- The law FnExactBlocksAt holds for every input: what the program's function computes is what the reference's computes. Conditions: none but the statement's own. -/
import Derived.Test.YteepinopcmcklaaPFnExactBlocksAtx3
import Derived.Test.YteepinopcmcklaaAid
namespace Go.Proofs.Yteepinopcmcklaa.Pure
open Go.RowKit Go.Proofs.Yteepinopcmcklaa.PFnExactBlocksAt Go.Proofs.YteepinopcmcklaaW.PrintWords Go.Proofs.YteepinopcmcklaaW.PrintLast Go.Proofs.Yteepinopcmcklaa.Aid
set_option linter.unusedVariables false
set_option linter.unusedSimpArgs false
theorem dropConsL {xs : List (List Int)} {i : Nat} {x : List Int} {t : List (List Int)} (h : xs.drop i = x :: t) : i < xs.length ∧ rd_L1 xs (i : Int) = x ∧ xs.drop (i + 1) = t :=
  ⟨dropLt h, by simp [rd_L1, List.getD_eq_getElem?_getD, dropGet h], dropSucc h⟩
theorem memDrop {α : Type} {xs : List α} {i : Nat} {x : α} {t : List α} (h : xs.drop i = x :: t) : x ∈ xs := by
  rw [← List.take_append_drop i xs, h]
  simp
def szL (m : Int) : List (List Int) → Int
  | [] => m
  | x :: t => if m - (x.length : Int) < 0 then -1 else szL (m - (x.length : Int)) t
def totL : List (List Int) → Nat
  | [] => 0
  | x :: t => x.length + totL t
theorem szL_tot : ∀ (t : List (List Int)) (m : Int), 0 ≤ szL m t → (totL t : Int) ≤ m
  | [], m, h => by simpa [szL, totL] using h
  | x :: t, m, h => by
    unfold szL at h
    by_cases c : m - (x.length : Int) < 0
    · rw [if_pos c] at h
      omega
    · rw [if_neg c] at h
      have := szL_tot t _ h
      unfold totL
      omega
theorem totL_mem : ∀ (t : List (List Int)) (x : List Int), x ∈ t → x.length ≤ totL t
  | [], x, h => by simp at h
  | y :: t, x, h => by
    unfold totL
    rcases List.mem_cons.1 h with rfl | h
    · omega
    · have := totL_mem t x h
      omega
theorem szIntSS_l0 (xs : List (List Int)) (hx : xs.length ≤ 1048576) (hm : ∀ x ∈ xs, x.length ≤ maxLen) : ∀ (t : List (List Int)) (i : Nat) (m : Int), xs.drop i = t → 0 ≤ m → m ≤ 1048576 → Ev (fun k => laws_szIntSS.l0 k xs m (i : Int)) (szL m t)
  | [], i, m, h, h0, hb => by
    have h1 := dropNil h
    refine Ev.of1 (fun k => ?_)
    simp (disch := omega) only [if_true, if_false, Bool.false_eq_true, laws_szIntSS.l0, if_neg, szL]
  | x :: t, i, m, h, h0, hb => by
    obtain ⟨h1, h2, h3⟩ := dropConsL h
    have hl := hm x (memDrop h)
    unfold maxLen at hl
    have e1 : wrap64 (m - (x.length : Int)) = m - (x.length : Int) := w64 (by omega) (by omega)
    by_cases c : m - (x.length : Int) < 0
    · refine Ev.of1 (fun k => ?_)
      simp (disch := omega) only [if_true, if_false, Bool.false_eq_true, laws_szIntSS.l0, laws_szIntS.f, if_pos, h2, e1, Option.bind_some, szL]
    · refine Ev.step (f := fun k => laws_szIntSS.l0 k xs (m - (x.length : Int)) ((i + 1 : Nat) : Int)) (fun k => ?_) ((szIntSS_l0 xs hx hm t (i + 1) _ h3 (by omega) (by omega)).cast (by simp only [szL, c, if_false]))
      simp (disch := omega) only [if_true, if_false, Bool.false_eq_true, laws_szIntSS.l0, laws_szIntS.f, if_pos, if_neg, h2, e1, Option.bind_some, w64s]
theorem szIntSS_ev (xs : List (List Int)) (hb : xs.length * 24 ≤ 140737488351232) (hm : ∀ x ∈ xs, x.length ≤ maxLen) : ∃ r : Int, Ev (fun k => laws_szIntSS.f k xs 1048576) r ∧ (¬ r < 0 → xs.length ≤ 1048576 ∧ (totL xs : Int) + xs.length ≤ 1048576) := by
  have e1 : wrap64 (1048576 - (xs.length : Int)) = 1048576 - (xs.length : Int) := w64 (by omega) (by omega)
  by_cases c : 1048576 - (xs.length : Int) < 0
  · refine ⟨-1, Ev.all (fun k => ?_), fun h => by omega⟩
    simp (disch := omega) only [if_true, if_false, Bool.false_eq_true, laws_szIntSS.f, e1, if_pos]
  · refine ⟨szL (1048576 - (xs.length : Int)) xs, Ev.congr (fun k => ?_) (szIntSS_l0 xs (by omega) hm xs 0 _ rfl (by omega) (by omega)), fun h => ⟨by omega, ?_⟩⟩
    · simp (disch := omega) only [if_true, if_false, Bool.false_eq_true, laws_szIntSS.f, e1, if_neg]
      rfl
    · have := szL_tot xs (1048576 - (xs.length : Int)) (by omega)
      omega
theorem toIntS_l0 (xs : List Int) (hx : xs.length ≤ 1048576) : ∀ (t : List Int) (i : Nat) (ys : List Int), xs.drop i = t → i ≤ xs.length → ys.length = xs.length → ys.take i = xs.take i → Ev (fun k => laws_toIntS.l0 k xs ys (i : Int)) xs
  | [], i, ys, h, hi, hl, he => by
    have h1 := dropNil h
    obtain rfl : ys = xs := by
      have : i = xs.length := by omega
      subst this
      rw [List.take_of_length_le (by omega), List.take_of_length_le (by omega)] at he
      exact he
    refine Ev.of1 (fun k => ?_)
    simp (disch := omega) only [if_true, if_false, Bool.false_eq_true, laws_toIntS.l0, if_neg]
  | x :: t, i, ys, h, hi, hl, he => by
    obtain ⟨h1, h2, h3⟩ := dropCons h
    refine Ev.step (f := fun k => laws_toIntS.l0 k xs (ys.set i x) ((i + 1 : Nat) : Int)) (fun k => ?_) (toIntS_l0 xs hx t (i + 1) _ h3 (by omega) (by simpa using hl) ?_)
    · simp (disch := omega) only [if_true, if_false, Bool.false_eq_true, laws_toIntS.l0, if_pos, w64s, h2, toNat_cast]
    · rw [take_succ_at h, List.take_add_one, List.take_set_of_le (by omega), he]
      simp [hl, h1]
theorem toIntS_ev (xs : List Int) (hx : xs.length ≤ 1048576) : Ev (fun k => laws_toIntS.f k xs) xs := by
  refine Ev.congr (fun k => ?_) (toIntS_l0 xs hx xs 0 (List.replicate xs.length 0) rfl (by omega) (by simp) rfl)
  unfold laws_toIntS.f
  rw [if_pos (by omega), if_pos (by omega)]
  rfl
theorem toIntSS_l0 (xs : List (List Int)) (hx : xs.length ≤ 1048576) (hm : ∀ x ∈ xs, x.length ≤ 1048576) : ∀ (t : List (List Int)) (i : Nat) (ys : List (List Int)), xs.drop i = t → i ≤ xs.length → ys.length = xs.length → ys.take i = xs.take i → Ev (fun k => laws_toIntSS.l0 k xs ys (i : Int)) xs
  | [], i, ys, h, hi, hl, he => by
    have h1 := dropNil h
    obtain rfl : ys = xs := by
      have : i = xs.length := by omega
      subst this
      rw [List.take_of_length_le (by omega), List.take_of_length_le (by omega)] at he
      exact he
    refine Ev.of1 (fun k => ?_)
    simp (disch := omega) only [if_true, if_false, Bool.false_eq_true, laws_toIntSS.l0, if_neg]
  | x :: t, i, ys, h, hi, hl, he => by
    obtain ⟨h1, h2, h3⟩ := dropConsL h
    refine Ev.step (f := fun k => (laws_toIntS.f k x).bind fun t112 => laws_toIntSS.l0 k xs (ys.set i t112) ((i + 1 : Nat) : Int)) (fun k => ?_) (Ev.bind (toIntS_ev x (hm x (memDrop h))) (toIntSS_l0 xs hx hm t (i + 1) _ h3 (by omega) (by simpa using hl) ?_))
    · simp (disch := omega) only [if_true, if_false, Bool.false_eq_true, laws_toIntSS.l0, if_pos, w64s, h2, toNat_cast]
    · rw [take_succ_at h, List.take_add_one, List.take_set_of_le (by omega), he]
      simp [hl, h1]
theorem toIntSS_ev (xs : List (List Int)) (hx : xs.length ≤ 1048576) (hm : ∀ x ∈ xs, x.length ≤ 1048576) : Ev (fun k => laws_toIntSS.f k xs) xs := by
  refine Ev.congr (fun k => ?_) (toIntSS_l0 xs hx hm xs 0 (List.replicate xs.length []) rfl (by omega) (by simp) rfl)
  unfold laws_toIntSS.f
  rw [if_pos (by omega), if_pos (by omega)]
  rfl
theorem eqIntS_l0 (xs ys : List Int) (hx : xs.length ≤ 1048576) (hl : xs.length = ys.length) : ∀ (s t : List Int) (i : Nat), xs.drop i = s → ys.drop i = t → Ev (fun k => laws_eqIntS.l0 k xs ys (i : Int)) (decide (s = t))
  | [], t, i, h, h' => by
    have h1 := dropNil h
    have h2 : t = [] := by rw [← h']; simp; omega
    subst h2
    refine Ev.of1 (fun k => ?_)
    simp (disch := omega) only [if_true, if_false, Bool.false_eq_true, laws_eqIntS.l0, if_neg]
    simp
  | x :: s, [], i, h, h' => by
    have h1 := dropLt h
    have h2 := dropNil h'
    omega
  | x :: s, y :: t, i, h, h' => by
    obtain ⟨h1, h2, h3⟩ := dropCons h
    obtain ⟨h1', h2', h3'⟩ := dropCons h'
    by_cases c : x = y
    · refine Ev.step (f := fun k => laws_eqIntS.l0 k xs ys ((i + 1 : Nat) : Int)) (fun k => ?_) ((eqIntS_l0 xs ys hx hl s t (i + 1) h3 h3').cast (by simp [c]))
      simp (disch := omega) only [if_true, if_false, Bool.false_eq_true, laws_eqIntS.l0, if_pos, w64s, h2, h2']
    · refine Ev.of1 (fun k => ?_)
      simp (disch := omega) only [if_true, if_false, Bool.false_eq_true, laws_eqIntS.l0, if_pos, if_neg, h2, h2']
      simp [c]
theorem eqIntS_ev (xs ys : List Int) (hx : xs.length ≤ 1048576) : Ev (fun k => laws_eqIntS.f k xs ys) (decide (xs = ys)) := by
  by_cases c : xs.length = ys.length
  · refine Ev.congr (fun k => ?_) (eqIntS_l0 xs ys hx c xs ys 0 rfl rfl)
    unfold laws_eqIntS.f
    rw [if_pos (by omega)]
    rfl
  · refine Ev.all (fun k => ?_)
    unfold laws_eqIntS.f
    rw [if_neg (by omega)]
    have : xs ≠ ys := fun e => c (by rw [e])
    simp [this]
theorem eqIntS_same (xs : List Int) (hx : xs.length ≤ 1048576) : Ev (fun k => laws_eqIntS.f k xs xs) true := (eqIntS_ev xs xs hx).cast (by simp)
theorem eqIntSS_l0 (xs ys : List (List Int)) (hx : xs.length ≤ 1048576) (hm : ∀ x ∈ xs, x.length ≤ 1048576) (hl : xs.length = ys.length) : ∀ (s t : List (List Int)) (i : Nat), xs.drop i = s → ys.drop i = t → Ev (fun k => laws_eqIntSS.l0 k xs ys (i : Int)) (decide (s = t))
  | [], t, i, h, h' => by
    have h1 := dropNil h
    have h2 : t = [] := by rw [← h']; simp; omega
    subst h2
    refine Ev.of1 (fun k => ?_)
    simp (disch := omega) only [if_true, if_false, Bool.false_eq_true, laws_eqIntSS.l0, if_neg]
    simp
  | x :: s, [], i, h, h' => by
    have h1 := dropLt h
    have h2 := dropNil h'
    omega
  | x :: s, y :: t, i, h, h' => by
    obtain ⟨h1, h2, h3⟩ := dropConsL h
    obtain ⟨h1', h2', h3'⟩ := dropConsL h'
    refine Ev.step (f := fun k => (laws_eqIntS.f k x y).bind fun t120 => (if t120 = true then (laws_eqIntSS.l0 k xs ys ((i + 1 : Nat) : Int)) else (some false))) (fun k => ?_) (Ev.bind (eqIntS_ev x y (hm x (memDrop h))) ?_)
    · simp (disch := omega) only [if_true, if_false, Bool.false_eq_true, laws_eqIntSS.l0, if_pos, w64s, h2, h2']
    · by_cases c : x = y
      · simp only [c, decide_true, if_true]
        exact (eqIntSS_l0 xs ys hx hm hl s t (i + 1) h3 h3').cast (by simp)
      · simp only [c, decide_false, Bool.false_eq_true, if_false]
        exact (Ev.now _).cast (by simp [c])
theorem eqIntSS_ev (xs ys : List (List Int)) (hx : xs.length ≤ 1048576) (hm : ∀ x ∈ xs, x.length ≤ 1048576) : Ev (fun k => laws_eqIntSS.f k xs ys) (decide (xs = ys)) := by
  by_cases c : xs.length = ys.length
  · refine Ev.congr (fun k => ?_) (eqIntSS_l0 xs ys hx hm c xs ys 0 rfl rfl)
    unfold laws_eqIntSS.f
    rw [if_pos (by omega)]
    rfl
  · refine Ev.all (fun k => ?_)
    unfold laws_eqIntSS.f
    rw [if_neg (by omega)]
    have : xs ≠ ys := fun e => c (by rw [e])
    simp [this]
theorem eqIntSS_same (xs : List (List Int)) (hx : xs.length ≤ 1048576) (hm : ∀ x ∈ xs, x.length ≤ 1048576) : Ev (fun k => laws_eqIntSS.f k xs xs) true := (eqIntSS_ev xs xs hx hm).cast (by simp)
theorem markIntS_l0 : ∀ (t : List Int) (xs : List Int) (i : Nat) (m : Int), xs.length ≤ 1048576 → xs.drop i = t → 0 ≤ m → m + t.length ≤ 9223372036854775807 → Ev (fun k => laws_markIntS.l0 k xs m (i : Int)) (m + t.length, xs.take i ++ upFrom t.length m)
  | [], xs, i, m, hx, h, hm, hb => by
    have h1 := dropNil h
    refine Ev.of1 (fun k => ?_)
    simp (disch := omega) only [if_true, if_false, Bool.false_eq_true, laws_markIntS.l0, if_neg]
    simp [upFrom, List.take_of_length_le h1]
  | x :: t, xs, i, m, hx, h, hm, hb => by
    obtain ⟨h1, h2, h3⟩ := dropCons h
    simp only [List.length_cons] at hb
    have e : (xs.set i m).drop (i + 1) = t := by rw [List.drop_set_of_lt (by omega), h3]
    refine Ev.step (f := fun k => laws_markIntS.l0 k (xs.set i m) (m + 1) ((i + 1 : Nat) : Int)) (fun k => ?_) ((markIntS_l0 t (xs.set i m) (i + 1) (m + 1) (by simpa using hx) e (by omega) (by omega)).cast ?_)
    · have e1 : wrap64 (m + 1) = m + 1 := w64 (by omega) (by omega)
      simp (disch := omega) only [if_true, if_false, Bool.false_eq_true, laws_markIntS.l0, if_pos, w64s, e1, toNat_cast]
    · rw [set_at _ _ _ _ _ h]
      have : (xs.take i ++ m :: t).take (i + 1) = xs.take i ++ [m] := by
        have hl : (xs.take i).length = i := by simp; omega
        rw [List.take_append, List.take_of_length_le (by omega), hl, show i + 1 - i = 1 by omega]
        rfl
      rw [this]
      simp [upFrom]
      omega
theorem markIntS_ev (xs : List Int) (hx : xs.length ≤ 1048576) : Ev (fun k => laws_markIntS.f k xs 1) (1 + xs.length, upFrom xs.length 1) :=
  (Ev.congr (fun k => rfl) (markIntS_l0 xs xs 0 1 hx rfl (by omega) (by omega))).cast (by simp)
theorem heldIntS_l0 (xs : List Int) (hx : xs.length ≤ 1048576) : ∀ (n : Nat) (i : Nat) (m : Int), xs.drop i = upFrom n m → 0 ≤ m → m + n ≤ 9223372036854775807 → Ev (fun k => laws_heldIntS.l0 k xs m (i : Int)) (m + n)
  | 0, i, m, h, hm, hb => by
    have h1 := dropNil h
    refine Ev.of1 (fun k => ?_)
    simp (disch := omega) only [if_true, if_false, Bool.false_eq_true, laws_heldIntS.l0, if_neg]
    simp
  | n + 1, i, m, h, hm, hb => by
    obtain ⟨h1, h2, h3⟩ := dropCons (x := m) (t := upFrom n (m + 1)) h
    refine Ev.step (f := fun k => laws_heldIntS.l0 k xs (m + 1) ((i + 1 : Nat) : Int)) (fun k => ?_) ((heldIntS_l0 xs hx n (i + 1) (m + 1) h3 (by omega) (by omega)).cast (by omega))
    have e1 : wrap64 (m + 1) = m + 1 := w64 (by omega) (by omega)
    simp (disch := omega) only [if_true, if_false, Bool.false_eq_true, laws_heldIntS.l0, if_pos, w64s, e1, h2]
theorem heldIntS_ev (n : Nat) (hx : n ≤ 1048576) : Ev (fun k => laws_heldIntS.f k (upFrom n 1) 1) (1 + n) :=
  Ev.congr (fun k => rfl) (heldIntS_l0 (upFrom n 1) (by rw [upFrom_length]; exact hx) n 0 1 rfl (by omega) (by omega))
def hasB (n : Int) (l : List Int) : Bool := l.any fun x => decide (x = n)
theorem l1Has_l0 (n : Int) (xs : List Int) (hx : xs.length ≤ 1048576) : ∀ (t : List Int) (i : Nat), xs.drop i = t → Ev (fun k => spec_l1Has.l0 k n xs xs.length (i : Int)) (hasB n t)
  | [], i, h => by
    have h1 := dropNil h
    refine Ev.of1 (fun k => ?_)
    simp (disch := omega) only [if_true, if_false, Bool.false_eq_true, spec_l1Has.l0, if_neg]
    rfl
  | x :: t, i, h => by
    obtain ⟨h1, h2, h3⟩ := dropCons h
    by_cases c : x = n
    · refine Ev.of1 (fun k => ?_)
      simp (disch := omega) only [if_true, if_false, Bool.false_eq_true, spec_l1Has.l0, if_pos, h2, c]
      simp [hasB]
    · refine Ev.step (f := fun k => spec_l1Has.l0 k n xs xs.length ((i + 1 : Nat) : Int)) (fun k => ?_) ((l1Has_l0 n xs hx t (i + 1) h3).cast (by simp [hasB, c]))
      simp (disch := omega) only [if_true, if_false, Bool.false_eq_true, spec_l1Has.l0, if_pos, if_neg, w64s, h2]
theorem l1Has_ev (xs : List Int) (n : Int) (hx : xs.length ≤ 1048576) : Ev (fun k => spec_l1Has.f k xs n) (hasB n xs) :=
  Ev.congr (fun k => rfl) (l1Has_l0 n xs hx xs 0 rfl)
def all3 (t : List (List Int)) : Bool := t.all (fun x => decide (x.length = 3))
def atIdx (n : Int) : List (List Int) → Nat → List Int
  | [], _ => []
  | x :: t, i => if hasB n x = true then (i : Int) :: atIdx n t (i + 1) else atIdx n t (i + 1)
theorem atIdx_len (n : Int) : ∀ (t : List (List Int)) (i : Nat), (atIdx n t i).length ≤ t.length
  | [], i => Nat.le_refl _
  | x :: t, i => by
    have := atIdx_len n t (i + 1)
    rw [atIdx]
    split <;> simp only [List.length_cons] <;> omega
theorem all3_cons (x : List Int) (t : List (List Int)) : all3 (x :: t) = (decide (x.length = 3) && all3 t) := rfl
theorem sBlocksAt_l1 (n : Int) (xs : List (List Int)) (hx : xs.length ≤ 300) (hm : ∀ x ∈ xs, x.length ≤ 1048576) : ∀ (t : List (List Int)) (i : Nat) (acc : List Int), xs.drop i = t → acc.length ≤ i → Ev (fun k => spec_BlocksAt.l1 k n acc xs xs.length (i : Int)) (acc ++ atIdx n t i, true)
  | [], i, acc, h, ha => by
    have h1 := dropNil h
    refine Ev.of1 (fun k => ?_)
    simp (disch := omega) only [if_true, if_false, Bool.false_eq_true, spec_BlocksAt.l1, if_neg]
    simp [atIdx]
  | x :: t, i, acc, h, ha => by
    obtain ⟨h1, h2, h3⟩ := dropConsL h
    refine Ev.step (f := fun k => (spec_l1Has.f k x n).bind fun b => (if b = true then (if acc.length < 17592186044416 then (spec_BlocksAt.l1 k n (acc ++ [(i : Int)]) xs xs.length ((i + 1 : Nat) : Int)) else (none)) else (spec_BlocksAt.l1 k n acc xs xs.length ((i + 1 : Nat) : Int)))) (fun k => ?_) (Ev.bind (l1Has_ev x n (hm x (memDrop h))) ?_)
    · simp (disch := omega) only [if_true, if_false, Bool.false_eq_true, spec_BlocksAt.l1, if_pos, w64s, h2]
    · cases c : hasB n x with
      | true =>
        simp only [if_true]
        refine Ev.congr (fun k => by rw [if_pos (by omega)]) ((sBlocksAt_l1 n xs hx hm t (i + 1) (acc ++ [(i : Int)]) h3 (by simp; omega)).cast ?_)
        simp [atIdx, c]
      | false =>
        simp only [Bool.false_eq_true, if_false]
        exact (sBlocksAt_l1 n xs hx hm t (i + 1) acc h3 (by omega)).cast (by simp [atIdx, c])
theorem sBlocksAt_l0 (n : Int) (xs : List (List Int)) (hx : xs.length ≤ 300) (hm : ∀ x ∈ xs, x.length ≤ 1048576) : ∀ (t : List (List Int)) (i : Nat), xs.drop i = t → Ev (fun k => spec_BlocksAt.l0 k xs n xs xs.length (i : Int)) (if all3 t = true then (atIdx n xs 0, true) else ([], false))
  | [], i, h => by
    have h1 := dropNil h
    refine Ev.step (f := fun k => spec_BlocksAt.l1 k n [] xs xs.length ((0 : Nat) : Int)) (fun k => ?_) ((sBlocksAt_l1 n xs hx hm xs 0 [] rfl (Nat.le_refl _)).cast (by simp [all3]))
    simp (disch := omega) only [if_true, if_false, Bool.false_eq_true, spec_BlocksAt.l0, if_neg]
    rfl
  | x :: t, i, h => by
    obtain ⟨h1, h2, h3⟩ := dropConsL h
    by_cases c : x.length = 3
    · refine Ev.step (f := fun k => spec_BlocksAt.l0 k xs n xs xs.length ((i + 1 : Nat) : Int)) (fun k => ?_) ((sBlocksAt_l0 n xs hx hm t (i + 1) h3).cast (by simp [all3_cons, c]))
      have c' : (x.length : Int) = 3 := by omega
      simp (disch := omega) only [if_true, if_false, Bool.false_eq_true, spec_BlocksAt.l0, if_pos, w64s, h2, c']
    · refine Ev.of1 (fun k => ?_)
      simp (disch := omega) only [if_true, if_false, Bool.false_eq_true, spec_BlocksAt.l0, if_pos, if_neg, h2]
      simp [all3_cons, c]
theorem sBlocksAt_ev (xs : List (List Int)) (n : Int) (hm : ∀ x ∈ xs, x.length ≤ 1048576) : Ev (fun k => spec_BlocksAt.f k xs n) (if xs.length ≤ 300 ∧ all3 xs = true then (atIdx n xs 0, true) else ([], false)) := by
  by_cases c : xs.length ≤ 300
  · refine Ev.congr (fun k => ?_) ((sBlocksAt_l0 n xs c hm xs 0 rfl).cast (by simp [c]))
    unfold spec_BlocksAt.f
    rw [if_neg (by omega)]
    rfl
  · refine Ev.all (fun k => ?_)
    unfold spec_BlocksAt.f
    rw [if_pos (by omega)]
    simp [c]
theorem Index_l0 (n : Int) (xs : List Int) (hx : xs.length ≤ 1048576) : ∀ (t : List Int) (i : Nat), xs.drop i = t → ∃ r : Int, Ev (fun k => slices_Index_int_int.l0 k xs n xs.length (i : Int)) r ∧ decide (r ≥ 0) = hasB n t
  | [], i, h => by
    have h1 := dropNil h
    refine ⟨-1, Ev.of1 (fun k => ?_), by simp [hasB]⟩
    simp (disch := omega) only [if_true, if_false, Bool.false_eq_true, slices_Index_int_int.l0, if_neg]
  | x :: t, i, h => by
    obtain ⟨h1, h2, h3⟩ := dropCons h
    by_cases c : n = x
    · refine ⟨(i : Int), Ev.of1 (fun k => ?_), by simp [hasB, c]⟩
      simp (disch := omega) only [if_true, if_false, Bool.false_eq_true, slices_Index_int_int.l0, if_pos, h2]
    · obtain ⟨r, hr, hd⟩ := Index_l0 n xs hx t (i + 1) h3
      refine ⟨r, Ev.step (f := fun k => slices_Index_int_int.l0 k xs n xs.length ((i + 1 : Nat) : Int)) (fun k => ?_) hr, by rw [hd]; simp [hasB, Ne.symm c]⟩
      simp (disch := omega) only [if_true, if_false, Bool.false_eq_true, slices_Index_int_int.l0, if_pos, if_neg, w64s, h2]
theorem Contains_ev (xs : List Int) (n : Int) (hx : xs.length ≤ 1048576) : Ev (fun k => slices_Contains_int_int.f k xs n) (hasB n xs) := by
  obtain ⟨r, hr, hd⟩ := Index_l0 n xs hx xs 0 rfl
  unfold slices_Contains_int_int.f
  refine (Ev.bind (f := fun _ t => some (decide (t ≥ 0))) (a := r) (Ev.congr (fun k => rfl) hr) (Ev.now _)).cast hd
theorem iBlocksAt_l0 (n : Int) (xs : List (List Int)) (hx : xs.length ≤ 300) (hm : ∀ x ∈ xs, x.length ≤ 1048576) : ∀ (t : List (List Int)) (i : Nat) (acc : List Int), xs.drop i = t → acc.length ≤ i → Ev (fun k => impl_BlocksAt.l0 k n acc xs xs.length (i : Int)) (if all3 t = true then (acc ++ atIdx n t i, true) else ([], false))
  | [], i, acc, h, ha => by
    have h1 := dropNil h
    refine Ev.of1 (fun k => ?_)
    simp (disch := omega) only [if_true, if_false, Bool.false_eq_true, impl_BlocksAt.l0, if_neg]
    simp [atIdx, all3]
  | x :: t, i, acc, h, ha => by
    obtain ⟨h1, h2, h3⟩ := dropConsL h
    by_cases c3 : x.length = 3
    · have c' : (x.length : Int) = 3 := by omega
      refine Ev.step (f := fun k => (slices_Contains_int_int.f k x n).bind fun b => (if b = true then (if acc.length < 17592186044416 then (impl_BlocksAt.l0 k n (acc ++ [(i : Int)]) xs xs.length ((i + 1 : Nat) : Int)) else (none)) else (impl_BlocksAt.l0 k n acc xs xs.length ((i + 1 : Nat) : Int)))) (fun k => ?_) (Ev.bind (Contains_ev x n (hm x (memDrop h))) ?_)
      · simp (disch := omega) only [if_true, if_false, Bool.false_eq_true, impl_BlocksAt.l0, if_pos, w64s, h2, c']
      · cases c : hasB n x with
        | true =>
          simp only [if_true]
          refine Ev.congr (fun k => by rw [if_pos (by omega)]) ((iBlocksAt_l0 n xs hx hm t (i + 1) (acc ++ [(i : Int)]) h3 (by simp; omega)).cast ?_)
          simp [atIdx, c, all3_cons, c3]
        | false =>
          simp only [Bool.false_eq_true, if_false]
          exact (iBlocksAt_l0 n xs hx hm t (i + 1) acc h3 (by omega)).cast (by simp [atIdx, c, all3_cons, c3])
    · refine Ev.of1 (fun k => ?_)
      simp (disch := omega) only [if_true, if_false, Bool.false_eq_true, impl_BlocksAt.l0, if_pos, if_neg, h2]
      simp [all3_cons, c3]
theorem iBlocksAt_ev (xs : List (List Int)) (n : Int) (hm : ∀ x ∈ xs, x.length ≤ 1048576) : Ev (fun k => impl_BlocksAt.f k xs n) (if xs.length ≤ 300 ∧ all3 xs = true then (atIdx n xs 0, true) else ([], false)) := by
  by_cases c : xs.length ≤ 300
  · refine Ev.congr (fun k => ?_) ((iBlocksAt_l0 n xs c hm xs 0 [] rfl (Nat.le_refl _)).cast (by simp [c]))
    unfold impl_BlocksAt.f
    rw [if_neg (by omega)]
    rfl
  · refine Ev.all (fun k => ?_)
    unfold impl_BlocksAt.f
    rw [if_pos (by omega)]
    simp [c]
theorem FnExactBlocksAt : laws_FnExactBlocksAt.Pure := by
  intro l a hl ht hw hwa
  have hm : ∀ x ∈ l, x.length ≤ 1048576 := fun x hx => Nat.le_trans (totalL_mem l x hx) ht
  obtain ⟨K1, h1⟩ := sBlocksAt_ev l a hm
  obtain ⟨K2, h2⟩ := iBlocksAt_ev l a hm
  by_cases c : l.length ≤ 300 ∧ all3 l = true
  · rw [if_pos c] at h1 h2
    exact ⟨K1 + K2, _, _, h1 _ (by omega), h2 _ (by omega), Nat.le_trans (atIdx_len a l 0) hl⟩
  · rw [if_neg c] at h1 h2
    exact ⟨K1 + K2, _, _, h1 _ (by omega), h2 _ (by omega), by simp⟩
end Go.Proofs.Yteepinopcmcklaa.Pure
