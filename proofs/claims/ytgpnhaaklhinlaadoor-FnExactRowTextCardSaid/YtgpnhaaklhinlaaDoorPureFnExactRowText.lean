/- The law FnExactRowText holds for every input: what the program's function computes is what the reference's computes. Conditions: none but the statement's own. -/
import Derived.Test.YtgpnhaaklhinlaaDoorPFnExactRowTextx3
import Derived.Test.YtgpnhaaklhinlaaDoorAid
namespace Go.Proofs.YtgpnhaaklhinlaaDoor.Pure
open Go.RowKit Go.Proofs.YtgpnhaaklhinlaaDoor.PFnExactRowText Go.Proofs.YtgpnhaaklhinlaaDoorW.PrintWords Go.Proofs.YtgpnhaaklhinlaaDoorW.PrintLast Go.Proofs.YtgpnhaaklhinlaaDoor.Aid
set_option linter.unusedVariables false
set_option linter.unusedSimpArgs false
theorem eqIntS_l0 (xs ys : List Int) (hx : xs.length ≤ 1048576) (hl : xs.length = ys.length) : ∀ (s t : List Int) (i : Nat), xs.drop i = s → ys.drop i = t → Ev (fun k => laws_eqIntS.l0 k xs ys (i : Int)) (decide (s = t))
  | [], t, i, h, h' => by
    have h1 := dropNil h
    have h2 : t = [] := by rw [← h']; simp; omega
    subst h2
    refine Ev.of1 (fun k => ?_)
    simp (disch := omega) only [if_true, if_false, Bool.false_eq_true, laws_eqIntS.l0, if_neg]
    simp
  | x :: s, [], i, h, h' => by
    have h1 := dropLt h
    have h2 := dropNil h'
    omega
  | x :: s, y :: t, i, h, h' => by
    obtain ⟨h1, h2, h3⟩ := dropCons h
    obtain ⟨h1', h2', h3'⟩ := dropCons h'
    by_cases c : x = y
    · refine Ev.step (f := fun k => laws_eqIntS.l0 k xs ys ((i + 1 : Nat) : Int)) (fun k => ?_) ((eqIntS_l0 xs ys hx hl s t (i + 1) h3 h3').cast (by simp [c]))
      simp (disch := omega) only [if_true, if_false, Bool.false_eq_true, laws_eqIntS.l0, if_pos, w64s, h2, h2']
    · refine Ev.of1 (fun k => ?_)
      simp (disch := omega) only [if_true, if_false, Bool.false_eq_true, laws_eqIntS.l0, if_pos, if_neg, h2, h2']
      simp [c]
theorem eqIntS_ev (xs ys : List Int) (hx : xs.length ≤ 1048576) : Ev (fun k => laws_eqIntS.f k xs ys) (decide (xs = ys)) := by
  by_cases c : xs.length = ys.length
  · refine Ev.congr (fun k => ?_) (eqIntS_l0 xs ys hx c xs ys 0 rfl rfl)
    unfold laws_eqIntS.f
    rw [if_pos (by omega)]
    rfl
  · refine Ev.all (fun k => ?_)
    unfold laws_eqIntS.f
    rw [if_neg (by omega)]
    have : xs ≠ ys := fun e => c (by rw [e])
    simp [this]
theorem eqIntS_same (xs : List Int) (hx : xs.length ≤ 1048576) : Ev (fun k => laws_eqIntS.f k xs xs) true := (eqIntS_ev xs xs hx).cast (by simp)
theorem l1All_l0 (lo hi : Int) (xs : List Int) (hx : xs.length ≤ 1048576) : ∀ (t : List Int) (i : Nat), xs.drop i = t → Ev (fun k => spec_l1All.l0 k lo hi xs xs.length (i : Int)) (t.all fun n => decide (lo ≤ n ∧ n ≤ hi))
  | [], i, h => by
    have h1 := dropNil h
    refine Ev.of1 (fun k => ?_)
    simp (disch := omega) only [if_true, if_false, Bool.false_eq_true, spec_l1All.l0, if_neg]
    rfl
  | x :: t, i, h => by
    obtain ⟨h1, h2, h3⟩ := dropCons h
    by_cases c : lo ≤ x ∧ x ≤ hi
    · refine Ev.step (f := fun k => spec_l1All.l0 k lo hi xs xs.length ((i + 1 : Nat) : Int)) (fun k => ?_) ((l1All_l0 lo hi xs hx t (i + 1) h3).cast (by simp [c]))
      simp (disch := omega) only [if_true, if_false, Bool.false_eq_true, spec_l1All.l0, spec_l1In.f, if_pos, w64s, h2, Option.bind_some, decide_eq_true_eq]
    · refine Ev.of1 (fun k => ?_)
      simp (disch := omega) only [if_true, if_false, Bool.false_eq_true, spec_l1All.l0, spec_l1In.f, if_pos, h2]
      by_cases c1 : lo ≤ x
      · have c2 : ¬ x ≤ hi := fun h' => c ⟨c1, h'⟩
        simp [c1, c2]
      · simp [c1]
theorem l1All_ev (xs : List Int) (lo hi : Int) (hx : xs.length ≤ 1048576) : Ev (fun k => spec_l1All.f k xs lo hi) (xs.all fun n => decide (lo ≤ n ∧ n ≤ hi)) :=
  Ev.congr (fun k => rfl) (l1All_l0 lo hi xs hx xs 0 rfl)
def rowB (l : List Int) : Bool := decide ((l.length : Int) ≤ 40) && l.all fun n => decide (0 ≤ n ∧ n ≤ 20)
theorem roGood_ev (xs : List Int) (hx : xs.length ≤ 1048576) : Ev (fun k => spec_roGood.f k xs) (rowB xs) := by
  unfold spec_roGood.f rowB
  by_cases c : (xs.length : Int) ≤ 40
  · simp only [c, if_true]
    refine (Ev.bind (l1All_ev xs 0 20 hx) (Ev.now _)).cast (by simp)
  · simp only [c, if_false]
    exact (Ev.now _).cast (by simp)
theorem toIntS_l0 (xs : List Int) (hx : xs.length ≤ 1048576) : ∀ (t : List Int) (i : Nat) (ys : List Int), xs.drop i = t → i ≤ xs.length → ys.length = xs.length → ys.take i = xs.take i → Ev (fun k => laws_toIntS.l0 k xs ys (i : Int)) xs
  | [], i, ys, h, hi, hl, he => by
    have h1 := dropNil h
    obtain rfl : ys = xs := by
      have : i = xs.length := by omega
      subst this
      rw [List.take_of_length_le (by omega), List.take_of_length_le (by omega)] at he
      exact he
    refine Ev.of1 (fun k => ?_)
    simp (disch := omega) only [if_true, if_false, Bool.false_eq_true, laws_toIntS.l0, if_neg]
  | x :: t, i, ys, h, hi, hl, he => by
    obtain ⟨h1, h2, h3⟩ := dropCons h
    refine Ev.step (f := fun k => laws_toIntS.l0 k xs (ys.set i x) ((i + 1 : Nat) : Int)) (fun k => ?_) (toIntS_l0 xs hx t (i + 1) _ h3 (by omega) (by simpa using hl) ?_)
    · simp (disch := omega) only [if_true, if_false, Bool.false_eq_true, laws_toIntS.l0, if_pos, w64s, h2, toNat_cast]
    · rw [take_succ_at h, List.take_add_one, List.take_set_of_le (by omega), he]
      simp [hl, h1]
theorem toIntS_ev (xs : List Int) (hx : xs.length ≤ 1048576) : Ev (fun k => laws_toIntS.f k xs) xs := by
  refine Ev.congr (fun k => ?_) (toIntS_l0 xs hx xs 0 (List.replicate xs.length 0) rfl (by omega) (by simp) rfl)
  unfold laws_toIntS.f
  rw [if_pos (by omega), if_pos (by omega)]
  rfl
theorem IsRow_l0 (xs : List Int) (hx : xs.length ≤ 1048576) : ∀ (t : List Int) (i : Nat), xs.drop i = t → Ev (fun k => impl_IsRow.l0 k xs xs xs.length (i : Int)) (decide ((xs.length : Int) ≤ 40) && t.all fun n => decide (0 ≤ n ∧ n ≤ 20))
  | [], i, h => by
    have h1 := dropNil h
    refine Ev.of1 (fun k => ?_)
    simp (disch := omega) only [if_true, if_false, Bool.false_eq_true, impl_IsRow.l0, if_neg]
    simp
  | x :: t, i, h => by
    obtain ⟨h1, h2, h3⟩ := dropCons h
    by_cases c : 0 ≤ x ∧ x ≤ 20
    · refine Ev.step (f := fun k => impl_IsRow.l0 k xs xs xs.length ((i + 1 : Nat) : Int)) (fun k => ?_) ((IsRow_l0 xs hx t (i + 1) h3).cast (by simp [c]))
      simp (disch := omega) only [if_true, if_false, Bool.false_eq_true, impl_IsRow.l0, if_pos, if_neg, w64s, h2]
    · refine Ev.of1 (fun k => ?_)
      simp (disch := omega) only [if_true, if_false, Bool.false_eq_true, impl_IsRow.l0, if_pos, h2]
      by_cases c1 : x < 0
      · have : ¬ 0 ≤ x := by omega
        simp [c1, this]
      · have c2 : 20 < x := by omega
        have : ¬ x ≤ 20 := by omega
        simp [c1, c2, this]
theorem IsRow_ev (xs : List Int) (hx : xs.length ≤ 1048576) : Ev (fun k => impl_IsRow.f k xs) (rowB xs) :=
  Ev.congr (fun k => rfl) (IsRow_l0 xs hx xs 0 rfl)
theorem bext {a b : ByteArray} (h : a.data.toList = b.data.toList) : a = b := by
  cases a; cases b
  simp only [Array.toList_inj] at h
  rw [h]
/-- A number as a row's text tells it. -/
def word (n : Int) : ByteArray := if n = 0 then ⟨#[46]⟩ else ⟨(Lib.decDigits n.toNat).toArray⟩
theorem twenty {P : Int → Prop} (h : ∀ i : Fin 21, P ((i.val : Nat) : Int)) (n : Int) (h0 : 0 ≤ n) (h1 : n ≤ 20) : P n := by
  have := h ⟨n.toNat, by omega⟩
  rwa [show ((n.toNat : Nat) : Int) = n by omega] at this
theorem l1Num_at : ∀ n : Nat, n < 100 → spec_l1Num.f 3 (n : Int) = some ⟨(Lib.decDigits n).toArray⟩ := by
  have h : (List.range 100).all (fun n => match spec_l1Num.f 3 (n : Int) with | some b => b.data.toList == (if n < 10 then [UInt8.ofNat (48 + n)] else [UInt8.ofNat (48 + n / 10), UInt8.ofNat (48 + n % 10)]) | none => false) = true := by kernel_rfl
  intro n hn
  have h1 := List.all_eq_true.1 h n (List.mem_range.2 hn)
  split at h1
  · rename_i b hb
    rw [hb]
    congr 1
    apply bext
    rw [beq_iff_eq] at h1
    rw [h1]
    by_cases c : n < 10
    · rw [if_pos c, Lib.decDigits_one c]
    · rw [if_neg c, Lib.decDigits_two c hn]
  · cases h1
theorem l1Num_ev (n : Int) (h0 : 0 < n) (h1 : n ≤ 20) : Ev (fun k => spec_l1Num.f k n) (word n) := by
  have e := l1Num_at n.toNat (by omega)
  rw [show ((n.toNat : Nat) : Int) = n by omega] at e
  unfold word
  rw [if_neg (by omega)]
  exact Ev.of (spec_l1Num.mono n) e
theorem word_size (n : Int) (h0 : 0 ≤ n) (h1 : n ≤ 20) : (word n).size ≤ 2 := by
  unfold word
  by_cases c : n = 0
  · rw [if_pos c]; decide
  · rw [if_neg c]
    show (Lib.decDigits n.toNat).toArray.size ≤ 2
    by_cases d : n.toNat < 10
    · rw [Lib.decDigits_one d]; simp
    · rw [Lib.decDigits_two d (by omega)]; simp
def restT : Bool → List Int → ByteArray → ByteArray
  | _, [], acc => acc
  | c, n :: t, acc => restT true t ((if c = true then acc ++ ⟨#[44]⟩ else acc) ++ word n)
theorem restT_true : ∀ (t : List Int) (acc : ByteArray), (restT true t acc).data.toList = acc.data.toList ++ Lib.joinTail [44] (t.map fun n => (word n).data.toList)
  | [], acc => by simp [restT, Lib.joinTail]
  | n :: t, acc => by
    unfold restT
    rw [restT_true t, if_pos rfl]
    simp [Lib.joinTail, ByteArray.data_append]
theorem restT_join (xs : List Int) (h : xs ≠ []) : restT false xs ⟨#[]⟩ = ⟨(Lib.join ((xs.map word).map (·.data.toList)) [44]).toArray⟩ := by
  cases xs with
  | nil => exact absurd rfl h
  | cons n t =>
    apply bext
    unfold restT
    rw [restT_true, if_neg (by decide), List.map_map, List.map_cons, Lib.join_cons]
    simp [ByteArray.data_append, Function.comp_def]
theorem roText_l0 (xs : List Int) (hx : xs.length ≤ 40) (hr : ∀ n ∈ xs, 0 ≤ n ∧ n ≤ 20) : ∀ (t : List Int) (i : Nat) (acc : ByteArray), xs.drop i = t → acc.size ≤ 3 * i →
    Ev (fun k => spec_roText.l0 k acc xs xs.length (i : Int)) (restT (decide (0 < i)) t acc)
  | [], i, acc, h, hs => by
    have h1 := dropNil h
    refine Ev.of1 (fun k => ?_)
    simp (disch := omega) only [if_true, if_false, Bool.false_eq_true, spec_roText.l0, if_neg, restT]
  | n :: t, i, acc, h, hs => by
    obtain ⟨h1, h2, h3⟩ := dropCons h
    have hn := hr n (List.mem_of_getElem? (dropGet h))
    have hw := word_size n hn.1 hn.2
    have s1 : (acc ++ (⟨#[44]⟩ : ByteArray)).size = acc.size + 1 := by rw [ByteArray.size_append]; rfl
    have e4 : wrap64 ((i : Int) + 1) = ((i + 1 : Nat) : Int) := w64s (by omega)
    have fin : ∀ a : ByteArray, a.size ≤ 3 * i + 1 → (a ++ word n).size ≤ 3 * (i + 1) := fun a ha => by rw [ByteArray.size_append]; omega
    by_cases c : 0 < i
    · have ih := roText_l0 xs hx hr t (i + 1) ((acc ++ ⟨#[44]⟩) ++ word n) h3 (fin _ (by omega))
      rw [show decide (0 < i + 1) = true from decide_eq_true (by omega)] at ih
      have er : restT (decide (0 < i)) (n :: t) acc = restT true t ((acc ++ ⟨#[44]⟩) ++ word n) := by
        rw [show decide (0 < i) = true from decide_eq_true c]
        rfl
      rw [er]
      by_cases d : n = 0
      · refine Ev.step (f := fun k => spec_roText.l0 k ((acc ++ ⟨#[44]⟩) ++ word n) xs xs.length ((i + 1 : Nat) : Int)) (fun k => ?_) ih
        have ew : word n = ⟨#[46]⟩ := by unfold word; rw [if_pos d]
        rw [ew]
        simp (disch := omega) only [if_true, if_false, spec_roText.l0, if_pos, h2, d, s1, e4]
      · refine Ev.step (f := fun k => (spec_l1Num.f k n).bind fun w => if (acc ++ (⟨#[44]⟩ : ByteArray)).size + w.size ≤ 9223372036854775807 then spec_roText.l0 k ((acc ++ ⟨#[44]⟩) ++ w) xs xs.length ((i + 1 : Nat) : Int) else none) (fun k => ?_) (Ev.bind (l1Num_ev n (by omega) hn.2) ?_)
        · simp (disch := omega) only [if_true, if_false, spec_roText.l0, if_pos, if_neg, h2, d, s1, e4]
        · exact Ev.congr (fun k => if_pos (show (acc ++ (⟨#[44]⟩ : ByteArray)).size + (word n).size ≤ 9223372036854775807 by rw [s1]; omega)) ih
    · have ih := roText_l0 xs hx hr t (i + 1) (acc ++ word n) h3 (fin _ (by omega))
      rw [show decide (0 < i + 1) = true from decide_eq_true (by omega)] at ih
      have er : restT (decide (0 < i)) (n :: t) acc = restT true t (acc ++ word n) := by
        rw [show decide (0 < i) = false from decide_eq_false c]
        rfl
      rw [er]
      by_cases d : n = 0
      · refine Ev.step (f := fun k => spec_roText.l0 k (acc ++ word n) xs xs.length ((i + 1 : Nat) : Int)) (fun k => ?_) ih
        have ew : word n = ⟨#[46]⟩ := by unfold word; rw [if_pos d]
        rw [ew]
        simp (disch := omega) only [if_true, if_false, spec_roText.l0, if_pos, if_neg, h2, d, e4]
      · refine Ev.step (f := fun k => (spec_l1Num.f k n).bind fun w => if acc.size + w.size ≤ 9223372036854775807 then spec_roText.l0 k (acc ++ w) xs xs.length ((i + 1 : Nat) : Int) else none) (fun k => ?_) (Ev.bind (l1Num_ev n (by omega) hn.2) ?_)
        · simp (disch := omega) only [if_true, if_false, spec_roText.l0, if_pos, if_neg, h2, d, e4]
        · exact Ev.congr (fun k => if_pos (show acc.size + (word n).size ≤ 9223372036854775807 by omega)) ih
theorem itoa_at (n : Int) (h0 : 0 < n) (h1 : n ≤ 20) : strconv_Itoa_25.f n = some (word n) := by
  unfold strconv_Itoa_25.f word
  rw [if_pos (by omega), if_neg (by omega)]
theorem lens_le : ∀ (xs : List Int), (∀ n ∈ xs, 0 ≤ n ∧ n ≤ 20) → Lib.lens ((xs.map word).map (·.data.toList)) ≤ 2 * xs.length
  | [], _ => by simp [Lib.lens]
  | n :: t, h => by
    have ih := lens_le t (fun m hm => h m (List.mem_cons_of_mem _ hm))
    have hn := h n List.mem_cons_self
    have hw := word_size n hn.1 hn.2
    have hw2 : (word n).data.toList.length ≤ 2 := by rw [Array.length_toList]; exact hw
    simp only [Lib.lens, List.map_cons, List.sum_cons, List.length_cons] at ih ⊢
    omega
theorem join_small (xs : List Int) (hx : xs.length ≤ 40) (hr : ∀ n ∈ xs, 0 ≤ n ∧ n ≤ 20) : (Lib.join ((xs.map word).map (·.data.toList)) [44]).length ≤ 1000 := by
  cases xs with
  | nil => simp [Lib.join_nil]
  | cons n t =>
    have h := lens_le (n :: t) hr
    rw [List.map_cons, List.map_cons] at h ⊢
    rw [Lib.join_length]
    simp only [List.length_map, List.length_cons, List.length_nil] at h hx ⊢
    omega
theorem rowText_l0 (xs : List Int) (h0 : 0 < xs.length) (hx : xs.length ≤ 40) (hr : ∀ n ∈ xs, 0 ≤ n ∧ n ≤ 20) : ∀ (t : List Int) (i : Nat), xs.drop i = t →
    Ev (fun k => impl_rowText.l0 k ((xs.take i).map word) xs xs.length (i : Int)) ⟨(Lib.join ((xs.map word).map (·.data.toList)) [44]).toArray⟩
  | [], i, h => by
    have h1 := dropNil h
    refine Ev.of1 (fun k => ?_)
    have hj := join_small xs hx hr
    rw [List.take_of_length_le h1]
    have hs : strings_Join.f (xs.map word) (⟨#[44]⟩ : ByteArray) = some ⟨(Lib.join ((xs.map word).map (·.data.toList)) [44]).toArray⟩ := by
      unfold strings_Join.f
      rw [if_pos ⟨by rw [List.length_map]; exact h0, by rw [List.length_map]; omega, Nat.le_trans hj (by decide)⟩]
    simp (disch := omega) only [impl_rowText.l0, if_neg, hs, Option.bind_some]
  | n :: t, i, h => by
    obtain ⟨h1, h2, h3⟩ := dropCons h
    have hn := hr n (List.mem_of_getElem? (dropGet h))
    have e4 : wrap64 ((i : Int) + 1) = ((i + 1 : Nat) : Int) := w64s (by omega)
    have ih := rowText_l0 xs h0 hx hr t (i + 1) h3
    have ht : (xs.take (i + 1)).map word = (xs.take i).map word ++ [word n] := by
      rw [take_succ_at h, List.map_append]
      rfl
    rw [ht] at ih
    have hl : ((xs.take i).map word).length < 8796093022208 := by
      rw [List.length_map, List.length_take]
      omega
    by_cases d : n = 0
    · refine Ev.step (f := fun k => impl_rowText.l0 k ((xs.take i).map word ++ [word n]) xs xs.length ((i + 1 : Nat) : Int)) (fun k => ?_) ih
      have ew : word n = ⟨#[46]⟩ := by unfold word; rw [if_pos d]
      rw [ew]
      simp (disch := omega) only [if_true, if_false, impl_rowText.l0, if_pos, h2, d, hl, if_true, e4]
    · have hi := itoa_at n (by omega) hn.2
      refine Ev.step (f := fun k => impl_rowText.l0 k ((xs.take i).map word ++ [word n]) xs xs.length ((i + 1 : Nat) : Int)) (fun k => ?_) ih
      simp (disch := omega) only [if_true, if_false, impl_rowText.l0, if_pos, if_neg, h2, d, hi, Option.bind_some, hl, if_true, e4]
theorem rowB_range {xs : List Int} (h : rowB xs = true) : xs.length ≤ 40 ∧ ∀ n ∈ xs, 0 ≤ n ∧ n ≤ 20 := by
  unfold rowB at h
  rw [Bool.and_eq_true, decide_eq_true_eq, List.all_eq_true] at h
  exact ⟨by omega, fun n hn => of_decide_eq_true (h.2 n hn)⟩
def rtV (xs : List Int) : ByteArray × Bool := if rowB xs = true then (if xs = [] then ⟨#[45]⟩ else restT false xs ⟨#[]⟩, true) else (⟨#[]⟩, false)
theorem sRT_ev (xs : List Int) (hx : xs.length ≤ 1048576) : Ev (fun k => spec_RowText.f k xs) (rtV xs) := by
  unfold spec_RowText.f rtV
  refine Ev.bind (roGood_ev xs hx) ?_
  by_cases c : rowB xs = true
  · obtain ⟨h1, h2⟩ := rowB_range c
    rw [if_pos c]
    simp only [c, if_true]
    refine Ev.bind (a := if xs = [] then ⟨#[45]⟩ else restT false xs ⟨#[]⟩) ?_ (Ev.now _)
    unfold spec_roText.f
    by_cases d : xs = []
    · subst d
      exact Ev.now _
    · have : xs.length ≠ 0 := fun e => d (List.eq_nil_of_length_eq_zero e)
      rw [if_neg d]
      simp only [show ¬ (xs.length : Int) = 0 by omega, if_false]
      exact roText_l0 xs h1 h2 xs 0 _ rfl (by decide)
  · rw [if_neg c]
    simp only [c, Bool.false_eq_true, if_false]
    exact Ev.now _
theorem iRT_ev (xs : List Int) (hx : xs.length ≤ 1048576) : Ev (fun k => impl_RowText.f k xs) (rtV xs) := by
  unfold impl_RowText.f rtV
  refine Ev.bind (IsRow_ev xs hx) ?_
  by_cases c : rowB xs = true
  · obtain ⟨h1, h2⟩ := rowB_range c
    rw [if_pos c]
    simp only [c, if_true]
    refine Ev.bind (a := if xs = [] then ⟨#[45]⟩ else restT false xs ⟨#[]⟩) ?_ (Ev.now _)
    unfold impl_rowText.f
    by_cases d : xs = []
    · subst d
      exact Ev.now _
    · have : xs.length ≠ 0 := fun e => d (List.eq_nil_of_length_eq_zero e)
      rw [if_neg d, restT_join xs d]
      simp only [show ¬ (xs.length : Int) = 0 by omega, if_false]
      exact rowText_l0 xs (by omega) h1 h2 xs 0 rfl
  · rw [if_neg c]
    simp only [c, Bool.false_eq_true, if_false]
    exact Ev.now _
theorem FnExactRowText : laws_FnExactRowText.Pure := by
  intro l hm hr hw
  by_cases c : (l.length : Int) > 1048576
  · exact ⟨0, by unfold laws_FnExactRowText.f; rw [if_pos c]⟩
  · have hl : l.length ≤ 1048576 := by omega
    obtain ⟨K1, h1⟩ := toIntS_ev l hl
    obtain ⟨K2, h2⟩ := sRT_ev l hl
    obtain ⟨K3, h3⟩ := iRT_ev l hl
    obtain ⟨K4, h4⟩ := eqIntS_same l hl
    obtain ⟨K, hK⟩ : ∃ K, K = K1 + K2 + K3 + K4 := ⟨_, rfl⟩
    have a1 := h1 (K + 1) (by omega)
    have a1' := h1 K (by omega)
    have a2 := h2 (K + 1) (by omega)
    have a3 := h3 (K + 1) (by omega)
    have a4 := h4 K (by omega)
    simp only [] at a1 a1' a2 a3 a4
    refine ⟨K + 1, ?_⟩
    simp only [laws_FnExactRowText.f, laws_FnExactRowText.j0, c, a1, a1', a2, a3, a4, Option.bind_some, bne_self_eq_false, Bool.false_eq_true, if_false, if_true]
end Go.Proofs.YtgpnhaaklhinlaaDoor.Pure
