/- The law FnExactParseRow holds for every input: what the program's function computes is what the reference's computes. Conditions: none but the statement's own. -/
import Derived.Test.YtgpnhaaklhinlaaDoorPFnExactParseRowx3
import Derived.Test.YtgpnhaaklhinlaaDoorAid
namespace Go.Proofs.YtgpnhaaklhinlaaDoor.Pure
open Go.RowKit Go.Proofs.YtgpnhaaklhinlaaDoor.PFnExactParseRow Go.Proofs.YtgpnhaaklhinlaaDoorW.PrintWords Go.Proofs.YtgpnhaaklhinlaaDoorW.PrintLast Go.Proofs.YtgpnhaaklhinlaaDoor.Aid
set_option linter.unusedVariables false
set_option linter.unusedSimpArgs false
theorem l1All_l0 (lo hi : Int) (xs : List Int) (hx : xs.length ≤ 1048576) : ∀ (t : List Int) (i : Nat), xs.drop i = t → Ev (fun k => spec_l1All.l0 k lo hi xs xs.length (i : Int)) (t.all fun n => decide (lo ≤ n ∧ n ≤ hi))
  | [], i, h => by
    have h1 := dropNil h
    refine Ev.of1 (fun k => ?_)
    simp (disch := omega) only [if_true, if_false, Bool.false_eq_true, spec_l1All.l0, if_neg]
    rfl
  | x :: t, i, h => by
    obtain ⟨h1, h2, h3⟩ := dropCons h
    by_cases c : lo ≤ x ∧ x ≤ hi
    · refine Ev.step (f := fun k => spec_l1All.l0 k lo hi xs xs.length ((i + 1 : Nat) : Int)) (fun k => ?_) ((l1All_l0 lo hi xs hx t (i + 1) h3).cast (by simp [c]))
      simp (disch := omega) only [if_true, if_false, Bool.false_eq_true, spec_l1All.l0, spec_l1In.f, if_pos, w64s, h2, Option.bind_some, decide_eq_true_eq]
    · refine Ev.of1 (fun k => ?_)
      simp (disch := omega) only [if_true, if_false, Bool.false_eq_true, spec_l1All.l0, spec_l1In.f, if_pos, h2]
      by_cases c1 : lo ≤ x
      · have c2 : ¬ x ≤ hi := fun h' => c ⟨c1, h'⟩
        simp [c1, c2]
      · simp [c1]
theorem l1All_ev (xs : List Int) (lo hi : Int) (hx : xs.length ≤ 1048576) : Ev (fun k => spec_l1All.f k xs lo hi) (xs.all fun n => decide (lo ≤ n ∧ n ≤ hi)) :=
  Ev.congr (fun k => rfl) (l1All_l0 lo hi xs hx xs 0 rfl)
def rowB (l : List Int) : Bool := decide ((l.length : Int) ≤ 40) && l.all fun n => decide (0 ≤ n ∧ n ≤ 20)
theorem roGood_ev (xs : List Int) (hx : xs.length ≤ 1048576) : Ev (fun k => spec_roGood.f k xs) (rowB xs) := by
  unfold spec_roGood.f rowB
  by_cases c : (xs.length : Int) ≤ 40
  · simp only [c, if_true]
    refine (Ev.bind (l1All_ev xs 0 20 hx) (Ev.now _)).cast (by simp)
  · simp only [c, if_false]
    exact (Ev.now _).cast (by simp)
theorem IsRow_l0 (xs : List Int) (hx : xs.length ≤ 1048576) : ∀ (t : List Int) (i : Nat), xs.drop i = t → Ev (fun k => impl_IsRow.l0 k xs xs xs.length (i : Int)) (decide ((xs.length : Int) ≤ 40) && t.all fun n => decide (0 ≤ n ∧ n ≤ 20))
  | [], i, h => by
    have h1 := dropNil h
    refine Ev.of1 (fun k => ?_)
    simp (disch := omega) only [if_true, if_false, Bool.false_eq_true, impl_IsRow.l0, if_neg]
    simp
  | x :: t, i, h => by
    obtain ⟨h1, h2, h3⟩ := dropCons h
    by_cases c : 0 ≤ x ∧ x ≤ 20
    · refine Ev.step (f := fun k => impl_IsRow.l0 k xs xs xs.length ((i + 1 : Nat) : Int)) (fun k => ?_) ((IsRow_l0 xs hx t (i + 1) h3).cast (by simp [c]))
      simp (disch := omega) only [if_true, if_false, Bool.false_eq_true, impl_IsRow.l0, if_pos, if_neg, w64s, h2]
    · refine Ev.of1 (fun k => ?_)
      simp (disch := omega) only [if_true, if_false, Bool.false_eq_true, impl_IsRow.l0, if_pos, h2]
      by_cases c1 : x < 0
      · have : ¬ 0 ≤ x := by omega
        simp [c1, this]
      · have c2 : 20 < x := by omega
        have : ¬ x ≤ 20 := by omega
        simp [c1, c2, this]
theorem IsRow_ev (xs : List Int) (hx : xs.length ≤ 1048576) : Ev (fun k => impl_IsRow.f k xs) (rowB xs) :=
  Ev.congr (fun k => rfl) (IsRow_l0 xs hx xs 0 rfl)
theorem eqIntS_l0 (xs ys : List Int) (hx : xs.length ≤ 1048576) (hl : xs.length = ys.length) : ∀ (s t : List Int) (i : Nat), xs.drop i = s → ys.drop i = t → Ev (fun k => laws_eqIntS.l0 k xs ys (i : Int)) (decide (s = t))
  | [], t, i, h, h' => by
    have h1 := dropNil h
    have h2 : t = [] := by rw [← h']; simp; omega
    subst h2
    refine Ev.of1 (fun k => ?_)
    simp (disch := omega) only [if_true, if_false, Bool.false_eq_true, laws_eqIntS.l0, if_neg]
    simp
  | x :: s, [], i, h, h' => by
    have h1 := dropLt h
    have h2 := dropNil h'
    omega
  | x :: s, y :: t, i, h, h' => by
    obtain ⟨h1, h2, h3⟩ := dropCons h
    obtain ⟨h1', h2', h3'⟩ := dropCons h'
    by_cases c : x = y
    · refine Ev.step (f := fun k => laws_eqIntS.l0 k xs ys ((i + 1 : Nat) : Int)) (fun k => ?_) ((eqIntS_l0 xs ys hx hl s t (i + 1) h3 h3').cast (by simp [c]))
      simp (disch := omega) only [if_true, if_false, Bool.false_eq_true, laws_eqIntS.l0, if_pos, w64s, h2, h2']
    · refine Ev.of1 (fun k => ?_)
      simp (disch := omega) only [if_true, if_false, Bool.false_eq_true, laws_eqIntS.l0, if_pos, if_neg, h2, h2']
      simp [c]
theorem eqIntS_ev (xs ys : List Int) (hx : xs.length ≤ 1048576) : Ev (fun k => laws_eqIntS.f k xs ys) (decide (xs = ys)) := by
  by_cases c : xs.length = ys.length
  · refine Ev.congr (fun k => ?_) (eqIntS_l0 xs ys hx c xs ys 0 rfl rfl)
    unfold laws_eqIntS.f
    rw [if_pos (by omega)]
    rfl
  · refine Ev.all (fun k => ?_)
    unfold laws_eqIntS.f
    rw [if_neg (by omega)]
    have : xs ≠ ys := fun e => c (by rw [e])
    simp [this]
theorem eqIntS_same (xs : List Int) (hx : xs.length ≤ 1048576) : Ev (fun k => laws_eqIntS.f k xs xs) true := (eqIntS_ev xs xs hx).cast (by simp)
theorem markIntS_l0 : ∀ (t : List Int) (xs : List Int) (i : Nat) (m : Int), xs.length ≤ 1048576 → xs.drop i = t → 0 ≤ m → m + t.length ≤ 9223372036854775807 → Ev (fun k => laws_markIntS.l0 k xs m (i : Int)) (m + t.length, xs.take i ++ upFrom t.length m)
  | [], xs, i, m, hx, h, hm, hb => by
    have h1 := dropNil h
    refine Ev.of1 (fun k => ?_)
    simp (disch := omega) only [if_true, if_false, Bool.false_eq_true, laws_markIntS.l0, if_neg]
    simp [upFrom, List.take_of_length_le h1]
  | x :: t, xs, i, m, hx, h, hm, hb => by
    obtain ⟨h1, h2, h3⟩ := dropCons h
    simp only [List.length_cons] at hb
    have e : (xs.set i m).drop (i + 1) = t := by rw [List.drop_set_of_lt (by omega), h3]
    refine Ev.step (f := fun k => laws_markIntS.l0 k (xs.set i m) (m + 1) ((i + 1 : Nat) : Int)) (fun k => ?_) ((markIntS_l0 t (xs.set i m) (i + 1) (m + 1) (by simpa using hx) e (by omega) (by omega)).cast ?_)
    · have e1 : wrap64 (m + 1) = m + 1 := w64 (by omega) (by omega)
      simp (disch := omega) only [if_true, if_false, Bool.false_eq_true, laws_markIntS.l0, if_pos, w64s, e1, toNat_cast]
    · rw [set_at _ _ _ _ _ h]
      have : (xs.take i ++ m :: t).take (i + 1) = xs.take i ++ [m] := by
        have hl : (xs.take i).length = i := by simp; omega
        rw [List.take_append, List.take_of_length_le (by omega), hl, show i + 1 - i = 1 by omega]
        rfl
      rw [this]
      simp [upFrom]
      omega
theorem markIntS_ev (xs : List Int) (hx : xs.length ≤ 1048576) : Ev (fun k => laws_markIntS.f k xs 1) (1 + xs.length, upFrom xs.length 1) :=
  (Ev.congr (fun k => rfl) (markIntS_l0 xs xs 0 1 hx rfl (by omega) (by omega))).cast (by simp)
theorem heldIntS_l0 (xs : List Int) (hx : xs.length ≤ 1048576) : ∀ (n : Nat) (i : Nat) (m : Int), xs.drop i = upFrom n m → 0 ≤ m → m + n ≤ 9223372036854775807 → Ev (fun k => laws_heldIntS.l0 k xs m (i : Int)) (m + n)
  | 0, i, m, h, hm, hb => by
    have h1 := dropNil h
    refine Ev.of1 (fun k => ?_)
    simp (disch := omega) only [if_true, if_false, Bool.false_eq_true, laws_heldIntS.l0, if_neg]
    simp
  | n + 1, i, m, h, hm, hb => by
    obtain ⟨h1, h2, h3⟩ := dropCons (x := m) (t := upFrom n (m + 1)) h
    refine Ev.step (f := fun k => laws_heldIntS.l0 k xs (m + 1) ((i + 1 : Nat) : Int)) (fun k => ?_) ((heldIntS_l0 xs hx n (i + 1) (m + 1) h3 (by omega) (by omega)).cast (by omega))
    have e1 : wrap64 (m + 1) = m + 1 := w64 (by omega) (by omega)
    simp (disch := omega) only [if_true, if_false, Bool.false_eq_true, laws_heldIntS.l0, if_pos, w64s, e1, h2]
theorem heldIntS_ev (n : Nat) (hx : n ≤ 1048576) : Ev (fun k => laws_heldIntS.f k (upFrom n 1) 1) (1 + n) :=
  Ev.congr (fun k => rfl) (heldIntS_l0 (upFrom n 1) (by rw [upFrom_length]; exact hx) n 0 1 rfl (by omega) (by omega))
theorem bext {a b : ByteArray} (h : a.data.toList = b.data.toList) : a = b := by
  cases a; cases b
  simp only [Array.toList_inj] at h
  rw [h]
/-- The parts of a text between commas; acc: what stands since the last one. -/
def cutC : List UInt8 → List UInt8 → List (List UInt8)
  | acc, [] => [acc]
  | acc, b :: l => if b = 44 then acc :: cutC [] l else cutC (acc ++ [b]) l
theorem ib_none : ∀ (acc : List UInt8), (∀ b ∈ acc, b ≠ 44) → Lib.indexByte acc 44 = -1
  | [], _ => rfl
  | b :: l, h => by
    unfold Lib.indexByte
    rw [ib_none l (fun x hx => h x (List.mem_cons_of_mem _ hx)), if_neg (by rw [beq_iff_eq]; exact h b List.mem_cons_self)]
    rfl
theorem ib_some : ∀ (acc l : List UInt8), (∀ b ∈ acc, b ≠ 44) → Lib.indexByte (acc ++ 44 :: l) 44 = acc.length
  | [], l, _ => by
    show Lib.indexByte (44 :: l) 44 = 0
    unfold Lib.indexByte
    rw [if_pos (by rfl)]
  | b :: acc, l, h => by
    have ih := ib_some acc l (fun x hx => h x (List.mem_cons_of_mem _ hx))
    show Lib.indexByte (b :: (acc ++ 44 :: l)) 44 = _
    unfold Lib.indexByte
    rw [ih, if_neg (by rw [beq_iff_eq]; exact h b List.mem_cons_self), if_neg (by rw [beq_iff_eq]; omega)]
    simp
theorem splitK_cut : ∀ (l acc : List UInt8) (k : Nat), (∀ b ∈ acc, b ≠ 44) → l.count 44 ≤ k → Lib.splitK [44] 0 k (acc ++ l) = cutC acc l
  | [], acc, k, h, _ => by
    rw [List.append_nil]
    cases k with
    | zero => rfl
    | succ k =>
      unfold Lib.splitK
      rw [Lib.index_one, ib_none acc h]
      rfl
  | b :: l, acc, k, h, hk => by
    by_cases c : b = 44
    · subst c
      rw [List.count_cons_self] at hk
      obtain ⟨k, rfl⟩ : ∃ m, k = m + 1 := ⟨k - 1, by omega⟩
      have ih := splitK_cut l [] k (fun x hx => by simp at hx) (by omega)
      unfold Lib.splitK cutC
      rw [Lib.index_one, ib_some acc l h, if_neg (by rw [beq_iff_eq]; omega), if_pos rfl, Int.toNat_natCast]
      rw [List.nil_append] at ih
      have e : (acc ++ 44 :: l).drop (acc.length + [(44 : UInt8)].length) = l := by
        rw [List.drop_append]
        simp
      rw [e, ih]
      simp
    · have ih := splitK_cut l (acc ++ [b]) k (fun x hx => by
        rcases List.mem_append.1 hx with hx | hx
        · exact h x hx
        · simp only [List.mem_cons, List.not_mem_nil, or_false] at hx
          rw [hx]
          exact c) (by rw [List.count_cons_of_ne c] at hk; exact hk)
      unfold cutC
      rw [if_neg c, ← ih, List.append_assoc]
      rfl
/-- The parts of a text. -/
def partsOf (s : ByteArray) : List ByteArray := (cutC [] s.data.toList).map fun l => ⟨l.toArray⟩
theorem map_mk (l : List ByteArray) : (l.map (·.data.toList)).map (fun x : List UInt8 => (⟨x.toArray⟩ : ByteArray)) = l := by
  rw [List.map_map]
  exact (List.map_congr_left (fun x _ => by cases x; rfl)).trans (List.map_id _)
theorem split_parts (s : ByteArray) : Lib.splitB ⟨#[44]⟩ 0 (Lib.countB s ⟨#[44]⟩) s = partsOf s := by
  have h1 := Lib.splitB_data ⟨#[44]⟩ 0 (Lib.countB s ⟨#[44]⟩) s
  have h2 := splitK_cut s.data.toList [] (Lib.countB s ⟨#[44]⟩) (fun x hx => by simp at hx) (Nat.le_of_eq (Lib.count_one 44 s.data.toList).symm)
  have h3 : (Lib.splitB ⟨#[44]⟩ 0 (Lib.countB s ⟨#[44]⟩) s).map (·.data.toList) = cutC [] s.data.toList := h1.trans h2
  unfold partsOf
  rw [← h3, map_mk]
theorem cutC_len : ∀ (l acc : List UInt8), (cutC acc l).length ≤ l.length + 1
  | [], acc => Nat.le_refl _
  | b :: l, acc => by
    unfold cutC
    split
    · have := cutC_len l []
      simp only [List.length_cons]
      omega
    · have := cutC_len l (acc ++ [b])
      simp only [List.length_cons]
      omega
theorem partsOf_len (s : ByteArray) : (partsOf s).length ≤ s.size + 1 := by
  unfold partsOf
  rw [List.length_map]
  have := cutC_len s.data.toList []
  rw [data_length] at this
  exact this
theorem bt_get {s : ByteArray} {i : Nat} {b : UInt8} (h : s.data.toList[i]? = some b) : bt s (i : Int) = (b.toNat : Int) := by
  rw [← rd_bytesOf]
  exact rd_get (by unfold bytesOf; rw [List.getElem?_map, h]; rfl)
theorem l1Split_l0 (s : ByteArray) (hs : s.size ≤ 1000) : ∀ (t : List UInt8) (i fr : Nat) (out : List ByteArray), s.data.toList.drop i = t → i ≤ s.size → fr ≤ i → out.length ≤ i →
    Ev (fun k => spec_l1Split.l0 k s 44 out (fr : Int) (i : Int)) (out ++ (cutC ((s.data.toList.drop fr).take (i - fr)) t).map fun l => ⟨l.toArray⟩)
  | [], i, fr, out, h, h1, h2, h3 => by
    have hi := dropNil h
    rw [data_length] at hi
    refine Ev.of1 (fun k => ?_)
    have e : s.extract (fr : Int).toNat s.size = ⟨((s.data.toList.drop fr).take (i - fr)).toArray⟩ := by
      apply bext
      rw [Int.toNat_natCast, Lib.extract_data, show i = s.size by omega]
    simp (disch := omega) only [if_true, if_false, spec_l1Split.l0, if_neg, if_pos, e, cutC]
    rfl
  | b :: t, i, fr, out, h, h1, h2, h3 => by
    have hi := dropLt h
    rw [data_length] at hi
    have hb := bt_get (dropGet h)
    have ht := dropSucc h
    by_cases c : b = 44
    · subst c
      have ih := l1Split_l0 s hs t (i + 1) (i + 1) (out ++ [⟨((s.data.toList.drop fr).take (i - fr)).toArray⟩]) ht (by omega) (Nat.le_refl _) (by rw [List.length_append]; exact Nat.succ_le_succ h3)
      rw [Nat.sub_self, List.take_zero] at ih
      refine Ev.step (f := fun k => spec_l1Split.l0 k s 44 (out ++ [⟨((s.data.toList.drop fr).take (i - fr)).toArray⟩]) ((i + 1 : Nat) : Int) ((i + 1 : Nat) : Int)) (fun k => ?_) (ih.cast ?_)
      · have e : s.extract (fr : Int).toNat (i : Int).toNat = ⟨((s.data.toList.drop fr).take (i - fr)).toArray⟩ := by
          apply bext
          rw [Int.toNat_natCast, Int.toNat_natCast, Lib.extract_data]
        have hb' : bt s (i : Int) = 44 := hb
        simp (disch := omega) only [if_true, if_false, spec_l1Split.l0, if_pos, hb', e, w64s]
      · rw [cutC, if_pos rfl, List.map_cons, List.append_assoc]
        rfl
    · have ih := l1Split_l0 s hs t (i + 1) fr out ht (by omega) (by omega) (by omega)
      have hb' : ¬ bt s (i : Int) = 44 := fun e => by
        rw [hb] at e
        exact c (UInt8.toNat_inj.1 (show b.toNat = (44 : UInt8).toNat by
          have : (44 : UInt8).toNat = 44 := rfl
          omega))
      refine Ev.step (f := fun k => spec_l1Split.l0 k s 44 out (fr : Int) ((i + 1 : Nat) : Int)) (fun k => ?_) (ih.cast ?_)
      · simp (disch := omega) only [if_true, if_false, spec_l1Split.l0, if_pos, if_neg, hb', w64s]
      · rw [cutC, if_neg c]
        have e : (s.data.toList.drop fr).take (i + 1 - fr) = (s.data.toList.drop fr).take (i - fr) ++ [b] := by
          rw [show i + 1 - fr = (i - fr) + 1 by omega, List.take_add_one, List.getElem?_drop, show fr + (i - fr) = i by omega, dropGet h]
          rfl
        rw [e]
theorem l1Split_ev (s : ByteArray) (hs : s.size ≤ 1000) : Ev (fun k => spec_l1Split.f k s 44) (partsOf s) :=
  Ev.congr (fun k => rfl) (l1Split_l0 s hs s.data.toList 0 0 [] rfl (by omega) (by omega) (Nat.zero_le _))
/-! a word as a number -/
def fd : List UInt8 → Int → Option Int
  | [], x => some x
  | b :: t, x => if b.toNat < 48 ∨ 57 < b.toNat then none else fd t (10 * x + ((b.toNat : Int) - 48))
theorem fd_pos : ∀ (t : List UInt8) (x n : Int), fd t x = some n → 0 ≤ x → 0 ≤ n
  | [], x, n, h, hx => by
    have : some x = some n := h
    injection this with e
    omega
  | b :: t, x, n, h, hx => by
    unfold fd at h
    split at h
    · cases h
    · exact fd_pos t _ n h (by omega)
def decB (w : ByteArray) : Option Int := if w.size < 1 ∨ 6 < w.size ∨ (bt w 0 = 48 ∧ 1 < w.size) then none else fd w.data.toList 0
def dres (o : Option Int) : Int × Bool := match o with | some n => (n, true) | none => (0, false)
theorem step_lt {i : Nat} {x d : Int} (h : x < 10 ^ i) (hd : d ≤ 9) : 10 * x + d < 10 ^ (i + 1) := by
  rw [Int.pow_succ]
  generalize (10 : Int) ^ i = p at h ⊢
  omega
theorem ten_le {i : Nat} (h : i ≤ 6) : (10 : Int) ^ i ≤ 1000000 := by
  have h' : i = 0 ∨ i = 1 ∨ i = 2 ∨ i = 3 ∨ i = 4 ∨ i = 5 ∨ i = 6 := by omega
  rcases h' with rfl | rfl | rfl | rfl | rfl | rfl | rfl <;> decide
theorem dec_l0 (w : ByteArray) (hw : w.size ≤ 6) : ∀ (t : List UInt8) (i : Nat) (x : Int), w.data.toList.drop i = t → 0 ≤ x → x < 10 ^ i → Ev (fun k => impl_decimal.l0 k w x w.size (i : Int)) (dres (fd t x))
  | [], i, x, h, h0, h1 => by
    have hi := dropNil h
    rw [data_length] at hi
    refine Ev.of1 (fun k => ?_)
    simp (disch := omega) only [if_true, if_false, impl_decimal.l0, if_neg, fd, dres]
  | b :: t, i, x, h, h0, h1 => by
    have hi := dropLt h
    rw [data_length] at hi
    have hb := bt_get (dropGet h)
    have ht := dropSucc h
    have hp := ten_le (i := i) (by omega)
    by_cases c1 : b.toNat < 48
    · refine Ev.of1 (fun k => ?_)
      simp (disch := omega) only [if_true, if_false, impl_decimal.l0, if_pos, hb, fd, dres]
    · by_cases c2 : 57 < b.toNat
      · refine Ev.of1 (fun k => ?_)
        simp (disch := omega) only [if_true, if_false, impl_decimal.l0, if_pos, if_neg, hb, fd, dres]
      · have ih := dec_l0 w hw t (i + 1) (10 * x + ((b.toNat : Int) - 48)) ht (by omega) (step_lt h1 (by omega))
        have e1 : wrap64 (x * 10) = 10 * x := by rw [Int.mul_comm]; exact w64 (by omega) (by omega)
        have e2 : ((b.toNat : Int) - 48) % 256 = (b.toNat : Int) - 48 := by omega
        have e3 : wrap64 (10 * x + ((b.toNat : Int) - 48)) = 10 * x + ((b.toNat : Int) - 48) := w64 (by omega) (by omega)
        refine Ev.step (f := fun k => impl_decimal.l0 k w (10 * x + ((b.toNat : Int) - 48)) w.size ((i + 1 : Nat) : Int)) (fun k => ?_) (ih.cast ?_)
        · simp (disch := omega) only [if_true, if_false, impl_decimal.l0, if_pos, if_neg, hb, e1, e2, e3, w64s]
        · rw [fd, if_neg (by omega)]
theorem read_l0 (w : ByteArray) (hw : w.size ≤ 6) : ∀ (t : List UInt8) (i : Nat) (x : Int), w.data.toList.drop i = t → 0 ≤ x → x < 10 ^ i → Ev (fun k => spec_l1Read.l0 k w x (i : Int)) ((fd t x).getD (-1))
  | [], i, x, h, h0, h1 => by
    have hi := dropNil h
    rw [data_length] at hi
    refine Ev.of1 (fun k => ?_)
    simp (disch := omega) only [if_true, if_false, spec_l1Read.l0, if_neg, fd, Option.getD_some]
  | b :: t, i, x, h, h0, h1 => by
    have hi := dropLt h
    rw [data_length] at hi
    have hb := bt_get (dropGet h)
    have ht := dropSucc h
    have hp := ten_le (i := i) (by omega)
    by_cases c1 : b.toNat < 48
    · refine Ev.of1 (fun k => ?_)
      simp (disch := omega) only [if_true, if_false, spec_l1Read.l0, if_pos, hb, fd, Option.getD_none]
    · by_cases c2 : 57 < b.toNat
      · refine Ev.of1 (fun k => ?_)
        simp (disch := omega) only [if_true, if_false, spec_l1Read.l0, if_pos, if_neg, hb, fd, Option.getD_none]
      · have ih := read_l0 w hw t (i + 1) (10 * x + ((b.toNat : Int) - 48)) ht (by omega) (step_lt h1 (by omega))
        have e1 : wrap64 (10 * x) = 10 * x := w64 (by omega) (by omega)
        have e2 : ((b.toNat : Int) - 48) % 256 = (b.toNat : Int) - 48 := by omega
        have e3 : wrap64 (10 * x + ((b.toNat : Int) - 48)) = 10 * x + ((b.toNat : Int) - 48) := w64 (by omega) (by omega)
        refine Ev.step (f := fun k => spec_l1Read.l0 k w (10 * x + ((b.toNat : Int) - 48)) ((i + 1 : Nat) : Int)) (fun k => ?_) (ih.cast ?_)
        · simp (disch := omega) only [if_true, if_false, spec_l1Read.l0, if_pos, if_neg, hb, e1, e2, e3, w64s]
        · rw [fd, if_neg (by omega)]
theorem dec_ev (w : ByteArray) : Ev (fun k => impl_decimal.f k w) (dres (decB w)) := by
  unfold decB
  by_cases c : w.size < 1 ∨ 6 < w.size ∨ (bt w 0 = 48 ∧ 1 < w.size)
  · rw [if_pos c]
    refine Ev.of1 (fun k => ?_)
    by_cases c1 : w.size < 1
    · simp (disch := omega) only [impl_decimal.f, impl_decimal.j0, if_pos, if_true, dres]
    · by_cases c2 : 6 < w.size
      · simp (disch := omega) only [impl_decimal.f, impl_decimal.j0, if_pos, if_neg, if_true, dres]
      · have c3 : bt w 0 = 48 := by rcases c with c | c | c; exact absurd c c1; exact absurd c c2; exact c.1
        have c4 : decide ((w.size : Int) > 1) = true := decide_eq_true (by rcases c with c | c | c; exact absurd c c1; exact absurd c c2; omega)
        simp (disch := omega) only [impl_decimal.f, impl_decimal.j0, if_pos, if_neg, c3, c4, if_true, dres]
  · rw [if_neg c]
    have h6 : w.size ≤ 6 := by omega
    refine Ev.step (f := fun k => impl_decimal.l0 k w 0 w.size ((0 : Nat) : Int)) (fun k => ?_) (dec_l0 w h6 w.data.toList 0 0 rfl (by omega) (by decide))
    by_cases c3 : bt w 0 = 48
    · have c4 : decide ((w.size : Int) > 1) = false := decide_eq_false (fun h => c (.inr (.inr ⟨c3, by omega⟩)))
      simp (disch := omega) only [impl_decimal.f, impl_decimal.j0, if_pos, if_neg, c3, c4, if_true, if_false, Bool.false_eq_true, Int.natCast_zero]
    · simp (disch := omega) only [impl_decimal.f, impl_decimal.j0, if_pos, if_neg, c3, if_true, if_false, Bool.false_eq_true, Int.natCast_zero]
theorem read_ev (w : ByteArray) : Ev (fun k => spec_l1Read.f k w) ((decB w).getD (-1)) := by
  have hl : spec_l1In.f (w.size : Int) 1 6 = some (decide (1 ≤ w.size ∧ w.size ≤ 6)) := by
    unfold spec_l1In.f
    by_cases c1 : 1 ≤ w.size
    · by_cases c2 : w.size ≤ 6
      · simp [c1, c2, show (1 : Int) ≤ (w.size : Int) by omega, show (w.size : Int) ≤ 6 by omega]
      · simp [c1, c2, show (1 : Int) ≤ (w.size : Int) by omega, show ¬ (w.size : Int) ≤ 6 by omega]
    · simp [c1, show ¬ (1 : Int) ≤ (w.size : Int) by omega]
  unfold decB
  by_cases c0 : 1 ≤ w.size ∧ w.size ≤ 6
  · rw [decide_eq_true c0] at hl
    by_cases c3 : bt w 0 = 48
    · by_cases c4 : 1 < w.size
      · rw [if_pos (.inr (.inr ⟨c3, c4⟩))]
        refine Ev.of1 (fun k => ?_)
        have c5 : decide ((w.size : Int) > 1) = true := decide_eq_true (by omega)
        simp (disch := omega) only [spec_l1Read.f, spec_l1Read.j0, hl, Option.bind_some, if_pos, if_true, c3, c5, Option.getD_none]
      · rw [if_neg (by omega)]
        have c5 : decide ((w.size : Int) > 1) = false := decide_eq_false (by omega)
        refine Ev.step (f := fun k => spec_l1Read.l0 k w 0 ((0 : Nat) : Int)) (fun k => ?_) (read_l0 w c0.2 w.data.toList 0 0 rfl (by omega) (by decide))
        simp (disch := omega) only [spec_l1Read.f, spec_l1Read.j0, hl, Option.bind_some, if_pos, if_true, if_false, Bool.false_eq_true, c3, c5, Int.natCast_zero]
    · rw [if_neg (by omega)]
      refine Ev.step (f := fun k => spec_l1Read.l0 k w 0 ((0 : Nat) : Int)) (fun k => ?_) (read_l0 w c0.2 w.data.toList 0 0 rfl (by omega) (by decide))
      simp (disch := omega) only [spec_l1Read.f, spec_l1Read.j0, hl, Option.bind_some, if_pos, if_neg, if_true, if_false, Bool.false_eq_true, c3, Int.natCast_zero]
  · rw [decide_eq_false c0] at hl
    rw [if_pos (by omega)]
    refine Ev.of1 (fun k => ?_)
    simp only [spec_l1Read.f, spec_l1Read.j0, hl, Option.bind_some, if_true, if_false, Bool.false_eq_true, Option.getD_none]
theorem decB_pos {w : ByteArray} {n : Int} (h : decB w = some n) : 0 ≤ n := by
  unfold decB at h
  split at h
  · cases h
  · exact fd_pos _ _ _ h (by omega)
theorem decB_point {w : ByteArray} (h : w.toList = ([46] : List UInt8)) : decB w = none := by
  have hd : w.data.toList = [46] := by rw [← Lib.toList_data]; exact h
  unfold decB
  split
  · rfl
  · rw [hd]
    rfl
/-! the words of a text -/
def pv : List ByteArray → List Int → Option (List Int)
  | [], out => some out
  | w :: t, out => if w.toList = ([46] : List UInt8) then pv t (out ++ [0]) else match decB w with | none => none | some n => if n < 1 then none else pv t (out ++ [n])
def fin (o : Option (List Int)) : List Int × Bool := match o with | some out => if rowB out = true then (out, true) else ([], false) | none => ([], false)
theorem dropConsW {xs : List ByteArray} {i : Nat} {x : ByteArray} {t : List ByteArray} (h : xs.drop i = x :: t) : i < xs.length ∧ rdOf ByteArray.empty xs (i : Int) = x ∧ xs.drop (i + 1) = t := dropConsOf h
theorem iParse_l0 (P : List ByteArray) (hP : P.length ≤ 1000) : ∀ (t : List ByteArray) (i : Nat) (out : List Int), P.drop i = t → out.length ≤ i → i ≤ P.length → Ev (fun k => impl_ParseRow.l0 k out P P.length (i : Int)) (fin (pv t out))
  | [], i, out, h, h1, h2 => by
    have hi := dropNil h
    refine Ev.step (f := fun k => (impl_IsRow.f k out).bind fun t142 => (if t142 = true then (some (out, true)) else (some (([] : List Int), false)))) (fun k => ?_) (Ev.bind (IsRow_ev out (by omega)) ?_)
    · simp (disch := omega) only [if_true, if_false, impl_ParseRow.l0, if_neg]
    · simp only [pv, fin]
      by_cases c : rowB out = true
      · simp only [c, if_true]
        exact Ev.now _
      · simp only [c, if_false, Bool.false_eq_true]
        exact Ev.now _
  | w :: t, i, out, h, h1, h2 => by
    obtain ⟨hi, hx, ht⟩ := dropConsW h
    have ih := fun n => iParse_l0 P hP t (i + 1) (out ++ [n]) ht (by rw [List.length_append]; exact Nat.succ_le_succ h1) (by omega)
    have hl : out.length < 17592186044416 := by omega
    have hd := dec_ev w
    refine Ev.step (f := fun k => (impl_decimal.f k w).bind fun bt134 => (if w.toList = ([46] : List UInt8) then impl_ParseRow.l0 k (out ++ [bt134.1]) P P.length ((i + 1 : Nat) : Int) else (if bt134.2 = true then (if bt134.1 = 0 then (some (([] : List Int), false)) else impl_ParseRow.l0 k (out ++ [bt134.1]) P P.length ((i + 1 : Nat) : Int)) else (some (([] : List Int), false))))) (fun k => ?_) (Ev.bind hd ?_)
    · simp (disch := omega) only [if_true, if_false, impl_ParseRow.l0, if_pos, hx, hl, w64s]
    · by_cases c : w.toList = ([46] : List UInt8)
      · simp only [pv, c, if_true, decB_point c, dres]
        exact ih 0
      · simp only [pv, c, if_false]
        cases e : decB w with
        | none =>
          simp only [dres, if_false, Bool.false_eq_true, fin]
          exact Ev.now _
        | some n =>
          have hn := decB_pos e
          simp only [dres, if_true]
          by_cases d : n < 1
          · have d0 : n = 0 := by omega
            simp only [d, d0, if_true, fin]
            exact Ev.now _
          · have d0 : ¬ n = 0 := by omega
            simp only [d, d0, if_false]
            exact ih n
theorem sParse_l0 (P : List ByteArray) (hP : P.length ≤ 1000) : ∀ (t : List ByteArray) (i : Nat) (out : List Int), P.drop i = t → out.length ≤ i → i ≤ P.length → Ev (fun k => spec_roParse.l0 k out P P.length (i : Int)) (fin (pv t out))
  | [], i, out, h, h1, h2 => by
    have hi := dropNil h
    refine Ev.step (f := fun k => (spec_roGood.f k out).bind fun t114 => (if t114 = true then (some (out, true)) else (some (([] : List Int), false)))) (fun k => ?_) (Ev.bind (roGood_ev out (by omega)) ?_)
    · simp (disch := omega) only [if_true, if_false, spec_roParse.l0, if_neg]
    · simp only [pv, fin]
      by_cases c : rowB out = true
      · simp only [c, if_true]
        exact Ev.now _
      · simp only [c, if_false, Bool.false_eq_true]
        exact Ev.now _
  | w :: t, i, out, h, h1, h2 => by
    obtain ⟨hi, hx, ht⟩ := dropConsW h
    have ih := fun n => sParse_l0 P hP t (i + 1) (out ++ [n]) ht (by rw [List.length_append]; exact Nat.succ_le_succ h1) (by omega)
    have hl : out.length < 17592186044416 := by omega
    by_cases c : w.toList = ([46] : List UInt8)
    · refine Ev.step (f := fun k => spec_roParse.l0 k (out ++ [0]) P P.length ((i + 1 : Nat) : Int)) (fun k => ?_) ((ih 0).cast ?_)
      · simp (disch := omega) only [if_true, if_false, spec_roParse.l0, if_pos, hx, hl, w64s, c]
      · simp only [pv, c, if_true]
    · refine Ev.step (f := fun k => (spec_l1Read.f k w).bind fun t119 => (if t119 < 1 then (some (([] : List Int), false)) else spec_roParse.l0 k (out ++ [t119]) P P.length ((i + 1 : Nat) : Int))) (fun k => ?_) (Ev.bind (read_ev w) ?_)
      · simp (disch := omega) only [if_true, if_false, spec_roParse.l0, if_pos, hx, hl, w64s, c]
      · simp only [pv, c, if_false]
        cases e : decB w with
        | none =>
          simp only [Option.getD_none, fin, show (-1 : Int) < 1 by decide, if_true]
          exact Ev.now _
        | some n =>
          simp only [Option.getD_some]
          by_cases d : n < 1
          · simp only [d, if_true, fin]
            exact Ev.now _
          · simp only [d, if_false]
            exact ih n
def prV (s : ByteArray) : List Int × Bool := if s.toList = ([45] : List UInt8) then ([], true) else if (s.size : Int) > 120 then ([], false) else fin (pv (partsOf s) [])
theorem sPR_ev (s : ByteArray) : Ev (fun k => spec_ParseRow.f k s) (prV s) := by
  unfold spec_ParseRow.f
  refine Ev.bind (a := prV s) ?_ (Ev.now _)
  unfold spec_roParse.f prV
  by_cases c : s.toList = ([45] : List UInt8)
  · simp only [c, if_true]
    exact Ev.now _
  · simp only [c, if_false]
    by_cases d : (s.size : Int) > 120
    · simp only [d, if_true]
      exact Ev.now _
    · simp only [d, if_false]
      have hp := partsOf_len s
      exact Ev.bind (l1Split_ev s (by omega)) (sParse_l0 (partsOf s) (by omega) (partsOf s) 0 [] rfl (Nat.zero_le _) (Nat.zero_le _))
theorem iPR_ev (s : ByteArray) : Ev (fun k => impl_ParseRow.f k s) (prV s) := by
  unfold impl_ParseRow.f prV
  by_cases c : s.toList = ([45] : List UInt8)
  · simp only [c, if_true]
    exact Ev.now _
  · simp only [c, if_false]
    by_cases d : (s.size : Int) > 120
    · simp only [d, if_true]
      exact Ev.now _
    · simp only [d, if_false]
      have hp := partsOf_len s
      have hs : strings_Split.f s (⟨#[44]⟩ : ByteArray) = some (partsOf s) := by
        unfold strings_Split.f
        rw [if_pos ⟨by omega, by decide⟩, split_parts]
      simp only [hs, Option.bind_some]
      exact iParse_l0 (partsOf s) (by omega) (partsOf s) 0 [] rfl (Nat.zero_le _) (Nat.zero_le _)
theorem prV_small (s : ByteArray) : (prV s).1.length ≤ 1048576 := by
  unfold prV
  split
  · simp
  · split
    · simp
    · unfold fin
      split
      · split
        · rename_i out _ h
          unfold rowB at h
          rw [Bool.and_eq_true, decide_eq_true_eq] at h
          show out.length ≤ 1048576
          omega
        · simp
      · simp
theorem FnExactParseRow : laws_FnExactParseRow.Pure := by
  intro s hs
  by_cases c : (s.size : Int) > 1048576
  · exact ⟨0, by unfold laws_FnExactParseRow.f; rw [if_pos c]⟩
  · obtain ⟨K1, h1⟩ := sPR_ev s
    obtain ⟨K2, h2⟩ := iPR_ev s
    have hR := prV_small s
    generalize prV s = rr at h1 h2 hR
    obtain ⟨r, rb⟩ := rr
    have hR : r.length ≤ 1048576 := hR
    obtain ⟨K3, h3⟩ := eqIntS_same r hR
    obtain ⟨K4, h4⟩ := markIntS_ev r hR
    obtain ⟨K5, h5⟩ := heldIntS_ev r.length hR
    obtain ⟨K, hK⟩ : ∃ K, K = K1 + K2 + K3 + K4 + K5 := ⟨_, rfl⟩
    have n2 : ¬ (1 + (r.length : Int) < 0) := by omega
    have a1 := h1 (K + 1 + 1) (by omega)
    have a2 := h2 (K + 1 + 1) (by omega)
    have a2' := h2 (K + 1) (by omega)
    have a3 := h3 (K + 1 + 1) (by omega)
    have a3' := h3 (K + 1) (by omega)
    have a4 := h4 (K + 1) (by omega)
    have a5 := h5 (K + 1) (by omega)
    have a5' := h5 K (by omega)
    simp only [] at a1 a2 a2' a3 a3' a4 a5 a5'
    refine ⟨K + 1 + 1, ?_⟩
    simp only [laws_FnExactParseRow.f, laws_FnExactParseRow.j0, laws_FnExactParseRow.j1, c, n2, a1, a2, a2', a3, a3', a4, a5, a5', Option.bind_some, bne_self_eq_false, Bool.false_eq_true, if_false, if_true]
end Go.Proofs.YtgpnhaaklhinlaaDoor.Pure
