-- Written by plug.py, a program of this session, over the kit's print of the function: checked by Lean alone.
import Derived.Test.YtgpnhaaklhinlaaPFnExactCircleBlocksx0
import Derived.Test.YtgpnhaaklhinlaaPFnExactCircleBlocksx1
import Derived.Test.YtgpnhaaklhinlaaPFnExactCircleBlocksx2
import Derived.Test.YtgpnhaaklhinlaaPFnExactCircleBlocksx5
import Derived.Test.YtgpnhaaklhinlaaPFnExactCircleBlocksx7
import Derived.Test.YtgpnhaaklhinlaaPFnExactCircleBlocksx8
namespace Go.Proofs.Ytgpnhaaklhinlaa.PFnExactCircleBlocks
open Go.RowKit Go.Proofs.YtgpnhaaklhinlaaW.PrintWords Go.Proofs.YtgpnhaaklhinlaaW.PrintLast Go.Proofs.YtgpnhaaklhinlaaW.PrintMore
attribute [local go_sem] max2_int min2_int max_two min_two max_three min_three max_four min_four   -- for this text's walks alone
set_option linter.unusedVariables false
set_option linter.unusedSimpArgs false

/-! ### impl_CircleBlocks: function 39 -/
def impl_CircleBlocks.f (k : Nat) (a0 : Int) (l1 : List (List Int)) : Option ((List (List Int)) × Bool) := (impl_areDifferences.f k a0 l1).bind fun t283 => (if t283 = true then ((impl_circle.f a0 l1).bind fun t284 => (some (t284, true))) else (some (([] : List (List Int)), false)))
theorem impl_CircleBlocks.mono : ∀ a0 a1 k, LeO (impl_CircleBlocks.f k a0 a1) (impl_CircleBlocks.f (k + 1) a0 a1) := by
 intro a0 a1 k
 unfold impl_CircleBlocks.f
 repeat' first
   | (with_reducible exact impl_areDifferences.mono _ _ _)
   | (with_reducible exact LeO.refl _)
   | (with_reducible exact LeO.none _)
   | (with_reducible refine LeO.ite ?_ ?_)
   | (with_reducible refine LeO.bind ?_ (fun _ => ?_))
   | exact impl_areDifferences.mono _ _ _
   | exact LeO.none _
   | refine LeO.ite ?_ ?_
   | refine LeO.bind ?_ (fun _ => ?_)
set_option maxHeartbeats 8000000 in
set_option maxRecDepth 100000 in
theorem impl_CircleBlocks.calls (k : Nat) (a0 : Int) (A1 : Option Addr) (c1 : Nat) (l1 : List (List Int)) (r1 : List (List Int)) (r2 : Bool) (w : World) (hr1 : Kd.C (Kd.slice 3 (Kd.int .i64)) w A1 l1.length l1) (hc1 : l1.length ≤ c1) (h : impl_CircleBlocks.f k a0 l1 = some (r1, r2)) :
  Calls Try.prog 39 #[.int .i64 a0, .slice A1 l1.length c1] w fun e w' => ∃ v0_ : Value, e = .returned (.tuple #[v0_, .bool r2]) ∧ Kd.S (Kd.slice 3 (Kd.int .i64)) 22 w' w.heap.size (fun _ => True) v0_ r1 ∧ Below w.heap.size w w' := by
 have HR1 := Aside0.mk hr1
 have HC1 := Aside0.mk hc1
 clear hr1 hc1
 have HB := Aside0.mk (Below.refl w.heap.size w)
 have H : ((impl_areDifferences.f k a0 l1).bind fun t283 => (if t283 = true then ((impl_circle.f a0 l1).bind fun t284 => (some (t284, true))) else (some (([] : List (List Int)), false)))) = some (r1, r2) := h
 clear h
 replace H := Option.bind_eq_some_iff.mp H
 obtain ⟨t283, A30, H⟩ := H
 replace H : (if t283 = true then ((impl_circle.f a0 l1).bind fun t284 => (some (t284, true))) else (some (([] : List (List Int)), false))) = some (r1, r2) := H
 have A3 := Aside0.mk A30
 clear A30
 by_cases c4 : t283 = true
 ·subst c4
  have H1 : ((impl_circle.f a0 l1).bind fun t284 => (some (t284, true))) = some (r1, r2) := by rw [if_pos rfl] at H; exact H
  clear H
  have H := H1
  clear H1
  replace H := Option.bind_eq_some_iff.mp H
  obtain ⟨t284, A50, H⟩ := H
  replace H : (some (t284, true)) = some (r1, r2) := H
  have A5 := Aside0.mk A50
  clear A50
  simp only [Option.some.injEq, Prod.mk.injEq] at H
  obtain ⟨rfl, rfl⟩ := H
  go_enter Try.func39, Try.ntmps39
  go_wp2_with (first | ((with_reducible refine gate_callee (f := 77) rfl ?_); refine goesL_ (some 8) rfl rfl Try.func77 (by kernel_rfl) rfl #[.int .i64 a0, .slice A1 l1.length c1] rfl (by (try simp only [List.map_toArray, List.map_cons, List.map_nil]); first | done | rfl | (simp only [List.length_drop, List.length_take]; rfl)) ?_; (with_reducible refine (impl_areDifferences.calls k a0 _ _ l1 true _ ?side1 ?side2 A3.out).mono ?_); (case side1 => repeat (first | exact HR1.out | (with_reducible refine Kd.C_alloc ?_ _) | (with_reducible refine Kd.C_drewN ?_ _) | (with_reducible refine Kd.C_drew ?_))); (case side2 => exact HC1.out); rintro e w6 ⟨rfl, hb⟩; refine ⟨_, rfl, ?_⟩; have n0_ := Aside0.mk (below_step (by repeat (first | (with_reducible first | exact HB.out | apply below_alloc | apply pw_below_drewN | apply below_drew1) | exact HB.out)) hb); clear HB; have HB := n0_; clear n0_; (try clear hb); (try clear hb2); (try clear hk); (try clear hi)) | ((with_reducible refine gate_callee (f := 78) rfl ?_); refine goesL_ (some 12) rfl rfl Try.func78 (by kernel_rfl) rfl #[.int .i64 a0, .slice A1 l1.length c1] rfl (by (try simp only [List.map_toArray, List.map_cons, List.map_nil]); first | done | rfl | (simp only [List.length_drop, List.length_take]; rfl)) ?_; (with_reducible refine (impl_circle.calls a0 _ _ l1 t284 _ ?side1 ?side2 A5.out).mono ?_); (case side1 => repeat (first | exact (Kd.C_below HR1.out HB.out) | (with_reducible refine Kd.C_alloc ?_ _) | (with_reducible refine Kd.C_drewN ?_ _) | (with_reducible refine Kd.C_drew ?_))); (case side2 => exact HC1.out); rintro e w7 ⟨v285, rfl, ho0, hb⟩; refine ⟨_, rfl, ?_⟩; have n0_ := Aside0.mk (Kd.S_lower ho0 (below_size (by repeat (first | (with_reducible first | exact HB.out | apply below_alloc | apply pw_below_drewN | apply below_drew1) | exact HB.out)))); have n1_ := Aside0.mk (below_step (by repeat (first | (with_reducible first | exact HB.out | apply below_alloc | apply pw_below_drewN | apply below_drew1) | exact HB.out)) hb); clear HB; have HO286 := n0_; have HB := n1_; clear n0_ n1_; (try clear hb); (try clear hb2); (try clear hk); (try clear hi); (try clear ho0)))
  go_ret2
  exact ⟨_, by first | rfl | (simp [errW_none, errW_some] <;> rfl) | (simp [*, errW_none, errW_some] <;> rfl), by (with_reducible repeat (first | apply Kd.S_alloc | apply Kd.S_drewN | apply Kd.S_drew)); exact HO286.out, by repeat (first | (with_reducible first | exact HB.out | apply below_alloc | apply pw_below_drewN | apply below_drew1) | exact HB.out)⟩
 ·replace c4 := Bool.eq_false_iff.mpr c4
  subst c4
  have H1 : (some (([] : List (List Int)), false)) = some (r1, r2) := by rw [if_neg (show ¬ (false = true) by decide)] at H; exact H
  clear H
  have H := H1
  clear H1
  simp only [Option.some.injEq, Prod.mk.injEq] at H
  obtain ⟨rfl, rfl⟩ := H
  go_enter Try.func39, Try.ntmps39
  go_wp2_with (first | ((with_reducible refine gate_callee (f := 77) rfl ?_); refine goesL_ (some 8) rfl rfl Try.func77 (by kernel_rfl) rfl #[.int .i64 a0, .slice A1 l1.length c1] rfl (by (try simp only [List.map_toArray, List.map_cons, List.map_nil]); first | done | rfl | (simp only [List.length_drop, List.length_take]; rfl)) ?_; (with_reducible refine (impl_areDifferences.calls k a0 _ _ l1 false _ ?side1 ?side2 A3.out).mono ?_); (case side1 => repeat (first | exact HR1.out | (with_reducible refine Kd.C_alloc ?_ _) | (with_reducible refine Kd.C_drewN ?_ _) | (with_reducible refine Kd.C_drew ?_))); (case side2 => exact HC1.out); rintro e w8 ⟨rfl, hb⟩; refine ⟨_, rfl, ?_⟩; have n0_ := Aside0.mk (below_step (by repeat (first | (with_reducible first | exact HB.out | apply below_alloc | apply pw_below_drewN | apply below_drew1) | exact HB.out)) hb); clear HB; have HB := n0_; clear n0_; (try clear hb); (try clear hb2); (try clear hk); (try clear hi)))
  go_ret2
  exact ⟨_, by first | rfl | (simp [errW_none, errW_some] <;> rfl) | (simp [*, errW_none, errW_some] <;> rfl), by first | exact Kd.S_nil _ _ _ _ _ | exact Kd.N_nil _ _ _ _ _ | exact Kd.V_nil _ _ _ _ _ | exact Kd.Q_nil _ _ _ _ _ | exact Kd.R_nil _ _ _ _ _, by repeat (first | (with_reducible first | exact HB.out | apply below_alloc | apply pw_below_drewN | apply below_drew1) | exact HB.out)⟩

/-! ### laws_FnExactCircleBlocks: function 10 -/
section
open Go.Proofs.Ytgpnhaaklhinlaa.Aid
theorem dropConsL {xs : List (List Int)} {i : Nat} {x : List Int} {t : List (List Int)} (h : xs.drop i = x :: t) : i < xs.length ∧ rd_L1 xs (i : Int) = x ∧ xs.drop (i + 1) = t :=
 ⟨dropLt h, by simp [rd_L1, List.getD_eq_getElem?_getD, dropGet h], dropSucc h⟩
theorem memDrop {α : Type} {xs : List α} {i : Nat} {x : α} {t : List α} (h : xs.drop i = x :: t) : x ∈ xs := by
 rw [← List.take_append_drop i xs, h]
 simp
def szL (m : Int) : List (List Int) → Int
 | [] => m
 | x :: t => if m - (x.length : Int) < 0 then -1 else szL (m - (x.length : Int)) t
def totL : List (List Int) → Nat
 | [] => 0
 | x :: t => x.length + totL t
theorem szL_tot : ∀ (t : List (List Int)) (m : Int), 0 ≤ szL m t → (totL t : Int) ≤ m
 | [], m, h => by simpa [szL, totL] using h
 | x :: t, m, h => by
  unfold szL at h
  by_cases c : m - (x.length : Int) < 0
  ·rw [if_pos c] at h
   omega
  ·rw [if_neg c] at h
   have := szL_tot t _ h
   unfold totL
   omega
theorem totL_mem : ∀ (t : List (List Int)) (x : List Int), x ∈ t → x.length ≤ totL t
 | [], x, h => by simp at h
 | y :: t, x, h => by
  unfold totL
  rcases List.mem_cons.1 h with rfl | h
  ·omega
  ·have := totL_mem t x h
   omega
theorem szIntSS_l0 (xs : List (List Int)) (hx : xs.length ≤ 1048576) (hm : ∀ x ∈ xs, x.length ≤ maxLen) : ∀ (t : List (List Int)) (i : Nat) (m : Int), xs.drop i = t → 0 ≤ m → m ≤ 1048576 → Ev (fun k => laws_szIntSS.l0 k xs m (i : Int)) (szL m t)
 | [], i, m, h, h0, hb => by
  have h1 := dropNil h
  refine Ev.of1 (fun k => ?_)
  simp (disch := omega) only [if_true, if_false, Bool.false_eq_true, laws_szIntSS.l0, if_neg, szL]
 | x :: t, i, m, h, h0, hb => by
  obtain ⟨h1, h2, h3⟩ := dropConsL h
  have hl := hm x (memDrop h)
  unfold maxLen at hl
  have e1 : wrap64 (m - (x.length : Int)) = m - (x.length : Int) := w64 (by omega) (by omega)
  by_cases c : m - (x.length : Int) < 0
  ·refine Ev.of1 (fun k => ?_)
   simp (disch := omega) only [if_true, if_false, Bool.false_eq_true, laws_szIntSS.l0, laws_szIntS.f, if_pos, h2, e1, Option.bind_some, szL]
  ·refine Ev.step (f := fun k => laws_szIntSS.l0 k xs (m - (x.length : Int)) ((i + 1 : Nat) : Int)) (fun k => ?_) ((szIntSS_l0 xs hx hm t (i + 1) _ h3 (by omega) (by omega)).cast (by simp only [szL, c, if_false]))
   simp (disch := omega) only [if_true, if_false, Bool.false_eq_true, laws_szIntSS.l0, laws_szIntS.f, if_pos, if_neg, h2, e1, Option.bind_some, w64s]
theorem szIntSS_ev (xs : List (List Int)) (hb : xs.length * 24 ≤ 140737488351232) (hm : ∀ x ∈ xs, x.length ≤ maxLen) : ∃ r : Int, Ev (fun k => laws_szIntSS.f k xs 1048576) r ∧ (¬ r < 0 → xs.length ≤ 1048576 ∧ (totL xs : Int) + xs.length ≤ 1048576) := by
 have e1 : wrap64 (1048576 - (xs.length : Int)) = 1048576 - (xs.length : Int) := w64 (by omega) (by omega)
 by_cases c : 1048576 - (xs.length : Int) < 0
 ·refine ⟨-1, Ev.all (fun k => ?_), fun h => by omega⟩
  simp (disch := omega) only [if_true, if_false, Bool.false_eq_true, laws_szIntSS.f, e1, if_pos]
 ·refine ⟨szL (1048576 - (xs.length : Int)) xs, Ev.congr (fun k => ?_) (szIntSS_l0 xs (by omega) hm xs 0 _ rfl (by omega) (by omega)), fun h => ⟨by omega, ?_⟩⟩
  ·simp (disch := omega) only [if_true, if_false, Bool.false_eq_true, laws_szIntSS.f, e1, if_neg]
   rfl
  ·have := szL_tot xs (1048576 - (xs.length : Int)) (by omega)
   omega
theorem toIntS_l0 (xs : List Int) (hx : xs.length ≤ 1048576) : ∀ (t : List Int) (i : Nat) (ys : List Int), xs.drop i = t → i ≤ xs.length → ys.length = xs.length → ys.take i = xs.take i → Ev (fun k => laws_toIntS.l0 k xs ys (i : Int)) xs
 | [], i, ys, h, hi, hl, he => by
  have h1 := dropNil h
  obtain rfl : ys = xs := by
   have : i = xs.length := by omega
   subst this
   rw [List.take_of_length_le (by omega), List.take_of_length_le (by omega)] at he
   exact he
  refine Ev.of1 (fun k => ?_)
  simp (disch := omega) only [if_true, if_false, Bool.false_eq_true, laws_toIntS.l0, if_neg]
 | x :: t, i, ys, h, hi, hl, he => by
  obtain ⟨h1, h2, h3⟩ := dropCons h
  refine Ev.step (f := fun k => laws_toIntS.l0 k xs (ys.set i x) ((i + 1 : Nat) : Int)) (fun k => ?_) (toIntS_l0 xs hx t (i + 1) _ h3 (by omega) (by simpa using hl) ?_)
  ·simp (disch := omega) only [if_true, if_false, Bool.false_eq_true, laws_toIntS.l0, if_pos, w64s, h2, toNat_cast]
  ·rw [take_succ_at h, List.take_add_one, List.take_set_of_le (by omega), he]
   simp [hl, h1]
theorem toIntS_ev (xs : List Int) (hx : xs.length ≤ 1048576) : Ev (fun k => laws_toIntS.f k xs) xs := by
 refine Ev.congr (fun k => ?_) (toIntS_l0 xs hx xs 0 (List.replicate xs.length 0) rfl (by omega) (by simp) rfl)
 unfold laws_toIntS.f
 rw [if_pos (by omega), if_pos (by omega)]
 rfl
theorem toIntSS_l0 (xs : List (List Int)) (hx : xs.length ≤ 1048576) (hm : ∀ x ∈ xs, x.length ≤ 1048576) : ∀ (t : List (List Int)) (i : Nat) (ys : List (List Int)), xs.drop i = t → i ≤ xs.length → ys.length = xs.length → ys.take i = xs.take i → Ev (fun k => laws_toIntSS.l0 k xs ys (i : Int)) xs
 | [], i, ys, h, hi, hl, he => by
  have h1 := dropNil h
  obtain rfl : ys = xs := by
   have : i = xs.length := by omega
   subst this
   rw [List.take_of_length_le (by omega), List.take_of_length_le (by omega)] at he
   exact he
  refine Ev.of1 (fun k => ?_)
  simp (disch := omega) only [if_true, if_false, Bool.false_eq_true, laws_toIntSS.l0, if_neg]
 | x :: t, i, ys, h, hi, hl, he => by
  obtain ⟨h1, h2, h3⟩ := dropConsL h
  refine Ev.step (f := fun k => (laws_toIntS.f k x).bind fun t112 => laws_toIntSS.l0 k xs (ys.set i t112) ((i + 1 : Nat) : Int)) (fun k => ?_) (Ev.bind (toIntS_ev x (hm x (memDrop h))) (toIntSS_l0 xs hx hm t (i + 1) _ h3 (by omega) (by simpa using hl) ?_))
  ·simp (disch := omega) only [if_true, if_false, Bool.false_eq_true, laws_toIntSS.l0, if_pos, w64s, h2, toNat_cast]
  ·rw [take_succ_at h, List.take_add_one, List.take_set_of_le (by omega), he]
   simp [hl, h1]
theorem toIntSS_ev (xs : List (List Int)) (hx : xs.length ≤ 1048576) (hm : ∀ x ∈ xs, x.length ≤ 1048576) : Ev (fun k => laws_toIntSS.f k xs) xs := by
 refine Ev.congr (fun k => ?_) (toIntSS_l0 xs hx hm xs 0 (List.replicate xs.length []) rfl (by omega) (by simp) rfl)
 unfold laws_toIntSS.f
 rw [if_pos (by omega), if_pos (by omega)]
 rfl
theorem eqIntS_l0 (xs ys : List Int) (hx : xs.length ≤ 1048576) (hl : xs.length = ys.length) : ∀ (s t : List Int) (i : Nat), xs.drop i = s → ys.drop i = t → Ev (fun k => laws_eqIntS.l0 k xs ys (i : Int)) (decide (s = t))
 | [], t, i, h, h' => by
  have h1 := dropNil h
  have h2 : t = [] := by rw [← h']; simp; omega
  subst h2
  refine Ev.of1 (fun k => ?_)
  simp (disch := omega) only [if_true, if_false, Bool.false_eq_true, laws_eqIntS.l0, if_neg]
  simp
 | x :: s, [], i, h, h' => by
  have h1 := dropLt h
  have h2 := dropNil h'
  omega
 | x :: s, y :: t, i, h, h' => by
  obtain ⟨h1, h2, h3⟩ := dropCons h
  obtain ⟨h1', h2', h3'⟩ := dropCons h'
  by_cases c : x = y
  ·refine Ev.step (f := fun k => laws_eqIntS.l0 k xs ys ((i + 1 : Nat) : Int)) (fun k => ?_) ((eqIntS_l0 xs ys hx hl s t (i + 1) h3 h3').cast (by simp [c]))
   simp (disch := omega) only [if_true, if_false, Bool.false_eq_true, laws_eqIntS.l0, if_pos, w64s, h2, h2']
  ·refine Ev.of1 (fun k => ?_)
   simp (disch := omega) only [if_true, if_false, Bool.false_eq_true, laws_eqIntS.l0, if_pos, if_neg, h2, h2']
   simp [c]
theorem eqIntS_ev (xs ys : List Int) (hx : xs.length ≤ 1048576) : Ev (fun k => laws_eqIntS.f k xs ys) (decide (xs = ys)) := by
 by_cases c : xs.length = ys.length
 ·refine Ev.congr (fun k => ?_) (eqIntS_l0 xs ys hx c xs ys 0 rfl rfl)
  unfold laws_eqIntS.f
  rw [if_pos (by omega)]
  rfl
 ·refine Ev.all (fun k => ?_)
  unfold laws_eqIntS.f
  rw [if_neg (by omega)]
  have : xs ≠ ys := fun e => c (by rw [e])
  simp [this]
theorem eqIntS_same (xs : List Int) (hx : xs.length ≤ 1048576) : Ev (fun k => laws_eqIntS.f k xs xs) true := (eqIntS_ev xs xs hx).cast (by simp)
theorem eqIntSS_l0 (xs ys : List (List Int)) (hx : xs.length ≤ 1048576) (hm : ∀ x ∈ xs, x.length ≤ 1048576) (hl : xs.length = ys.length) : ∀ (s t : List (List Int)) (i : Nat), xs.drop i = s → ys.drop i = t → Ev (fun k => laws_eqIntSS.l0 k xs ys (i : Int)) (decide (s = t))
 | [], t, i, h, h' => by
  have h1 := dropNil h
  have h2 : t = [] := by rw [← h']; simp; omega
  subst h2
  refine Ev.of1 (fun k => ?_)
  simp (disch := omega) only [if_true, if_false, Bool.false_eq_true, laws_eqIntSS.l0, if_neg]
  simp
 | x :: s, [], i, h, h' => by
  have h1 := dropLt h
  have h2 := dropNil h'
  omega
 | x :: s, y :: t, i, h, h' => by
  obtain ⟨h1, h2, h3⟩ := dropConsL h
  obtain ⟨h1', h2', h3'⟩ := dropConsL h'
  refine Ev.step (f := fun k => (laws_eqIntS.f k x y).bind fun t120 => (if t120 = true then (laws_eqIntSS.l0 k xs ys ((i + 1 : Nat) : Int)) else (some false))) (fun k => ?_) (Ev.bind (eqIntS_ev x y (hm x (memDrop h))) ?_)
  ·simp (disch := omega) only [if_true, if_false, Bool.false_eq_true, laws_eqIntSS.l0, if_pos, w64s, h2, h2']
  ·by_cases c : x = y
   ·simp only [c, decide_true, if_true]
    exact (eqIntSS_l0 xs ys hx hm hl s t (i + 1) h3 h3').cast (by simp)
   ·simp only [c, decide_false, Bool.false_eq_true, if_false]
    exact (Ev.now _).cast (by simp [c])
theorem eqIntSS_ev (xs ys : List (List Int)) (hx : xs.length ≤ 1048576) (hm : ∀ x ∈ xs, x.length ≤ 1048576) : Ev (fun k => laws_eqIntSS.f k xs ys) (decide (xs = ys)) := by
 by_cases c : xs.length = ys.length
 ·refine Ev.congr (fun k => ?_) (eqIntSS_l0 xs ys hx hm c xs ys 0 rfl rfl)
  unfold laws_eqIntSS.f
  rw [if_pos (by omega)]
  rfl
 ·refine Ev.all (fun k => ?_)
  unfold laws_eqIntSS.f
  rw [if_neg (by omega)]
  have : xs ≠ ys := fun e => c (by rw [e])
  simp [this]
theorem eqIntSS_same (xs : List (List Int)) (hx : xs.length ≤ 1048576) (hm : ∀ x ∈ xs, x.length ≤ 1048576) : Ev (fun k => laws_eqIntSS.f k xs xs) true := (eqIntSS_ev xs xs hx hm).cast (by simp)
theorem heldIntS_l0 (xs : List Int) (hx : xs.length ≤ 1048576) : ∀ (n : Nat) (i : Nat) (m : Int), xs.drop i = upFrom n m → 0 ≤ m → m + n ≤ 9223372036854775807 → Ev (fun k => laws_heldIntS.l0 k xs m (i : Int)) (m + n)
 | 0, i, m, h, hm, hb => by
  have h1 := dropNil h
  refine Ev.of1 (fun k => ?_)
  simp (disch := omega) only [if_true, if_false, Bool.false_eq_true, laws_heldIntS.l0, if_neg]
  simp
 | n + 1, i, m, h, hm, hb => by
  obtain ⟨h1, h2, h3⟩ := dropCons (x := m) (t := upFrom n (m + 1)) h
  refine Ev.step (f := fun k => laws_heldIntS.l0 k xs (m + 1) ((i + 1 : Nat) : Int)) (fun k => ?_) ((heldIntS_l0 xs hx n (i + 1) (m + 1) h3 (by omega) (by omega)).cast (by omega))
  have e1 : wrap64 (m + 1) = m + 1 := w64 (by omega) (by omega)
  simp (disch := omega) only [if_true, if_false, Bool.false_eq_true, laws_heldIntS.l0, if_pos, w64s, e1, h2]
theorem heldIntS_ev (n : Nat) (hx : n ≤ 1048576) : Ev (fun k => laws_heldIntS.f k (upFrom n 1) 1) (1 + n) :=
 Ev.congr (fun k => rfl) (heldIntS_l0 (upFrom n 1) (by rw [upFrom_length]; exact hx) n 0 1 rfl (by omega) (by omega))
theorem totalL_tot : ∀ l : List (List Int), totalL l = totL l
 | [] => rfl
 | x :: t => by rw [totalL, totL, totalL_tot t]
theorem heldIntS_from (xs : List Int) (n : Nat) (m : Int) (hx : xs = upFrom n m) (hn : n ≤ 1048576) (hm : 0 ≤ m) (hb : m + n ≤ 9223372036854775807) : Ev (fun k => laws_heldIntS.f k xs m) (m + n) := by
 subst hx
 exact Ev.congr (fun k => rfl) (heldIntS_l0 (upFrom n m) (by rw [upFrom_length]; exact hn) n 0 m rfl hm hb)
theorem heldIntSS_l0 (xs : List (List Int)) (hx : xs.length ≤ 1048576) : ∀ (t : List (List Int)) (i : Nat) (m : Int), xs.drop i = marksL m t → 0 ≤ m → m + (totalL t : Nat) ≤ 9223372036854775807 → (∀ x ∈ t, x.length ≤ 1048576) → Ev (fun k => laws_heldIntSS.l0 k xs m (i : Int)) (m + (totalL t : Nat))
 | [], i, m, h, hm, hb, ht => by
  have h1 := dropNil h
  refine Ev.of1 (fun k => ?_)
  simp (disch := omega) only [if_true, if_false, Bool.false_eq_true, laws_heldIntSS.l0, if_neg]
  simp [totalL]
 | x :: t, i, m, h, hm, hb, ht => by
  obtain ⟨h1, h2, h3⟩ := dropConsL (x := upFrom x.length m) (t := marksL (m + x.length) t) h
  simp only [totalL, Int.natCast_add] at hb ⊢
  refine Ev.step (f := fun k => (laws_heldIntS.f k (upFrom x.length m) m).bind fun y => (if y < 0 then (some (-1)) else (laws_heldIntSS.l0 k xs y ((i + 1 : Nat) : Int)))) (fun k => ?_) (Ev.bind (heldIntS_from _ x.length m rfl (ht x List.mem_cons_self) hm (by omega)) ?_)
  ·simp (disch := omega) only [if_true, if_false, Bool.false_eq_true, laws_heldIntSS.l0, if_pos, w64s, h2]
  ·refine Ev.congr (fun k => by rw [if_neg (by omega)]) ((heldIntSS_l0 xs hx t (i + 1) (m + x.length) h3 (by omega) (by omega) (fun y hy => ht y (List.mem_cons_of_mem _ hy))).cast (by omega))
theorem heldIntSS_ev (xs : List (List Int)) (hx : xs.length ≤ 1048576) (ht : totalL xs ≤ 1048576) : Ev (fun k => laws_heldIntSS.f k (marksL 1 xs) 1) (1 + (totalL xs : Nat)) :=
 Ev.congr (fun k => rfl) (heldIntSS_l0 (marksL 1 xs) (by rw [marksL_len]; exact hx) xs 0 1 rfl (by omega) (by omega) (fun x h => Nat.le_trans (totalL_mem xs x h) ht))
theorem held_at (K : Nat) (A : Option Addr) (c : Nat) (r : List (List Int)) (w : World) {b : Nat} {ok : Nat → Prop} (h : Kd.S (Kd.slice 3 (Kd.int .i64)) 22 w b ok (.slice A r.length c) (marksL 1 r)) (hh : laws_heldIntSS.f K (marksL 1 r) 1 = some (1 + (totalL r : Nat))) :
  Calls Try.prog 19 #[.slice A r.length c, .int .i64 1] w fun e w' => e = .returned (.int .i64 (1 + ((totalL r : Nat) : Int))) ∧ Drawn0 w w' := by
 have hr := Kd.R_reads' (Kd.S_R h)
 have hc := laws_heldIntSS.calls K A c (marksL 1 r) 1 _ w hr.2.2 (by rw [marksL_len]; exact hr.2.1) hh
 rw [marksL_len] at hc
 exact hc
end
/-- THE ONE PURE STATEMENT that is left: both come to one answer. -/
def laws_FnExactCircleBlocks.Pure : Prop := ∀ (a0 : Int) (l1 : List (List Int)), (Lit.int .i64 a0).wf = true → l1.length ≤ 1048576 → totalL l1 ≤ 1048576 → (∀ x ∈ l1, ∀ y ∈ x, (Lit.int .i64 y).wf = true) → ∃ (k : Nat) (r : List (List Int)) (rb : Bool), spec_CircleBlocks.f k a0 l1 = some (r, rb) ∧ impl_CircleBlocks.f k a0 l1 = some (r, rb) ∧ r.length ≤ 1048576 ∧ totalL r ≤ 1048576
set_option maxHeartbeats 8000000 in
set_option maxRecDepth 100000 in
theorem laws_FnExactCircleBlocks.walk (P : laws_FnExactCircleBlocks.Pure) (a0 : Int) (a1 : Option Addr) (cap1 : Nat) (l1 : List (List Int)) (w : World) (w0 : (Lit.int .i64 a0).wf = true) (hr1 : Kd.C (Kd.slice 3 (Kd.int .i64)) w a1 l1.length l1) (hc1 : l1.length ≤ cap1) (hy1 : l1.length * 24 ≤ 140737488351232) (hm1 : ∀ x ∈ l1, x.length ≤ maxLen) (hw1 : ∀ x ∈ l1, ∀ y ∈ x, (Lit.int .i64 y).wf = true) :
  Calls Try.prog 10 #[.int .i64 a0, .slice a1 l1.length cap1] w fun e w' => e = .returned (.bool true) ∧ Below w.heap.size w w' := by
 obtain ⟨A1, hA1⟩ : ∃ A, A = a1 := ⟨_, rfl⟩
 subst hA1
 obtain ⟨c1, hcc1⟩ : ∃ c, c = cap1 := ⟨_, rfl⟩
 subst hcc1
 have HR1 := Aside0.mk hr1
 have HC1 := Aside0.mk hc1
 have HBw := Aside0.mk (Below.refl w.heap.size w)
 obtain ⟨rz, ⟨Kz, hz⟩, hzz⟩ := szIntSS_ev l1 hy1 hm1
 have HZ := Aside0.mk (hz Kz (Nat.le_refl _))
 by_cases cz : rz < 0
 ·have bz : decide (rz < 0) = true := decide_eq_true cz
  clear hz hzz cz hr1 hc1
  go_enter Try.func10, Try.ntmps10
  go_wp2_with (first | ((with_reducible refine gate_dst (N := 18) rfl ?_); refine goesL_ (some 18) rfl rfl Try.func22 (by kernel_rfl) rfl #[.slice A1 l1.length c1, .int .i64 1048576] rfl (by (try simp only [List.map_toArray, List.map_cons, List.map_nil]); first | done | rfl) ?_; refine (laws_szIntSS.calls Kz A1 c1 l1 1048576 rz _ (Kd.C_below HR1.out HBw.out) HC1.out HZ.out).mono ?_; rintro e_ w_ ⟨rfl, ⟨nd_, rfl⟩⟩; refine ⟨_, rfl, ?_⟩; have hb_ := pw_below_drewN (Below.refl w.heap.size w) nd_; generalize w.drewN nd_ = w1 at hb_ ⊢; have n_HBw := Aside0.mk (below_step HBw.out hb_); clear HBw; have HBw := n_HBw; clear n_HBw; clear hb_))
  go_ret
  exact ⟨rfl, HBw.out⟩
 have bz : decide (rz < 0) = false := decide_eq_false cz
 obtain ⟨hl1, ht1⟩ := hzz cz
 have htt1 : totalL l1 ≤ 1048576 := by rw [totalL_tot]; omega
 have HLL := Aside0.mk (show l1.length ≤ 1048576 ∧ totalL l1 ≤ 1048576 from ⟨hl1, htt1⟩)
 obtain ⟨K1, h1⟩ := toIntSS_ev l1 hl1 (fun x hx => Nat.le_trans (totalL_mem l1 x hx) htt1)
 obtain ⟨K3, h3⟩ := eqIntSS_same l1 hl1 (fun x hx => Nat.le_trans (totalL_mem l1 x hx) htt1)
 have H1 := Aside0.mk (h1 K1 (Nat.le_refl _))
 have H3 := Aside0.mk (h3 K3 (Nat.le_refl _))
 obtain ⟨K5, r, rb, hsp, him, hrl, hrt⟩ := P a0 l1 w0 hl1 htt1 hw1
 have HSP := Aside0.mk hsp
 have HIM := Aside0.mk him
 have HRL := Aside0.mk (show r.length ≤ 1048576 ∧ totalL r ≤ 1048576 from ⟨hrl, hrt⟩)
 obtain ⟨K2, h2⟩ := eqIntSS_same r hrl (fun x hx => Nat.le_trans (totalL_mem r x hx) hrt)
 obtain ⟨K4, h4⟩ := heldIntSS_ev r hrl hrt
 have bm : decide (1 + ((totalL r : Nat) : Int) < 0) = false := decide_eq_false (by omega)
 have bx : decide (1 + (((totalL l1 : Nat) : Int) : Int) < 0) = false := decide_eq_false (by omega)
 have be : (rb != rb) = false := by cases rb <;> rfl
 have H2 := Aside0.mk (h2 K2 (Nat.le_refl _))
 have H4 := Aside0.mk (h4 K4 (Nat.le_refl _))
 clear hsp him hrl h2 h4 hrt h1 h3 cz hr1 hc1 hz hzz hl1 ht1 htt1 hy1 hm1 hw1 w0
 go_enter Try.func10, Try.ntmps10
 go_wp2_with (first | ((with_reducible refine gate_dst (N := 18) rfl ?_); refine goesL_ (some 18) rfl rfl Try.func22 (by kernel_rfl) rfl #[.slice A1 l1.length c1, .int .i64 1048576] rfl (by (try simp only [List.map_toArray, List.map_cons, List.map_nil]); first | done | rfl) ?_; refine (laws_szIntSS.calls Kz A1 c1 l1 1048576 rz _ (Kd.C_below HR1.out HBw.out) HC1.out HZ.out).mono ?_; rintro e_ w_ ⟨rfl, ⟨nd_, rfl⟩⟩; refine ⟨_, rfl, ?_⟩; have hb_ := pw_below_drewN (Below.refl w.heap.size w) nd_; generalize w.drewN nd_ = w1 at hb_ ⊢; have n_HBw := Aside0.mk (below_step HBw.out hb_); clear HBw; have HBw := n_HBw; clear n_HBw; clear hb_) | ((with_reducible refine gate_dst (N := 24) rfl ?_); refine goesL_ (some 24) rfl rfl Try.func24 (by kernel_rfl) rfl #[.slice A1 l1.length c1] rfl (by (try simp only [List.map_toArray, List.map_cons, List.map_nil]); first | done | rfl) ?_; refine (laws_toIntSS.calls K1 A1 c1 l1 l1 _ (Kd.C_below HR1.out HBw.out) HC1.out H1.out).mono ?_; rintro e_ w2 ⟨v_, rfl, ho_, hb_⟩; refine ⟨_, rfl, ?_⟩; obtain ⟨As1, cs1, rfl⟩ := Kd.R_slice (Kd.S_R ho_); have n_HBw := Aside0.mk (below_step HBw.out hb_); clear HBw; have HBw := n_HBw; clear n_HBw; have Hs1 := Aside0.mk (ho_); have Hbs1 := Aside0.mk hb_; clear ho_ hb_) | ((with_reducible refine gate_dst (N := 25) rfl ?_); refine goesL_ (some 25) rfl rfl Try.func38 (by kernel_rfl) rfl #[.int .i64 a0, .slice As1 l1.length cs1] rfl (by (try simp only [List.map_toArray, List.map_cons, List.map_nil]); first | done | rfl) ?_; refine (spec_CircleBlocks.calls K5 a0 As1 cs1 l1 r rb _ (Kd.R_reads' (Kd.S_R Hs1.out)).2.2 (Kd.R_reads' (Kd.S_R Hs1.out)).2.1 HSP.out).mono ?_; rintro e_ w3 ⟨v_, rfl, ho_, hb_⟩; refine ⟨_, rfl, ?_⟩; obtain ⟨Aw, cw, rfl⟩ := Kd.N_slice ho_; have n_HBw := Aside0.mk (below_step HBw.out hb_); clear HBw; have HBw := n_HBw; clear n_HBw; have HW := Aside0.mk (ho_); have HBw3 := Aside0.mk HBw.out; have HB3 := Aside0.mk (Below.refl w3.heap.size w3); clear ho_ hb_; have HWC := Aside0.mk (Kd.N_reads' HW.out).2.2; have HWN := Aside0.mk (Kd.N_reads' HW.out).2.1; clear HW) | ((with_reducible refine gate_dst (N := 29) rfl ?_); refine goesL_ (some 29) rfl rfl Try.func24 (by kernel_rfl) rfl #[.slice A1 l1.length c1] rfl (by (try simp only [List.map_toArray, List.map_cons, List.map_nil]); first | done | rfl) ?_; refine (laws_toIntSS.calls K1 A1 c1 l1 l1 _ (Kd.C_below HR1.out HBw.out) HC1.out H1.out).mono ?_; rintro e_ w4 ⟨v_, rfl, ho_, hb_⟩; refine ⟨_, rfl, ?_⟩; obtain ⟨Ax, cx, rfl⟩ := Kd.R_slice (Kd.S_R ho_); have n_HBw := Aside0.mk (below_step HBw.out hb_); have n_HB3 := Aside0.mk (below_step HB3.out hb_); clear HBw; clear HB3; have HBw := n_HBw; have HB3 := n_HB3; clear n_HBw; clear n_HB3; have Hx := Aside0.mk (ho_); have Hbx := Aside0.mk hb_; clear ho_ hb_; have HX := Aside0.mk (show Kd.S (Kd.slice 3 (Kd.int .i64)) 22  w4 w3.heap.size (fun q_ => w3.heap.size ≤ q_ ∧ q_ < w4.heap.size) (.slice Ax l1.length cx) l1 from Kd.S_mono (Kd.S_bound Hx.out) (fun q_ hq_ => ⟨hq_.2.1, hq_.2.2.1⟩)); clear Hx; have HB4 := Aside0.mk HB3.out) | ((with_reducible refine gate_dst (N := 33) rfl ?_); refine goesL_ (some 33) rfl rfl Try.func39 (by kernel_rfl) rfl #[.int .i64 a0, .slice Ax l1.length cx] rfl (by (try simp only [List.map_toArray, List.map_cons, List.map_nil]); first | done | rfl) ?_; refine (impl_CircleBlocks.calls K5 a0 Ax cx l1 r rb _ (Kd.R_reads' (Kd.S_R HX.out)).2.2 (Kd.R_reads' (Kd.S_R HX.out)).2.1 HIM.out).mono ?_; rintro e_ w5 ⟨v_, rfl, ho_, hb_⟩; refine ⟨_, rfl, ?_⟩; obtain ⟨Ag, cg, rfl⟩ := Kd.R_slice (Kd.S_R ho_); have n_HBw := Aside0.mk (below_step HBw.out hb_); have n_HB3 := Aside0.mk (below_step HB3.out hb_); have n_HX := Aside0.mk (Kd.S_below HX.out hb_); clear HBw; clear HB3; clear HX; have HBw := n_HBw; have HB3 := n_HB3; have HX := n_HX; clear n_HBw; clear n_HB3; clear n_HX; have HG := Aside0.mk (show Kd.S (Kd.slice 3 (Kd.int .i64)) 22 w5 w3.heap.size (fun q_ => w4.heap.size ≤ q_) (.slice Ag r.length cg) r from Kd.S_lower (Kd.S_mono (Kd.S_bound ho_) (fun q_ hq_ => hq_.2.1)) HB4.out.size); clear ho_ hb_) | ((with_reducible refine gate_dst (N := 38) rfl ?_); refine goesL_ (some 38) rfl rfl Try.func15 (by kernel_rfl) rfl #[.slice Ag r.length cg, .slice Aw r.length cw] rfl (by (try simp only [List.map_toArray, List.map_cons, List.map_nil]); first | done | rfl) ?_; refine (laws_eqIntSS.calls K2 Ag cg r Aw cw r true _ (Kd.R_reads' (Kd.S_R HG.out)).2.2 (Kd.R_reads' (Kd.S_R HG.out)).2.1 (Kd.C_below HWC.out HB3.out) HWN.out H2.out).mono ?_; rintro e_ w_ ⟨rfl, ⟨nd_, rfl⟩⟩; refine ⟨_, rfl, ?_⟩; have hb_ := pw_below_drewN (Below.refl w5.heap.size w5) nd_; generalize w5.drewN nd_ = w6 at hb_ ⊢; have n_HBw := Aside0.mk (below_step HBw.out hb_); have n_HB3 := Aside0.mk (below_step HB3.out hb_); have n_HX := Aside0.mk (Kd.S_below HX.out hb_); have n_HG := Aside0.mk (Kd.S_below HG.out hb_); clear HBw; clear HB3; clear HX; clear HG; have HBw := n_HBw; have HB3 := n_HB3; have HX := n_HX; have HG := n_HG; clear n_HBw; clear n_HB3; clear n_HX; clear n_HG; clear hb_) | ((with_reducible refine gate_dst (N := 47) rfl ?_); refine goesL_ (some 47) rfl rfl Try.func24 (by kernel_rfl) rfl #[.slice A1 l1.length c1] rfl (by (try simp only [List.map_toArray, List.map_cons, List.map_nil]); first | done | rfl) ?_; refine (laws_toIntSS.calls K1 A1 c1 l1 l1 _ (Kd.C_below HR1.out HBw.out) HC1.out H1.out).mono ?_; rintro e_ w7 ⟨v_, rfl, ho_, hb_⟩; refine ⟨_, rfl, ?_⟩; obtain ⟨Ay, cy, rfl⟩ := Kd.R_slice (Kd.S_R ho_); have n_HBw := Aside0.mk (below_step HBw.out hb_); have n_HB3 := Aside0.mk (below_step HB3.out hb_); have n_HX := Aside0.mk (Kd.S_below HX.out hb_); have n_HG := Aside0.mk (Kd.S_below HG.out hb_); clear HBw; clear HB3; clear HX; clear HG; have HBw := n_HBw; have HB3 := n_HB3; have HX := n_HX; have HG := n_HG; clear n_HBw; clear n_HB3; clear n_HX; clear n_HG; have Hy := Aside0.mk (ho_); have Hby := Aside0.mk hb_; clear ho_ hb_) | ((with_reducible refine gate_dst (N := 48) rfl ?_); refine goesL_ (some 48) rfl rfl Try.func15 (by kernel_rfl) rfl #[.slice Ax l1.length cx, .slice Ay l1.length cy] rfl (by (try simp only [List.map_toArray, List.map_cons, List.map_nil]); first | done | rfl) ?_; refine (laws_eqIntSS.calls K3 Ax cx l1 Ay cy l1 true _ (Kd.R_reads' (Kd.S_R HX.out)).2.2 (Kd.R_reads' (Kd.S_R HX.out)).2.1 (Kd.R_reads' (Kd.S_R Hy.out)).2.2 (Kd.R_reads' (Kd.S_R Hy.out)).2.1 H3.out).mono ?_; rintro e_ w_ ⟨rfl, ⟨nd_, rfl⟩⟩; refine ⟨_, rfl, ?_⟩; have hb_ := pw_below_drewN (Below.refl w7.heap.size w7) nd_; generalize w7.drewN nd_ = w8 at hb_ ⊢; have n_HBw := Aside0.mk (below_step HBw.out hb_); have n_HB3 := Aside0.mk (below_step HB3.out hb_); have n_HX := Aside0.mk (Kd.S_below HX.out hb_); have n_HG := Aside0.mk (Kd.S_below HG.out hb_); clear HBw; clear HB3; clear HX; clear HG; have HBw := n_HBw; have HB3 := n_HB3; have HX := n_HX; have HG := n_HG; clear n_HBw; clear n_HB3; clear n_HX; clear n_HG; clear hb_) | ((with_reducible refine gate_dst (N := 52) rfl ?_); refine goesL_ (some 52) rfl rfl Try.func18 (by kernel_rfl) rfl #[.slice Ax l1.length cx, .int .i64 1] rfl (by (try simp only [List.map_toArray, List.map_cons, List.map_nil]); first | done | rfl) ?_; refine (laws_markIntSS.calls (w0 := w3) (m := 1) (xs := l1) HLL.out.1 HLL.out.2 (by omega) (by omega) _ HB3.out HX.out).mono ?_; rintro e_ w9 ⟨rfl, hs_, hb_, hk_⟩; refine ⟨_, rfl, ?_⟩; have n_HBw := Aside0.mk (below_step HBw3.out hb_); have n_HB3 := Aside0.mk (hb_); have n_HG := Aside0.mk (Kd.S_kept HG.out hk_ (fun q_ h1_ h2_ => by have h3_ := h2_.2; have h4_ := h1_; omega)); clear HBw; clear HB3; clear HX; clear HG; have HBw := n_HBw; have HB3 := n_HB3; have HG := n_HG; clear n_HBw; clear n_HB3; clear n_HG; clear hs_ hb_ hk_) | (go_at_call 15; refine (laws_eqIntSS.calls K2 Ag cg r Aw cw r true _ (Kd.R_reads' (Kd.S_R HG.out)).2.2 (Kd.R_reads' (Kd.S_R HG.out)).2.1 (Kd.C_below HWC.out HB3.out) HWN.out H2.out).mono ?_; rintro e_ w_ ⟨rfl, ⟨nd_, rfl⟩⟩; have hb_ := pw_below_drewN (Below.refl w9.heap.size w9) nd_; generalize w9.drewN nd_ = w10 at hb_ ⊢; have n_HBw := Aside0.mk (below_step HBw.out hb_); have n_HB3 := Aside0.mk (below_step HB3.out hb_); have n_HG := Aside0.mk (Kd.S_below HG.out hb_); clear HBw; clear HB3; clear HG; have HBw := n_HBw; have HB3 := n_HB3; have HG := n_HG; clear n_HBw; clear n_HB3; clear n_HG; clear hb_) | ((with_reducible refine gate_dst (N := 68) rfl ?_); refine goesL_ (some 68) rfl rfl Try.func18 (by kernel_rfl) rfl #[.slice Ag r.length cg, .int .i64 1] rfl (by (try simp only [List.map_toArray, List.map_cons, List.map_nil]); first | done | rfl) ?_; refine (laws_markIntSS.calls (w0 := w3) (m := 1) (xs := r) HRL.out.1 HRL.out.2 (by omega) (by omega) _ HB3.out HG.out).mono ?_; rintro e_ w11 ⟨rfl, hs_, hb_, hk_⟩; refine ⟨_, rfl, ?_⟩; have n_HBw := Aside0.mk (below_step HBw3.out hb_); have n_HB3 := Aside0.mk (hb_); clear HBw; clear HB3; clear HG; have HBw := n_HBw; have HB3 := n_HB3; clear n_HBw; clear n_HB3; have HG := Aside0.mk hs_; clear hs_ hb_ hk_) | ((with_reducible refine gate_dst (N := 71) rfl ?_); refine goesL_ (some 71) rfl rfl Try.func19 (by kernel_rfl) rfl #[.slice Ag r.length cg, .int .i64 1] rfl (by (try simp only [List.map_toArray, List.map_cons, List.map_nil]); first | done | rfl) ?_; refine (held_at K4 Ag cg r _ HG.out H4.out).mono ?_; rintro e_ w_ ⟨rfl, ⟨nd_, rfl⟩⟩; refine ⟨_, rfl, ?_⟩; have hb_ := pw_below_drewN (Below.refl w11.heap.size w11) nd_; generalize w11.drewN nd_ = w12 at hb_ ⊢; have n_HBw := Aside0.mk (below_step HBw.out hb_); have n_HB3 := Aside0.mk (below_step HB3.out hb_); have n_HG := Aside0.mk (Kd.S_below HG.out hb_); clear HBw; clear HB3; clear HG; have HBw := n_HBw; have HB3 := n_HB3; have HG := n_HG; clear n_HBw; clear n_HB3; clear n_HG; clear hb_) | ((with_reducible refine gate_dst (N := 80) rfl ?_); refine goesL_ (some 80) rfl rfl Try.func24 (by kernel_rfl) rfl #[.slice A1 l1.length c1] rfl (by (try simp only [List.map_toArray, List.map_cons, List.map_nil]); first | done | rfl) ?_; refine (laws_toIntSS.calls K1 A1 c1 l1 l1 _ (Kd.C_below HR1.out HBw.out) HC1.out H1.out).mono ?_; rintro e_ w13 ⟨v_, rfl, ho_, hb_⟩; refine ⟨_, rfl, ?_⟩; obtain ⟨Az, cz, rfl⟩ := Kd.R_slice (Kd.S_R ho_); have n_HBw := Aside0.mk (below_step HBw.out hb_); have n_HB3 := Aside0.mk (below_step HB3.out hb_); have n_HG := Aside0.mk (Kd.S_below HG.out hb_); clear HBw; clear HB3; clear HG; have HBw := n_HBw; have HB3 := n_HB3; have HG := n_HG; clear n_HBw; clear n_HB3; clear n_HG; have Hz := Aside0.mk (ho_); have Hbz := Aside0.mk hb_; clear ho_ hb_) | ((with_reducible refine gate_dst (N := 81) rfl ?_); refine goesL_ (some 81) rfl rfl Try.func39 (by kernel_rfl) rfl #[.int .i64 a0, .slice Az l1.length cz] rfl (by (try simp only [List.map_toArray, List.map_cons, List.map_nil]); first | done | rfl) ?_; refine (impl_CircleBlocks.calls K5 a0 Az cz l1 r rb _ (Kd.R_reads' (Kd.S_R Hz.out)).2.2 (Kd.R_reads' (Kd.S_R Hz.out)).2.1 HIM.out).mono ?_; rintro e_ w14 ⟨v_, rfl, ho_, hb_⟩; refine ⟨_, rfl, ?_⟩; obtain ⟨Ah, ch, rfl⟩ := Kd.R_slice (Kd.S_R ho_); have n_HBw := Aside0.mk (below_step HBw.out hb_); have n_HB3 := Aside0.mk (below_step HB3.out hb_); have n_HG := Aside0.mk (Kd.S_below HG.out hb_); clear HBw; clear HB3; clear HG; have HBw := n_HBw; have HB3 := n_HB3; have HG := n_HG; clear n_HBw; clear n_HB3; clear n_HG; have HH := Aside0.mk ho_; clear ho_ hb_) | ((with_reducible refine gate_dst (N := 86) rfl ?_); refine goesL_ (some 86) rfl rfl Try.func15 (by kernel_rfl) rfl #[.slice Ah r.length ch, .slice Aw r.length cw] rfl (by (try simp only [List.map_toArray, List.map_cons, List.map_nil]); first | done | rfl) ?_; refine (laws_eqIntSS.calls K2 Ah ch r Aw cw r true _ (Kd.R_reads' (Kd.S_R HH.out)).2.2 (Kd.R_reads' (Kd.S_R HH.out)).2.1 (Kd.C_below HWC.out HB3.out) HWN.out H2.out).mono ?_; rintro e_ w_ ⟨rfl, ⟨nd_, rfl⟩⟩; refine ⟨_, rfl, ?_⟩; have hb_ := pw_below_drewN (Below.refl w14.heap.size w14) nd_; generalize w14.drewN nd_ = w15 at hb_ ⊢; have n_HBw := Aside0.mk (below_step HBw.out hb_); have n_HB3 := Aside0.mk (below_step HB3.out hb_); have n_HG := Aside0.mk (Kd.S_below HG.out hb_); clear HBw; clear HB3; clear HG; have HBw := n_HBw; have HB3 := n_HB3; have HG := n_HG; clear n_HBw; clear n_HB3; clear n_HG; clear hb_) | ((with_reducible refine gate_dst (N := 95) rfl ?_); refine goesL_ (some 95) rfl rfl Try.func19 (by kernel_rfl) rfl #[.slice Ag r.length cg, .int .i64 1] rfl (by (try simp only [List.map_toArray, List.map_cons, List.map_nil]); first | done | rfl) ?_; refine (held_at K4 Ag cg r _ HG.out H4.out).mono ?_; rintro e_ w_ ⟨rfl, ⟨nd_, rfl⟩⟩; refine ⟨_, rfl, ?_⟩; have hb_ := pw_below_drewN (Below.refl w15.heap.size w15) nd_; generalize w15.drewN nd_ = w16 at hb_ ⊢; have n_HBw := Aside0.mk (below_step HBw.out hb_); have n_HB3 := Aside0.mk (below_step HB3.out hb_); have n_HG := Aside0.mk (Kd.S_below HG.out hb_); clear HBw; clear HB3; clear HG; have HBw := n_HBw; have HB3 := n_HB3; have HG := n_HG; clear n_HBw; clear n_HB3; clear n_HG; clear hb_))
 go_ret
 exact ⟨rfl, HBw.out⟩

end Go.Proofs.Ytgpnhaaklhinlaa.PFnExactCircleBlocks
