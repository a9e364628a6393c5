-- Written by plug.py, a program of this session, over the kit's print of the function: checked by Lean alone.
import Derived.Test.YtgpnhaaklhinlaaPFnExactAllSplitsx0
import Derived.Test.YtgpnhaaklhinlaaPFnExactAllSplitsx3
import Derived.Test.YtgpnhaaklhinlaaPFnExactAllSplitsx4
namespace Go.Proofs.Ytgpnhaaklhinlaa.PFnExactAllSplits
open Go.RowKit Go.Proofs.YtgpnhaaklhinlaaW.PrintWords Go.Proofs.YtgpnhaaklhinlaaW.PrintLast Go.Proofs.YtgpnhaaklhinlaaW.PrintMore
attribute [local go_sem] max2_int min2_int max_two min_two max_three min_three max_four min_four   -- for this text's walks alone
set_option linter.unusedVariables false
set_option linter.unusedSimpArgs false

/-! ### laws_heldIntSSS: function 37 -/
def laws_heldIntSSS.l0 : Nat → List (List (List Int)) → Int → Int → Option (Int)
 | 0, _, _, _ => none
 | k + 1, x0, x1, x5 => if x5 < (x0.length : Int) then (if 0 ≤ x5 then ((laws_heldIntSS.f k (rd_L2 x0 x5) x1).bind fun t159 => (if t159 < 0 then (some (-1)) else (laws_heldIntSSS.l0 k x0 t159 (wrap64 (x5 + 1))))) else (none)) else (some x1)
def laws_heldIntSSS.f (k : Nat) (l0 : List (List (List Int))) (a1 : Int) : Option (Int) := laws_heldIntSSS.l0 k l0 a1 0
theorem laws_heldIntSSS.mono_l : ∀ k, (∀ y0 y1 y2, LeO (laws_heldIntSSS.l0 k y0 y1 y2) (laws_heldIntSSS.l0 (k + 1) y0 y1 y2))
 | 0 => fun _ _ _ r h => by simp [laws_heldIntSSS.l0] at h
 | k + 1 => by
  have ih0 := laws_heldIntSSS.mono_l k
  ·intro y0 y1 y2
   unfold laws_heldIntSSS.l0
   repeat' first
   | (with_reducible exact ih0 _ _ _)
   | (with_reducible exact laws_heldIntSS.mono _ _ _)
   | (with_reducible exact LeO.refl _)
   | (with_reducible exact LeO.none _)
   | (with_reducible refine LeO.ite ?_ ?_)
   | (with_reducible refine LeO.bind ?_ (fun _ => ?_))
   | exact ih0 _ _ _
   | exact laws_heldIntSS.mono _ _ _
   | exact LeO.none _
   | refine LeO.ite ?_ ?_
   | refine LeO.bind ?_ (fun _ => ?_)
theorem laws_heldIntSSS.mono : ∀ a0 a1 k, LeO (laws_heldIntSSS.f k a0 a1) (laws_heldIntSSS.f (k + 1) a0 a1) := by
 intro a0 a1 k
 have ih0 := laws_heldIntSSS.mono_l k
 unfold laws_heldIntSSS.f
 repeat' first
   | (with_reducible exact ih0 _ _ _)
   | (with_reducible exact laws_heldIntSS.mono _ _ _)
   | (with_reducible exact LeO.refl _)
   | (with_reducible exact LeO.none _)
   | (with_reducible refine LeO.ite ?_ ?_)
   | (with_reducible refine LeO.bind ?_ (fun _ => ?_))
   | exact ih0 _ _ _
   | exact laws_heldIntSS.mono _ _ _
   | exact LeO.none _
   | refine LeO.ite ?_ ?_
   | refine LeO.bind ?_ (fun _ => ?_)
set_option maxHeartbeats 8000000 in
set_option maxRecDepth 100000 in
theorem laws_heldIntSSS.calls (k : Nat) (A0 : Option Addr) (c0 : Nat) (l0 : List (List (List Int))) (a1 : Int) (r : Int) (w : World) (hr0 : Kd.C (Kd.slice 22 (Kd.slice 3 (Kd.int .i64))) w A0 l0.length l0) (hc0 : l0.length ≤ c0) (h : laws_heldIntSSS.f k l0 a1 = some r) :
  Calls Try.prog 37 #[.slice A0 l0.length c0, .int .i64 a1] w fun e w' => e = .returned (.int .i64 r) ∧ Drawn0 w w' := by
 have HR0 := Aside0.mk hr0
 have HC0 := Aside0.mk hc0
 clear hr0 hc0
 have H : (laws_heldIntSSS.l0 k l0 a1 0) = some r := h
 clear h
 have H' := Aside0.mk H
 clear H
 go_enter Try.func37, Try.ntmps37
 go_wp2
 go_loopg [1, 5] k (fun kq v1 v5 w' => ∃ (x1_1 : Int) (x5_1 : Int), v1 = .int .i64 x1_1 ∧ v5 = .int .i64 x5_1 ∧ Aside0 (laws_heldIntSSS.l0 kq l0 x1_1 x5_1 = some r) ∧ Aside0 (kq ≤ k) ∧ Drawn0 w w')
 case atStart => exact ⟨(a1), (0), (by first | rfl | (simp; done) | (simp [*]; done)), (by first | rfl | (simp; done) | (simp [*]; done)), H', ⟨Nat.le_refl _⟩, by repeat (first | exact Drawn0.refl _ | apply Drawn0.step)⟩
 case round =>
  clear H'
  try clear p2
  obtain ⟨x1_1, x5_1, rfl, rfl, HA, HK1, ⟨m1, rfl⟩⟩ := hrel
  cases gk with
  | zero => exact absurd HA.out (by simp [laws_heldIntSSS.l0])
  | succ k1 =>
   have H := HA.out
   clear HA
   simp only [laws_heldIntSSS.l0] at H
   by_cases c3 : x5_1 < (l0.length : Int)
   ·rw [if_pos c3] at H
    have c3b0 : decide (x5_1 < (l0.length : Int)) = true := decide_eq_true c3
    clear c3
    by_cases c4 : 0 ≤ x5_1
    ·rw [if_pos c4] at H
     have c4b0 : decide (0 ≤ x5_1) = true := decide_eq_true c4
     clear c4
     replace H := Option.bind_eq_some_iff.mp H
     obtain ⟨t159, A50, H⟩ := H
     replace H : (if t159 < 0 then (some (-1)) else (laws_heldIntSSS.l0 k1 l0 t159 (wrap64 (x5_1 + 1)))) = some r := H
     have A5 := Aside0.mk A50
     clear A50
     by_cases c6 : t159 < 0
     ·rw [if_pos c6] at H
      have c6b0 : decide (t159 < 0) = true := decide_eq_true c6
      clear c6
      obtain rfl := Option.some.inj H
      have p158 : 0 ≤ (x5_1 : Int) := of_decide_eq_true (by first | (with_reducible assumption) | assumption)
      have q158 : x5_1 < (l0.length : Int) := of_decide_eq_true (by first | (with_reducible assumption) | assumption)
      obtain ⟨ad158, A158_0, c158_0, e158, hx158_0, hl158_0, hi158_0⟩ := at_L2 HR0.out x5_1 p158 q158
      cases e158
      have HR158_0 := Aside0.mk hi158_0
      have HC158_0 := Aside0.mk hl158_0
      clear hi158_0 hl158_0
      replace p158 := eq_true p158
      replace q158 := eq_true q158
      go_wp2_with (first | ((with_reducible refine gate_callee (f := 19) rfl ?_); refine goesL_ (some 17) rfl rfl Try.func19 (by kernel_rfl) rfl #[.slice A158_0 (rd_L2 l0 x5_1).length c158_0, .int .i64 x1_1] rfl (by (try simp only [List.map_toArray, List.map_cons, List.map_nil]); first | done | rfl | (simp only [List.length_drop, List.length_take]; rfl)) ?_; (with_reducible refine (laws_heldIntSS.calls k1 _ _ (rd_L2 l0 x5_1) x1_1 t159 _ ?side1 ?side2 A5.out).mono ?_); (case side1 => repeat (first | exact HR158_0.out | (with_reducible refine Kd.C_alloc ?_ _) | (with_reducible refine Kd.C_drewN ?_ _) | (with_reducible refine Kd.C_drew ?_))); (case side2 => exact HC158_0.out); rintro e w' ⟨rfl, ⟨nd, rfl⟩⟩; refine ⟨_, rfl, ?_⟩))
      go_ret
      exact ⟨by first | rfl | (simp; done) | (simp [*]; done), by repeat (first | exact Drawn0.refl _ | apply Drawn0.step)⟩
     ·rw [if_neg c6] at H
      have c6b0 : decide (t159 < 0) = false := decide_eq_false c6
      clear c6
      have H' := Aside0.mk H
      clear H
      have p158 : 0 ≤ (x5_1 : Int) := of_decide_eq_true (by first | (with_reducible assumption) | assumption)
      have q158 : x5_1 < (l0.length : Int) := of_decide_eq_true (by first | (with_reducible assumption) | assumption)
      obtain ⟨ad158, A158_0, c158_0, e158, hx158_0, hl158_0, hi158_0⟩ := at_L2 HR0.out x5_1 p158 q158
      cases e158
      have HR158_0 := Aside0.mk hi158_0
      have HC158_0 := Aside0.mk hl158_0
      clear hi158_0 hl158_0
      replace p158 := eq_true p158
      replace q158 := eq_true q158
      go_wp2_with (first | ((with_reducible refine gate_callee (f := 19) rfl ?_); refine goesL_ (some 17) rfl rfl Try.func19 (by kernel_rfl) rfl #[.slice A158_0 (rd_L2 l0 x5_1).length c158_0, .int .i64 x1_1] rfl (by (try simp only [List.map_toArray, List.map_cons, List.map_nil]); first | done | rfl | (simp only [List.length_drop, List.length_take]; rfl)) ?_; (with_reducible refine (laws_heldIntSS.calls k1 _ _ (rd_L2 l0 x5_1) x1_1 t159 _ ?side1 ?side2 A5.out).mono ?_); (case side1 => repeat (first | exact HR158_0.out | (with_reducible refine Kd.C_alloc ?_ _) | (with_reducible refine Kd.C_drewN ?_ _) | (with_reducible refine Kd.C_drew ?_))); (case side2 => exact HC158_0.out); rintro e w' ⟨rfl, ⟨nd, rfl⟩⟩; refine ⟨_, rfl, ?_⟩))
      go_roundg k1
      case measure => have := HK1.out; omega
      case rel => exact ⟨(t159), (wrap64 (x5_1 + 1)), (by first | rfl | (simp; done) | (simp [*]; done)), (by first | rfl | (simp; done) | (simp [*]; done)), H', ⟨by have := HK1.out; omega⟩, by repeat (first | exact Drawn0.refl _ | apply Drawn0.step)⟩
    ·rw [if_neg c4] at H
     exact absurd H (by simp)
   ·rw [if_neg c3] at H
    have c3b0 : decide (x5_1 < (l0.length : Int)) = false := decide_eq_false c3
    clear c3
    obtain rfl := Option.some.inj H
    go_wp2
    go_ret
    exact ⟨by first | rfl | (simp; done) | (simp [*]; done), by repeat (first | exact Drawn0.refl _ | apply Drawn0.step)⟩

/-! ### laws_FnExactAllSplits: function 9 -/
section
open Go.Proofs.Ytgpnhaaklhinlaa.Aid
theorem eqIntS_l0 (xs ys : List Int) (hx : xs.length ≤ 1048576) (hl : xs.length = ys.length) : ∀ (s t : List Int) (i : Nat), xs.drop i = s → ys.drop i = t → Ev (fun k => laws_eqIntS.l0 k xs ys (i : Int)) (decide (s = t))
 | [], t, i, h, h' => by
  have h1 := dropNil h
  have h2 : t = [] := by rw [← h']; simp; omega
  subst h2
  refine Ev.of1 (fun k => ?_)
  simp (disch := omega) only [if_true, if_false, Bool.false_eq_true, laws_eqIntS.l0, if_neg]
  simp
 | x :: s, [], i, h, h' => by
  have h1 := dropLt h
  have h2 := dropNil h'
  omega
 | x :: s, y :: t, i, h, h' => by
  obtain ⟨h1, h2, h3⟩ := dropCons h
  obtain ⟨h1', h2', h3'⟩ := dropCons h'
  by_cases c : x = y
  ·refine Ev.step (f := fun k => laws_eqIntS.l0 k xs ys ((i + 1 : Nat) : Int)) (fun k => ?_) ((eqIntS_l0 xs ys hx hl s t (i + 1) h3 h3').cast (by simp [c]))
   simp (disch := omega) only [if_true, if_false, Bool.false_eq_true, laws_eqIntS.l0, if_pos, w64s, h2, h2']
  ·refine Ev.of1 (fun k => ?_)
   simp (disch := omega) only [if_true, if_false, Bool.false_eq_true, laws_eqIntS.l0, if_pos, if_neg, h2, h2']
   simp [c]
theorem eqIntS_ev (xs ys : List Int) (hx : xs.length ≤ 1048576) : Ev (fun k => laws_eqIntS.f k xs ys) (decide (xs = ys)) := by
 by_cases c : xs.length = ys.length
 ·refine Ev.congr (fun k => ?_) (eqIntS_l0 xs ys hx c xs ys 0 rfl rfl)
  unfold laws_eqIntS.f
  rw [if_pos (by omega)]
  rfl
 ·refine Ev.all (fun k => ?_)
  unfold laws_eqIntS.f
  rw [if_neg (by omega)]
  have : xs ≠ ys := fun e => c (by rw [e])
  simp [this]
theorem eqIntS_same (xs : List Int) (hx : xs.length ≤ 1048576) : Ev (fun k => laws_eqIntS.f k xs xs) true := (eqIntS_ev xs xs hx).cast (by simp)
theorem dropConsL {xs : List (List Int)} {i : Nat} {x : List Int} {t : List (List Int)} (h : xs.drop i = x :: t) : i < xs.length ∧ rd_L1 xs (i : Int) = x ∧ xs.drop (i + 1) = t :=
 ⟨dropLt h, by simp [rd_L1, List.getD_eq_getElem?_getD, dropGet h], dropSucc h⟩
theorem memDrop {α : Type} {xs : List α} {i : Nat} {x : α} {t : List α} (h : xs.drop i = x :: t) : x ∈ xs := by
 rw [← List.take_append_drop i xs, h]
 simp
theorem eqIntSS_l0 (xs ys : List (List Int)) (hx : xs.length ≤ 1048576) (hm : ∀ x ∈ xs, x.length ≤ 1048576) (hl : xs.length = ys.length) : ∀ (s t : List (List Int)) (i : Nat), xs.drop i = s → ys.drop i = t → Ev (fun k => laws_eqIntSS.l0 k xs ys (i : Int)) (decide (s = t))
 | [], t, i, h, h' => by
  have h1 := dropNil h
  have h2 : t = [] := by rw [← h']; simp; omega
  subst h2
  refine Ev.of1 (fun k => ?_)
  simp (disch := omega) only [if_true, if_false, Bool.false_eq_true, laws_eqIntSS.l0, if_neg]
  simp
 | x :: s, [], i, h, h' => by
  have h1 := dropLt h
  have h2 := dropNil h'
  omega
 | x :: s, y :: t, i, h, h' => by
  obtain ⟨h1, h2, h3⟩ := dropConsL h
  obtain ⟨h1', h2', h3'⟩ := dropConsL h'
  refine Ev.step (f := fun k => (laws_eqIntS.f k x y).bind fun t120 => (if t120 = true then (laws_eqIntSS.l0 k xs ys ((i + 1 : Nat) : Int)) else (some false))) (fun k => ?_) (Ev.bind (eqIntS_ev x y (hm x (memDrop h))) ?_)
  ·simp (disch := omega) only [if_true, if_false, Bool.false_eq_true, laws_eqIntSS.l0, if_pos, w64s, h2, h2']
  ·by_cases c : x = y
   ·simp only [c, decide_true, if_true]
    exact (eqIntSS_l0 xs ys hx hm hl s t (i + 1) h3 h3').cast (by simp)
   ·simp only [c, decide_false, Bool.false_eq_true, if_false]
    exact (Ev.now _).cast (by simp [c])
theorem eqIntSS_ev (xs ys : List (List Int)) (hx : xs.length ≤ 1048576) (hm : ∀ x ∈ xs, x.length ≤ 1048576) : Ev (fun k => laws_eqIntSS.f k xs ys) (decide (xs = ys)) := by
 by_cases c : xs.length = ys.length
 ·refine Ev.congr (fun k => ?_) (eqIntSS_l0 xs ys hx hm c xs ys 0 rfl rfl)
  unfold laws_eqIntSS.f
  rw [if_pos (by omega)]
  rfl
 ·refine Ev.all (fun k => ?_)
  unfold laws_eqIntSS.f
  rw [if_neg (by omega)]
  have : xs ≠ ys := fun e => c (by rw [e])
  simp [this]
theorem eqIntSS_same (xs : List (List Int)) (hx : xs.length ≤ 1048576) (hm : ∀ x ∈ xs, x.length ≤ 1048576) : Ev (fun k => laws_eqIntSS.f k xs xs) true := (eqIntSS_ev xs xs hx hm).cast (by simp)
theorem dropConsE {xs : List (List (List Int))} {i : Nat} {x : List (List Int)} {t : List (List (List Int))} (h : xs.drop i = x :: t) : i < xs.length ∧ rd_L2 xs (i : Int) = x ∧ xs.drop (i + 1) = t :=
 ⟨dropLt h, by simp [rd_L2, List.getD_eq_getElem?_getD, dropGet h], dropSucc h⟩
theorem eqIntSSS_l0 (xs ys : List (List (List Int))) (hx : xs.length ≤ 1048576) (hm : ∀ x ∈ xs, x.length ≤ 1048576 ∧ ∀ y ∈ x, y.length ≤ 1048576) (hl : xs.length = ys.length) : ∀ (s t : List (List (List Int))) (i : Nat), xs.drop i = s → ys.drop i = t → Ev (fun k => laws_eqIntSSS.l0 k xs ys (i : Int)) (decide (s = t))
 | [], t, i, h, h' => by
  have h1 := dropNil h
  have h2 : t = [] := by rw [← h']; simp; omega
  subst h2
  refine Ev.of1 (fun k => ?_)
  simp (disch := omega) only [if_true, if_false, Bool.false_eq_true, laws_eqIntSSS.l0, if_neg]
  simp
 | x :: s, [], i, h, h' => by
  have h1 := dropLt h
  have h2 := dropNil h'
  omega
 | x :: s, y :: t, i, h, h' => by
  obtain ⟨h1, h2, h3⟩ := dropConsE h
  obtain ⟨h1', h2', h3'⟩ := dropConsE h'
  refine Ev.step (f := fun k => (laws_eqIntSS.f k x y).bind fun t120 => (if t120 = true then (laws_eqIntSSS.l0 k xs ys ((i + 1 : Nat) : Int)) else (some false))) (fun k => ?_) (Ev.bind (eqIntSS_ev x y (hm x (memDrop h)).1 (hm x (memDrop h)).2) ?_)
  ·simp (disch := omega) only [if_true, if_false, Bool.false_eq_true, laws_eqIntSSS.l0, if_pos, w64s, h2, h2']
  ·by_cases c : x = y
   ·simp only [c, decide_true, if_true]
    exact (eqIntSSS_l0 xs ys hx hm hl s t (i + 1) h3 h3').cast (by simp)
   ·simp only [c, decide_false, Bool.false_eq_true, if_false]
    exact (Ev.now _).cast (by simp [c])
theorem eqIntSSS_ev (xs ys : List (List (List Int))) (hx : xs.length ≤ 1048576) (hm : ∀ x ∈ xs, x.length ≤ 1048576 ∧ ∀ y ∈ x, y.length ≤ 1048576) : Ev (fun k => laws_eqIntSSS.f k xs ys) (decide (xs = ys)) := by
 by_cases c : xs.length = ys.length
 ·refine Ev.congr (fun k => ?_) (eqIntSSS_l0 xs ys hx hm c xs ys 0 rfl rfl)
  unfold laws_eqIntSSS.f
  rw [if_pos (by omega)]
  rfl
 ·refine Ev.all (fun k => ?_)
  unfold laws_eqIntSSS.f
  rw [if_neg (by omega)]
  have : xs ≠ ys := fun e => c (by rw [e])
  simp [this]
theorem eqIntSSS_same (xs : List (List (List Int))) (hx : xs.length ≤ 1048576) (hm : ∀ x ∈ xs, x.length ≤ 1048576 ∧ ∀ y ∈ x, y.length ≤ 1048576) : Ev (fun k => laws_eqIntSSS.f k xs xs) true := (eqIntSSS_ev xs xs hx hm).cast (by simp)
theorem heldIntS_l0 (xs : List Int) (hx : xs.length ≤ 1048576) : ∀ (n : Nat) (i : Nat) (m : Int), xs.drop i = upFrom n m → 0 ≤ m → m + n ≤ 9223372036854775807 → Ev (fun k => laws_heldIntS.l0 k xs m (i : Int)) (m + n)
 | 0, i, m, h, hm, hb => by
  have h1 := dropNil h
  refine Ev.of1 (fun k => ?_)
  simp (disch := omega) only [if_true, if_false, Bool.false_eq_true, laws_heldIntS.l0, if_neg]
  simp
 | n + 1, i, m, h, hm, hb => by
  obtain ⟨h1, h2, h3⟩ := dropCons (x := m) (t := upFrom n (m + 1)) h
  refine Ev.step (f := fun k => laws_heldIntS.l0 k xs (m + 1) ((i + 1 : Nat) : Int)) (fun k => ?_) ((heldIntS_l0 xs hx n (i + 1) (m + 1) h3 (by omega) (by omega)).cast (by omega))
  have e1 : wrap64 (m + 1) = m + 1 := w64 (by omega) (by omega)
  simp (disch := omega) only [if_true, if_false, Bool.false_eq_true, laws_heldIntS.l0, if_pos, w64s, e1, h2]
theorem heldIntS_ev (n : Nat) (hx : n ≤ 1048576) : Ev (fun k => laws_heldIntS.f k (upFrom n 1) 1) (1 + n) :=
 Ev.congr (fun k => rfl) (heldIntS_l0 (upFrom n 1) (by rw [upFrom_length]; exact hx) n 0 1 rfl (by omega) (by omega))
theorem heldIntS_from (xs : List Int) (n : Nat) (m : Int) (hx : xs = upFrom n m) (hn : n ≤ 1048576) (hm : 0 ≤ m) (hb : m + n ≤ 9223372036854775807) : Ev (fun k => laws_heldIntS.f k xs m) (m + n) := by
 subst hx
 exact Ev.congr (fun k => rfl) (heldIntS_l0 (upFrom n m) (by rw [upFrom_length]; exact hn) n 0 m rfl hm hb)
theorem heldIntSS_l0 (xs : List (List Int)) (hx : xs.length ≤ 1048576) : ∀ (t : List (List Int)) (i : Nat) (m : Int), xs.drop i = marksL m t → 0 ≤ m → m + (totalL t : Nat) ≤ 9223372036854775807 → (∀ x ∈ t, x.length ≤ 1048576) → Ev (fun k => laws_heldIntSS.l0 k xs m (i : Int)) (m + (totalL t : Nat))
 | [], i, m, h, hm, hb, ht => by
  have h1 := dropNil h
  refine Ev.of1 (fun k => ?_)
  simp (disch := omega) only [if_true, if_false, Bool.false_eq_true, laws_heldIntSS.l0, if_neg]
  simp [totalL]
 | x :: t, i, m, h, hm, hb, ht => by
  obtain ⟨h1, h2, h3⟩ := dropConsL (x := upFrom x.length m) (t := marksL (m + x.length) t) h
  simp only [totalL, Int.natCast_add] at hb ⊢
  refine Ev.step (f := fun k => (laws_heldIntS.f k (upFrom x.length m) m).bind fun y => (if y < 0 then (some (-1)) else (laws_heldIntSS.l0 k xs y ((i + 1 : Nat) : Int)))) (fun k => ?_) (Ev.bind (heldIntS_from _ x.length m rfl (ht x List.mem_cons_self) hm (by omega)) ?_)
  ·simp (disch := omega) only [if_true, if_false, Bool.false_eq_true, laws_heldIntSS.l0, if_pos, w64s, h2]
  ·refine Ev.congr (fun k => by rw [if_neg (by omega)]) ((heldIntSS_l0 xs hx t (i + 1) (m + x.length) h3 (by omega) (by omega) (fun y hy => ht y (List.mem_cons_of_mem _ hy))).cast (by omega))
theorem heldIntSS_ev (xs : List (List Int)) (hx : xs.length ≤ 1048576) (ht : totalL xs ≤ 1048576) : Ev (fun k => laws_heldIntSS.f k (marksL 1 xs) 1) (1 + (totalL xs : Nat)) :=
 Ev.congr (fun k => rfl) (heldIntSS_l0 (marksL 1 xs) (by rw [marksL_len]; exact hx) xs 0 1 rfl (by omega) (by omega) (fun x h => Nat.le_trans (totalL_mem xs x h) ht))
theorem heldIntSS_from (xs : List (List Int)) (x : List (List Int)) (m : Int) (hx : xs = marksL m x) (hn : x.length ≤ 1048576) (hm : 0 ≤ m) (hb : m + (totalL x : Nat) ≤ 9223372036854775807) (hr : ∀ y ∈ x, y.length ≤ 1048576) : Ev (fun k => laws_heldIntSS.f k xs m) (m + (totalL x : Nat)) := by
 subst hx
 exact Ev.congr (fun k => rfl) (heldIntSS_l0 (marksL m x) (by rw [marksL_len]; exact hn) x 0 m rfl hm hb hr)
theorem dropCons3 {xs : List (List (List Int))} {i : Nat} {x : List (List Int)} {t : List (List (List Int))} (h : xs.drop i = x :: t) : i < xs.length ∧ rd_L2 xs (i : Int) = x ∧ xs.drop (i + 1) = t :=
 ⟨dropLt h, by simp [rd_L2, List.getD_eq_getElem?_getD, dropGet h], dropSucc h⟩
theorem heldIntSSS_l0 (xs : List (List (List Int))) (hx : xs.length ≤ 1048576) : ∀ (t : List (List (List Int))) (i : Nat) (m : Int), xs.drop i = marks3 m t → 0 ≤ m → m + (total3 t : Nat) ≤ 9223372036854775807 → (∀ x ∈ t, x.length ≤ 1048576 ∧ ∀ y ∈ x, y.length ≤ 1048576) → Ev (fun k => laws_heldIntSSS.l0 k xs m (i : Int)) (m + (total3 t : Nat))
 | [], i, m, h, hm, hb, ht => by
  have h1 := dropNil h
  refine Ev.of1 (fun k => ?_)
  simp (disch := omega) only [if_true, if_false, Bool.false_eq_true, laws_heldIntSSS.l0, if_neg]
  simp [total3]
 | x :: t, i, m, h, hm, hb, ht => by
  obtain ⟨h1, h2, h3⟩ := dropCons3 (x := marksL m x) (t := marks3 (m + (totalL x : Nat)) t) h
  simp only [total3, Int.natCast_add] at hb ⊢
  refine Ev.step (f := fun k => (laws_heldIntSS.f k (marksL m x) m).bind fun y => (if y < 0 then (some (-1)) else (laws_heldIntSSS.l0 k xs y ((i + 1 : Nat) : Int)))) (fun k => ?_) (Ev.bind (heldIntSS_from _ x m rfl (ht x List.mem_cons_self).1 hm (by omega) (ht x List.mem_cons_self).2) ?_)
  ·simp (disch := omega) only [if_true, if_false, Bool.false_eq_true, laws_heldIntSSS.l0, if_pos, w64s, h2]
  ·refine Ev.congr (fun k => by rw [if_neg (by omega)]) ((heldIntSSS_l0 xs hx t (i + 1) (m + (totalL x : Nat)) h3 (by omega) (by omega) (fun y hy => ht y (List.mem_cons_of_mem _ hy))).cast (by omega))
theorem heldIntSSS_ev (xs : List (List (List Int))) (hx : xs.length ≤ 1048576) (hr : ∀ x ∈ xs, x.length ≤ 1048576 ∧ ∀ y ∈ x, y.length ≤ 1048576) (ht : total3 xs ≤ 1048576) : Ev (fun k => laws_heldIntSSS.f k (marks3 1 xs) 1) (1 + (total3 xs : Nat)) :=
 Ev.congr (fun k => rfl) (heldIntSSS_l0 (marks3 1 xs) (by rw [marks3_len]; exact hx) xs 0 1 rfl (by omega) (by omega) hr)
theorem held_at (K : Nat) (A : Option Addr) (c : Nat) (r : List (List (List Int))) (w : World) {b : Nat} {ok : Nat → Prop} (h : Kd.S Search.kd3 23 w b ok (.slice A r.length c) (marks3 1 r)) (hh : laws_heldIntSSS.f K (marks3 1 r) 1 = some (1 + (total3 r : Nat))) :
  Calls Try.prog 37 #[.slice A r.length c, .int .i64 1] w fun e w' => e = .returned (.int .i64 (1 + ((total3 r : Nat) : Int))) ∧ Drawn0 w w' := by
 have hr := Kd.R_reads' (Kd.S_R h)
 have hc := laws_heldIntSSS.calls K A c (marks3 1 r) 1 _ w (Search.sep_C hr.2.2) (by rw [marks3_len]; exact hr.2.1) hh
 rw [marks3_len] at hc
 exact hc
end
/-- THE ONE PURE STATEMENT that is left: both come to one answer. -/
def laws_FnExactAllSplits.Pure : Prop := ∀ (a0 : Int), (Lit.int .i64 a0).wf = true → ∃ (k : Nat) (r : List (List (List Int))) (rb : Bool), spec_AllSplits.f k a0 = some (r, rb) ∧ impl_AllSplits.f a0 = some (r, rb) ∧ r.length ≤ 1048576 ∧ (∀ x ∈ r, x.length ≤ 1048576 ∧ ∀ y ∈ x, y.length ≤ 1048576) ∧ 1 + total3 r ≤ 1048576
set_option maxHeartbeats 8000000 in
set_option maxRecDepth 100000 in
theorem laws_FnExactAllSplits.walk (P : laws_FnExactAllSplits.Pure) (a0 : Int) (w : World) (w0 : (Lit.int .i64 a0).wf = true) :
  Calls Try.prog 9 #[.int .i64 a0] w fun e w' => e = .returned (.bool true) ∧ Below w.heap.size w w' := by
 have HBw := Aside0.mk (Below.refl w.heap.size w)
 obtain ⟨K5, r, rb, hsp, him, hrl, hrt⟩ := P a0 w0
 have HSP := Aside0.mk hsp
 have HIM := Aside0.mk him
 have HRL := Aside0.mk (show r.length ≤ 1048576 ∧ (∀ x ∈ r, x.length ≤ 1048576) ∧ 1 + ((total3 r : Nat) : Int) ≤ 1048576 from ⟨hrl, fun x hx => (hrt.1 x hx).1, by omega⟩)
 obtain ⟨K2, h2⟩ := eqIntSSS_same r hrl hrt.1
 obtain ⟨K4, h4⟩ := heldIntSSS_ev r hrl hrt.1 (by omega)
 have bm : decide (1 + ((total3 r : Nat) : Int) < 0) = false := decide_eq_false (by omega)
 have be : (rb != rb) = false := by cases rb <;> rfl
 have H2 := Aside0.mk (h2 K2 (Nat.le_refl _))
 have H4 := Aside0.mk (h4 K4 (Nat.le_refl _))
 clear hsp him hrl h2 h4 hrt w0
 go_enter Try.func9, Try.ntmps9
 go_wp2_with (first | ((with_reducible refine gate_dst (N := 13) rfl ?_); refine goesL_ (some 13) rfl rfl Try.func33 (by kernel_rfl) rfl #[.int .i64 a0] rfl (by (try simp only [List.map_toArray, List.map_cons, List.map_nil]); first | done | rfl) ?_; refine (spec_AllSplits.calls K5 a0 r rb _  HSP.out).mono ?_; rintro e_ w1 ⟨v_, rfl, ho_, hb_⟩; refine ⟨_, rfl, ?_⟩; obtain ⟨Aw, cw, rfl⟩ := Kd.N_slice ho_; have n_HBw := Aside0.mk (below_step HBw.out hb_); clear HBw; have HBw := n_HBw; clear n_HBw; have HW := Aside0.mk (ho_); have HBw3 := Aside0.mk HBw.out; have HB3 := Aside0.mk (Below.refl w1.heap.size w1); clear ho_ hb_; have HB4 := Aside0.mk HB3.out; have HWC := Aside0.mk (Kd.N_reads' HW.out).2.2; have HWN := Aside0.mk (Kd.N_reads' HW.out).2.1; clear HW) | ((with_reducible refine gate_dst (N := 18) rfl ?_); refine goesL_ (some 18) rfl rfl Try.func34 (by kernel_rfl) rfl #[.int .i64 a0] rfl (by (try simp only [List.map_toArray, List.map_cons, List.map_nil]); first | done | rfl) ?_; refine (impl_AllSplits.calls  a0 r rb _  HIM.out).mono ?_; rintro e_ w2 ⟨v_, rfl, ho_, hb_⟩; refine ⟨_, rfl, ?_⟩; obtain ⟨Ag, cg, rfl⟩ := Kd.R_slice (Kd.S_R ho_); have n_HBw := Aside0.mk (below_step HBw.out hb_); have n_HB3 := Aside0.mk (below_step HB3.out hb_); clear HBw; clear HB3; have HBw := n_HBw; have HB3 := n_HB3; clear n_HBw; clear n_HB3; have HG := Aside0.mk (show Kd.S Search.kd3 23 w2 w1.heap.size (fun q_ => w1.heap.size ≤ q_) (.slice Ag r.length cg) r from Kd.S_lower (Kd.S_mono (Kd.S_bound ho_) (fun q_ hq_ => hq_.2.1)) HB4.out.size); clear ho_ hb_) | ((with_reducible refine gate_dst (N := 23) rfl ?_); refine goesL_ (some 23) rfl rfl Try.func35 (by kernel_rfl) rfl #[.slice Ag r.length cg, .slice Aw r.length cw] rfl (by (try simp only [List.map_toArray, List.map_cons, List.map_nil]); first | done | rfl) ?_; refine (laws_eqIntSSS.calls K2 Ag cg r Aw cw r true _ (Search.sep_C (Kd.R_reads' (Kd.S_R HG.out)).2.2) (Kd.R_reads' (Kd.S_R HG.out)).2.1 (Kd.C_below HWC.out HB3.out) HWN.out H2.out).mono ?_; rintro e_ w_ ⟨rfl, ⟨nd_, rfl⟩⟩; refine ⟨_, rfl, ?_⟩; have hb_ := pw_below_drewN (Below.refl w2.heap.size w2) nd_; generalize w2.drewN nd_ = w3 at hb_ ⊢; have n_HBw := Aside0.mk (below_step HBw.out hb_); have n_HB3 := Aside0.mk (below_step HB3.out hb_); have n_HG := Aside0.mk (Kd.S_below HG.out hb_); clear HBw; clear HB3; clear HG; have HBw := n_HBw; have HB3 := n_HB3; have HG := n_HG; clear n_HBw; clear n_HB3; clear n_HG; clear hb_) | ((with_reducible refine gate_dst (N := 32) rfl ?_); refine goesL_ (some 32) rfl rfl Try.func36 (by kernel_rfl) rfl #[.slice Ag r.length cg, .int .i64 1] rfl (by (try simp only [List.map_toArray, List.map_cons, List.map_nil]); first | done | rfl) ?_; refine (laws_markIntSSS.calls (w0 := w1) (m := 1) (xs := r) HRL.out.1 HRL.out.2.1 (by omega) HRL.out.2.2 _ HB3.out HG.out).mono ?_; rintro e_ w4 ⟨rfl, hs_, hb_, hk_⟩; refine ⟨_, rfl, ?_⟩; have n_HBw := Aside0.mk (below_step HBw3.out hb_); have n_HB3 := Aside0.mk (hb_); clear HBw; clear HB3; clear HG; have HBw := n_HBw; have HB3 := n_HB3; clear n_HBw; clear n_HB3; have HG := Aside0.mk hs_; clear hs_ hb_ hk_) | ((with_reducible refine gate_dst (N := 35) rfl ?_); refine goesL_ (some 35) rfl rfl Try.func37 (by kernel_rfl) rfl #[.slice Ag r.length cg, .int .i64 1] rfl (by (try simp only [List.map_toArray, List.map_cons, List.map_nil]); first | done | rfl) ?_; refine (held_at K4 Ag cg r _ HG.out H4.out).mono ?_; rintro e_ w_ ⟨rfl, ⟨nd_, rfl⟩⟩; refine ⟨_, rfl, ?_⟩; have hb_ := pw_below_drewN (Below.refl w4.heap.size w4) nd_; generalize w4.drewN nd_ = w5 at hb_ ⊢; have n_HBw := Aside0.mk (below_step HBw.out hb_); have n_HB3 := Aside0.mk (below_step HB3.out hb_); have n_HG := Aside0.mk (Kd.S_below HG.out hb_); clear HBw; clear HB3; clear HG; have HBw := n_HBw; have HB3 := n_HB3; have HG := n_HG; clear n_HBw; clear n_HB3; clear n_HG; clear hb_) | ((with_reducible refine gate_dst (N := 43) rfl ?_); refine goesL_ (some 43) rfl rfl Try.func34 (by kernel_rfl) rfl #[.int .i64 a0] rfl (by (try simp only [List.map_toArray, List.map_cons, List.map_nil]); first | done | rfl) ?_; refine (impl_AllSplits.calls  a0 r rb _  HIM.out).mono ?_; rintro e_ w6 ⟨v_, rfl, ho_, hb_⟩; refine ⟨_, rfl, ?_⟩; obtain ⟨Ah, ch, rfl⟩ := Kd.R_slice (Kd.S_R ho_); have n_HBw := Aside0.mk (below_step HBw.out hb_); have n_HB3 := Aside0.mk (below_step HB3.out hb_); have n_HG := Aside0.mk (Kd.S_below HG.out hb_); clear HBw; clear HB3; clear HG; have HBw := n_HBw; have HB3 := n_HB3; have HG := n_HG; clear n_HBw; clear n_HB3; clear n_HG; have HH := Aside0.mk ho_; clear ho_ hb_) | ((with_reducible refine gate_dst (N := 48) rfl ?_); refine goesL_ (some 48) rfl rfl Try.func35 (by kernel_rfl) rfl #[.slice Ah r.length ch, .slice Aw r.length cw] rfl (by (try simp only [List.map_toArray, List.map_cons, List.map_nil]); first | done | rfl) ?_; refine (laws_eqIntSSS.calls K2 Ah ch r Aw cw r true _ (Search.sep_C (Kd.R_reads' (Kd.S_R HH.out)).2.2) (Kd.R_reads' (Kd.S_R HH.out)).2.1 (Kd.C_below HWC.out HB3.out) HWN.out H2.out).mono ?_; rintro e_ w_ ⟨rfl, ⟨nd_, rfl⟩⟩; refine ⟨_, rfl, ?_⟩; have hb_ := pw_below_drewN (Below.refl w6.heap.size w6) nd_; generalize w6.drewN nd_ = w7 at hb_ ⊢; have n_HBw := Aside0.mk (below_step HBw.out hb_); have n_HB3 := Aside0.mk (below_step HB3.out hb_); have n_HG := Aside0.mk (Kd.S_below HG.out hb_); clear HBw; clear HB3; clear HG; have HBw := n_HBw; have HB3 := n_HB3; have HG := n_HG; clear n_HBw; clear n_HB3; clear n_HG; clear hb_) | ((with_reducible refine gate_dst (N := 57) rfl ?_); refine goesL_ (some 57) rfl rfl Try.func37 (by kernel_rfl) rfl #[.slice Ag r.length cg, .int .i64 1] rfl (by (try simp only [List.map_toArray, List.map_cons, List.map_nil]); first | done | rfl) ?_; refine (held_at K4 Ag cg r _ HG.out H4.out).mono ?_; rintro e_ w_ ⟨rfl, ⟨nd_, rfl⟩⟩; refine ⟨_, rfl, ?_⟩; have hb_ := pw_below_drewN (Below.refl w7.heap.size w7) nd_; generalize w7.drewN nd_ = w8 at hb_ ⊢; have n_HBw := Aside0.mk (below_step HBw.out hb_); have n_HB3 := Aside0.mk (below_step HB3.out hb_); have n_HG := Aside0.mk (Kd.S_below HG.out hb_); clear HBw; clear HB3; clear HG; have HBw := n_HBw; have HB3 := n_HB3; have HG := n_HG; clear n_HBw; clear n_HB3; clear n_HG; clear hb_))
 go_ret
 exact ⟨rfl, HBw.out⟩

end Go.Proofs.Ytgpnhaaklhinlaa.PFnExactAllSplits
