-- Written by plug.py, a program of this session, over the kit's print of the function: checked by Lean alone.
import Derived.Test.YtgpnhaaklhinlaaPFnExactCircleBlocksx0
import Derived.Test.YtgpnhaaklhinlaaPFnExactCircleBlocksx5
import Derived.Test.YtgpnhaaklhinlaaPFnExactCircleBlocksx6
namespace Go.Proofs.Ytgpnhaaklhinlaa.PFnExactCircleBlocks
open Go.RowKit Go.Proofs.YtgpnhaaklhinlaaW.PrintWords Go.Proofs.YtgpnhaaklhinlaaW.PrintLast Go.Proofs.YtgpnhaaklhinlaaW.PrintMore
attribute [local go_sem] max2_int min2_int max_two min_two max_three min_three max_four min_four   -- for this text's walks alone
set_option linter.unusedVariables false
set_option linter.unusedSimpArgs false

/-! ### impl_areDifferences: function 77 -/
mutual
def impl_areDifferences.j0 : Nat → Int → List (List Int) → Int → Bool → Option (Bool)
 | 0, _, _, _, _ => none
 | k + 1, x0, x1, x5, x29 => if x29 = true then (some false) else (if 0 ≤ (wrap64 ((wrap64 (3 * x5)) + 1)) then (if (wrap64 ((wrap64 (3 * x5)) + 1) : Int).toNat ≤ 281474976710656 then (impl_areDifferences.l0 k x0 x5 (List.replicate (wrap64 ((wrap64 (3 * x5)) + 1) : Int).toNat false) x1 (x1.length : Int) 0) else (none)) else (none))
def impl_areDifferences.l0 : Nat → Int → Int → List Bool → List (List Int) → Int → Int → Option (Bool)
 | 0, _, _, _, _, _, _ => none
 | k + 1, x0, x5, x7, x34, x35, x36 => if x36 < x35 then (if 0 ≤ x36 then (if x36 < (x34.length : Int) then (if ((rd_L1 x34 x36).length : Int) = 3 then (if 0 < ((rd_L1 x34 x36).length : Int) then (if (rd (rd_L1 x34 x36) 0) < 1 then (impl_areDifferences.j2 k x0 x5 x7 (rd_L1 x34 x36) x34 x35 x36 true) else (if 1 < ((rd_L1 x34 x36).length : Int) then (if (rd (rd_L1 x34 x36) 0) > (rd (rd_L1 x34 x36) 1) then (impl_areDifferences.j2 k x0 x5 x7 (rd_L1 x34 x36) x34 x35 x36 true) else (if 2 < ((rd_L1 x34 x36).length : Int) then (if (rd (rd_L1 x34 x36) 1) > (rd (rd_L1 x34 x36) 2) then (impl_areDifferences.j2 k x0 x5 x7 (rd_L1 x34 x36) x34 x35 x36 true) else (if (rd (rd_L1 x34 x36) 2) > (wrap64 (3 * x5)) then (impl_areDifferences.j2 k x0 x5 x7 (rd_L1 x34 x36) x34 x35 x36 true) else (if (wrap64 ((rd (rd_L1 x34 x36) 0) + (rd (rd_L1 x34 x36) 1))) = (rd (rd_L1 x34 x36) 2) then (impl_areDifferences.j2 k x0 x5 x7 (rd_L1 x34 x36) x34 x35 x36 false) else (impl_areDifferences.j2 k x0 x5 x7 (rd_L1 x34 x36) x34 x35 x36 ((wrap64 ((wrap64 ((rd (rd_L1 x34 x36) 0) + (rd (rd_L1 x34 x36) 1))) + (rd (rd_L1 x34 x36) 2))) != x0))))) else (none))) else (none))) else (none)) else (impl_areDifferences.j2 k x0 x5 x7 (rd_L1 x34 x36) x34 x35 x36 true)) else (none)) else (none)) else (some true)
def impl_areDifferences.j2 : Nat → Int → Int → List Bool → List Int → List (List Int) → Int → Int → Bool → Option (Bool)
 | 0, _, _, _, _, _, _, _, _ => none
 | k + 1, x0, x5, x7, x9, x34, x35, x36, x102 => if x102 = true then (some false) else (impl_areDifferences.l1 k x0 x5 x7 x34 x35 x36 x9 (x9.length : Int) 0)
def impl_areDifferences.l1 : Nat → Int → Int → List Bool → List (List Int) → Int → Int → List Int → Int → Int → Option (Bool)
 | 0, _, _, _, _, _, _, _, _, _ => none
 | k + 1, x0, x5, x7, x34, x35, x36, x103, x104, x105 => if x105 < x104 then (if 0 ≤ x105 then (if x105 < (x103.length : Int) then (if 0 ≤ (rd x103 x105) then (if (rd x103 x105) < (x7.length : Int) then (if rdOf false x7 (rd x103 x105) = true then (some false) else (impl_areDifferences.l1 k x0 x5 (x7.set ((rd x103 x105) : Int).toNat true) x34 x35 x36 x103 x104 (wrap64 (x105 + 1)))) else (none)) else (none)) else (none)) else (none)) else (impl_areDifferences.l0 k x0 x5 x7 x34 x35 (wrap64 (x36 + 1)))
end
def impl_areDifferences.f (k : Nat) (a0 : Int) (l1 : List (List Int)) : Option (Bool) := (impl_isDifference.f a0).bind fun bt250 => (if bt250.2 = true then (if (l1.length : Int) = bt250.1 then ((impl_inOrder.f k l1).bind fun t252 => (impl_areDifferences.j0 k a0 l1 bt250.1 (!t252))) else (impl_areDifferences.j0 k a0 l1 bt250.1 true)) else (impl_areDifferences.j0 k a0 l1 bt250.1 true))
theorem impl_areDifferences.mono_l : ∀ k, (∀ y0 y1 y2 y3, LeO (impl_areDifferences.j0 k y0 y1 y2 y3) (impl_areDifferences.j0 (k + 1) y0 y1 y2 y3)) ∧ (∀ y0 y1 y2 y3 y4 y5, LeO (impl_areDifferences.l0 k y0 y1 y2 y3 y4 y5) (impl_areDifferences.l0 (k + 1) y0 y1 y2 y3 y4 y5)) ∧ (∀ y0 y1 y2 y3 y4 y5 y6 y7, LeO (impl_areDifferences.j2 k y0 y1 y2 y3 y4 y5 y6 y7) (impl_areDifferences.j2 (k + 1) y0 y1 y2 y3 y4 y5 y6 y7)) ∧ (∀ y0 y1 y2 y3 y4 y5 y6 y7 y8, LeO (impl_areDifferences.l1 k y0 y1 y2 y3 y4 y5 y6 y7 y8) (impl_areDifferences.l1 (k + 1) y0 y1 y2 y3 y4 y5 y6 y7 y8))
 | 0 => ⟨fun _ _ _ _ r h => by simp [impl_areDifferences.j0] at h, fun _ _ _ _ _ _ r h => by simp [impl_areDifferences.l0] at h, fun _ _ _ _ _ _ _ _ r h => by simp [impl_areDifferences.j2] at h, fun _ _ _ _ _ _ _ _ _ r h => by simp [impl_areDifferences.l1] at h⟩
 | k + 1 => by
  obtain ⟨ih0, ih1, ih2, ih3⟩ := impl_areDifferences.mono_l k
  refine ⟨?_, ?_, ?_, ?_⟩
  ·intro y0 y1 y2 y3
   unfold impl_areDifferences.j0
   repeat' first
   | (with_reducible exact ih0 _ _ _ _)
   | (with_reducible exact ih1 _ _ _ _ _ _)
   | (with_reducible exact ih2 _ _ _ _ _ _ _ _)
   | (with_reducible exact ih3 _ _ _ _ _ _ _ _ _)
   | (with_reducible exact impl_inOrder.mono _ _)
   | (with_reducible exact LeO.refl _)
   | (with_reducible exact LeO.none _)
   | (with_reducible refine LeO.ite ?_ ?_)
   | (with_reducible refine LeO.bind ?_ (fun _ => ?_))
   | exact ih0 _ _ _ _
   | exact ih1 _ _ _ _ _ _
   | exact ih2 _ _ _ _ _ _ _ _
   | exact ih3 _ _ _ _ _ _ _ _ _
   | exact impl_inOrder.mono _ _
   | exact LeO.none _
   | refine LeO.ite ?_ ?_
   | refine LeO.bind ?_ (fun _ => ?_)
  ·intro y0 y1 y2 y3 y4 y5
   unfold impl_areDifferences.l0
   repeat' first
   | (with_reducible exact ih0 _ _ _ _)
   | (with_reducible exact ih1 _ _ _ _ _ _)
   | (with_reducible exact ih2 _ _ _ _ _ _ _ _)
   | (with_reducible exact ih3 _ _ _ _ _ _ _ _ _)
   | (with_reducible exact impl_inOrder.mono _ _)
   | (with_reducible exact LeO.refl _)
   | (with_reducible exact LeO.none _)
   | (with_reducible refine LeO.ite ?_ ?_)
   | (with_reducible refine LeO.bind ?_ (fun _ => ?_))
   | exact ih0 _ _ _ _
   | exact ih1 _ _ _ _ _ _
   | exact ih2 _ _ _ _ _ _ _ _
   | exact ih3 _ _ _ _ _ _ _ _ _
   | exact impl_inOrder.mono _ _
   | exact LeO.none _
   | refine LeO.ite ?_ ?_
   | refine LeO.bind ?_ (fun _ => ?_)
  ·intro y0 y1 y2 y3 y4 y5 y6 y7
   unfold impl_areDifferences.j2
   repeat' first
   | (with_reducible exact ih0 _ _ _ _)
   | (with_reducible exact ih1 _ _ _ _ _ _)
   | (with_reducible exact ih2 _ _ _ _ _ _ _ _)
   | (with_reducible exact ih3 _ _ _ _ _ _ _ _ _)
   | (with_reducible exact impl_inOrder.mono _ _)
   | (with_reducible exact LeO.refl _)
   | (with_reducible exact LeO.none _)
   | (with_reducible refine LeO.ite ?_ ?_)
   | (with_reducible refine LeO.bind ?_ (fun _ => ?_))
   | exact ih0 _ _ _ _
   | exact ih1 _ _ _ _ _ _
   | exact ih2 _ _ _ _ _ _ _ _
   | exact ih3 _ _ _ _ _ _ _ _ _
   | exact impl_inOrder.mono _ _
   | exact LeO.none _
   | refine LeO.ite ?_ ?_
   | refine LeO.bind ?_ (fun _ => ?_)
  ·intro y0 y1 y2 y3 y4 y5 y6 y7 y8
   unfold impl_areDifferences.l1
   repeat' first
   | (with_reducible exact ih0 _ _ _ _)
   | (with_reducible exact ih1 _ _ _ _ _ _)
   | (with_reducible exact ih2 _ _ _ _ _ _ _ _)
   | (with_reducible exact ih3 _ _ _ _ _ _ _ _ _)
   | (with_reducible exact impl_inOrder.mono _ _)
   | (with_reducible exact LeO.refl _)
   | (with_reducible exact LeO.none _)
   | (with_reducible refine LeO.ite ?_ ?_)
   | (with_reducible refine LeO.bind ?_ (fun _ => ?_))
   | exact ih0 _ _ _ _
   | exact ih1 _ _ _ _ _ _
   | exact ih2 _ _ _ _ _ _ _ _
   | exact ih3 _ _ _ _ _ _ _ _ _
   | exact impl_inOrder.mono _ _
   | exact LeO.none _
   | refine LeO.ite ?_ ?_
   | refine LeO.bind ?_ (fun _ => ?_)
theorem impl_areDifferences.mono : ∀ a0 a1 k, LeO (impl_areDifferences.f k a0 a1) (impl_areDifferences.f (k + 1) a0 a1) := by
 intro a0 a1 k
 obtain ⟨ih0, ih1, ih2, ih3⟩ := impl_areDifferences.mono_l k
 unfold impl_areDifferences.f
 repeat' first
   | (with_reducible exact ih0 _ _ _ _)
   | (with_reducible exact ih1 _ _ _ _ _ _)
   | (with_reducible exact ih2 _ _ _ _ _ _ _ _)
   | (with_reducible exact ih3 _ _ _ _ _ _ _ _ _)
   | (with_reducible exact impl_inOrder.mono _ _)
   | (with_reducible exact LeO.refl _)
   | (with_reducible exact LeO.none _)
   | (with_reducible refine LeO.ite ?_ ?_)
   | (with_reducible refine LeO.bind ?_ (fun _ => ?_))
   | exact ih0 _ _ _ _
   | exact ih1 _ _ _ _ _ _
   | exact ih2 _ _ _ _ _ _ _ _
   | exact ih3 _ _ _ _ _ _ _ _ _
   | exact impl_inOrder.mono _ _
   | exact LeO.none _
   | refine LeO.ite ?_ ?_
   | refine LeO.bind ?_ (fun _ => ?_)
set_option maxHeartbeats 8000000 in
set_option maxRecDepth 100000 in
theorem impl_areDifferences.calls (k : Nat) (a0 : Int) (A1 : Option Addr) (c1 : Nat) (l1 : List (List Int)) (r : Bool) (w : World) (hr1 : Kd.C (Kd.slice 3 (Kd.int .i64)) w A1 l1.length l1) (hc1 : l1.length ≤ c1) (h : impl_areDifferences.f k a0 l1 = some r) :
  Calls Try.prog 77 #[.int .i64 a0, .slice A1 l1.length c1] w fun e w' => e = .returned (.bool r) ∧ Below w.heap.size w w' := by
 have HR1 := Aside0.mk hr1
 have HC1 := Aside0.mk hc1
 clear hr1 hc1
 have HB := Aside0.mk (Below.refl w.heap.size w)
 have H : ((impl_isDifference.f a0).bind fun bt250 => (if bt250.2 = true then (if (l1.length : Int) = bt250.1 then ((impl_inOrder.f k l1).bind fun t252 => (impl_areDifferences.j0 k a0 l1 bt250.1 (!t252))) else (impl_areDifferences.j0 k a0 l1 bt250.1 true)) else (impl_areDifferences.j0 k a0 l1 bt250.1 true))) = some r := h
 clear h
 replace H := Option.bind_eq_some_iff.mp H
 obtain ⟨⟨t250, t251⟩, A30, H⟩ := H
 replace H : (if t251 = true then (if (l1.length : Int) = t250 then ((impl_inOrder.f k l1).bind fun t252 => (impl_areDifferences.j0 k a0 l1 t250 (!t252))) else (impl_areDifferences.j0 k a0 l1 t250 true)) else (impl_areDifferences.j0 k a0 l1 t250 true)) = some r := H
 have A3 := Aside0.mk A30
 clear A30
 have HC4 := Aside0.mk H
 clear H
 go_enter Try.func77, Try.ntmps77
 go_upto_region 2 with (first | (go_at_call 107; (with_reducible refine (impl_isDifference.calls a0 t250 t251 _ A3.out).mono ?_); rintro e w' ⟨rfl, ⟨nd, rfl⟩⟩; (try first | exact ⟨rfl, _, World.drewN_drewN _ _ _⟩ | exact ⟨rfl, _, Eq.trans (World.drewN_drewN _ _ _) (congrArg (World.drewN _) (Nat.add_assoc _ _ _))⟩)))
 repeat (go_quiet (first | (go_at_call 107; (with_reducible refine (impl_isDifference.calls a0 t250 t251 _ A3.out).mono ?_); rintro e w' ⟨rfl, ⟨nd, rfl⟩⟩; (try first | exact ⟨rfl, _, World.drewN_drewN _ _ _⟩ | exact ⟨rfl, _, Eq.trans (World.drewN_drewN _ _ _) (congrArg (World.drewN _) (Nat.add_assoc _ _ _))⟩))); go_upto_region 2 with (first | (go_at_call 107; (with_reducible refine (impl_isDifference.calls a0 t250 t251 _ A3.out).mono ?_); rintro e w' ⟨rfl, ⟨nd, rfl⟩⟩; (try first | exact ⟨rfl, _, World.drewN_drewN _ _ _⟩ | exact ⟨rfl, _, Eq.trans (World.drewN_drewN _ _ _) (congrArg (World.drewN _) (Nat.add_assoc _ _ _))⟩))))
 (try simp only [Act.put, List.setIfInBounds_toArray, List.set_cons_zero, List.set_cons_succ])
 go_cut [29] (fun v29 wc => ∃ (kq : Nat) (x29_3 : Bool), v29 = .bool x29_3 ∧ Aside0 (impl_areDifferences.j0 kq a0 l1 t250 x29_3 = some r) ∧ Aside0 (kq ≤ k) ∧ Aside0 (Below w.heap.size w wc))
 case first =>
  have H := HC4.out
  clear HC4
  by_cases c5 : t251 = true
  ·subst c5
   have H1 : (if (l1.length : Int) = t250 then ((impl_inOrder.f k l1).bind fun t252 => (impl_areDifferences.j0 k a0 l1 t250 (!t252))) else (impl_areDifferences.j0 k a0 l1 t250 true)) = some r := by rw [if_pos rfl] at H; exact H
   clear H
   have H := H1
   clear H1
   by_cases c6 : (l1.length : Int) = t250
   ·rw [if_pos c6] at H
    have c6b0 : ((l1.length : Int) == t250) = true := beq_iff_eq.mpr c6
    have c6b1 : ((l1.length : Int) != t250) = false := bne_eq_false_iff_eq.mpr c6
    clear c6
    (first | rw [c6b0] | (simp only [i64_w, i32_w]; rw [c6b0]) | skip)
    replace H := Option.bind_eq_some_iff.mp H
    obtain ⟨t252, A70, H⟩ := H
    replace H : (impl_areDifferences.j0 k a0 l1 t250 (!t252)) = some r := H
    have A7 := Aside0.mk A70
    clear A70
    have H' := Aside0.mk H
    clear H
    go_wp2_with (first | (go_at_call 108; (with_reducible refine (impl_inOrder.calls k _ _ l1 t252 _ ?side1 ?side2 A7.out).mono ?_); (case side1 => repeat (first | exact (Kd.C_below HR1.out HB.out) | (with_reducible refine Kd.C_alloc ?_ _) | (with_reducible refine Kd.C_drewN ?_ _) | (with_reducible refine Kd.C_drew ?_))); (case side2 => exact HC1.out); rintro e w' ⟨rfl, ⟨nd, rfl⟩⟩; (try first | exact ⟨rfl, _, World.drewN_drewN _ _ _⟩ | exact ⟨rfl, _, Eq.trans (World.drewN_drewN _ _ _) (congrArg (World.drewN _) (Nat.add_assoc _ _ _))⟩)))
    repeat (go_quiet (first | (go_at_call 108; (with_reducible refine (impl_inOrder.calls k _ _ l1 t252 _ ?side1 ?side2 A7.out).mono ?_); (case side1 => repeat (first | exact (Kd.C_below HR1.out HB.out) | (with_reducible refine Kd.C_alloc ?_ _) | (with_reducible refine Kd.C_drewN ?_ _) | (with_reducible refine Kd.C_drew ?_))); (case side2 => exact HC1.out); rintro e w' ⟨rfl, ⟨nd, rfl⟩⟩; (try first | exact ⟨rfl, _, World.drewN_drewN _ _ _⟩ | exact ⟨rfl, _, Eq.trans (World.drewN_drewN _ _ _) (congrArg (World.drewN _) (Nat.add_assoc _ _ _))⟩))); try go_wp2_with (first | (go_at_call 108; (with_reducible refine (impl_inOrder.calls k _ _ l1 t252 _ ?side1 ?side2 A7.out).mono ?_); (case side1 => repeat (first | exact (Kd.C_below HR1.out HB.out) | (with_reducible refine Kd.C_alloc ?_ _) | (with_reducible refine Kd.C_drewN ?_ _) | (with_reducible refine Kd.C_drew ?_))); (case side2 => exact HC1.out); rintro e w' ⟨rfl, ⟨nd, rfl⟩⟩; (try first | exact ⟨rfl, _, World.drewN_drewN _ _ _⟩ | exact ⟨rfl, _, Eq.trans (World.drewN_drewN _ _ _) (congrArg (World.drewN _) (Nat.add_assoc _ _ _))⟩))))
    go_meet
    case rel => exact ⟨_, (!t252), (by first | rfl | (simp; done) | (simp [*]; done)), H', ⟨by first | omega | exact Nat.le_refl _⟩, ⟨by repeat (first | (with_reducible first | exact HB.out | apply below_alloc | apply pw_below_drewN | apply below_drew1) | exact HB.out)⟩⟩
   ·rw [if_neg c6] at H
    have c6b0 : ((l1.length : Int) == t250) = false := beq_eq_false_iff_ne.mpr c6
    have c6b1 : ((l1.length : Int) != t250) = true := bne_iff_ne.mpr c6
    (first | rw [c6b0] | (simp only [i64_w, i32_w]; rw [c6b0]) | skip)
    have H' := Aside0.mk H
    clear H
    go_wp2
    repeat (go_quiet (fail); try go_wp2)
    go_meet
    case rel => exact ⟨_, (true), (by first | rfl | (simp; done) | (simp [*]; done)), H', ⟨by first | omega | exact Nat.le_refl _⟩, ⟨by repeat (first | (with_reducible first | exact HB.out | apply below_alloc | apply pw_below_drewN | apply below_drew1) | exact HB.out)⟩⟩
  ·replace c5 := Bool.eq_false_iff.mpr c5
   subst c5
   have H1 : (impl_areDifferences.j0 k a0 l1 t250 true) = some r := by rw [if_neg (show ¬ (false = true) by decide)] at H; exact H
   clear H
   have H := H1
   clear H1
   have H' := Aside0.mk H
   clear H
   go_wp2
   repeat (go_quiet (fail); try go_wp2)
   go_meet
   case rel => exact ⟨_, (true), (by first | rfl | (simp; done) | (simp [*]; done)), H', ⟨by first | omega | exact Nat.le_refl _⟩, ⟨by repeat (first | (with_reducible first | exact HB.out | apply below_alloc | apply pw_below_drewN | apply below_drew1) | exact HB.out)⟩⟩
 case rest =>
  clear HC4
  try clear c1
  try clear p2
  try clear c5
  try clear c6
  try clear c6b0
  try clear c6b1
  try clear c7
  obtain ⟨kq, x29_3, rfl, HA, HJ3, HB⟩ := hcut
  cases kq with
  | zero => exact absurd HA.out (by simp [impl_areDifferences.j0])
  | succ kj3 =>
   have H := HA.out
   clear HA
   simp only [impl_areDifferences.j0] at H
   by_cases c8 : x29_3 = true
   ·subst c8
    have H1 : (some false) = some r := by rw [if_pos rfl] at H; exact H
    clear H
    have H := H1
    clear H1
    obtain rfl := Option.some.inj H
    go_wp2
    repeat (go_quiet (fail); try go_wp2)
    go_ret
    exact ⟨by first | rfl | (simp [errW_none, errW_some] <;> rfl) | (simp [*, errW_none, errW_some] <;> rfl), by repeat (first | (with_reducible first | exact HB.out | apply below_alloc | apply pw_below_drewN | apply below_drew1) | exact HB.out)⟩
   ·replace c8 := Bool.eq_false_iff.mpr c8
    subst c8
    have H1 : (if 0 ≤ (wrap64 ((wrap64 (3 * t250)) + 1)) then (if (wrap64 ((wrap64 (3 * t250)) + 1) : Int).toNat ≤ 281474976710656 then (impl_areDifferences.l0 kj3 a0 t250 (List.replicate (wrap64 ((wrap64 (3 * t250)) + 1) : Int).toNat false) l1 (l1.length : Int) 0) else (none)) else (none)) = some r := by rw [if_neg (show ¬ (false = true) by decide)] at H; exact H
    clear H
    have H := H1
    clear H1
    obtain ⟨ji9, hji9⟩ : ∃ j_ : Int, (wrap64 ((wrap64 (3 * t250)) + 1)) = j_ := ⟨_, rfl⟩
    replace H : (if 0 ≤ (ji9) then (if (ji9 : Int).toNat ≤ 281474976710656 then (impl_areDifferences.l0 kj3 a0 t250 (List.replicate (ji9 : Int).toNat false) l1 (l1.length : Int) 0) else (none)) else (none)) = some r := by first | (rw [hji9] at H; exact H) | (simp only [hji9] at H ⊢; exact H)
    have hji9w : (IntKind.i64.wrap ((wrap64 (3 * t250)) + 1)) = ji9 := (i64_w _).trans hji9
    by_cases c10 : 0 ≤ (ji9)
    ·rw [if_pos c10] at H
     have c10b0 := eq_true c10
     have c10b1 : decide (0 ≤ (ji9)) = true := decide_eq_true c10
     clear c10
     by_cases c11 : (ji9 : Int).toNat ≤ 281474976710656
     ·rw [if_pos c11] at H
      have c11b0 := eq_true c11
      have c11b1 : decide ((ji9 : Int).toNat ≤ 281474976710656) = true := decide_eq_true c11
      clear c11
      obtain ⟨y253, hy253⟩ : ∃ y_ : List Bool, y_ = (List.replicate (ji9 : Int).toNat false) := ⟨_, rfl⟩
      replace H : (impl_areDifferences.l0 kj3 a0 t250 y253 l1 (l1.length : Int) 0) = some r := by first | (rw [hy253]; with_reducible exact H) | (have H2_ := (Option.bind_some _ _).symm.trans H; rw [hy253]; with_reducible exact H2_) | (have H2_ := (Option.bind_some _ _).symm.trans H; with_reducible exact H2_) | with_reducible exact H | (rw [hy253]; exact H) | exact H
      have Ny253 := Aside0.mk hy253
      clear hy253
      have H' := Aside0.mk H
      clear H
      go_wp2_with (first | ((with_reducible refine gate_dst (N := 33) rfl ?_); (try (refine gate_guard (by rfl) ?_; dsimp only)); refine Kd.R_make Kd.bool _ 4 rfl (N := 33) rfl 68 _ _ rfl ji9 rfl rfl Try.underlying68 (.bool false) 1 info4 rfl (by decide) (by omega) false (ok := fun _ => True) (okp := fun _ => True) rfl (fun _ hk => hk) trivial (of_decide_eq_true (by first | (with_reducible assumption) | assumption)) (Nat.le_trans (Nat.mul_le_mul_right _ (of_decide_eq_true (by first | (with_reducible assumption) | assumption) : ji9.toNat ≤ 281474976710656)) (by omega)) (Below.refl _ _) (Nat.le_refl _) ?_; intro v254 w12 ho13 hb hg_ hnew_; clear hg_ hnew_; (first | rw [← Ny253.out] at ho13 | (simp only [Int.reduceToNat] at ho13; rw [← Ny253.out] at ho13)); have n0_ := Aside0.mk (Kd.R_lower ho13 (below_size (by repeat (first | (with_reducible first | exact HB.out | apply below_alloc | apply pw_below_drewN | apply below_drew1) | exact HB.out)))); have n1_ := Aside0.mk (below_step (by repeat (first | (with_reducible first | exact HB.out | apply below_alloc | apply pw_below_drewN | apply below_drew1) | exact HB.out)) hb); clear HB; have HO255 := n0_; have HB := n1_; clear n0_ n1_; clear hb ho13))
      repeat (go_quiet (first | ((with_reducible refine gate_dst (N := 33) rfl ?_); (try (refine gate_guard (by rfl) ?_; dsimp only)); refine Kd.R_make Kd.bool _ 4 rfl (N := 33) rfl 68 _ _ rfl ji9 rfl rfl Try.underlying68 (.bool false) 1 info4 rfl (by decide) (by omega) false (ok := fun _ => True) (okp := fun _ => True) rfl (fun _ hk => hk) trivial (of_decide_eq_true (by first | (with_reducible assumption) | assumption)) (Nat.le_trans (Nat.mul_le_mul_right _ (of_decide_eq_true (by first | (with_reducible assumption) | assumption) : ji9.toNat ≤ 281474976710656)) (by omega)) (Below.refl _ _) (Nat.le_refl _) ?_; intro v254 w12 ho13 hb hg_ hnew_; clear hg_ hnew_; (first | rw [← Ny253.out] at ho13 | (simp only [Int.reduceToNat] at ho13; rw [← Ny253.out] at ho13)); have n0_ := Aside0.mk (Kd.R_lower ho13 (below_size (by repeat (first | (with_reducible first | exact HB.out | apply below_alloc | apply pw_below_drewN | apply below_drew1) | exact HB.out)))); have n1_ := Aside0.mk (below_step (by repeat (first | (with_reducible first | exact HB.out | apply below_alloc | apply pw_below_drewN | apply below_drew1) | exact HB.out)) hb); clear HB; have HO255 := n0_; have HB := n1_; clear n0_ n1_; clear hb ho13)); try go_wp2_with (first | ((with_reducible refine gate_dst (N := 33) rfl ?_); (try (refine gate_guard (by rfl) ?_; dsimp only)); refine Kd.R_make Kd.bool _ 4 rfl (N := 33) rfl 68 _ _ rfl ji9 rfl rfl Try.underlying68 (.bool false) 1 info4 rfl (by decide) (by omega) false (ok := fun _ => True) (okp := fun _ => True) rfl (fun _ hk => hk) trivial (of_decide_eq_true (by first | (with_reducible assumption) | assumption)) (Nat.le_trans (Nat.mul_le_mul_right _ (of_decide_eq_true (by first | (with_reducible assumption) | assumption) : ji9.toNat ≤ 281474976710656)) (by omega)) (Below.refl _ _) (Nat.le_refl _) ?_; intro v254 w12 ho13 hb hg_ hnew_; clear hg_ hnew_; (first | rw [← Ny253.out] at ho13 | (simp only [Int.reduceToNat] at ho13; rw [← Ny253.out] at ho13)); have n0_ := Aside0.mk (Kd.R_lower ho13 (below_size (by repeat (first | (with_reducible first | exact HB.out | apply below_alloc | apply pw_below_drewN | apply below_drew1) | exact HB.out)))); have n1_ := Aside0.mk (below_step (by repeat (first | (with_reducible first | exact HB.out | apply below_alloc | apply pw_below_drewN | apply below_drew1) | exact HB.out)) hb); clear HB; have HO255 := n0_; have HB := n1_; clear n0_ n1_; clear hb ho13)))
      go_loopg [36] kj3 (fun kq v36 w' => ∃ (x7_2 : List Bool) (x36_2 : Int), v36 = .int .i64 x36_2 ∧ Aside0 (impl_areDifferences.l0 kq a0 t250 x7_2 l1 (l1.length : Int) x36_2 = some r) ∧ Aside0 (kq ≤ kj3) ∧ Aside0 (Kd.R Kd.bool 4 w' w.heap.size (fun _ => True) v254 x7_2) ∧ Aside0 (Below w.heap.size w w'))
      case atStart => exact ⟨(y253), (0), (by first | rfl | (simp; done) | (simp [*]; done)), H', ⟨Nat.le_refl _⟩, ⟨by (with_reducible repeat (first | apply Kd.R_alloc | apply Kd.R_drewN | apply Kd.R_drew)); exact HO255.out⟩, ⟨by repeat (first | (with_reducible first | exact HB.out | apply below_alloc | apply pw_below_drewN | apply below_drew1) | exact HB.out)⟩⟩
      case round =>
       clear H'
       try clear c1
       try clear p2
       try clear c5
       try clear c6
       try clear c6b0
       try clear c6b1
       try clear p6
       try clear c7
       try clear c8
       try clear c10
       try clear c10b0
       try clear c10b1
       try clear c11
       try clear c11b0
       try clear c11b1
       try clear p2
       obtain ⟨x7_2, x36_2, rfl, HA, HK2, HO_7, HB⟩ := hrel
       cases gk with
       | zero => exact absurd HA.out (by simp [impl_areDifferences.l0])
       | succ k2 =>
        have H := HA.out
        clear HA
        simp only [impl_areDifferences.l0] at H
        by_cases c14 : x36_2 < (l1.length : Int)
        ·rw [if_pos c14] at H
         have c14b0 : decide (x36_2 < (l1.length : Int)) = true := decide_eq_true c14
         clear c14
         by_cases c15 : 0 ≤ x36_2
         ·rw [if_pos c15] at H
          have c15b0 : decide (0 ≤ x36_2) = true := decide_eq_true c15
          clear c15
          by_cases c16 : x36_2 < (l1.length : Int)
          ·rw [if_pos c16] at H
           have c16b0 : decide (x36_2 < (l1.length : Int)) = true := decide_eq_true c16
           clear c16
           have HC17 := Aside0.mk H
           clear H
           have p256 : 0 ≤ (x36_2 : Int) := of_decide_eq_true (by first | (with_reducible assumption) | assumption)
           have q256 : x36_2 < (l1.length : Int) := of_decide_eq_true (by first | (with_reducible assumption) | assumption)
           obtain ⟨ad256, A256_0, c256_0, e256, hx256_0, hl256_0, hi256_0⟩ := at_L1 HR1.out x36_2 p256 q256
           cases e256
           replace hx256_0 := (HB.out.cell (World.block_lt_of_cell? w _ hx256_0)).trans hx256_0
           have HR256_0 := Aside0.mk hi256_0
           have HC256_0 := Aside0.mk hl256_0
           clear hi256_0 hl256_0
           replace p256 := eq_true p256
           replace q256 := eq_true q256
           go_upto_region 8 with (fail)
           repeat (go_quiet (fail); go_upto_region 8 with (fail))
           go_cut [102] (fun v102 wc => ∃ (kq : Nat) (x102_16 : Bool), v102 = .bool x102_16 ∧ Aside0 (impl_areDifferences.j2 kq a0 t250 x7_2 (rd_L1 l1 x36_2) l1 (l1.length : Int) x36_2 x102_16 = some r) ∧ Aside0 (kq ≤ k2) ∧ Aside0 (Kd.R Kd.bool 4 wc w.heap.size (fun _ => True) v254 x7_2) ∧ Aside0 (Below w.heap.size w wc))
           case first =>
            have H := HC17.out
            clear HC17
            by_cases c18 : ((rd_L1 l1 x36_2).length : Int) = 3
            ·rw [if_pos c18] at H
             have c18b0 : (((rd_L1 l1 x36_2).length : Int) == 3) = true := beq_iff_eq.mpr c18
             have c18b1 : (((rd_L1 l1 x36_2).length : Int) != 3) = false := bne_eq_false_iff_eq.mpr c18
             clear c18
             (first | rw [c18b0] | (simp only [i64_w, i32_w]; rw [c18b0]) | skip)
             by_cases c19 : 0 < ((rd_L1 l1 x36_2).length : Int)
             ·rw [if_pos c19] at H
              have c19b0 : decide (0 < ((rd_L1 l1 x36_2).length : Int)) = true := decide_eq_true c19
              have c19b1 : decide (0 < (rd_L1 l1 x36_2).length) = true := decide_eq_true (by omega)
              clear c19
              by_cases c20 : (rd (rd_L1 l1 x36_2) 0) < 1
              ·rw [if_pos c20] at H
               have c20b0 : decide ((rd (rd_L1 l1 x36_2) 0) < 1) = true := decide_eq_true c20
               clear c20
               have H' := Aside0.mk H
               clear H
               have p257 : 0 ≤ (0 : Int) := (by omega)
               have q257 : 0 < ((rd_L1 l1 x36_2).length : Int) := of_decide_eq_true (by first | (with_reducible assumption) | assumption)
               obtain ⟨ad257, e257, hx257_0⟩ := Kd.at_int HR256_0.out 0 p257 q257
               cases e257
               have qi257 : (0 < (rd_L1 l1 x36_2).length) = True := eq_true (by omega)
               (try rw [show ((0 : Int)).toNat = 0 from rfl] at hx257_0)
               (try rw [Addr.add_zero'] at hx257_0)
               replace hx257_0 := (HB.out.cell (World.block_lt_of_cell? w _ hx257_0)).trans hx257_0
               replace p257 := eq_true p257
               replace q257 := eq_true q257
               go_wp2
               repeat (go_quiet (fail); try go_wp2)
               go_meet
               case rel => exact ⟨_, (true), (by first | rfl | (simp; done) | (simp [*]; done)), H', ⟨by have := HJ3.out; have := HK2.out; first | omega | exact Nat.le_refl _⟩, ⟨by (with_reducible repeat (first | apply Kd.R_alloc | apply Kd.R_drewN | apply Kd.R_drew)); exact HO_7.out⟩, ⟨by repeat (first | (with_reducible first | exact HB.out | apply below_alloc | apply pw_below_drewN | apply below_drew1) | exact HB.out)⟩⟩
              ·rw [if_neg c20] at H
               have c20b0 : decide ((rd (rd_L1 l1 x36_2) 0) < 1) = false := decide_eq_false c20
               clear c20
               by_cases c21 : 1 < ((rd_L1 l1 x36_2).length : Int)
               ·rw [if_pos c21] at H
                have c21b0 : decide (1 < ((rd_L1 l1 x36_2).length : Int)) = true := decide_eq_true c21
                have c21b1 : decide (1 < (rd_L1 l1 x36_2).length) = true := decide_eq_true (by omega)
                clear c21
                by_cases c22 : (rd (rd_L1 l1 x36_2) 0) > (rd (rd_L1 l1 x36_2) 1)
                ·rw [if_pos c22] at H
                 have c22b0 : decide ((rd (rd_L1 l1 x36_2) 1) < (rd (rd_L1 l1 x36_2) 0)) = true := decide_eq_true c22
                 clear c22
                 have H' := Aside0.mk H
                 clear H
                 have p257 : 0 ≤ (0 : Int) := (by omega)
                 have q257 : 0 < ((rd_L1 l1 x36_2).length : Int) := of_decide_eq_true (by first | (with_reducible assumption) | assumption)
                 obtain ⟨ad257, e257, hx257_0⟩ := Kd.at_int HR256_0.out 0 p257 q257
                 cases e257
                 have qi257 : (0 < (rd_L1 l1 x36_2).length) = True := eq_true (by omega)
                 (try rw [show ((0 : Int)).toNat = 0 from rfl] at hx257_0)
                 (try rw [Addr.add_zero'] at hx257_0)
                 replace hx257_0 := (HB.out.cell (World.block_lt_of_cell? w _ hx257_0)).trans hx257_0
                 replace p257 := eq_true p257
                 replace q257 := eq_true q257
                 have p258 : 0 ≤ (0 : Int) := (by omega)
                 have q258 : 0 < ((rd_L1 l1 x36_2).length : Int) := of_decide_eq_true (by first | (with_reducible assumption) | assumption)
                 obtain ⟨ad258, e258, hx258_0⟩ := Kd.at_int HR256_0.out 0 p258 q258
                 obtain rfl : ad257 = ad258 := (by injection e258)
                 have qi258 : (0 < (rd_L1 l1 x36_2).length) = True := eq_true (by omega)
                 (try rw [show ((0 : Int)).toNat = 0 from rfl] at hx258_0)
                 (try rw [Addr.add_zero'] at hx258_0)
                 replace hx258_0 := (HB.out.cell (World.block_lt_of_cell? w _ hx258_0)).trans hx258_0
                 replace p258 := eq_true p258
                 replace q258 := eq_true q258
                 have p259 : 0 ≤ (1 : Int) := (by omega)
                 have q259 : 1 < ((rd_L1 l1 x36_2).length : Int) := of_decide_eq_true (by first | (with_reducible assumption) | assumption)
                 obtain ⟨ad259, e259, hx259_0⟩ := Kd.at_int HR256_0.out 1 p259 q259
                 obtain rfl : ad257 = ad259 := (by injection e259)
                 (try simp only [show (1 : Int).toNat = 1 from rfl, Nat.reduceMul, Nat.reduceEqDiff, Go.Addr.add, ↓reduceIte] at hx259_0)
                 have qi259 : (1 < (rd_L1 l1 x36_2).length) = True := eq_true (by omega)
                 (try rw [show ((1 : Int)).toNat = 1 from rfl] at hx259_0)
                 replace hx259_0 := (HB.out.cell (World.block_lt_of_cell? w _ hx259_0)).trans hx259_0
                 replace p259 := eq_true p259
                 replace q259 := eq_true q259
                 go_wp2
                 repeat (go_quiet (fail); try go_wp2)
                 go_meet
                 case rel => exact ⟨_, (true), (by first | rfl | (simp; done) | (simp [*]; done)), H', ⟨by have := HJ3.out; have := HK2.out; first | omega | exact Nat.le_refl _⟩, ⟨by (with_reducible repeat (first | apply Kd.R_alloc | apply Kd.R_drewN | apply Kd.R_drew)); exact HO_7.out⟩, ⟨by repeat (first | (with_reducible first | exact HB.out | apply below_alloc | apply pw_below_drewN | apply below_drew1) | exact HB.out)⟩⟩
                ·rw [if_neg c22] at H
                 have c22b0 : decide ((rd (rd_L1 l1 x36_2) 1) < (rd (rd_L1 l1 x36_2) 0)) = false := decide_eq_false c22
                 clear c22
                 by_cases c23 : 2 < ((rd_L1 l1 x36_2).length : Int)
                 ·rw [if_pos c23] at H
                  have c23b0 : decide (2 < ((rd_L1 l1 x36_2).length : Int)) = true := decide_eq_true c23
                  have c23b1 : decide (2 < (rd_L1 l1 x36_2).length) = true := decide_eq_true (by omega)
                  clear c23
                  by_cases c24 : (rd (rd_L1 l1 x36_2) 1) > (rd (rd_L1 l1 x36_2) 2)
                  ·rw [if_pos c24] at H
                   have c24b0 : decide ((rd (rd_L1 l1 x36_2) 2) < (rd (rd_L1 l1 x36_2) 1)) = true := decide_eq_true c24
                   clear c24
                   have H' := Aside0.mk H
                   clear H
                   have p257 : 0 ≤ (0 : Int) := (by omega)
                   have q257 : 0 < ((rd_L1 l1 x36_2).length : Int) := of_decide_eq_true (by first | (with_reducible assumption) | assumption)
                   obtain ⟨ad257, e257, hx257_0⟩ := Kd.at_int HR256_0.out 0 p257 q257
                   cases e257
                   have qi257 : (0 < (rd_L1 l1 x36_2).length) = True := eq_true (by omega)
                   (try rw [show ((0 : Int)).toNat = 0 from rfl] at hx257_0)
                   (try rw [Addr.add_zero'] at hx257_0)
                   replace hx257_0 := (HB.out.cell (World.block_lt_of_cell? w _ hx257_0)).trans hx257_0
                   replace p257 := eq_true p257
                   replace q257 := eq_true q257
                   have p258 : 0 ≤ (0 : Int) := (by omega)
                   have q258 : 0 < ((rd_L1 l1 x36_2).length : Int) := of_decide_eq_true (by first | (with_reducible assumption) | assumption)
                   obtain ⟨ad258, e258, hx258_0⟩ := Kd.at_int HR256_0.out 0 p258 q258
                   obtain rfl : ad257 = ad258 := (by injection e258)
                   have qi258 : (0 < (rd_L1 l1 x36_2).length) = True := eq_true (by omega)
                   (try rw [show ((0 : Int)).toNat = 0 from rfl] at hx258_0)
                   (try rw [Addr.add_zero'] at hx258_0)
                   replace hx258_0 := (HB.out.cell (World.block_lt_of_cell? w _ hx258_0)).trans hx258_0
                   replace p258 := eq_true p258
                   replace q258 := eq_true q258
                   have p259 : 0 ≤ (1 : Int) := (by omega)
                   have q259 : 1 < ((rd_L1 l1 x36_2).length : Int) := of_decide_eq_true (by first | (with_reducible assumption) | assumption)
                   obtain ⟨ad259, e259, hx259_0⟩ := Kd.at_int HR256_0.out 1 p259 q259
                   obtain rfl : ad257 = ad259 := (by injection e259)
                   (try simp only [show (1 : Int).toNat = 1 from rfl, Nat.reduceMul, Nat.reduceEqDiff, Go.Addr.add, ↓reduceIte] at hx259_0)
                   have qi259 : (1 < (rd_L1 l1 x36_2).length) = True := eq_true (by omega)
                   (try rw [show ((1 : Int)).toNat = 1 from rfl] at hx259_0)
                   replace hx259_0 := (HB.out.cell (World.block_lt_of_cell? w _ hx259_0)).trans hx259_0
                   replace p259 := eq_true p259
                   replace q259 := eq_true q259
                   have p260 : 0 ≤ (1 : Int) := (by omega)
                   have q260 : 1 < ((rd_L1 l1 x36_2).length : Int) := of_decide_eq_true (by first | (with_reducible assumption) | assumption)
                   obtain ⟨ad260, e260, hx260_0⟩ := Kd.at_int HR256_0.out 1 p260 q260
                   obtain rfl : ad257 = ad260 := (by injection e260)
                   (try simp only [show (1 : Int).toNat = 1 from rfl, Nat.reduceMul, Nat.reduceEqDiff, Go.Addr.add, ↓reduceIte] at hx260_0)
                   have qi260 : (1 < (rd_L1 l1 x36_2).length) = True := eq_true (by omega)
                   (try rw [show ((1 : Int)).toNat = 1 from rfl] at hx260_0)
                   replace hx260_0 := (HB.out.cell (World.block_lt_of_cell? w _ hx260_0)).trans hx260_0
                   replace p260 := eq_true p260
                   replace q260 := eq_true q260
                   have p261 : 0 ≤ (2 : Int) := (by omega)
                   have q261 : 2 < ((rd_L1 l1 x36_2).length : Int) := of_decide_eq_true (by first | (with_reducible assumption) | assumption)
                   obtain ⟨ad261, e261, hx261_0⟩ := Kd.at_int HR256_0.out 2 p261 q261
                   obtain rfl : ad257 = ad261 := (by injection e261)
                   (try simp only [show (2 : Int).toNat = 2 from rfl, Nat.reduceMul, Nat.reduceEqDiff, Go.Addr.add, ↓reduceIte] at hx261_0)
                   have qi261 : (2 < (rd_L1 l1 x36_2).length) = True := eq_true (by omega)
                   (try rw [show ((2 : Int)).toNat = 2 from rfl] at hx261_0)
                   replace hx261_0 := (HB.out.cell (World.block_lt_of_cell? w _ hx261_0)).trans hx261_0
                   replace p261 := eq_true p261
                   replace q261 := eq_true q261
                   go_wp2
                   repeat (go_quiet (fail); try go_wp2)
                   go_meet
                   case rel => exact ⟨_, (true), (by first | rfl | (simp; done) | (simp [*]; done)), H', ⟨by have := HJ3.out; have := HK2.out; first | omega | exact Nat.le_refl _⟩, ⟨by (with_reducible repeat (first | apply Kd.R_alloc | apply Kd.R_drewN | apply Kd.R_drew)); exact HO_7.out⟩, ⟨by repeat (first | (with_reducible first | exact HB.out | apply below_alloc | apply pw_below_drewN | apply below_drew1) | exact HB.out)⟩⟩
                  ·rw [if_neg c24] at H
                   have c24b0 : decide ((rd (rd_L1 l1 x36_2) 2) < (rd (rd_L1 l1 x36_2) 1)) = false := decide_eq_false c24
                   clear c24
                   by_cases c25 : (rd (rd_L1 l1 x36_2) 2) > (wrap64 (3 * t250))
                   ·rw [if_pos c25] at H
                    have c25b0 : decide ((wrap64 (3 * t250)) < (rd (rd_L1 l1 x36_2) 2)) = true := decide_eq_true c25
                    clear c25
                    have H' := Aside0.mk H
                    clear H
                    have p257 : 0 ≤ (0 : Int) := (by omega)
                    have q257 : 0 < ((rd_L1 l1 x36_2).length : Int) := of_decide_eq_true (by first | (with_reducible assumption) | assumption)
                    obtain ⟨ad257, e257, hx257_0⟩ := Kd.at_int HR256_0.out 0 p257 q257
                    cases e257
                    have qi257 : (0 < (rd_L1 l1 x36_2).length) = True := eq_true (by omega)
                    (try rw [show ((0 : Int)).toNat = 0 from rfl] at hx257_0)
                    (try rw [Addr.add_zero'] at hx257_0)
                    replace hx257_0 := (HB.out.cell (World.block_lt_of_cell? w _ hx257_0)).trans hx257_0
                    replace p257 := eq_true p257
                    replace q257 := eq_true q257
                    have p258 : 0 ≤ (0 : Int) := (by omega)
                    have q258 : 0 < ((rd_L1 l1 x36_2).length : Int) := of_decide_eq_true (by first | (with_reducible assumption) | assumption)
                    obtain ⟨ad258, e258, hx258_0⟩ := Kd.at_int HR256_0.out 0 p258 q258
                    obtain rfl : ad257 = ad258 := (by injection e258)
                    have qi258 : (0 < (rd_L1 l1 x36_2).length) = True := eq_true (by omega)
                    (try rw [show ((0 : Int)).toNat = 0 from rfl] at hx258_0)
                    (try rw [Addr.add_zero'] at hx258_0)
                    replace hx258_0 := (HB.out.cell (World.block_lt_of_cell? w _ hx258_0)).trans hx258_0
                    replace p258 := eq_true p258
                    replace q258 := eq_true q258
                    have p259 : 0 ≤ (1 : Int) := (by omega)
                    have q259 : 1 < ((rd_L1 l1 x36_2).length : Int) := of_decide_eq_true (by first | (with_reducible assumption) | assumption)
                    obtain ⟨ad259, e259, hx259_0⟩ := Kd.at_int HR256_0.out 1 p259 q259
                    obtain rfl : ad257 = ad259 := (by injection e259)
                    (try simp only [show (1 : Int).toNat = 1 from rfl, Nat.reduceMul, Nat.reduceEqDiff, Go.Addr.add, ↓reduceIte] at hx259_0)
                    have qi259 : (1 < (rd_L1 l1 x36_2).length) = True := eq_true (by omega)
                    (try rw [show ((1 : Int)).toNat = 1 from rfl] at hx259_0)
                    replace hx259_0 := (HB.out.cell (World.block_lt_of_cell? w _ hx259_0)).trans hx259_0
                    replace p259 := eq_true p259
                    replace q259 := eq_true q259
                    have p260 : 0 ≤ (1 : Int) := (by omega)
                    have q260 : 1 < ((rd_L1 l1 x36_2).length : Int) := of_decide_eq_true (by first | (with_reducible assumption) | assumption)
                    obtain ⟨ad260, e260, hx260_0⟩ := Kd.at_int HR256_0.out 1 p260 q260
                    obtain rfl : ad257 = ad260 := (by injection e260)
                    (try simp only [show (1 : Int).toNat = 1 from rfl, Nat.reduceMul, Nat.reduceEqDiff, Go.Addr.add, ↓reduceIte] at hx260_0)
                    have qi260 : (1 < (rd_L1 l1 x36_2).length) = True := eq_true (by omega)
                    (try rw [show ((1 : Int)).toNat = 1 from rfl] at hx260_0)
                    replace hx260_0 := (HB.out.cell (World.block_lt_of_cell? w _ hx260_0)).trans hx260_0
                    replace p260 := eq_true p260
                    replace q260 := eq_true q260
                    have p261 : 0 ≤ (2 : Int) := (by omega)
                    have q261 : 2 < ((rd_L1 l1 x36_2).length : Int) := of_decide_eq_true (by first | (with_reducible assumption) | assumption)
                    obtain ⟨ad261, e261, hx261_0⟩ := Kd.at_int HR256_0.out 2 p261 q261
                    obtain rfl : ad257 = ad261 := (by injection e261)
                    (try simp only [show (2 : Int).toNat = 2 from rfl, Nat.reduceMul, Nat.reduceEqDiff, Go.Addr.add, ↓reduceIte] at hx261_0)
                    have qi261 : (2 < (rd_L1 l1 x36_2).length) = True := eq_true (by omega)
                    (try rw [show ((2 : Int)).toNat = 2 from rfl] at hx261_0)
                    replace hx261_0 := (HB.out.cell (World.block_lt_of_cell? w _ hx261_0)).trans hx261_0
                    replace p261 := eq_true p261
                    replace q261 := eq_true q261
                    have p262 : 0 ≤ (2 : Int) := (by omega)
                    have q262 : 2 < ((rd_L1 l1 x36_2).length : Int) := of_decide_eq_true (by first | (with_reducible assumption) | assumption)
                    obtain ⟨ad262, e262, hx262_0⟩ := Kd.at_int HR256_0.out 2 p262 q262
                    obtain rfl : ad257 = ad262 := (by injection e262)
                    (try simp only [show (2 : Int).toNat = 2 from rfl, Nat.reduceMul, Nat.reduceEqDiff, Go.Addr.add, ↓reduceIte] at hx262_0)
                    have qi262 : (2 < (rd_L1 l1 x36_2).length) = True := eq_true (by omega)
                    (try rw [show ((2 : Int)).toNat = 2 from rfl] at hx262_0)
                    replace hx262_0 := (HB.out.cell (World.block_lt_of_cell? w _ hx262_0)).trans hx262_0
                    replace p262 := eq_true p262
                    replace q262 := eq_true q262
                    go_wp2
                    repeat (go_quiet (fail); try go_wp2)
                    go_meet
                    case rel => exact ⟨_, (true), (by first | rfl | (simp; done) | (simp [*]; done)), H', ⟨by have := HJ3.out; have := HK2.out; first | omega | exact Nat.le_refl _⟩, ⟨by (with_reducible repeat (first | apply Kd.R_alloc | apply Kd.R_drewN | apply Kd.R_drew)); exact HO_7.out⟩, ⟨by repeat (first | (with_reducible first | exact HB.out | apply below_alloc | apply pw_below_drewN | apply below_drew1) | exact HB.out)⟩⟩
                   ·rw [if_neg c25] at H
                    have c25b0 : decide ((wrap64 (3 * t250)) < (rd (rd_L1 l1 x36_2) 2)) = false := decide_eq_false c25
                    clear c25
                    by_cases c26 : (wrap64 ((rd (rd_L1 l1 x36_2) 0) + (rd (rd_L1 l1 x36_2) 1))) = (rd (rd_L1 l1 x36_2) 2)
                    ·rw [if_pos c26] at H
                     have c26b0 : ((wrap64 ((rd (rd_L1 l1 x36_2) 0) + (rd (rd_L1 l1 x36_2) 1))) == (rd (rd_L1 l1 x36_2) 2)) = true := beq_iff_eq.mpr c26
                     have c26b1 : ((wrap64 ((rd (rd_L1 l1 x36_2) 0) + (rd (rd_L1 l1 x36_2) 1))) != (rd (rd_L1 l1 x36_2) 2)) = false := bne_eq_false_iff_eq.mpr c26
                     clear c26
                     have H' := Aside0.mk H
                     clear H
                     have p257 : 0 ≤ (0 : Int) := (by omega)
                     have q257 : 0 < ((rd_L1 l1 x36_2).length : Int) := of_decide_eq_true (by first | (with_reducible assumption) | assumption)
                     obtain ⟨ad257, e257, hx257_0⟩ := Kd.at_int HR256_0.out 0 p257 q257
                     cases e257
                     have qi257 : (0 < (rd_L1 l1 x36_2).length) = True := eq_true (by omega)
                     (try rw [show ((0 : Int)).toNat = 0 from rfl] at hx257_0)
                     (try rw [Addr.add_zero'] at hx257_0)
                     replace hx257_0 := (HB.out.cell (World.block_lt_of_cell? w _ hx257_0)).trans hx257_0
                     replace p257 := eq_true p257
                     replace q257 := eq_true q257
                     have p258 : 0 ≤ (0 : Int) := (by omega)
                     have q258 : 0 < ((rd_L1 l1 x36_2).length : Int) := of_decide_eq_true (by first | (with_reducible assumption) | assumption)
                     obtain ⟨ad258, e258, hx258_0⟩ := Kd.at_int HR256_0.out 0 p258 q258
                     obtain rfl : ad257 = ad258 := (by injection e258)
                     have qi258 : (0 < (rd_L1 l1 x36_2).length) = True := eq_true (by omega)
                     (try rw [show ((0 : Int)).toNat = 0 from rfl] at hx258_0)
                     (try rw [Addr.add_zero'] at hx258_0)
                     replace hx258_0 := (HB.out.cell (World.block_lt_of_cell? w _ hx258_0)).trans hx258_0
                     replace p258 := eq_true p258
                     replace q258 := eq_true q258
                     have p259 : 0 ≤ (1 : Int) := (by omega)
                     have q259 : 1 < ((rd_L1 l1 x36_2).length : Int) := of_decide_eq_true (by first | (with_reducible assumption) | assumption)
                     obtain ⟨ad259, e259, hx259_0⟩ := Kd.at_int HR256_0.out 1 p259 q259
                     obtain rfl : ad257 = ad259 := (by injection e259)
                     (try simp only [show (1 : Int).toNat = 1 from rfl, Nat.reduceMul, Nat.reduceEqDiff, Go.Addr.add, ↓reduceIte] at hx259_0)
                     have qi259 : (1 < (rd_L1 l1 x36_2).length) = True := eq_true (by omega)
                     (try rw [show ((1 : Int)).toNat = 1 from rfl] at hx259_0)
                     replace hx259_0 := (HB.out.cell (World.block_lt_of_cell? w _ hx259_0)).trans hx259_0
                     replace p259 := eq_true p259
                     replace q259 := eq_true q259
                     have p260 : 0 ≤ (1 : Int) := (by omega)
                     have q260 : 1 < ((rd_L1 l1 x36_2).length : Int) := of_decide_eq_true (by first | (with_reducible assumption) | assumption)
                     obtain ⟨ad260, e260, hx260_0⟩ := Kd.at_int HR256_0.out 1 p260 q260
                     obtain rfl : ad257 = ad260 := (by injection e260)
                     (try simp only [show (1 : Int).toNat = 1 from rfl, Nat.reduceMul, Nat.reduceEqDiff, Go.Addr.add, ↓reduceIte] at hx260_0)
                     have qi260 : (1 < (rd_L1 l1 x36_2).length) = True := eq_true (by omega)
                     (try rw [show ((1 : Int)).toNat = 1 from rfl] at hx260_0)
                     replace hx260_0 := (HB.out.cell (World.block_lt_of_cell? w _ hx260_0)).trans hx260_0
                     replace p260 := eq_true p260
                     replace q260 := eq_true q260
                     have p261 : 0 ≤ (2 : Int) := (by omega)
                     have q261 : 2 < ((rd_L1 l1 x36_2).length : Int) := of_decide_eq_true (by first | (with_reducible assumption) | assumption)
                     obtain ⟨ad261, e261, hx261_0⟩ := Kd.at_int HR256_0.out 2 p261 q261
                     obtain rfl : ad257 = ad261 := (by injection e261)
                     (try simp only [show (2 : Int).toNat = 2 from rfl, Nat.reduceMul, Nat.reduceEqDiff, Go.Addr.add, ↓reduceIte] at hx261_0)
                     have qi261 : (2 < (rd_L1 l1 x36_2).length) = True := eq_true (by omega)
                     (try rw [show ((2 : Int)).toNat = 2 from rfl] at hx261_0)
                     replace hx261_0 := (HB.out.cell (World.block_lt_of_cell? w _ hx261_0)).trans hx261_0
                     replace p261 := eq_true p261
                     replace q261 := eq_true q261
                     have p262 : 0 ≤ (2 : Int) := (by omega)
                     have q262 : 2 < ((rd_L1 l1 x36_2).length : Int) := of_decide_eq_true (by first | (with_reducible assumption) | assumption)
                     obtain ⟨ad262, e262, hx262_0⟩ := Kd.at_int HR256_0.out 2 p262 q262
                     obtain rfl : ad257 = ad262 := (by injection e262)
                     (try simp only [show (2 : Int).toNat = 2 from rfl, Nat.reduceMul, Nat.reduceEqDiff, Go.Addr.add, ↓reduceIte] at hx262_0)
                     have qi262 : (2 < (rd_L1 l1 x36_2).length) = True := eq_true (by omega)
                     (try rw [show ((2 : Int)).toNat = 2 from rfl] at hx262_0)
                     replace hx262_0 := (HB.out.cell (World.block_lt_of_cell? w _ hx262_0)).trans hx262_0
                     replace p262 := eq_true p262
                     replace q262 := eq_true q262
                     have p263 : 0 ≤ (0 : Int) := (by omega)
                     have q263 : 0 < ((rd_L1 l1 x36_2).length : Int) := of_decide_eq_true (by first | (with_reducible assumption) | assumption)
                     obtain ⟨ad263, e263, hx263_0⟩ := Kd.at_int HR256_0.out 0 p263 q263
                     obtain rfl : ad257 = ad263 := (by injection e263)
                     have qi263 : (0 < (rd_L1 l1 x36_2).length) = True := eq_true (by omega)
                     (try rw [show ((0 : Int)).toNat = 0 from rfl] at hx263_0)
                     (try rw [Addr.add_zero'] at hx263_0)
                     replace hx263_0 := (HB.out.cell (World.block_lt_of_cell? w _ hx263_0)).trans hx263_0
                     replace p263 := eq_true p263
                     replace q263 := eq_true q263
                     have p264 : 0 ≤ (1 : Int) := (by omega)
                     have q264 : 1 < ((rd_L1 l1 x36_2).length : Int) := of_decide_eq_true (by first | (with_reducible assumption) | assumption)
                     obtain ⟨ad264, e264, hx264_0⟩ := Kd.at_int HR256_0.out 1 p264 q264
                     obtain rfl : ad257 = ad264 := (by injection e264)
                     (try simp only [show (1 : Int).toNat = 1 from rfl, Nat.reduceMul, Nat.reduceEqDiff, Go.Addr.add, ↓reduceIte] at hx264_0)
                     have qi264 : (1 < (rd_L1 l1 x36_2).length) = True := eq_true (by omega)
                     (try rw [show ((1 : Int)).toNat = 1 from rfl] at hx264_0)
                     replace hx264_0 := (HB.out.cell (World.block_lt_of_cell? w _ hx264_0)).trans hx264_0
                     replace p264 := eq_true p264
                     replace q264 := eq_true q264
                     have p265 : 0 ≤ (2 : Int) := (by omega)
                     have q265 : 2 < ((rd_L1 l1 x36_2).length : Int) := of_decide_eq_true (by first | (with_reducible assumption) | assumption)
                     obtain ⟨ad265, e265, hx265_0⟩ := Kd.at_int HR256_0.out 2 p265 q265
                     obtain rfl : ad257 = ad265 := (by injection e265)
                     (try simp only [show (2 : Int).toNat = 2 from rfl, Nat.reduceMul, Nat.reduceEqDiff, Go.Addr.add, ↓reduceIte] at hx265_0)
                     have qi265 : (2 < (rd_L1 l1 x36_2).length) = True := eq_true (by omega)
                     (try rw [show ((2 : Int)).toNat = 2 from rfl] at hx265_0)
                     replace hx265_0 := (HB.out.cell (World.block_lt_of_cell? w _ hx265_0)).trans hx265_0
                     replace p265 := eq_true p265
                     replace q265 := eq_true q265
                     go_wp2
                     repeat (go_quiet (fail); try go_wp2)
                     go_meet
                     case rel => exact ⟨_, (false), (by first | rfl | (simp; done) | (simp [*]; done)), H', ⟨by have := HJ3.out; have := HK2.out; first | omega | exact Nat.le_refl _⟩, ⟨by (with_reducible repeat (first | apply Kd.R_alloc | apply Kd.R_drewN | apply Kd.R_drew)); exact HO_7.out⟩, ⟨by repeat (first | (with_reducible first | exact HB.out | apply below_alloc | apply pw_below_drewN | apply below_drew1) | exact HB.out)⟩⟩
                    ·rw [if_neg c26] at H
                     have c26b0 : ((wrap64 ((rd (rd_L1 l1 x36_2) 0) + (rd (rd_L1 l1 x36_2) 1))) == (rd (rd_L1 l1 x36_2) 2)) = false := beq_eq_false_iff_ne.mpr c26
                     have c26b1 : ((wrap64 ((rd (rd_L1 l1 x36_2) 0) + (rd (rd_L1 l1 x36_2) 1))) != (rd (rd_L1 l1 x36_2) 2)) = true := bne_iff_ne.mpr c26
                     have H' := Aside0.mk H
                     clear H
                     have p257 : 0 ≤ (0 : Int) := (by omega)
                     have q257 : 0 < ((rd_L1 l1 x36_2).length : Int) := of_decide_eq_true (by first | (with_reducible assumption) | assumption)
                     obtain ⟨ad257, e257, hx257_0⟩ := Kd.at_int HR256_0.out 0 p257 q257
                     cases e257
                     have qi257 : (0 < (rd_L1 l1 x36_2).length) = True := eq_true (by omega)
                     (try rw [show ((0 : Int)).toNat = 0 from rfl] at hx257_0)
                     (try rw [Addr.add_zero'] at hx257_0)
                     replace hx257_0 := (HB.out.cell (World.block_lt_of_cell? w _ hx257_0)).trans hx257_0
                     replace p257 := eq_true p257
                     replace q257 := eq_true q257
                     have p258 : 0 ≤ (0 : Int) := (by omega)
                     have q258 : 0 < ((rd_L1 l1 x36_2).length : Int) := of_decide_eq_true (by first | (with_reducible assumption) | assumption)
                     obtain ⟨ad258, e258, hx258_0⟩ := Kd.at_int HR256_0.out 0 p258 q258
                     obtain rfl : ad257 = ad258 := (by injection e258)
                     have qi258 : (0 < (rd_L1 l1 x36_2).length) = True := eq_true (by omega)
                     (try rw [show ((0 : Int)).toNat = 0 from rfl] at hx258_0)
                     (try rw [Addr.add_zero'] at hx258_0)
                     replace hx258_0 := (HB.out.cell (World.block_lt_of_cell? w _ hx258_0)).trans hx258_0
                     replace p258 := eq_true p258
                     replace q258 := eq_true q258
                     have p259 : 0 ≤ (1 : Int) := (by omega)
                     have q259 : 1 < ((rd_L1 l1 x36_2).length : Int) := of_decide_eq_true (by first | (with_reducible assumption) | assumption)
                     obtain ⟨ad259, e259, hx259_0⟩ := Kd.at_int HR256_0.out 1 p259 q259
                     obtain rfl : ad257 = ad259 := (by injection e259)
                     (try simp only [show (1 : Int).toNat = 1 from rfl, Nat.reduceMul, Nat.reduceEqDiff, Go.Addr.add, ↓reduceIte] at hx259_0)
                     have qi259 : (1 < (rd_L1 l1 x36_2).length) = True := eq_true (by omega)
                     (try rw [show ((1 : Int)).toNat = 1 from rfl] at hx259_0)
                     replace hx259_0 := (HB.out.cell (World.block_lt_of_cell? w _ hx259_0)).trans hx259_0
                     replace p259 := eq_true p259
                     replace q259 := eq_true q259
                     have p260 : 0 ≤ (1 : Int) := (by omega)
                     have q260 : 1 < ((rd_L1 l1 x36_2).length : Int) := of_decide_eq_true (by first | (with_reducible assumption) | assumption)
                     obtain ⟨ad260, e260, hx260_0⟩ := Kd.at_int HR256_0.out 1 p260 q260
                     obtain rfl : ad257 = ad260 := (by injection e260)
                     (try simp only [show (1 : Int).toNat = 1 from rfl, Nat.reduceMul, Nat.reduceEqDiff, Go.Addr.add, ↓reduceIte] at hx260_0)
                     have qi260 : (1 < (rd_L1 l1 x36_2).length) = True := eq_true (by omega)
                     (try rw [show ((1 : Int)).toNat = 1 from rfl] at hx260_0)
                     replace hx260_0 := (HB.out.cell (World.block_lt_of_cell? w _ hx260_0)).trans hx260_0
                     replace p260 := eq_true p260
                     replace q260 := eq_true q260
                     have p261 : 0 ≤ (2 : Int) := (by omega)
                     have q261 : 2 < ((rd_L1 l1 x36_2).length : Int) := of_decide_eq_true (by first | (with_reducible assumption) | assumption)
                     obtain ⟨ad261, e261, hx261_0⟩ := Kd.at_int HR256_0.out 2 p261 q261
                     obtain rfl : ad257 = ad261 := (by injection e261)
                     (try simp only [show (2 : Int).toNat = 2 from rfl, Nat.reduceMul, Nat.reduceEqDiff, Go.Addr.add, ↓reduceIte] at hx261_0)
                     have qi261 : (2 < (rd_L1 l1 x36_2).length) = True := eq_true (by omega)
                     (try rw [show ((2 : Int)).toNat = 2 from rfl] at hx261_0)
                     replace hx261_0 := (HB.out.cell (World.block_lt_of_cell? w _ hx261_0)).trans hx261_0
                     replace p261 := eq_true p261
                     replace q261 := eq_true q261
                     have p262 : 0 ≤ (2 : Int) := (by omega)
                     have q262 : 2 < ((rd_L1 l1 x36_2).length : Int) := of_decide_eq_true (by first | (with_reducible assumption) | assumption)
                     obtain ⟨ad262, e262, hx262_0⟩ := Kd.at_int HR256_0.out 2 p262 q262
                     obtain rfl : ad257 = ad262 := (by injection e262)
                     (try simp only [show (2 : Int).toNat = 2 from rfl, Nat.reduceMul, Nat.reduceEqDiff, Go.Addr.add, ↓reduceIte] at hx262_0)
                     have qi262 : (2 < (rd_L1 l1 x36_2).length) = True := eq_true (by omega)
                     (try rw [show ((2 : Int)).toNat = 2 from rfl] at hx262_0)
                     replace hx262_0 := (HB.out.cell (World.block_lt_of_cell? w _ hx262_0)).trans hx262_0
                     replace p262 := eq_true p262
                     replace q262 := eq_true q262
                     have p263 : 0 ≤ (0 : Int) := (by omega)
                     have q263 : 0 < ((rd_L1 l1 x36_2).length : Int) := of_decide_eq_true (by first | (with_reducible assumption) | assumption)
                     obtain ⟨ad263, e263, hx263_0⟩ := Kd.at_int HR256_0.out 0 p263 q263
                     obtain rfl : ad257 = ad263 := (by injection e263)
                     have qi263 : (0 < (rd_L1 l1 x36_2).length) = True := eq_true (by omega)
                     (try rw [show ((0 : Int)).toNat = 0 from rfl] at hx263_0)
                     (try rw [Addr.add_zero'] at hx263_0)
                     replace hx263_0 := (HB.out.cell (World.block_lt_of_cell? w _ hx263_0)).trans hx263_0
                     replace p263 := eq_true p263
                     replace q263 := eq_true q263
                     have p264 : 0 ≤ (1 : Int) := (by omega)
                     have q264 : 1 < ((rd_L1 l1 x36_2).length : Int) := of_decide_eq_true (by first | (with_reducible assumption) | assumption)
                     obtain ⟨ad264, e264, hx264_0⟩ := Kd.at_int HR256_0.out 1 p264 q264
                     obtain rfl : ad257 = ad264 := (by injection e264)
                     (try simp only [show (1 : Int).toNat = 1 from rfl, Nat.reduceMul, Nat.reduceEqDiff, Go.Addr.add, ↓reduceIte] at hx264_0)
                     have qi264 : (1 < (rd_L1 l1 x36_2).length) = True := eq_true (by omega)
                     (try rw [show ((1 : Int)).toNat = 1 from rfl] at hx264_0)
                     replace hx264_0 := (HB.out.cell (World.block_lt_of_cell? w _ hx264_0)).trans hx264_0
                     replace p264 := eq_true p264
                     replace q264 := eq_true q264
                     have p265 : 0 ≤ (2 : Int) := (by omega)
                     have q265 : 2 < ((rd_L1 l1 x36_2).length : Int) := of_decide_eq_true (by first | (with_reducible assumption) | assumption)
                     obtain ⟨ad265, e265, hx265_0⟩ := Kd.at_int HR256_0.out 2 p265 q265
                     obtain rfl : ad257 = ad265 := (by injection e265)
                     (try simp only [show (2 : Int).toNat = 2 from rfl, Nat.reduceMul, Nat.reduceEqDiff, Go.Addr.add, ↓reduceIte] at hx265_0)
                     have qi265 : (2 < (rd_L1 l1 x36_2).length) = True := eq_true (by omega)
                     (try rw [show ((2 : Int)).toNat = 2 from rfl] at hx265_0)
                     replace hx265_0 := (HB.out.cell (World.block_lt_of_cell? w _ hx265_0)).trans hx265_0
                     replace p265 := eq_true p265
                     replace q265 := eq_true q265
                     have p266 : 0 ≤ (0 : Int) := (by omega)
                     have q266 : 0 < ((rd_L1 l1 x36_2).length : Int) := of_decide_eq_true (by first | (with_reducible assumption) | assumption)
                     obtain ⟨ad266, e266, hx266_0⟩ := Kd.at_int HR256_0.out 0 p266 q266
                     obtain rfl : ad257 = ad266 := (by injection e266)
                     have qi266 : (0 < (rd_L1 l1 x36_2).length) = True := eq_true (by omega)
                     (try rw [show ((0 : Int)).toNat = 0 from rfl] at hx266_0)
                     (try rw [Addr.add_zero'] at hx266_0)
                     replace hx266_0 := (HB.out.cell (World.block_lt_of_cell? w _ hx266_0)).trans hx266_0
                     replace p266 := eq_true p266
                     replace q266 := eq_true q266
                     have p267 : 0 ≤ (1 : Int) := (by omega)
                     have q267 : 1 < ((rd_L1 l1 x36_2).length : Int) := of_decide_eq_true (by first | (with_reducible assumption) | assumption)
                     obtain ⟨ad267, e267, hx267_0⟩ := Kd.at_int HR256_0.out 1 p267 q267
                     obtain rfl : ad257 = ad267 := (by injection e267)
                     (try simp only [show (1 : Int).toNat = 1 from rfl, Nat.reduceMul, Nat.reduceEqDiff, Go.Addr.add, ↓reduceIte] at hx267_0)
                     have qi267 : (1 < (rd_L1 l1 x36_2).length) = True := eq_true (by omega)
                     (try rw [show ((1 : Int)).toNat = 1 from rfl] at hx267_0)
                     replace hx267_0 := (HB.out.cell (World.block_lt_of_cell? w _ hx267_0)).trans hx267_0
                     replace p267 := eq_true p267
                     replace q267 := eq_true q267
                     have p268 : 0 ≤ (2 : Int) := (by omega)
                     have q268 : 2 < ((rd_L1 l1 x36_2).length : Int) := of_decide_eq_true (by first | (with_reducible assumption) | assumption)
                     obtain ⟨ad268, e268, hx268_0⟩ := Kd.at_int HR256_0.out 2 p268 q268
                     obtain rfl : ad257 = ad268 := (by injection e268)
                     (try simp only [show (2 : Int).toNat = 2 from rfl, Nat.reduceMul, Nat.reduceEqDiff, Go.Addr.add, ↓reduceIte] at hx268_0)
                     have qi268 : (2 < (rd_L1 l1 x36_2).length) = True := eq_true (by omega)
                     (try rw [show ((2 : Int)).toNat = 2 from rfl] at hx268_0)
                     replace hx268_0 := (HB.out.cell (World.block_lt_of_cell? w _ hx268_0)).trans hx268_0
                     replace p268 := eq_true p268
                     replace q268 := eq_true q268
                     go_wp2
                     repeat (go_quiet (fail); try go_wp2)
                     go_meet
                     case rel => exact ⟨_, (((wrap64 ((wrap64 ((rd (rd_L1 l1 x36_2) 0) + (rd (rd_L1 l1 x36_2) 1))) + (rd (rd_L1 l1 x36_2) 2))) != a0)), (by first | rfl | (simp; done) | (simp [*]; done)), H', ⟨by have := HJ3.out; have := HK2.out; first | omega | exact Nat.le_refl _⟩, ⟨by (with_reducible repeat (first | apply Kd.R_alloc | apply Kd.R_drewN | apply Kd.R_drew)); exact HO_7.out⟩, ⟨by repeat (first | (with_reducible first | exact HB.out | apply below_alloc | apply pw_below_drewN | apply below_drew1) | exact HB.out)⟩⟩
                 ·rw [if_neg c23] at H
                  exact absurd H (by simp)
               ·rw [if_neg c21] at H
                exact absurd H (by simp)
             ·rw [if_neg c19] at H
              exact absurd H (by simp)
            ·rw [if_neg c18] at H
             have c18b0 : (((rd_L1 l1 x36_2).length : Int) == 3) = false := beq_eq_false_iff_ne.mpr c18
             have c18b1 : (((rd_L1 l1 x36_2).length : Int) != 3) = true := bne_iff_ne.mpr c18
             (first | rw [c18b0] | (simp only [i64_w, i32_w]; rw [c18b0]) | skip)
             have H' := Aside0.mk H
             clear H
             go_wp2
             repeat (go_quiet (fail); try go_wp2)
             go_meet
             case rel => exact ⟨_, (true), (by first | rfl | (simp; done) | (simp [*]; done)), H', ⟨by have := HJ3.out; have := HK2.out; first | omega | exact Nat.le_refl _⟩, ⟨by (with_reducible repeat (first | apply Kd.R_alloc | apply Kd.R_drewN | apply Kd.R_drew)); exact HO_7.out⟩, ⟨by repeat (first | (with_reducible first | exact HB.out | apply below_alloc | apply pw_below_drewN | apply below_drew1) | exact HB.out)⟩⟩
           case rest =>
            clear HC17
            try clear c1
            try clear c2
            try clear p2
            try clear q2
            try clear hx2
            try clear qi2
            try clear c5
            try clear c6
            try clear c6b0
            try clear c6b1
            try clear p6
            try clear c7
            try clear c8
            try clear c10
            try clear c10b0
            try clear c10b1
            try clear c11
            try clear c11b0
            try clear c11b1
            try clear c14
            try clear c14b0
            try clear c15
            try clear c15b0
            try clear c16
            try clear c16b0
            try clear c18
            try clear c18b0
            try clear c18b1
            try clear c19
            try clear c19b0
            try clear c19b1
            try clear c20
            try clear c20b0
            try clear c21
            try clear c21b0
            try clear c21b1
            try clear c22
            try clear c22b0
            try clear c23
            try clear c23b0
            try clear c23b1
            try clear c24
            try clear c24b0
            try clear c25
            try clear c25b0
            try clear p25
            try clear q25
            try clear hx25
            try clear qi25
            try clear c26
            try clear c26b0
            try clear c26b1
            try clear p26
            try clear q26
            try clear hx26
            try clear qi26
            try clear hx256_0
            try clear hx257_0
            try clear hx258_0
            try clear hx259_0
            try clear hx260_0
            try clear hx261_0
            try clear hx262_0
            try clear hx263_0
            try clear hx264_0
            try clear hx265_0
            try clear hx266_0
            try clear hx267_0
            try clear hx268_0
            try clear p2
            try clear p256
            try clear p257
            try clear p258
            try clear p259
            try clear p260
            try clear p261
            try clear p262
            try clear p263
            try clear p264
            try clear p265
            try clear p266
            try clear p267
            try clear p268
            try clear p6
            try clear q256
            try clear q257
            try clear q258
            try clear q259
            try clear q260
            try clear q261
            try clear q262
            try clear q263
            try clear q264
            try clear q265
            try clear q266
            try clear q267
            try clear q268
            obtain ⟨kq, x102_16, rfl, HA, HJ16, HO_7, HB⟩ := hcut
            cases kq with
            | zero => exact absurd HA.out (by simp [impl_areDifferences.j2])
            | succ kj16 =>
             have H := HA.out
             clear HA
             simp only [impl_areDifferences.j2] at H
             by_cases c27 : x102_16 = true
             ·subst c27
              have H1 : (some false) = some r := by rw [if_pos rfl] at H; exact H
              clear H
              have H := H1
              clear H1
              obtain rfl := Option.some.inj H
              go_wp2
              repeat (go_quiet (fail); try go_wp2)
              go_ret
              exact ⟨by first | rfl | (simp [errW_none, errW_some] <;> rfl) | (simp only [← hji9]; first | rfl | (simp [errW_none, errW_some] <;> rfl)) | (simp [*, errW_none, errW_some] <;> rfl), by repeat (first | (with_reducible first | exact HB.out | apply below_alloc | apply pw_below_drewN | apply below_drew1) | exact HB.out)⟩
             ·replace c27 := Bool.eq_false_iff.mpr c27
              subst c27
              have H1 : (impl_areDifferences.l1 kj16 a0 t250 x7_2 l1 (l1.length : Int) x36_2 (rd_L1 l1 x36_2) ((rd_L1 l1 x36_2).length : Int) 0) = some r := by rw [if_neg (show ¬ (false = true) by decide)] at H; exact H
              clear H
              have H := H1
              clear H1
              have H' := Aside0.mk H
              clear H
              go_wp2
              repeat (go_quiet (fail); try go_wp2)
              go_loopg [105] kj16 (fun kq v105 w' => ∃ (x7_4 : List Bool) (x105_4 : Int), v105 = .int .i64 x105_4 ∧ Aside0 (impl_areDifferences.l1 kq a0 t250 x7_4 l1 (l1.length : Int) x36_2 (rd_L1 l1 x36_2) ((rd_L1 l1 x36_2).length : Int) x105_4 = some r) ∧ Aside0 (kq ≤ kj16) ∧ Aside0 (Kd.R Kd.bool 4 w' w.heap.size (fun _ => True) v254 x7_4) ∧ Aside0 (Below w.heap.size w w'))
              case atStart => exact ⟨(x7_2), (0), (by first | rfl | (simp; done) | (simp [*]; done)), H', ⟨Nat.le_refl _⟩, ⟨by (with_reducible repeat (first | apply Kd.R_alloc | apply Kd.R_drewN | apply Kd.R_drew)); exact HO_7.out⟩, ⟨by repeat (first | (with_reducible first | exact HB.out | apply below_alloc | apply pw_below_drewN | apply below_drew1) | exact HB.out)⟩⟩
              case round =>
               clear H'
               try clear c1
               try clear c2
               try clear p2
               try clear q2
               try clear hx2
               try clear qi2
               try clear c5
               try clear c6
               try clear c6b0
               try clear c6b1
               try clear p6
               try clear c7
               try clear c8
               try clear c10
               try clear c10b0
               try clear c10b1
               try clear c11
               try clear c11b0
               try clear c11b1
               try clear c14
               try clear c14b0
               try clear c15
               try clear c15b0
               try clear c16
               try clear c16b0
               try clear c18
               try clear c18b0
               try clear c18b1
               try clear c19
               try clear c19b0
               try clear c19b1
               try clear c20
               try clear c20b0
               try clear c21
               try clear c21b0
               try clear c21b1
               try clear c22
               try clear c22b0
               try clear c23
               try clear c23b0
               try clear c23b1
               try clear c24
               try clear c24b0
               try clear c25
               try clear c25b0
               try clear p25
               try clear q25
               try clear hx25
               try clear qi25
               try clear c26
               try clear c26b0
               try clear c26b1
               try clear p26
               try clear q26
               try clear hx26
               try clear qi26
               try clear c27
               try clear hx256_0
               try clear hx257_0
               try clear hx258_0
               try clear hx259_0
               try clear hx260_0
               try clear hx261_0
               try clear hx262_0
               try clear hx263_0
               try clear hx264_0
               try clear hx265_0
               try clear hx266_0
               try clear hx267_0
               try clear hx268_0
               try clear p2
               try clear p25
               try clear p256
               try clear p257
               try clear p258
               try clear p259
               try clear p26
               try clear p260
               try clear p261
               try clear p262
               try clear p263
               try clear p264
               try clear p265
               try clear p266
               try clear p267
               try clear p268
               try clear p6
               try clear q2
               try clear q25
               try clear q256
               try clear q257
               try clear q258
               try clear q259
               try clear q26
               try clear q260
               try clear q261
               try clear q262
               try clear q263
               try clear q264
               try clear q265
               try clear q266
               try clear q267
               try clear q268
               obtain ⟨x7_4, x105_4, rfl, HA, HK4, HO_7, HB⟩ := hrel
               cases gk with
               | zero => exact absurd HA.out (by simp [impl_areDifferences.l1])
               | succ k4 =>
                have H := HA.out
                clear HA
                simp only [impl_areDifferences.l1] at H
                by_cases c28 : x105_4 < ((rd_L1 l1 x36_2).length : Int)
                ·rw [if_pos c28] at H
                 have c28b0 : decide (x105_4 < ((rd_L1 l1 x36_2).length : Int)) = true := decide_eq_true c28
                 clear c28
                 by_cases c29 : 0 ≤ x105_4
                 ·rw [if_pos c29] at H
                  have c29b0 : decide (0 ≤ x105_4) = true := decide_eq_true c29
                  clear c29
                  by_cases c30 : x105_4 < ((rd_L1 l1 x36_2).length : Int)
                  ·rw [if_pos c30] at H
                   have c30b0 : decide (x105_4 < ((rd_L1 l1 x36_2).length : Int)) = true := decide_eq_true c30
                   clear c30
                   by_cases c31 : 0 ≤ (rd (rd_L1 l1 x36_2) x105_4)
                   ·rw [if_pos c31] at H
                    have c31b0 : decide (0 ≤ (rd (rd_L1 l1 x36_2) x105_4)) = true := decide_eq_true c31
                    clear c31
                    by_cases c32 : (rd (rd_L1 l1 x36_2) x105_4) < (x7_4.length : Int)
                    ·rw [if_pos c32] at H
                     have c32b0 : decide ((rd (rd_L1 l1 x36_2) x105_4) < (x7_4.length : Int)) = true := decide_eq_true c32
                     clear c32
                     obtain ⟨bq33, hbq33⟩ : ∃ b_ : Bool, b_ = (rdOf false x7_4 (rd (rd_L1 l1 x36_2) x105_4)) := ⟨_, rfl⟩
                     replace H : (if bq33 = true then (some false) else (impl_areDifferences.l1 k4 a0 t250 (x7_4.set ((rd (rd_L1 l1 x36_2) x105_4) : Int).toNat true) l1 (l1.length : Int) x36_2 (rd_L1 l1 x36_2) ((rd_L1 l1 x36_2).length : Int) (wrap64 (x105_4 + 1)))) = some r := by rw [← hbq33] at H; exact H
                     have Nbq33 := Aside0.mk hbq33
                     clear hbq33
                     by_cases c34 : bq33 = true
                     ·subst c34
                      have H1 : (some false) = some r := by rw [if_pos rfl] at H; exact H
                      clear H
                      have H := H1
                      clear H1
                      obtain rfl := Option.some.inj H
                      have p269 : 0 ≤ (x105_4 : Int) := of_decide_eq_true (by first | (with_reducible assumption) | assumption)
                      have q269 : x105_4 < ((rd_L1 l1 x36_2).length : Int) := of_decide_eq_true (by first | (with_reducible assumption) | assumption)
                      obtain ⟨ad269, e269, hx269_0⟩ := Kd.at_int HR256_0.out x105_4 p269 q269
                      cases e269
                      replace hx269_0 := (HB.out.cell (World.block_lt_of_cell? w _ hx269_0)).trans hx269_0
                      replace p269 := eq_true p269
                      replace q269 := eq_true q269
                      obtain ⟨Ao35, co35, eo35⟩ := Kd.R_slice HO_7.out
                      subst eo35
                      have p270 : 0 ≤ ((rd (rd_L1 l1 x36_2) x105_4) : Int) := of_decide_eq_true (by first | (with_reducible assumption) | assumption)
                      have q270 : (rd (rd_L1 l1 x36_2) x105_4) < (x7_4.length : Int) := of_decide_eq_true (by first | (with_reducible assumption) | assumption)
                      obtain ⟨ad270, e270, hx270_0⟩ := Kd.at_bool (Kd.R_reads' HO_7.out).2.2 (rd (rd_L1 l1 x36_2) x105_4) p270 q270
                      (try rw [← Nbq33.out] at hx270_0)
                      cases e270
                      replace p270 := eq_true p270
                      replace q270 := eq_true q270
                      go_wp2
                      repeat (go_quiet (fail); try go_wp2)
                      go_ret
                      exact ⟨by first | rfl | (simp [errW_none, errW_some] <;> rfl) | (simp only [← hji9]; first | rfl | (simp [errW_none, errW_some] <;> rfl)) | (simp [*, errW_none, errW_some] <;> rfl), by repeat (first | (with_reducible first | exact HB.out | apply below_alloc | apply pw_below_drewN | apply below_drew1) | exact HB.out)⟩
                     ·replace c34 := Bool.eq_false_iff.mpr c34
                      subst c34
                      have H1 : (impl_areDifferences.l1 k4 a0 t250 (x7_4.set ((rd (rd_L1 l1 x36_2) x105_4) : Int).toNat true) l1 (l1.length : Int) x36_2 (rd_L1 l1 x36_2) ((rd_L1 l1 x36_2).length : Int) (wrap64 (x105_4 + 1))) = some r := by rw [if_neg (show ¬ (false = true) by decide)] at H; exact H
                      clear H
                      have H := H1
                      clear H1
                      obtain ⟨y271, hy271⟩ : ∃ y_ : List Bool, y_ = (x7_4.set ((rd (rd_L1 l1 x36_2) x105_4) : Int).toNat true) := ⟨_, rfl⟩
                      replace H : (impl_areDifferences.l1 k4 a0 t250 y271 l1 (l1.length : Int) x36_2 (rd_L1 l1 x36_2) ((rd_L1 l1 x36_2).length : Int) (wrap64 (x105_4 + 1))) = some r := by first | (rw [hy271]; with_reducible exact H) | (have H2_ := (Option.bind_some _ _).symm.trans H; rw [hy271]; with_reducible exact H2_) | (have H2_ := (Option.bind_some _ _).symm.trans H; with_reducible exact H2_) | with_reducible exact H | (rw [hy271]; exact H) | exact H
                      have Ny271 := Aside0.mk hy271
                      clear hy271
                      have H' := Aside0.mk H
                      clear H
                      have p269 : 0 ≤ (x105_4 : Int) := of_decide_eq_true (by first | (with_reducible assumption) | assumption)
                      have q269 : x105_4 < ((rd_L1 l1 x36_2).length : Int) := of_decide_eq_true (by first | (with_reducible assumption) | assumption)
                      obtain ⟨ad269, e269, hx269_0⟩ := Kd.at_int HR256_0.out x105_4 p269 q269
                      cases e269
                      replace hx269_0 := (HB.out.cell (World.block_lt_of_cell? w _ hx269_0)).trans hx269_0
                      replace p269 := eq_true p269
                      replace q269 := eq_true q269
                      obtain ⟨Ao37, co37, eo37⟩ := Kd.R_slice HO_7.out
                      subst eo37
                      have p270 : 0 ≤ ((rd (rd_L1 l1 x36_2) x105_4) : Int) := of_decide_eq_true (by first | (with_reducible assumption) | assumption)
                      have q270 : (rd (rd_L1 l1 x36_2) x105_4) < (x7_4.length : Int) := of_decide_eq_true (by first | (with_reducible assumption) | assumption)
                      obtain ⟨ad270, e270, hx270_0⟩ := Kd.at_bool (Kd.R_reads' HO_7.out).2.2 (rd (rd_L1 l1 x36_2) x105_4) p270 q270
                      (try rw [← Nbq33.out] at hx270_0)
                      cases e270
                      replace p270 := eq_true p270
                      replace q270 := eq_true q270
                      have p36 : 0 ≤ ((rd (rd_L1 l1 x36_2) x105_4) : Int) := of_decide_eq_true (by first | (with_reducible assumption) | assumption)
                      have q36 : ((rd (rd_L1 l1 x36_2) x105_4) : Int) < ((x7_4.length : Int) : Int) := of_decide_eq_true (by first | (with_reducible assumption) | assumption)
                      obtain ⟨go36, co36, eo36, gb36, gl36, cl36, HG36⟩ := Kd.R_form HO_7.out (by omega)
                      (first | cases eo36 | (injection eo36 with ea_ en_ ec_; (first | subst ea_ | (injection ea_ with ea_; subst ea_)); subst ec_; clear en_))
                      have GB36 := Aside0.mk gb36
                      have GG36 := Aside0.mk HG36
                      clear gb36 gl36 HG36
                      (first | simp only [add_plain] at hx270_0 | skip)
                      obtain ⟨hx36_0, hf36_0⟩ := Kd.R_celln false HO_7.out ((rd (rd_L1 l1 x36_2) x105_4) : Int) p36 q36
                      replace p36 := eq_true p36
                      replace q36 := eq_true q36
                      have HP38 := Kd.R_putg HO_7.out ((rd (rd_L1 l1 x36_2) x105_4) : Int) true
                      go_wp2_with (first | ((with_reducible refine gate_store (t := 4) (p := 115) rfl ?_); (try (rw [drewN_self wr]; generalize hq_ : World.drewN wr _ = wr; have n0_ := Aside0.mk (Kd.R_at hq_ HO_7.out); have n1_ := Aside0.mk (below_at hq_ HB.out); clear hq_ HO_7 HB; have HO_7 := n0_; have HB := n1_; clear n0_ n1_; (try (have HP38 := Kd.R_putg HO_7.out ((rd (rd_L1 l1 x36_2) x105_4) : Int) true)))); refine store_event (t := 4) (p := 115) (v := ?vo_w39) (w1 := (wr.setCell ⟨go36, ((rd (rd_L1 l1 x36_2) x105_4) : Int).toNat, none⟩ (.bool true))) ?hg ?ho ?hn ?hr ?_; (case ho => rfl); (case hg => rfl); (case hn => rfl); (case hr => first | (go_simp; done) | (go_simp; rfl)); intro w39 hw; have hg : wr.grownBy w39 (some go36) := (by rw [hw]; exact HP38.2); have hp_ : Kd.R Kd.bool 4 w39 w.heap.size (fun _ => True) (.slice (some ⟨go36, 0, none⟩) x7_4.length co37) y271 := (by rw [hw, Ny271.out]; exact HP38.1); clear HP38; have n0_ := Aside0.mk (hp_); have n1_ := Aside0.mk ((by rw [hw]; exact below_set (HB.out) GB36.out : Below w.heap.size w w39)); clear HO_7; clear HB; have HO_7 := n0_; have HB := n1_; clear n0_ n1_; clear hg hw hp_))
                      repeat (go_quiet (first | ((with_reducible refine gate_store (t := 4) (p := 115) rfl ?_); (try (rw [drewN_self wr]; generalize hq_ : World.drewN wr _ = wr; have n0_ := Aside0.mk (Kd.R_at hq_ HO_7.out); have n1_ := Aside0.mk (below_at hq_ HB.out); clear hq_ HO_7 HB; have HO_7 := n0_; have HB := n1_; clear n0_ n1_; (try (have HP38 := Kd.R_putg HO_7.out ((rd (rd_L1 l1 x36_2) x105_4) : Int) true)))); refine store_event (t := 4) (p := 115) (v := ?vo_w39) (w1 := (wr.setCell ⟨go36, ((rd (rd_L1 l1 x36_2) x105_4) : Int).toNat, none⟩ (.bool true))) ?hg ?ho ?hn ?hr ?_; (case ho => rfl); (case hg => rfl); (case hn => rfl); (case hr => first | (go_simp; done) | (go_simp; rfl)); intro w39 hw; have hg : wr.grownBy w39 (some go36) := (by rw [hw]; exact HP38.2); have hp_ : Kd.R Kd.bool 4 w39 w.heap.size (fun _ => True) (.slice (some ⟨go36, 0, none⟩) x7_4.length co37) y271 := (by rw [hw, Ny271.out]; exact HP38.1); clear HP38; have n0_ := Aside0.mk (hp_); have n1_ := Aside0.mk ((by rw [hw]; exact below_set (HB.out) GB36.out : Below w.heap.size w w39)); clear HO_7; clear HB; have HO_7 := n0_; have HB := n1_; clear n0_ n1_; clear hg hw hp_)); try go_wp2_with (first | ((with_reducible refine gate_store (t := 4) (p := 115) rfl ?_); (try (rw [drewN_self wr]; generalize hq_ : World.drewN wr _ = wr; have n0_ := Aside0.mk (Kd.R_at hq_ HO_7.out); have n1_ := Aside0.mk (below_at hq_ HB.out); clear hq_ HO_7 HB; have HO_7 := n0_; have HB := n1_; clear n0_ n1_; (try (have HP38 := Kd.R_putg HO_7.out ((rd (rd_L1 l1 x36_2) x105_4) : Int) true)))); refine store_event (t := 4) (p := 115) (v := ?vo_w39) (w1 := (wr.setCell ⟨go36, ((rd (rd_L1 l1 x36_2) x105_4) : Int).toNat, none⟩ (.bool true))) ?hg ?ho ?hn ?hr ?_; (case ho => rfl); (case hg => rfl); (case hn => rfl); (case hr => first | (go_simp; done) | (go_simp; rfl)); intro w39 hw; have hg : wr.grownBy w39 (some go36) := (by rw [hw]; exact HP38.2); have hp_ : Kd.R Kd.bool 4 w39 w.heap.size (fun _ => True) (.slice (some ⟨go36, 0, none⟩) x7_4.length co37) y271 := (by rw [hw, Ny271.out]; exact HP38.1); clear HP38; have n0_ := Aside0.mk (hp_); have n1_ := Aside0.mk ((by rw [hw]; exact below_set (HB.out) GB36.out : Below w.heap.size w w39)); clear HO_7; clear HB; have HO_7 := n0_; have HB := n1_; clear n0_ n1_; clear hg hw hp_)))
                      go_roundg k4
                      case measure => have := HJ3.out; have := HK2.out; have := HJ16.out; have := HK4.out; omega
                      case rel => exact ⟨(y271), (wrap64 (x105_4 + 1)), (by first | rfl | (simp; done) | (simp [*]; done)), H', ⟨by have := HJ3.out; have := HK2.out; have := HJ16.out; have := HK4.out; omega⟩, ⟨by (with_reducible repeat (first | apply Kd.R_alloc | apply Kd.R_drewN | apply Kd.R_drew)); exact HO_7.out⟩, ⟨by repeat (first | (with_reducible first | exact HB.out | apply below_alloc | apply pw_below_drewN | apply below_drew1) | exact HB.out)⟩⟩
                    ·rw [if_neg c32] at H
                     exact absurd H (by simp)
                   ·rw [if_neg c31] at H
                    exact absurd H (by simp)
                  ·rw [if_neg c30] at H
                   exact absurd H (by simp)
                 ·rw [if_neg c29] at H
                  exact absurd H (by simp)
                ·rw [if_neg c28] at H
                 have c28b0 : decide (x105_4 < ((rd_L1 l1 x36_2).length : Int)) = false := decide_eq_false c28
                 clear c28
                 have H' := Aside0.mk H
                 clear H
                 go_wp2
                 repeat (go_quiet (fail); try go_wp2)
                 go_roundg k4
                 case measure => have := HJ3.out; have := HK2.out; have := HJ16.out; have := HK4.out; omega
                 case rel => exact ⟨(x7_4), (wrap64 (x36_2 + 1)), (by first | rfl | (simp; done) | (simp [*]; done)), H', ⟨by have := HJ3.out; have := HK2.out; have := HJ16.out; have := HK4.out; omega⟩, ⟨by (with_reducible repeat (first | apply Kd.R_alloc | apply Kd.R_drewN | apply Kd.R_drew)); exact HO_7.out⟩, ⟨by repeat (first | (with_reducible first | exact HB.out | apply below_alloc | apply pw_below_drewN | apply below_drew1) | exact HB.out)⟩⟩
          ·rw [if_neg c16] at H
           exact absurd H (by simp)
         ·rw [if_neg c15] at H
          exact absurd H (by simp)
        ·rw [if_neg c14] at H
         have c14b0 : decide (x36_2 < (l1.length : Int)) = false := decide_eq_false c14
         clear c14
         obtain rfl := Option.some.inj H
         go_wp2
         repeat (go_quiet (fail); try go_wp2)
         go_ret
         exact ⟨by first | rfl | (simp [errW_none, errW_some] <;> rfl) | (simp only [← hji9]; first | rfl | (simp [errW_none, errW_some] <;> rfl)) | (simp [*, errW_none, errW_some] <;> rfl), by repeat (first | (with_reducible first | exact HB.out | apply below_alloc | apply pw_below_drewN | apply below_drew1) | exact HB.out)⟩
     ·rw [if_neg c11] at H
      exact absurd H (by simp)
    ·rw [if_neg c10] at H
     exact absurd H (by simp)

end Go.Proofs.Ytgpnhaaklhinlaa.PFnExactCircleBlocks
