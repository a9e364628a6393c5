-- Written by plug.py, a program of this session, over the kit's print of the function: checked by Lean alone.
import Derived.Test.YteepinopcmcklaaPFnExactAreDifferencesx0
import Derived.Test.YteepinopcmcklaaPFnExactAreDifferencesx1
import Derived.Test.YteepinopcmcklaaPFnExactAreDifferencesx2
namespace Go.Proofs.Yteepinopcmcklaa.PFnExactAreDifferences
open Go.RowKit Go.Proofs.YteepinopcmcklaaW.PrintWords Go.Proofs.YteepinopcmcklaaW.PrintLast Go.Proofs.YteepinopcmcklaaW.PrintMore
attribute [local go_sem] max2_int min2_int max_two min_two max_three min_three max_four min_four   -- for this text's walks alone
set_option linter.unusedVariables false
set_option linter.unusedSimpArgs false

/-! ### spec_trDifferences: function 29 -/
mutual
def spec_trDifferences.j0 : Nat → Int → List (List Int) → Int → Bool → Option (Bool)
 | 0, _, _, _, _ => none
 | k + 1, x0, x1, x5, x19 => if x19 = true then (some false) else (spec_trDifferences.l0 k x0 x1 x5 x1 (x1.length : Int) 0)
def spec_trDifferences.l0 : Nat → Int → List (List Int) → Int → List (List Int) → Int → Int → Option (Bool)
 | 0, _, _, _, _, _, _ => none
 | k + 1, x0, x1, x5, x20, x21, x22 => if x22 < x21 then (if 0 ≤ x22 then (if x22 < (x20.length : Int) then (if ((rd_L1 x20 x22).length : Int) = 3 then ((spec_l1All.f k (rd_L1 x20 x22) 1 (wrap64 (3 * x5))).bind fun t134 => (if t134 = true then (if 0 < ((rd_L1 x20 x22).length : Int) then (if 1 < ((rd_L1 x20 x22).length : Int) then (if (rd (rd_L1 x20 x22) 0) > (rd (rd_L1 x20 x22) 1) then (some false) else (if 2 < ((rd_L1 x20 x22).length : Int) then (if (rd (rd_L1 x20 x22) 1) > (rd (rd_L1 x20 x22) 2) then (some false) else (if (wrap64 ((rd (rd_L1 x20 x22) 0) + (rd (rd_L1 x20 x22) 1))) = (rd (rd_L1 x20 x22) 2) then (if x22 > 0 then (if 0 ≤ (wrap64 (x22 - 1)) then (if (wrap64 (x22 - 1)) < (x1.length : Int) then ((spec_trLess.f k (rd_L1 x1 (wrap64 (x22 - 1))) (rd_L1 x20 x22)).bind fun t143 => (if t143 = true then (spec_trDifferences.l0 k x0 x1 x5 x20 x21 (wrap64 (x22 + 1))) else (some false))) else (none)) else (none)) else (spec_trDifferences.l0 k x0 x1 x5 x20 x21 (wrap64 (x22 + 1)))) else (if (wrap64 ((wrap64 ((rd (rd_L1 x20 x22) 0) + (rd (rd_L1 x20 x22) 1))) + (rd (rd_L1 x20 x22) 2))) = x0 then (if x22 > 0 then (if 0 ≤ (wrap64 (x22 - 1)) then (if (wrap64 (x22 - 1)) < (x1.length : Int) then ((spec_trLess.f k (rd_L1 x1 (wrap64 (x22 - 1))) (rd_L1 x20 x22)).bind fun t148 => (if t148 = true then (spec_trDifferences.l0 k x0 x1 x5 x20 x21 (wrap64 (x22 + 1))) else (some false))) else (none)) else (none)) else (spec_trDifferences.l0 k x0 x1 x5 x20 x21 (wrap64 (x22 + 1)))) else (some false)))) else (none))) else (none)) else (none)) else (some false))) else (some false)) else (none)) else (none)) else ((spec_trMarks.f k x5 false).bind fun t129 => ((spec_trOnce.f k x1 t129).bind fun t132 => (some t132)))
end
def spec_trDifferences.f (k : Nat) (a0 : Int) (l1 : List (List Int)) : Option (Bool) := (spec_l1In.f a0 7 40).bind fun t128 => (if t128 = true then (spec_trDifferences.j0 k a0 l1 (l1.length : Int) (a0 != (wrap64 ((wrap64 (6 * (l1.length : Int))) + 1)))) else (spec_trDifferences.j0 k a0 l1 (l1.length : Int) true))
theorem spec_trDifferences.mono_l : ∀ k, (∀ y0 y1 y2 y3, LeO (spec_trDifferences.j0 k y0 y1 y2 y3) (spec_trDifferences.j0 (k + 1) y0 y1 y2 y3)) ∧ (∀ y0 y1 y2 y3 y4 y5, LeO (spec_trDifferences.l0 k y0 y1 y2 y3 y4 y5) (spec_trDifferences.l0 (k + 1) y0 y1 y2 y3 y4 y5))
 | 0 => ⟨fun _ _ _ _ r h => by simp [spec_trDifferences.j0] at h, fun _ _ _ _ _ _ r h => by simp [spec_trDifferences.l0] at h⟩
 | k + 1 => by
  obtain ⟨ih0, ih1⟩ := spec_trDifferences.mono_l k
  refine ⟨?_, ?_⟩
  ·intro y0 y1 y2 y3
   unfold spec_trDifferences.j0
   repeat' first
   | (with_reducible exact ih0 _ _ _ _)
   | (with_reducible exact ih1 _ _ _ _ _ _)
   | (with_reducible exact spec_l1All.mono _ _ _ _)
   | (with_reducible exact spec_trLess.mono _ _ _)
   | (with_reducible exact spec_trMarks.mono _ _ _)
   | (with_reducible exact spec_trOnce.mono _ _ _)
   | (with_reducible exact LeO.refl _)
   | (with_reducible exact LeO.none _)
   | (with_reducible refine LeO.ite ?_ ?_)
   | (with_reducible refine LeO.bind ?_ (fun _ => ?_))
   | exact ih0 _ _ _ _
   | exact ih1 _ _ _ _ _ _
   | exact spec_l1All.mono _ _ _ _
   | exact spec_trLess.mono _ _ _
   | exact spec_trMarks.mono _ _ _
   | exact spec_trOnce.mono _ _ _
   | exact LeO.none _
   | refine LeO.ite ?_ ?_
   | refine LeO.bind ?_ (fun _ => ?_)
  ·intro y0 y1 y2 y3 y4 y5
   unfold spec_trDifferences.l0
   repeat' first
   | (with_reducible exact ih0 _ _ _ _)
   | (with_reducible exact ih1 _ _ _ _ _ _)
   | (with_reducible exact spec_l1All.mono _ _ _ _)
   | (with_reducible exact spec_trLess.mono _ _ _)
   | (with_reducible exact spec_trMarks.mono _ _ _)
   | (with_reducible exact spec_trOnce.mono _ _ _)
   | (with_reducible exact LeO.refl _)
   | (with_reducible exact LeO.none _)
   | (with_reducible refine LeO.ite ?_ ?_)
   | (with_reducible refine LeO.bind ?_ (fun _ => ?_))
   | exact ih0 _ _ _ _
   | exact ih1 _ _ _ _ _ _
   | exact spec_l1All.mono _ _ _ _
   | exact spec_trLess.mono _ _ _
   | exact spec_trMarks.mono _ _ _
   | exact spec_trOnce.mono _ _ _
   | exact LeO.none _
   | refine LeO.ite ?_ ?_
   | refine LeO.bind ?_ (fun _ => ?_)
theorem spec_trDifferences.mono : ∀ a0 a1 k, LeO (spec_trDifferences.f k a0 a1) (spec_trDifferences.f (k + 1) a0 a1) := by
 intro a0 a1 k
 obtain ⟨ih0, ih1⟩ := spec_trDifferences.mono_l k
 unfold spec_trDifferences.f
 repeat' first
   | (with_reducible exact ih0 _ _ _ _)
   | (with_reducible exact ih1 _ _ _ _ _ _)
   | (with_reducible exact spec_l1All.mono _ _ _ _)
   | (with_reducible exact spec_trLess.mono _ _ _)
   | (with_reducible exact spec_trMarks.mono _ _ _)
   | (with_reducible exact spec_trOnce.mono _ _ _)
   | (with_reducible exact LeO.refl _)
   | (with_reducible exact LeO.none _)
   | (with_reducible refine LeO.ite ?_ ?_)
   | (with_reducible refine LeO.bind ?_ (fun _ => ?_))
   | exact ih0 _ _ _ _
   | exact ih1 _ _ _ _ _ _
   | exact spec_l1All.mono _ _ _ _
   | exact spec_trLess.mono _ _ _
   | exact spec_trMarks.mono _ _ _
   | exact spec_trOnce.mono _ _ _
   | exact LeO.none _
   | refine LeO.ite ?_ ?_
   | refine LeO.bind ?_ (fun _ => ?_)
def spec_trDifferences.T7 : Bool × List (List Nat × List Nat) := (true, [([], []), ([0], [0]), ([1], [1]), ([2], [2]), ([3], [3]), ([3], [3]), ([5, 3], [3, 5]), ([4, 6, 3, 3], [3, 4, 6]), ([7, 3], [3, 7]), ([3, 8], [3, 8]), ([9, 7], [9]), ([10], [10]), ([11, 10], [10, 11]), ([12, 10], [10, 12]), ([10], [10]), ([14, 10], [10, 14]), ([15, 10], [10, 15]), ([13, 16, 10], [10, 13, 16]), ([10, 17], [10, 17]), ([18, 10], [18]), ([19], [19]), ([20, 19], [19, 20]), ([21, 19], [19, 21]), ([19], [19]), ([23, 19], [19, 23]), ([24, 19], [19, 24]), ([22, 25, 19], [19, 22, 25]), ([19, 26], [19, 26]), ([27, 19], [27]), ([28], [28]), ([29, 28], [28, 29]), ([30, 28], [28, 30]), ([28], [28]), ([32, 28], [28, 32]), ([33, 28], [28, 33]), ([31, 34, 28], [28, 31, 34]), ([28], [28]), ([36, 28], [28, 36]), ([37, 28], [28, 37]), ([35, 38, 28], [28, 35, 38]), ([39, 28, 28], [28, 39]), ([40], [40]), ([41, 40], [40, 41]), ([42, 40], [40, 42]), ([40], [40]), ([44, 40], [40, 44]), ([45, 40], [40, 45]), ([43, 46, 40], [40, 43, 46]), ([40], [40]), ([48, 40], [40, 48]), ([49, 40], [40, 49]), ([47, 50, 40], [40, 47, 50]), ([40], [40]), ([51, 52, 40], [40, 51, 52]), ([40, 53, 28], [28, 40, 53]), ([28, 54], [28, 54]), ([55, 40], [55]), ([56], [56]), ([57, 56], [56, 57]), ([58, 56, 56], [56, 58]), ([59], [59]), ([59], [59]), ([61, 59], [59, 61]), ([60, 62, 59], [59, 60, 62]), ([63, 59], [59, 63]), ([59], [59]), ([64, 65, 59, 59], [59, 64, 65]), ([66, 59], [59, 66]), ([59, 67, 56], [56, 59, 67]), ([56, 68], [56, 68])])
def spec_trDifferences.B7 : List Nat := [0, 1, 3, 7, 15, 15, 47, 127, 255, 511, 1023, 2047, 4095, 8191, 2047, 18431, 51199, 131071, 262143, 524287, 1048575, 2097151, 4194303, 1048575, 9437183, 26214399, 67108863, 134217727, 268435455, 536870911, 1073741823, 2147483647, 536870911, 4831838207, 13421772799, 34359738367, 536870911, 69256347647, 206695301119, 549755813887, 1099511627775, 2199023255551, 4398046511103, 8796093022207, 2199023255551, 19791209299967, 54975581388799, 140737488355327, 2199023255551, 283673999966207, 846623953387519, 2251799813685247, 2199023255551, 9007199254740991, 18014398509481983, 36028797018963967, 72057594037927935, 144115188075855871, 288230376151711743, 576460752303423487, 1152921504606846975, 1152921504606846975, 3458764513820540927, 9223372036854775807, 18446744073709551615, 1152921504606846975, 73786976294838206463, 147573952589676412927, 295147905179352825855, 590295810358705651711]
theorem spec_trDifferences.tab7 : rtab .any (opsOf Try.f29 7) = spec_trDifferences.T7 := by kernel_rfl
theorem spec_trDifferences.bits7 : waitsOk spec_trDifferences.T7.2 spec_trDifferences.B7 = true := by kernel_rfl
set_option maxHeartbeats 8000000 in
set_option maxRecDepth 100000 in
theorem spec_trDifferences.calls (k : Nat) (a0 : Int) (A1 : Option Addr) (c1 : Nat) (l1 : List (List Int)) (r : Bool) (w : World) (hr1 : Kd.C (Kd.slice 3 (Kd.int .i64)) w A1 l1.length l1) (hc1 : l1.length ≤ c1) (h : spec_trDifferences.f k a0 l1 = some r) :
  Calls Try.prog 29 #[.int .i64 a0, .slice A1 l1.length c1] w fun e w' => e = .returned (.bool r) ∧ Below w.heap.size w w' := by
 have HR1 := Aside0.mk hr1
 have HC1 := Aside0.mk hc1
 clear hr1 hc1
 have HB := Aside0.mk (Below.refl w.heap.size w)
 have H : ((spec_l1In.f a0 7 40).bind fun t128 => (if t128 = true then (spec_trDifferences.j0 k a0 l1 (l1.length : Int) (a0 != (wrap64 ((wrap64 (6 * (l1.length : Int))) + 1)))) else (spec_trDifferences.j0 k a0 l1 (l1.length : Int) true))) = some r := h
 clear h
 have HC3 := Aside0.mk H
 clear H
 go_enter Try.func29, Try.ntmps29
 go_upto_region 2 with (fail)
 go_cut [19] (fun v19 wc => ∃ (kq : Nat) (x19_2 : Bool), v19 = .bool x19_2 ∧ Aside0 (spec_trDifferences.j0 kq a0 l1 (l1.length : Int) x19_2 = some r) ∧ Aside0 (kq ≤ k) ∧ Aside0 (Below w.heap.size w wc))
 case first =>
  have H := HC3.out
  clear HC3
  replace H := Option.bind_eq_some_iff.mp H
  obtain ⟨t128, A40, H⟩ := H
  replace H : (if t128 = true then (spec_trDifferences.j0 k a0 l1 (l1.length : Int) (a0 != (wrap64 ((wrap64 (6 * (l1.length : Int))) + 1)))) else (spec_trDifferences.j0 k a0 l1 (l1.length : Int) true)) = some r := H
  have A4 := Aside0.mk A40
  clear A40
  by_cases c5 : t128 = true
  ·subst c5
   have H1 : (spec_trDifferences.j0 k a0 l1 (l1.length : Int) (a0 != (wrap64 ((wrap64 (6 * (l1.length : Int))) + 1)))) = some r := by rw [if_pos rfl] at H; exact H
   clear H
   have H := H1
   clear H1
   have H' := Aside0.mk H
   clear H
   go_wp2_with (first | ((with_reducible refine gate_callee (f := 32) rfl ?_); refine goesL_ (some 11) rfl rfl Try.func32 (by kernel_rfl) rfl #[.int .i64 a0, .int .i64 7, .int .i64 40] rfl (by (try simp only [List.map_toArray, List.map_cons, List.map_nil]); first | done | rfl | (simp only [List.length_drop, List.length_take]; rfl)) ?_; (with_reducible refine (spec_l1In.calls a0 7 40 true _ A4.out).mono ?_); rintro e w' ⟨rfl, ⟨nd, rfl⟩⟩; refine ⟨_, rfl, ?_⟩))
   go_meet
   case rel => exact ⟨_, ((a0 != (wrap64 ((wrap64 (6 * (l1.length : Int))) + 1)))), (by first | rfl | (simp; done) | (simp [*]; done)), H', ⟨by first | omega | exact Nat.le_refl _⟩, ⟨by repeat (first | (with_reducible first | exact HB.out | apply below_alloc | apply pw_below_drewN | apply below_drew1) | exact HB.out)⟩⟩
  ·replace c5 := Bool.eq_false_iff.mpr c5
   subst c5
   have H1 : (spec_trDifferences.j0 k a0 l1 (l1.length : Int) true) = some r := by rw [if_neg (show ¬ (false = true) by decide)] at H; exact H
   clear H
   have H := H1
   clear H1
   have H' := Aside0.mk H
   clear H
   go_wp2_with (first | ((with_reducible refine gate_callee (f := 32) rfl ?_); refine goesL_ (some 11) rfl rfl Try.func32 (by kernel_rfl) rfl #[.int .i64 a0, .int .i64 7, .int .i64 40] rfl (by (try simp only [List.map_toArray, List.map_cons, List.map_nil]); first | done | rfl | (simp only [List.length_drop, List.length_take]; rfl)) ?_; (with_reducible refine (spec_l1In.calls a0 7 40 false _ A4.out).mono ?_); rintro e w' ⟨rfl, ⟨nd, rfl⟩⟩; refine ⟨_, rfl, ?_⟩))
   go_meet
   case rel => exact ⟨_, (true), (by first | rfl | (simp; done) | (simp [*]; done)), H', ⟨by first | omega | exact Nat.le_refl _⟩, ⟨by repeat (first | (with_reducible first | exact HB.out | apply below_alloc | apply pw_below_drewN | apply below_drew1) | exact HB.out)⟩⟩
 case rest =>
  clear HC3
  try clear c1
  try clear c2
  try clear p2
  try clear c3
  try clear c5
  obtain ⟨kq, x19_2, rfl, HA, HJ2, HB⟩ := hcut
  cases kq with
  | zero => exact absurd HA.out (by simp [spec_trDifferences.j0])
  | succ kj2 =>
   have H := HA.out
   clear HA
   simp only [spec_trDifferences.j0] at H
   by_cases c6 : x19_2 = true
   ·subst c6
    have H1 : (some false) = some r := by rw [if_pos rfl] at H; exact H
    clear H
    have H := H1
    clear H1
    obtain rfl := Option.some.inj H
    go_wp2
    go_ret
    exact ⟨by first | rfl | (simp [errW_none, errW_some] <;> rfl) | (simp [*, errW_none, errW_some] <;> rfl), by repeat (first | (with_reducible first | exact HB.out | apply below_alloc | apply pw_below_drewN | apply below_drew1) | exact HB.out)⟩
   ·replace c6 := Bool.eq_false_iff.mpr c6
    subst c6
    have H1 : (spec_trDifferences.l0 kj2 a0 l1 (l1.length : Int) l1 (l1.length : Int) 0) = some r := by rw [if_neg (show ¬ (false = true) by decide)] at H; exact H
    clear H
    have H := H1
    clear H1
    have H' := Aside0.mk H
    clear H
    go_wp2
    go_loopg [22] kj2 (fun kq v22 w' => ∃ (x22_2 : Int), v22 = .int .i64 x22_2 ∧ Aside0 (spec_trDifferences.l0 kq a0 l1 (l1.length : Int) l1 (l1.length : Int) x22_2 = some r) ∧ Aside0 (kq ≤ kj2) ∧ Aside0 (Below w.heap.size w w'))
    case atStart => exact ⟨(0), (by first | rfl | (simp; done) | (simp [*]; done)), H', ⟨Nat.le_refl _⟩, ⟨by repeat (first | (with_reducible first | exact HB.out | apply below_alloc | apply pw_below_drewN | apply below_drew1) | exact HB.out)⟩⟩
    case round =>
     clear H'
     try clear c1
     try clear c2
     try clear p2
     try clear c3
     try clear c5
     try clear c6
     try clear p6
     try clear p2
     obtain ⟨x22_2, rfl, HA, HK2, HB⟩ := hrel
     cases gk with
     | zero => exact absurd HA.out (by simp [spec_trDifferences.l0])
     | succ k2 =>
      have H := HA.out
      clear HA
      simp only [spec_trDifferences.l0] at H
      by_cases c7 : x22_2 < (l1.length : Int)
      ·rw [if_pos c7] at H
       have c7b0 : decide (x22_2 < (l1.length : Int)) = true := decide_eq_true c7
       clear c7
       by_cases c8 : 0 ≤ x22_2
       ·rw [if_pos c8] at H
        have c8b0 : decide (0 ≤ x22_2) = true := decide_eq_true c8
        clear c8
        by_cases c9 : x22_2 < (l1.length : Int)
        ·rw [if_pos c9] at H
         have c9b0 : decide (x22_2 < (l1.length : Int)) = true := decide_eq_true c9
         clear c9
         by_cases c10 : ((rd_L1 l1 x22_2).length : Int) = 3
         ·rw [if_pos c10] at H
          have c10b0 : (((rd_L1 l1 x22_2).length : Int) == 3) = true := beq_iff_eq.mpr c10
          have c10b1 : (((rd_L1 l1 x22_2).length : Int) != 3) = false := bne_eq_false_iff_eq.mpr c10
          clear c10
          replace H := Option.bind_eq_some_iff.mp H
          obtain ⟨t134, A110, H⟩ := H
          replace H : (if t134 = true then (if 0 < ((rd_L1 l1 x22_2).length : Int) then (if 1 < ((rd_L1 l1 x22_2).length : Int) then (if (rd (rd_L1 l1 x22_2) 0) > (rd (rd_L1 l1 x22_2) 1) then (some false) else (if 2 < ((rd_L1 l1 x22_2).length : Int) then (if (rd (rd_L1 l1 x22_2) 1) > (rd (rd_L1 l1 x22_2) 2) then (some false) else (if (wrap64 ((rd (rd_L1 l1 x22_2) 0) + (rd (rd_L1 l1 x22_2) 1))) = (rd (rd_L1 l1 x22_2) 2) then (if x22_2 > 0 then (if 0 ≤ (wrap64 (x22_2 - 1)) then (if (wrap64 (x22_2 - 1)) < (l1.length : Int) then ((spec_trLess.f k2 (rd_L1 l1 (wrap64 (x22_2 - 1))) (rd_L1 l1 x22_2)).bind fun t143 => (if t143 = true then (spec_trDifferences.l0 k2 a0 l1 (l1.length : Int) l1 (l1.length : Int) (wrap64 (x22_2 + 1))) else (some false))) else (none)) else (none)) else (spec_trDifferences.l0 k2 a0 l1 (l1.length : Int) l1 (l1.length : Int) (wrap64 (x22_2 + 1)))) else (if (wrap64 ((wrap64 ((rd (rd_L1 l1 x22_2) 0) + (rd (rd_L1 l1 x22_2) 1))) + (rd (rd_L1 l1 x22_2) 2))) = a0 then (if x22_2 > 0 then (if 0 ≤ (wrap64 (x22_2 - 1)) then (if (wrap64 (x22_2 - 1)) < (l1.length : Int) then ((spec_trLess.f k2 (rd_L1 l1 (wrap64 (x22_2 - 1))) (rd_L1 l1 x22_2)).bind fun t148 => (if t148 = true then (spec_trDifferences.l0 k2 a0 l1 (l1.length : Int) l1 (l1.length : Int) (wrap64 (x22_2 + 1))) else (some false))) else (none)) else (none)) else (spec_trDifferences.l0 k2 a0 l1 (l1.length : Int) l1 (l1.length : Int) (wrap64 (x22_2 + 1)))) else (some false)))) else (none))) else (none)) else (none)) else (some false)) = some r := H
          have A11 := Aside0.mk A110
          clear A110
          by_cases c12 : t134 = true
          ·subst c12
           have H1 : (if 0 < ((rd_L1 l1 x22_2).length : Int) then (if 1 < ((rd_L1 l1 x22_2).length : Int) then (if (rd (rd_L1 l1 x22_2) 0) > (rd (rd_L1 l1 x22_2) 1) then (some false) else (if 2 < ((rd_L1 l1 x22_2).length : Int) then (if (rd (rd_L1 l1 x22_2) 1) > (rd (rd_L1 l1 x22_2) 2) then (some false) else (if (wrap64 ((rd (rd_L1 l1 x22_2) 0) + (rd (rd_L1 l1 x22_2) 1))) = (rd (rd_L1 l1 x22_2) 2) then (if x22_2 > 0 then (if 0 ≤ (wrap64 (x22_2 - 1)) then (if (wrap64 (x22_2 - 1)) < (l1.length : Int) then ((spec_trLess.f k2 (rd_L1 l1 (wrap64 (x22_2 - 1))) (rd_L1 l1 x22_2)).bind fun t143 => (if t143 = true then (spec_trDifferences.l0 k2 a0 l1 (l1.length : Int) l1 (l1.length : Int) (wrap64 (x22_2 + 1))) else (some false))) else (none)) else (none)) else (spec_trDifferences.l0 k2 a0 l1 (l1.length : Int) l1 (l1.length : Int) (wrap64 (x22_2 + 1)))) else (if (wrap64 ((wrap64 ((rd (rd_L1 l1 x22_2) 0) + (rd (rd_L1 l1 x22_2) 1))) + (rd (rd_L1 l1 x22_2) 2))) = a0 then (if x22_2 > 0 then (if 0 ≤ (wrap64 (x22_2 - 1)) then (if (wrap64 (x22_2 - 1)) < (l1.length : Int) then ((spec_trLess.f k2 (rd_L1 l1 (wrap64 (x22_2 - 1))) (rd_L1 l1 x22_2)).bind fun t148 => (if t148 = true then (spec_trDifferences.l0 k2 a0 l1 (l1.length : Int) l1 (l1.length : Int) (wrap64 (x22_2 + 1))) else (some false))) else (none)) else (none)) else (spec_trDifferences.l0 k2 a0 l1 (l1.length : Int) l1 (l1.length : Int) (wrap64 (x22_2 + 1)))) else (some false)))) else (none))) else (none)) else (none)) = some r := by rw [if_pos rfl] at H; exact H
           clear H
           have H := H1
           clear H1
           by_cases c13 : 0 < ((rd_L1 l1 x22_2).length : Int)
           ·rw [if_pos c13] at H
            have c13b0 : decide (0 < ((rd_L1 l1 x22_2).length : Int)) = true := decide_eq_true c13
            have c13b1 : decide (0 < (rd_L1 l1 x22_2).length) = true := decide_eq_true (by omega)
            clear c13
            by_cases c14 : 1 < ((rd_L1 l1 x22_2).length : Int)
            ·rw [if_pos c14] at H
             have c14b0 : decide (1 < ((rd_L1 l1 x22_2).length : Int)) = true := decide_eq_true c14
             have c14b1 : decide (1 < (rd_L1 l1 x22_2).length) = true := decide_eq_true (by omega)
             clear c14
             by_cases c15 : (rd (rd_L1 l1 x22_2) 0) > (rd (rd_L1 l1 x22_2) 1)
             ·rw [if_pos c15] at H
              have c15b0 : decide ((rd (rd_L1 l1 x22_2) 1) < (rd (rd_L1 l1 x22_2) 0)) = true := decide_eq_true c15
              clear c15
              obtain rfl := Option.some.inj H
              have p133 : 0 ≤ (x22_2 : Int) := of_decide_eq_true (by first | (with_reducible assumption) | assumption)
              have q133 : x22_2 < (l1.length : Int) := of_decide_eq_true (by first | (with_reducible assumption) | assumption)
              obtain ⟨ad133, A133_0, c133_0, e133, hx133_0, hl133_0, hi133_0⟩ := at_L1 HR1.out x22_2 p133 q133
              cases e133
              replace hx133_0 := (HB.out.cell (World.block_lt_of_cell? w _ hx133_0)).trans hx133_0
              have HR133_0 := Aside0.mk hi133_0
              have HC133_0 := Aside0.mk hl133_0
              clear hi133_0 hl133_0
              replace p133 := eq_true p133
              replace q133 := eq_true q133
              try go_wp2
              have n0_ := Aside0.mk (below_drew1 HB.out)
              clear HB
              have HB := n0_
              clear n0_
              have p135 : 0 ≤ (0 : Int) := (by omega)
              have q135 : 0 < ((rd_L1 l1 x22_2).length : Int) := of_decide_eq_true (by first | (with_reducible assumption) | assumption)
              obtain ⟨ad135, e135, hx135_0⟩ := Kd.at_int HR133_0.out 0 p135 q135
              have hw135_0 := hx135_0
              (try rw [show ((0 : Int)).toNat = 0 from rfl] at hw135_0)
              (try rw [show 0 * 1 = 0 from rfl] at hw135_0)
              (try rw [Addr.add_zero'] at hw135_0)
              cases e135
              have qi135 : (0 < (rd_L1 l1 x22_2).length) = True := eq_true (by omega)
              (try rw [show ((0 : Int)).toNat = 0 from rfl] at hx135_0)
              (try rw [Addr.add_zero'] at hx135_0)
              replace hx135_0 := (HB.out.cell (World.block_lt_of_cell? w _ hx135_0)).trans hx135_0
              replace p135 := eq_true p135
              replace q135 := eq_true q135
              have p136 : 0 ≤ (1 : Int) := (by omega)
              have q136 : 1 < ((rd_L1 l1 x22_2).length : Int) := of_decide_eq_true (by first | (with_reducible assumption) | assumption)
              obtain ⟨ad136, e136, hx136_0⟩ := Kd.at_int HR133_0.out 1 p136 q136
              have hw136_0 := hx136_0
              (try rw [show ((1 : Int)).toNat = 1 from rfl] at hw136_0)
              (try rw [show 1 * 1 = 1 from rfl] at hw136_0)
              (try simp only [Nat.reduceMul, Nat.reduceEqDiff, Go.Addr.add, ↓reduceIte] at hw136_0)
              obtain rfl : ad135 = ad136 := (by injection e136)
              (try simp only [show (1 : Int).toNat = 1 from rfl, Nat.reduceMul, Nat.reduceEqDiff, Go.Addr.add, ↓reduceIte] at hx136_0)
              have qi136 : (1 < (rd_L1 l1 x22_2).length) = True := eq_true (by omega)
              (try rw [show ((1 : Int)).toNat = 1 from rfl] at hx136_0)
              replace hx136_0 := (HB.out.cell (World.block_lt_of_cell? w _ hx136_0)).trans hx136_0
              replace p136 := eq_true p136
              replace q136 := eq_true q136
              refine start_ (n := 70) (S := fun w' => w'.cell? ad135 = some (.int .i64 (rd (rd_L1 l1 x22_2) 0)) ∧ w'.cell? ⟨ad135.block, ad135.off + 1, none⟩ = some (.int .i64 (rd (rd_L1 l1 x22_2) 1))) (ds := []) (mb 70 0) (by kernel_rfl) rfl rfl ⟨((HB.out.cell (World.block_lt_of_cell? w _ hw135_0)).trans hw135_0), ((HB.out.cell (World.block_lt_of_cell? w _ hw136_0)).trans hw136_0)⟩ (fun hHeld => ?_); refine with_tabW spec_trDifferences.tab7 spec_trDifferences.bits7 (fun HT_ HW_ => ?_)
              generalize wr.drew = w16 at HB hx135_0 hx136_0 hHeld ⊢
              refine pureV 0 27 70 1 HT_ ?_
              refine pureV 1 28 70 3 HT_ ?_
              refine pureV 2 29 70 7 HT_ ?_
              refine pureV 3 30 70 15 HT_ ?_
              refine pureV 4 31 70 31 HT_ ?_
              refine pureV 5 32 70 63 HT_ ?_
              refine pureV 6 33 70 127 HT_ ?_
              refine one_ (i := 7) (N := some 34) (mb 70 255) rfl rfl (one_of HT_.out (by kernel_rfl)) (by decide) (fun K hK => ?_)
              refine goes_ Try.func43 (by kernel_rfl) rfl #[.slice (some ad135) (rd_L1 l1 x22_2).length c133_0, .int .i64 1, .int .i64 (wrap64 (3 * (l1.length : Int)))] (by rfl) rfl rfl (by (try simp only [List.map_toArray, List.map_cons, List.map_nil]); first | done | rfl | (simp only [List.length_drop, List.length_take]; rfl)) ?_
              with_reducible refine (spec_l1All.calls k2 _ _ (rd_L1 l1 x22_2) 1 (wrap64 (3 * (l1.length : Int))) true _ ?side1 ?side2 A11.out).mono ?_
              (case side1 => repeat (first | exact (Kd.C_below HR133_0.out HB.out) | (with_reducible refine Kd.C_alloc ?_ _) | (with_reducible refine Kd.C_drewN ?_ _) | (with_reducible refine Kd.C_drew ?_)))
              (case side2 => exact HC133_0.out)
              rintro e w' ⟨rfl, ⟨nd, rfl⟩⟩
              refine ⟨_, rfl, ?_⟩
              refine hK.out _ _ ⟨((HB.out.cell (World.block_lt_of_cell? w _ hw135_0)).trans hw135_0), ((HB.out.cell (World.block_lt_of_cell? w _ hw136_0)).trans hw136_0)⟩ (fun hHeld => ?_)
              clear hK K
              refine norm_ (a' := ?_) ?_ ?_
              rotate_left
              ·show Act.put _ (some 34) _ = _
               simp only [Act.put, List.setIfInBounds_toArray, List.set_cons_zero, List.set_cons_succ, i64_w, i32_w]
               rfl
              refine pureV 8 35 70 511 HT_ ?_
              refine pureV 9 36 70 1023 HT_ ?_
              refine pureV 10 37 70 2047 HT_ ?_
              refine pureV 11 38 70 4095 HT_ ?_
              refine pureV 12 39 70 8191 HT_ ?_
              refine pureV 14 41 70 24575 HT_ ?_
              refine pureV 15 42 70 57343 HT_ ?_
              refine takeV 13 40 70 65535 HT_ HW_ hHeld rfl (by rintro w' ⟨s0, s1⟩; go_simp; with_reducible rfl) ?_
              refine takeV 16 43 70 131071 HT_ HW_ hHeld rfl (by rintro w' ⟨s0, s1⟩; go_simp; with_reducible rfl) ?_
              refine pureV 17 44 70 262143 HT_ ?_
              refine pureV 18 45 70 524287 HT_ ?_
              refine pureV 19 46 70 1048575 HT_ ?_
              refine pureU 20 47 70 2097151 HT_ ?_
              refine pureU 21 48 70 4194303 HT_ ?_
              refine pureU 22 49 70 8388607 HT_ ?_
              refine pureU 23 50 70 16777215 HT_ ?_
              refine pureU 24 51 70 33554431 HT_ ?_
              refine pureU 25 52 70 67108863 HT_ ?_
              refine pureU 26 53 70 134217727 HT_ ?_
              refine pureV 27 54 70 268435455 HT_ ?_
              refine pureV 28 55 70 536870911 HT_ ?_
              refine pureU 29 56 70 1073741823 HT_ ?_
              refine pureU 30 57 70 2147483647 HT_ ?_
              refine pureU 31 58 70 4294967295 HT_ ?_
              refine pureU 32 59 70 8589934591 HT_ ?_
              refine pureU 33 60 70 17179869183 HT_ ?_
              refine pureU 34 61 70 34359738367 HT_ ?_
              refine pureU 35 62 70 68719476735 HT_ ?_
              refine pureU 36 63 70 137438953471 HT_ ?_
              refine pureU 37 64 70 274877906943 HT_ ?_
              refine pureU 38 65 70 549755813887 HT_ ?_
              refine pureU 39 66 70 1099511627775 HT_ ?_
              refine pureU 40 67 70 2199023255551 HT_ ?_
              refine pureU 41 68 70 4398046511103 HT_ ?_
              refine pureU 42 69 70 8796093022207 HT_ ?_
              refine pureU 43 70 70 17592186044415 HT_ ?_
              refine pureU 44 71 70 35184372088831 HT_ ?_
              refine pureU 45 72 70 70368744177663 HT_ ?_
              refine pureU 46 73 70 140737488355327 HT_ ?_
              refine pureU 47 74 70 281474976710655 HT_ ?_
              refine pureU 48 75 70 562949953421311 HT_ ?_
              refine pureU 49 76 70 1125899906842623 HT_ ?_
              refine pureU 50 77 70 2251799813685247 HT_ ?_
              refine pureU 51 78 70 4503599627370495 HT_ ?_
              refine pureU 52 79 70 9007199254740991 HT_ ?_
              refine pureU 53 80 70 18014398509481983 HT_ ?_
              refine pureU 54 81 70 36028797018963967 HT_ ?_
              refine pureV 55 82 70 72057594037927935 HT_ ?_
              refine pureV 56 83 70 144115188075855871 HT_ ?_
              refine pureU 57 84 70 288230376151711743 HT_ ?_
              refine pureU 58 85 70 576460752303423487 HT_ ?_
              refine pureU 59 86 70 1152921504606846975 HT_ ?_
              refine pureU 60 87 70 2305843009213693951 HT_ ?_
              refine pureU 61 88 70 4611686018427387903 HT_ ?_
              refine pureU 62 89 70 9223372036854775807 HT_ ?_
              refine pureU 63 90 70 18446744073709551615 HT_ ?_
              refine pureU 64 91 70 36893488147419103231 HT_ ?_
              refine pureU 65 92 70 73786976294838206463 HT_ ?_
              refine pureU 66 93 70 147573952589676412927 HT_ ?_
              refine pureU 67 94 70 295147905179352825855 HT_ ?_
              refine pureU 68 95 70 590295810358705651711 HT_ ?_
              refine pureV 69 96 70 1180591620717411303423 HT_ ?_
              refine done_ (done_of HT_.out (by kernel_rfl)) ?_
              try go_wp2
              go_ret
              exact ⟨by first | rfl | (simp [errW_none, errW_some] <;> rfl) | (simp [*, errW_none, errW_some] <;> rfl), by repeat (first | (with_reducible first | exact HB.out | apply below_alloc | apply pw_below_drewN | apply below_drew1) | exact HB.out)⟩
             ·rw [if_neg c15] at H
              have c15b0 : decide ((rd (rd_L1 l1 x22_2) 1) < (rd (rd_L1 l1 x22_2) 0)) = false := decide_eq_false c15
              clear c15
              by_cases c17 : 2 < ((rd_L1 l1 x22_2).length : Int)
              ·rw [if_pos c17] at H
               have c17b0 : decide (2 < ((rd_L1 l1 x22_2).length : Int)) = true := decide_eq_true c17
               have c17b1 : decide (2 < (rd_L1 l1 x22_2).length) = true := decide_eq_true (by omega)
               clear c17
               by_cases c18 : (rd (rd_L1 l1 x22_2) 1) > (rd (rd_L1 l1 x22_2) 2)
               ·rw [if_pos c18] at H
                have c18b0 : decide ((rd (rd_L1 l1 x22_2) 2) < (rd (rd_L1 l1 x22_2) 1)) = true := decide_eq_true c18
                clear c18
                obtain rfl := Option.some.inj H
                have p133 : 0 ≤ (x22_2 : Int) := of_decide_eq_true (by first | (with_reducible assumption) | assumption)
                have q133 : x22_2 < (l1.length : Int) := of_decide_eq_true (by first | (with_reducible assumption) | assumption)
                obtain ⟨ad133, A133_0, c133_0, e133, hx133_0, hl133_0, hi133_0⟩ := at_L1 HR1.out x22_2 p133 q133
                cases e133
                replace hx133_0 := (HB.out.cell (World.block_lt_of_cell? w _ hx133_0)).trans hx133_0
                have HR133_0 := Aside0.mk hi133_0
                have HC133_0 := Aside0.mk hl133_0
                clear hi133_0 hl133_0
                replace p133 := eq_true p133
                replace q133 := eq_true q133
                try go_wp2
                have n0_ := Aside0.mk (below_drew1 HB.out)
                clear HB
                have HB := n0_
                clear n0_
                have p135 : 0 ≤ (0 : Int) := (by omega)
                have q135 : 0 < ((rd_L1 l1 x22_2).length : Int) := of_decide_eq_true (by first | (with_reducible assumption) | assumption)
                obtain ⟨ad135, e135, hx135_0⟩ := Kd.at_int HR133_0.out 0 p135 q135
                have hw135_0 := hx135_0
                (try rw [show ((0 : Int)).toNat = 0 from rfl] at hw135_0)
                (try rw [show 0 * 1 = 0 from rfl] at hw135_0)
                (try rw [Addr.add_zero'] at hw135_0)
                cases e135
                have qi135 : (0 < (rd_L1 l1 x22_2).length) = True := eq_true (by omega)
                (try rw [show ((0 : Int)).toNat = 0 from rfl] at hx135_0)
                (try rw [Addr.add_zero'] at hx135_0)
                replace hx135_0 := (HB.out.cell (World.block_lt_of_cell? w _ hx135_0)).trans hx135_0
                replace p135 := eq_true p135
                replace q135 := eq_true q135
                have p136 : 0 ≤ (1 : Int) := (by omega)
                have q136 : 1 < ((rd_L1 l1 x22_2).length : Int) := of_decide_eq_true (by first | (with_reducible assumption) | assumption)
                obtain ⟨ad136, e136, hx136_0⟩ := Kd.at_int HR133_0.out 1 p136 q136
                have hw136_0 := hx136_0
                (try rw [show ((1 : Int)).toNat = 1 from rfl] at hw136_0)
                (try rw [show 1 * 1 = 1 from rfl] at hw136_0)
                (try simp only [Nat.reduceMul, Nat.reduceEqDiff, Go.Addr.add, ↓reduceIte] at hw136_0)
                obtain rfl : ad135 = ad136 := (by injection e136)
                (try simp only [show (1 : Int).toNat = 1 from rfl, Nat.reduceMul, Nat.reduceEqDiff, Go.Addr.add, ↓reduceIte] at hx136_0)
                have qi136 : (1 < (rd_L1 l1 x22_2).length) = True := eq_true (by omega)
                (try rw [show ((1 : Int)).toNat = 1 from rfl] at hx136_0)
                replace hx136_0 := (HB.out.cell (World.block_lt_of_cell? w _ hx136_0)).trans hx136_0
                replace p136 := eq_true p136
                replace q136 := eq_true q136
                have p137 : 0 ≤ (1 : Int) := (by omega)
                have q137 : 1 < ((rd_L1 l1 x22_2).length : Int) := of_decide_eq_true (by first | (with_reducible assumption) | assumption)
                obtain ⟨ad137, e137, hx137_0⟩ := Kd.at_int HR133_0.out 1 p137 q137
                have hw137_0 := hx137_0
                (try rw [show ((1 : Int)).toNat = 1 from rfl] at hw137_0)
                (try rw [show 1 * 1 = 1 from rfl] at hw137_0)
                (try simp only [Nat.reduceMul, Nat.reduceEqDiff, Go.Addr.add, ↓reduceIte] at hw137_0)
                obtain rfl : ad135 = ad137 := (by injection e137)
                (try simp only [show (1 : Int).toNat = 1 from rfl, Nat.reduceMul, Nat.reduceEqDiff, Go.Addr.add, ↓reduceIte] at hx137_0)
                have qi137 : (1 < (rd_L1 l1 x22_2).length) = True := eq_true (by omega)
                (try rw [show ((1 : Int)).toNat = 1 from rfl] at hx137_0)
                replace hx137_0 := (HB.out.cell (World.block_lt_of_cell? w _ hx137_0)).trans hx137_0
                replace p137 := eq_true p137
                replace q137 := eq_true q137
                have p138 : 0 ≤ (2 : Int) := (by omega)
                have q138 : 2 < ((rd_L1 l1 x22_2).length : Int) := of_decide_eq_true (by first | (with_reducible assumption) | assumption)
                obtain ⟨ad138, e138, hx138_0⟩ := Kd.at_int HR133_0.out 2 p138 q138
                have hw138_0 := hx138_0
                (try rw [show ((2 : Int)).toNat = 2 from rfl] at hw138_0)
                (try rw [show 2 * 1 = 2 from rfl] at hw138_0)
                (try simp only [Nat.reduceMul, Nat.reduceEqDiff, Go.Addr.add, ↓reduceIte] at hw138_0)
                obtain rfl : ad135 = ad138 := (by injection e138)
                (try simp only [show (2 : Int).toNat = 2 from rfl, Nat.reduceMul, Nat.reduceEqDiff, Go.Addr.add, ↓reduceIte] at hx138_0)
                have qi138 : (2 < (rd_L1 l1 x22_2).length) = True := eq_true (by omega)
                (try rw [show ((2 : Int)).toNat = 2 from rfl] at hx138_0)
                replace hx138_0 := (HB.out.cell (World.block_lt_of_cell? w _ hx138_0)).trans hx138_0
                replace p138 := eq_true p138
                replace q138 := eq_true q138
                refine start_ (n := 70) (S := fun w' => w'.cell? ad135 = some (.int .i64 (rd (rd_L1 l1 x22_2) 0)) ∧ w'.cell? ⟨ad135.block, ad135.off + 1, none⟩ = some (.int .i64 (rd (rd_L1 l1 x22_2) 1)) ∧ w'.cell? ⟨ad135.block, ad135.off + 1, none⟩ = some (.int .i64 (rd (rd_L1 l1 x22_2) 1)) ∧ w'.cell? ⟨ad135.block, ad135.off + 2, none⟩ = some (.int .i64 (rd (rd_L1 l1 x22_2) 2))) (ds := []) (mb 70 0) (by kernel_rfl) rfl rfl ⟨((HB.out.cell (World.block_lt_of_cell? w _ hw135_0)).trans hw135_0), ((HB.out.cell (World.block_lt_of_cell? w _ hw136_0)).trans hw136_0), ((HB.out.cell (World.block_lt_of_cell? w _ hw137_0)).trans hw137_0), ((HB.out.cell (World.block_lt_of_cell? w _ hw138_0)).trans hw138_0)⟩ (fun hHeld => ?_); refine with_tabW spec_trDifferences.tab7 spec_trDifferences.bits7 (fun HT_ HW_ => ?_)
                generalize wr.drew = w19 at HB hx135_0 hx136_0 hx137_0 hx138_0 hHeld ⊢
                refine pureV 0 27 70 1 HT_ ?_
                refine pureV 1 28 70 3 HT_ ?_
                refine pureV 2 29 70 7 HT_ ?_
                refine pureV 3 30 70 15 HT_ ?_
                refine pureV 4 31 70 31 HT_ ?_
                refine pureV 5 32 70 63 HT_ ?_
                refine pureV 6 33 70 127 HT_ ?_
                refine one_ (i := 7) (N := some 34) (mb 70 255) rfl rfl (one_of HT_.out (by kernel_rfl)) (by decide) (fun K hK => ?_)
                refine goes_ Try.func43 (by kernel_rfl) rfl #[.slice (some ad135) (rd_L1 l1 x22_2).length c133_0, .int .i64 1, .int .i64 (wrap64 (3 * (l1.length : Int)))] (by rfl) rfl rfl (by (try simp only [List.map_toArray, List.map_cons, List.map_nil]); first | done | rfl | (simp only [List.length_drop, List.length_take]; rfl)) ?_
                with_reducible refine (spec_l1All.calls k2 _ _ (rd_L1 l1 x22_2) 1 (wrap64 (3 * (l1.length : Int))) true _ ?side1 ?side2 A11.out).mono ?_
                (case side1 => repeat (first | exact (Kd.C_below HR133_0.out HB.out) | (with_reducible refine Kd.C_alloc ?_ _) | (with_reducible refine Kd.C_drewN ?_ _) | (with_reducible refine Kd.C_drew ?_)))
                (case side2 => exact HC133_0.out)
                rintro e w' ⟨rfl, ⟨nd, rfl⟩⟩
                refine ⟨_, rfl, ?_⟩
                refine hK.out _ _ ⟨((HB.out.cell (World.block_lt_of_cell? w _ hw135_0)).trans hw135_0), ((HB.out.cell (World.block_lt_of_cell? w _ hw136_0)).trans hw136_0), ((HB.out.cell (World.block_lt_of_cell? w _ hw137_0)).trans hw137_0), ((HB.out.cell (World.block_lt_of_cell? w _ hw138_0)).trans hw138_0)⟩ (fun hHeld => ?_)
                clear hK K
                refine norm_ (a' := ?_) ?_ ?_
                rotate_left
                ·show Act.put _ (some 34) _ = _
                 simp only [Act.put, List.setIfInBounds_toArray, List.set_cons_zero, List.set_cons_succ, i64_w, i32_w]
                 rfl
                refine pureV 8 35 70 511 HT_ ?_
                refine pureV 9 36 70 1023 HT_ ?_
                refine pureV 10 37 70 2047 HT_ ?_
                refine pureV 11 38 70 4095 HT_ ?_
                refine pureV 12 39 70 8191 HT_ ?_
                refine pureV 14 41 70 24575 HT_ ?_
                refine pureV 15 42 70 57343 HT_ ?_
                refine takeV 13 40 70 65535 HT_ HW_ hHeld rfl (by rintro w' ⟨s0, s1, s2, s3⟩; go_simp; with_reducible rfl) ?_
                refine takeV 16 43 70 131071 HT_ HW_ hHeld rfl (by rintro w' ⟨s0, s1, s2, s3⟩; go_simp; with_reducible rfl) ?_
                refine pureV 17 44 70 262143 HT_ ?_
                refine pureV 18 45 70 524287 HT_ ?_
                refine pureV 19 46 70 1048575 HT_ ?_
                refine pureV 20 47 70 2097151 HT_ ?_
                refine pureV 21 48 70 4194303 HT_ ?_
                refine pureV 23 50 70 12582911 HT_ ?_
                refine pureV 24 51 70 29360127 HT_ ?_
                refine takeV 22 49 70 33554431 HT_ HW_ hHeld rfl (by rintro w' ⟨s0, s1, s2, s3⟩; go_simp; with_reducible rfl) ?_
                refine takeV 25 52 70 67108863 HT_ HW_ hHeld rfl (by rintro w' ⟨s0, s1, s2, s3⟩; go_simp; with_reducible rfl) ?_
                refine pureV 26 53 70 134217727 HT_ ?_
                refine pureV 27 54 70 268435455 HT_ ?_
                refine pureV 28 55 70 536870911 HT_ ?_
                refine pureU 29 56 70 1073741823 HT_ ?_
                refine pureU 30 57 70 2147483647 HT_ ?_
                refine pureU 31 58 70 4294967295 HT_ ?_
                refine pureU 32 59 70 8589934591 HT_ ?_
                refine pureU 33 60 70 17179869183 HT_ ?_
                refine pureU 34 61 70 34359738367 HT_ ?_
                refine pureU 35 62 70 68719476735 HT_ ?_
                refine pureU 36 63 70 137438953471 HT_ ?_
                refine pureU 37 64 70 274877906943 HT_ ?_
                refine pureU 38 65 70 549755813887 HT_ ?_
                refine pureU 39 66 70 1099511627775 HT_ ?_
                refine pureU 40 67 70 2199023255551 HT_ ?_
                refine pureU 41 68 70 4398046511103 HT_ ?_
                refine pureU 42 69 70 8796093022207 HT_ ?_
                refine pureU 43 70 70 17592186044415 HT_ ?_
                refine pureU 44 71 70 35184372088831 HT_ ?_
                refine pureU 45 72 70 70368744177663 HT_ ?_
                refine pureU 46 73 70 140737488355327 HT_ ?_
                refine pureU 47 74 70 281474976710655 HT_ ?_
                refine pureU 48 75 70 562949953421311 HT_ ?_
                refine pureU 49 76 70 1125899906842623 HT_ ?_
                refine pureU 50 77 70 2251799813685247 HT_ ?_
                refine pureU 51 78 70 4503599627370495 HT_ ?_
                refine pureU 52 79 70 9007199254740991 HT_ ?_
                refine pureU 53 80 70 18014398509481983 HT_ ?_
                refine pureU 54 81 70 36028797018963967 HT_ ?_
                refine pureV 55 82 70 72057594037927935 HT_ ?_
                refine pureV 56 83 70 144115188075855871 HT_ ?_
                refine pureU 57 84 70 288230376151711743 HT_ ?_
                refine pureU 58 85 70 576460752303423487 HT_ ?_
                refine pureU 59 86 70 1152921504606846975 HT_ ?_
                refine pureU 60 87 70 2305843009213693951 HT_ ?_
                refine pureU 61 88 70 4611686018427387903 HT_ ?_
                refine pureU 62 89 70 9223372036854775807 HT_ ?_
                refine pureU 63 90 70 18446744073709551615 HT_ ?_
                refine pureU 64 91 70 36893488147419103231 HT_ ?_
                refine pureU 65 92 70 73786976294838206463 HT_ ?_
                refine pureU 66 93 70 147573952589676412927 HT_ ?_
                refine pureU 67 94 70 295147905179352825855 HT_ ?_
                refine pureU 68 95 70 590295810358705651711 HT_ ?_
                refine pureV 69 96 70 1180591620717411303423 HT_ ?_
                refine done_ (done_of HT_.out (by kernel_rfl)) ?_
                try go_wp2
                go_ret
                exact ⟨by first | rfl | (simp [errW_none, errW_some] <;> rfl) | (simp [*, errW_none, errW_some] <;> rfl), by repeat (first | (with_reducible first | exact HB.out | apply below_alloc | apply pw_below_drewN | apply below_drew1) | exact HB.out)⟩
               ·rw [if_neg c18] at H
                have c18b0 : decide ((rd (rd_L1 l1 x22_2) 2) < (rd (rd_L1 l1 x22_2) 1)) = false := decide_eq_false c18
                clear c18
                by_cases c20 : (wrap64 ((rd (rd_L1 l1 x22_2) 0) + (rd (rd_L1 l1 x22_2) 1))) = (rd (rd_L1 l1 x22_2) 2)
                ·rw [if_pos c20] at H
                 have c20b0 : ((wrap64 ((rd (rd_L1 l1 x22_2) 0) + (rd (rd_L1 l1 x22_2) 1))) == (rd (rd_L1 l1 x22_2) 2)) = true := beq_iff_eq.mpr c20
                 have c20b1 : ((wrap64 ((rd (rd_L1 l1 x22_2) 0) + (rd (rd_L1 l1 x22_2) 1))) != (rd (rd_L1 l1 x22_2) 2)) = false := bne_eq_false_iff_eq.mpr c20
                 clear c20
                 by_cases c21 : x22_2 > 0
                 ·rw [if_pos c21] at H
                  have c21b0 : decide (0 < x22_2) = true := decide_eq_true c21
                  clear c21
                  obtain ⟨ji22, hji22⟩ : ∃ j_ : Int, (wrap64 (x22_2 - 1)) = j_ := ⟨_, rfl⟩
                  replace H : (if 0 ≤ (ji22) then (if (ji22) < (l1.length : Int) then ((spec_trLess.f k2 (rd_L1 l1 (ji22)) (rd_L1 l1 x22_2)).bind fun t143 => (if t143 = true then (spec_trDifferences.l0 k2 a0 l1 (l1.length : Int) l1 (l1.length : Int) (wrap64 (x22_2 + 1))) else (some false))) else (none)) else (none)) = some r := by first | (rw [hji22] at H; exact H) | (simp only [hji22] at H ⊢; exact H)
                  (try rw [hji22] at A11)
                  have hji22w : (IntKind.i64.wrap (x22_2 - 1)) = ji22 := (i64_w _).trans hji22
                  by_cases c23 : 0 ≤ (ji22)
                  ·rw [if_pos c23] at H
                   have c23b0 : decide (0 ≤ (ji22)) = true := decide_eq_true c23
                   clear c23
                   by_cases c24 : (ji22) < (l1.length : Int)
                   ·rw [if_pos c24] at H
                    have c24b0 : decide ((ji22) < (l1.length : Int)) = true := decide_eq_true c24
                    clear c24
                    replace H := Option.bind_eq_some_iff.mp H
                    obtain ⟨t143, A250, H⟩ := H
                    replace H : (if t143 = true then (spec_trDifferences.l0 k2 a0 l1 (l1.length : Int) l1 (l1.length : Int) (wrap64 (x22_2 + 1))) else (some false)) = some r := H
                    have A25 := Aside0.mk A250
                    clear A250
                    by_cases c26 : t143 = true
                    ·subst c26
                     have H1 : (spec_trDifferences.l0 k2 a0 l1 (l1.length : Int) l1 (l1.length : Int) (wrap64 (x22_2 + 1))) = some r := by rw [if_pos rfl] at H; exact H
                     clear H
                     have H := H1
                     clear H1
                     have H' := Aside0.mk H
                     clear H
                     have p133 : 0 ≤ (x22_2 : Int) := of_decide_eq_true (by first | (with_reducible assumption) | assumption)
                     have q133 : x22_2 < (l1.length : Int) := of_decide_eq_true (by first | (with_reducible assumption) | assumption)
                     obtain ⟨ad133, A133_0, c133_0, e133, hx133_0, hl133_0, hi133_0⟩ := at_L1 HR1.out x22_2 p133 q133
                     cases e133
                     replace hx133_0 := (HB.out.cell (World.block_lt_of_cell? w _ hx133_0)).trans hx133_0
                     have HR133_0 := Aside0.mk hi133_0
                     have HC133_0 := Aside0.mk hl133_0
                     clear hi133_0 hl133_0
                     replace p133 := eq_true p133
                     replace q133 := eq_true q133
                     try go_wp2
                     have n0_ := Aside0.mk (below_drew1 HB.out)
                     clear HB
                     have HB := n0_
                     clear n0_
                     have p135 : 0 ≤ (0 : Int) := (by omega)
                     have q135 : 0 < ((rd_L1 l1 x22_2).length : Int) := of_decide_eq_true (by first | (with_reducible assumption) | assumption)
                     obtain ⟨ad135, e135, hx135_0⟩ := Kd.at_int HR133_0.out 0 p135 q135
                     have hw135_0 := hx135_0
                     (try rw [show ((0 : Int)).toNat = 0 from rfl] at hw135_0)
                     (try rw [show 0 * 1 = 0 from rfl] at hw135_0)
                     (try rw [Addr.add_zero'] at hw135_0)
                     cases e135
                     have qi135 : (0 < (rd_L1 l1 x22_2).length) = True := eq_true (by omega)
                     (try rw [show ((0 : Int)).toNat = 0 from rfl] at hx135_0)
                     (try rw [Addr.add_zero'] at hx135_0)
                     replace hx135_0 := (HB.out.cell (World.block_lt_of_cell? w _ hx135_0)).trans hx135_0
                     replace p135 := eq_true p135
                     replace q135 := eq_true q135
                     have p136 : 0 ≤ (1 : Int) := (by omega)
                     have q136 : 1 < ((rd_L1 l1 x22_2).length : Int) := of_decide_eq_true (by first | (with_reducible assumption) | assumption)
                     obtain ⟨ad136, e136, hx136_0⟩ := Kd.at_int HR133_0.out 1 p136 q136
                     have hw136_0 := hx136_0
                     (try rw [show ((1 : Int)).toNat = 1 from rfl] at hw136_0)
                     (try rw [show 1 * 1 = 1 from rfl] at hw136_0)
                     (try simp only [Nat.reduceMul, Nat.reduceEqDiff, Go.Addr.add, ↓reduceIte] at hw136_0)
                     obtain rfl : ad135 = ad136 := (by injection e136)
                     (try simp only [show (1 : Int).toNat = 1 from rfl, Nat.reduceMul, Nat.reduceEqDiff, Go.Addr.add, ↓reduceIte] at hx136_0)
                     have qi136 : (1 < (rd_L1 l1 x22_2).length) = True := eq_true (by omega)
                     (try rw [show ((1 : Int)).toNat = 1 from rfl] at hx136_0)
                     replace hx136_0 := (HB.out.cell (World.block_lt_of_cell? w _ hx136_0)).trans hx136_0
                     replace p136 := eq_true p136
                     replace q136 := eq_true q136
                     have p137 : 0 ≤ (1 : Int) := (by omega)
                     have q137 : 1 < ((rd_L1 l1 x22_2).length : Int) := of_decide_eq_true (by first | (with_reducible assumption) | assumption)
                     obtain ⟨ad137, e137, hx137_0⟩ := Kd.at_int HR133_0.out 1 p137 q137
                     have hw137_0 := hx137_0
                     (try rw [show ((1 : Int)).toNat = 1 from rfl] at hw137_0)
                     (try rw [show 1 * 1 = 1 from rfl] at hw137_0)
                     (try simp only [Nat.reduceMul, Nat.reduceEqDiff, Go.Addr.add, ↓reduceIte] at hw137_0)
                     obtain rfl : ad135 = ad137 := (by injection e137)
                     (try simp only [show (1 : Int).toNat = 1 from rfl, Nat.reduceMul, Nat.reduceEqDiff, Go.Addr.add, ↓reduceIte] at hx137_0)
                     have qi137 : (1 < (rd_L1 l1 x22_2).length) = True := eq_true (by omega)
                     (try rw [show ((1 : Int)).toNat = 1 from rfl] at hx137_0)
                     replace hx137_0 := (HB.out.cell (World.block_lt_of_cell? w _ hx137_0)).trans hx137_0
                     replace p137 := eq_true p137
                     replace q137 := eq_true q137
                     have p138 : 0 ≤ (2 : Int) := (by omega)
                     have q138 : 2 < ((rd_L1 l1 x22_2).length : Int) := of_decide_eq_true (by first | (with_reducible assumption) | assumption)
                     obtain ⟨ad138, e138, hx138_0⟩ := Kd.at_int HR133_0.out 2 p138 q138
                     have hw138_0 := hx138_0
                     (try rw [show ((2 : Int)).toNat = 2 from rfl] at hw138_0)
                     (try rw [show 2 * 1 = 2 from rfl] at hw138_0)
                     (try simp only [Nat.reduceMul, Nat.reduceEqDiff, Go.Addr.add, ↓reduceIte] at hw138_0)
                     obtain rfl : ad135 = ad138 := (by injection e138)
                     (try simp only [show (2 : Int).toNat = 2 from rfl, Nat.reduceMul, Nat.reduceEqDiff, Go.Addr.add, ↓reduceIte] at hx138_0)
                     have qi138 : (2 < (rd_L1 l1 x22_2).length) = True := eq_true (by omega)
                     (try rw [show ((2 : Int)).toNat = 2 from rfl] at hx138_0)
                     replace hx138_0 := (HB.out.cell (World.block_lt_of_cell? w _ hx138_0)).trans hx138_0
                     replace p138 := eq_true p138
                     replace q138 := eq_true q138
                     have p139 : 0 ≤ (0 : Int) := (by omega)
                     have q139 : 0 < ((rd_L1 l1 x22_2).length : Int) := of_decide_eq_true (by first | (with_reducible assumption) | assumption)
                     obtain ⟨ad139, e139, hx139_0⟩ := Kd.at_int HR133_0.out 0 p139 q139
                     have hw139_0 := hx139_0
                     (try rw [show ((0 : Int)).toNat = 0 from rfl] at hw139_0)
                     (try rw [show 0 * 1 = 0 from rfl] at hw139_0)
                     (try rw [Addr.add_zero'] at hw139_0)
                     obtain rfl : ad135 = ad139 := (by injection e139)
                     have qi139 : (0 < (rd_L1 l1 x22_2).length) = True := eq_true (by omega)
                     (try rw [show ((0 : Int)).toNat = 0 from rfl] at hx139_0)
                     (try rw [Addr.add_zero'] at hx139_0)
                     replace hx139_0 := (HB.out.cell (World.block_lt_of_cell? w _ hx139_0)).trans hx139_0
                     replace p139 := eq_true p139
                     replace q139 := eq_true q139
                     have p140 : 0 ≤ (1 : Int) := (by omega)
                     have q140 : 1 < ((rd_L1 l1 x22_2).length : Int) := of_decide_eq_true (by first | (with_reducible assumption) | assumption)
                     obtain ⟨ad140, e140, hx140_0⟩ := Kd.at_int HR133_0.out 1 p140 q140
                     have hw140_0 := hx140_0
                     (try rw [show ((1 : Int)).toNat = 1 from rfl] at hw140_0)
                     (try rw [show 1 * 1 = 1 from rfl] at hw140_0)
                     (try simp only [Nat.reduceMul, Nat.reduceEqDiff, Go.Addr.add, ↓reduceIte] at hw140_0)
                     obtain rfl : ad135 = ad140 := (by injection e140)
                     (try simp only [show (1 : Int).toNat = 1 from rfl, Nat.reduceMul, Nat.reduceEqDiff, Go.Addr.add, ↓reduceIte] at hx140_0)
                     have qi140 : (1 < (rd_L1 l1 x22_2).length) = True := eq_true (by omega)
                     (try rw [show ((1 : Int)).toNat = 1 from rfl] at hx140_0)
                     replace hx140_0 := (HB.out.cell (World.block_lt_of_cell? w _ hx140_0)).trans hx140_0
                     replace p140 := eq_true p140
                     replace q140 := eq_true q140
                     have p141 : 0 ≤ (2 : Int) := (by omega)
                     have q141 : 2 < ((rd_L1 l1 x22_2).length : Int) := of_decide_eq_true (by first | (with_reducible assumption) | assumption)
                     obtain ⟨ad141, e141, hx141_0⟩ := Kd.at_int HR133_0.out 2 p141 q141
                     have hw141_0 := hx141_0
                     (try rw [show ((2 : Int)).toNat = 2 from rfl] at hw141_0)
                     (try rw [show 2 * 1 = 2 from rfl] at hw141_0)
                     (try simp only [Nat.reduceMul, Nat.reduceEqDiff, Go.Addr.add, ↓reduceIte] at hw141_0)
                     obtain rfl : ad135 = ad141 := (by injection e141)
                     (try simp only [show (2 : Int).toNat = 2 from rfl, Nat.reduceMul, Nat.reduceEqDiff, Go.Addr.add, ↓reduceIte] at hx141_0)
                     have qi141 : (2 < (rd_L1 l1 x22_2).length) = True := eq_true (by omega)
                     (try rw [show ((2 : Int)).toNat = 2 from rfl] at hx141_0)
                     replace hx141_0 := (HB.out.cell (World.block_lt_of_cell? w _ hx141_0)).trans hx141_0
                     replace p141 := eq_true p141
                     replace q141 := eq_true q141
                     have p142 : 0 ≤ ((ji22) : Int) := of_decide_eq_true (by first | (with_reducible assumption) | assumption)
                     have q142 : (ji22) < (l1.length : Int) := of_decide_eq_true (by first | (with_reducible assumption) | assumption)
                     obtain ⟨ad142, A142_0, c142_0, e142, hx142_0, hl142_0, hi142_0⟩ := at_L1 HR1.out (ji22) p142 q142
                     have hw142_0 := hx142_0
                     obtain rfl : ad133 = ad142 := (by injection e142)
                     replace hx142_0 := (HB.out.cell (World.block_lt_of_cell? w _ hx142_0)).trans hx142_0
                     have HR142_0 := Aside0.mk hi142_0
                     have HC142_0 := Aside0.mk hl142_0
                     clear hi142_0 hl142_0
                     replace p142 := eq_true p142
                     replace q142 := eq_true q142
                     refine start_ (n := 70) (S := fun w' => w'.cell? ad135 = some (.int .i64 (rd (rd_L1 l1 x22_2) 0)) ∧ w'.cell? ⟨ad135.block, ad135.off + 1, none⟩ = some (.int .i64 (rd (rd_L1 l1 x22_2) 1)) ∧ w'.cell? ⟨ad135.block, ad135.off + 1, none⟩ = some (.int .i64 (rd (rd_L1 l1 x22_2) 1)) ∧ w'.cell? ⟨ad135.block, ad135.off + 2, none⟩ = some (.int .i64 (rd (rd_L1 l1 x22_2) 2)) ∧ w'.cell? ad135 = some (.int .i64 (rd (rd_L1 l1 x22_2) 0)) ∧ w'.cell? ⟨ad135.block, ad135.off + 1, none⟩ = some (.int .i64 (rd (rd_L1 l1 x22_2) 1)) ∧ w'.cell? ⟨ad135.block, ad135.off + 2, none⟩ = some (.int .i64 (rd (rd_L1 l1 x22_2) 2)) ∧ w'.cell? (ad133.add ((ji22)).toNat) = some (.slice A142_0 (rd_L1 l1 (ji22)).length c142_0)) (ds := []) (mb 70 0) (by kernel_rfl) rfl rfl ⟨((HB.out.cell (World.block_lt_of_cell? w _ hw135_0)).trans hw135_0), ((HB.out.cell (World.block_lt_of_cell? w _ hw136_0)).trans hw136_0), ((HB.out.cell (World.block_lt_of_cell? w _ hw137_0)).trans hw137_0), ((HB.out.cell (World.block_lt_of_cell? w _ hw138_0)).trans hw138_0), ((HB.out.cell (World.block_lt_of_cell? w _ hw139_0)).trans hw139_0), ((HB.out.cell (World.block_lt_of_cell? w _ hw140_0)).trans hw140_0), ((HB.out.cell (World.block_lt_of_cell? w _ hw141_0)).trans hw141_0), ((HB.out.cell (World.block_lt_of_cell? w _ hw142_0)).trans hw142_0)⟩ (fun hHeld => ?_); refine with_tabW spec_trDifferences.tab7 spec_trDifferences.bits7 (fun HT_ HW_ => ?_)
                     generalize wr.drew = w27 at HB HR142_0 hx135_0 hx136_0 hx137_0 hx138_0 hx139_0 hx140_0 hx141_0 hx142_0 hHeld ⊢
                     refine pureV 0 27 70 1 HT_ ?_
                     refine pureV 1 28 70 3 HT_ ?_
                     refine pureV 2 29 70 7 HT_ ?_
                     refine pureV 3 30 70 15 HT_ ?_
                     refine pureV 4 31 70 31 HT_ ?_
                     refine pureV 5 32 70 63 HT_ ?_
                     refine pureV 6 33 70 127 HT_ ?_
                     refine one_ (i := 7) (N := some 34) (mb 70 255) rfl rfl (one_of HT_.out (by kernel_rfl)) (by decide) (fun K hK => ?_)
                     refine goes_ Try.func43 (by kernel_rfl) rfl #[.slice (some ad135) (rd_L1 l1 x22_2).length c133_0, .int .i64 1, .int .i64 (wrap64 (3 * (l1.length : Int)))] (by rfl) rfl rfl (by (try simp only [List.map_toArray, List.map_cons, List.map_nil]); first | done | rfl | (simp only [List.length_drop, List.length_take]; rfl)) ?_
                     with_reducible refine (spec_l1All.calls k2 _ _ (rd_L1 l1 x22_2) 1 (wrap64 (3 * (l1.length : Int))) true _ ?side1 ?side2 A11.out).mono ?_
                     (case side1 => repeat (first | exact (Kd.C_below HR133_0.out HB.out) | (with_reducible refine Kd.C_alloc ?_ _) | (with_reducible refine Kd.C_drewN ?_ _) | (with_reducible refine Kd.C_drew ?_)))
                     (case side2 => exact HC133_0.out)
                     rintro e w' ⟨rfl, ⟨nd, rfl⟩⟩
                     refine ⟨_, rfl, ?_⟩
                     refine hK.out _ _ ⟨((HB.out.cell (World.block_lt_of_cell? w _ hw135_0)).trans hw135_0), ((HB.out.cell (World.block_lt_of_cell? w _ hw136_0)).trans hw136_0), ((HB.out.cell (World.block_lt_of_cell? w _ hw137_0)).trans hw137_0), ((HB.out.cell (World.block_lt_of_cell? w _ hw138_0)).trans hw138_0), ((HB.out.cell (World.block_lt_of_cell? w _ hw139_0)).trans hw139_0), ((HB.out.cell (World.block_lt_of_cell? w _ hw140_0)).trans hw140_0), ((HB.out.cell (World.block_lt_of_cell? w _ hw141_0)).trans hw141_0), ((HB.out.cell (World.block_lt_of_cell? w _ hw142_0)).trans hw142_0)⟩ (fun hHeld => ?_)
                     clear hK K
                     refine norm_ (a' := ?_) ?_ ?_
                     rotate_left
                     ·show Act.put _ (some 34) _ = _
                      simp only [Act.put, List.setIfInBounds_toArray, List.set_cons_zero, List.set_cons_succ, i64_w, i32_w]
                      rfl
                     refine pureV 8 35 70 511 HT_ ?_
                     refine pureV 9 36 70 1023 HT_ ?_
                     refine pureV 10 37 70 2047 HT_ ?_
                     refine pureV 11 38 70 4095 HT_ ?_
                     refine pureV 12 39 70 8191 HT_ ?_
                     refine pureV 14 41 70 24575 HT_ ?_
                     refine pureV 15 42 70 57343 HT_ ?_
                     refine takeV 13 40 70 65535 HT_ HW_ hHeld rfl (by rintro w' ⟨s0, s1, s2, s3, s4, s5, s6, s7⟩; go_simp; with_reducible rfl) ?_
                     refine takeV 16 43 70 131071 HT_ HW_ hHeld rfl (by rintro w' ⟨s0, s1, s2, s3, s4, s5, s6, s7⟩; go_simp; with_reducible rfl) ?_
                     refine pureV 17 44 70 262143 HT_ ?_
                     refine pureV 18 45 70 524287 HT_ ?_
                     refine pureV 19 46 70 1048575 HT_ ?_
                     refine pureV 20 47 70 2097151 HT_ ?_
                     refine pureV 21 48 70 4194303 HT_ ?_
                     refine pureV 23 50 70 12582911 HT_ ?_
                     refine pureV 24 51 70 29360127 HT_ ?_
                     refine takeV 22 49 70 33554431 HT_ HW_ hHeld rfl (by rintro w' ⟨s0, s1, s2, s3, s4, s5, s6, s7⟩; go_simp; with_reducible rfl) ?_
                     refine takeV 25 52 70 67108863 HT_ HW_ hHeld rfl (by rintro w' ⟨s0, s1, s2, s3, s4, s5, s6, s7⟩; go_simp; with_reducible rfl) ?_
                     refine pureV 26 53 70 134217727 HT_ ?_
                     refine pureV 27 54 70 268435455 HT_ ?_
                     refine pureV 28 55 70 536870911 HT_ ?_
                     refine pureV 29 56 70 1073741823 HT_ ?_
                     refine pureV 30 57 70 2147483647 HT_ ?_
                     refine pureV 32 59 70 6442450943 HT_ ?_
                     refine pureV 33 60 70 15032385535 HT_ ?_
                     refine pureV 36 63 70 83751862271 HT_ ?_
                     refine pureV 37 64 70 221190815743 HT_ ?_
                     refine takeV 31 58 70 223338299391 HT_ HW_ hHeld rfl (by rintro w' ⟨s0, s1, s2, s3, s4, s5, s6, s7⟩; go_simp; with_reducible rfl) ?_
                     refine takeV 34 61 70 240518168575 HT_ HW_ hHeld rfl (by rintro w' ⟨s0, s1, s2, s3, s4, s5, s6, s7⟩; go_simp; with_reducible rfl) ?_
                     refine pureV 35 62 70 274877906943 HT_ ?_
                     refine takeV 38 65 70 549755813887 HT_ HW_ hHeld rfl (by rintro w' ⟨s0, s1, s2, s3, s4, s5, s6, s7⟩; go_simp; with_reducible rfl) ?_
                     refine pureV 39 66 70 1099511627775 HT_ ?_
                     refine pureV 40 67 70 2199023255551 HT_ ?_
                     refine pureU 41 68 70 4398046511103 HT_ ?_
                     refine pureU 42 69 70 8796093022207 HT_ ?_
                     refine pureU 43 70 70 17592186044415 HT_ ?_
                     refine pureU 44 71 70 35184372088831 HT_ ?_
                     refine pureU 45 72 70 70368744177663 HT_ ?_
                     refine pureU 46 73 70 140737488355327 HT_ ?_
                     refine pureU 47 74 70 281474976710655 HT_ ?_
                     refine pureU 48 75 70 562949953421311 HT_ ?_
                     refine pureU 49 76 70 1125899906842623 HT_ ?_
                     refine pureU 50 77 70 2251799813685247 HT_ ?_
                     refine pureU 51 78 70 4503599627370495 HT_ ?_
                     refine pureU 52 79 70 9007199254740991 HT_ ?_
                     refine pureU 53 80 70 18014398509481983 HT_ ?_
                     refine pureV 54 81 70 36028797018963967 HT_ ?_
                     refine pureV 55 82 70 72057594037927935 HT_ ?_
                     refine pureV 56 83 70 144115188075855871 HT_ ?_
                     refine pureV 57 84 70 288230376151711743 HT_ ?_
                     refine pureV 58 85 70 576460752303423487 HT_ ?_
                     refine pureV 59 86 70 1152921504606846975 HT_ ?_
                     refine pureV 60 87 70 2305843009213693951 HT_ ?_
                     refine pureV 61 88 70 4611686018427387903 HT_ ?_
                     refine pureV 62 89 70 9223372036854775807 HT_ ?_
                     refine pureV 63 90 70 18446744073709551615 HT_ ?_
                     refine pureV 65 92 70 55340232221128654847 HT_ ?_
                     refine takeV 64 91 70 73786976294838206463 HT_ HW_ hHeld rfl (by rintro w' ⟨s0, s1, s2, s3, s4, s5, s6, s7⟩; go_simp; with_reducible rfl) ?_
                     refine one_ (i := 66) (N := some 93) (mb 70 147573952589676412927) rfl rfl (one_of HT_.out (by kernel_rfl)) (by decide) (fun K hK => ?_)
                     refine goes_ Try.func44 (by kernel_rfl) rfl #[.slice A142_0 (rd_L1 l1 (ji22)).length c142_0, .slice (some ad135) (rd_L1 l1 x22_2).length c133_0] (by rfl) rfl rfl (by (try simp only [List.map_toArray, List.map_cons, List.map_nil]); first | done | (simp only [hji22]; rfl) | rfl | (simp only [List.length_drop, List.length_take]; rfl)) ?_
                     with_reducible refine (spec_trLess.calls k2 _ _ (rd_L1 l1 (ji22)) _ _ (rd_L1 l1 x22_2) true _ ?side1 ?side2 ?side3 ?side4 A25.out).mono ?_
                     (case side1 => repeat (first | exact (Kd.C_below HR142_0.out (by repeat (first | (with_reducible first | exact HB.out | apply below_alloc | apply pw_below_drewN | apply below_drew1) | exact HB.out))) | (with_reducible refine Kd.C_alloc ?_ _) | (with_reducible refine Kd.C_drewN ?_ _) | (with_reducible refine Kd.C_drew ?_)))
                     (case side2 => exact HC142_0.out)
                     (case side3 => repeat (first | exact (Kd.C_below HR133_0.out (by repeat (first | (with_reducible first | exact HB.out | apply below_alloc | apply pw_below_drewN | apply below_drew1) | exact HB.out))) | (with_reducible refine Kd.C_alloc ?_ _) | (with_reducible refine Kd.C_drewN ?_ _) | (with_reducible refine Kd.C_drew ?_)))
                     (case side4 => exact HC133_0.out)
                     rintro e w' ⟨rfl, ⟨nd, rfl⟩⟩
                     refine ⟨_, rfl, ?_⟩
                     refine hK.out _ _ ⟨((HB.out.cell (World.block_lt_of_cell? w _ hw135_0)).trans hw135_0), ((HB.out.cell (World.block_lt_of_cell? w _ hw136_0)).trans hw136_0), ((HB.out.cell (World.block_lt_of_cell? w _ hw137_0)).trans hw137_0), ((HB.out.cell (World.block_lt_of_cell? w _ hw138_0)).trans hw138_0), ((HB.out.cell (World.block_lt_of_cell? w _ hw139_0)).trans hw139_0), ((HB.out.cell (World.block_lt_of_cell? w _ hw140_0)).trans hw140_0), ((HB.out.cell (World.block_lt_of_cell? w _ hw141_0)).trans hw141_0), ((HB.out.cell (World.block_lt_of_cell? w _ hw142_0)).trans hw142_0)⟩ (fun hHeld => ?_)
                     clear hK K
                     refine norm_ (a' := ?_) ?_ ?_
                     rotate_left
                     ·show Act.put _ (some 93) _ = _
                      simp only [Act.put, List.setIfInBounds_toArray, List.set_cons_zero, List.set_cons_succ, i64_w, i32_w]
                      rfl
                     refine pureV 67 94 70 295147905179352825855 HT_ ?_
                     refine pureV 68 95 70 590295810358705651711 HT_ ?_
                     refine pureV 69 96 70 1180591620717411303423 HT_ ?_
                     refine done_ (done_of HT_.out (by kernel_rfl)) ?_
                     try go_wp2
                     go_roundg k2
                     case measure => have := HJ2.out; have := HK2.out; omega
                     case rel => exact ⟨(wrap64 (x22_2 + 1)), (by first | rfl | (simp; done) | (simp [*]; done)), H', ⟨by have := HJ2.out; have := HK2.out; omega⟩, ⟨by repeat (first | (with_reducible first | exact HB.out | apply below_alloc | apply pw_below_drewN | apply below_drew1) | exact HB.out)⟩⟩
                    ·replace c26 := Bool.eq_false_iff.mpr c26
                     subst c26
                     have H1 : (some false) = some r := by rw [if_neg (show ¬ (false = true) by decide)] at H; exact H
                     clear H
                     have H := H1
                     clear H1
                     obtain rfl := Option.some.inj H
                     have p133 : 0 ≤ (x22_2 : Int) := of_decide_eq_true (by first | (with_reducible assumption) | assumption)
                     have q133 : x22_2 < (l1.length : Int) := of_decide_eq_true (by first | (with_reducible assumption) | assumption)
                     obtain ⟨ad133, A133_0, c133_0, e133, hx133_0, hl133_0, hi133_0⟩ := at_L1 HR1.out x22_2 p133 q133
                     cases e133
                     replace hx133_0 := (HB.out.cell (World.block_lt_of_cell? w _ hx133_0)).trans hx133_0
                     have HR133_0 := Aside0.mk hi133_0
                     have HC133_0 := Aside0.mk hl133_0
                     clear hi133_0 hl133_0
                     replace p133 := eq_true p133
                     replace q133 := eq_true q133
                     try go_wp2
                     have n0_ := Aside0.mk (below_drew1 HB.out)
                     clear HB
                     have HB := n0_
                     clear n0_
                     have p135 : 0 ≤ (0 : Int) := (by omega)
                     have q135 : 0 < ((rd_L1 l1 x22_2).length : Int) := of_decide_eq_true (by first | (with_reducible assumption) | assumption)
                     obtain ⟨ad135, e135, hx135_0⟩ := Kd.at_int HR133_0.out 0 p135 q135
                     have hw135_0 := hx135_0
                     (try rw [show ((0 : Int)).toNat = 0 from rfl] at hw135_0)
                     (try rw [show 0 * 1 = 0 from rfl] at hw135_0)
                     (try rw [Addr.add_zero'] at hw135_0)
                     cases e135
                     have qi135 : (0 < (rd_L1 l1 x22_2).length) = True := eq_true (by omega)
                     (try rw [show ((0 : Int)).toNat = 0 from rfl] at hx135_0)
                     (try rw [Addr.add_zero'] at hx135_0)
                     replace hx135_0 := (HB.out.cell (World.block_lt_of_cell? w _ hx135_0)).trans hx135_0
                     replace p135 := eq_true p135
                     replace q135 := eq_true q135
                     have p136 : 0 ≤ (1 : Int) := (by omega)
                     have q136 : 1 < ((rd_L1 l1 x22_2).length : Int) := of_decide_eq_true (by first | (with_reducible assumption) | assumption)
                     obtain ⟨ad136, e136, hx136_0⟩ := Kd.at_int HR133_0.out 1 p136 q136
                     have hw136_0 := hx136_0
                     (try rw [show ((1 : Int)).toNat = 1 from rfl] at hw136_0)
                     (try rw [show 1 * 1 = 1 from rfl] at hw136_0)
                     (try simp only [Nat.reduceMul, Nat.reduceEqDiff, Go.Addr.add, ↓reduceIte] at hw136_0)
                     obtain rfl : ad135 = ad136 := (by injection e136)
                     (try simp only [show (1 : Int).toNat = 1 from rfl, Nat.reduceMul, Nat.reduceEqDiff, Go.Addr.add, ↓reduceIte] at hx136_0)
                     have qi136 : (1 < (rd_L1 l1 x22_2).length) = True := eq_true (by omega)
                     (try rw [show ((1 : Int)).toNat = 1 from rfl] at hx136_0)
                     replace hx136_0 := (HB.out.cell (World.block_lt_of_cell? w _ hx136_0)).trans hx136_0
                     replace p136 := eq_true p136
                     replace q136 := eq_true q136
                     have p137 : 0 ≤ (1 : Int) := (by omega)
                     have q137 : 1 < ((rd_L1 l1 x22_2).length : Int) := of_decide_eq_true (by first | (with_reducible assumption) | assumption)
                     obtain ⟨ad137, e137, hx137_0⟩ := Kd.at_int HR133_0.out 1 p137 q137
                     have hw137_0 := hx137_0
                     (try rw [show ((1 : Int)).toNat = 1 from rfl] at hw137_0)
                     (try rw [show 1 * 1 = 1 from rfl] at hw137_0)
                     (try simp only [Nat.reduceMul, Nat.reduceEqDiff, Go.Addr.add, ↓reduceIte] at hw137_0)
                     obtain rfl : ad135 = ad137 := (by injection e137)
                     (try simp only [show (1 : Int).toNat = 1 from rfl, Nat.reduceMul, Nat.reduceEqDiff, Go.Addr.add, ↓reduceIte] at hx137_0)
                     have qi137 : (1 < (rd_L1 l1 x22_2).length) = True := eq_true (by omega)
                     (try rw [show ((1 : Int)).toNat = 1 from rfl] at hx137_0)
                     replace hx137_0 := (HB.out.cell (World.block_lt_of_cell? w _ hx137_0)).trans hx137_0
                     replace p137 := eq_true p137
                     replace q137 := eq_true q137
                     have p138 : 0 ≤ (2 : Int) := (by omega)
                     have q138 : 2 < ((rd_L1 l1 x22_2).length : Int) := of_decide_eq_true (by first | (with_reducible assumption) | assumption)
                     obtain ⟨ad138, e138, hx138_0⟩ := Kd.at_int HR133_0.out 2 p138 q138
                     have hw138_0 := hx138_0
                     (try rw [show ((2 : Int)).toNat = 2 from rfl] at hw138_0)
                     (try rw [show 2 * 1 = 2 from rfl] at hw138_0)
                     (try simp only [Nat.reduceMul, Nat.reduceEqDiff, Go.Addr.add, ↓reduceIte] at hw138_0)
                     obtain rfl : ad135 = ad138 := (by injection e138)
                     (try simp only [show (2 : Int).toNat = 2 from rfl, Nat.reduceMul, Nat.reduceEqDiff, Go.Addr.add, ↓reduceIte] at hx138_0)
                     have qi138 : (2 < (rd_L1 l1 x22_2).length) = True := eq_true (by omega)
                     (try rw [show ((2 : Int)).toNat = 2 from rfl] at hx138_0)
                     replace hx138_0 := (HB.out.cell (World.block_lt_of_cell? w _ hx138_0)).trans hx138_0
                     replace p138 := eq_true p138
                     replace q138 := eq_true q138
                     have p139 : 0 ≤ (0 : Int) := (by omega)
                     have q139 : 0 < ((rd_L1 l1 x22_2).length : Int) := of_decide_eq_true (by first | (with_reducible assumption) | assumption)
                     obtain ⟨ad139, e139, hx139_0⟩ := Kd.at_int HR133_0.out 0 p139 q139
                     have hw139_0 := hx139_0
                     (try rw [show ((0 : Int)).toNat = 0 from rfl] at hw139_0)
                     (try rw [show 0 * 1 = 0 from rfl] at hw139_0)
                     (try rw [Addr.add_zero'] at hw139_0)
                     obtain rfl : ad135 = ad139 := (by injection e139)
                     have qi139 : (0 < (rd_L1 l1 x22_2).length) = True := eq_true (by omega)
                     (try rw [show ((0 : Int)).toNat = 0 from rfl] at hx139_0)
                     (try rw [Addr.add_zero'] at hx139_0)
                     replace hx139_0 := (HB.out.cell (World.block_lt_of_cell? w _ hx139_0)).trans hx139_0
                     replace p139 := eq_true p139
                     replace q139 := eq_true q139
                     have p140 : 0 ≤ (1 : Int) := (by omega)
                     have q140 : 1 < ((rd_L1 l1 x22_2).length : Int) := of_decide_eq_true (by first | (with_reducible assumption) | assumption)
                     obtain ⟨ad140, e140, hx140_0⟩ := Kd.at_int HR133_0.out 1 p140 q140
                     have hw140_0 := hx140_0
                     (try rw [show ((1 : Int)).toNat = 1 from rfl] at hw140_0)
                     (try rw [show 1 * 1 = 1 from rfl] at hw140_0)
                     (try simp only [Nat.reduceMul, Nat.reduceEqDiff, Go.Addr.add, ↓reduceIte] at hw140_0)
                     obtain rfl : ad135 = ad140 := (by injection e140)
                     (try simp only [show (1 : Int).toNat = 1 from rfl, Nat.reduceMul, Nat.reduceEqDiff, Go.Addr.add, ↓reduceIte] at hx140_0)
                     have qi140 : (1 < (rd_L1 l1 x22_2).length) = True := eq_true (by omega)
                     (try rw [show ((1 : Int)).toNat = 1 from rfl] at hx140_0)
                     replace hx140_0 := (HB.out.cell (World.block_lt_of_cell? w _ hx140_0)).trans hx140_0
                     replace p140 := eq_true p140
                     replace q140 := eq_true q140
                     have p141 : 0 ≤ (2 : Int) := (by omega)
                     have q141 : 2 < ((rd_L1 l1 x22_2).length : Int) := of_decide_eq_true (by first | (with_reducible assumption) | assumption)
                     obtain ⟨ad141, e141, hx141_0⟩ := Kd.at_int HR133_0.out 2 p141 q141
                     have hw141_0 := hx141_0
                     (try rw [show ((2 : Int)).toNat = 2 from rfl] at hw141_0)
                     (try rw [show 2 * 1 = 2 from rfl] at hw141_0)
                     (try simp only [Nat.reduceMul, Nat.reduceEqDiff, Go.Addr.add, ↓reduceIte] at hw141_0)
                     obtain rfl : ad135 = ad141 := (by injection e141)
                     (try simp only [show (2 : Int).toNat = 2 from rfl, Nat.reduceMul, Nat.reduceEqDiff, Go.Addr.add, ↓reduceIte] at hx141_0)
                     have qi141 : (2 < (rd_L1 l1 x22_2).length) = True := eq_true (by omega)
                     (try rw [show ((2 : Int)).toNat = 2 from rfl] at hx141_0)
                     replace hx141_0 := (HB.out.cell (World.block_lt_of_cell? w _ hx141_0)).trans hx141_0
                     replace p141 := eq_true p141
                     replace q141 := eq_true q141
                     have p142 : 0 ≤ ((ji22) : Int) := of_decide_eq_true (by first | (with_reducible assumption) | assumption)
                     have q142 : (ji22) < (l1.length : Int) := of_decide_eq_true (by first | (with_reducible assumption) | assumption)
                     obtain ⟨ad142, A142_0, c142_0, e142, hx142_0, hl142_0, hi142_0⟩ := at_L1 HR1.out (ji22) p142 q142
                     have hw142_0 := hx142_0
                     obtain rfl : ad133 = ad142 := (by injection e142)
                     replace hx142_0 := (HB.out.cell (World.block_lt_of_cell? w _ hx142_0)).trans hx142_0
                     have HR142_0 := Aside0.mk hi142_0
                     have HC142_0 := Aside0.mk hl142_0
                     clear hi142_0 hl142_0
                     replace p142 := eq_true p142
                     replace q142 := eq_true q142
                     refine start_ (n := 70) (S := fun w' => w'.cell? ad135 = some (.int .i64 (rd (rd_L1 l1 x22_2) 0)) ∧ w'.cell? ⟨ad135.block, ad135.off + 1, none⟩ = some (.int .i64 (rd (rd_L1 l1 x22_2) 1)) ∧ w'.cell? ⟨ad135.block, ad135.off + 1, none⟩ = some (.int .i64 (rd (rd_L1 l1 x22_2) 1)) ∧ w'.cell? ⟨ad135.block, ad135.off + 2, none⟩ = some (.int .i64 (rd (rd_L1 l1 x22_2) 2)) ∧ w'.cell? ad135 = some (.int .i64 (rd (rd_L1 l1 x22_2) 0)) ∧ w'.cell? ⟨ad135.block, ad135.off + 1, none⟩ = some (.int .i64 (rd (rd_L1 l1 x22_2) 1)) ∧ w'.cell? ⟨ad135.block, ad135.off + 2, none⟩ = some (.int .i64 (rd (rd_L1 l1 x22_2) 2)) ∧ w'.cell? (ad133.add ((ji22)).toNat) = some (.slice A142_0 (rd_L1 l1 (ji22)).length c142_0)) (ds := []) (mb 70 0) (by kernel_rfl) rfl rfl ⟨((HB.out.cell (World.block_lt_of_cell? w _ hw135_0)).trans hw135_0), ((HB.out.cell (World.block_lt_of_cell? w _ hw136_0)).trans hw136_0), ((HB.out.cell (World.block_lt_of_cell? w _ hw137_0)).trans hw137_0), ((HB.out.cell (World.block_lt_of_cell? w _ hw138_0)).trans hw138_0), ((HB.out.cell (World.block_lt_of_cell? w _ hw139_0)).trans hw139_0), ((HB.out.cell (World.block_lt_of_cell? w _ hw140_0)).trans hw140_0), ((HB.out.cell (World.block_lt_of_cell? w _ hw141_0)).trans hw141_0), ((HB.out.cell (World.block_lt_of_cell? w _ hw142_0)).trans hw142_0)⟩ (fun hHeld => ?_); refine with_tabW spec_trDifferences.tab7 spec_trDifferences.bits7 (fun HT_ HW_ => ?_)
                     generalize wr.drew = w28 at HB HR142_0 hx135_0 hx136_0 hx137_0 hx138_0 hx139_0 hx140_0 hx141_0 hx142_0 hHeld ⊢
                     refine pureV 0 27 70 1 HT_ ?_
                     refine pureV 1 28 70 3 HT_ ?_
                     refine pureV 2 29 70 7 HT_ ?_
                     refine pureV 3 30 70 15 HT_ ?_
                     refine pureV 4 31 70 31 HT_ ?_
                     refine pureV 5 32 70 63 HT_ ?_
                     refine pureV 6 33 70 127 HT_ ?_
                     refine one_ (i := 7) (N := some 34) (mb 70 255) rfl rfl (one_of HT_.out (by kernel_rfl)) (by decide) (fun K hK => ?_)
                     refine goes_ Try.func43 (by kernel_rfl) rfl #[.slice (some ad135) (rd_L1 l1 x22_2).length c133_0, .int .i64 1, .int .i64 (wrap64 (3 * (l1.length : Int)))] (by rfl) rfl rfl (by (try simp only [List.map_toArray, List.map_cons, List.map_nil]); first | done | rfl | (simp only [List.length_drop, List.length_take]; rfl)) ?_
                     with_reducible refine (spec_l1All.calls k2 _ _ (rd_L1 l1 x22_2) 1 (wrap64 (3 * (l1.length : Int))) true _ ?side1 ?side2 A11.out).mono ?_
                     (case side1 => repeat (first | exact (Kd.C_below HR133_0.out HB.out) | (with_reducible refine Kd.C_alloc ?_ _) | (with_reducible refine Kd.C_drewN ?_ _) | (with_reducible refine Kd.C_drew ?_)))
                     (case side2 => exact HC133_0.out)
                     rintro e w' ⟨rfl, ⟨nd, rfl⟩⟩
                     refine ⟨_, rfl, ?_⟩
                     refine hK.out _ _ ⟨((HB.out.cell (World.block_lt_of_cell? w _ hw135_0)).trans hw135_0), ((HB.out.cell (World.block_lt_of_cell? w _ hw136_0)).trans hw136_0), ((HB.out.cell (World.block_lt_of_cell? w _ hw137_0)).trans hw137_0), ((HB.out.cell (World.block_lt_of_cell? w _ hw138_0)).trans hw138_0), ((HB.out.cell (World.block_lt_of_cell? w _ hw139_0)).trans hw139_0), ((HB.out.cell (World.block_lt_of_cell? w _ hw140_0)).trans hw140_0), ((HB.out.cell (World.block_lt_of_cell? w _ hw141_0)).trans hw141_0), ((HB.out.cell (World.block_lt_of_cell? w _ hw142_0)).trans hw142_0)⟩ (fun hHeld => ?_)
                     clear hK K
                     refine norm_ (a' := ?_) ?_ ?_
                     rotate_left
                     ·show Act.put _ (some 34) _ = _
                      simp only [Act.put, List.setIfInBounds_toArray, List.set_cons_zero, List.set_cons_succ, i64_w, i32_w]
                      rfl
                     refine pureV 8 35 70 511 HT_ ?_
                     refine pureV 9 36 70 1023 HT_ ?_
                     refine pureV 10 37 70 2047 HT_ ?_
                     refine pureV 11 38 70 4095 HT_ ?_
                     refine pureV 12 39 70 8191 HT_ ?_
                     refine pureV 14 41 70 24575 HT_ ?_
                     refine pureV 15 42 70 57343 HT_ ?_
                     refine takeV 13 40 70 65535 HT_ HW_ hHeld rfl (by rintro w' ⟨s0, s1, s2, s3, s4, s5, s6, s7⟩; go_simp; with_reducible rfl) ?_
                     refine takeV 16 43 70 131071 HT_ HW_ hHeld rfl (by rintro w' ⟨s0, s1, s2, s3, s4, s5, s6, s7⟩; go_simp; with_reducible rfl) ?_
                     refine pureV 17 44 70 262143 HT_ ?_
                     refine pureV 18 45 70 524287 HT_ ?_
                     refine pureV 19 46 70 1048575 HT_ ?_
                     refine pureV 20 47 70 2097151 HT_ ?_
                     refine pureV 21 48 70 4194303 HT_ ?_
                     refine pureV 23 50 70 12582911 HT_ ?_
                     refine pureV 24 51 70 29360127 HT_ ?_
                     refine takeV 22 49 70 33554431 HT_ HW_ hHeld rfl (by rintro w' ⟨s0, s1, s2, s3, s4, s5, s6, s7⟩; go_simp; with_reducible rfl) ?_
                     refine takeV 25 52 70 67108863 HT_ HW_ hHeld rfl (by rintro w' ⟨s0, s1, s2, s3, s4, s5, s6, s7⟩; go_simp; with_reducible rfl) ?_
                     refine pureV 26 53 70 134217727 HT_ ?_
                     refine pureV 27 54 70 268435455 HT_ ?_
                     refine pureV 28 55 70 536870911 HT_ ?_
                     refine pureV 29 56 70 1073741823 HT_ ?_
                     refine pureV 30 57 70 2147483647 HT_ ?_
                     refine pureV 32 59 70 6442450943 HT_ ?_
                     refine pureV 33 60 70 15032385535 HT_ ?_
                     refine pureV 36 63 70 83751862271 HT_ ?_
                     refine pureV 37 64 70 221190815743 HT_ ?_
                     refine takeV 31 58 70 223338299391 HT_ HW_ hHeld rfl (by rintro w' ⟨s0, s1, s2, s3, s4, s5, s6, s7⟩; go_simp; with_reducible rfl) ?_
                     refine takeV 34 61 70 240518168575 HT_ HW_ hHeld rfl (by rintro w' ⟨s0, s1, s2, s3, s4, s5, s6, s7⟩; go_simp; with_reducible rfl) ?_
                     refine pureV 35 62 70 274877906943 HT_ ?_
                     refine takeV 38 65 70 549755813887 HT_ HW_ hHeld rfl (by rintro w' ⟨s0, s1, s2, s3, s4, s5, s6, s7⟩; go_simp; with_reducible rfl) ?_
                     refine pureV 39 66 70 1099511627775 HT_ ?_
                     refine pureV 40 67 70 2199023255551 HT_ ?_
                     refine pureU 41 68 70 4398046511103 HT_ ?_
                     refine pureU 42 69 70 8796093022207 HT_ ?_
                     refine pureU 43 70 70 17592186044415 HT_ ?_
                     refine pureU 44 71 70 35184372088831 HT_ ?_
                     refine pureU 45 72 70 70368744177663 HT_ ?_
                     refine pureU 46 73 70 140737488355327 HT_ ?_
                     refine pureU 47 74 70 281474976710655 HT_ ?_
                     refine pureU 48 75 70 562949953421311 HT_ ?_
                     refine pureU 49 76 70 1125899906842623 HT_ ?_
                     refine pureU 50 77 70 2251799813685247 HT_ ?_
                     refine pureU 51 78 70 4503599627370495 HT_ ?_
                     refine pureU 52 79 70 9007199254740991 HT_ ?_
                     refine pureU 53 80 70 18014398509481983 HT_ ?_
                     refine pureV 54 81 70 36028797018963967 HT_ ?_
                     refine pureV 55 82 70 72057594037927935 HT_ ?_
                     refine pureV 56 83 70 144115188075855871 HT_ ?_
                     refine pureV 57 84 70 288230376151711743 HT_ ?_
                     refine pureV 58 85 70 576460752303423487 HT_ ?_
                     refine pureV 59 86 70 1152921504606846975 HT_ ?_
                     refine pureV 60 87 70 2305843009213693951 HT_ ?_
                     refine pureV 61 88 70 4611686018427387903 HT_ ?_
                     refine pureV 62 89 70 9223372036854775807 HT_ ?_
                     refine pureV 63 90 70 18446744073709551615 HT_ ?_
                     refine pureV 65 92 70 55340232221128654847 HT_ ?_
                     refine takeV 64 91 70 73786976294838206463 HT_ HW_ hHeld rfl (by rintro w' ⟨s0, s1, s2, s3, s4, s5, s6, s7⟩; go_simp; with_reducible rfl) ?_
                     refine one_ (i := 66) (N := some 93) (mb 70 147573952589676412927) rfl rfl (one_of HT_.out (by kernel_rfl)) (by decide) (fun K hK => ?_)
                     refine goes_ Try.func44 (by kernel_rfl) rfl #[.slice A142_0 (rd_L1 l1 (ji22)).length c142_0, .slice (some ad135) (rd_L1 l1 x22_2).length c133_0] (by rfl) rfl rfl (by (try simp only [List.map_toArray, List.map_cons, List.map_nil]); first | done | (simp only [hji22]; rfl) | rfl | (simp only [List.length_drop, List.length_take]; rfl)) ?_
                     with_reducible refine (spec_trLess.calls k2 _ _ (rd_L1 l1 (ji22)) _ _ (rd_L1 l1 x22_2) false _ ?side1 ?side2 ?side3 ?side4 A25.out).mono ?_
                     (case side1 => repeat (first | exact (Kd.C_below HR142_0.out (by repeat (first | (with_reducible first | exact HB.out | apply below_alloc | apply pw_below_drewN | apply below_drew1) | exact HB.out))) | (with_reducible refine Kd.C_alloc ?_ _) | (with_reducible refine Kd.C_drewN ?_ _) | (with_reducible refine Kd.C_drew ?_)))
                     (case side2 => exact HC142_0.out)
                     (case side3 => repeat (first | exact (Kd.C_below HR133_0.out (by repeat (first | (with_reducible first | exact HB.out | apply below_alloc | apply pw_below_drewN | apply below_drew1) | exact HB.out))) | (with_reducible refine Kd.C_alloc ?_ _) | (with_reducible refine Kd.C_drewN ?_ _) | (with_reducible refine Kd.C_drew ?_)))
                     (case side4 => exact HC133_0.out)
                     rintro e w' ⟨rfl, ⟨nd, rfl⟩⟩
                     refine ⟨_, rfl, ?_⟩
                     refine hK.out _ _ ⟨((HB.out.cell (World.block_lt_of_cell? w _ hw135_0)).trans hw135_0), ((HB.out.cell (World.block_lt_of_cell? w _ hw136_0)).trans hw136_0), ((HB.out.cell (World.block_lt_of_cell? w _ hw137_0)).trans hw137_0), ((HB.out.cell (World.block_lt_of_cell? w _ hw138_0)).trans hw138_0), ((HB.out.cell (World.block_lt_of_cell? w _ hw139_0)).trans hw139_0), ((HB.out.cell (World.block_lt_of_cell? w _ hw140_0)).trans hw140_0), ((HB.out.cell (World.block_lt_of_cell? w _ hw141_0)).trans hw141_0), ((HB.out.cell (World.block_lt_of_cell? w _ hw142_0)).trans hw142_0)⟩ (fun hHeld => ?_)
                     clear hK K
                     refine norm_ (a' := ?_) ?_ ?_
                     rotate_left
                     ·show Act.put _ (some 93) _ = _
                      simp only [Act.put, List.setIfInBounds_toArray, List.set_cons_zero, List.set_cons_succ, i64_w, i32_w]
                      rfl
                     refine pureV 67 94 70 295147905179352825855 HT_ ?_
                     refine pureV 68 95 70 590295810358705651711 HT_ ?_
                     refine pureV 69 96 70 1180591620717411303423 HT_ ?_
                     refine done_ (done_of HT_.out (by kernel_rfl)) ?_
                     try go_wp2
                     go_ret
                     exact ⟨by first | rfl | (simp [errW_none, errW_some] <;> rfl) | (simp only [← hji22]; first | rfl | (simp [errW_none, errW_some] <;> rfl)) | (simp [*, errW_none, errW_some] <;> rfl), by repeat (first | (with_reducible first | exact HB.out | apply below_alloc | apply pw_below_drewN | apply below_drew1) | exact HB.out)⟩
                   ·rw [if_neg c24] at H
                    exact absurd H (by simp)
                  ·rw [if_neg c23] at H
                   exact absurd H (by simp)
                 ·rw [if_neg c21] at H
                  have c21b0 : decide (0 < x22_2) = false := decide_eq_false c21
                  clear c21
                  have H' := Aside0.mk H
                  clear H
                  have p133 : 0 ≤ (x22_2 : Int) := of_decide_eq_true (by first | (with_reducible assumption) | assumption)
                  have q133 : x22_2 < (l1.length : Int) := of_decide_eq_true (by first | (with_reducible assumption) | assumption)
                  obtain ⟨ad133, A133_0, c133_0, e133, hx133_0, hl133_0, hi133_0⟩ := at_L1 HR1.out x22_2 p133 q133
                  cases e133
                  replace hx133_0 := (HB.out.cell (World.block_lt_of_cell? w _ hx133_0)).trans hx133_0
                  have HR133_0 := Aside0.mk hi133_0
                  have HC133_0 := Aside0.mk hl133_0
                  clear hi133_0 hl133_0
                  replace p133 := eq_true p133
                  replace q133 := eq_true q133
                  try go_wp2
                  have n0_ := Aside0.mk (below_drew1 HB.out)
                  clear HB
                  have HB := n0_
                  clear n0_
                  have p135 : 0 ≤ (0 : Int) := (by omega)
                  have q135 : 0 < ((rd_L1 l1 x22_2).length : Int) := of_decide_eq_true (by first | (with_reducible assumption) | assumption)
                  obtain ⟨ad135, e135, hx135_0⟩ := Kd.at_int HR133_0.out 0 p135 q135
                  have hw135_0 := hx135_0
                  (try rw [show ((0 : Int)).toNat = 0 from rfl] at hw135_0)
                  (try rw [show 0 * 1 = 0 from rfl] at hw135_0)
                  (try rw [Addr.add_zero'] at hw135_0)
                  cases e135
                  have qi135 : (0 < (rd_L1 l1 x22_2).length) = True := eq_true (by omega)
                  (try rw [show ((0 : Int)).toNat = 0 from rfl] at hx135_0)
                  (try rw [Addr.add_zero'] at hx135_0)
                  replace hx135_0 := (HB.out.cell (World.block_lt_of_cell? w _ hx135_0)).trans hx135_0
                  replace p135 := eq_true p135
                  replace q135 := eq_true q135
                  have p136 : 0 ≤ (1 : Int) := (by omega)
                  have q136 : 1 < ((rd_L1 l1 x22_2).length : Int) := of_decide_eq_true (by first | (with_reducible assumption) | assumption)
                  obtain ⟨ad136, e136, hx136_0⟩ := Kd.at_int HR133_0.out 1 p136 q136
                  have hw136_0 := hx136_0
                  (try rw [show ((1 : Int)).toNat = 1 from rfl] at hw136_0)
                  (try rw [show 1 * 1 = 1 from rfl] at hw136_0)
                  (try simp only [Nat.reduceMul, Nat.reduceEqDiff, Go.Addr.add, ↓reduceIte] at hw136_0)
                  obtain rfl : ad135 = ad136 := (by injection e136)
                  (try simp only [show (1 : Int).toNat = 1 from rfl, Nat.reduceMul, Nat.reduceEqDiff, Go.Addr.add, ↓reduceIte] at hx136_0)
                  have qi136 : (1 < (rd_L1 l1 x22_2).length) = True := eq_true (by omega)
                  (try rw [show ((1 : Int)).toNat = 1 from rfl] at hx136_0)
                  replace hx136_0 := (HB.out.cell (World.block_lt_of_cell? w _ hx136_0)).trans hx136_0
                  replace p136 := eq_true p136
                  replace q136 := eq_true q136
                  have p137 : 0 ≤ (1 : Int) := (by omega)
                  have q137 : 1 < ((rd_L1 l1 x22_2).length : Int) := of_decide_eq_true (by first | (with_reducible assumption) | assumption)
                  obtain ⟨ad137, e137, hx137_0⟩ := Kd.at_int HR133_0.out 1 p137 q137
                  have hw137_0 := hx137_0
                  (try rw [show ((1 : Int)).toNat = 1 from rfl] at hw137_0)
                  (try rw [show 1 * 1 = 1 from rfl] at hw137_0)
                  (try simp only [Nat.reduceMul, Nat.reduceEqDiff, Go.Addr.add, ↓reduceIte] at hw137_0)
                  obtain rfl : ad135 = ad137 := (by injection e137)
                  (try simp only [show (1 : Int).toNat = 1 from rfl, Nat.reduceMul, Nat.reduceEqDiff, Go.Addr.add, ↓reduceIte] at hx137_0)
                  have qi137 : (1 < (rd_L1 l1 x22_2).length) = True := eq_true (by omega)
                  (try rw [show ((1 : Int)).toNat = 1 from rfl] at hx137_0)
                  replace hx137_0 := (HB.out.cell (World.block_lt_of_cell? w _ hx137_0)).trans hx137_0
                  replace p137 := eq_true p137
                  replace q137 := eq_true q137
                  have p138 : 0 ≤ (2 : Int) := (by omega)
                  have q138 : 2 < ((rd_L1 l1 x22_2).length : Int) := of_decide_eq_true (by first | (with_reducible assumption) | assumption)
                  obtain ⟨ad138, e138, hx138_0⟩ := Kd.at_int HR133_0.out 2 p138 q138
                  have hw138_0 := hx138_0
                  (try rw [show ((2 : Int)).toNat = 2 from rfl] at hw138_0)
                  (try rw [show 2 * 1 = 2 from rfl] at hw138_0)
                  (try simp only [Nat.reduceMul, Nat.reduceEqDiff, Go.Addr.add, ↓reduceIte] at hw138_0)
                  obtain rfl : ad135 = ad138 := (by injection e138)
                  (try simp only [show (2 : Int).toNat = 2 from rfl, Nat.reduceMul, Nat.reduceEqDiff, Go.Addr.add, ↓reduceIte] at hx138_0)
                  have qi138 : (2 < (rd_L1 l1 x22_2).length) = True := eq_true (by omega)
                  (try rw [show ((2 : Int)).toNat = 2 from rfl] at hx138_0)
                  replace hx138_0 := (HB.out.cell (World.block_lt_of_cell? w _ hx138_0)).trans hx138_0
                  replace p138 := eq_true p138
                  replace q138 := eq_true q138
                  have p139 : 0 ≤ (0 : Int) := (by omega)
                  have q139 : 0 < ((rd_L1 l1 x22_2).length : Int) := of_decide_eq_true (by first | (with_reducible assumption) | assumption)
                  obtain ⟨ad139, e139, hx139_0⟩ := Kd.at_int HR133_0.out 0 p139 q139
                  have hw139_0 := hx139_0
                  (try rw [show ((0 : Int)).toNat = 0 from rfl] at hw139_0)
                  (try rw [show 0 * 1 = 0 from rfl] at hw139_0)
                  (try rw [Addr.add_zero'] at hw139_0)
                  obtain rfl : ad135 = ad139 := (by injection e139)
                  have qi139 : (0 < (rd_L1 l1 x22_2).length) = True := eq_true (by omega)
                  (try rw [show ((0 : Int)).toNat = 0 from rfl] at hx139_0)
                  (try rw [Addr.add_zero'] at hx139_0)
                  replace hx139_0 := (HB.out.cell (World.block_lt_of_cell? w _ hx139_0)).trans hx139_0
                  replace p139 := eq_true p139
                  replace q139 := eq_true q139
                  have p140 : 0 ≤ (1 : Int) := (by omega)
                  have q140 : 1 < ((rd_L1 l1 x22_2).length : Int) := of_decide_eq_true (by first | (with_reducible assumption) | assumption)
                  obtain ⟨ad140, e140, hx140_0⟩ := Kd.at_int HR133_0.out 1 p140 q140
                  have hw140_0 := hx140_0
                  (try rw [show ((1 : Int)).toNat = 1 from rfl] at hw140_0)
                  (try rw [show 1 * 1 = 1 from rfl] at hw140_0)
                  (try simp only [Nat.reduceMul, Nat.reduceEqDiff, Go.Addr.add, ↓reduceIte] at hw140_0)
                  obtain rfl : ad135 = ad140 := (by injection e140)
                  (try simp only [show (1 : Int).toNat = 1 from rfl, Nat.reduceMul, Nat.reduceEqDiff, Go.Addr.add, ↓reduceIte] at hx140_0)
                  have qi140 : (1 < (rd_L1 l1 x22_2).length) = True := eq_true (by omega)
                  (try rw [show ((1 : Int)).toNat = 1 from rfl] at hx140_0)
                  replace hx140_0 := (HB.out.cell (World.block_lt_of_cell? w _ hx140_0)).trans hx140_0
                  replace p140 := eq_true p140
                  replace q140 := eq_true q140
                  have p141 : 0 ≤ (2 : Int) := (by omega)
                  have q141 : 2 < ((rd_L1 l1 x22_2).length : Int) := of_decide_eq_true (by first | (with_reducible assumption) | assumption)
                  obtain ⟨ad141, e141, hx141_0⟩ := Kd.at_int HR133_0.out 2 p141 q141
                  have hw141_0 := hx141_0
                  (try rw [show ((2 : Int)).toNat = 2 from rfl] at hw141_0)
                  (try rw [show 2 * 1 = 2 from rfl] at hw141_0)
                  (try simp only [Nat.reduceMul, Nat.reduceEqDiff, Go.Addr.add, ↓reduceIte] at hw141_0)
                  obtain rfl : ad135 = ad141 := (by injection e141)
                  (try simp only [show (2 : Int).toNat = 2 from rfl, Nat.reduceMul, Nat.reduceEqDiff, Go.Addr.add, ↓reduceIte] at hx141_0)
                  have qi141 : (2 < (rd_L1 l1 x22_2).length) = True := eq_true (by omega)
                  (try rw [show ((2 : Int)).toNat = 2 from rfl] at hx141_0)
                  replace hx141_0 := (HB.out.cell (World.block_lt_of_cell? w _ hx141_0)).trans hx141_0
                  replace p141 := eq_true p141
                  replace q141 := eq_true q141
                  refine start_ (n := 70) (S := fun w' => w'.cell? ad135 = some (.int .i64 (rd (rd_L1 l1 x22_2) 0)) ∧ w'.cell? ⟨ad135.block, ad135.off + 1, none⟩ = some (.int .i64 (rd (rd_L1 l1 x22_2) 1)) ∧ w'.cell? ⟨ad135.block, ad135.off + 1, none⟩ = some (.int .i64 (rd (rd_L1 l1 x22_2) 1)) ∧ w'.cell? ⟨ad135.block, ad135.off + 2, none⟩ = some (.int .i64 (rd (rd_L1 l1 x22_2) 2)) ∧ w'.cell? ad135 = some (.int .i64 (rd (rd_L1 l1 x22_2) 0)) ∧ w'.cell? ⟨ad135.block, ad135.off + 1, none⟩ = some (.int .i64 (rd (rd_L1 l1 x22_2) 1)) ∧ w'.cell? ⟨ad135.block, ad135.off + 2, none⟩ = some (.int .i64 (rd (rd_L1 l1 x22_2) 2))) (ds := []) (mb 70 0) (by kernel_rfl) rfl rfl ⟨((HB.out.cell (World.block_lt_of_cell? w _ hw135_0)).trans hw135_0), ((HB.out.cell (World.block_lt_of_cell? w _ hw136_0)).trans hw136_0), ((HB.out.cell (World.block_lt_of_cell? w _ hw137_0)).trans hw137_0), ((HB.out.cell (World.block_lt_of_cell? w _ hw138_0)).trans hw138_0), ((HB.out.cell (World.block_lt_of_cell? w _ hw139_0)).trans hw139_0), ((HB.out.cell (World.block_lt_of_cell? w _ hw140_0)).trans hw140_0), ((HB.out.cell (World.block_lt_of_cell? w _ hw141_0)).trans hw141_0)⟩ (fun hHeld => ?_); refine with_tabW spec_trDifferences.tab7 spec_trDifferences.bits7 (fun HT_ HW_ => ?_)
                  generalize wr.drew = w29 at HB hx135_0 hx136_0 hx137_0 hx138_0 hx139_0 hx140_0 hx141_0 hHeld ⊢
                  refine pureV 0 27 70 1 HT_ ?_
                  refine pureV 1 28 70 3 HT_ ?_
                  refine pureV 2 29 70 7 HT_ ?_
                  refine pureV 3 30 70 15 HT_ ?_
                  refine pureV 4 31 70 31 HT_ ?_
                  refine pureV 5 32 70 63 HT_ ?_
                  refine pureV 6 33 70 127 HT_ ?_
                  refine one_ (i := 7) (N := some 34) (mb 70 255) rfl rfl (one_of HT_.out (by kernel_rfl)) (by decide) (fun K hK => ?_)
                  refine goes_ Try.func43 (by kernel_rfl) rfl #[.slice (some ad135) (rd_L1 l1 x22_2).length c133_0, .int .i64 1, .int .i64 (wrap64 (3 * (l1.length : Int)))] (by rfl) rfl rfl (by (try simp only [List.map_toArray, List.map_cons, List.map_nil]); first | done | rfl | (simp only [List.length_drop, List.length_take]; rfl)) ?_
                  with_reducible refine (spec_l1All.calls k2 _ _ (rd_L1 l1 x22_2) 1 (wrap64 (3 * (l1.length : Int))) true _ ?side1 ?side2 A11.out).mono ?_
                  (case side1 => repeat (first | exact (Kd.C_below HR133_0.out HB.out) | (with_reducible refine Kd.C_alloc ?_ _) | (with_reducible refine Kd.C_drewN ?_ _) | (with_reducible refine Kd.C_drew ?_)))
                  (case side2 => exact HC133_0.out)
                  rintro e w' ⟨rfl, ⟨nd, rfl⟩⟩
                  refine ⟨_, rfl, ?_⟩
                  refine hK.out _ _ ⟨((HB.out.cell (World.block_lt_of_cell? w _ hw135_0)).trans hw135_0), ((HB.out.cell (World.block_lt_of_cell? w _ hw136_0)).trans hw136_0), ((HB.out.cell (World.block_lt_of_cell? w _ hw137_0)).trans hw137_0), ((HB.out.cell (World.block_lt_of_cell? w _ hw138_0)).trans hw138_0), ((HB.out.cell (World.block_lt_of_cell? w _ hw139_0)).trans hw139_0), ((HB.out.cell (World.block_lt_of_cell? w _ hw140_0)).trans hw140_0), ((HB.out.cell (World.block_lt_of_cell? w _ hw141_0)).trans hw141_0)⟩ (fun hHeld => ?_)
                  clear hK K
                  refine norm_ (a' := ?_) ?_ ?_
                  rotate_left
                  ·show Act.put _ (some 34) _ = _
                   simp only [Act.put, List.setIfInBounds_toArray, List.set_cons_zero, List.set_cons_succ, i64_w, i32_w]
                   rfl
                  refine pureV 8 35 70 511 HT_ ?_
                  refine pureV 9 36 70 1023 HT_ ?_
                  refine pureV 10 37 70 2047 HT_ ?_
                  refine pureV 11 38 70 4095 HT_ ?_
                  refine pureV 12 39 70 8191 HT_ ?_
                  refine pureV 14 41 70 24575 HT_ ?_
                  refine pureV 15 42 70 57343 HT_ ?_
                  refine takeV 13 40 70 65535 HT_ HW_ hHeld rfl (by rintro w' ⟨s0, s1, s2, s3, s4, s5, s6⟩; go_simp; with_reducible rfl) ?_
                  refine takeV 16 43 70 131071 HT_ HW_ hHeld rfl (by rintro w' ⟨s0, s1, s2, s3, s4, s5, s6⟩; go_simp; with_reducible rfl) ?_
                  refine pureV 17 44 70 262143 HT_ ?_
                  refine pureV 18 45 70 524287 HT_ ?_
                  refine pureV 19 46 70 1048575 HT_ ?_
                  refine pureV 20 47 70 2097151 HT_ ?_
                  refine pureV 21 48 70 4194303 HT_ ?_
                  refine pureV 23 50 70 12582911 HT_ ?_
                  refine pureV 24 51 70 29360127 HT_ ?_
                  refine takeV 22 49 70 33554431 HT_ HW_ hHeld rfl (by rintro w' ⟨s0, s1, s2, s3, s4, s5, s6⟩; go_simp; with_reducible rfl) ?_
                  refine takeV 25 52 70 67108863 HT_ HW_ hHeld rfl (by rintro w' ⟨s0, s1, s2, s3, s4, s5, s6⟩; go_simp; with_reducible rfl) ?_
                  refine pureV 26 53 70 134217727 HT_ ?_
                  refine pureV 27 54 70 268435455 HT_ ?_
                  refine pureV 28 55 70 536870911 HT_ ?_
                  refine pureV 29 56 70 1073741823 HT_ ?_
                  refine pureV 30 57 70 2147483647 HT_ ?_
                  refine pureV 32 59 70 6442450943 HT_ ?_
                  refine pureV 33 60 70 15032385535 HT_ ?_
                  refine pureV 36 63 70 83751862271 HT_ ?_
                  refine pureV 37 64 70 221190815743 HT_ ?_
                  refine takeV 31 58 70 223338299391 HT_ HW_ hHeld rfl (by rintro w' ⟨s0, s1, s2, s3, s4, s5, s6⟩; go_simp; with_reducible rfl) ?_
                  refine takeV 34 61 70 240518168575 HT_ HW_ hHeld rfl (by rintro w' ⟨s0, s1, s2, s3, s4, s5, s6⟩; go_simp; with_reducible rfl) ?_
                  refine pureV 35 62 70 274877906943 HT_ ?_
                  refine takeV 38 65 70 549755813887 HT_ HW_ hHeld rfl (by rintro w' ⟨s0, s1, s2, s3, s4, s5, s6⟩; go_simp; with_reducible rfl) ?_
                  refine pureV 39 66 70 1099511627775 HT_ ?_
                  refine pureV 40 67 70 2199023255551 HT_ ?_
                  refine pureU 41 68 70 4398046511103 HT_ ?_
                  refine pureU 42 69 70 8796093022207 HT_ ?_
                  refine pureU 43 70 70 17592186044415 HT_ ?_
                  refine pureU 44 71 70 35184372088831 HT_ ?_
                  refine pureU 45 72 70 70368744177663 HT_ ?_
                  refine pureU 46 73 70 140737488355327 HT_ ?_
                  refine pureU 47 74 70 281474976710655 HT_ ?_
                  refine pureU 48 75 70 562949953421311 HT_ ?_
                  refine pureU 49 76 70 1125899906842623 HT_ ?_
                  refine pureU 50 77 70 2251799813685247 HT_ ?_
                  refine pureU 51 78 70 4503599627370495 HT_ ?_
                  refine pureU 52 79 70 9007199254740991 HT_ ?_
                  refine pureU 53 80 70 18014398509481983 HT_ ?_
                  refine pureV 54 81 70 36028797018963967 HT_ ?_
                  refine pureV 55 82 70 72057594037927935 HT_ ?_
                  refine pureV 56 83 70 144115188075855871 HT_ ?_
                  refine pureV 57 84 70 288230376151711743 HT_ ?_
                  refine pureV 58 85 70 576460752303423487 HT_ ?_
                  refine pureV 59 86 70 1152921504606846975 HT_ ?_
                  refine pureU 60 87 70 2305843009213693951 HT_ ?_
                  refine pureU 61 88 70 4611686018427387903 HT_ ?_
                  refine pureU 62 89 70 9223372036854775807 HT_ ?_
                  refine pureU 63 90 70 18446744073709551615 HT_ ?_
                  refine pureU 64 91 70 36893488147419103231 HT_ ?_
                  refine pureU 65 92 70 73786976294838206463 HT_ ?_
                  refine pureU 66 93 70 147573952589676412927 HT_ ?_
                  refine pureU 67 94 70 295147905179352825855 HT_ ?_
                  refine pureV 68 95 70 590295810358705651711 HT_ ?_
                  refine pureV 69 96 70 1180591620717411303423 HT_ ?_
                  refine done_ (done_of HT_.out (by kernel_rfl)) ?_
                  try go_wp2
                  go_roundg k2
                  case measure => have := HJ2.out; have := HK2.out; omega
                  case rel => exact ⟨(wrap64 (x22_2 + 1)), (by first | rfl | (simp; done) | (simp [*]; done)), H', ⟨by have := HJ2.out; have := HK2.out; omega⟩, ⟨by repeat (first | (with_reducible first | exact HB.out | apply below_alloc | apply pw_below_drewN | apply below_drew1) | exact HB.out)⟩⟩
                ·rw [if_neg c20] at H
                 have c20b0 : ((wrap64 ((rd (rd_L1 l1 x22_2) 0) + (rd (rd_L1 l1 x22_2) 1))) == (rd (rd_L1 l1 x22_2) 2)) = false := beq_eq_false_iff_ne.mpr c20
                 have c20b1 : ((wrap64 ((rd (rd_L1 l1 x22_2) 0) + (rd (rd_L1 l1 x22_2) 1))) != (rd (rd_L1 l1 x22_2) 2)) = true := bne_iff_ne.mpr c20
                 by_cases c30 : (wrap64 ((wrap64 ((rd (rd_L1 l1 x22_2) 0) + (rd (rd_L1 l1 x22_2) 1))) + (rd (rd_L1 l1 x22_2) 2))) = a0
                 ·rw [if_pos c30] at H
                  have c30b0 : ((wrap64 ((wrap64 ((rd (rd_L1 l1 x22_2) 0) + (rd (rd_L1 l1 x22_2) 1))) + (rd (rd_L1 l1 x22_2) 2))) == a0) = true := beq_iff_eq.mpr c30
                  have c30b1 : ((wrap64 ((wrap64 ((rd (rd_L1 l1 x22_2) 0) + (rd (rd_L1 l1 x22_2) 1))) + (rd (rd_L1 l1 x22_2) 2))) != a0) = false := bne_eq_false_iff_eq.mpr c30
                  clear c30
                  by_cases c31 : x22_2 > 0
                  ·rw [if_pos c31] at H
                   have c31b0 : decide (0 < x22_2) = true := decide_eq_true c31
                   clear c31
                   obtain ⟨ji32, hji32⟩ : ∃ j_ : Int, (wrap64 (x22_2 - 1)) = j_ := ⟨_, rfl⟩
                   replace H : (if 0 ≤ (ji32) then (if (ji32) < (l1.length : Int) then ((spec_trLess.f k2 (rd_L1 l1 (ji32)) (rd_L1 l1 x22_2)).bind fun t148 => (if t148 = true then (spec_trDifferences.l0 k2 a0 l1 (l1.length : Int) l1 (l1.length : Int) (wrap64 (x22_2 + 1))) else (some false))) else (none)) else (none)) = some r := by first | (rw [hji32] at H; exact H) | (simp only [hji32] at H ⊢; exact H)
                   (try rw [hji32] at A11)
                   have hji32w : (IntKind.i64.wrap (x22_2 - 1)) = ji32 := (i64_w _).trans hji32
                   by_cases c33 : 0 ≤ (ji32)
                   ·rw [if_pos c33] at H
                    have c33b0 : decide (0 ≤ (ji32)) = true := decide_eq_true c33
                    clear c33
                    by_cases c34 : (ji32) < (l1.length : Int)
                    ·rw [if_pos c34] at H
                     have c34b0 : decide ((ji32) < (l1.length : Int)) = true := decide_eq_true c34
                     clear c34
                     replace H := Option.bind_eq_some_iff.mp H
                     obtain ⟨t148, A350, H⟩ := H
                     replace H : (if t148 = true then (spec_trDifferences.l0 k2 a0 l1 (l1.length : Int) l1 (l1.length : Int) (wrap64 (x22_2 + 1))) else (some false)) = some r := H
                     have A35 := Aside0.mk A350
                     clear A350
                     by_cases c36 : t148 = true
                     ·subst c36
                      have H1 : (spec_trDifferences.l0 k2 a0 l1 (l1.length : Int) l1 (l1.length : Int) (wrap64 (x22_2 + 1))) = some r := by rw [if_pos rfl] at H; exact H
                      clear H
                      have H := H1
                      clear H1
                      have H' := Aside0.mk H
                      clear H
                      have p133 : 0 ≤ (x22_2 : Int) := of_decide_eq_true (by first | (with_reducible assumption) | assumption)
                      have q133 : x22_2 < (l1.length : Int) := of_decide_eq_true (by first | (with_reducible assumption) | assumption)
                      obtain ⟨ad133, A133_0, c133_0, e133, hx133_0, hl133_0, hi133_0⟩ := at_L1 HR1.out x22_2 p133 q133
                      cases e133
                      replace hx133_0 := (HB.out.cell (World.block_lt_of_cell? w _ hx133_0)).trans hx133_0
                      have HR133_0 := Aside0.mk hi133_0
                      have HC133_0 := Aside0.mk hl133_0
                      clear hi133_0 hl133_0
                      replace p133 := eq_true p133
                      replace q133 := eq_true q133
                      try go_wp2
                      have n0_ := Aside0.mk (below_drew1 HB.out)
                      clear HB
                      have HB := n0_
                      clear n0_
                      have p135 : 0 ≤ (0 : Int) := (by omega)
                      have q135 : 0 < ((rd_L1 l1 x22_2).length : Int) := of_decide_eq_true (by first | (with_reducible assumption) | assumption)
                      obtain ⟨ad135, e135, hx135_0⟩ := Kd.at_int HR133_0.out 0 p135 q135
                      have hw135_0 := hx135_0
                      (try rw [show ((0 : Int)).toNat = 0 from rfl] at hw135_0)
                      (try rw [show 0 * 1 = 0 from rfl] at hw135_0)
                      (try rw [Addr.add_zero'] at hw135_0)
                      cases e135
                      have qi135 : (0 < (rd_L1 l1 x22_2).length) = True := eq_true (by omega)
                      (try rw [show ((0 : Int)).toNat = 0 from rfl] at hx135_0)
                      (try rw [Addr.add_zero'] at hx135_0)
                      replace hx135_0 := (HB.out.cell (World.block_lt_of_cell? w _ hx135_0)).trans hx135_0
                      replace p135 := eq_true p135
                      replace q135 := eq_true q135
                      have p136 : 0 ≤ (1 : Int) := (by omega)
                      have q136 : 1 < ((rd_L1 l1 x22_2).length : Int) := of_decide_eq_true (by first | (with_reducible assumption) | assumption)
                      obtain ⟨ad136, e136, hx136_0⟩ := Kd.at_int HR133_0.out 1 p136 q136
                      have hw136_0 := hx136_0
                      (try rw [show ((1 : Int)).toNat = 1 from rfl] at hw136_0)
                      (try rw [show 1 * 1 = 1 from rfl] at hw136_0)
                      (try simp only [Nat.reduceMul, Nat.reduceEqDiff, Go.Addr.add, ↓reduceIte] at hw136_0)
                      obtain rfl : ad135 = ad136 := (by injection e136)
                      (try simp only [show (1 : Int).toNat = 1 from rfl, Nat.reduceMul, Nat.reduceEqDiff, Go.Addr.add, ↓reduceIte] at hx136_0)
                      have qi136 : (1 < (rd_L1 l1 x22_2).length) = True := eq_true (by omega)
                      (try rw [show ((1 : Int)).toNat = 1 from rfl] at hx136_0)
                      replace hx136_0 := (HB.out.cell (World.block_lt_of_cell? w _ hx136_0)).trans hx136_0
                      replace p136 := eq_true p136
                      replace q136 := eq_true q136
                      have p137 : 0 ≤ (1 : Int) := (by omega)
                      have q137 : 1 < ((rd_L1 l1 x22_2).length : Int) := of_decide_eq_true (by first | (with_reducible assumption) | assumption)
                      obtain ⟨ad137, e137, hx137_0⟩ := Kd.at_int HR133_0.out 1 p137 q137
                      have hw137_0 := hx137_0
                      (try rw [show ((1 : Int)).toNat = 1 from rfl] at hw137_0)
                      (try rw [show 1 * 1 = 1 from rfl] at hw137_0)
                      (try simp only [Nat.reduceMul, Nat.reduceEqDiff, Go.Addr.add, ↓reduceIte] at hw137_0)
                      obtain rfl : ad135 = ad137 := (by injection e137)
                      (try simp only [show (1 : Int).toNat = 1 from rfl, Nat.reduceMul, Nat.reduceEqDiff, Go.Addr.add, ↓reduceIte] at hx137_0)
                      have qi137 : (1 < (rd_L1 l1 x22_2).length) = True := eq_true (by omega)
                      (try rw [show ((1 : Int)).toNat = 1 from rfl] at hx137_0)
                      replace hx137_0 := (HB.out.cell (World.block_lt_of_cell? w _ hx137_0)).trans hx137_0
                      replace p137 := eq_true p137
                      replace q137 := eq_true q137
                      have p138 : 0 ≤ (2 : Int) := (by omega)
                      have q138 : 2 < ((rd_L1 l1 x22_2).length : Int) := of_decide_eq_true (by first | (with_reducible assumption) | assumption)
                      obtain ⟨ad138, e138, hx138_0⟩ := Kd.at_int HR133_0.out 2 p138 q138
                      have hw138_0 := hx138_0
                      (try rw [show ((2 : Int)).toNat = 2 from rfl] at hw138_0)
                      (try rw [show 2 * 1 = 2 from rfl] at hw138_0)
                      (try simp only [Nat.reduceMul, Nat.reduceEqDiff, Go.Addr.add, ↓reduceIte] at hw138_0)
                      obtain rfl : ad135 = ad138 := (by injection e138)
                      (try simp only [show (2 : Int).toNat = 2 from rfl, Nat.reduceMul, Nat.reduceEqDiff, Go.Addr.add, ↓reduceIte] at hx138_0)
                      have qi138 : (2 < (rd_L1 l1 x22_2).length) = True := eq_true (by omega)
                      (try rw [show ((2 : Int)).toNat = 2 from rfl] at hx138_0)
                      replace hx138_0 := (HB.out.cell (World.block_lt_of_cell? w _ hx138_0)).trans hx138_0
                      replace p138 := eq_true p138
                      replace q138 := eq_true q138
                      have p139 : 0 ≤ (0 : Int) := (by omega)
                      have q139 : 0 < ((rd_L1 l1 x22_2).length : Int) := of_decide_eq_true (by first | (with_reducible assumption) | assumption)
                      obtain ⟨ad139, e139, hx139_0⟩ := Kd.at_int HR133_0.out 0 p139 q139
                      have hw139_0 := hx139_0
                      (try rw [show ((0 : Int)).toNat = 0 from rfl] at hw139_0)
                      (try rw [show 0 * 1 = 0 from rfl] at hw139_0)
                      (try rw [Addr.add_zero'] at hw139_0)
                      obtain rfl : ad135 = ad139 := (by injection e139)
                      have qi139 : (0 < (rd_L1 l1 x22_2).length) = True := eq_true (by omega)
                      (try rw [show ((0 : Int)).toNat = 0 from rfl] at hx139_0)
                      (try rw [Addr.add_zero'] at hx139_0)
                      replace hx139_0 := (HB.out.cell (World.block_lt_of_cell? w _ hx139_0)).trans hx139_0
                      replace p139 := eq_true p139
                      replace q139 := eq_true q139
                      have p140 : 0 ≤ (1 : Int) := (by omega)
                      have q140 : 1 < ((rd_L1 l1 x22_2).length : Int) := of_decide_eq_true (by first | (with_reducible assumption) | assumption)
                      obtain ⟨ad140, e140, hx140_0⟩ := Kd.at_int HR133_0.out 1 p140 q140
                      have hw140_0 := hx140_0
                      (try rw [show ((1 : Int)).toNat = 1 from rfl] at hw140_0)
                      (try rw [show 1 * 1 = 1 from rfl] at hw140_0)
                      (try simp only [Nat.reduceMul, Nat.reduceEqDiff, Go.Addr.add, ↓reduceIte] at hw140_0)
                      obtain rfl : ad135 = ad140 := (by injection e140)
                      (try simp only [show (1 : Int).toNat = 1 from rfl, Nat.reduceMul, Nat.reduceEqDiff, Go.Addr.add, ↓reduceIte] at hx140_0)
                      have qi140 : (1 < (rd_L1 l1 x22_2).length) = True := eq_true (by omega)
                      (try rw [show ((1 : Int)).toNat = 1 from rfl] at hx140_0)
                      replace hx140_0 := (HB.out.cell (World.block_lt_of_cell? w _ hx140_0)).trans hx140_0
                      replace p140 := eq_true p140
                      replace q140 := eq_true q140
                      have p141 : 0 ≤ (2 : Int) := (by omega)
                      have q141 : 2 < ((rd_L1 l1 x22_2).length : Int) := of_decide_eq_true (by first | (with_reducible assumption) | assumption)
                      obtain ⟨ad141, e141, hx141_0⟩ := Kd.at_int HR133_0.out 2 p141 q141
                      have hw141_0 := hx141_0
                      (try rw [show ((2 : Int)).toNat = 2 from rfl] at hw141_0)
                      (try rw [show 2 * 1 = 2 from rfl] at hw141_0)
                      (try simp only [Nat.reduceMul, Nat.reduceEqDiff, Go.Addr.add, ↓reduceIte] at hw141_0)
                      obtain rfl : ad135 = ad141 := (by injection e141)
                      (try simp only [show (2 : Int).toNat = 2 from rfl, Nat.reduceMul, Nat.reduceEqDiff, Go.Addr.add, ↓reduceIte] at hx141_0)
                      have qi141 : (2 < (rd_L1 l1 x22_2).length) = True := eq_true (by omega)
                      (try rw [show ((2 : Int)).toNat = 2 from rfl] at hx141_0)
                      replace hx141_0 := (HB.out.cell (World.block_lt_of_cell? w _ hx141_0)).trans hx141_0
                      replace p141 := eq_true p141
                      replace q141 := eq_true q141
                      have p144 : 0 ≤ (0 : Int) := (by omega)
                      have q144 : 0 < ((rd_L1 l1 x22_2).length : Int) := of_decide_eq_true (by first | (with_reducible assumption) | assumption)
                      obtain ⟨ad144, e144, hx144_0⟩ := Kd.at_int HR133_0.out 0 p144 q144
                      have hw144_0 := hx144_0
                      (try rw [show ((0 : Int)).toNat = 0 from rfl] at hw144_0)
                      (try rw [show 0 * 1 = 0 from rfl] at hw144_0)
                      (try rw [Addr.add_zero'] at hw144_0)
                      obtain rfl : ad135 = ad144 := (by injection e144)
                      have qi144 : (0 < (rd_L1 l1 x22_2).length) = True := eq_true (by omega)
                      (try rw [show ((0 : Int)).toNat = 0 from rfl] at hx144_0)
                      (try rw [Addr.add_zero'] at hx144_0)
                      replace hx144_0 := (HB.out.cell (World.block_lt_of_cell? w _ hx144_0)).trans hx144_0
                      replace p144 := eq_true p144
                      replace q144 := eq_true q144
                      have p145 : 0 ≤ (1 : Int) := (by omega)
                      have q145 : 1 < ((rd_L1 l1 x22_2).length : Int) := of_decide_eq_true (by first | (with_reducible assumption) | assumption)
                      obtain ⟨ad145, e145, hx145_0⟩ := Kd.at_int HR133_0.out 1 p145 q145
                      have hw145_0 := hx145_0
                      (try rw [show ((1 : Int)).toNat = 1 from rfl] at hw145_0)
                      (try rw [show 1 * 1 = 1 from rfl] at hw145_0)
                      (try simp only [Nat.reduceMul, Nat.reduceEqDiff, Go.Addr.add, ↓reduceIte] at hw145_0)
                      obtain rfl : ad135 = ad145 := (by injection e145)
                      (try simp only [show (1 : Int).toNat = 1 from rfl, Nat.reduceMul, Nat.reduceEqDiff, Go.Addr.add, ↓reduceIte] at hx145_0)
                      have qi145 : (1 < (rd_L1 l1 x22_2).length) = True := eq_true (by omega)
                      (try rw [show ((1 : Int)).toNat = 1 from rfl] at hx145_0)
                      replace hx145_0 := (HB.out.cell (World.block_lt_of_cell? w _ hx145_0)).trans hx145_0
                      replace p145 := eq_true p145
                      replace q145 := eq_true q145
                      have p146 : 0 ≤ (2 : Int) := (by omega)
                      have q146 : 2 < ((rd_L1 l1 x22_2).length : Int) := of_decide_eq_true (by first | (with_reducible assumption) | assumption)
                      obtain ⟨ad146, e146, hx146_0⟩ := Kd.at_int HR133_0.out 2 p146 q146
                      have hw146_0 := hx146_0
                      (try rw [show ((2 : Int)).toNat = 2 from rfl] at hw146_0)
                      (try rw [show 2 * 1 = 2 from rfl] at hw146_0)
                      (try simp only [Nat.reduceMul, Nat.reduceEqDiff, Go.Addr.add, ↓reduceIte] at hw146_0)
                      obtain rfl : ad135 = ad146 := (by injection e146)
                      (try simp only [show (2 : Int).toNat = 2 from rfl, Nat.reduceMul, Nat.reduceEqDiff, Go.Addr.add, ↓reduceIte] at hx146_0)
                      have qi146 : (2 < (rd_L1 l1 x22_2).length) = True := eq_true (by omega)
                      (try rw [show ((2 : Int)).toNat = 2 from rfl] at hx146_0)
                      replace hx146_0 := (HB.out.cell (World.block_lt_of_cell? w _ hx146_0)).trans hx146_0
                      replace p146 := eq_true p146
                      replace q146 := eq_true q146
                      have p147 : 0 ≤ ((ji32) : Int) := of_decide_eq_true (by first | (with_reducible assumption) | assumption)
                      have q147 : (ji32) < (l1.length : Int) := of_decide_eq_true (by first | (with_reducible assumption) | assumption)
                      obtain ⟨ad147, A147_0, c147_0, e147, hx147_0, hl147_0, hi147_0⟩ := at_L1 HR1.out (ji32) p147 q147
                      have hw147_0 := hx147_0
                      obtain rfl : ad133 = ad147 := (by injection e147)
                      replace hx147_0 := (HB.out.cell (World.block_lt_of_cell? w _ hx147_0)).trans hx147_0
                      have HR147_0 := Aside0.mk hi147_0
                      have HC147_0 := Aside0.mk hl147_0
                      clear hi147_0 hl147_0
                      replace p147 := eq_true p147
                      replace q147 := eq_true q147
                      refine start_ (n := 70) (S := fun w' => w'.cell? ad135 = some (.int .i64 (rd (rd_L1 l1 x22_2) 0)) ∧ w'.cell? ⟨ad135.block, ad135.off + 1, none⟩ = some (.int .i64 (rd (rd_L1 l1 x22_2) 1)) ∧ w'.cell? ⟨ad135.block, ad135.off + 1, none⟩ = some (.int .i64 (rd (rd_L1 l1 x22_2) 1)) ∧ w'.cell? ⟨ad135.block, ad135.off + 2, none⟩ = some (.int .i64 (rd (rd_L1 l1 x22_2) 2)) ∧ w'.cell? ad135 = some (.int .i64 (rd (rd_L1 l1 x22_2) 0)) ∧ w'.cell? ⟨ad135.block, ad135.off + 1, none⟩ = some (.int .i64 (rd (rd_L1 l1 x22_2) 1)) ∧ w'.cell? ⟨ad135.block, ad135.off + 2, none⟩ = some (.int .i64 (rd (rd_L1 l1 x22_2) 2)) ∧ w'.cell? ad135 = some (.int .i64 (rd (rd_L1 l1 x22_2) 0)) ∧ w'.cell? ⟨ad135.block, ad135.off + 1, none⟩ = some (.int .i64 (rd (rd_L1 l1 x22_2) 1)) ∧ w'.cell? ⟨ad135.block, ad135.off + 2, none⟩ = some (.int .i64 (rd (rd_L1 l1 x22_2) 2)) ∧ w'.cell? (ad133.add ((ji32)).toNat) = some (.slice A147_0 (rd_L1 l1 (ji32)).length c147_0)) (ds := []) (mb 70 0) (by kernel_rfl) rfl rfl ⟨((HB.out.cell (World.block_lt_of_cell? w _ hw135_0)).trans hw135_0), ((HB.out.cell (World.block_lt_of_cell? w _ hw136_0)).trans hw136_0), ((HB.out.cell (World.block_lt_of_cell? w _ hw137_0)).trans hw137_0), ((HB.out.cell (World.block_lt_of_cell? w _ hw138_0)).trans hw138_0), ((HB.out.cell (World.block_lt_of_cell? w _ hw139_0)).trans hw139_0), ((HB.out.cell (World.block_lt_of_cell? w _ hw140_0)).trans hw140_0), ((HB.out.cell (World.block_lt_of_cell? w _ hw141_0)).trans hw141_0), ((HB.out.cell (World.block_lt_of_cell? w _ hw144_0)).trans hw144_0), ((HB.out.cell (World.block_lt_of_cell? w _ hw145_0)).trans hw145_0), ((HB.out.cell (World.block_lt_of_cell? w _ hw146_0)).trans hw146_0), ((HB.out.cell (World.block_lt_of_cell? w _ hw147_0)).trans hw147_0)⟩ (fun hHeld => ?_); refine with_tabW spec_trDifferences.tab7 spec_trDifferences.bits7 (fun HT_ HW_ => ?_)
                      generalize wr.drew = w37 at HB HR147_0 hx135_0 hx136_0 hx137_0 hx138_0 hx139_0 hx140_0 hx141_0 hx144_0 hx145_0 hx146_0 hx147_0 hHeld ⊢
                      refine pureV 0 27 70 1 HT_ ?_
                      refine pureV 1 28 70 3 HT_ ?_
                      refine pureV 2 29 70 7 HT_ ?_
                      refine pureV 3 30 70 15 HT_ ?_
                      refine pureV 4 31 70 31 HT_ ?_
                      refine pureV 5 32 70 63 HT_ ?_
                      refine pureV 6 33 70 127 HT_ ?_
                      refine one_ (i := 7) (N := some 34) (mb 70 255) rfl rfl (one_of HT_.out (by kernel_rfl)) (by decide) (fun K hK => ?_)
                      refine goes_ Try.func43 (by kernel_rfl) rfl #[.slice (some ad135) (rd_L1 l1 x22_2).length c133_0, .int .i64 1, .int .i64 (wrap64 (3 * (l1.length : Int)))] (by rfl) rfl rfl (by (try simp only [List.map_toArray, List.map_cons, List.map_nil]); first | done | rfl | (simp only [List.length_drop, List.length_take]; rfl)) ?_
                      with_reducible refine (spec_l1All.calls k2 _ _ (rd_L1 l1 x22_2) 1 (wrap64 (3 * (l1.length : Int))) true _ ?side1 ?side2 A11.out).mono ?_
                      (case side1 => repeat (first | exact (Kd.C_below HR133_0.out HB.out) | (with_reducible refine Kd.C_alloc ?_ _) | (with_reducible refine Kd.C_drewN ?_ _) | (with_reducible refine Kd.C_drew ?_)))
                      (case side2 => exact HC133_0.out)
                      rintro e w' ⟨rfl, ⟨nd, rfl⟩⟩
                      refine ⟨_, rfl, ?_⟩
                      refine hK.out _ _ ⟨((HB.out.cell (World.block_lt_of_cell? w _ hw135_0)).trans hw135_0), ((HB.out.cell (World.block_lt_of_cell? w _ hw136_0)).trans hw136_0), ((HB.out.cell (World.block_lt_of_cell? w _ hw137_0)).trans hw137_0), ((HB.out.cell (World.block_lt_of_cell? w _ hw138_0)).trans hw138_0), ((HB.out.cell (World.block_lt_of_cell? w _ hw139_0)).trans hw139_0), ((HB.out.cell (World.block_lt_of_cell? w _ hw140_0)).trans hw140_0), ((HB.out.cell (World.block_lt_of_cell? w _ hw141_0)).trans hw141_0), ((HB.out.cell (World.block_lt_of_cell? w _ hw144_0)).trans hw144_0), ((HB.out.cell (World.block_lt_of_cell? w _ hw145_0)).trans hw145_0), ((HB.out.cell (World.block_lt_of_cell? w _ hw146_0)).trans hw146_0), ((HB.out.cell (World.block_lt_of_cell? w _ hw147_0)).trans hw147_0)⟩ (fun hHeld => ?_)
                      clear hK K
                      refine norm_ (a' := ?_) ?_ ?_
                      rotate_left
                      ·show Act.put _ (some 34) _ = _
                       simp only [Act.put, List.setIfInBounds_toArray, List.set_cons_zero, List.set_cons_succ, i64_w, i32_w]
                       rfl
                      refine pureV 8 35 70 511 HT_ ?_
                      refine pureV 9 36 70 1023 HT_ ?_
                      refine pureV 10 37 70 2047 HT_ ?_
                      refine pureV 11 38 70 4095 HT_ ?_
                      refine pureV 12 39 70 8191 HT_ ?_
                      refine pureV 14 41 70 24575 HT_ ?_
                      refine pureV 15 42 70 57343 HT_ ?_
                      refine takeV 13 40 70 65535 HT_ HW_ hHeld rfl (by rintro w' ⟨s0, s1, s2, s3, s4, s5, s6, s7, s8, s9, s10⟩; go_simp; with_reducible rfl) ?_
                      refine takeV 16 43 70 131071 HT_ HW_ hHeld rfl (by rintro w' ⟨s0, s1, s2, s3, s4, s5, s6, s7, s8, s9, s10⟩; go_simp; with_reducible rfl) ?_
                      refine pureV 17 44 70 262143 HT_ ?_
                      refine pureV 18 45 70 524287 HT_ ?_
                      refine pureV 19 46 70 1048575 HT_ ?_
                      refine pureV 20 47 70 2097151 HT_ ?_
                      refine pureV 21 48 70 4194303 HT_ ?_
                      refine pureV 23 50 70 12582911 HT_ ?_
                      refine pureV 24 51 70 29360127 HT_ ?_
                      refine takeV 22 49 70 33554431 HT_ HW_ hHeld rfl (by rintro w' ⟨s0, s1, s2, s3, s4, s5, s6, s7, s8, s9, s10⟩; go_simp; with_reducible rfl) ?_
                      refine takeV 25 52 70 67108863 HT_ HW_ hHeld rfl (by rintro w' ⟨s0, s1, s2, s3, s4, s5, s6, s7, s8, s9, s10⟩; go_simp; with_reducible rfl) ?_
                      refine pureV 26 53 70 134217727 HT_ ?_
                      refine pureV 27 54 70 268435455 HT_ ?_
                      refine pureV 28 55 70 536870911 HT_ ?_
                      refine pureV 29 56 70 1073741823 HT_ ?_
                      refine pureV 30 57 70 2147483647 HT_ ?_
                      refine pureV 32 59 70 6442450943 HT_ ?_
                      refine pureV 33 60 70 15032385535 HT_ ?_
                      refine pureV 36 63 70 83751862271 HT_ ?_
                      refine pureV 37 64 70 221190815743 HT_ ?_
                      refine takeV 31 58 70 223338299391 HT_ HW_ hHeld rfl (by rintro w' ⟨s0, s1, s2, s3, s4, s5, s6, s7, s8, s9, s10⟩; go_simp; with_reducible rfl) ?_
                      refine takeV 34 61 70 240518168575 HT_ HW_ hHeld rfl (by rintro w' ⟨s0, s1, s2, s3, s4, s5, s6, s7, s8, s9, s10⟩; go_simp; with_reducible rfl) ?_
                      refine pureV 35 62 70 274877906943 HT_ ?_
                      refine takeV 38 65 70 549755813887 HT_ HW_ hHeld rfl (by rintro w' ⟨s0, s1, s2, s3, s4, s5, s6, s7, s8, s9, s10⟩; go_simp; with_reducible rfl) ?_
                      refine pureV 39 66 70 1099511627775 HT_ ?_
                      refine pureV 40 67 70 2199023255551 HT_ ?_
                      refine pureV 41 68 70 4398046511103 HT_ ?_
                      refine pureV 42 69 70 8796093022207 HT_ ?_
                      refine pureV 44 71 70 26388279066623 HT_ ?_
                      refine pureV 45 72 70 61572651155455 HT_ ?_
                      refine pureV 48 75 70 343047627866111 HT_ ?_
                      refine pureV 49 76 70 905997581287423 HT_ ?_
                      refine pureV 52 79 70 5409597208657919 HT_ ?_
                      refine takeV 43 70 70 5418393301680127 HT_ HW_ hHeld rfl (by rintro w' ⟨s0, s1, s2, s3, s4, s5, s6, s7, s8, s9, s10⟩; go_simp; with_reducible rfl) ?_
                      refine takeV 46 73 70 5488762045857791 HT_ HW_ hHeld rfl (by rintro w' ⟨s0, s1, s2, s3, s4, s5, s6, s7, s8, s9, s10⟩; go_simp; with_reducible rfl) ?_
                      refine pureV 47 74 70 5629499534213119 HT_ ?_
                      refine takeV 50 77 70 6755399441055743 HT_ HW_ hHeld rfl (by rintro w' ⟨s0, s1, s2, s3, s4, s5, s6, s7, s8, s9, s10⟩; go_simp; with_reducible rfl) ?_
                      refine pureV 51 78 70 9007199254740991 HT_ ?_
                      refine pureV 53 80 70 18014398509481983 HT_ ?_
                      refine pureV 54 81 70 36028797018963967 HT_ ?_
                      refine pureV 55 82 70 72057594037927935 HT_ ?_
                      refine pureV 56 83 70 144115188075855871 HT_ ?_
                      refine pureV 57 84 70 288230376151711743 HT_ ?_
                      refine pureV 58 85 70 576460752303423487 HT_ ?_
                      refine pureV 59 86 70 1152921504606846975 HT_ ?_
                      refine pureV 60 87 70 2305843009213693951 HT_ ?_
                      refine pureV 61 88 70 4611686018427387903 HT_ ?_
                      refine pureV 62 89 70 9223372036854775807 HT_ ?_
                      refine pureV 63 90 70 18446744073709551615 HT_ ?_
                      refine pureV 65 92 70 55340232221128654847 HT_ ?_
                      refine takeV 64 91 70 73786976294838206463 HT_ HW_ hHeld rfl (by rintro w' ⟨s0, s1, s2, s3, s4, s5, s6, s7, s8, s9, s10⟩; go_simp; with_reducible rfl) ?_
                      refine one_ (i := 66) (N := some 93) (mb 70 147573952589676412927) rfl rfl (one_of HT_.out (by kernel_rfl)) (by decide) (fun K hK => ?_)
                      refine goes_ Try.func44 (by kernel_rfl) rfl #[.slice A147_0 (rd_L1 l1 (ji32)).length c147_0, .slice (some ad135) (rd_L1 l1 x22_2).length c133_0] (by rfl) rfl rfl (by (try simp only [List.map_toArray, List.map_cons, List.map_nil]); first | done | (simp only [hji32]; rfl) | rfl | (simp only [List.length_drop, List.length_take]; rfl)) ?_
                      with_reducible refine (spec_trLess.calls k2 _ _ (rd_L1 l1 (ji32)) _ _ (rd_L1 l1 x22_2) true _ ?side1 ?side2 ?side3 ?side4 A35.out).mono ?_
                      (case side1 => repeat (first | exact (Kd.C_below HR147_0.out (by repeat (first | (with_reducible first | exact HB.out | apply below_alloc | apply pw_below_drewN | apply below_drew1) | exact HB.out))) | (with_reducible refine Kd.C_alloc ?_ _) | (with_reducible refine Kd.C_drewN ?_ _) | (with_reducible refine Kd.C_drew ?_)))
                      (case side2 => exact HC147_0.out)
                      (case side3 => repeat (first | exact (Kd.C_below HR133_0.out (by repeat (first | (with_reducible first | exact HB.out | apply below_alloc | apply pw_below_drewN | apply below_drew1) | exact HB.out))) | (with_reducible refine Kd.C_alloc ?_ _) | (with_reducible refine Kd.C_drewN ?_ _) | (with_reducible refine Kd.C_drew ?_)))
                      (case side4 => exact HC133_0.out)
                      rintro e w' ⟨rfl, ⟨nd, rfl⟩⟩
                      refine ⟨_, rfl, ?_⟩
                      refine hK.out _ _ ⟨((HB.out.cell (World.block_lt_of_cell? w _ hw135_0)).trans hw135_0), ((HB.out.cell (World.block_lt_of_cell? w _ hw136_0)).trans hw136_0), ((HB.out.cell (World.block_lt_of_cell? w _ hw137_0)).trans hw137_0), ((HB.out.cell (World.block_lt_of_cell? w _ hw138_0)).trans hw138_0), ((HB.out.cell (World.block_lt_of_cell? w _ hw139_0)).trans hw139_0), ((HB.out.cell (World.block_lt_of_cell? w _ hw140_0)).trans hw140_0), ((HB.out.cell (World.block_lt_of_cell? w _ hw141_0)).trans hw141_0), ((HB.out.cell (World.block_lt_of_cell? w _ hw144_0)).trans hw144_0), ((HB.out.cell (World.block_lt_of_cell? w _ hw145_0)).trans hw145_0), ((HB.out.cell (World.block_lt_of_cell? w _ hw146_0)).trans hw146_0), ((HB.out.cell (World.block_lt_of_cell? w _ hw147_0)).trans hw147_0)⟩ (fun hHeld => ?_)
                      clear hK K
                      refine norm_ (a' := ?_) ?_ ?_
                      rotate_left
                      ·show Act.put _ (some 93) _ = _
                       simp only [Act.put, List.setIfInBounds_toArray, List.set_cons_zero, List.set_cons_succ, i64_w, i32_w]
                       rfl
                      refine pureV 67 94 70 295147905179352825855 HT_ ?_
                      refine pureV 68 95 70 590295810358705651711 HT_ ?_
                      refine pureV 69 96 70 1180591620717411303423 HT_ ?_
                      refine done_ (done_of HT_.out (by kernel_rfl)) ?_
                      try go_wp2
                      go_roundg k2
                      case measure => have := HJ2.out; have := HK2.out; omega
                      case rel => exact ⟨(wrap64 (x22_2 + 1)), (by first | rfl | (simp; done) | (simp [*]; done)), H', ⟨by have := HJ2.out; have := HK2.out; omega⟩, ⟨by repeat (first | (with_reducible first | exact HB.out | apply below_alloc | apply pw_below_drewN | apply below_drew1) | exact HB.out)⟩⟩
                     ·replace c36 := Bool.eq_false_iff.mpr c36
                      subst c36
                      have H1 : (some false) = some r := by rw [if_neg (show ¬ (false = true) by decide)] at H; exact H
                      clear H
                      have H := H1
                      clear H1
                      obtain rfl := Option.some.inj H
                      have p133 : 0 ≤ (x22_2 : Int) := of_decide_eq_true (by first | (with_reducible assumption) | assumption)
                      have q133 : x22_2 < (l1.length : Int) := of_decide_eq_true (by first | (with_reducible assumption) | assumption)
                      obtain ⟨ad133, A133_0, c133_0, e133, hx133_0, hl133_0, hi133_0⟩ := at_L1 HR1.out x22_2 p133 q133
                      cases e133
                      replace hx133_0 := (HB.out.cell (World.block_lt_of_cell? w _ hx133_0)).trans hx133_0
                      have HR133_0 := Aside0.mk hi133_0
                      have HC133_0 := Aside0.mk hl133_0
                      clear hi133_0 hl133_0
                      replace p133 := eq_true p133
                      replace q133 := eq_true q133
                      try go_wp2
                      have n0_ := Aside0.mk (below_drew1 HB.out)
                      clear HB
                      have HB := n0_
                      clear n0_
                      have p135 : 0 ≤ (0 : Int) := (by omega)
                      have q135 : 0 < ((rd_L1 l1 x22_2).length : Int) := of_decide_eq_true (by first | (with_reducible assumption) | assumption)
                      obtain ⟨ad135, e135, hx135_0⟩ := Kd.at_int HR133_0.out 0 p135 q135
                      have hw135_0 := hx135_0
                      (try rw [show ((0 : Int)).toNat = 0 from rfl] at hw135_0)
                      (try rw [show 0 * 1 = 0 from rfl] at hw135_0)
                      (try rw [Addr.add_zero'] at hw135_0)
                      cases e135
                      have qi135 : (0 < (rd_L1 l1 x22_2).length) = True := eq_true (by omega)
                      (try rw [show ((0 : Int)).toNat = 0 from rfl] at hx135_0)
                      (try rw [Addr.add_zero'] at hx135_0)
                      replace hx135_0 := (HB.out.cell (World.block_lt_of_cell? w _ hx135_0)).trans hx135_0
                      replace p135 := eq_true p135
                      replace q135 := eq_true q135
                      have p136 : 0 ≤ (1 : Int) := (by omega)
                      have q136 : 1 < ((rd_L1 l1 x22_2).length : Int) := of_decide_eq_true (by first | (with_reducible assumption) | assumption)
                      obtain ⟨ad136, e136, hx136_0⟩ := Kd.at_int HR133_0.out 1 p136 q136
                      have hw136_0 := hx136_0
                      (try rw [show ((1 : Int)).toNat = 1 from rfl] at hw136_0)
                      (try rw [show 1 * 1 = 1 from rfl] at hw136_0)
                      (try simp only [Nat.reduceMul, Nat.reduceEqDiff, Go.Addr.add, ↓reduceIte] at hw136_0)
                      obtain rfl : ad135 = ad136 := (by injection e136)
                      (try simp only [show (1 : Int).toNat = 1 from rfl, Nat.reduceMul, Nat.reduceEqDiff, Go.Addr.add, ↓reduceIte] at hx136_0)
                      have qi136 : (1 < (rd_L1 l1 x22_2).length) = True := eq_true (by omega)
                      (try rw [show ((1 : Int)).toNat = 1 from rfl] at hx136_0)
                      replace hx136_0 := (HB.out.cell (World.block_lt_of_cell? w _ hx136_0)).trans hx136_0
                      replace p136 := eq_true p136
                      replace q136 := eq_true q136
                      have p137 : 0 ≤ (1 : Int) := (by omega)
                      have q137 : 1 < ((rd_L1 l1 x22_2).length : Int) := of_decide_eq_true (by first | (with_reducible assumption) | assumption)
                      obtain ⟨ad137, e137, hx137_0⟩ := Kd.at_int HR133_0.out 1 p137 q137
                      have hw137_0 := hx137_0
                      (try rw [show ((1 : Int)).toNat = 1 from rfl] at hw137_0)
                      (try rw [show 1 * 1 = 1 from rfl] at hw137_0)
                      (try simp only [Nat.reduceMul, Nat.reduceEqDiff, Go.Addr.add, ↓reduceIte] at hw137_0)
                      obtain rfl : ad135 = ad137 := (by injection e137)
                      (try simp only [show (1 : Int).toNat = 1 from rfl, Nat.reduceMul, Nat.reduceEqDiff, Go.Addr.add, ↓reduceIte] at hx137_0)
                      have qi137 : (1 < (rd_L1 l1 x22_2).length) = True := eq_true (by omega)
                      (try rw [show ((1 : Int)).toNat = 1 from rfl] at hx137_0)
                      replace hx137_0 := (HB.out.cell (World.block_lt_of_cell? w _ hx137_0)).trans hx137_0
                      replace p137 := eq_true p137
                      replace q137 := eq_true q137
                      have p138 : 0 ≤ (2 : Int) := (by omega)
                      have q138 : 2 < ((rd_L1 l1 x22_2).length : Int) := of_decide_eq_true (by first | (with_reducible assumption) | assumption)
                      obtain ⟨ad138, e138, hx138_0⟩ := Kd.at_int HR133_0.out 2 p138 q138
                      have hw138_0 := hx138_0
                      (try rw [show ((2 : Int)).toNat = 2 from rfl] at hw138_0)
                      (try rw [show 2 * 1 = 2 from rfl] at hw138_0)
                      (try simp only [Nat.reduceMul, Nat.reduceEqDiff, Go.Addr.add, ↓reduceIte] at hw138_0)
                      obtain rfl : ad135 = ad138 := (by injection e138)
                      (try simp only [show (2 : Int).toNat = 2 from rfl, Nat.reduceMul, Nat.reduceEqDiff, Go.Addr.add, ↓reduceIte] at hx138_0)
                      have qi138 : (2 < (rd_L1 l1 x22_2).length) = True := eq_true (by omega)
                      (try rw [show ((2 : Int)).toNat = 2 from rfl] at hx138_0)
                      replace hx138_0 := (HB.out.cell (World.block_lt_of_cell? w _ hx138_0)).trans hx138_0
                      replace p138 := eq_true p138
                      replace q138 := eq_true q138
                      have p139 : 0 ≤ (0 : Int) := (by omega)
                      have q139 : 0 < ((rd_L1 l1 x22_2).length : Int) := of_decide_eq_true (by first | (with_reducible assumption) | assumption)
                      obtain ⟨ad139, e139, hx139_0⟩ := Kd.at_int HR133_0.out 0 p139 q139
                      have hw139_0 := hx139_0
                      (try rw [show ((0 : Int)).toNat = 0 from rfl] at hw139_0)
                      (try rw [show 0 * 1 = 0 from rfl] at hw139_0)
                      (try rw [Addr.add_zero'] at hw139_0)
                      obtain rfl : ad135 = ad139 := (by injection e139)
                      have qi139 : (0 < (rd_L1 l1 x22_2).length) = True := eq_true (by omega)
                      (try rw [show ((0 : Int)).toNat = 0 from rfl] at hx139_0)
                      (try rw [Addr.add_zero'] at hx139_0)
                      replace hx139_0 := (HB.out.cell (World.block_lt_of_cell? w _ hx139_0)).trans hx139_0
                      replace p139 := eq_true p139
                      replace q139 := eq_true q139
                      have p140 : 0 ≤ (1 : Int) := (by omega)
                      have q140 : 1 < ((rd_L1 l1 x22_2).length : Int) := of_decide_eq_true (by first | (with_reducible assumption) | assumption)
                      obtain ⟨ad140, e140, hx140_0⟩ := Kd.at_int HR133_0.out 1 p140 q140
                      have hw140_0 := hx140_0
                      (try rw [show ((1 : Int)).toNat = 1 from rfl] at hw140_0)
                      (try rw [show 1 * 1 = 1 from rfl] at hw140_0)
                      (try simp only [Nat.reduceMul, Nat.reduceEqDiff, Go.Addr.add, ↓reduceIte] at hw140_0)
                      obtain rfl : ad135 = ad140 := (by injection e140)
                      (try simp only [show (1 : Int).toNat = 1 from rfl, Nat.reduceMul, Nat.reduceEqDiff, Go.Addr.add, ↓reduceIte] at hx140_0)
                      have qi140 : (1 < (rd_L1 l1 x22_2).length) = True := eq_true (by omega)
                      (try rw [show ((1 : Int)).toNat = 1 from rfl] at hx140_0)
                      replace hx140_0 := (HB.out.cell (World.block_lt_of_cell? w _ hx140_0)).trans hx140_0
                      replace p140 := eq_true p140
                      replace q140 := eq_true q140
                      have p141 : 0 ≤ (2 : Int) := (by omega)
                      have q141 : 2 < ((rd_L1 l1 x22_2).length : Int) := of_decide_eq_true (by first | (with_reducible assumption) | assumption)
                      obtain ⟨ad141, e141, hx141_0⟩ := Kd.at_int HR133_0.out 2 p141 q141
                      have hw141_0 := hx141_0
                      (try rw [show ((2 : Int)).toNat = 2 from rfl] at hw141_0)
                      (try rw [show 2 * 1 = 2 from rfl] at hw141_0)
                      (try simp only [Nat.reduceMul, Nat.reduceEqDiff, Go.Addr.add, ↓reduceIte] at hw141_0)
                      obtain rfl : ad135 = ad141 := (by injection e141)
                      (try simp only [show (2 : Int).toNat = 2 from rfl, Nat.reduceMul, Nat.reduceEqDiff, Go.Addr.add, ↓reduceIte] at hx141_0)
                      have qi141 : (2 < (rd_L1 l1 x22_2).length) = True := eq_true (by omega)
                      (try rw [show ((2 : Int)).toNat = 2 from rfl] at hx141_0)
                      replace hx141_0 := (HB.out.cell (World.block_lt_of_cell? w _ hx141_0)).trans hx141_0
                      replace p141 := eq_true p141
                      replace q141 := eq_true q141
                      have p144 : 0 ≤ (0 : Int) := (by omega)
                      have q144 : 0 < ((rd_L1 l1 x22_2).length : Int) := of_decide_eq_true (by first | (with_reducible assumption) | assumption)
                      obtain ⟨ad144, e144, hx144_0⟩ := Kd.at_int HR133_0.out 0 p144 q144
                      have hw144_0 := hx144_0
                      (try rw [show ((0 : Int)).toNat = 0 from rfl] at hw144_0)
                      (try rw [show 0 * 1 = 0 from rfl] at hw144_0)
                      (try rw [Addr.add_zero'] at hw144_0)
                      obtain rfl : ad135 = ad144 := (by injection e144)
                      have qi144 : (0 < (rd_L1 l1 x22_2).length) = True := eq_true (by omega)
                      (try rw [show ((0 : Int)).toNat = 0 from rfl] at hx144_0)
                      (try rw [Addr.add_zero'] at hx144_0)
                      replace hx144_0 := (HB.out.cell (World.block_lt_of_cell? w _ hx144_0)).trans hx144_0
                      replace p144 := eq_true p144
                      replace q144 := eq_true q144
                      have p145 : 0 ≤ (1 : Int) := (by omega)
                      have q145 : 1 < ((rd_L1 l1 x22_2).length : Int) := of_decide_eq_true (by first | (with_reducible assumption) | assumption)
                      obtain ⟨ad145, e145, hx145_0⟩ := Kd.at_int HR133_0.out 1 p145 q145
                      have hw145_0 := hx145_0
                      (try rw [show ((1 : Int)).toNat = 1 from rfl] at hw145_0)
                      (try rw [show 1 * 1 = 1 from rfl] at hw145_0)
                      (try simp only [Nat.reduceMul, Nat.reduceEqDiff, Go.Addr.add, ↓reduceIte] at hw145_0)
                      obtain rfl : ad135 = ad145 := (by injection e145)
                      (try simp only [show (1 : Int).toNat = 1 from rfl, Nat.reduceMul, Nat.reduceEqDiff, Go.Addr.add, ↓reduceIte] at hx145_0)
                      have qi145 : (1 < (rd_L1 l1 x22_2).length) = True := eq_true (by omega)
                      (try rw [show ((1 : Int)).toNat = 1 from rfl] at hx145_0)
                      replace hx145_0 := (HB.out.cell (World.block_lt_of_cell? w _ hx145_0)).trans hx145_0
                      replace p145 := eq_true p145
                      replace q145 := eq_true q145
                      have p146 : 0 ≤ (2 : Int) := (by omega)
                      have q146 : 2 < ((rd_L1 l1 x22_2).length : Int) := of_decide_eq_true (by first | (with_reducible assumption) | assumption)
                      obtain ⟨ad146, e146, hx146_0⟩ := Kd.at_int HR133_0.out 2 p146 q146
                      have hw146_0 := hx146_0
                      (try rw [show ((2 : Int)).toNat = 2 from rfl] at hw146_0)
                      (try rw [show 2 * 1 = 2 from rfl] at hw146_0)
                      (try simp only [Nat.reduceMul, Nat.reduceEqDiff, Go.Addr.add, ↓reduceIte] at hw146_0)
                      obtain rfl : ad135 = ad146 := (by injection e146)
                      (try simp only [show (2 : Int).toNat = 2 from rfl, Nat.reduceMul, Nat.reduceEqDiff, Go.Addr.add, ↓reduceIte] at hx146_0)
                      have qi146 : (2 < (rd_L1 l1 x22_2).length) = True := eq_true (by omega)
                      (try rw [show ((2 : Int)).toNat = 2 from rfl] at hx146_0)
                      replace hx146_0 := (HB.out.cell (World.block_lt_of_cell? w _ hx146_0)).trans hx146_0
                      replace p146 := eq_true p146
                      replace q146 := eq_true q146
                      have p147 : 0 ≤ ((ji32) : Int) := of_decide_eq_true (by first | (with_reducible assumption) | assumption)
                      have q147 : (ji32) < (l1.length : Int) := of_decide_eq_true (by first | (with_reducible assumption) | assumption)
                      obtain ⟨ad147, A147_0, c147_0, e147, hx147_0, hl147_0, hi147_0⟩ := at_L1 HR1.out (ji32) p147 q147
                      have hw147_0 := hx147_0
                      obtain rfl : ad133 = ad147 := (by injection e147)
                      replace hx147_0 := (HB.out.cell (World.block_lt_of_cell? w _ hx147_0)).trans hx147_0
                      have HR147_0 := Aside0.mk hi147_0
                      have HC147_0 := Aside0.mk hl147_0
                      clear hi147_0 hl147_0
                      replace p147 := eq_true p147
                      replace q147 := eq_true q147
                      refine start_ (n := 70) (S := fun w' => w'.cell? ad135 = some (.int .i64 (rd (rd_L1 l1 x22_2) 0)) ∧ w'.cell? ⟨ad135.block, ad135.off + 1, none⟩ = some (.int .i64 (rd (rd_L1 l1 x22_2) 1)) ∧ w'.cell? ⟨ad135.block, ad135.off + 1, none⟩ = some (.int .i64 (rd (rd_L1 l1 x22_2) 1)) ∧ w'.cell? ⟨ad135.block, ad135.off + 2, none⟩ = some (.int .i64 (rd (rd_L1 l1 x22_2) 2)) ∧ w'.cell? ad135 = some (.int .i64 (rd (rd_L1 l1 x22_2) 0)) ∧ w'.cell? ⟨ad135.block, ad135.off + 1, none⟩ = some (.int .i64 (rd (rd_L1 l1 x22_2) 1)) ∧ w'.cell? ⟨ad135.block, ad135.off + 2, none⟩ = some (.int .i64 (rd (rd_L1 l1 x22_2) 2)) ∧ w'.cell? ad135 = some (.int .i64 (rd (rd_L1 l1 x22_2) 0)) ∧ w'.cell? ⟨ad135.block, ad135.off + 1, none⟩ = some (.int .i64 (rd (rd_L1 l1 x22_2) 1)) ∧ w'.cell? ⟨ad135.block, ad135.off + 2, none⟩ = some (.int .i64 (rd (rd_L1 l1 x22_2) 2)) ∧ w'.cell? (ad133.add ((ji32)).toNat) = some (.slice A147_0 (rd_L1 l1 (ji32)).length c147_0)) (ds := []) (mb 70 0) (by kernel_rfl) rfl rfl ⟨((HB.out.cell (World.block_lt_of_cell? w _ hw135_0)).trans hw135_0), ((HB.out.cell (World.block_lt_of_cell? w _ hw136_0)).trans hw136_0), ((HB.out.cell (World.block_lt_of_cell? w _ hw137_0)).trans hw137_0), ((HB.out.cell (World.block_lt_of_cell? w _ hw138_0)).trans hw138_0), ((HB.out.cell (World.block_lt_of_cell? w _ hw139_0)).trans hw139_0), ((HB.out.cell (World.block_lt_of_cell? w _ hw140_0)).trans hw140_0), ((HB.out.cell (World.block_lt_of_cell? w _ hw141_0)).trans hw141_0), ((HB.out.cell (World.block_lt_of_cell? w _ hw144_0)).trans hw144_0), ((HB.out.cell (World.block_lt_of_cell? w _ hw145_0)).trans hw145_0), ((HB.out.cell (World.block_lt_of_cell? w _ hw146_0)).trans hw146_0), ((HB.out.cell (World.block_lt_of_cell? w _ hw147_0)).trans hw147_0)⟩ (fun hHeld => ?_); refine with_tabW spec_trDifferences.tab7 spec_trDifferences.bits7 (fun HT_ HW_ => ?_)
                      generalize wr.drew = w38 at HB HR147_0 hx135_0 hx136_0 hx137_0 hx138_0 hx139_0 hx140_0 hx141_0 hx144_0 hx145_0 hx146_0 hx147_0 hHeld ⊢
                      refine pureV 0 27 70 1 HT_ ?_
                      refine pureV 1 28 70 3 HT_ ?_
                      refine pureV 2 29 70 7 HT_ ?_
                      refine pureV 3 30 70 15 HT_ ?_
                      refine pureV 4 31 70 31 HT_ ?_
                      refine pureV 5 32 70 63 HT_ ?_
                      refine pureV 6 33 70 127 HT_ ?_
                      refine one_ (i := 7) (N := some 34) (mb 70 255) rfl rfl (one_of HT_.out (by kernel_rfl)) (by decide) (fun K hK => ?_)
                      refine goes_ Try.func43 (by kernel_rfl) rfl #[.slice (some ad135) (rd_L1 l1 x22_2).length c133_0, .int .i64 1, .int .i64 (wrap64 (3 * (l1.length : Int)))] (by rfl) rfl rfl (by (try simp only [List.map_toArray, List.map_cons, List.map_nil]); first | done | rfl | (simp only [List.length_drop, List.length_take]; rfl)) ?_
                      with_reducible refine (spec_l1All.calls k2 _ _ (rd_L1 l1 x22_2) 1 (wrap64 (3 * (l1.length : Int))) true _ ?side1 ?side2 A11.out).mono ?_
                      (case side1 => repeat (first | exact (Kd.C_below HR133_0.out HB.out) | (with_reducible refine Kd.C_alloc ?_ _) | (with_reducible refine Kd.C_drewN ?_ _) | (with_reducible refine Kd.C_drew ?_)))
                      (case side2 => exact HC133_0.out)
                      rintro e w' ⟨rfl, ⟨nd, rfl⟩⟩
                      refine ⟨_, rfl, ?_⟩
                      refine hK.out _ _ ⟨((HB.out.cell (World.block_lt_of_cell? w _ hw135_0)).trans hw135_0), ((HB.out.cell (World.block_lt_of_cell? w _ hw136_0)).trans hw136_0), ((HB.out.cell (World.block_lt_of_cell? w _ hw137_0)).trans hw137_0), ((HB.out.cell (World.block_lt_of_cell? w _ hw138_0)).trans hw138_0), ((HB.out.cell (World.block_lt_of_cell? w _ hw139_0)).trans hw139_0), ((HB.out.cell (World.block_lt_of_cell? w _ hw140_0)).trans hw140_0), ((HB.out.cell (World.block_lt_of_cell? w _ hw141_0)).trans hw141_0), ((HB.out.cell (World.block_lt_of_cell? w _ hw144_0)).trans hw144_0), ((HB.out.cell (World.block_lt_of_cell? w _ hw145_0)).trans hw145_0), ((HB.out.cell (World.block_lt_of_cell? w _ hw146_0)).trans hw146_0), ((HB.out.cell (World.block_lt_of_cell? w _ hw147_0)).trans hw147_0)⟩ (fun hHeld => ?_)
                      clear hK K
                      refine norm_ (a' := ?_) ?_ ?_
                      rotate_left
                      ·show Act.put _ (some 34) _ = _
                       simp only [Act.put, List.setIfInBounds_toArray, List.set_cons_zero, List.set_cons_succ, i64_w, i32_w]
                       rfl
                      refine pureV 8 35 70 511 HT_ ?_
                      refine pureV 9 36 70 1023 HT_ ?_
                      refine pureV 10 37 70 2047 HT_ ?_
                      refine pureV 11 38 70 4095 HT_ ?_
                      refine pureV 12 39 70 8191 HT_ ?_
                      refine pureV 14 41 70 24575 HT_ ?_
                      refine pureV 15 42 70 57343 HT_ ?_
                      refine takeV 13 40 70 65535 HT_ HW_ hHeld rfl (by rintro w' ⟨s0, s1, s2, s3, s4, s5, s6, s7, s8, s9, s10⟩; go_simp; with_reducible rfl) ?_
                      refine takeV 16 43 70 131071 HT_ HW_ hHeld rfl (by rintro w' ⟨s0, s1, s2, s3, s4, s5, s6, s7, s8, s9, s10⟩; go_simp; with_reducible rfl) ?_
                      refine pureV 17 44 70 262143 HT_ ?_
                      refine pureV 18 45 70 524287 HT_ ?_
                      refine pureV 19 46 70 1048575 HT_ ?_
                      refine pureV 20 47 70 2097151 HT_ ?_
                      refine pureV 21 48 70 4194303 HT_ ?_
                      refine pureV 23 50 70 12582911 HT_ ?_
                      refine pureV 24 51 70 29360127 HT_ ?_
                      refine takeV 22 49 70 33554431 HT_ HW_ hHeld rfl (by rintro w' ⟨s0, s1, s2, s3, s4, s5, s6, s7, s8, s9, s10⟩; go_simp; with_reducible rfl) ?_
                      refine takeV 25 52 70 67108863 HT_ HW_ hHeld rfl (by rintro w' ⟨s0, s1, s2, s3, s4, s5, s6, s7, s8, s9, s10⟩; go_simp; with_reducible rfl) ?_
                      refine pureV 26 53 70 134217727 HT_ ?_
                      refine pureV 27 54 70 268435455 HT_ ?_
                      refine pureV 28 55 70 536870911 HT_ ?_
                      refine pureV 29 56 70 1073741823 HT_ ?_
                      refine pureV 30 57 70 2147483647 HT_ ?_
                      refine pureV 32 59 70 6442450943 HT_ ?_
                      refine pureV 33 60 70 15032385535 HT_ ?_
                      refine pureV 36 63 70 83751862271 HT_ ?_
                      refine pureV 37 64 70 221190815743 HT_ ?_
                      refine takeV 31 58 70 223338299391 HT_ HW_ hHeld rfl (by rintro w' ⟨s0, s1, s2, s3, s4, s5, s6, s7, s8, s9, s10⟩; go_simp; with_reducible rfl) ?_
                      refine takeV 34 61 70 240518168575 HT_ HW_ hHeld rfl (by rintro w' ⟨s0, s1, s2, s3, s4, s5, s6, s7, s8, s9, s10⟩; go_simp; with_reducible rfl) ?_
                      refine pureV 35 62 70 274877906943 HT_ ?_
                      refine takeV 38 65 70 549755813887 HT_ HW_ hHeld rfl (by rintro w' ⟨s0, s1, s2, s3, s4, s5, s6, s7, s8, s9, s10⟩; go_simp; with_reducible rfl) ?_
                      refine pureV 39 66 70 1099511627775 HT_ ?_
                      refine pureV 40 67 70 2199023255551 HT_ ?_
                      refine pureV 41 68 70 4398046511103 HT_ ?_
                      refine pureV 42 69 70 8796093022207 HT_ ?_
                      refine pureV 44 71 70 26388279066623 HT_ ?_
                      refine pureV 45 72 70 61572651155455 HT_ ?_
                      refine pureV 48 75 70 343047627866111 HT_ ?_
                      refine pureV 49 76 70 905997581287423 HT_ ?_
                      refine pureV 52 79 70 5409597208657919 HT_ ?_
                      refine takeV 43 70 70 5418393301680127 HT_ HW_ hHeld rfl (by rintro w' ⟨s0, s1, s2, s3, s4, s5, s6, s7, s8, s9, s10⟩; go_simp; with_reducible rfl) ?_
                      refine takeV 46 73 70 5488762045857791 HT_ HW_ hHeld rfl (by rintro w' ⟨s0, s1, s2, s3, s4, s5, s6, s7, s8, s9, s10⟩; go_simp; with_reducible rfl) ?_
                      refine pureV 47 74 70 5629499534213119 HT_ ?_
                      refine takeV 50 77 70 6755399441055743 HT_ HW_ hHeld rfl (by rintro w' ⟨s0, s1, s2, s3, s4, s5, s6, s7, s8, s9, s10⟩; go_simp; with_reducible rfl) ?_
                      refine pureV 51 78 70 9007199254740991 HT_ ?_
                      refine pureV 53 80 70 18014398509481983 HT_ ?_
                      refine pureV 54 81 70 36028797018963967 HT_ ?_
                      refine pureV 55 82 70 72057594037927935 HT_ ?_
                      refine pureV 56 83 70 144115188075855871 HT_ ?_
                      refine pureV 57 84 70 288230376151711743 HT_ ?_
                      refine pureV 58 85 70 576460752303423487 HT_ ?_
                      refine pureV 59 86 70 1152921504606846975 HT_ ?_
                      refine pureV 60 87 70 2305843009213693951 HT_ ?_
                      refine pureV 61 88 70 4611686018427387903 HT_ ?_
                      refine pureV 62 89 70 9223372036854775807 HT_ ?_
                      refine pureV 63 90 70 18446744073709551615 HT_ ?_
                      refine pureV 65 92 70 55340232221128654847 HT_ ?_
                      refine takeV 64 91 70 73786976294838206463 HT_ HW_ hHeld rfl (by rintro w' ⟨s0, s1, s2, s3, s4, s5, s6, s7, s8, s9, s10⟩; go_simp; with_reducible rfl) ?_
                      refine one_ (i := 66) (N := some 93) (mb 70 147573952589676412927) rfl rfl (one_of HT_.out (by kernel_rfl)) (by decide) (fun K hK => ?_)
                      refine goes_ Try.func44 (by kernel_rfl) rfl #[.slice A147_0 (rd_L1 l1 (ji32)).length c147_0, .slice (some ad135) (rd_L1 l1 x22_2).length c133_0] (by rfl) rfl rfl (by (try simp only [List.map_toArray, List.map_cons, List.map_nil]); first | done | (simp only [hji32]; rfl) | rfl | (simp only [List.length_drop, List.length_take]; rfl)) ?_
                      with_reducible refine (spec_trLess.calls k2 _ _ (rd_L1 l1 (ji32)) _ _ (rd_L1 l1 x22_2) false _ ?side1 ?side2 ?side3 ?side4 A35.out).mono ?_
                      (case side1 => repeat (first | exact (Kd.C_below HR147_0.out (by repeat (first | (with_reducible first | exact HB.out | apply below_alloc | apply pw_below_drewN | apply below_drew1) | exact HB.out))) | (with_reducible refine Kd.C_alloc ?_ _) | (with_reducible refine Kd.C_drewN ?_ _) | (with_reducible refine Kd.C_drew ?_)))
                      (case side2 => exact HC147_0.out)
                      (case side3 => repeat (first | exact (Kd.C_below HR133_0.out (by repeat (first | (with_reducible first | exact HB.out | apply below_alloc | apply pw_below_drewN | apply below_drew1) | exact HB.out))) | (with_reducible refine Kd.C_alloc ?_ _) | (with_reducible refine Kd.C_drewN ?_ _) | (with_reducible refine Kd.C_drew ?_)))
                      (case side4 => exact HC133_0.out)
                      rintro e w' ⟨rfl, ⟨nd, rfl⟩⟩
                      refine ⟨_, rfl, ?_⟩
                      refine hK.out _ _ ⟨((HB.out.cell (World.block_lt_of_cell? w _ hw135_0)).trans hw135_0), ((HB.out.cell (World.block_lt_of_cell? w _ hw136_0)).trans hw136_0), ((HB.out.cell (World.block_lt_of_cell? w _ hw137_0)).trans hw137_0), ((HB.out.cell (World.block_lt_of_cell? w _ hw138_0)).trans hw138_0), ((HB.out.cell (World.block_lt_of_cell? w _ hw139_0)).trans hw139_0), ((HB.out.cell (World.block_lt_of_cell? w _ hw140_0)).trans hw140_0), ((HB.out.cell (World.block_lt_of_cell? w _ hw141_0)).trans hw141_0), ((HB.out.cell (World.block_lt_of_cell? w _ hw144_0)).trans hw144_0), ((HB.out.cell (World.block_lt_of_cell? w _ hw145_0)).trans hw145_0), ((HB.out.cell (World.block_lt_of_cell? w _ hw146_0)).trans hw146_0), ((HB.out.cell (World.block_lt_of_cell? w _ hw147_0)).trans hw147_0)⟩ (fun hHeld => ?_)
                      clear hK K
                      refine norm_ (a' := ?_) ?_ ?_
                      rotate_left
                      ·show Act.put _ (some 93) _ = _
                       simp only [Act.put, List.setIfInBounds_toArray, List.set_cons_zero, List.set_cons_succ, i64_w, i32_w]
                       rfl
                      refine pureV 67 94 70 295147905179352825855 HT_ ?_
                      refine pureV 68 95 70 590295810358705651711 HT_ ?_
                      refine pureV 69 96 70 1180591620717411303423 HT_ ?_
                      refine done_ (done_of HT_.out (by kernel_rfl)) ?_
                      try go_wp2
                      go_ret
                      exact ⟨by first | rfl | (simp [errW_none, errW_some] <;> rfl) | (simp only [← hji32]; first | rfl | (simp [errW_none, errW_some] <;> rfl)) | (simp [*, errW_none, errW_some] <;> rfl), by repeat (first | (with_reducible first | exact HB.out | apply below_alloc | apply pw_below_drewN | apply below_drew1) | exact HB.out)⟩
                    ·rw [if_neg c34] at H
                     exact absurd H (by simp)
                   ·rw [if_neg c33] at H
                    exact absurd H (by simp)
                  ·rw [if_neg c31] at H
                   have c31b0 : decide (0 < x22_2) = false := decide_eq_false c31
                   clear c31
                   have H' := Aside0.mk H
                   clear H
                   have p133 : 0 ≤ (x22_2 : Int) := of_decide_eq_true (by first | (with_reducible assumption) | assumption)
                   have q133 : x22_2 < (l1.length : Int) := of_decide_eq_true (by first | (with_reducible assumption) | assumption)
                   obtain ⟨ad133, A133_0, c133_0, e133, hx133_0, hl133_0, hi133_0⟩ := at_L1 HR1.out x22_2 p133 q133
                   cases e133
                   replace hx133_0 := (HB.out.cell (World.block_lt_of_cell? w _ hx133_0)).trans hx133_0
                   have HR133_0 := Aside0.mk hi133_0
                   have HC133_0 := Aside0.mk hl133_0
                   clear hi133_0 hl133_0
                   replace p133 := eq_true p133
                   replace q133 := eq_true q133
                   try go_wp2
                   have n0_ := Aside0.mk (below_drew1 HB.out)
                   clear HB
                   have HB := n0_
                   clear n0_
                   have p135 : 0 ≤ (0 : Int) := (by omega)
                   have q135 : 0 < ((rd_L1 l1 x22_2).length : Int) := of_decide_eq_true (by first | (with_reducible assumption) | assumption)
                   obtain ⟨ad135, e135, hx135_0⟩ := Kd.at_int HR133_0.out 0 p135 q135
                   have hw135_0 := hx135_0
                   (try rw [show ((0 : Int)).toNat = 0 from rfl] at hw135_0)
                   (try rw [show 0 * 1 = 0 from rfl] at hw135_0)
                   (try rw [Addr.add_zero'] at hw135_0)
                   cases e135
                   have qi135 : (0 < (rd_L1 l1 x22_2).length) = True := eq_true (by omega)
                   (try rw [show ((0 : Int)).toNat = 0 from rfl] at hx135_0)
                   (try rw [Addr.add_zero'] at hx135_0)
                   replace hx135_0 := (HB.out.cell (World.block_lt_of_cell? w _ hx135_0)).trans hx135_0
                   replace p135 := eq_true p135
                   replace q135 := eq_true q135
                   have p136 : 0 ≤ (1 : Int) := (by omega)
                   have q136 : 1 < ((rd_L1 l1 x22_2).length : Int) := of_decide_eq_true (by first | (with_reducible assumption) | assumption)
                   obtain ⟨ad136, e136, hx136_0⟩ := Kd.at_int HR133_0.out 1 p136 q136
                   have hw136_0 := hx136_0
                   (try rw [show ((1 : Int)).toNat = 1 from rfl] at hw136_0)
                   (try rw [show 1 * 1 = 1 from rfl] at hw136_0)
                   (try simp only [Nat.reduceMul, Nat.reduceEqDiff, Go.Addr.add, ↓reduceIte] at hw136_0)
                   obtain rfl : ad135 = ad136 := (by injection e136)
                   (try simp only [show (1 : Int).toNat = 1 from rfl, Nat.reduceMul, Nat.reduceEqDiff, Go.Addr.add, ↓reduceIte] at hx136_0)
                   have qi136 : (1 < (rd_L1 l1 x22_2).length) = True := eq_true (by omega)
                   (try rw [show ((1 : Int)).toNat = 1 from rfl] at hx136_0)
                   replace hx136_0 := (HB.out.cell (World.block_lt_of_cell? w _ hx136_0)).trans hx136_0
                   replace p136 := eq_true p136
                   replace q136 := eq_true q136
                   have p137 : 0 ≤ (1 : Int) := (by omega)
                   have q137 : 1 < ((rd_L1 l1 x22_2).length : Int) := of_decide_eq_true (by first | (with_reducible assumption) | assumption)
                   obtain ⟨ad137, e137, hx137_0⟩ := Kd.at_int HR133_0.out 1 p137 q137
                   have hw137_0 := hx137_0
                   (try rw [show ((1 : Int)).toNat = 1 from rfl] at hw137_0)
                   (try rw [show 1 * 1 = 1 from rfl] at hw137_0)
                   (try simp only [Nat.reduceMul, Nat.reduceEqDiff, Go.Addr.add, ↓reduceIte] at hw137_0)
                   obtain rfl : ad135 = ad137 := (by injection e137)
                   (try simp only [show (1 : Int).toNat = 1 from rfl, Nat.reduceMul, Nat.reduceEqDiff, Go.Addr.add, ↓reduceIte] at hx137_0)
                   have qi137 : (1 < (rd_L1 l1 x22_2).length) = True := eq_true (by omega)
                   (try rw [show ((1 : Int)).toNat = 1 from rfl] at hx137_0)
                   replace hx137_0 := (HB.out.cell (World.block_lt_of_cell? w _ hx137_0)).trans hx137_0
                   replace p137 := eq_true p137
                   replace q137 := eq_true q137
                   have p138 : 0 ≤ (2 : Int) := (by omega)
                   have q138 : 2 < ((rd_L1 l1 x22_2).length : Int) := of_decide_eq_true (by first | (with_reducible assumption) | assumption)
                   obtain ⟨ad138, e138, hx138_0⟩ := Kd.at_int HR133_0.out 2 p138 q138
                   have hw138_0 := hx138_0
                   (try rw [show ((2 : Int)).toNat = 2 from rfl] at hw138_0)
                   (try rw [show 2 * 1 = 2 from rfl] at hw138_0)
                   (try simp only [Nat.reduceMul, Nat.reduceEqDiff, Go.Addr.add, ↓reduceIte] at hw138_0)
                   obtain rfl : ad135 = ad138 := (by injection e138)
                   (try simp only [show (2 : Int).toNat = 2 from rfl, Nat.reduceMul, Nat.reduceEqDiff, Go.Addr.add, ↓reduceIte] at hx138_0)
                   have qi138 : (2 < (rd_L1 l1 x22_2).length) = True := eq_true (by omega)
                   (try rw [show ((2 : Int)).toNat = 2 from rfl] at hx138_0)
                   replace hx138_0 := (HB.out.cell (World.block_lt_of_cell? w _ hx138_0)).trans hx138_0
                   replace p138 := eq_true p138
                   replace q138 := eq_true q138
                   have p139 : 0 ≤ (0 : Int) := (by omega)
                   have q139 : 0 < ((rd_L1 l1 x22_2).length : Int) := of_decide_eq_true (by first | (with_reducible assumption) | assumption)
                   obtain ⟨ad139, e139, hx139_0⟩ := Kd.at_int HR133_0.out 0 p139 q139
                   have hw139_0 := hx139_0
                   (try rw [show ((0 : Int)).toNat = 0 from rfl] at hw139_0)
                   (try rw [show 0 * 1 = 0 from rfl] at hw139_0)
                   (try rw [Addr.add_zero'] at hw139_0)
                   obtain rfl : ad135 = ad139 := (by injection e139)
                   have qi139 : (0 < (rd_L1 l1 x22_2).length) = True := eq_true (by omega)
                   (try rw [show ((0 : Int)).toNat = 0 from rfl] at hx139_0)
                   (try rw [Addr.add_zero'] at hx139_0)
                   replace hx139_0 := (HB.out.cell (World.block_lt_of_cell? w _ hx139_0)).trans hx139_0
                   replace p139 := eq_true p139
                   replace q139 := eq_true q139
                   have p140 : 0 ≤ (1 : Int) := (by omega)
                   have q140 : 1 < ((rd_L1 l1 x22_2).length : Int) := of_decide_eq_true (by first | (with_reducible assumption) | assumption)
                   obtain ⟨ad140, e140, hx140_0⟩ := Kd.at_int HR133_0.out 1 p140 q140
                   have hw140_0 := hx140_0
                   (try rw [show ((1 : Int)).toNat = 1 from rfl] at hw140_0)
                   (try rw [show 1 * 1 = 1 from rfl] at hw140_0)
                   (try simp only [Nat.reduceMul, Nat.reduceEqDiff, Go.Addr.add, ↓reduceIte] at hw140_0)
                   obtain rfl : ad135 = ad140 := (by injection e140)
                   (try simp only [show (1 : Int).toNat = 1 from rfl, Nat.reduceMul, Nat.reduceEqDiff, Go.Addr.add, ↓reduceIte] at hx140_0)
                   have qi140 : (1 < (rd_L1 l1 x22_2).length) = True := eq_true (by omega)
                   (try rw [show ((1 : Int)).toNat = 1 from rfl] at hx140_0)
                   replace hx140_0 := (HB.out.cell (World.block_lt_of_cell? w _ hx140_0)).trans hx140_0
                   replace p140 := eq_true p140
                   replace q140 := eq_true q140
                   have p141 : 0 ≤ (2 : Int) := (by omega)
                   have q141 : 2 < ((rd_L1 l1 x22_2).length : Int) := of_decide_eq_true (by first | (with_reducible assumption) | assumption)
                   obtain ⟨ad141, e141, hx141_0⟩ := Kd.at_int HR133_0.out 2 p141 q141
                   have hw141_0 := hx141_0
                   (try rw [show ((2 : Int)).toNat = 2 from rfl] at hw141_0)
                   (try rw [show 2 * 1 = 2 from rfl] at hw141_0)
                   (try simp only [Nat.reduceMul, Nat.reduceEqDiff, Go.Addr.add, ↓reduceIte] at hw141_0)
                   obtain rfl : ad135 = ad141 := (by injection e141)
                   (try simp only [show (2 : Int).toNat = 2 from rfl, Nat.reduceMul, Nat.reduceEqDiff, Go.Addr.add, ↓reduceIte] at hx141_0)
                   have qi141 : (2 < (rd_L1 l1 x22_2).length) = True := eq_true (by omega)
                   (try rw [show ((2 : Int)).toNat = 2 from rfl] at hx141_0)
                   replace hx141_0 := (HB.out.cell (World.block_lt_of_cell? w _ hx141_0)).trans hx141_0
                   replace p141 := eq_true p141
                   replace q141 := eq_true q141
                   have p144 : 0 ≤ (0 : Int) := (by omega)
                   have q144 : 0 < ((rd_L1 l1 x22_2).length : Int) := of_decide_eq_true (by first | (with_reducible assumption) | assumption)
                   obtain ⟨ad144, e144, hx144_0⟩ := Kd.at_int HR133_0.out 0 p144 q144
                   have hw144_0 := hx144_0
                   (try rw [show ((0 : Int)).toNat = 0 from rfl] at hw144_0)
                   (try rw [show 0 * 1 = 0 from rfl] at hw144_0)
                   (try rw [Addr.add_zero'] at hw144_0)
                   obtain rfl : ad135 = ad144 := (by injection e144)
                   have qi144 : (0 < (rd_L1 l1 x22_2).length) = True := eq_true (by omega)
                   (try rw [show ((0 : Int)).toNat = 0 from rfl] at hx144_0)
                   (try rw [Addr.add_zero'] at hx144_0)
                   replace hx144_0 := (HB.out.cell (World.block_lt_of_cell? w _ hx144_0)).trans hx144_0
                   replace p144 := eq_true p144
                   replace q144 := eq_true q144
                   have p145 : 0 ≤ (1 : Int) := (by omega)
                   have q145 : 1 < ((rd_L1 l1 x22_2).length : Int) := of_decide_eq_true (by first | (with_reducible assumption) | assumption)
                   obtain ⟨ad145, e145, hx145_0⟩ := Kd.at_int HR133_0.out 1 p145 q145
                   have hw145_0 := hx145_0
                   (try rw [show ((1 : Int)).toNat = 1 from rfl] at hw145_0)
                   (try rw [show 1 * 1 = 1 from rfl] at hw145_0)
                   (try simp only [Nat.reduceMul, Nat.reduceEqDiff, Go.Addr.add, ↓reduceIte] at hw145_0)
                   obtain rfl : ad135 = ad145 := (by injection e145)
                   (try simp only [show (1 : Int).toNat = 1 from rfl, Nat.reduceMul, Nat.reduceEqDiff, Go.Addr.add, ↓reduceIte] at hx145_0)
                   have qi145 : (1 < (rd_L1 l1 x22_2).length) = True := eq_true (by omega)
                   (try rw [show ((1 : Int)).toNat = 1 from rfl] at hx145_0)
                   replace hx145_0 := (HB.out.cell (World.block_lt_of_cell? w _ hx145_0)).trans hx145_0
                   replace p145 := eq_true p145
                   replace q145 := eq_true q145
                   have p146 : 0 ≤ (2 : Int) := (by omega)
                   have q146 : 2 < ((rd_L1 l1 x22_2).length : Int) := of_decide_eq_true (by first | (with_reducible assumption) | assumption)
                   obtain ⟨ad146, e146, hx146_0⟩ := Kd.at_int HR133_0.out 2 p146 q146
                   have hw146_0 := hx146_0
                   (try rw [show ((2 : Int)).toNat = 2 from rfl] at hw146_0)
                   (try rw [show 2 * 1 = 2 from rfl] at hw146_0)
                   (try simp only [Nat.reduceMul, Nat.reduceEqDiff, Go.Addr.add, ↓reduceIte] at hw146_0)
                   obtain rfl : ad135 = ad146 := (by injection e146)
                   (try simp only [show (2 : Int).toNat = 2 from rfl, Nat.reduceMul, Nat.reduceEqDiff, Go.Addr.add, ↓reduceIte] at hx146_0)
                   have qi146 : (2 < (rd_L1 l1 x22_2).length) = True := eq_true (by omega)
                   (try rw [show ((2 : Int)).toNat = 2 from rfl] at hx146_0)
                   replace hx146_0 := (HB.out.cell (World.block_lt_of_cell? w _ hx146_0)).trans hx146_0
                   replace p146 := eq_true p146
                   replace q146 := eq_true q146
                   refine start_ (n := 70) (S := fun w' => w'.cell? ad135 = some (.int .i64 (rd (rd_L1 l1 x22_2) 0)) ∧ w'.cell? ⟨ad135.block, ad135.off + 1, none⟩ = some (.int .i64 (rd (rd_L1 l1 x22_2) 1)) ∧ w'.cell? ⟨ad135.block, ad135.off + 1, none⟩ = some (.int .i64 (rd (rd_L1 l1 x22_2) 1)) ∧ w'.cell? ⟨ad135.block, ad135.off + 2, none⟩ = some (.int .i64 (rd (rd_L1 l1 x22_2) 2)) ∧ w'.cell? ad135 = some (.int .i64 (rd (rd_L1 l1 x22_2) 0)) ∧ w'.cell? ⟨ad135.block, ad135.off + 1, none⟩ = some (.int .i64 (rd (rd_L1 l1 x22_2) 1)) ∧ w'.cell? ⟨ad135.block, ad135.off + 2, none⟩ = some (.int .i64 (rd (rd_L1 l1 x22_2) 2)) ∧ w'.cell? ad135 = some (.int .i64 (rd (rd_L1 l1 x22_2) 0)) ∧ w'.cell? ⟨ad135.block, ad135.off + 1, none⟩ = some (.int .i64 (rd (rd_L1 l1 x22_2) 1)) ∧ w'.cell? ⟨ad135.block, ad135.off + 2, none⟩ = some (.int .i64 (rd (rd_L1 l1 x22_2) 2))) (ds := []) (mb 70 0) (by kernel_rfl) rfl rfl ⟨((HB.out.cell (World.block_lt_of_cell? w _ hw135_0)).trans hw135_0), ((HB.out.cell (World.block_lt_of_cell? w _ hw136_0)).trans hw136_0), ((HB.out.cell (World.block_lt_of_cell? w _ hw137_0)).trans hw137_0), ((HB.out.cell (World.block_lt_of_cell? w _ hw138_0)).trans hw138_0), ((HB.out.cell (World.block_lt_of_cell? w _ hw139_0)).trans hw139_0), ((HB.out.cell (World.block_lt_of_cell? w _ hw140_0)).trans hw140_0), ((HB.out.cell (World.block_lt_of_cell? w _ hw141_0)).trans hw141_0), ((HB.out.cell (World.block_lt_of_cell? w _ hw144_0)).trans hw144_0), ((HB.out.cell (World.block_lt_of_cell? w _ hw145_0)).trans hw145_0), ((HB.out.cell (World.block_lt_of_cell? w _ hw146_0)).trans hw146_0)⟩ (fun hHeld => ?_); refine with_tabW spec_trDifferences.tab7 spec_trDifferences.bits7 (fun HT_ HW_ => ?_)
                   generalize wr.drew = w39 at HB hx135_0 hx136_0 hx137_0 hx138_0 hx139_0 hx140_0 hx141_0 hx144_0 hx145_0 hx146_0 hHeld ⊢
                   refine pureV 0 27 70 1 HT_ ?_
                   refine pureV 1 28 70 3 HT_ ?_
                   refine pureV 2 29 70 7 HT_ ?_
                   refine pureV 3 30 70 15 HT_ ?_
                   refine pureV 4 31 70 31 HT_ ?_
                   refine pureV 5 32 70 63 HT_ ?_
                   refine pureV 6 33 70 127 HT_ ?_
                   refine one_ (i := 7) (N := some 34) (mb 70 255) rfl rfl (one_of HT_.out (by kernel_rfl)) (by decide) (fun K hK => ?_)
                   refine goes_ Try.func43 (by kernel_rfl) rfl #[.slice (some ad135) (rd_L1 l1 x22_2).length c133_0, .int .i64 1, .int .i64 (wrap64 (3 * (l1.length : Int)))] (by rfl) rfl rfl (by (try simp only [List.map_toArray, List.map_cons, List.map_nil]); first | done | rfl | (simp only [List.length_drop, List.length_take]; rfl)) ?_
                   with_reducible refine (spec_l1All.calls k2 _ _ (rd_L1 l1 x22_2) 1 (wrap64 (3 * (l1.length : Int))) true _ ?side1 ?side2 A11.out).mono ?_
                   (case side1 => repeat (first | exact (Kd.C_below HR133_0.out HB.out) | (with_reducible refine Kd.C_alloc ?_ _) | (with_reducible refine Kd.C_drewN ?_ _) | (with_reducible refine Kd.C_drew ?_)))
                   (case side2 => exact HC133_0.out)
                   rintro e w' ⟨rfl, ⟨nd, rfl⟩⟩
                   refine ⟨_, rfl, ?_⟩
                   refine hK.out _ _ ⟨((HB.out.cell (World.block_lt_of_cell? w _ hw135_0)).trans hw135_0), ((HB.out.cell (World.block_lt_of_cell? w _ hw136_0)).trans hw136_0), ((HB.out.cell (World.block_lt_of_cell? w _ hw137_0)).trans hw137_0), ((HB.out.cell (World.block_lt_of_cell? w _ hw138_0)).trans hw138_0), ((HB.out.cell (World.block_lt_of_cell? w _ hw139_0)).trans hw139_0), ((HB.out.cell (World.block_lt_of_cell? w _ hw140_0)).trans hw140_0), ((HB.out.cell (World.block_lt_of_cell? w _ hw141_0)).trans hw141_0), ((HB.out.cell (World.block_lt_of_cell? w _ hw144_0)).trans hw144_0), ((HB.out.cell (World.block_lt_of_cell? w _ hw145_0)).trans hw145_0), ((HB.out.cell (World.block_lt_of_cell? w _ hw146_0)).trans hw146_0)⟩ (fun hHeld => ?_)
                   clear hK K
                   refine norm_ (a' := ?_) ?_ ?_
                   rotate_left
                   ·show Act.put _ (some 34) _ = _
                    simp only [Act.put, List.setIfInBounds_toArray, List.set_cons_zero, List.set_cons_succ, i64_w, i32_w]
                    rfl
                   refine pureV 8 35 70 511 HT_ ?_
                   refine pureV 9 36 70 1023 HT_ ?_
                   refine pureV 10 37 70 2047 HT_ ?_
                   refine pureV 11 38 70 4095 HT_ ?_
                   refine pureV 12 39 70 8191 HT_ ?_
                   refine pureV 14 41 70 24575 HT_ ?_
                   refine pureV 15 42 70 57343 HT_ ?_
                   refine takeV 13 40 70 65535 HT_ HW_ hHeld rfl (by rintro w' ⟨s0, s1, s2, s3, s4, s5, s6, s7, s8, s9⟩; go_simp; with_reducible rfl) ?_
                   refine takeV 16 43 70 131071 HT_ HW_ hHeld rfl (by rintro w' ⟨s0, s1, s2, s3, s4, s5, s6, s7, s8, s9⟩; go_simp; with_reducible rfl) ?_
                   refine pureV 17 44 70 262143 HT_ ?_
                   refine pureV 18 45 70 524287 HT_ ?_
                   refine pureV 19 46 70 1048575 HT_ ?_
                   refine pureV 20 47 70 2097151 HT_ ?_
                   refine pureV 21 48 70 4194303 HT_ ?_
                   refine pureV 23 50 70 12582911 HT_ ?_
                   refine pureV 24 51 70 29360127 HT_ ?_
                   refine takeV 22 49 70 33554431 HT_ HW_ hHeld rfl (by rintro w' ⟨s0, s1, s2, s3, s4, s5, s6, s7, s8, s9⟩; go_simp; with_reducible rfl) ?_
                   refine takeV 25 52 70 67108863 HT_ HW_ hHeld rfl (by rintro w' ⟨s0, s1, s2, s3, s4, s5, s6, s7, s8, s9⟩; go_simp; with_reducible rfl) ?_
                   refine pureV 26 53 70 134217727 HT_ ?_
                   refine pureV 27 54 70 268435455 HT_ ?_
                   refine pureV 28 55 70 536870911 HT_ ?_
                   refine pureV 29 56 70 1073741823 HT_ ?_
                   refine pureV 30 57 70 2147483647 HT_ ?_
                   refine pureV 32 59 70 6442450943 HT_ ?_
                   refine pureV 33 60 70 15032385535 HT_ ?_
                   refine pureV 36 63 70 83751862271 HT_ ?_
                   refine pureV 37 64 70 221190815743 HT_ ?_
                   refine takeV 31 58 70 223338299391 HT_ HW_ hHeld rfl (by rintro w' ⟨s0, s1, s2, s3, s4, s5, s6, s7, s8, s9⟩; go_simp; with_reducible rfl) ?_
                   refine takeV 34 61 70 240518168575 HT_ HW_ hHeld rfl (by rintro w' ⟨s0, s1, s2, s3, s4, s5, s6, s7, s8, s9⟩; go_simp; with_reducible rfl) ?_
                   refine pureV 35 62 70 274877906943 HT_ ?_
                   refine takeV 38 65 70 549755813887 HT_ HW_ hHeld rfl (by rintro w' ⟨s0, s1, s2, s3, s4, s5, s6, s7, s8, s9⟩; go_simp; with_reducible rfl) ?_
                   refine pureV 39 66 70 1099511627775 HT_ ?_
                   refine pureV 40 67 70 2199023255551 HT_ ?_
                   refine pureV 41 68 70 4398046511103 HT_ ?_
                   refine pureV 42 69 70 8796093022207 HT_ ?_
                   refine pureV 44 71 70 26388279066623 HT_ ?_
                   refine pureV 45 72 70 61572651155455 HT_ ?_
                   refine pureV 48 75 70 343047627866111 HT_ ?_
                   refine pureV 49 76 70 905997581287423 HT_ ?_
                   refine pureV 52 79 70 5409597208657919 HT_ ?_
                   refine takeV 43 70 70 5418393301680127 HT_ HW_ hHeld rfl (by rintro w' ⟨s0, s1, s2, s3, s4, s5, s6, s7, s8, s9⟩; go_simp; with_reducible rfl) ?_
                   refine takeV 46 73 70 5488762045857791 HT_ HW_ hHeld rfl (by rintro w' ⟨s0, s1, s2, s3, s4, s5, s6, s7, s8, s9⟩; go_simp; with_reducible rfl) ?_
                   refine pureV 47 74 70 5629499534213119 HT_ ?_
                   refine takeV 50 77 70 6755399441055743 HT_ HW_ hHeld rfl (by rintro w' ⟨s0, s1, s2, s3, s4, s5, s6, s7, s8, s9⟩; go_simp; with_reducible rfl) ?_
                   refine pureV 51 78 70 9007199254740991 HT_ ?_
                   refine pureV 53 80 70 18014398509481983 HT_ ?_
                   refine pureV 54 81 70 36028797018963967 HT_ ?_
                   refine pureV 55 82 70 72057594037927935 HT_ ?_
                   refine pureV 56 83 70 144115188075855871 HT_ ?_
                   refine pureV 57 84 70 288230376151711743 HT_ ?_
                   refine pureV 58 85 70 576460752303423487 HT_ ?_
                   refine pureV 59 86 70 1152921504606846975 HT_ ?_
                   refine pureU 60 87 70 2305843009213693951 HT_ ?_
                   refine pureU 61 88 70 4611686018427387903 HT_ ?_
                   refine pureU 62 89 70 9223372036854775807 HT_ ?_
                   refine pureU 63 90 70 18446744073709551615 HT_ ?_
                   refine pureU 64 91 70 36893488147419103231 HT_ ?_
                   refine pureU 65 92 70 73786976294838206463 HT_ ?_
                   refine pureU 66 93 70 147573952589676412927 HT_ ?_
                   refine pureU 67 94 70 295147905179352825855 HT_ ?_
                   refine pureV 68 95 70 590295810358705651711 HT_ ?_
                   refine pureV 69 96 70 1180591620717411303423 HT_ ?_
                   refine done_ (done_of HT_.out (by kernel_rfl)) ?_
                   try go_wp2
                   go_roundg k2
                   case measure => have := HJ2.out; have := HK2.out; omega
                   case rel => exact ⟨(wrap64 (x22_2 + 1)), (by first | rfl | (simp; done) | (simp [*]; done)), H', ⟨by have := HJ2.out; have := HK2.out; omega⟩, ⟨by repeat (first | (with_reducible first | exact HB.out | apply below_alloc | apply pw_below_drewN | apply below_drew1) | exact HB.out)⟩⟩
                 ·rw [if_neg c30] at H
                  have c30b0 : ((wrap64 ((wrap64 ((rd (rd_L1 l1 x22_2) 0) + (rd (rd_L1 l1 x22_2) 1))) + (rd (rd_L1 l1 x22_2) 2))) == a0) = false := beq_eq_false_iff_ne.mpr c30
                  have c30b1 : ((wrap64 ((wrap64 ((rd (rd_L1 l1 x22_2) 0) + (rd (rd_L1 l1 x22_2) 1))) + (rd (rd_L1 l1 x22_2) 2))) != a0) = true := bne_iff_ne.mpr c30
                  obtain rfl := Option.some.inj H
                  have p133 : 0 ≤ (x22_2 : Int) := of_decide_eq_true (by first | (with_reducible assumption) | assumption)
                  have q133 : x22_2 < (l1.length : Int) := of_decide_eq_true (by first | (with_reducible assumption) | assumption)
                  obtain ⟨ad133, A133_0, c133_0, e133, hx133_0, hl133_0, hi133_0⟩ := at_L1 HR1.out x22_2 p133 q133
                  cases e133
                  replace hx133_0 := (HB.out.cell (World.block_lt_of_cell? w _ hx133_0)).trans hx133_0
                  have HR133_0 := Aside0.mk hi133_0
                  have HC133_0 := Aside0.mk hl133_0
                  clear hi133_0 hl133_0
                  replace p133 := eq_true p133
                  replace q133 := eq_true q133
                  try go_wp2
                  have n0_ := Aside0.mk (below_drew1 HB.out)
                  clear HB
                  have HB := n0_
                  clear n0_
                  have p135 : 0 ≤ (0 : Int) := (by omega)
                  have q135 : 0 < ((rd_L1 l1 x22_2).length : Int) := of_decide_eq_true (by first | (with_reducible assumption) | assumption)
                  obtain ⟨ad135, e135, hx135_0⟩ := Kd.at_int HR133_0.out 0 p135 q135
                  have hw135_0 := hx135_0
                  (try rw [show ((0 : Int)).toNat = 0 from rfl] at hw135_0)
                  (try rw [show 0 * 1 = 0 from rfl] at hw135_0)
                  (try rw [Addr.add_zero'] at hw135_0)
                  cases e135
                  have qi135 : (0 < (rd_L1 l1 x22_2).length) = True := eq_true (by omega)
                  (try rw [show ((0 : Int)).toNat = 0 from rfl] at hx135_0)
                  (try rw [Addr.add_zero'] at hx135_0)
                  replace hx135_0 := (HB.out.cell (World.block_lt_of_cell? w _ hx135_0)).trans hx135_0
                  replace p135 := eq_true p135
                  replace q135 := eq_true q135
                  have p136 : 0 ≤ (1 : Int) := (by omega)
                  have q136 : 1 < ((rd_L1 l1 x22_2).length : Int) := of_decide_eq_true (by first | (with_reducible assumption) | assumption)
                  obtain ⟨ad136, e136, hx136_0⟩ := Kd.at_int HR133_0.out 1 p136 q136
                  have hw136_0 := hx136_0
                  (try rw [show ((1 : Int)).toNat = 1 from rfl] at hw136_0)
                  (try rw [show 1 * 1 = 1 from rfl] at hw136_0)
                  (try simp only [Nat.reduceMul, Nat.reduceEqDiff, Go.Addr.add, ↓reduceIte] at hw136_0)
                  obtain rfl : ad135 = ad136 := (by injection e136)
                  (try simp only [show (1 : Int).toNat = 1 from rfl, Nat.reduceMul, Nat.reduceEqDiff, Go.Addr.add, ↓reduceIte] at hx136_0)
                  have qi136 : (1 < (rd_L1 l1 x22_2).length) = True := eq_true (by omega)
                  (try rw [show ((1 : Int)).toNat = 1 from rfl] at hx136_0)
                  replace hx136_0 := (HB.out.cell (World.block_lt_of_cell? w _ hx136_0)).trans hx136_0
                  replace p136 := eq_true p136
                  replace q136 := eq_true q136
                  have p137 : 0 ≤ (1 : Int) := (by omega)
                  have q137 : 1 < ((rd_L1 l1 x22_2).length : Int) := of_decide_eq_true (by first | (with_reducible assumption) | assumption)
                  obtain ⟨ad137, e137, hx137_0⟩ := Kd.at_int HR133_0.out 1 p137 q137
                  have hw137_0 := hx137_0
                  (try rw [show ((1 : Int)).toNat = 1 from rfl] at hw137_0)
                  (try rw [show 1 * 1 = 1 from rfl] at hw137_0)
                  (try simp only [Nat.reduceMul, Nat.reduceEqDiff, Go.Addr.add, ↓reduceIte] at hw137_0)
                  obtain rfl : ad135 = ad137 := (by injection e137)
                  (try simp only [show (1 : Int).toNat = 1 from rfl, Nat.reduceMul, Nat.reduceEqDiff, Go.Addr.add, ↓reduceIte] at hx137_0)
                  have qi137 : (1 < (rd_L1 l1 x22_2).length) = True := eq_true (by omega)
                  (try rw [show ((1 : Int)).toNat = 1 from rfl] at hx137_0)
                  replace hx137_0 := (HB.out.cell (World.block_lt_of_cell? w _ hx137_0)).trans hx137_0
                  replace p137 := eq_true p137
                  replace q137 := eq_true q137
                  have p138 : 0 ≤ (2 : Int) := (by omega)
                  have q138 : 2 < ((rd_L1 l1 x22_2).length : Int) := of_decide_eq_true (by first | (with_reducible assumption) | assumption)
                  obtain ⟨ad138, e138, hx138_0⟩ := Kd.at_int HR133_0.out 2 p138 q138
                  have hw138_0 := hx138_0
                  (try rw [show ((2 : Int)).toNat = 2 from rfl] at hw138_0)
                  (try rw [show 2 * 1 = 2 from rfl] at hw138_0)
                  (try simp only [Nat.reduceMul, Nat.reduceEqDiff, Go.Addr.add, ↓reduceIte] at hw138_0)
                  obtain rfl : ad135 = ad138 := (by injection e138)
                  (try simp only [show (2 : Int).toNat = 2 from rfl, Nat.reduceMul, Nat.reduceEqDiff, Go.Addr.add, ↓reduceIte] at hx138_0)
                  have qi138 : (2 < (rd_L1 l1 x22_2).length) = True := eq_true (by omega)
                  (try rw [show ((2 : Int)).toNat = 2 from rfl] at hx138_0)
                  replace hx138_0 := (HB.out.cell (World.block_lt_of_cell? w _ hx138_0)).trans hx138_0
                  replace p138 := eq_true p138
                  replace q138 := eq_true q138
                  have p139 : 0 ≤ (0 : Int) := (by omega)
                  have q139 : 0 < ((rd_L1 l1 x22_2).length : Int) := of_decide_eq_true (by first | (with_reducible assumption) | assumption)
                  obtain ⟨ad139, e139, hx139_0⟩ := Kd.at_int HR133_0.out 0 p139 q139
                  have hw139_0 := hx139_0
                  (try rw [show ((0 : Int)).toNat = 0 from rfl] at hw139_0)
                  (try rw [show 0 * 1 = 0 from rfl] at hw139_0)
                  (try rw [Addr.add_zero'] at hw139_0)
                  obtain rfl : ad135 = ad139 := (by injection e139)
                  have qi139 : (0 < (rd_L1 l1 x22_2).length) = True := eq_true (by omega)
                  (try rw [show ((0 : Int)).toNat = 0 from rfl] at hx139_0)
                  (try rw [Addr.add_zero'] at hx139_0)
                  replace hx139_0 := (HB.out.cell (World.block_lt_of_cell? w _ hx139_0)).trans hx139_0
                  replace p139 := eq_true p139
                  replace q139 := eq_true q139
                  have p140 : 0 ≤ (1 : Int) := (by omega)
                  have q140 : 1 < ((rd_L1 l1 x22_2).length : Int) := of_decide_eq_true (by first | (with_reducible assumption) | assumption)
                  obtain ⟨ad140, e140, hx140_0⟩ := Kd.at_int HR133_0.out 1 p140 q140
                  have hw140_0 := hx140_0
                  (try rw [show ((1 : Int)).toNat = 1 from rfl] at hw140_0)
                  (try rw [show 1 * 1 = 1 from rfl] at hw140_0)
                  (try simp only [Nat.reduceMul, Nat.reduceEqDiff, Go.Addr.add, ↓reduceIte] at hw140_0)
                  obtain rfl : ad135 = ad140 := (by injection e140)
                  (try simp only [show (1 : Int).toNat = 1 from rfl, Nat.reduceMul, Nat.reduceEqDiff, Go.Addr.add, ↓reduceIte] at hx140_0)
                  have qi140 : (1 < (rd_L1 l1 x22_2).length) = True := eq_true (by omega)
                  (try rw [show ((1 : Int)).toNat = 1 from rfl] at hx140_0)
                  replace hx140_0 := (HB.out.cell (World.block_lt_of_cell? w _ hx140_0)).trans hx140_0
                  replace p140 := eq_true p140
                  replace q140 := eq_true q140
                  have p141 : 0 ≤ (2 : Int) := (by omega)
                  have q141 : 2 < ((rd_L1 l1 x22_2).length : Int) := of_decide_eq_true (by first | (with_reducible assumption) | assumption)
                  obtain ⟨ad141, e141, hx141_0⟩ := Kd.at_int HR133_0.out 2 p141 q141
                  have hw141_0 := hx141_0
                  (try rw [show ((2 : Int)).toNat = 2 from rfl] at hw141_0)
                  (try rw [show 2 * 1 = 2 from rfl] at hw141_0)
                  (try simp only [Nat.reduceMul, Nat.reduceEqDiff, Go.Addr.add, ↓reduceIte] at hw141_0)
                  obtain rfl : ad135 = ad141 := (by injection e141)
                  (try simp only [show (2 : Int).toNat = 2 from rfl, Nat.reduceMul, Nat.reduceEqDiff, Go.Addr.add, ↓reduceIte] at hx141_0)
                  have qi141 : (2 < (rd_L1 l1 x22_2).length) = True := eq_true (by omega)
                  (try rw [show ((2 : Int)).toNat = 2 from rfl] at hx141_0)
                  replace hx141_0 := (HB.out.cell (World.block_lt_of_cell? w _ hx141_0)).trans hx141_0
                  replace p141 := eq_true p141
                  replace q141 := eq_true q141
                  have p144 : 0 ≤ (0 : Int) := (by omega)
                  have q144 : 0 < ((rd_L1 l1 x22_2).length : Int) := of_decide_eq_true (by first | (with_reducible assumption) | assumption)
                  obtain ⟨ad144, e144, hx144_0⟩ := Kd.at_int HR133_0.out 0 p144 q144
                  have hw144_0 := hx144_0
                  (try rw [show ((0 : Int)).toNat = 0 from rfl] at hw144_0)
                  (try rw [show 0 * 1 = 0 from rfl] at hw144_0)
                  (try rw [Addr.add_zero'] at hw144_0)
                  obtain rfl : ad135 = ad144 := (by injection e144)
                  have qi144 : (0 < (rd_L1 l1 x22_2).length) = True := eq_true (by omega)
                  (try rw [show ((0 : Int)).toNat = 0 from rfl] at hx144_0)
                  (try rw [Addr.add_zero'] at hx144_0)
                  replace hx144_0 := (HB.out.cell (World.block_lt_of_cell? w _ hx144_0)).trans hx144_0
                  replace p144 := eq_true p144
                  replace q144 := eq_true q144
                  have p145 : 0 ≤ (1 : Int) := (by omega)
                  have q145 : 1 < ((rd_L1 l1 x22_2).length : Int) := of_decide_eq_true (by first | (with_reducible assumption) | assumption)
                  obtain ⟨ad145, e145, hx145_0⟩ := Kd.at_int HR133_0.out 1 p145 q145
                  have hw145_0 := hx145_0
                  (try rw [show ((1 : Int)).toNat = 1 from rfl] at hw145_0)
                  (try rw [show 1 * 1 = 1 from rfl] at hw145_0)
                  (try simp only [Nat.reduceMul, Nat.reduceEqDiff, Go.Addr.add, ↓reduceIte] at hw145_0)
                  obtain rfl : ad135 = ad145 := (by injection e145)
                  (try simp only [show (1 : Int).toNat = 1 from rfl, Nat.reduceMul, Nat.reduceEqDiff, Go.Addr.add, ↓reduceIte] at hx145_0)
                  have qi145 : (1 < (rd_L1 l1 x22_2).length) = True := eq_true (by omega)
                  (try rw [show ((1 : Int)).toNat = 1 from rfl] at hx145_0)
                  replace hx145_0 := (HB.out.cell (World.block_lt_of_cell? w _ hx145_0)).trans hx145_0
                  replace p145 := eq_true p145
                  replace q145 := eq_true q145
                  have p146 : 0 ≤ (2 : Int) := (by omega)
                  have q146 : 2 < ((rd_L1 l1 x22_2).length : Int) := of_decide_eq_true (by first | (with_reducible assumption) | assumption)
                  obtain ⟨ad146, e146, hx146_0⟩ := Kd.at_int HR133_0.out 2 p146 q146
                  have hw146_0 := hx146_0
                  (try rw [show ((2 : Int)).toNat = 2 from rfl] at hw146_0)
                  (try rw [show 2 * 1 = 2 from rfl] at hw146_0)
                  (try simp only [Nat.reduceMul, Nat.reduceEqDiff, Go.Addr.add, ↓reduceIte] at hw146_0)
                  obtain rfl : ad135 = ad146 := (by injection e146)
                  (try simp only [show (2 : Int).toNat = 2 from rfl, Nat.reduceMul, Nat.reduceEqDiff, Go.Addr.add, ↓reduceIte] at hx146_0)
                  have qi146 : (2 < (rd_L1 l1 x22_2).length) = True := eq_true (by omega)
                  (try rw [show ((2 : Int)).toNat = 2 from rfl] at hx146_0)
                  replace hx146_0 := (HB.out.cell (World.block_lt_of_cell? w _ hx146_0)).trans hx146_0
                  replace p146 := eq_true p146
                  replace q146 := eq_true q146
                  refine start_ (n := 70) (S := fun w' => w'.cell? ad135 = some (.int .i64 (rd (rd_L1 l1 x22_2) 0)) ∧ w'.cell? ⟨ad135.block, ad135.off + 1, none⟩ = some (.int .i64 (rd (rd_L1 l1 x22_2) 1)) ∧ w'.cell? ⟨ad135.block, ad135.off + 1, none⟩ = some (.int .i64 (rd (rd_L1 l1 x22_2) 1)) ∧ w'.cell? ⟨ad135.block, ad135.off + 2, none⟩ = some (.int .i64 (rd (rd_L1 l1 x22_2) 2)) ∧ w'.cell? ad135 = some (.int .i64 (rd (rd_L1 l1 x22_2) 0)) ∧ w'.cell? ⟨ad135.block, ad135.off + 1, none⟩ = some (.int .i64 (rd (rd_L1 l1 x22_2) 1)) ∧ w'.cell? ⟨ad135.block, ad135.off + 2, none⟩ = some (.int .i64 (rd (rd_L1 l1 x22_2) 2)) ∧ w'.cell? ad135 = some (.int .i64 (rd (rd_L1 l1 x22_2) 0)) ∧ w'.cell? ⟨ad135.block, ad135.off + 1, none⟩ = some (.int .i64 (rd (rd_L1 l1 x22_2) 1)) ∧ w'.cell? ⟨ad135.block, ad135.off + 2, none⟩ = some (.int .i64 (rd (rd_L1 l1 x22_2) 2))) (ds := []) (mb 70 0) (by kernel_rfl) rfl rfl ⟨((HB.out.cell (World.block_lt_of_cell? w _ hw135_0)).trans hw135_0), ((HB.out.cell (World.block_lt_of_cell? w _ hw136_0)).trans hw136_0), ((HB.out.cell (World.block_lt_of_cell? w _ hw137_0)).trans hw137_0), ((HB.out.cell (World.block_lt_of_cell? w _ hw138_0)).trans hw138_0), ((HB.out.cell (World.block_lt_of_cell? w _ hw139_0)).trans hw139_0), ((HB.out.cell (World.block_lt_of_cell? w _ hw140_0)).trans hw140_0), ((HB.out.cell (World.block_lt_of_cell? w _ hw141_0)).trans hw141_0), ((HB.out.cell (World.block_lt_of_cell? w _ hw144_0)).trans hw144_0), ((HB.out.cell (World.block_lt_of_cell? w _ hw145_0)).trans hw145_0), ((HB.out.cell (World.block_lt_of_cell? w _ hw146_0)).trans hw146_0)⟩ (fun hHeld => ?_); refine with_tabW spec_trDifferences.tab7 spec_trDifferences.bits7 (fun HT_ HW_ => ?_)
                  generalize wr.drew = w40 at HB hx135_0 hx136_0 hx137_0 hx138_0 hx139_0 hx140_0 hx141_0 hx144_0 hx145_0 hx146_0 hHeld ⊢
                  refine pureV 0 27 70 1 HT_ ?_
                  refine pureV 1 28 70 3 HT_ ?_
                  refine pureV 2 29 70 7 HT_ ?_
                  refine pureV 3 30 70 15 HT_ ?_
                  refine pureV 4 31 70 31 HT_ ?_
                  refine pureV 5 32 70 63 HT_ ?_
                  refine pureV 6 33 70 127 HT_ ?_
                  refine one_ (i := 7) (N := some 34) (mb 70 255) rfl rfl (one_of HT_.out (by kernel_rfl)) (by decide) (fun K hK => ?_)
                  refine goes_ Try.func43 (by kernel_rfl) rfl #[.slice (some ad135) (rd_L1 l1 x22_2).length c133_0, .int .i64 1, .int .i64 (wrap64 (3 * (l1.length : Int)))] (by rfl) rfl rfl (by (try simp only [List.map_toArray, List.map_cons, List.map_nil]); first | done | rfl | (simp only [List.length_drop, List.length_take]; rfl)) ?_
                  with_reducible refine (spec_l1All.calls k2 _ _ (rd_L1 l1 x22_2) 1 (wrap64 (3 * (l1.length : Int))) true _ ?side1 ?side2 A11.out).mono ?_
                  (case side1 => repeat (first | exact (Kd.C_below HR133_0.out HB.out) | (with_reducible refine Kd.C_alloc ?_ _) | (with_reducible refine Kd.C_drewN ?_ _) | (with_reducible refine Kd.C_drew ?_)))
                  (case side2 => exact HC133_0.out)
                  rintro e w' ⟨rfl, ⟨nd, rfl⟩⟩
                  refine ⟨_, rfl, ?_⟩
                  refine hK.out _ _ ⟨((HB.out.cell (World.block_lt_of_cell? w _ hw135_0)).trans hw135_0), ((HB.out.cell (World.block_lt_of_cell? w _ hw136_0)).trans hw136_0), ((HB.out.cell (World.block_lt_of_cell? w _ hw137_0)).trans hw137_0), ((HB.out.cell (World.block_lt_of_cell? w _ hw138_0)).trans hw138_0), ((HB.out.cell (World.block_lt_of_cell? w _ hw139_0)).trans hw139_0), ((HB.out.cell (World.block_lt_of_cell? w _ hw140_0)).trans hw140_0), ((HB.out.cell (World.block_lt_of_cell? w _ hw141_0)).trans hw141_0), ((HB.out.cell (World.block_lt_of_cell? w _ hw144_0)).trans hw144_0), ((HB.out.cell (World.block_lt_of_cell? w _ hw145_0)).trans hw145_0), ((HB.out.cell (World.block_lt_of_cell? w _ hw146_0)).trans hw146_0)⟩ (fun hHeld => ?_)
                  clear hK K
                  refine norm_ (a' := ?_) ?_ ?_
                  rotate_left
                  ·show Act.put _ (some 34) _ = _
                   simp only [Act.put, List.setIfInBounds_toArray, List.set_cons_zero, List.set_cons_succ, i64_w, i32_w]
                   rfl
                  refine pureV 8 35 70 511 HT_ ?_
                  refine pureV 9 36 70 1023 HT_ ?_
                  refine pureV 10 37 70 2047 HT_ ?_
                  refine pureV 11 38 70 4095 HT_ ?_
                  refine pureV 12 39 70 8191 HT_ ?_
                  refine pureV 14 41 70 24575 HT_ ?_
                  refine pureV 15 42 70 57343 HT_ ?_
                  refine takeV 13 40 70 65535 HT_ HW_ hHeld rfl (by rintro w' ⟨s0, s1, s2, s3, s4, s5, s6, s7, s8, s9⟩; go_simp; with_reducible rfl) ?_
                  refine takeV 16 43 70 131071 HT_ HW_ hHeld rfl (by rintro w' ⟨s0, s1, s2, s3, s4, s5, s6, s7, s8, s9⟩; go_simp; with_reducible rfl) ?_
                  refine pureV 17 44 70 262143 HT_ ?_
                  refine pureV 18 45 70 524287 HT_ ?_
                  refine pureV 19 46 70 1048575 HT_ ?_
                  refine pureV 20 47 70 2097151 HT_ ?_
                  refine pureV 21 48 70 4194303 HT_ ?_
                  refine pureV 23 50 70 12582911 HT_ ?_
                  refine pureV 24 51 70 29360127 HT_ ?_
                  refine takeV 22 49 70 33554431 HT_ HW_ hHeld rfl (by rintro w' ⟨s0, s1, s2, s3, s4, s5, s6, s7, s8, s9⟩; go_simp; with_reducible rfl) ?_
                  refine takeV 25 52 70 67108863 HT_ HW_ hHeld rfl (by rintro w' ⟨s0, s1, s2, s3, s4, s5, s6, s7, s8, s9⟩; go_simp; with_reducible rfl) ?_
                  refine pureV 26 53 70 134217727 HT_ ?_
                  refine pureV 27 54 70 268435455 HT_ ?_
                  refine pureV 28 55 70 536870911 HT_ ?_
                  refine pureV 29 56 70 1073741823 HT_ ?_
                  refine pureV 30 57 70 2147483647 HT_ ?_
                  refine pureV 32 59 70 6442450943 HT_ ?_
                  refine pureV 33 60 70 15032385535 HT_ ?_
                  refine pureV 36 63 70 83751862271 HT_ ?_
                  refine pureV 37 64 70 221190815743 HT_ ?_
                  refine takeV 31 58 70 223338299391 HT_ HW_ hHeld rfl (by rintro w' ⟨s0, s1, s2, s3, s4, s5, s6, s7, s8, s9⟩; go_simp; with_reducible rfl) ?_
                  refine takeV 34 61 70 240518168575 HT_ HW_ hHeld rfl (by rintro w' ⟨s0, s1, s2, s3, s4, s5, s6, s7, s8, s9⟩; go_simp; with_reducible rfl) ?_
                  refine pureV 35 62 70 274877906943 HT_ ?_
                  refine takeV 38 65 70 549755813887 HT_ HW_ hHeld rfl (by rintro w' ⟨s0, s1, s2, s3, s4, s5, s6, s7, s8, s9⟩; go_simp; with_reducible rfl) ?_
                  refine pureV 39 66 70 1099511627775 HT_ ?_
                  refine pureV 40 67 70 2199023255551 HT_ ?_
                  refine pureV 41 68 70 4398046511103 HT_ ?_
                  refine pureV 42 69 70 8796093022207 HT_ ?_
                  refine pureV 44 71 70 26388279066623 HT_ ?_
                  refine pureV 45 72 70 61572651155455 HT_ ?_
                  refine pureV 48 75 70 343047627866111 HT_ ?_
                  refine pureV 49 76 70 905997581287423 HT_ ?_
                  refine pureV 52 79 70 5409597208657919 HT_ ?_
                  refine takeV 43 70 70 5418393301680127 HT_ HW_ hHeld rfl (by rintro w' ⟨s0, s1, s2, s3, s4, s5, s6, s7, s8, s9⟩; go_simp; with_reducible rfl) ?_
                  refine takeV 46 73 70 5488762045857791 HT_ HW_ hHeld rfl (by rintro w' ⟨s0, s1, s2, s3, s4, s5, s6, s7, s8, s9⟩; go_simp; with_reducible rfl) ?_
                  refine pureV 47 74 70 5629499534213119 HT_ ?_
                  refine takeV 50 77 70 6755399441055743 HT_ HW_ hHeld rfl (by rintro w' ⟨s0, s1, s2, s3, s4, s5, s6, s7, s8, s9⟩; go_simp; with_reducible rfl) ?_
                  refine pureV 51 78 70 9007199254740991 HT_ ?_
                  refine pureV 53 80 70 18014398509481983 HT_ ?_
                  refine pureV 54 81 70 36028797018963967 HT_ ?_
                  refine pureV 55 82 70 72057594037927935 HT_ ?_
                  refine pureV 56 83 70 144115188075855871 HT_ ?_
                  refine pureU 57 84 70 288230376151711743 HT_ ?_
                  refine pureU 58 85 70 576460752303423487 HT_ ?_
                  refine pureU 59 86 70 1152921504606846975 HT_ ?_
                  refine pureU 60 87 70 2305843009213693951 HT_ ?_
                  refine pureU 61 88 70 4611686018427387903 HT_ ?_
                  refine pureU 62 89 70 9223372036854775807 HT_ ?_
                  refine pureU 63 90 70 18446744073709551615 HT_ ?_
                  refine pureU 64 91 70 36893488147419103231 HT_ ?_
                  refine pureU 65 92 70 73786976294838206463 HT_ ?_
                  refine pureU 66 93 70 147573952589676412927 HT_ ?_
                  refine pureU 67 94 70 295147905179352825855 HT_ ?_
                  refine pureU 68 95 70 590295810358705651711 HT_ ?_
                  refine pureV 69 96 70 1180591620717411303423 HT_ ?_
                  refine done_ (done_of HT_.out (by kernel_rfl)) ?_
                  try go_wp2
                  go_ret
                  exact ⟨by first | rfl | (simp [errW_none, errW_some] <;> rfl) | (simp [*, errW_none, errW_some] <;> rfl), by repeat (first | (with_reducible first | exact HB.out | apply below_alloc | apply pw_below_drewN | apply below_drew1) | exact HB.out)⟩
              ·rw [if_neg c17] at H
               exact absurd H (by simp)
            ·rw [if_neg c14] at H
             exact absurd H (by simp)
           ·rw [if_neg c13] at H
            exact absurd H (by simp)
          ·replace c12 := Bool.eq_false_iff.mpr c12
           subst c12
           have H1 : (some false) = some r := by rw [if_neg (show ¬ (false = true) by decide)] at H; exact H
           clear H
           have H := H1
           clear H1
           obtain rfl := Option.some.inj H
           have p133 : 0 ≤ (x22_2 : Int) := of_decide_eq_true (by first | (with_reducible assumption) | assumption)
           have q133 : x22_2 < (l1.length : Int) := of_decide_eq_true (by first | (with_reducible assumption) | assumption)
           obtain ⟨ad133, A133_0, c133_0, e133, hx133_0, hl133_0, hi133_0⟩ := at_L1 HR1.out x22_2 p133 q133
           cases e133
           replace hx133_0 := (HB.out.cell (World.block_lt_of_cell? w _ hx133_0)).trans hx133_0
           have HR133_0 := Aside0.mk hi133_0
           have HC133_0 := Aside0.mk hl133_0
           clear hi133_0 hl133_0
           replace p133 := eq_true p133
           replace q133 := eq_true q133
           try go_wp2
           have n0_ := Aside0.mk (below_drew1 HB.out)
           clear HB
           have HB := n0_
           clear n0_
           refine start_ (n := 70) (S := fun w' => True) (ds := []) (mb 70 0) (by kernel_rfl) rfl rfl trivial (fun hHeld => ?_); refine with_tabW spec_trDifferences.tab7 spec_trDifferences.bits7 (fun HT_ HW_ => ?_)
           generalize wr.drew = w41 at HB hHeld ⊢
           refine pureV 0 27 70 1 HT_ ?_
           refine pureV 1 28 70 3 HT_ ?_
           refine pureV 2 29 70 7 HT_ ?_
           refine pureV 3 30 70 15 HT_ ?_
           refine pureV 4 31 70 31 HT_ ?_
           refine pureV 5 32 70 63 HT_ ?_
           refine pureV 6 33 70 127 HT_ ?_
           refine one_ (i := 7) (N := some 34) (mb 70 255) rfl rfl (one_of HT_.out (by kernel_rfl)) (by decide) (fun K hK => ?_)
           refine goes_ Try.func43 (by kernel_rfl) rfl #[.slice A133_0 (rd_L1 l1 x22_2).length c133_0, .int .i64 1, .int .i64 (wrap64 (3 * (l1.length : Int)))] (by rfl) rfl rfl (by (try simp only [List.map_toArray, List.map_cons, List.map_nil]); first | done | rfl | (simp only [List.length_drop, List.length_take]; rfl)) ?_
           with_reducible refine (spec_l1All.calls k2 _ _ (rd_L1 l1 x22_2) 1 (wrap64 (3 * (l1.length : Int))) false _ ?side1 ?side2 A11.out).mono ?_
           (case side1 => repeat (first | exact (Kd.C_below HR133_0.out HB.out) | (with_reducible refine Kd.C_alloc ?_ _) | (with_reducible refine Kd.C_drewN ?_ _) | (with_reducible refine Kd.C_drew ?_)))
           (case side2 => exact HC133_0.out)
           rintro e w' ⟨rfl, ⟨nd, rfl⟩⟩
           refine ⟨_, rfl, ?_⟩
           refine hK.out _ _ trivial (fun hHeld => ?_)
           clear hK K
           refine norm_ (a' := ?_) ?_ ?_
           rotate_left
           ·show Act.put _ (some 34) _ = _
            simp only [Act.put, List.setIfInBounds_toArray, List.set_cons_zero, List.set_cons_succ, i64_w, i32_w]
            rfl
           refine pureV 8 35 70 511 HT_ ?_
           refine pureV 9 36 70 1023 HT_ ?_
           refine pureV 10 37 70 2047 HT_ ?_
           refine pureU 11 38 70 4095 HT_ ?_
           refine pureU 12 39 70 8191 HT_ ?_
           refine pureU 13 40 70 16383 HT_ ?_
           refine pureU 14 41 70 32767 HT_ ?_
           refine pureU 15 42 70 65535 HT_ ?_
           refine pureU 16 43 70 131071 HT_ ?_
           refine pureU 17 44 70 262143 HT_ ?_
           refine pureV 18 45 70 524287 HT_ ?_
           refine pureV 19 46 70 1048575 HT_ ?_
           refine pureU 20 47 70 2097151 HT_ ?_
           refine pureU 21 48 70 4194303 HT_ ?_
           refine pureU 22 49 70 8388607 HT_ ?_
           refine pureU 23 50 70 16777215 HT_ ?_
           refine pureU 24 51 70 33554431 HT_ ?_
           refine pureU 25 52 70 67108863 HT_ ?_
           refine pureU 26 53 70 134217727 HT_ ?_
           refine pureV 27 54 70 268435455 HT_ ?_
           refine pureV 28 55 70 536870911 HT_ ?_
           refine pureU 29 56 70 1073741823 HT_ ?_
           refine pureU 30 57 70 2147483647 HT_ ?_
           refine pureU 31 58 70 4294967295 HT_ ?_
           refine pureU 32 59 70 8589934591 HT_ ?_
           refine pureU 33 60 70 17179869183 HT_ ?_
           refine pureU 34 61 70 34359738367 HT_ ?_
           refine pureU 35 62 70 68719476735 HT_ ?_
           refine pureU 36 63 70 137438953471 HT_ ?_
           refine pureU 37 64 70 274877906943 HT_ ?_
           refine pureU 38 65 70 549755813887 HT_ ?_
           refine pureU 39 66 70 1099511627775 HT_ ?_
           refine pureU 40 67 70 2199023255551 HT_ ?_
           refine pureU 41 68 70 4398046511103 HT_ ?_
           refine pureU 42 69 70 8796093022207 HT_ ?_
           refine pureU 43 70 70 17592186044415 HT_ ?_
           refine pureU 44 71 70 35184372088831 HT_ ?_
           refine pureU 45 72 70 70368744177663 HT_ ?_
           refine pureU 46 73 70 140737488355327 HT_ ?_
           refine pureU 47 74 70 281474976710655 HT_ ?_
           refine pureU 48 75 70 562949953421311 HT_ ?_
           refine pureU 49 76 70 1125899906842623 HT_ ?_
           refine pureU 50 77 70 2251799813685247 HT_ ?_
           refine pureU 51 78 70 4503599627370495 HT_ ?_
           refine pureU 52 79 70 9007199254740991 HT_ ?_
           refine pureU 53 80 70 18014398509481983 HT_ ?_
           refine pureU 54 81 70 36028797018963967 HT_ ?_
           refine pureV 55 82 70 72057594037927935 HT_ ?_
           refine pureV 56 83 70 144115188075855871 HT_ ?_
           refine pureU 57 84 70 288230376151711743 HT_ ?_
           refine pureU 58 85 70 576460752303423487 HT_ ?_
           refine pureU 59 86 70 1152921504606846975 HT_ ?_
           refine pureU 60 87 70 2305843009213693951 HT_ ?_
           refine pureU 61 88 70 4611686018427387903 HT_ ?_
           refine pureU 62 89 70 9223372036854775807 HT_ ?_
           refine pureU 63 90 70 18446744073709551615 HT_ ?_
           refine pureU 64 91 70 36893488147419103231 HT_ ?_
           refine pureU 65 92 70 73786976294838206463 HT_ ?_
           refine pureU 66 93 70 147573952589676412927 HT_ ?_
           refine pureU 67 94 70 295147905179352825855 HT_ ?_
           refine pureU 68 95 70 590295810358705651711 HT_ ?_
           refine pureV 69 96 70 1180591620717411303423 HT_ ?_
           refine done_ (done_of HT_.out (by kernel_rfl)) ?_
           try go_wp2
           go_ret
           exact ⟨by first | rfl | (simp [errW_none, errW_some] <;> rfl) | (simp [*, errW_none, errW_some] <;> rfl), by repeat (first | (with_reducible first | exact HB.out | apply below_alloc | apply pw_below_drewN | apply below_drew1) | exact HB.out)⟩
         ·rw [if_neg c10] at H
          have c10b0 : (((rd_L1 l1 x22_2).length : Int) == 3) = false := beq_eq_false_iff_ne.mpr c10
          have c10b1 : (((rd_L1 l1 x22_2).length : Int) != 3) = true := bne_iff_ne.mpr c10
          obtain rfl := Option.some.inj H
          have p133 : 0 ≤ (x22_2 : Int) := of_decide_eq_true (by first | (with_reducible assumption) | assumption)
          have q133 : x22_2 < (l1.length : Int) := of_decide_eq_true (by first | (with_reducible assumption) | assumption)
          obtain ⟨ad133, A133_0, c133_0, e133, hx133_0, hl133_0, hi133_0⟩ := at_L1 HR1.out x22_2 p133 q133
          cases e133
          replace hx133_0 := (HB.out.cell (World.block_lt_of_cell? w _ hx133_0)).trans hx133_0
          have HR133_0 := Aside0.mk hi133_0
          have HC133_0 := Aside0.mk hl133_0
          clear hi133_0 hl133_0
          replace p133 := eq_true p133
          replace q133 := eq_true q133
          try go_wp2
          have n0_ := Aside0.mk (below_drew1 HB.out)
          clear HB
          have HB := n0_
          clear n0_
          refine start_ (n := 70) (S := fun w' => True) (ds := []) (mb 70 0) (by kernel_rfl) rfl rfl trivial (fun hHeld => ?_); refine with_tabW spec_trDifferences.tab7 spec_trDifferences.bits7 (fun HT_ HW_ => ?_)
          generalize wr.drew = w42 at HB hHeld ⊢
          refine pureV 0 27 70 1 HT_ ?_
          refine pureV 1 28 70 3 HT_ ?_
          refine pureV 2 29 70 7 HT_ ?_
          refine pureV 3 30 70 15 HT_ ?_
          refine pureU 4 31 70 31 HT_ ?_
          refine pureU 5 32 70 63 HT_ ?_
          refine pureU 6 33 70 127 HT_ ?_
          refine pureU 7 34 70 255 HT_ ?_
          refine pureU 8 35 70 511 HT_ ?_
          refine pureV 9 36 70 1023 HT_ ?_
          refine pureV 10 37 70 2047 HT_ ?_
          refine pureU 11 38 70 4095 HT_ ?_
          refine pureU 12 39 70 8191 HT_ ?_
          refine pureU 13 40 70 16383 HT_ ?_
          refine pureU 14 41 70 32767 HT_ ?_
          refine pureU 15 42 70 65535 HT_ ?_
          refine pureU 16 43 70 131071 HT_ ?_
          refine pureU 17 44 70 262143 HT_ ?_
          refine pureV 18 45 70 524287 HT_ ?_
          refine pureV 19 46 70 1048575 HT_ ?_
          refine pureU 20 47 70 2097151 HT_ ?_
          refine pureU 21 48 70 4194303 HT_ ?_
          refine pureU 22 49 70 8388607 HT_ ?_
          refine pureU 23 50 70 16777215 HT_ ?_
          refine pureU 24 51 70 33554431 HT_ ?_
          refine pureU 25 52 70 67108863 HT_ ?_
          refine pureU 26 53 70 134217727 HT_ ?_
          refine pureV 27 54 70 268435455 HT_ ?_
          refine pureV 28 55 70 536870911 HT_ ?_
          refine pureU 29 56 70 1073741823 HT_ ?_
          refine pureU 30 57 70 2147483647 HT_ ?_
          refine pureU 31 58 70 4294967295 HT_ ?_
          refine pureU 32 59 70 8589934591 HT_ ?_
          refine pureU 33 60 70 17179869183 HT_ ?_
          refine pureU 34 61 70 34359738367 HT_ ?_
          refine pureU 35 62 70 68719476735 HT_ ?_
          refine pureU 36 63 70 137438953471 HT_ ?_
          refine pureU 37 64 70 274877906943 HT_ ?_
          refine pureU 38 65 70 549755813887 HT_ ?_
          refine pureU 39 66 70 1099511627775 HT_ ?_
          refine pureU 40 67 70 2199023255551 HT_ ?_
          refine pureU 41 68 70 4398046511103 HT_ ?_
          refine pureU 42 69 70 8796093022207 HT_ ?_
          refine pureU 43 70 70 17592186044415 HT_ ?_
          refine pureU 44 71 70 35184372088831 HT_ ?_
          refine pureU 45 72 70 70368744177663 HT_ ?_
          refine pureU 46 73 70 140737488355327 HT_ ?_
          refine pureU 47 74 70 281474976710655 HT_ ?_
          refine pureU 48 75 70 562949953421311 HT_ ?_
          refine pureU 49 76 70 1125899906842623 HT_ ?_
          refine pureU 50 77 70 2251799813685247 HT_ ?_
          refine pureU 51 78 70 4503599627370495 HT_ ?_
          refine pureU 52 79 70 9007199254740991 HT_ ?_
          refine pureU 53 80 70 18014398509481983 HT_ ?_
          refine pureU 54 81 70 36028797018963967 HT_ ?_
          refine pureV 55 82 70 72057594037927935 HT_ ?_
          refine pureV 56 83 70 144115188075855871 HT_ ?_
          refine pureU 57 84 70 288230376151711743 HT_ ?_
          refine pureU 58 85 70 576460752303423487 HT_ ?_
          refine pureU 59 86 70 1152921504606846975 HT_ ?_
          refine pureU 60 87 70 2305843009213693951 HT_ ?_
          refine pureU 61 88 70 4611686018427387903 HT_ ?_
          refine pureU 62 89 70 9223372036854775807 HT_ ?_
          refine pureU 63 90 70 18446744073709551615 HT_ ?_
          refine pureU 64 91 70 36893488147419103231 HT_ ?_
          refine pureU 65 92 70 73786976294838206463 HT_ ?_
          refine pureU 66 93 70 147573952589676412927 HT_ ?_
          refine pureU 67 94 70 295147905179352825855 HT_ ?_
          refine pureU 68 95 70 590295810358705651711 HT_ ?_
          refine pureV 69 96 70 1180591620717411303423 HT_ ?_
          refine done_ (done_of HT_.out (by kernel_rfl)) ?_
          try go_wp2
          go_ret
          exact ⟨by first | rfl | (simp [errW_none, errW_some] <;> rfl) | (simp [*, errW_none, errW_some] <;> rfl), by repeat (first | (with_reducible first | exact HB.out | apply below_alloc | apply pw_below_drewN | apply below_drew1) | exact HB.out)⟩
        ·rw [if_neg c9] at H
         exact absurd H (by simp)
       ·rw [if_neg c8] at H
        exact absurd H (by simp)
      ·rw [if_neg c7] at H
       have c7b0 : decide (x22_2 < (l1.length : Int)) = false := decide_eq_false c7
       clear c7
       replace H := Option.bind_eq_some_iff.mp H
       obtain ⟨t129, A430, H⟩ := H
       replace H : ((spec_trOnce.f k2 l1 t129).bind fun t132 => (some t132)) = some r := H
       have A43 := Aside0.mk A430
       clear A430
       replace H := Option.bind_eq_some_iff.mp H
       obtain ⟨t132, A440, H⟩ := H
       replace H : (some t132) = some r := H
       have A44 := Aside0.mk A440
       clear A440
       obtain rfl := Option.some.inj H
       go_wp2_with (first | ((with_reducible refine gate_callee (f := 46) rfl ?_); refine goesL_ (some 100) rfl rfl Try.func46 (by kernel_rfl) rfl #[.int .i64 (l1.length : Int), .bool false] rfl (by (try simp only [List.map_toArray, List.map_cons, List.map_nil]); first | done | rfl | (simp only [List.length_drop, List.length_take]; rfl)) ?_; (with_reducible refine (spec_trMarks.calls k2 (l1.length : Int) false t129 _ A43.out).mono ?_); rintro e w45 ⟨v130, rfl, ho0, hb⟩; refine ⟨_, rfl, ?_⟩; have n0_ := Aside0.mk (Kd.R_lower ho0 (below_size (by repeat (first | (with_reducible first | exact HB.out | apply below_alloc | apply pw_below_drewN | apply below_drew1) | exact HB.out)))); have n1_ := Aside0.mk (below_step (by repeat (first | (with_reducible first | exact HB.out | apply below_alloc | apply pw_below_drewN | apply below_drew1) | exact HB.out)) hb); clear HB; have HO131 := n0_; have HB := n1_; clear n0_ n1_; (try clear hb); (try clear hb2); (try clear hk); (try clear hi); (try clear ho0); obtain ⟨Ao46, co46, eo46⟩ := Kd.R_slice HO131.out; subst eo46) | ((with_reducible refine gate_callee (f := 45) rfl ?_); refine goesL_ (some 101) rfl rfl Try.func45 (by kernel_rfl) rfl #[.slice A1 l1.length c1, .slice Ao46 t129.length co46] rfl (by (try simp only [List.map_toArray, List.map_cons, List.map_nil]); first | done | rfl | (simp only [List.length_drop, List.length_take]; rfl)) ?_; (with_reducible refine (spec_trOnce.calls k2 _ _ l1 _ _ t129 t132 _ ?side1 ?side2 ?side3 ?side4 A44.out).mono ?_); (case side1 => repeat (first | exact (Kd.C_below HR1.out HB.out) | (with_reducible refine Kd.C_alloc ?_ _) | (with_reducible refine Kd.C_drewN ?_ _) | (with_reducible refine Kd.C_drew ?_))); (case side2 => exact HC1.out); (case side3 => repeat (first | exact (Kd.R_reads' HO131.out).2.2 | (with_reducible refine Kd.C_alloc ?_ _) | (with_reducible refine Kd.C_drewN ?_ _) | (with_reducible refine Kd.C_drew ?_))); (case side4 => exact (Kd.R_reads' HO131.out).2.1); rintro e w47 ⟨rfl, hb⟩; refine ⟨_, rfl, ?_⟩; have n0_ := Aside0.mk (Kd.R_below (by (with_reducible repeat (first | apply Kd.R_alloc | apply Kd.R_drewN | apply Kd.R_drew)); exact HO131.out) hb); have n1_ := Aside0.mk (below_step (by repeat (first | (with_reducible first | exact HB.out | apply below_alloc | apply pw_below_drewN | apply below_drew1) | exact HB.out)) hb); clear HO131; clear HB; have HO131 := n0_; have HB := n1_; clear n0_ n1_; (try clear hb); (try clear hb2); (try clear hk); (try clear hi)))
       go_ret
       exact ⟨by first | rfl | (simp [errW_none, errW_some] <;> rfl) | (simp [*, errW_none, errW_some] <;> rfl), by repeat (first | (with_reducible first | exact HB.out | apply below_alloc | apply pw_below_drewN | apply below_drew1) | exact HB.out)⟩

end Go.Proofs.Yteepinopcmcklaa.PFnExactAreDifferences
