-- Written by plug.py, a program of this session, over the kit's print of the function: checked by Lean alone.
import Derived.Test.YtgpnhaaklhinlaaPFnExactCircleBlocksx0
import Derived.Test.YtgpnhaaklhinlaaPFnExactCircleBlocksx2
import Derived.Test.YtgpnhaaklhinlaaPFnExactCircleBlocksx3
namespace Go.Proofs.Ytgpnhaaklhinlaa.PFnExactCircleBlocks
open Go.RowKit Go.Proofs.YtgpnhaaklhinlaaW.PrintWords Go.Proofs.YtgpnhaaklhinlaaW.PrintLast Go.Proofs.YtgpnhaaklhinlaaW.PrintMore
attribute [local go_sem] max2_int min2_int max_two min_two max_three min_three max_four min_four   -- for this text's walks alone
set_option linter.unusedVariables false
set_option linter.unusedSimpArgs false

/-! ### spec_trDifferences: function 75 -/
mutual
def spec_trDifferences.j0 : Nat → Int → List (List Int) → Int → Bool → Option (Bool)
 | 0, _, _, _, _ => none
 | k + 1, x0, x1, x5, x19 => if x19 = true then (some false) else (spec_trDifferences.l0 k x0 x1 x5 x1 (x1.length : Int) 0)
def spec_trDifferences.l0 : Nat → Int → List (List Int) → Int → List (List Int) → Int → Int → Option (Bool)
 | 0, _, _, _, _, _, _ => none
 | k + 1, x0, x1, x5, x20, x21, x22 => if x22 < x21 then (if 0 ≤ x22 then (if x22 < (x20.length : Int) then (if ((rd_L1 x20 x22).length : Int) = 3 then ((spec_l1All.f k (rd_L1 x20 x22) 1 (wrap64 (3 * x5))).bind fun t155 => (if t155 = true then (if 0 < ((rd_L1 x20 x22).length : Int) then (if 1 < ((rd_L1 x20 x22).length : Int) then (if (rd (rd_L1 x20 x22) 0) > (rd (rd_L1 x20 x22) 1) then (some false) else (if 2 < ((rd_L1 x20 x22).length : Int) then (if (rd (rd_L1 x20 x22) 1) > (rd (rd_L1 x20 x22) 2) then (some false) else (if (wrap64 ((rd (rd_L1 x20 x22) 0) + (rd (rd_L1 x20 x22) 1))) = (rd (rd_L1 x20 x22) 2) then (if x22 > 0 then (if 0 ≤ (wrap64 (x22 - 1)) then (if (wrap64 (x22 - 1)) < (x1.length : Int) then ((spec_trLess.f k (rd_L1 x1 (wrap64 (x22 - 1))) (rd_L1 x20 x22)).bind fun t164 => (if t164 = true then (spec_trDifferences.l0 k x0 x1 x5 x20 x21 (wrap64 (x22 + 1))) else (some false))) else (none)) else (none)) else (spec_trDifferences.l0 k x0 x1 x5 x20 x21 (wrap64 (x22 + 1)))) else (if (wrap64 ((wrap64 ((rd (rd_L1 x20 x22) 0) + (rd (rd_L1 x20 x22) 1))) + (rd (rd_L1 x20 x22) 2))) = x0 then (if x22 > 0 then (if 0 ≤ (wrap64 (x22 - 1)) then (if (wrap64 (x22 - 1)) < (x1.length : Int) then ((spec_trLess.f k (rd_L1 x1 (wrap64 (x22 - 1))) (rd_L1 x20 x22)).bind fun t169 => (if t169 = true then (spec_trDifferences.l0 k x0 x1 x5 x20 x21 (wrap64 (x22 + 1))) else (some false))) else (none)) else (none)) else (spec_trDifferences.l0 k x0 x1 x5 x20 x21 (wrap64 (x22 + 1)))) else (some false)))) else (none))) else (none)) else (none)) else (some false))) else (some false)) else (none)) else (none)) else ((spec_trMarks.f k x5 false).bind fun t150 => ((spec_trOnce.f k x1 t150).bind fun t153 => (some t153)))
end
def spec_trDifferences.f (k : Nat) (a0 : Int) (l1 : List (List Int)) : Option (Bool) := (spec_l1In.f a0 7 40).bind fun t149 => (if t149 = true then (spec_trDifferences.j0 k a0 l1 (l1.length : Int) (a0 != (wrap64 ((wrap64 (6 * (l1.length : Int))) + 1)))) else (spec_trDifferences.j0 k a0 l1 (l1.length : Int) true))
theorem spec_trDifferences.mono_l : ∀ k, (∀ y0 y1 y2 y3, LeO (spec_trDifferences.j0 k y0 y1 y2 y3) (spec_trDifferences.j0 (k + 1) y0 y1 y2 y3)) ∧ (∀ y0 y1 y2 y3 y4 y5, LeO (spec_trDifferences.l0 k y0 y1 y2 y3 y4 y5) (spec_trDifferences.l0 (k + 1) y0 y1 y2 y3 y4 y5))
 | 0 => ⟨fun _ _ _ _ r h => by simp [spec_trDifferences.j0] at h, fun _ _ _ _ _ _ r h => by simp [spec_trDifferences.l0] at h⟩
 | k + 1 => by
  obtain ⟨ih0, ih1⟩ := spec_trDifferences.mono_l k
  refine ⟨?_, ?_⟩
  ·intro y0 y1 y2 y3
   unfold spec_trDifferences.j0
   repeat' first
   | (with_reducible exact ih0 _ _ _ _)
   | (with_reducible exact ih1 _ _ _ _ _ _)
   | (with_reducible exact spec_l1All.mono _ _ _ _)
   | (with_reducible exact spec_trLess.mono _ _ _)
   | (with_reducible exact spec_trMarks.mono _ _ _)
   | (with_reducible exact spec_trOnce.mono _ _ _)
   | (with_reducible exact LeO.refl _)
   | (with_reducible exact LeO.none _)
   | (with_reducible refine LeO.ite ?_ ?_)
   | (with_reducible refine LeO.bind ?_ (fun _ => ?_))
   | exact ih0 _ _ _ _
   | exact ih1 _ _ _ _ _ _
   | exact spec_l1All.mono _ _ _ _
   | exact spec_trLess.mono _ _ _
   | exact spec_trMarks.mono _ _ _
   | exact spec_trOnce.mono _ _ _
   | exact LeO.none _
   | refine LeO.ite ?_ ?_
   | refine LeO.bind ?_ (fun _ => ?_)
  ·intro y0 y1 y2 y3 y4 y5
   unfold spec_trDifferences.l0
   repeat' first
   | (with_reducible exact ih0 _ _ _ _)
   | (with_reducible exact ih1 _ _ _ _ _ _)
   | (with_reducible exact spec_l1All.mono _ _ _ _)
   | (with_reducible exact spec_trLess.mono _ _ _)
   | (with_reducible exact spec_trMarks.mono _ _ _)
   | (with_reducible exact spec_trOnce.mono _ _ _)
   | (with_reducible exact LeO.refl _)
   | (with_reducible exact LeO.none _)
   | (with_reducible refine LeO.ite ?_ ?_)
   | (with_reducible refine LeO.bind ?_ (fun _ => ?_))
   | exact ih0 _ _ _ _
   | exact ih1 _ _ _ _ _ _
   | exact spec_l1All.mono _ _ _ _
   | exact spec_trLess.mono _ _ _
   | exact spec_trMarks.mono _ _ _
   | exact spec_trOnce.mono _ _ _
   | exact LeO.none _
   | refine LeO.ite ?_ ?_
   | refine LeO.bind ?_ (fun _ => ?_)
theorem spec_trDifferences.mono : ∀ a0 a1 k, LeO (spec_trDifferences.f k a0 a1) (spec_trDifferences.f (k + 1) a0 a1) := by
 intro a0 a1 k
 obtain ⟨ih0, ih1⟩ := spec_trDifferences.mono_l k
 unfold spec_trDifferences.f
 repeat' first
   | (with_reducible exact ih0 _ _ _ _)
   | (with_reducible exact ih1 _ _ _ _ _ _)
   | (with_reducible exact spec_l1All.mono _ _ _ _)
   | (with_reducible exact spec_trLess.mono _ _ _)
   | (with_reducible exact spec_trMarks.mono _ _ _)
   | (with_reducible exact spec_trOnce.mono _ _ _)
   | (with_reducible exact LeO.refl _)
   | (with_reducible exact LeO.none _)
   | (with_reducible refine LeO.ite ?_ ?_)
   | (with_reducible refine LeO.bind ?_ (fun _ => ?_))
   | exact ih0 _ _ _ _
   | exact ih1 _ _ _ _ _ _
   | exact spec_l1All.mono _ _ _ _
   | exact spec_trLess.mono _ _ _
   | exact spec_trMarks.mono _ _ _
   | exact spec_trOnce.mono _ _ _
   | exact LeO.none _
   | refine LeO.ite ?_ ?_
   | refine LeO.bind ?_ (fun _ => ?_)
def spec_trDifferences.T7 : Bool × List (List Nat × List Nat) := (true, [([], []), ([0], [0]), ([1], [1]), ([2], [2]), ([3], [3]), ([3], [3]), ([5, 3], [3, 5]), ([4, 6, 3, 3], [3, 4, 6]), ([7, 3], [3, 7]), ([3, 8], [3, 8]), ([9, 7], [9]), ([10], [10]), ([11, 10], [10, 11]), ([12, 10], [10, 12]), ([10], [10]), ([14, 10], [10, 14]), ([15, 10], [10, 15]), ([13, 16, 10], [10, 13, 16]), ([10, 17], [10, 17]), ([18, 10], [18]), ([19], [19]), ([20, 19], [19, 20]), ([21, 19], [19, 21]), ([19], [19]), ([23, 19], [19, 23]), ([24, 19], [19, 24]), ([22, 25, 19], [19, 22, 25]), ([19, 26], [19, 26]), ([27, 19], [27]), ([28], [28]), ([29, 28], [28, 29]), ([30, 28], [28, 30]), ([28], [28]), ([32, 28], [28, 32]), ([33, 28], [28, 33]), ([31, 34, 28], [28, 31, 34]), ([28], [28]), ([36, 28], [28, 36]), ([37, 28], [28, 37]), ([35, 38, 28], [28, 35, 38]), ([39, 28, 28], [28, 39]), ([40], [40]), ([41, 40], [40, 41]), ([42, 40], [40, 42]), ([40], [40]), ([44, 40], [40, 44]), ([45, 40], [40, 45]), ([43, 46, 40], [40, 43, 46]), ([40], [40]), ([48, 40], [40, 48]), ([49, 40], [40, 49]), ([47, 50, 40], [40, 47, 50]), ([40], [40]), ([51, 52, 40], [40, 51, 52]), ([40, 53, 28], [28, 40, 53]), ([28, 54], [28, 54]), ([55, 40], [55]), ([56], [56]), ([57, 56], [56, 57]), ([58, 56, 56], [56, 58]), ([59], [59]), ([59], [59]), ([61, 59], [59, 61]), ([60, 62, 59], [59, 60, 62]), ([63, 59], [59, 63]), ([59], [59]), ([64, 65, 59, 59], [59, 64, 65]), ([66, 59], [59, 66]), ([59, 67, 56], [56, 59, 67]), ([56, 68], [56, 68])])
def spec_trDifferences.B7 : List Nat := [0, 1, 3, 7, 15, 15, 47, 127, 255, 511, 1023, 2047, 4095, 8191, 2047, 18431, 51199, 131071, 262143, 524287, 1048575, 2097151, 4194303, 1048575, 9437183, 26214399, 67108863, 134217727, 268435455, 536870911, 1073741823, 2147483647, 536870911, 4831838207, 13421772799, 34359738367, 536870911, 69256347647, 206695301119, 549755813887, 1099511627775, 2199023255551, 4398046511103, 8796093022207, 2199023255551, 19791209299967, 54975581388799, 140737488355327, 2199023255551, 283673999966207, 846623953387519, 2251799813685247, 2199023255551, 9007199254740991, 18014398509481983, 36028797018963967, 72057594037927935, 144115188075855871, 288230376151711743, 576460752303423487, 1152921504606846975, 1152921504606846975, 3458764513820540927, 9223372036854775807, 18446744073709551615, 1152921504606846975, 73786976294838206463, 147573952589676412927, 295147905179352825855, 590295810358705651711]
theorem spec_trDifferences.tab7 : rtab .any (opsOf Try.f75 7) = spec_trDifferences.T7 := by kernel_rfl
theorem spec_trDifferences.bits7 : waitsOk spec_trDifferences.T7.2 spec_trDifferences.B7 = true := by kernel_rfl
set_option maxHeartbeats 8000000 in
set_option maxRecDepth 100000 in
theorem spec_trDifferences.calls (k : Nat) (a0 : Int) (A1 : Option Addr) (c1 : Nat) (l1 : List (List Int)) (r : Bool) (w : World) (hr1 : Kd.C (Kd.slice 3 (Kd.int .i64)) w A1 l1.length l1) (hc1 : l1.length ≤ c1) (h : spec_trDifferences.f k a0 l1 = some r) :
  Calls Try.prog 75 #[.int .i64 a0, .slice A1 l1.length c1] w fun e w' => e = .returned (.bool r) ∧ Below w.heap.size w w' := by
 have HR1 := Aside0.mk hr1
 have HC1 := Aside0.mk hc1
 clear hr1 hc1
 have HB := Aside0.mk (Below.refl w.heap.size w)
 have H : ((spec_l1In.f a0 7 40).bind fun t149 => (if t149 = true then (spec_trDifferences.j0 k a0 l1 (l1.length : Int) (a0 != (wrap64 ((wrap64 (6 * (l1.length : Int))) + 1)))) else (spec_trDifferences.j0 k a0 l1 (l1.length : Int) true))) = some r := h
 clear h
 have HC3 := Aside0.mk H
 clear H
 go_enter Try.func75, Try.ntmps75
 go_upto_region 2 with (fail)
 go_cut [19] (fun v19 wc => ∃ (kq : Nat) (x19_2 : Bool), v19 = .bool x19_2 ∧ Aside0 (spec_trDifferences.j0 kq a0 l1 (l1.length : Int) x19_2 = some r) ∧ Aside0 (kq ≤ k) ∧ Aside0 (Below w.heap.size w wc))
 case first =>
  have H := HC3.out
  clear HC3
  replace H := Option.bind_eq_some_iff.mp H
  obtain ⟨t149, A40, H⟩ := H
  replace H : (if t149 = true then (spec_trDifferences.j0 k a0 l1 (l1.length : Int) (a0 != (wrap64 ((wrap64 (6 * (l1.length : Int))) + 1)))) else (spec_trDifferences.j0 k a0 l1 (l1.length : Int) true)) = some r := H
  have A4 := Aside0.mk A40
  clear A40
  by_cases c5 : t149 = true
  ·subst c5
   have H1 : (spec_trDifferences.j0 k a0 l1 (l1.length : Int) (a0 != (wrap64 ((wrap64 (6 * (l1.length : Int))) + 1)))) = some r := by rw [if_pos rfl] at H; exact H
   clear H
   have H := H1
   clear H1
   have H' := Aside0.mk H
   clear H
   go_wp2_with (first | ((with_reducible refine gate_callee (f := 54) rfl ?_); refine goesL_ (some 11) rfl rfl Try.func54 (by kernel_rfl) rfl #[.int .i64 a0, .int .i64 7, .int .i64 40] rfl (by (try simp only [List.map_toArray, List.map_cons, List.map_nil]); first | done | rfl | (simp only [List.length_drop, List.length_take]; rfl)) ?_; (with_reducible refine (spec_l1In.calls a0 7 40 true _ A4.out).mono ?_); rintro e w' ⟨rfl, ⟨nd, rfl⟩⟩; refine ⟨_, rfl, ?_⟩))
   go_meet
   case rel => exact ⟨_, ((a0 != (wrap64 ((wrap64 (6 * (l1.length : Int))) + 1)))), (by first | rfl | (simp; done) | (simp [*]; done)), H', ⟨by first | omega | exact Nat.le_refl _⟩, ⟨by repeat (first | (with_reducible first | exact HB.out | apply below_alloc | apply pw_below_drewN | apply below_drew1) | exact HB.out)⟩⟩
  ·replace c5 := Bool.eq_false_iff.mpr c5
   subst c5
   have H1 : (spec_trDifferences.j0 k a0 l1 (l1.length : Int) true) = some r := by rw [if_neg (show ¬ (false = true) by decide)] at H; exact H
   clear H
   have H := H1
   clear H1
   have H' := Aside0.mk H
   clear H
   go_wp2_with (first | ((with_reducible refine gate_callee (f := 54) rfl ?_); refine goesL_ (some 11) rfl rfl Try.func54 (by kernel_rfl) rfl #[.int .i64 a0, .int .i64 7, .int .i64 40] rfl (by (try simp only [List.map_toArray, List.map_cons, List.map_nil]); first | done | rfl | (simp only [List.length_drop, List.length_take]; rfl)) ?_; (with_reducible refine (spec_l1In.calls a0 7 40 false _ A4.out).mono ?_); rintro e w' ⟨rfl, ⟨nd, rfl⟩⟩; refine ⟨_, rfl, ?_⟩))
   go_meet
   case rel => exact ⟨_, (true), (by first | rfl | (simp; done) | (simp [*]; done)), H', ⟨by first | omega | exact Nat.le_refl _⟩, ⟨by repeat (first | (with_reducible first | exact HB.out | apply below_alloc | apply pw_below_drewN | apply below_drew1) | exact HB.out)⟩⟩
 case rest =>
  clear HC3
  try clear c1
  try clear p2
  try clear c5
  obtain ⟨kq, x19_2, rfl, HA, HJ2, HB⟩ := hcut
  cases kq with
  | zero => exact absurd HA.out (by simp [spec_trDifferences.j0])
  | succ kj2 =>
   have H := HA.out
   clear HA
   simp only [spec_trDifferences.j0] at H
   by_cases c6 : x19_2 = true
   ·subst c6
    have H1 : (some false) = some r := by rw [if_pos rfl] at H; exact H
    clear H
    have H := H1
    clear H1
    obtain rfl := Option.some.inj H
    go_wp2
    go_ret
    exact ⟨by first | rfl | (simp [errW_none, errW_some] <;> rfl) | (simp [*, errW_none, errW_some] <;> rfl), by repeat (first | (with_reducible first | exact HB.out | apply below_alloc | apply pw_below_drewN | apply below_drew1) | exact HB.out)⟩
   ·replace c6 := Bool.eq_false_iff.mpr c6
    subst c6
    have H1 : (spec_trDifferences.l0 kj2 a0 l1 (l1.length : Int) l1 (l1.length : Int) 0) = some r := by rw [if_neg (show ¬ (false = true) by decide)] at H; exact H
    clear H
    have H := H1
    clear H1
    have H' := Aside0.mk H
    clear H
    go_wp2
    go_loopg [22] kj2 (fun kq v22 w' => ∃ (x22_2 : Int), v22 = .int .i64 x22_2 ∧ Aside0 (spec_trDifferences.l0 kq a0 l1 (l1.length : Int) l1 (l1.length : Int) x22_2 = some r) ∧ Aside0 (kq ≤ kj2) ∧ Aside0 (Below w.heap.size w w'))
    case atStart => exact ⟨(0), (by first | rfl | (simp; done) | (simp [*]; done)), H', ⟨Nat.le_refl _⟩, ⟨by repeat (first | (with_reducible first | exact HB.out | apply below_alloc | apply pw_below_drewN | apply below_drew1) | exact HB.out)⟩⟩
    case round =>
     clear H'
     try clear c1
     try clear p2
     try clear c5
     try clear c6
     try clear p6
     try clear p2
     obtain ⟨x22_2, rfl, HA, HK2, HB⟩ := hrel
     cases gk with
     | zero => exact absurd HA.out (by simp [spec_trDifferences.l0])
     | succ k2 =>
      have H := HA.out
      clear HA
      simp only [spec_trDifferences.l0] at H
      by_cases c7 : x22_2 < (l1.length : Int)
      ·rw [if_pos c7] at H
       have c7b0 : decide (x22_2 < (l1.length : Int)) = true := decide_eq_true c7
       clear c7
       by_cases c8 : 0 ≤ x22_2
       ·rw [if_pos c8] at H
        have c8b0 : decide (0 ≤ x22_2) = true := decide_eq_true c8
        clear c8
        by_cases c9 : x22_2 < (l1.length : Int)
        ·rw [if_pos c9] at H
         have c9b0 : decide (x22_2 < (l1.length : Int)) = true := decide_eq_true c9
         clear c9
         by_cases c10 : ((rd_L1 l1 x22_2).length : Int) = 3
         ·rw [if_pos c10] at H
          have c10b0 : (((rd_L1 l1 x22_2).length : Int) == 3) = true := beq_iff_eq.mpr c10
          have c10b1 : (((rd_L1 l1 x22_2).length : Int) != 3) = false := bne_eq_false_iff_eq.mpr c10
          clear c10
          replace H := Option.bind_eq_some_iff.mp H
          obtain ⟨t155, A110, H⟩ := H
          replace H : (if t155 = true then (if 0 < ((rd_L1 l1 x22_2).length : Int) then (if 1 < ((rd_L1 l1 x22_2).length : Int) then (if (rd (rd_L1 l1 x22_2) 0) > (rd (rd_L1 l1 x22_2) 1) then (some false) else (if 2 < ((rd_L1 l1 x22_2).length : Int) then (if (rd (rd_L1 l1 x22_2) 1) > (rd (rd_L1 l1 x22_2) 2) then (some false) else (if (wrap64 ((rd (rd_L1 l1 x22_2) 0) + (rd (rd_L1 l1 x22_2) 1))) = (rd (rd_L1 l1 x22_2) 2) then (if x22_2 > 0 then (if 0 ≤ (wrap64 (x22_2 - 1)) then (if (wrap64 (x22_2 - 1)) < (l1.length : Int) then ((spec_trLess.f k2 (rd_L1 l1 (wrap64 (x22_2 - 1))) (rd_L1 l1 x22_2)).bind fun t164 => (if t164 = true then (spec_trDifferences.l0 k2 a0 l1 (l1.length : Int) l1 (l1.length : Int) (wrap64 (x22_2 + 1))) else (some false))) else (none)) else (none)) else (spec_trDifferences.l0 k2 a0 l1 (l1.length : Int) l1 (l1.length : Int) (wrap64 (x22_2 + 1)))) else (if (wrap64 ((wrap64 ((rd (rd_L1 l1 x22_2) 0) + (rd (rd_L1 l1 x22_2) 1))) + (rd (rd_L1 l1 x22_2) 2))) = a0 then (if x22_2 > 0 then (if 0 ≤ (wrap64 (x22_2 - 1)) then (if (wrap64 (x22_2 - 1)) < (l1.length : Int) then ((spec_trLess.f k2 (rd_L1 l1 (wrap64 (x22_2 - 1))) (rd_L1 l1 x22_2)).bind fun t169 => (if t169 = true then (spec_trDifferences.l0 k2 a0 l1 (l1.length : Int) l1 (l1.length : Int) (wrap64 (x22_2 + 1))) else (some false))) else (none)) else (none)) else (spec_trDifferences.l0 k2 a0 l1 (l1.length : Int) l1 (l1.length : Int) (wrap64 (x22_2 + 1)))) else (some false)))) else (none))) else (none)) else (none)) else (some false)) = some r := H
          have A11 := Aside0.mk A110
          clear A110
          by_cases c12 : t155 = true
          ·subst c12
           have H1 : (if 0 < ((rd_L1 l1 x22_2).length : Int) then (if 1 < ((rd_L1 l1 x22_2).length : Int) then (if (rd (rd_L1 l1 x22_2) 0) > (rd (rd_L1 l1 x22_2) 1) then (some false) else (if 2 < ((rd_L1 l1 x22_2).length : Int) then (if (rd (rd_L1 l1 x22_2) 1) > (rd (rd_L1 l1 x22_2) 2) then (some false) else (if (wrap64 ((rd (rd_L1 l1 x22_2) 0) + (rd (rd_L1 l1 x22_2) 1))) = (rd (rd_L1 l1 x22_2) 2) then (if x22_2 > 0 then (if 0 ≤ (wrap64 (x22_2 - 1)) then (if (wrap64 (x22_2 - 1)) < (l1.length : Int) then ((spec_trLess.f k2 (rd_L1 l1 (wrap64 (x22_2 - 1))) (rd_L1 l1 x22_2)).bind fun t164 => (if t164 = true then (spec_trDifferences.l0 k2 a0 l1 (l1.length : Int) l1 (l1.length : Int) (wrap64 (x22_2 + 1))) else (some false))) else (none)) else (none)) else (spec_trDifferences.l0 k2 a0 l1 (l1.length : Int) l1 (l1.length : Int) (wrap64 (x22_2 + 1)))) else (if (wrap64 ((wrap64 ((rd (rd_L1 l1 x22_2) 0) + (rd (rd_L1 l1 x22_2) 1))) + (rd (rd_L1 l1 x22_2) 2))) = a0 then (if x22_2 > 0 then (if 0 ≤ (wrap64 (x22_2 - 1)) then (if (wrap64 (x22_2 - 1)) < (l1.length : Int) then ((spec_trLess.f k2 (rd_L1 l1 (wrap64 (x22_2 - 1))) (rd_L1 l1 x22_2)).bind fun t169 => (if t169 = true then (spec_trDifferences.l0 k2 a0 l1 (l1.length : Int) l1 (l1.length : Int) (wrap64 (x22_2 + 1))) else (some false))) else (none)) else (none)) else (spec_trDifferences.l0 k2 a0 l1 (l1.length : Int) l1 (l1.length : Int) (wrap64 (x22_2 + 1)))) else (some false)))) else (none))) else (none)) else (none)) = some r := by rw [if_pos rfl] at H; exact H
           clear H
           have H := H1
           clear H1
           by_cases c13 : 0 < ((rd_L1 l1 x22_2).length : Int)
           ·rw [if_pos c13] at H
            have c13b0 : decide (0 < ((rd_L1 l1 x22_2).length : Int)) = true := decide_eq_true c13
            have c13b1 : decide (0 < (rd_L1 l1 x22_2).length) = true := decide_eq_true (by omega)
            clear c13
            by_cases c14 : 1 < ((rd_L1 l1 x22_2).length : Int)
            ·rw [if_pos c14] at H
             have c14b0 : decide (1 < ((rd_L1 l1 x22_2).length : Int)) = true := decide_eq_true c14
             have c14b1 : decide (1 < (rd_L1 l1 x22_2).length) = true := decide_eq_true (by omega)
             clear c14
             by_cases c15 : (rd (rd_L1 l1 x22_2) 0) > (rd (rd_L1 l1 x22_2) 1)
             ·rw [if_pos c15] at H
              have c15b0 : decide ((rd (rd_L1 l1 x22_2) 1) < (rd (rd_L1 l1 x22_2) 0)) = true := decide_eq_true c15
              clear c15
              obtain rfl := Option.some.inj H
              have p154 : 0 ≤ (x22_2 : Int) := of_decide_eq_true (by first | (with_reducible assumption) | assumption)
              have q154 : x22_2 < (l1.length : Int) := of_decide_eq_true (by first | (with_reducible assumption) | assumption)
              obtain ⟨ad154, A154_0, c154_0, e154, hx154_0, hl154_0, hi154_0⟩ := at_L1 HR1.out x22_2 p154 q154
              cases e154
              replace hx154_0 := (HB.out.cell (World.block_lt_of_cell? w _ hx154_0)).trans hx154_0
              have HR154_0 := Aside0.mk hi154_0
              have HC154_0 := Aside0.mk hl154_0
              clear hi154_0 hl154_0
              replace p154 := eq_true p154
              replace q154 := eq_true q154
              try go_wp2
              have n0_ := Aside0.mk (below_drew1 HB.out)
              clear HB
              have HB := n0_
              clear n0_
              have p156 : 0 ≤ (0 : Int) := (by omega)
              have q156 : 0 < ((rd_L1 l1 x22_2).length : Int) := of_decide_eq_true (by first | (with_reducible assumption) | assumption)
              obtain ⟨ad156, e156, hx156_0⟩ := Kd.at_int HR154_0.out 0 p156 q156
              have hw156_0 := hx156_0
              (try rw [show ((0 : Int)).toNat = 0 from rfl] at hw156_0)
              (try rw [show 0 * 1 = 0 from rfl] at hw156_0)
              (try rw [Addr.add_zero'] at hw156_0)
              cases e156
              have qi156 : (0 < (rd_L1 l1 x22_2).length) = True := eq_true (by omega)
              (try rw [show ((0 : Int)).toNat = 0 from rfl] at hx156_0)
              (try rw [Addr.add_zero'] at hx156_0)
              replace hx156_0 := (HB.out.cell (World.block_lt_of_cell? w _ hx156_0)).trans hx156_0
              replace p156 := eq_true p156
              replace q156 := eq_true q156
              have p157 : 0 ≤ (1 : Int) := (by omega)
              have q157 : 1 < ((rd_L1 l1 x22_2).length : Int) := of_decide_eq_true (by first | (with_reducible assumption) | assumption)
              obtain ⟨ad157, e157, hx157_0⟩ := Kd.at_int HR154_0.out 1 p157 q157
              have hw157_0 := hx157_0
              (try rw [show ((1 : Int)).toNat = 1 from rfl] at hw157_0)
              (try rw [show 1 * 1 = 1 from rfl] at hw157_0)
              (try simp only [Nat.reduceMul, Nat.reduceEqDiff, Go.Addr.add, ↓reduceIte] at hw157_0)
              obtain rfl : ad156 = ad157 := (by injection e157)
              (try simp only [show (1 : Int).toNat = 1 from rfl, Nat.reduceMul, Nat.reduceEqDiff, Go.Addr.add, ↓reduceIte] at hx157_0)
              have qi157 : (1 < (rd_L1 l1 x22_2).length) = True := eq_true (by omega)
              (try rw [show ((1 : Int)).toNat = 1 from rfl] at hx157_0)
              replace hx157_0 := (HB.out.cell (World.block_lt_of_cell? w _ hx157_0)).trans hx157_0
              replace p157 := eq_true p157
              replace q157 := eq_true q157
              refine start_ (n := 70) (S := fun w' => w'.cell? ad156 = some (.int .i64 (rd (rd_L1 l1 x22_2) 0)) ∧ w'.cell? ⟨ad156.block, ad156.off + 1, none⟩ = some (.int .i64 (rd (rd_L1 l1 x22_2) 1))) (ds := []) (mb 70 0) (by kernel_rfl) rfl rfl ⟨((HB.out.cell (World.block_lt_of_cell? w _ hw156_0)).trans hw156_0), ((HB.out.cell (World.block_lt_of_cell? w _ hw157_0)).trans hw157_0)⟩ (fun hHeld => ?_); refine with_tabW spec_trDifferences.tab7 spec_trDifferences.bits7 (fun HT_ HW_ => ?_)
              generalize wr.drew = w16 at HB hx156_0 hx157_0 hHeld ⊢
              refine pureV 0 27 70 1 HT_ ?_
              refine pureV 1 28 70 3 HT_ ?_
              refine pureV 2 29 70 7 HT_ ?_
              refine pureV 3 30 70 15 HT_ ?_
              refine pureV 4 31 70 31 HT_ ?_
              refine pureV 5 32 70 63 HT_ ?_
              refine pureV 6 33 70 127 HT_ ?_
              refine one_ (i := 7) (N := some 34) (mb 70 255) rfl rfl (one_of HT_.out (by kernel_rfl)) (by decide) (fun K hK => ?_)
              refine goes_ Try.func104 (by kernel_rfl) rfl #[.slice (some ad156) (rd_L1 l1 x22_2).length c154_0, .int .i64 1, .int .i64 (wrap64 (3 * (l1.length : Int)))] (by rfl) rfl rfl (by (try simp only [List.map_toArray, List.map_cons, List.map_nil]); first | done | rfl | (simp only [List.length_drop, List.length_take]; rfl)) ?_
              with_reducible refine (spec_l1All.calls k2 _ _ (rd_L1 l1 x22_2) 1 (wrap64 (3 * (l1.length : Int))) true _ ?side1 ?side2 A11.out).mono ?_
              (case side1 => repeat (first | exact (Kd.C_below HR154_0.out HB.out) | (with_reducible refine Kd.C_alloc ?_ _) | (with_reducible refine Kd.C_drewN ?_ _) | (with_reducible refine Kd.C_drew ?_)))
              (case side2 => exact HC154_0.out)
              rintro e w' ⟨rfl, ⟨nd, rfl⟩⟩
              refine ⟨_, rfl, ?_⟩
              refine hK.out _ _ ⟨((HB.out.cell (World.block_lt_of_cell? w _ hw156_0)).trans hw156_0), ((HB.out.cell (World.block_lt_of_cell? w _ hw157_0)).trans hw157_0)⟩ (fun hHeld => ?_)
              clear hK K
              refine norm_ (a' := ?_) ?_ ?_
              rotate_left
              ·show Act.put _ (some 34) _ = _
               simp only [Act.put, List.setIfInBounds_toArray, List.set_cons_zero, List.set_cons_succ, i64_w, i32_w]
               rfl
              refine pureV 8 35 70 511 HT_ ?_
              refine pureV 9 36 70 1023 HT_ ?_
              refine pureV 10 37 70 2047 HT_ ?_
              refine pureV 11 38 70 4095 HT_ ?_
              refine pureV 12 39 70 8191 HT_ ?_
              refine pureV 14 41 70 24575 HT_ ?_
              refine pureV 15 42 70 57343 HT_ ?_
              refine takeV 13 40 70 65535 HT_ HW_ hHeld rfl (by rintro w' ⟨s0, s1⟩; go_simp; with_reducible rfl) ?_
              refine takeV 16 43 70 131071 HT_ HW_ hHeld rfl (by rintro w' ⟨s0, s1⟩; go_simp; with_reducible rfl) ?_
              refine pureV 17 44 70 262143 HT_ ?_
              refine pureV 18 45 70 524287 HT_ ?_
              refine pureV 19 46 70 1048575 HT_ ?_
              refine pureU 20 47 70 2097151 HT_ ?_
              refine pureU 21 48 70 4194303 HT_ ?_
              refine pureU 22 49 70 8388607 HT_ ?_
              refine pureU 23 50 70 16777215 HT_ ?_
              refine pureU 24 51 70 33554431 HT_ ?_
              refine pureU 25 52 70 67108863 HT_ ?_
              refine pureU 26 53 70 134217727 HT_ ?_
              refine pureV 27 54 70 268435455 HT_ ?_
              refine pureV 28 55 70 536870911 HT_ ?_
              refine pureU 29 56 70 1073741823 HT_ ?_
              refine pureU 30 57 70 2147483647 HT_ ?_
              refine pureU 31 58 70 4294967295 HT_ ?_
              refine pureU 32 59 70 8589934591 HT_ ?_
              refine pureU 33 60 70 17179869183 HT_ ?_
              refine pureU 34 61 70 34359738367 HT_ ?_
              refine pureU 35 62 70 68719476735 HT_ ?_
              refine pureU 36 63 70 137438953471 HT_ ?_
              refine pureU 37 64 70 274877906943 HT_ ?_
              refine pureU 38 65 70 549755813887 HT_ ?_
              refine pureU 39 66 70 1099511627775 HT_ ?_
              refine pureU 40 67 70 2199023255551 HT_ ?_
              refine pureU 41 68 70 4398046511103 HT_ ?_
              refine pureU 42 69 70 8796093022207 HT_ ?_
              refine pureU 43 70 70 17592186044415 HT_ ?_
              refine pureU 44 71 70 35184372088831 HT_ ?_
              refine pureU 45 72 70 70368744177663 HT_ ?_
              refine pureU 46 73 70 140737488355327 HT_ ?_
              refine pureU 47 74 70 281474976710655 HT_ ?_
              refine pureU 48 75 70 562949953421311 HT_ ?_
              refine pureU 49 76 70 1125899906842623 HT_ ?_
              refine pureU 50 77 70 2251799813685247 HT_ ?_
              refine pureU 51 78 70 4503599627370495 HT_ ?_
              refine pureU 52 79 70 9007199254740991 HT_ ?_
              refine pureU 53 80 70 18014398509481983 HT_ ?_
              refine pureU 54 81 70 36028797018963967 HT_ ?_
              refine pureV 55 82 70 72057594037927935 HT_ ?_
              refine pureV 56 83 70 144115188075855871 HT_ ?_
              refine pureU 57 84 70 288230376151711743 HT_ ?_
              refine pureU 58 85 70 576460752303423487 HT_ ?_
              refine pureU 59 86 70 1152921504606846975 HT_ ?_
              refine pureU 60 87 70 2305843009213693951 HT_ ?_
              refine pureU 61 88 70 4611686018427387903 HT_ ?_
              refine pureU 62 89 70 9223372036854775807 HT_ ?_
              refine pureU 63 90 70 18446744073709551615 HT_ ?_
              refine pureU 64 91 70 36893488147419103231 HT_ ?_
              refine pureU 65 92 70 73786976294838206463 HT_ ?_
              refine pureU 66 93 70 147573952589676412927 HT_ ?_
              refine pureU 67 94 70 295147905179352825855 HT_ ?_
              refine pureU 68 95 70 590295810358705651711 HT_ ?_
              refine pureV 69 96 70 1180591620717411303423 HT_ ?_
              refine done_ (done_of HT_.out (by kernel_rfl)) ?_
              try go_wp2
              go_ret
              exact ⟨by first | rfl | (simp [errW_none, errW_some] <;> rfl) | (simp [*, errW_none, errW_some] <;> rfl), by repeat (first | (with_reducible first | exact HB.out | apply below_alloc | apply pw_below_drewN | apply below_drew1) | exact HB.out)⟩
             ·rw [if_neg c15] at H
              have c15b0 : decide ((rd (rd_L1 l1 x22_2) 1) < (rd (rd_L1 l1 x22_2) 0)) = false := decide_eq_false c15
              clear c15
              by_cases c17 : 2 < ((rd_L1 l1 x22_2).length : Int)
              ·rw [if_pos c17] at H
               have c17b0 : decide (2 < ((rd_L1 l1 x22_2).length : Int)) = true := decide_eq_true c17
               have c17b1 : decide (2 < (rd_L1 l1 x22_2).length) = true := decide_eq_true (by omega)
               clear c17
               by_cases c18 : (rd (rd_L1 l1 x22_2) 1) > (rd (rd_L1 l1 x22_2) 2)
               ·rw [if_pos c18] at H
                have c18b0 : decide ((rd (rd_L1 l1 x22_2) 2) < (rd (rd_L1 l1 x22_2) 1)) = true := decide_eq_true c18
                clear c18
                obtain rfl := Option.some.inj H
                have p154 : 0 ≤ (x22_2 : Int) := of_decide_eq_true (by first | (with_reducible assumption) | assumption)
                have q154 : x22_2 < (l1.length : Int) := of_decide_eq_true (by first | (with_reducible assumption) | assumption)
                obtain ⟨ad154, A154_0, c154_0, e154, hx154_0, hl154_0, hi154_0⟩ := at_L1 HR1.out x22_2 p154 q154
                cases e154
                replace hx154_0 := (HB.out.cell (World.block_lt_of_cell? w _ hx154_0)).trans hx154_0
                have HR154_0 := Aside0.mk hi154_0
                have HC154_0 := Aside0.mk hl154_0
                clear hi154_0 hl154_0
                replace p154 := eq_true p154
                replace q154 := eq_true q154
                try go_wp2
                have n0_ := Aside0.mk (below_drew1 HB.out)
                clear HB
                have HB := n0_
                clear n0_
                have p156 : 0 ≤ (0 : Int) := (by omega)
                have q156 : 0 < ((rd_L1 l1 x22_2).length : Int) := of_decide_eq_true (by first | (with_reducible assumption) | assumption)
                obtain ⟨ad156, e156, hx156_0⟩ := Kd.at_int HR154_0.out 0 p156 q156
                have hw156_0 := hx156_0
                (try rw [show ((0 : Int)).toNat = 0 from rfl] at hw156_0)
                (try rw [show 0 * 1 = 0 from rfl] at hw156_0)
                (try rw [Addr.add_zero'] at hw156_0)
                cases e156
                have qi156 : (0 < (rd_L1 l1 x22_2).length) = True := eq_true (by omega)
                (try rw [show ((0 : Int)).toNat = 0 from rfl] at hx156_0)
                (try rw [Addr.add_zero'] at hx156_0)
                replace hx156_0 := (HB.out.cell (World.block_lt_of_cell? w _ hx156_0)).trans hx156_0
                replace p156 := eq_true p156
                replace q156 := eq_true q156
                have p157 : 0 ≤ (1 : Int) := (by omega)
                have q157 : 1 < ((rd_L1 l1 x22_2).length : Int) := of_decide_eq_true (by first | (with_reducible assumption) | assumption)
                obtain ⟨ad157, e157, hx157_0⟩ := Kd.at_int HR154_0.out 1 p157 q157
                have hw157_0 := hx157_0
                (try rw [show ((1 : Int)).toNat = 1 from rfl] at hw157_0)
                (try rw [show 1 * 1 = 1 from rfl] at hw157_0)
                (try simp only [Nat.reduceMul, Nat.reduceEqDiff, Go.Addr.add, ↓reduceIte] at hw157_0)
                obtain rfl : ad156 = ad157 := (by injection e157)
                (try simp only [show (1 : Int).toNat = 1 from rfl, Nat.reduceMul, Nat.reduceEqDiff, Go.Addr.add, ↓reduceIte] at hx157_0)
                have qi157 : (1 < (rd_L1 l1 x22_2).length) = True := eq_true (by omega)
                (try rw [show ((1 : Int)).toNat = 1 from rfl] at hx157_0)
                replace hx157_0 := (HB.out.cell (World.block_lt_of_cell? w _ hx157_0)).trans hx157_0
                replace p157 := eq_true p157
                replace q157 := eq_true q157
                have p158 : 0 ≤ (1 : Int) := (by omega)
                have q158 : 1 < ((rd_L1 l1 x22_2).length : Int) := of_decide_eq_true (by first | (with_reducible assumption) | assumption)
                obtain ⟨ad158, e158, hx158_0⟩ := Kd.at_int HR154_0.out 1 p158 q158
                have hw158_0 := hx158_0
                (try rw [show ((1 : Int)).toNat = 1 from rfl] at hw158_0)
                (try rw [show 1 * 1 = 1 from rfl] at hw158_0)
                (try simp only [Nat.reduceMul, Nat.reduceEqDiff, Go.Addr.add, ↓reduceIte] at hw158_0)
                obtain rfl : ad156 = ad158 := (by injection e158)
                (try simp only [show (1 : Int).toNat = 1 from rfl, Nat.reduceMul, Nat.reduceEqDiff, Go.Addr.add, ↓reduceIte] at hx158_0)
                have qi158 : (1 < (rd_L1 l1 x22_2).length) = True := eq_true (by omega)
                (try rw [show ((1 : Int)).toNat = 1 from rfl] at hx158_0)
                replace hx158_0 := (HB.out.cell (World.block_lt_of_cell? w _ hx158_0)).trans hx158_0
                replace p158 := eq_true p158
                replace q158 := eq_true q158
                have p159 : 0 ≤ (2 : Int) := (by omega)
                have q159 : 2 < ((rd_L1 l1 x22_2).length : Int) := of_decide_eq_true (by first | (with_reducible assumption) | assumption)
                obtain ⟨ad159, e159, hx159_0⟩ := Kd.at_int HR154_0.out 2 p159 q159
                have hw159_0 := hx159_0
                (try rw [show ((2 : Int)).toNat = 2 from rfl] at hw159_0)
                (try rw [show 2 * 1 = 2 from rfl] at hw159_0)
                (try simp only [Nat.reduceMul, Nat.reduceEqDiff, Go.Addr.add, ↓reduceIte] at hw159_0)
                obtain rfl : ad156 = ad159 := (by injection e159)
                (try simp only [show (2 : Int).toNat = 2 from rfl, Nat.reduceMul, Nat.reduceEqDiff, Go.Addr.add, ↓reduceIte] at hx159_0)
                have qi159 : (2 < (rd_L1 l1 x22_2).length) = True := eq_true (by omega)
                (try rw [show ((2 : Int)).toNat = 2 from rfl] at hx159_0)
                replace hx159_0 := (HB.out.cell (World.block_lt_of_cell? w _ hx159_0)).trans hx159_0
                replace p159 := eq_true p159
                replace q159 := eq_true q159
                refine start_ (n := 70) (S := fun w' => w'.cell? ad156 = some (.int .i64 (rd (rd_L1 l1 x22_2) 0)) ∧ w'.cell? ⟨ad156.block, ad156.off + 1, none⟩ = some (.int .i64 (rd (rd_L1 l1 x22_2) 1)) ∧ w'.cell? ⟨ad156.block, ad156.off + 1, none⟩ = some (.int .i64 (rd (rd_L1 l1 x22_2) 1)) ∧ w'.cell? ⟨ad156.block, ad156.off + 2, none⟩ = some (.int .i64 (rd (rd_L1 l1 x22_2) 2))) (ds := []) (mb 70 0) (by kernel_rfl) rfl rfl ⟨((HB.out.cell (World.block_lt_of_cell? w _ hw156_0)).trans hw156_0), ((HB.out.cell (World.block_lt_of_cell? w _ hw157_0)).trans hw157_0), ((HB.out.cell (World.block_lt_of_cell? w _ hw158_0)).trans hw158_0), ((HB.out.cell (World.block_lt_of_cell? w _ hw159_0)).trans hw159_0)⟩ (fun hHeld => ?_); refine with_tabW spec_trDifferences.tab7 spec_trDifferences.bits7 (fun HT_ HW_ => ?_)
                generalize wr.drew = w19 at HB hx156_0 hx157_0 hx158_0 hx159_0 hHeld ⊢
                refine pureV 0 27 70 1 HT_ ?_
                refine pureV 1 28 70 3 HT_ ?_
                refine pureV 2 29 70 7 HT_ ?_
                refine pureV 3 30 70 15 HT_ ?_
                refine pureV 4 31 70 31 HT_ ?_
                refine pureV 5 32 70 63 HT_ ?_
                refine pureV 6 33 70 127 HT_ ?_
                refine one_ (i := 7) (N := some 34) (mb 70 255) rfl rfl (one_of HT_.out (by kernel_rfl)) (by decide) (fun K hK => ?_)
                refine goes_ Try.func104 (by kernel_rfl) rfl #[.slice (some ad156) (rd_L1 l1 x22_2).length c154_0, .int .i64 1, .int .i64 (wrap64 (3 * (l1.length : Int)))] (by rfl) rfl rfl (by (try simp only [List.map_toArray, List.map_cons, List.map_nil]); first | done | rfl | (simp only [List.length_drop, List.length_take]; rfl)) ?_
                with_reducible refine (spec_l1All.calls k2 _ _ (rd_L1 l1 x22_2) 1 (wrap64 (3 * (l1.length : Int))) true _ ?side1 ?side2 A11.out).mono ?_
                (case side1 => repeat (first | exact (Kd.C_below HR154_0.out HB.out) | (with_reducible refine Kd.C_alloc ?_ _) | (with_reducible refine Kd.C_drewN ?_ _) | (with_reducible refine Kd.C_drew ?_)))
                (case side2 => exact HC154_0.out)
                rintro e w' ⟨rfl, ⟨nd, rfl⟩⟩
                refine ⟨_, rfl, ?_⟩
                refine hK.out _ _ ⟨((HB.out.cell (World.block_lt_of_cell? w _ hw156_0)).trans hw156_0), ((HB.out.cell (World.block_lt_of_cell? w _ hw157_0)).trans hw157_0), ((HB.out.cell (World.block_lt_of_cell? w _ hw158_0)).trans hw158_0), ((HB.out.cell (World.block_lt_of_cell? w _ hw159_0)).trans hw159_0)⟩ (fun hHeld => ?_)
                clear hK K
                refine norm_ (a' := ?_) ?_ ?_
                rotate_left
                ·show Act.put _ (some 34) _ = _
                 simp only [Act.put, List.setIfInBounds_toArray, List.set_cons_zero, List.set_cons_succ, i64_w, i32_w]
                 rfl
                refine pureV 8 35 70 511 HT_ ?_
                refine pureV 9 36 70 1023 HT_ ?_
                refine pureV 10 37 70 2047 HT_ ?_
                refine pureV 11 38 70 4095 HT_ ?_
                refine pureV 12 39 70 8191 HT_ ?_
                refine pureV 14 41 70 24575 HT_ ?_
                refine pureV 15 42 70 57343 HT_ ?_
                refine takeV 13 40 70 65535 HT_ HW_ hHeld rfl (by rintro w' ⟨s0, s1, s2, s3⟩; go_simp; with_reducible rfl) ?_
                refine takeV 16 43 70 131071 HT_ HW_ hHeld rfl (by rintro w' ⟨s0, s1, s2, s3⟩; go_simp; with_reducible rfl) ?_
                refine pureV 17 44 70 262143 HT_ ?_
                refine pureV 18 45 70 524287 HT_ ?_
                refine pureV 19 46 70 1048575 HT_ ?_
                refine pureV 20 47 70 2097151 HT_ ?_
                refine pureV 21 48 70 4194303 HT_ ?_
                refine pureV 23 50 70 12582911 HT_ ?_
                refine pureV 24 51 70 29360127 HT_ ?_
                refine takeV 22 49 70 33554431 HT_ HW_ hHeld rfl (by rintro w' ⟨s0, s1, s2, s3⟩; go_simp; with_reducible rfl) ?_
                refine takeV 25 52 70 67108863 HT_ HW_ hHeld rfl (by rintro w' ⟨s0, s1, s2, s3⟩; go_simp; with_reducible rfl) ?_
                refine pureV 26 53 70 134217727 HT_ ?_
                refine pureV 27 54 70 268435455 HT_ ?_
                refine pureV 28 55 70 536870911 HT_ ?_
                refine pureU 29 56 70 1073741823 HT_ ?_
                refine pureU 30 57 70 2147483647 HT_ ?_
                refine pureU 31 58 70 4294967295 HT_ ?_
                refine pureU 32 59 70 8589934591 HT_ ?_
                refine pureU 33 60 70 17179869183 HT_ ?_
                refine pureU 34 61 70 34359738367 HT_ ?_
                refine pureU 35 62 70 68719476735 HT_ ?_
                refine pureU 36 63 70 137438953471 HT_ ?_
                refine pureU 37 64 70 274877906943 HT_ ?_
                refine pureU 38 65 70 549755813887 HT_ ?_
                refine pureU 39 66 70 1099511627775 HT_ ?_
                refine pureU 40 67 70 2199023255551 HT_ ?_
                refine pureU 41 68 70 4398046511103 HT_ ?_
                refine pureU 42 69 70 8796093022207 HT_ ?_
                refine pureU 43 70 70 17592186044415 HT_ ?_
                refine pureU 44 71 70 35184372088831 HT_ ?_
                refine pureU 45 72 70 70368744177663 HT_ ?_
                refine pureU 46 73 70 140737488355327 HT_ ?_
                refine pureU 47 74 70 281474976710655 HT_ ?_
                refine pureU 48 75 70 562949953421311 HT_ ?_
                refine pureU 49 76 70 1125899906842623 HT_ ?_
                refine pureU 50 77 70 2251799813685247 HT_ ?_
                refine pureU 51 78 70 4503599627370495 HT_ ?_
                refine pureU 52 79 70 9007199254740991 HT_ ?_
                refine pureU 53 80 70 18014398509481983 HT_ ?_
                refine pureU 54 81 70 36028797018963967 HT_ ?_
                refine pureV 55 82 70 72057594037927935 HT_ ?_
                refine pureV 56 83 70 144115188075855871 HT_ ?_
                refine pureU 57 84 70 288230376151711743 HT_ ?_
                refine pureU 58 85 70 576460752303423487 HT_ ?_
                refine pureU 59 86 70 1152921504606846975 HT_ ?_
                refine pureU 60 87 70 2305843009213693951 HT_ ?_
                refine pureU 61 88 70 4611686018427387903 HT_ ?_
                refine pureU 62 89 70 9223372036854775807 HT_ ?_
                refine pureU 63 90 70 18446744073709551615 HT_ ?_
                refine pureU 64 91 70 36893488147419103231 HT_ ?_
                refine pureU 65 92 70 73786976294838206463 HT_ ?_
                refine pureU 66 93 70 147573952589676412927 HT_ ?_
                refine pureU 67 94 70 295147905179352825855 HT_ ?_
                refine pureU 68 95 70 590295810358705651711 HT_ ?_
                refine pureV 69 96 70 1180591620717411303423 HT_ ?_
                refine done_ (done_of HT_.out (by kernel_rfl)) ?_
                try go_wp2
                go_ret
                exact ⟨by first | rfl | (simp [errW_none, errW_some] <;> rfl) | (simp [*, errW_none, errW_some] <;> rfl), by repeat (first | (with_reducible first | exact HB.out | apply below_alloc | apply pw_below_drewN | apply below_drew1) | exact HB.out)⟩
               ·rw [if_neg c18] at H
                have c18b0 : decide ((rd (rd_L1 l1 x22_2) 2) < (rd (rd_L1 l1 x22_2) 1)) = false := decide_eq_false c18
                clear c18
                by_cases c20 : (wrap64 ((rd (rd_L1 l1 x22_2) 0) + (rd (rd_L1 l1 x22_2) 1))) = (rd (rd_L1 l1 x22_2) 2)
                ·rw [if_pos c20] at H
                 have c20b0 : ((wrap64 ((rd (rd_L1 l1 x22_2) 0) + (rd (rd_L1 l1 x22_2) 1))) == (rd (rd_L1 l1 x22_2) 2)) = true := beq_iff_eq.mpr c20
                 have c20b1 : ((wrap64 ((rd (rd_L1 l1 x22_2) 0) + (rd (rd_L1 l1 x22_2) 1))) != (rd (rd_L1 l1 x22_2) 2)) = false := bne_eq_false_iff_eq.mpr c20
                 clear c20
                 by_cases c21 : x22_2 > 0
                 ·rw [if_pos c21] at H
                  have c21b0 : decide (0 < x22_2) = true := decide_eq_true c21
                  clear c21
                  obtain ⟨ji22, hji22⟩ : ∃ j_ : Int, (wrap64 (x22_2 - 1)) = j_ := ⟨_, rfl⟩
                  replace H : (if 0 ≤ (ji22) then (if (ji22) < (l1.length : Int) then ((spec_trLess.f k2 (rd_L1 l1 (ji22)) (rd_L1 l1 x22_2)).bind fun t164 => (if t164 = true then (spec_trDifferences.l0 k2 a0 l1 (l1.length : Int) l1 (l1.length : Int) (wrap64 (x22_2 + 1))) else (some false))) else (none)) else (none)) = some r := by first | (rw [hji22] at H; exact H) | (simp only [hji22] at H ⊢; exact H)
                  (try rw [hji22] at A11)
                  have hji22w : (IntKind.i64.wrap (x22_2 - 1)) = ji22 := (i64_w _).trans hji22
                  by_cases c23 : 0 ≤ (ji22)
                  ·rw [if_pos c23] at H
                   have c23b0 : decide (0 ≤ (ji22)) = true := decide_eq_true c23
                   clear c23
                   by_cases c24 : (ji22) < (l1.length : Int)
                   ·rw [if_pos c24] at H
                    have c24b0 : decide ((ji22) < (l1.length : Int)) = true := decide_eq_true c24
                    clear c24
                    replace H := Option.bind_eq_some_iff.mp H
                    obtain ⟨t164, A250, H⟩ := H
                    replace H : (if t164 = true then (spec_trDifferences.l0 k2 a0 l1 (l1.length : Int) l1 (l1.length : Int) (wrap64 (x22_2 + 1))) else (some false)) = some r := H
                    have A25 := Aside0.mk A250
                    clear A250
                    by_cases c26 : t164 = true
                    ·subst c26
                     have H1 : (spec_trDifferences.l0 k2 a0 l1 (l1.length : Int) l1 (l1.length : Int) (wrap64 (x22_2 + 1))) = some r := by rw [if_pos rfl] at H; exact H
                     clear H
                     have H := H1
                     clear H1
                     have H' := Aside0.mk H
                     clear H
                     have p154 : 0 ≤ (x22_2 : Int) := of_decide_eq_true (by first | (with_reducible assumption) | assumption)
                     have q154 : x22_2 < (l1.length : Int) := of_decide_eq_true (by first | (with_reducible assumption) | assumption)
                     obtain ⟨ad154, A154_0, c154_0, e154, hx154_0, hl154_0, hi154_0⟩ := at_L1 HR1.out x22_2 p154 q154
                     cases e154
                     replace hx154_0 := (HB.out.cell (World.block_lt_of_cell? w _ hx154_0)).trans hx154_0
                     have HR154_0 := Aside0.mk hi154_0
                     have HC154_0 := Aside0.mk hl154_0
                     clear hi154_0 hl154_0
                     replace p154 := eq_true p154
                     replace q154 := eq_true q154
                     try go_wp2
                     have n0_ := Aside0.mk (below_drew1 HB.out)
                     clear HB
                     have HB := n0_
                     clear n0_
                     have p156 : 0 ≤ (0 : Int) := (by omega)
                     have q156 : 0 < ((rd_L1 l1 x22_2).length : Int) := of_decide_eq_true (by first | (with_reducible assumption) | assumption)
                     obtain ⟨ad156, e156, hx156_0⟩ := Kd.at_int HR154_0.out 0 p156 q156
                     have hw156_0 := hx156_0
                     (try rw [show ((0 : Int)).toNat = 0 from rfl] at hw156_0)
                     (try rw [show 0 * 1 = 0 from rfl] at hw156_0)
                     (try rw [Addr.add_zero'] at hw156_0)
                     cases e156
                     have qi156 : (0 < (rd_L1 l1 x22_2).length) = True := eq_true (by omega)
                     (try rw [show ((0 : Int)).toNat = 0 from rfl] at hx156_0)
                     (try rw [Addr.add_zero'] at hx156_0)
                     replace hx156_0 := (HB.out.cell (World.block_lt_of_cell? w _ hx156_0)).trans hx156_0
                     replace p156 := eq_true p156
                     replace q156 := eq_true q156
                     have p157 : 0 ≤ (1 : Int) := (by omega)
                     have q157 : 1 < ((rd_L1 l1 x22_2).length : Int) := of_decide_eq_true (by first | (with_reducible assumption) | assumption)
                     obtain ⟨ad157, e157, hx157_0⟩ := Kd.at_int HR154_0.out 1 p157 q157
                     have hw157_0 := hx157_0
                     (try rw [show ((1 : Int)).toNat = 1 from rfl] at hw157_0)
                     (try rw [show 1 * 1 = 1 from rfl] at hw157_0)
                     (try simp only [Nat.reduceMul, Nat.reduceEqDiff, Go.Addr.add, ↓reduceIte] at hw157_0)
                     obtain rfl : ad156 = ad157 := (by injection e157)
                     (try simp only [show (1 : Int).toNat = 1 from rfl, Nat.reduceMul, Nat.reduceEqDiff, Go.Addr.add, ↓reduceIte] at hx157_0)
                     have qi157 : (1 < (rd_L1 l1 x22_2).length) = True := eq_true (by omega)
                     (try rw [show ((1 : Int)).toNat = 1 from rfl] at hx157_0)
                     replace hx157_0 := (HB.out.cell (World.block_lt_of_cell? w _ hx157_0)).trans hx157_0
                     replace p157 := eq_true p157
                     replace q157 := eq_true q157
                     have p158 : 0 ≤ (1 : Int) := (by omega)
                     have q158 : 1 < ((rd_L1 l1 x22_2).length : Int) := of_decide_eq_true (by first | (with_reducible assumption) | assumption)
                     obtain ⟨ad158, e158, hx158_0⟩ := Kd.at_int HR154_0.out 1 p158 q158
                     have hw158_0 := hx158_0
                     (try rw [show ((1 : Int)).toNat = 1 from rfl] at hw158_0)
                     (try rw [show 1 * 1 = 1 from rfl] at hw158_0)
                     (try simp only [Nat.reduceMul, Nat.reduceEqDiff, Go.Addr.add, ↓reduceIte] at hw158_0)
                     obtain rfl : ad156 = ad158 := (by injection e158)
                     (try simp only [show (1 : Int).toNat = 1 from rfl, Nat.reduceMul, Nat.reduceEqDiff, Go.Addr.add, ↓reduceIte] at hx158_0)
                     have qi158 : (1 < (rd_L1 l1 x22_2).length) = True := eq_true (by omega)
                     (try rw [show ((1 : Int)).toNat = 1 from rfl] at hx158_0)
                     replace hx158_0 := (HB.out.cell (World.block_lt_of_cell? w _ hx158_0)).trans hx158_0
                     replace p158 := eq_true p158
                     replace q158 := eq_true q158
                     have p159 : 0 ≤ (2 : Int) := (by omega)
                     have q159 : 2 < ((rd_L1 l1 x22_2).length : Int) := of_decide_eq_true (by first | (with_reducible assumption) | assumption)
                     obtain ⟨ad159, e159, hx159_0⟩ := Kd.at_int HR154_0.out 2 p159 q159
                     have hw159_0 := hx159_0
                     (try rw [show ((2 : Int)).toNat = 2 from rfl] at hw159_0)
                     (try rw [show 2 * 1 = 2 from rfl] at hw159_0)
                     (try simp only [Nat.reduceMul, Nat.reduceEqDiff, Go.Addr.add, ↓reduceIte] at hw159_0)
                     obtain rfl : ad156 = ad159 := (by injection e159)
                     (try simp only [show (2 : Int).toNat = 2 from rfl, Nat.reduceMul, Nat.reduceEqDiff, Go.Addr.add, ↓reduceIte] at hx159_0)
                     have qi159 : (2 < (rd_L1 l1 x22_2).length) = True := eq_true (by omega)
                     (try rw [show ((2 : Int)).toNat = 2 from rfl] at hx159_0)
                     replace hx159_0 := (HB.out.cell (World.block_lt_of_cell? w _ hx159_0)).trans hx159_0
                     replace p159 := eq_true p159
                     replace q159 := eq_true q159
                     have p160 : 0 ≤ (0 : Int) := (by omega)
                     have q160 : 0 < ((rd_L1 l1 x22_2).length : Int) := of_decide_eq_true (by first | (with_reducible assumption) | assumption)
                     obtain ⟨ad160, e160, hx160_0⟩ := Kd.at_int HR154_0.out 0 p160 q160
                     have hw160_0 := hx160_0
                     (try rw [show ((0 : Int)).toNat = 0 from rfl] at hw160_0)
                     (try rw [show 0 * 1 = 0 from rfl] at hw160_0)
                     (try rw [Addr.add_zero'] at hw160_0)
                     obtain rfl : ad156 = ad160 := (by injection e160)
                     have qi160 : (0 < (rd_L1 l1 x22_2).length) = True := eq_true (by omega)
                     (try rw [show ((0 : Int)).toNat = 0 from rfl] at hx160_0)
                     (try rw [Addr.add_zero'] at hx160_0)
                     replace hx160_0 := (HB.out.cell (World.block_lt_of_cell? w _ hx160_0)).trans hx160_0
                     replace p160 := eq_true p160
                     replace q160 := eq_true q160
                     have p161 : 0 ≤ (1 : Int) := (by omega)
                     have q161 : 1 < ((rd_L1 l1 x22_2).length : Int) := of_decide_eq_true (by first | (with_reducible assumption) | assumption)
                     obtain ⟨ad161, e161, hx161_0⟩ := Kd.at_int HR154_0.out 1 p161 q161
                     have hw161_0 := hx161_0
                     (try rw [show ((1 : Int)).toNat = 1 from rfl] at hw161_0)
                     (try rw [show 1 * 1 = 1 from rfl] at hw161_0)
                     (try simp only [Nat.reduceMul, Nat.reduceEqDiff, Go.Addr.add, ↓reduceIte] at hw161_0)
                     obtain rfl : ad156 = ad161 := (by injection e161)
                     (try simp only [show (1 : Int).toNat = 1 from rfl, Nat.reduceMul, Nat.reduceEqDiff, Go.Addr.add, ↓reduceIte] at hx161_0)
                     have qi161 : (1 < (rd_L1 l1 x22_2).length) = True := eq_true (by omega)
                     (try rw [show ((1 : Int)).toNat = 1 from rfl] at hx161_0)
                     replace hx161_0 := (HB.out.cell (World.block_lt_of_cell? w _ hx161_0)).trans hx161_0
                     replace p161 := eq_true p161
                     replace q161 := eq_true q161
                     have p162 : 0 ≤ (2 : Int) := (by omega)
                     have q162 : 2 < ((rd_L1 l1 x22_2).length : Int) := of_decide_eq_true (by first | (with_reducible assumption) | assumption)
                     obtain ⟨ad162, e162, hx162_0⟩ := Kd.at_int HR154_0.out 2 p162 q162
                     have hw162_0 := hx162_0
                     (try rw [show ((2 : Int)).toNat = 2 from rfl] at hw162_0)
                     (try rw [show 2 * 1 = 2 from rfl] at hw162_0)
                     (try simp only [Nat.reduceMul, Nat.reduceEqDiff, Go.Addr.add, ↓reduceIte] at hw162_0)
                     obtain rfl : ad156 = ad162 := (by injection e162)
                     (try simp only [show (2 : Int).toNat = 2 from rfl, Nat.reduceMul, Nat.reduceEqDiff, Go.Addr.add, ↓reduceIte] at hx162_0)
                     have qi162 : (2 < (rd_L1 l1 x22_2).length) = True := eq_true (by omega)
                     (try rw [show ((2 : Int)).toNat = 2 from rfl] at hx162_0)
                     replace hx162_0 := (HB.out.cell (World.block_lt_of_cell? w _ hx162_0)).trans hx162_0
                     replace p162 := eq_true p162
                     replace q162 := eq_true q162
                     have p163 : 0 ≤ ((ji22) : Int) := of_decide_eq_true (by first | (with_reducible assumption) | assumption)
                     have q163 : (ji22) < (l1.length : Int) := of_decide_eq_true (by first | (with_reducible assumption) | assumption)
                     obtain ⟨ad163, A163_0, c163_0, e163, hx163_0, hl163_0, hi163_0⟩ := at_L1 HR1.out (ji22) p163 q163
                     have hw163_0 := hx163_0
                     obtain rfl : ad154 = ad163 := (by injection e163)
                     replace hx163_0 := (HB.out.cell (World.block_lt_of_cell? w _ hx163_0)).trans hx163_0
                     have HR163_0 := Aside0.mk hi163_0
                     have HC163_0 := Aside0.mk hl163_0
                     clear hi163_0 hl163_0
                     replace p163 := eq_true p163
                     replace q163 := eq_true q163
                     refine start_ (n := 70) (S := fun w' => w'.cell? ad156 = some (.int .i64 (rd (rd_L1 l1 x22_2) 0)) ∧ w'.cell? ⟨ad156.block, ad156.off + 1, none⟩ = some (.int .i64 (rd (rd_L1 l1 x22_2) 1)) ∧ w'.cell? ⟨ad156.block, ad156.off + 1, none⟩ = some (.int .i64 (rd (rd_L1 l1 x22_2) 1)) ∧ w'.cell? ⟨ad156.block, ad156.off + 2, none⟩ = some (.int .i64 (rd (rd_L1 l1 x22_2) 2)) ∧ w'.cell? ad156 = some (.int .i64 (rd (rd_L1 l1 x22_2) 0)) ∧ w'.cell? ⟨ad156.block, ad156.off + 1, none⟩ = some (.int .i64 (rd (rd_L1 l1 x22_2) 1)) ∧ w'.cell? ⟨ad156.block, ad156.off + 2, none⟩ = some (.int .i64 (rd (rd_L1 l1 x22_2) 2)) ∧ w'.cell? (ad154.add ((ji22)).toNat) = some (.slice A163_0 (rd_L1 l1 (ji22)).length c163_0)) (ds := []) (mb 70 0) (by kernel_rfl) rfl rfl ⟨((HB.out.cell (World.block_lt_of_cell? w _ hw156_0)).trans hw156_0), ((HB.out.cell (World.block_lt_of_cell? w _ hw157_0)).trans hw157_0), ((HB.out.cell (World.block_lt_of_cell? w _ hw158_0)).trans hw158_0), ((HB.out.cell (World.block_lt_of_cell? w _ hw159_0)).trans hw159_0), ((HB.out.cell (World.block_lt_of_cell? w _ hw160_0)).trans hw160_0), ((HB.out.cell (World.block_lt_of_cell? w _ hw161_0)).trans hw161_0), ((HB.out.cell (World.block_lt_of_cell? w _ hw162_0)).trans hw162_0), ((HB.out.cell (World.block_lt_of_cell? w _ hw163_0)).trans hw163_0)⟩ (fun hHeld => ?_); refine with_tabW spec_trDifferences.tab7 spec_trDifferences.bits7 (fun HT_ HW_ => ?_)
                     generalize wr.drew = w27 at HB HR163_0 hx156_0 hx157_0 hx158_0 hx159_0 hx160_0 hx161_0 hx162_0 hx163_0 hHeld ⊢
                     refine pureV 0 27 70 1 HT_ ?_
                     refine pureV 1 28 70 3 HT_ ?_
                     refine pureV 2 29 70 7 HT_ ?_
                     refine pureV 3 30 70 15 HT_ ?_
                     refine pureV 4 31 70 31 HT_ ?_
                     refine pureV 5 32 70 63 HT_ ?_
                     refine pureV 6 33 70 127 HT_ ?_
                     refine one_ (i := 7) (N := some 34) (mb 70 255) rfl rfl (one_of HT_.out (by kernel_rfl)) (by decide) (fun K hK => ?_)
                     refine goes_ Try.func104 (by kernel_rfl) rfl #[.slice (some ad156) (rd_L1 l1 x22_2).length c154_0, .int .i64 1, .int .i64 (wrap64 (3 * (l1.length : Int)))] (by rfl) rfl rfl (by (try simp only [List.map_toArray, List.map_cons, List.map_nil]); first | done | rfl | (simp only [List.length_drop, List.length_take]; rfl)) ?_
                     with_reducible refine (spec_l1All.calls k2 _ _ (rd_L1 l1 x22_2) 1 (wrap64 (3 * (l1.length : Int))) true _ ?side1 ?side2 A11.out).mono ?_
                     (case side1 => repeat (first | exact (Kd.C_below HR154_0.out HB.out) | (with_reducible refine Kd.C_alloc ?_ _) | (with_reducible refine Kd.C_drewN ?_ _) | (with_reducible refine Kd.C_drew ?_)))
                     (case side2 => exact HC154_0.out)
                     rintro e w' ⟨rfl, ⟨nd, rfl⟩⟩
                     refine ⟨_, rfl, ?_⟩
                     refine hK.out _ _ ⟨((HB.out.cell (World.block_lt_of_cell? w _ hw156_0)).trans hw156_0), ((HB.out.cell (World.block_lt_of_cell? w _ hw157_0)).trans hw157_0), ((HB.out.cell (World.block_lt_of_cell? w _ hw158_0)).trans hw158_0), ((HB.out.cell (World.block_lt_of_cell? w _ hw159_0)).trans hw159_0), ((HB.out.cell (World.block_lt_of_cell? w _ hw160_0)).trans hw160_0), ((HB.out.cell (World.block_lt_of_cell? w _ hw161_0)).trans hw161_0), ((HB.out.cell (World.block_lt_of_cell? w _ hw162_0)).trans hw162_0), ((HB.out.cell (World.block_lt_of_cell? w _ hw163_0)).trans hw163_0)⟩ (fun hHeld => ?_)
                     clear hK K
                     refine norm_ (a' := ?_) ?_ ?_
                     rotate_left
                     ·show Act.put _ (some 34) _ = _
                      simp only [Act.put, List.setIfInBounds_toArray, List.set_cons_zero, List.set_cons_succ, i64_w, i32_w]
                      rfl
                     refine pureV 8 35 70 511 HT_ ?_
                     refine pureV 9 36 70 1023 HT_ ?_
                     refine pureV 10 37 70 2047 HT_ ?_
                     refine pureV 11 38 70 4095 HT_ ?_
                     refine pureV 12 39 70 8191 HT_ ?_
                     refine pureV 14 41 70 24575 HT_ ?_
                     refine pureV 15 42 70 57343 HT_ ?_
                     refine takeV 13 40 70 65535 HT_ HW_ hHeld rfl (by rintro w' ⟨s0, s1, s2, s3, s4, s5, s6, s7⟩; go_simp; with_reducible rfl) ?_
                     refine takeV 16 43 70 131071 HT_ HW_ hHeld rfl (by rintro w' ⟨s0, s1, s2, s3, s4, s5, s6, s7⟩; go_simp; with_reducible rfl) ?_
                     refine pureV 17 44 70 262143 HT_ ?_
                     refine pureV 18 45 70 524287 HT_ ?_
                     refine pureV 19 46 70 1048575 HT_ ?_
                     refine pureV 20 47 70 2097151 HT_ ?_
                     refine pureV 21 48 70 4194303 HT_ ?_
                     refine pureV 23 50 70 12582911 HT_ ?_
                     refine pureV 24 51 70 29360127 HT_ ?_
                     refine takeV 22 49 70 33554431 HT_ HW_ hHeld rfl (by rintro w' ⟨s0, s1, s2, s3, s4, s5, s6, s7⟩; go_simp; with_reducible rfl) ?_
                     refine takeV 25 52 70 67108863 HT_ HW_ hHeld rfl (by rintro w' ⟨s0, s1, s2, s3, s4, s5, s6, s7⟩; go_simp; with_reducible rfl) ?_
                     refine pureV 26 53 70 134217727 HT_ ?_
                     refine pureV 27 54 70 268435455 HT_ ?_
                     refine pureV 28 55 70 536870911 HT_ ?_
                     refine pureV 29 56 70 1073741823 HT_ ?_
                     refine pureV 30 57 70 2147483647 HT_ ?_
                     refine pureV 32 59 70 6442450943 HT_ ?_
                     refine pureV 33 60 70 15032385535 HT_ ?_
                     refine pureV 36 63 70 83751862271 HT_ ?_
                     refine pureV 37 64 70 221190815743 HT_ ?_
                     refine takeV 31 58 70 223338299391 HT_ HW_ hHeld rfl (by rintro w' ⟨s0, s1, s2, s3, s4, s5, s6, s7⟩; go_simp; with_reducible rfl) ?_
                     refine takeV 34 61 70 240518168575 HT_ HW_ hHeld rfl (by rintro w' ⟨s0, s1, s2, s3, s4, s5, s6, s7⟩; go_simp; with_reducible rfl) ?_
                     refine pureV 35 62 70 274877906943 HT_ ?_
                     refine takeV 38 65 70 549755813887 HT_ HW_ hHeld rfl (by rintro w' ⟨s0, s1, s2, s3, s4, s5, s6, s7⟩; go_simp; with_reducible rfl) ?_
                     refine pureV 39 66 70 1099511627775 HT_ ?_
                     refine pureV 40 67 70 2199023255551 HT_ ?_
                     refine pureU 41 68 70 4398046511103 HT_ ?_
                     refine pureU 42 69 70 8796093022207 HT_ ?_
                     refine pureU 43 70 70 17592186044415 HT_ ?_
                     refine pureU 44 71 70 35184372088831 HT_ ?_
                     refine pureU 45 72 70 70368744177663 HT_ ?_
                     refine pureU 46 73 70 140737488355327 HT_ ?_
                     refine pureU 47 74 70 281474976710655 HT_ ?_
                     refine pureU 48 75 70 562949953421311 HT_ ?_
                     refine pureU 49 76 70 1125899906842623 HT_ ?_
                     refine pureU 50 77 70 2251799813685247 HT_ ?_
                     refine pureU 51 78 70 4503599627370495 HT_ ?_
                     refine pureU 52 79 70 9007199254740991 HT_ ?_
                     refine pureU 53 80 70 18014398509481983 HT_ ?_
                     refine pureV 54 81 70 36028797018963967 HT_ ?_
                     refine pureV 55 82 70 72057594037927935 HT_ ?_
                     refine pureV 56 83 70 144115188075855871 HT_ ?_
                     refine pureV 57 84 70 288230376151711743 HT_ ?_
                     refine pureV 58 85 70 576460752303423487 HT_ ?_
                     refine pureV 59 86 70 1152921504606846975 HT_ ?_
                     refine pureV 60 87 70 2305843009213693951 HT_ ?_
                     refine pureV 61 88 70 4611686018427387903 HT_ ?_
                     refine pureV 62 89 70 9223372036854775807 HT_ ?_
                     refine pureV 63 90 70 18446744073709551615 HT_ ?_
                     refine pureV 65 92 70 55340232221128654847 HT_ ?_
                     refine takeV 64 91 70 73786976294838206463 HT_ HW_ hHeld rfl (by rintro w' ⟨s0, s1, s2, s3, s4, s5, s6, s7⟩; go_simp; with_reducible rfl) ?_
                     refine one_ (i := 66) (N := some 93) (mb 70 147573952589676412927) rfl rfl (one_of HT_.out (by kernel_rfl)) (by decide) (fun K hK => ?_)
                     refine goes_ Try.func91 (by kernel_rfl) rfl #[.slice A163_0 (rd_L1 l1 (ji22)).length c163_0, .slice (some ad156) (rd_L1 l1 x22_2).length c154_0] (by rfl) rfl rfl (by (try simp only [List.map_toArray, List.map_cons, List.map_nil]); first | done | (simp only [hji22]; rfl) | rfl | (simp only [List.length_drop, List.length_take]; rfl)) ?_
                     with_reducible refine (spec_trLess.calls k2 _ _ (rd_L1 l1 (ji22)) _ _ (rd_L1 l1 x22_2) true _ ?side1 ?side2 ?side3 ?side4 A25.out).mono ?_
                     (case side1 => repeat (first | exact (Kd.C_below HR163_0.out (by repeat (first | (with_reducible first | exact HB.out | apply below_alloc | apply pw_below_drewN | apply below_drew1) | exact HB.out))) | (with_reducible refine Kd.C_alloc ?_ _) | (with_reducible refine Kd.C_drewN ?_ _) | (with_reducible refine Kd.C_drew ?_)))
                     (case side2 => exact HC163_0.out)
                     (case side3 => repeat (first | exact (Kd.C_below HR154_0.out (by repeat (first | (with_reducible first | exact HB.out | apply below_alloc | apply pw_below_drewN | apply below_drew1) | exact HB.out))) | (with_reducible refine Kd.C_alloc ?_ _) | (with_reducible refine Kd.C_drewN ?_ _) | (with_reducible refine Kd.C_drew ?_)))
                     (case side4 => exact HC154_0.out)
                     rintro e w' ⟨rfl, ⟨nd, rfl⟩⟩
                     refine ⟨_, rfl, ?_⟩
                     refine hK.out _ _ ⟨((HB.out.cell (World.block_lt_of_cell? w _ hw156_0)).trans hw156_0), ((HB.out.cell (World.block_lt_of_cell? w _ hw157_0)).trans hw157_0), ((HB.out.cell (World.block_lt_of_cell? w _ hw158_0)).trans hw158_0), ((HB.out.cell (World.block_lt_of_cell? w _ hw159_0)).trans hw159_0), ((HB.out.cell (World.block_lt_of_cell? w _ hw160_0)).trans hw160_0), ((HB.out.cell (World.block_lt_of_cell? w _ hw161_0)).trans hw161_0), ((HB.out.cell (World.block_lt_of_cell? w _ hw162_0)).trans hw162_0), ((HB.out.cell (World.block_lt_of_cell? w _ hw163_0)).trans hw163_0)⟩ (fun hHeld => ?_)
                     clear hK K
                     refine norm_ (a' := ?_) ?_ ?_
                     rotate_left
                     ·show Act.put _ (some 93) _ = _
                      simp only [Act.put, List.setIfInBounds_toArray, List.set_cons_zero, List.set_cons_succ, i64_w, i32_w]
                      rfl
                     refine pureV 67 94 70 295147905179352825855 HT_ ?_
                     refine pureV 68 95 70 590295810358705651711 HT_ ?_
                     refine pureV 69 96 70 1180591620717411303423 HT_ ?_
                     refine done_ (done_of HT_.out (by kernel_rfl)) ?_
                     try go_wp2
                     go_roundg k2
                     case measure => have := HJ2.out; have := HK2.out; omega
                     case rel => exact ⟨(wrap64 (x22_2 + 1)), (by first | rfl | (simp; done) | (simp [*]; done)), H', ⟨by have := HJ2.out; have := HK2.out; omega⟩, ⟨by repeat (first | (with_reducible first | exact HB.out | apply below_alloc | apply pw_below_drewN | apply below_drew1) | exact HB.out)⟩⟩
                    ·replace c26 := Bool.eq_false_iff.mpr c26
                     subst c26
                     have H1 : (some false) = some r := by rw [if_neg (show ¬ (false = true) by decide)] at H; exact H
                     clear H
                     have H := H1
                     clear H1
                     obtain rfl := Option.some.inj H
                     have p154 : 0 ≤ (x22_2 : Int) := of_decide_eq_true (by first | (with_reducible assumption) | assumption)
                     have q154 : x22_2 < (l1.length : Int) := of_decide_eq_true (by first | (with_reducible assumption) | assumption)
                     obtain ⟨ad154, A154_0, c154_0, e154, hx154_0, hl154_0, hi154_0⟩ := at_L1 HR1.out x22_2 p154 q154
                     cases e154
                     replace hx154_0 := (HB.out.cell (World.block_lt_of_cell? w _ hx154_0)).trans hx154_0
                     have HR154_0 := Aside0.mk hi154_0
                     have HC154_0 := Aside0.mk hl154_0
                     clear hi154_0 hl154_0
                     replace p154 := eq_true p154
                     replace q154 := eq_true q154
                     try go_wp2
                     have n0_ := Aside0.mk (below_drew1 HB.out)
                     clear HB
                     have HB := n0_
                     clear n0_
                     have p156 : 0 ≤ (0 : Int) := (by omega)
                     have q156 : 0 < ((rd_L1 l1 x22_2).length : Int) := of_decide_eq_true (by first | (with_reducible assumption) | assumption)
                     obtain ⟨ad156, e156, hx156_0⟩ := Kd.at_int HR154_0.out 0 p156 q156
                     have hw156_0 := hx156_0
                     (try rw [show ((0 : Int)).toNat = 0 from rfl] at hw156_0)
                     (try rw [show 0 * 1 = 0 from rfl] at hw156_0)
                     (try rw [Addr.add_zero'] at hw156_0)
                     cases e156
                     have qi156 : (0 < (rd_L1 l1 x22_2).length) = True := eq_true (by omega)
                     (try rw [show ((0 : Int)).toNat = 0 from rfl] at hx156_0)
                     (try rw [Addr.add_zero'] at hx156_0)
                     replace hx156_0 := (HB.out.cell (World.block_lt_of_cell? w _ hx156_0)).trans hx156_0
                     replace p156 := eq_true p156
                     replace q156 := eq_true q156
                     have p157 : 0 ≤ (1 : Int) := (by omega)
                     have q157 : 1 < ((rd_L1 l1 x22_2).length : Int) := of_decide_eq_true (by first | (with_reducible assumption) | assumption)
                     obtain ⟨ad157, e157, hx157_0⟩ := Kd.at_int HR154_0.out 1 p157 q157
                     have hw157_0 := hx157_0
                     (try rw [show ((1 : Int)).toNat = 1 from rfl] at hw157_0)
                     (try rw [show 1 * 1 = 1 from rfl] at hw157_0)
                     (try simp only [Nat.reduceMul, Nat.reduceEqDiff, Go.Addr.add, ↓reduceIte] at hw157_0)
                     obtain rfl : ad156 = ad157 := (by injection e157)
                     (try simp only [show (1 : Int).toNat = 1 from rfl, Nat.reduceMul, Nat.reduceEqDiff, Go.Addr.add, ↓reduceIte] at hx157_0)
                     have qi157 : (1 < (rd_L1 l1 x22_2).length) = True := eq_true (by omega)
                     (try rw [show ((1 : Int)).toNat = 1 from rfl] at hx157_0)
                     replace hx157_0 := (HB.out.cell (World.block_lt_of_cell? w _ hx157_0)).trans hx157_0
                     replace p157 := eq_true p157
                     replace q157 := eq_true q157
                     have p158 : 0 ≤ (1 : Int) := (by omega)
                     have q158 : 1 < ((rd_L1 l1 x22_2).length : Int) := of_decide_eq_true (by first | (with_reducible assumption) | assumption)
                     obtain ⟨ad158, e158, hx158_0⟩ := Kd.at_int HR154_0.out 1 p158 q158
                     have hw158_0 := hx158_0
                     (try rw [show ((1 : Int)).toNat = 1 from rfl] at hw158_0)
                     (try rw [show 1 * 1 = 1 from rfl] at hw158_0)
                     (try simp only [Nat.reduceMul, Nat.reduceEqDiff, Go.Addr.add, ↓reduceIte] at hw158_0)
                     obtain rfl : ad156 = ad158 := (by injection e158)
                     (try simp only [show (1 : Int).toNat = 1 from rfl, Nat.reduceMul, Nat.reduceEqDiff, Go.Addr.add, ↓reduceIte] at hx158_0)
                     have qi158 : (1 < (rd_L1 l1 x22_2).length) = True := eq_true (by omega)
                     (try rw [show ((1 : Int)).toNat = 1 from rfl] at hx158_0)
                     replace hx158_0 := (HB.out.cell (World.block_lt_of_cell? w _ hx158_0)).trans hx158_0
                     replace p158 := eq_true p158
                     replace q158 := eq_true q158
                     have p159 : 0 ≤ (2 : Int) := (by omega)
                     have q159 : 2 < ((rd_L1 l1 x22_2).length : Int) := of_decide_eq_true (by first | (with_reducible assumption) | assumption)
                     obtain ⟨ad159, e159, hx159_0⟩ := Kd.at_int HR154_0.out 2 p159 q159
                     have hw159_0 := hx159_0
                     (try rw [show ((2 : Int)).toNat = 2 from rfl] at hw159_0)
                     (try rw [show 2 * 1 = 2 from rfl] at hw159_0)
                     (try simp only [Nat.reduceMul, Nat.reduceEqDiff, Go.Addr.add, ↓reduceIte] at hw159_0)
                     obtain rfl : ad156 = ad159 := (by injection e159)
                     (try simp only [show (2 : Int).toNat = 2 from rfl, Nat.reduceMul, Nat.reduceEqDiff, Go.Addr.add, ↓reduceIte] at hx159_0)
                     have qi159 : (2 < (rd_L1 l1 x22_2).length) = True := eq_true (by omega)
                     (try rw [show ((2 : Int)).toNat = 2 from rfl] at hx159_0)
                     replace hx159_0 := (HB.out.cell (World.block_lt_of_cell? w _ hx159_0)).trans hx159_0
                     replace p159 := eq_true p159
                     replace q159 := eq_true q159
                     have p160 : 0 ≤ (0 : Int) := (by omega)
                     have q160 : 0 < ((rd_L1 l1 x22_2).length : Int) := of_decide_eq_true (by first | (with_reducible assumption) | assumption)
                     obtain ⟨ad160, e160, hx160_0⟩ := Kd.at_int HR154_0.out 0 p160 q160
                     have hw160_0 := hx160_0
                     (try rw [show ((0 : Int)).toNat = 0 from rfl] at hw160_0)
                     (try rw [show 0 * 1 = 0 from rfl] at hw160_0)
                     (try rw [Addr.add_zero'] at hw160_0)
                     obtain rfl : ad156 = ad160 := (by injection e160)
                     have qi160 : (0 < (rd_L1 l1 x22_2).length) = True := eq_true (by omega)
                     (try rw [show ((0 : Int)).toNat = 0 from rfl] at hx160_0)
                     (try rw [Addr.add_zero'] at hx160_0)
                     replace hx160_0 := (HB.out.cell (World.block_lt_of_cell? w _ hx160_0)).trans hx160_0
                     replace p160 := eq_true p160
                     replace q160 := eq_true q160
                     have p161 : 0 ≤ (1 : Int) := (by omega)
                     have q161 : 1 < ((rd_L1 l1 x22_2).length : Int) := of_decide_eq_true (by first | (with_reducible assumption) | assumption)
                     obtain ⟨ad161, e161, hx161_0⟩ := Kd.at_int HR154_0.out 1 p161 q161
                     have hw161_0 := hx161_0
                     (try rw [show ((1 : Int)).toNat = 1 from rfl] at hw161_0)
                     (try rw [show 1 * 1 = 1 from rfl] at hw161_0)
                     (try simp only [Nat.reduceMul, Nat.reduceEqDiff, Go.Addr.add, ↓reduceIte] at hw161_0)
                     obtain rfl : ad156 = ad161 := (by injection e161)
                     (try simp only [show (1 : Int).toNat = 1 from rfl, Nat.reduceMul, Nat.reduceEqDiff, Go.Addr.add, ↓reduceIte] at hx161_0)
                     have qi161 : (1 < (rd_L1 l1 x22_2).length) = True := eq_true (by omega)
                     (try rw [show ((1 : Int)).toNat = 1 from rfl] at hx161_0)
                     replace hx161_0 := (HB.out.cell (World.block_lt_of_cell? w _ hx161_0)).trans hx161_0
                     replace p161 := eq_true p161
                     replace q161 := eq_true q161
                     have p162 : 0 ≤ (2 : Int) := (by omega)
                     have q162 : 2 < ((rd_L1 l1 x22_2).length : Int) := of_decide_eq_true (by first | (with_reducible assumption) | assumption)
                     obtain ⟨ad162, e162, hx162_0⟩ := Kd.at_int HR154_0.out 2 p162 q162
                     have hw162_0 := hx162_0
                     (try rw [show ((2 : Int)).toNat = 2 from rfl] at hw162_0)
                     (try rw [show 2 * 1 = 2 from rfl] at hw162_0)
                     (try simp only [Nat.reduceMul, Nat.reduceEqDiff, Go.Addr.add, ↓reduceIte] at hw162_0)
                     obtain rfl : ad156 = ad162 := (by injection e162)
                     (try simp only [show (2 : Int).toNat = 2 from rfl, Nat.reduceMul, Nat.reduceEqDiff, Go.Addr.add, ↓reduceIte] at hx162_0)
                     have qi162 : (2 < (rd_L1 l1 x22_2).length) = True := eq_true (by omega)
                     (try rw [show ((2 : Int)).toNat = 2 from rfl] at hx162_0)
                     replace hx162_0 := (HB.out.cell (World.block_lt_of_cell? w _ hx162_0)).trans hx162_0
                     replace p162 := eq_true p162
                     replace q162 := eq_true q162
                     have p163 : 0 ≤ ((ji22) : Int) := of_decide_eq_true (by first | (with_reducible assumption) | assumption)
                     have q163 : (ji22) < (l1.length : Int) := of_decide_eq_true (by first | (with_reducible assumption) | assumption)
                     obtain ⟨ad163, A163_0, c163_0, e163, hx163_0, hl163_0, hi163_0⟩ := at_L1 HR1.out (ji22) p163 q163
                     have hw163_0 := hx163_0
                     obtain rfl : ad154 = ad163 := (by injection e163)
                     replace hx163_0 := (HB.out.cell (World.block_lt_of_cell? w _ hx163_0)).trans hx163_0
                     have HR163_0 := Aside0.mk hi163_0
                     have HC163_0 := Aside0.mk hl163_0
                     clear hi163_0 hl163_0
                     replace p163 := eq_true p163
                     replace q163 := eq_true q163
                     refine start_ (n := 70) (S := fun w' => w'.cell? ad156 = some (.int .i64 (rd (rd_L1 l1 x22_2) 0)) ∧ w'.cell? ⟨ad156.block, ad156.off + 1, none⟩ = some (.int .i64 (rd (rd_L1 l1 x22_2) 1)) ∧ w'.cell? ⟨ad156.block, ad156.off + 1, none⟩ = some (.int .i64 (rd (rd_L1 l1 x22_2) 1)) ∧ w'.cell? ⟨ad156.block, ad156.off + 2, none⟩ = some (.int .i64 (rd (rd_L1 l1 x22_2) 2)) ∧ w'.cell? ad156 = some (.int .i64 (rd (rd_L1 l1 x22_2) 0)) ∧ w'.cell? ⟨ad156.block, ad156.off + 1, none⟩ = some (.int .i64 (rd (rd_L1 l1 x22_2) 1)) ∧ w'.cell? ⟨ad156.block, ad156.off + 2, none⟩ = some (.int .i64 (rd (rd_L1 l1 x22_2) 2)) ∧ w'.cell? (ad154.add ((ji22)).toNat) = some (.slice A163_0 (rd_L1 l1 (ji22)).length c163_0)) (ds := []) (mb 70 0) (by kernel_rfl) rfl rfl ⟨((HB.out.cell (World.block_lt_of_cell? w _ hw156_0)).trans hw156_0), ((HB.out.cell (World.block_lt_of_cell? w _ hw157_0)).trans hw157_0), ((HB.out.cell (World.block_lt_of_cell? w _ hw158_0)).trans hw158_0), ((HB.out.cell (World.block_lt_of_cell? w _ hw159_0)).trans hw159_0), ((HB.out.cell (World.block_lt_of_cell? w _ hw160_0)).trans hw160_0), ((HB.out.cell (World.block_lt_of_cell? w _ hw161_0)).trans hw161_0), ((HB.out.cell (World.block_lt_of_cell? w _ hw162_0)).trans hw162_0), ((HB.out.cell (World.block_lt_of_cell? w _ hw163_0)).trans hw163_0)⟩ (fun hHeld => ?_); refine with_tabW spec_trDifferences.tab7 spec_trDifferences.bits7 (fun HT_ HW_ => ?_)
                     generalize wr.drew = w28 at HB HR163_0 hx156_0 hx157_0 hx158_0 hx159_0 hx160_0 hx161_0 hx162_0 hx163_0 hHeld ⊢
                     refine pureV 0 27 70 1 HT_ ?_
                     refine pureV 1 28 70 3 HT_ ?_
                     refine pureV 2 29 70 7 HT_ ?_
                     refine pureV 3 30 70 15 HT_ ?_
                     refine pureV 4 31 70 31 HT_ ?_
                     refine pureV 5 32 70 63 HT_ ?_
                     refine pureV 6 33 70 127 HT_ ?_
                     refine one_ (i := 7) (N := some 34) (mb 70 255) rfl rfl (one_of HT_.out (by kernel_rfl)) (by decide) (fun K hK => ?_)
                     refine goes_ Try.func104 (by kernel_rfl) rfl #[.slice (some ad156) (rd_L1 l1 x22_2).length c154_0, .int .i64 1, .int .i64 (wrap64 (3 * (l1.length : Int)))] (by rfl) rfl rfl (by (try simp only [List.map_toArray, List.map_cons, List.map_nil]); first | done | rfl | (simp only [List.length_drop, List.length_take]; rfl)) ?_
                     with_reducible refine (spec_l1All.calls k2 _ _ (rd_L1 l1 x22_2) 1 (wrap64 (3 * (l1.length : Int))) true _ ?side1 ?side2 A11.out).mono ?_
                     (case side1 => repeat (first | exact (Kd.C_below HR154_0.out HB.out) | (with_reducible refine Kd.C_alloc ?_ _) | (with_reducible refine Kd.C_drewN ?_ _) | (with_reducible refine Kd.C_drew ?_)))
                     (case side2 => exact HC154_0.out)
                     rintro e w' ⟨rfl, ⟨nd, rfl⟩⟩
                     refine ⟨_, rfl, ?_⟩
                     refine hK.out _ _ ⟨((HB.out.cell (World.block_lt_of_cell? w _ hw156_0)).trans hw156_0), ((HB.out.cell (World.block_lt_of_cell? w _ hw157_0)).trans hw157_0), ((HB.out.cell (World.block_lt_of_cell? w _ hw158_0)).trans hw158_0), ((HB.out.cell (World.block_lt_of_cell? w _ hw159_0)).trans hw159_0), ((HB.out.cell (World.block_lt_of_cell? w _ hw160_0)).trans hw160_0), ((HB.out.cell (World.block_lt_of_cell? w _ hw161_0)).trans hw161_0), ((HB.out.cell (World.block_lt_of_cell? w _ hw162_0)).trans hw162_0), ((HB.out.cell (World.block_lt_of_cell? w _ hw163_0)).trans hw163_0)⟩ (fun hHeld => ?_)
                     clear hK K
                     refine norm_ (a' := ?_) ?_ ?_
                     rotate_left
                     ·show Act.put _ (some 34) _ = _
                      simp only [Act.put, List.setIfInBounds_toArray, List.set_cons_zero, List.set_cons_succ, i64_w, i32_w]
                      rfl
                     refine pureV 8 35 70 511 HT_ ?_
                     refine pureV 9 36 70 1023 HT_ ?_
                     refine pureV 10 37 70 2047 HT_ ?_
                     refine pureV 11 38 70 4095 HT_ ?_
                     refine pureV 12 39 70 8191 HT_ ?_
                     refine pureV 14 41 70 24575 HT_ ?_
                     refine pureV 15 42 70 57343 HT_ ?_
                     refine takeV 13 40 70 65535 HT_ HW_ hHeld rfl (by rintro w' ⟨s0, s1, s2, s3, s4, s5, s6, s7⟩; go_simp; with_reducible rfl) ?_
                     refine takeV 16 43 70 131071 HT_ HW_ hHeld rfl (by rintro w' ⟨s0, s1, s2, s3, s4, s5, s6, s7⟩; go_simp; with_reducible rfl) ?_
                     refine pureV 17 44 70 262143 HT_ ?_
                     refine pureV 18 45 70 524287 HT_ ?_
                     refine pureV 19 46 70 1048575 HT_ ?_
                     refine pureV 20 47 70 2097151 HT_ ?_
                     refine pureV 21 48 70 4194303 HT_ ?_
                     refine pureV 23 50 70 12582911 HT_ ?_
                     refine pureV 24 51 70 29360127 HT_ ?_
                     refine takeV 22 49 70 33554431 HT_ HW_ hHeld rfl (by rintro w' ⟨s0, s1, s2, s3, s4, s5, s6, s7⟩; go_simp; with_reducible rfl) ?_
                     refine takeV 25 52 70 67108863 HT_ HW_ hHeld rfl (by rintro w' ⟨s0, s1, s2, s3, s4, s5, s6, s7⟩; go_simp; with_reducible rfl) ?_
                     refine pureV 26 53 70 134217727 HT_ ?_
                     refine pureV 27 54 70 268435455 HT_ ?_
                     refine pureV 28 55 70 536870911 HT_ ?_
                     refine pureV 29 56 70 1073741823 HT_ ?_
                     refine pureV 30 57 70 2147483647 HT_ ?_
                     refine pureV 32 59 70 6442450943 HT_ ?_
                     refine pureV 33 60 70 15032385535 HT_ ?_
                     refine pureV 36 63 70 83751862271 HT_ ?_
                     refine pureV 37 64 70 221190815743 HT_ ?_
                     refine takeV 31 58 70 223338299391 HT_ HW_ hHeld rfl (by rintro w' ⟨s0, s1, s2, s3, s4, s5, s6, s7⟩; go_simp; with_reducible rfl) ?_
                     refine takeV 34 61 70 240518168575 HT_ HW_ hHeld rfl (by rintro w' ⟨s0, s1, s2, s3, s4, s5, s6, s7⟩; go_simp; with_reducible rfl) ?_
                     refine pureV 35 62 70 274877906943 HT_ ?_
                     refine takeV 38 65 70 549755813887 HT_ HW_ hHeld rfl (by rintro w' ⟨s0, s1, s2, s3, s4, s5, s6, s7⟩; go_simp; with_reducible rfl) ?_
                     refine pureV 39 66 70 1099511627775 HT_ ?_
                     refine pureV 40 67 70 2199023255551 HT_ ?_
                     refine pureU 41 68 70 4398046511103 HT_ ?_
                     refine pureU 42 69 70 8796093022207 HT_ ?_
                     refine pureU 43 70 70 17592186044415 HT_ ?_
                     refine pureU 44 71 70 35184372088831 HT_ ?_
                     refine pureU 45 72 70 70368744177663 HT_ ?_
                     refine pureU 46 73 70 140737488355327 HT_ ?_
                     refine pureU 47 74 70 281474976710655 HT_ ?_
                     refine pureU 48 75 70 562949953421311 HT_ ?_
                     refine pureU 49 76 70 1125899906842623 HT_ ?_
                     refine pureU 50 77 70 2251799813685247 HT_ ?_
                     refine pureU 51 78 70 4503599627370495 HT_ ?_
                     refine pureU 52 79 70 9007199254740991 HT_ ?_
                     refine pureU 53 80 70 18014398509481983 HT_ ?_
                     refine pureV 54 81 70 36028797018963967 HT_ ?_
                     refine pureV 55 82 70 72057594037927935 HT_ ?_
                     refine pureV 56 83 70 144115188075855871 HT_ ?_
                     refine pureV 57 84 70 288230376151711743 HT_ ?_
                     refine pureV 58 85 70 576460752303423487 HT_ ?_
                     refine pureV 59 86 70 1152921504606846975 HT_ ?_
                     refine pureV 60 87 70 2305843009213693951 HT_ ?_
                     refine pureV 61 88 70 4611686018427387903 HT_ ?_
                     refine pureV 62 89 70 9223372036854775807 HT_ ?_
                     refine pureV 63 90 70 18446744073709551615 HT_ ?_
                     refine pureV 65 92 70 55340232221128654847 HT_ ?_
                     refine takeV 64 91 70 73786976294838206463 HT_ HW_ hHeld rfl (by rintro w' ⟨s0, s1, s2, s3, s4, s5, s6, s7⟩; go_simp; with_reducible rfl) ?_
                     refine one_ (i := 66) (N := some 93) (mb 70 147573952589676412927) rfl rfl (one_of HT_.out (by kernel_rfl)) (by decide) (fun K hK => ?_)
                     refine goes_ Try.func91 (by kernel_rfl) rfl #[.slice A163_0 (rd_L1 l1 (ji22)).length c163_0, .slice (some ad156) (rd_L1 l1 x22_2).length c154_0] (by rfl) rfl rfl (by (try simp only [List.map_toArray, List.map_cons, List.map_nil]); first | done | (simp only [hji22]; rfl) | rfl | (simp only [List.length_drop, List.length_take]; rfl)) ?_
                     with_reducible refine (spec_trLess.calls k2 _ _ (rd_L1 l1 (ji22)) _ _ (rd_L1 l1 x22_2) false _ ?side1 ?side2 ?side3 ?side4 A25.out).mono ?_
                     (case side1 => repeat (first | exact (Kd.C_below HR163_0.out (by repeat (first | (with_reducible first | exact HB.out | apply below_alloc | apply pw_below_drewN | apply below_drew1) | exact HB.out))) | (with_reducible refine Kd.C_alloc ?_ _) | (with_reducible refine Kd.C_drewN ?_ _) | (with_reducible refine Kd.C_drew ?_)))
                     (case side2 => exact HC163_0.out)
                     (case side3 => repeat (first | exact (Kd.C_below HR154_0.out (by repeat (first | (with_reducible first | exact HB.out | apply below_alloc | apply pw_below_drewN | apply below_drew1) | exact HB.out))) | (with_reducible refine Kd.C_alloc ?_ _) | (with_reducible refine Kd.C_drewN ?_ _) | (with_reducible refine Kd.C_drew ?_)))
                     (case side4 => exact HC154_0.out)
                     rintro e w' ⟨rfl, ⟨nd, rfl⟩⟩
                     refine ⟨_, rfl, ?_⟩
                     refine hK.out _ _ ⟨((HB.out.cell (World.block_lt_of_cell? w _ hw156_0)).trans hw156_0), ((HB.out.cell (World.block_lt_of_cell? w _ hw157_0)).trans hw157_0), ((HB.out.cell (World.block_lt_of_cell? w _ hw158_0)).trans hw158_0), ((HB.out.cell (World.block_lt_of_cell? w _ hw159_0)).trans hw159_0), ((HB.out.cell (World.block_lt_of_cell? w _ hw160_0)).trans hw160_0), ((HB.out.cell (World.block_lt_of_cell? w _ hw161_0)).trans hw161_0), ((HB.out.cell (World.block_lt_of_cell? w _ hw162_0)).trans hw162_0), ((HB.out.cell (World.block_lt_of_cell? w _ hw163_0)).trans hw163_0)⟩ (fun hHeld => ?_)
                     clear hK K
                     refine norm_ (a' := ?_) ?_ ?_
                     rotate_left
                     ·show Act.put _ (some 93) _ = _
                      simp only [Act.put, List.setIfInBounds_toArray, List.set_cons_zero, List.set_cons_succ, i64_w, i32_w]
                      rfl
                     refine pureV 67 94 70 295147905179352825855 HT_ ?_
                     refine pureV 68 95 70 590295810358705651711 HT_ ?_
                     refine pureV 69 96 70 1180591620717411303423 HT_ ?_
                     refine done_ (done_of HT_.out (by kernel_rfl)) ?_
                     try go_wp2
                     go_ret
                     exact ⟨by first | rfl | (simp [errW_none, errW_some] <;> rfl) | (simp only [← hji22]; first | rfl | (simp [errW_none, errW_some] <;> rfl)) | (simp [*, errW_none, errW_some] <;> rfl), by repeat (first | (with_reducible first | exact HB.out | apply below_alloc | apply pw_below_drewN | apply below_drew1) | exact HB.out)⟩
                   ·rw [if_neg c24] at H
                    exact absurd H (by simp)
                  ·rw [if_neg c23] at H
                   exact absurd H (by simp)
                 ·rw [if_neg c21] at H
                  have c21b0 : decide (0 < x22_2) = false := decide_eq_false c21
                  clear c21
                  have H' := Aside0.mk H
                  clear H
                  have p154 : 0 ≤ (x22_2 : Int) := of_decide_eq_true (by first | (with_reducible assumption) | assumption)
                  have q154 : x22_2 < (l1.length : Int) := of_decide_eq_true (by first | (with_reducible assumption) | assumption)
                  obtain ⟨ad154, A154_0, c154_0, e154, hx154_0, hl154_0, hi154_0⟩ := at_L1 HR1.out x22_2 p154 q154
                  cases e154
                  replace hx154_0 := (HB.out.cell (World.block_lt_of_cell? w _ hx154_0)).trans hx154_0
                  have HR154_0 := Aside0.mk hi154_0
                  have HC154_0 := Aside0.mk hl154_0
                  clear hi154_0 hl154_0
                  replace p154 := eq_true p154
                  replace q154 := eq_true q154
                  try go_wp2
                  have n0_ := Aside0.mk (below_drew1 HB.out)
                  clear HB
                  have HB := n0_
                  clear n0_
                  have p156 : 0 ≤ (0 : Int) := (by omega)
                  have q156 : 0 < ((rd_L1 l1 x22_2).length : Int) := of_decide_eq_true (by first | (with_reducible assumption) | assumption)
                  obtain ⟨ad156, e156, hx156_0⟩ := Kd.at_int HR154_0.out 0 p156 q156
                  have hw156_0 := hx156_0
                  (try rw [show ((0 : Int)).toNat = 0 from rfl] at hw156_0)
                  (try rw [show 0 * 1 = 0 from rfl] at hw156_0)
                  (try rw [Addr.add_zero'] at hw156_0)
                  cases e156
                  have qi156 : (0 < (rd_L1 l1 x22_2).length) = True := eq_true (by omega)
                  (try rw [show ((0 : Int)).toNat = 0 from rfl] at hx156_0)
                  (try rw [Addr.add_zero'] at hx156_0)
                  replace hx156_0 := (HB.out.cell (World.block_lt_of_cell? w _ hx156_0)).trans hx156_0
                  replace p156 := eq_true p156
                  replace q156 := eq_true q156
                  have p157 : 0 ≤ (1 : Int) := (by omega)
                  have q157 : 1 < ((rd_L1 l1 x22_2).length : Int) := of_decide_eq_true (by first | (with_reducible assumption) | assumption)
                  obtain ⟨ad157, e157, hx157_0⟩ := Kd.at_int HR154_0.out 1 p157 q157
                  have hw157_0 := hx157_0
                  (try rw [show ((1 : Int)).toNat = 1 from rfl] at hw157_0)
                  (try rw [show 1 * 1 = 1 from rfl] at hw157_0)
                  (try simp only [Nat.reduceMul, Nat.reduceEqDiff, Go.Addr.add, ↓reduceIte] at hw157_0)
                  obtain rfl : ad156 = ad157 := (by injection e157)
                  (try simp only [show (1 : Int).toNat = 1 from rfl, Nat.reduceMul, Nat.reduceEqDiff, Go.Addr.add, ↓reduceIte] at hx157_0)
                  have qi157 : (1 < (rd_L1 l1 x22_2).length) = True := eq_true (by omega)
                  (try rw [show ((1 : Int)).toNat = 1 from rfl] at hx157_0)
                  replace hx157_0 := (HB.out.cell (World.block_lt_of_cell? w _ hx157_0)).trans hx157_0
                  replace p157 := eq_true p157
                  replace q157 := eq_true q157
                  have p158 : 0 ≤ (1 : Int) := (by omega)
                  have q158 : 1 < ((rd_L1 l1 x22_2).length : Int) := of_decide_eq_true (by first | (with_reducible assumption) | assumption)
                  obtain ⟨ad158, e158, hx158_0⟩ := Kd.at_int HR154_0.out 1 p158 q158
                  have hw158_0 := hx158_0
                  (try rw [show ((1 : Int)).toNat = 1 from rfl] at hw158_0)
                  (try rw [show 1 * 1 = 1 from rfl] at hw158_0)
                  (try simp only [Nat.reduceMul, Nat.reduceEqDiff, Go.Addr.add, ↓reduceIte] at hw158_0)
                  obtain rfl : ad156 = ad158 := (by injection e158)
                  (try simp only [show (1 : Int).toNat = 1 from rfl, Nat.reduceMul, Nat.reduceEqDiff, Go.Addr.add, ↓reduceIte] at hx158_0)
                  have qi158 : (1 < (rd_L1 l1 x22_2).length) = True := eq_true (by omega)
                  (try rw [show ((1 : Int)).toNat = 1 from rfl] at hx158_0)
                  replace hx158_0 := (HB.out.cell (World.block_lt_of_cell? w _ hx158_0)).trans hx158_0
                  replace p158 := eq_true p158
                  replace q158 := eq_true q158
                  have p159 : 0 ≤ (2 : Int) := (by omega)
                  have q159 : 2 < ((rd_L1 l1 x22_2).length : Int) := of_decide_eq_true (by first | (with_reducible assumption) | assumption)
                  obtain ⟨ad159, e159, hx159_0⟩ := Kd.at_int HR154_0.out 2 p159 q159
                  have hw159_0 := hx159_0
                  (try rw [show ((2 : Int)).toNat = 2 from rfl] at hw159_0)
                  (try rw [show 2 * 1 = 2 from rfl] at hw159_0)
                  (try simp only [Nat.reduceMul, Nat.reduceEqDiff, Go.Addr.add, ↓reduceIte] at hw159_0)
                  obtain rfl : ad156 = ad159 := (by injection e159)
                  (try simp only [show (2 : Int).toNat = 2 from rfl, Nat.reduceMul, Nat.reduceEqDiff, Go.Addr.add, ↓reduceIte] at hx159_0)
                  have qi159 : (2 < (rd_L1 l1 x22_2).length) = True := eq_true (by omega)
                  (try rw [show ((2 : Int)).toNat = 2 from rfl] at hx159_0)
                  replace hx159_0 := (HB.out.cell (World.block_lt_of_cell? w _ hx159_0)).trans hx159_0
                  replace p159 := eq_true p159
                  replace q159 := eq_true q159
                  have p160 : 0 ≤ (0 : Int) := (by omega)
                  have q160 : 0 < ((rd_L1 l1 x22_2).length : Int) := of_decide_eq_true (by first | (with_reducible assumption) | assumption)
                  obtain ⟨ad160, e160, hx160_0⟩ := Kd.at_int HR154_0.out 0 p160 q160
                  have hw160_0 := hx160_0
                  (try rw [show ((0 : Int)).toNat = 0 from rfl] at hw160_0)
                  (try rw [show 0 * 1 = 0 from rfl] at hw160_0)
                  (try rw [Addr.add_zero'] at hw160_0)
                  obtain rfl : ad156 = ad160 := (by injection e160)
                  have qi160 : (0 < (rd_L1 l1 x22_2).length) = True := eq_true (by omega)
                  (try rw [show ((0 : Int)).toNat = 0 from rfl] at hx160_0)
                  (try rw [Addr.add_zero'] at hx160_0)
                  replace hx160_0 := (HB.out.cell (World.block_lt_of_cell? w _ hx160_0)).trans hx160_0
                  replace p160 := eq_true p160
                  replace q160 := eq_true q160
                  have p161 : 0 ≤ (1 : Int) := (by omega)
                  have q161 : 1 < ((rd_L1 l1 x22_2).length : Int) := of_decide_eq_true (by first | (with_reducible assumption) | assumption)
                  obtain ⟨ad161, e161, hx161_0⟩ := Kd.at_int HR154_0.out 1 p161 q161
                  have hw161_0 := hx161_0
                  (try rw [show ((1 : Int)).toNat = 1 from rfl] at hw161_0)
                  (try rw [show 1 * 1 = 1 from rfl] at hw161_0)
                  (try simp only [Nat.reduceMul, Nat.reduceEqDiff, Go.Addr.add, ↓reduceIte] at hw161_0)
                  obtain rfl : ad156 = ad161 := (by injection e161)
                  (try simp only [show (1 : Int).toNat = 1 from rfl, Nat.reduceMul, Nat.reduceEqDiff, Go.Addr.add, ↓reduceIte] at hx161_0)
                  have qi161 : (1 < (rd_L1 l1 x22_2).length) = True := eq_true (by omega)
                  (try rw [show ((1 : Int)).toNat = 1 from rfl] at hx161_0)
                  replace hx161_0 := (HB.out.cell (World.block_lt_of_cell? w _ hx161_0)).trans hx161_0
                  replace p161 := eq_true p161
                  replace q161 := eq_true q161
                  have p162 : 0 ≤ (2 : Int) := (by omega)
                  have q162 : 2 < ((rd_L1 l1 x22_2).length : Int) := of_decide_eq_true (by first | (with_reducible assumption) | assumption)
                  obtain ⟨ad162, e162, hx162_0⟩ := Kd.at_int HR154_0.out 2 p162 q162
                  have hw162_0 := hx162_0
                  (try rw [show ((2 : Int)).toNat = 2 from rfl] at hw162_0)
                  (try rw [show 2 * 1 = 2 from rfl] at hw162_0)
                  (try simp only [Nat.reduceMul, Nat.reduceEqDiff, Go.Addr.add, ↓reduceIte] at hw162_0)
                  obtain rfl : ad156 = ad162 := (by injection e162)
                  (try simp only [show (2 : Int).toNat = 2 from rfl, Nat.reduceMul, Nat.reduceEqDiff, Go.Addr.add, ↓reduceIte] at hx162_0)
                  have qi162 : (2 < (rd_L1 l1 x22_2).length) = True := eq_true (by omega)
                  (try rw [show ((2 : Int)).toNat = 2 from rfl] at hx162_0)
                  replace hx162_0 := (HB.out.cell (World.block_lt_of_cell? w _ hx162_0)).trans hx162_0
                  replace p162 := eq_true p162
                  replace q162 := eq_true q162
                  refine start_ (n := 70) (S := fun w' => w'.cell? ad156 = some (.int .i64 (rd (rd_L1 l1 x22_2) 0)) ∧ w'.cell? ⟨ad156.block, ad156.off + 1, none⟩ = some (.int .i64 (rd (rd_L1 l1 x22_2) 1)) ∧ w'.cell? ⟨ad156.block, ad156.off + 1, none⟩ = some (.int .i64 (rd (rd_L1 l1 x22_2) 1)) ∧ w'.cell? ⟨ad156.block, ad156.off + 2, none⟩ = some (.int .i64 (rd (rd_L1 l1 x22_2) 2)) ∧ w'.cell? ad156 = some (.int .i64 (rd (rd_L1 l1 x22_2) 0)) ∧ w'.cell? ⟨ad156.block, ad156.off + 1, none⟩ = some (.int .i64 (rd (rd_L1 l1 x22_2) 1)) ∧ w'.cell? ⟨ad156.block, ad156.off + 2, none⟩ = some (.int .i64 (rd (rd_L1 l1 x22_2) 2))) (ds := []) (mb 70 0) (by kernel_rfl) rfl rfl ⟨((HB.out.cell (World.block_lt_of_cell? w _ hw156_0)).trans hw156_0), ((HB.out.cell (World.block_lt_of_cell? w _ hw157_0)).trans hw157_0), ((HB.out.cell (World.block_lt_of_cell? w _ hw158_0)).trans hw158_0), ((HB.out.cell (World.block_lt_of_cell? w _ hw159_0)).trans hw159_0), ((HB.out.cell (World.block_lt_of_cell? w _ hw160_0)).trans hw160_0), ((HB.out.cell (World.block_lt_of_cell? w _ hw161_0)).trans hw161_0), ((HB.out.cell (World.block_lt_of_cell? w _ hw162_0)).trans hw162_0)⟩ (fun hHeld => ?_); refine with_tabW spec_trDifferences.tab7 spec_trDifferences.bits7 (fun HT_ HW_ => ?_)
                  generalize wr.drew = w29 at HB hx156_0 hx157_0 hx158_0 hx159_0 hx160_0 hx161_0 hx162_0 hHeld ⊢
                  refine pureV 0 27 70 1 HT_ ?_
                  refine pureV 1 28 70 3 HT_ ?_
                  refine pureV 2 29 70 7 HT_ ?_
                  refine pureV 3 30 70 15 HT_ ?_
                  refine pureV 4 31 70 31 HT_ ?_
                  refine pureV 5 32 70 63 HT_ ?_
                  refine pureV 6 33 70 127 HT_ ?_
                  refine one_ (i := 7) (N := some 34) (mb 70 255) rfl rfl (one_of HT_.out (by kernel_rfl)) (by decide) (fun K hK => ?_)
                  refine goes_ Try.func104 (by kernel_rfl) rfl #[.slice (some ad156) (rd_L1 l1 x22_2).length c154_0, .int .i64 1, .int .i64 (wrap64 (3 * (l1.length : Int)))] (by rfl) rfl rfl (by (try simp only [List.map_toArray, List.map_cons, List.map_nil]); first | done | rfl | (simp only [List.length_drop, List.length_take]; rfl)) ?_
                  with_reducible refine (spec_l1All.calls k2 _ _ (rd_L1 l1 x22_2) 1 (wrap64 (3 * (l1.length : Int))) true _ ?side1 ?side2 A11.out).mono ?_
                  (case side1 => repeat (first | exact (Kd.C_below HR154_0.out HB.out) | (with_reducible refine Kd.C_alloc ?_ _) | (with_reducible refine Kd.C_drewN ?_ _) | (with_reducible refine Kd.C_drew ?_)))
                  (case side2 => exact HC154_0.out)
                  rintro e w' ⟨rfl, ⟨nd, rfl⟩⟩
                  refine ⟨_, rfl, ?_⟩
                  refine hK.out _ _ ⟨((HB.out.cell (World.block_lt_of_cell? w _ hw156_0)).trans hw156_0), ((HB.out.cell (World.block_lt_of_cell? w _ hw157_0)).trans hw157_0), ((HB.out.cell (World.block_lt_of_cell? w _ hw158_0)).trans hw158_0), ((HB.out.cell (World.block_lt_of_cell? w _ hw159_0)).trans hw159_0), ((HB.out.cell (World.block_lt_of_cell? w _ hw160_0)).trans hw160_0), ((HB.out.cell (World.block_lt_of_cell? w _ hw161_0)).trans hw161_0), ((HB.out.cell (World.block_lt_of_cell? w _ hw162_0)).trans hw162_0)⟩ (fun hHeld => ?_)
                  clear hK K
                  refine norm_ (a' := ?_) ?_ ?_
                  rotate_left
                  ·show Act.put _ (some 34) _ = _
                   simp only [Act.put, List.setIfInBounds_toArray, List.set_cons_zero, List.set_cons_succ, i64_w, i32_w]
                   rfl
                  refine pureV 8 35 70 511 HT_ ?_
                  refine pureV 9 36 70 1023 HT_ ?_
                  refine pureV 10 37 70 2047 HT_ ?_
                  refine pureV 11 38 70 4095 HT_ ?_
                  refine pureV 12 39 70 8191 HT_ ?_
                  refine pureV 14 41 70 24575 HT_ ?_
                  refine pureV 15 42 70 57343 HT_ ?_
                  refine takeV 13 40 70 65535 HT_ HW_ hHeld rfl (by rintro w' ⟨s0, s1, s2, s3, s4, s5, s6⟩; go_simp; with_reducible rfl) ?_
                  refine takeV 16 43 70 131071 HT_ HW_ hHeld rfl (by rintro w' ⟨s0, s1, s2, s3, s4, s5, s6⟩; go_simp; with_reducible rfl) ?_
                  refine pureV 17 44 70 262143 HT_ ?_
                  refine pureV 18 45 70 524287 HT_ ?_
                  refine pureV 19 46 70 1048575 HT_ ?_
                  refine pureV 20 47 70 2097151 HT_ ?_
                  refine pureV 21 48 70 4194303 HT_ ?_
                  refine pureV 23 50 70 12582911 HT_ ?_
                  refine pureV 24 51 70 29360127 HT_ ?_
                  refine takeV 22 49 70 33554431 HT_ HW_ hHeld rfl (by rintro w' ⟨s0, s1, s2, s3, s4, s5, s6⟩; go_simp; with_reducible rfl) ?_
                  refine takeV 25 52 70 67108863 HT_ HW_ hHeld rfl (by rintro w' ⟨s0, s1, s2, s3, s4, s5, s6⟩; go_simp; with_reducible rfl) ?_
                  refine pureV 26 53 70 134217727 HT_ ?_
                  refine pureV 27 54 70 268435455 HT_ ?_
                  refine pureV 28 55 70 536870911 HT_ ?_
                  refine pureV 29 56 70 1073741823 HT_ ?_
                  refine pureV 30 57 70 2147483647 HT_ ?_
                  refine pureV 32 59 70 6442450943 HT_ ?_
                  refine pureV 33 60 70 15032385535 HT_ ?_
                  refine pureV 36 63 70 83751862271 HT_ ?_
                  refine pureV 37 64 70 221190815743 HT_ ?_
                  refine takeV 31 58 70 223338299391 HT_ HW_ hHeld rfl (by rintro w' ⟨s0, s1, s2, s3, s4, s5, s6⟩; go_simp; with_reducible rfl) ?_
                  refine takeV 34 61 70 240518168575 HT_ HW_ hHeld rfl (by rintro w' ⟨s0, s1, s2, s3, s4, s5, s6⟩; go_simp; with_reducible rfl) ?_
                  refine pureV 35 62 70 274877906943 HT_ ?_
                  refine takeV 38 65 70 549755813887 HT_ HW_ hHeld rfl (by rintro w' ⟨s0, s1, s2, s3, s4, s5, s6⟩; go_simp; with_reducible rfl) ?_
                  refine pureV 39 66 70 1099511627775 HT_ ?_
                  refine pureV 40 67 70 2199023255551 HT_ ?_
                  refine pureU 41 68 70 4398046511103 HT_ ?_
                  refine pureU 42 69 70 8796093022207 HT_ ?_
                  refine pureU 43 70 70 17592186044415 HT_ ?_
                  refine pureU 44 71 70 35184372088831 HT_ ?_
                  refine pureU 45 72 70 70368744177663 HT_ ?_
                  refine pureU 46 73 70 140737488355327 HT_ ?_
                  refine pureU 47 74 70 281474976710655 HT_ ?_
                  refine pureU 48 75 70 562949953421311 HT_ ?_
                  refine pureU 49 76 70 1125899906842623 HT_ ?_
                  refine pureU 50 77 70 2251799813685247 HT_ ?_
                  refine pureU 51 78 70 4503599627370495 HT_ ?_
                  refine pureU 52 79 70 9007199254740991 HT_ ?_
                  refine pureU 53 80 70 18014398509481983 HT_ ?_
                  refine pureV 54 81 70 36028797018963967 HT_ ?_
                  refine pureV 55 82 70 72057594037927935 HT_ ?_
                  refine pureV 56 83 70 144115188075855871 HT_ ?_
                  refine pureV 57 84 70 288230376151711743 HT_ ?_
                  refine pureV 58 85 70 576460752303423487 HT_ ?_
                  refine pureV 59 86 70 1152921504606846975 HT_ ?_
                  refine pureU 60 87 70 2305843009213693951 HT_ ?_
                  refine pureU 61 88 70 4611686018427387903 HT_ ?_
                  refine pureU 62 89 70 9223372036854775807 HT_ ?_
                  refine pureU 63 90 70 18446744073709551615 HT_ ?_
                  refine pureU 64 91 70 36893488147419103231 HT_ ?_
                  refine pureU 65 92 70 73786976294838206463 HT_ ?_
                  refine pureU 66 93 70 147573952589676412927 HT_ ?_
                  refine pureU 67 94 70 295147905179352825855 HT_ ?_
                  refine pureV 68 95 70 590295810358705651711 HT_ ?_
                  refine pureV 69 96 70 1180591620717411303423 HT_ ?_
                  refine done_ (done_of HT_.out (by kernel_rfl)) ?_
                  try go_wp2
                  go_roundg k2
                  case measure => have := HJ2.out; have := HK2.out; omega
                  case rel => exact ⟨(wrap64 (x22_2 + 1)), (by first | rfl | (simp; done) | (simp [*]; done)), H', ⟨by have := HJ2.out; have := HK2.out; omega⟩, ⟨by repeat (first | (with_reducible first | exact HB.out | apply below_alloc | apply pw_below_drewN | apply below_drew1) | exact HB.out)⟩⟩
                ·rw [if_neg c20] at H
                 have c20b0 : ((wrap64 ((rd (rd_L1 l1 x22_2) 0) + (rd (rd_L1 l1 x22_2) 1))) == (rd (rd_L1 l1 x22_2) 2)) = false := beq_eq_false_iff_ne.mpr c20
                 have c20b1 : ((wrap64 ((rd (rd_L1 l1 x22_2) 0) + (rd (rd_L1 l1 x22_2) 1))) != (rd (rd_L1 l1 x22_2) 2)) = true := bne_iff_ne.mpr c20
                 by_cases c30 : (wrap64 ((wrap64 ((rd (rd_L1 l1 x22_2) 0) + (rd (rd_L1 l1 x22_2) 1))) + (rd (rd_L1 l1 x22_2) 2))) = a0
                 ·rw [if_pos c30] at H
                  have c30b0 : ((wrap64 ((wrap64 ((rd (rd_L1 l1 x22_2) 0) + (rd (rd_L1 l1 x22_2) 1))) + (rd (rd_L1 l1 x22_2) 2))) == a0) = true := beq_iff_eq.mpr c30
                  have c30b1 : ((wrap64 ((wrap64 ((rd (rd_L1 l1 x22_2) 0) + (rd (rd_L1 l1 x22_2) 1))) + (rd (rd_L1 l1 x22_2) 2))) != a0) = false := bne_eq_false_iff_eq.mpr c30
                  clear c30
                  by_cases c31 : x22_2 > 0
                  ·rw [if_pos c31] at H
                   have c31b0 : decide (0 < x22_2) = true := decide_eq_true c31
                   clear c31
                   obtain ⟨ji32, hji32⟩ : ∃ j_ : Int, (wrap64 (x22_2 - 1)) = j_ := ⟨_, rfl⟩
                   replace H : (if 0 ≤ (ji32) then (if (ji32) < (l1.length : Int) then ((spec_trLess.f k2 (rd_L1 l1 (ji32)) (rd_L1 l1 x22_2)).bind fun t169 => (if t169 = true then (spec_trDifferences.l0 k2 a0 l1 (l1.length : Int) l1 (l1.length : Int) (wrap64 (x22_2 + 1))) else (some false))) else (none)) else (none)) = some r := by first | (rw [hji32] at H; exact H) | (simp only [hji32] at H ⊢; exact H)
                   (try rw [hji32] at A11)
                   have hji32w : (IntKind.i64.wrap (x22_2 - 1)) = ji32 := (i64_w _).trans hji32
                   by_cases c33 : 0 ≤ (ji32)
                   ·rw [if_pos c33] at H
                    have c33b0 : decide (0 ≤ (ji32)) = true := decide_eq_true c33
                    clear c33
                    by_cases c34 : (ji32) < (l1.length : Int)
                    ·rw [if_pos c34] at H
                     have c34b0 : decide ((ji32) < (l1.length : Int)) = true := decide_eq_true c34
                     clear c34
                     replace H := Option.bind_eq_some_iff.mp H
                     obtain ⟨t169, A350, H⟩ := H
                     replace H : (if t169 = true then (spec_trDifferences.l0 k2 a0 l1 (l1.length : Int) l1 (l1.length : Int) (wrap64 (x22_2 + 1))) else (some false)) = some r := H
                     have A35 := Aside0.mk A350
                     clear A350
                     by_cases c36 : t169 = true
                     ·subst c36
                      have H1 : (spec_trDifferences.l0 k2 a0 l1 (l1.length : Int) l1 (l1.length : Int) (wrap64 (x22_2 + 1))) = some r := by rw [if_pos rfl] at H; exact H
                      clear H
                      have H := H1
                      clear H1
                      have H' := Aside0.mk H
                      clear H
                      have p154 : 0 ≤ (x22_2 : Int) := of_decide_eq_true (by first | (with_reducible assumption) | assumption)
                      have q154 : x22_2 < (l1.length : Int) := of_decide_eq_true (by first | (with_reducible assumption) | assumption)
                      obtain ⟨ad154, A154_0, c154_0, e154, hx154_0, hl154_0, hi154_0⟩ := at_L1 HR1.out x22_2 p154 q154
                      cases e154
                      replace hx154_0 := (HB.out.cell (World.block_lt_of_cell? w _ hx154_0)).trans hx154_0
                      have HR154_0 := Aside0.mk hi154_0
                      have HC154_0 := Aside0.mk hl154_0
                      clear hi154_0 hl154_0
                      replace p154 := eq_true p154
                      replace q154 := eq_true q154
                      try go_wp2
                      have n0_ := Aside0.mk (below_drew1 HB.out)
                      clear HB
                      have HB := n0_
                      clear n0_
                      have p156 : 0 ≤ (0 : Int) := (by omega)
                      have q156 : 0 < ((rd_L1 l1 x22_2).length : Int) := of_decide_eq_true (by first | (with_reducible assumption) | assumption)
                      obtain ⟨ad156, e156, hx156_0⟩ := Kd.at_int HR154_0.out 0 p156 q156
                      have hw156_0 := hx156_0
                      (try rw [show ((0 : Int)).toNat = 0 from rfl] at hw156_0)
                      (try rw [show 0 * 1 = 0 from rfl] at hw156_0)
                      (try rw [Addr.add_zero'] at hw156_0)
                      cases e156
                      have qi156 : (0 < (rd_L1 l1 x22_2).length) = True := eq_true (by omega)
                      (try rw [show ((0 : Int)).toNat = 0 from rfl] at hx156_0)
                      (try rw [Addr.add_zero'] at hx156_0)
                      replace hx156_0 := (HB.out.cell (World.block_lt_of_cell? w _ hx156_0)).trans hx156_0
                      replace p156 := eq_true p156
                      replace q156 := eq_true q156
                      have p157 : 0 ≤ (1 : Int) := (by omega)
                      have q157 : 1 < ((rd_L1 l1 x22_2).length : Int) := of_decide_eq_true (by first | (with_reducible assumption) | assumption)
                      obtain ⟨ad157, e157, hx157_0⟩ := Kd.at_int HR154_0.out 1 p157 q157
                      have hw157_0 := hx157_0
                      (try rw [show ((1 : Int)).toNat = 1 from rfl] at hw157_0)
                      (try rw [show 1 * 1 = 1 from rfl] at hw157_0)
                      (try simp only [Nat.reduceMul, Nat.reduceEqDiff, Go.Addr.add, ↓reduceIte] at hw157_0)
                      obtain rfl : ad156 = ad157 := (by injection e157)
                      (try simp only [show (1 : Int).toNat = 1 from rfl, Nat.reduceMul, Nat.reduceEqDiff, Go.Addr.add, ↓reduceIte] at hx157_0)
                      have qi157 : (1 < (rd_L1 l1 x22_2).length) = True := eq_true (by omega)
                      (try rw [show ((1 : Int)).toNat = 1 from rfl] at hx157_0)
                      replace hx157_0 := (HB.out.cell (World.block_lt_of_cell? w _ hx157_0)).trans hx157_0
                      replace p157 := eq_true p157
                      replace q157 := eq_true q157
                      have p158 : 0 ≤ (1 : Int) := (by omega)
                      have q158 : 1 < ((rd_L1 l1 x22_2).length : Int) := of_decide_eq_true (by first | (with_reducible assumption) | assumption)
                      obtain ⟨ad158, e158, hx158_0⟩ := Kd.at_int HR154_0.out 1 p158 q158
                      have hw158_0 := hx158_0
                      (try rw [show ((1 : Int)).toNat = 1 from rfl] at hw158_0)
                      (try rw [show 1 * 1 = 1 from rfl] at hw158_0)
                      (try simp only [Nat.reduceMul, Nat.reduceEqDiff, Go.Addr.add, ↓reduceIte] at hw158_0)
                      obtain rfl : ad156 = ad158 := (by injection e158)
                      (try simp only [show (1 : Int).toNat = 1 from rfl, Nat.reduceMul, Nat.reduceEqDiff, Go.Addr.add, ↓reduceIte] at hx158_0)
                      have qi158 : (1 < (rd_L1 l1 x22_2).length) = True := eq_true (by omega)
                      (try rw [show ((1 : Int)).toNat = 1 from rfl] at hx158_0)
                      replace hx158_0 := (HB.out.cell (World.block_lt_of_cell? w _ hx158_0)).trans hx158_0
                      replace p158 := eq_true p158
                      replace q158 := eq_true q158
                      have p159 : 0 ≤ (2 : Int) := (by omega)
                      have q159 : 2 < ((rd_L1 l1 x22_2).length : Int) := of_decide_eq_true (by first | (with_reducible assumption) | assumption)
                      obtain ⟨ad159, e159, hx159_0⟩ := Kd.at_int HR154_0.out 2 p159 q159
                      have hw159_0 := hx159_0
                      (try rw [show ((2 : Int)).toNat = 2 from rfl] at hw159_0)
                      (try rw [show 2 * 1 = 2 from rfl] at hw159_0)
                      (try simp only [Nat.reduceMul, Nat.reduceEqDiff, Go.Addr.add, ↓reduceIte] at hw159_0)
                      obtain rfl : ad156 = ad159 := (by injection e159)
                      (try simp only [show (2 : Int).toNat = 2 from rfl, Nat.reduceMul, Nat.reduceEqDiff, Go.Addr.add, ↓reduceIte] at hx159_0)
                      have qi159 : (2 < (rd_L1 l1 x22_2).length) = True := eq_true (by omega)
                      (try rw [show ((2 : Int)).toNat = 2 from rfl] at hx159_0)
                      replace hx159_0 := (HB.out.cell (World.block_lt_of_cell? w _ hx159_0)).trans hx159_0
                      replace p159 := eq_true p159
                      replace q159 := eq_true q159
                      have p160 : 0 ≤ (0 : Int) := (by omega)
                      have q160 : 0 < ((rd_L1 l1 x22_2).length : Int) := of_decide_eq_true (by first | (with_reducible assumption) | assumption)
                      obtain ⟨ad160, e160, hx160_0⟩ := Kd.at_int HR154_0.out 0 p160 q160
                      have hw160_0 := hx160_0
                      (try rw [show ((0 : Int)).toNat = 0 from rfl] at hw160_0)
                      (try rw [show 0 * 1 = 0 from rfl] at hw160_0)
                      (try rw [Addr.add_zero'] at hw160_0)
                      obtain rfl : ad156 = ad160 := (by injection e160)
                      have qi160 : (0 < (rd_L1 l1 x22_2).length) = True := eq_true (by omega)
                      (try rw [show ((0 : Int)).toNat = 0 from rfl] at hx160_0)
                      (try rw [Addr.add_zero'] at hx160_0)
                      replace hx160_0 := (HB.out.cell (World.block_lt_of_cell? w _ hx160_0)).trans hx160_0
                      replace p160 := eq_true p160
                      replace q160 := eq_true q160
                      have p161 : 0 ≤ (1 : Int) := (by omega)
                      have q161 : 1 < ((rd_L1 l1 x22_2).length : Int) := of_decide_eq_true (by first | (with_reducible assumption) | assumption)
                      obtain ⟨ad161, e161, hx161_0⟩ := Kd.at_int HR154_0.out 1 p161 q161
                      have hw161_0 := hx161_0
                      (try rw [show ((1 : Int)).toNat = 1 from rfl] at hw161_0)
                      (try rw [show 1 * 1 = 1 from rfl] at hw161_0)
                      (try simp only [Nat.reduceMul, Nat.reduceEqDiff, Go.Addr.add, ↓reduceIte] at hw161_0)
                      obtain rfl : ad156 = ad161 := (by injection e161)
                      (try simp only [show (1 : Int).toNat = 1 from rfl, Nat.reduceMul, Nat.reduceEqDiff, Go.Addr.add, ↓reduceIte] at hx161_0)
                      have qi161 : (1 < (rd_L1 l1 x22_2).length) = True := eq_true (by omega)
                      (try rw [show ((1 : Int)).toNat = 1 from rfl] at hx161_0)
                      replace hx161_0 := (HB.out.cell (World.block_lt_of_cell? w _ hx161_0)).trans hx161_0
                      replace p161 := eq_true p161
                      replace q161 := eq_true q161
                      have p162 : 0 ≤ (2 : Int) := (by omega)
                      have q162 : 2 < ((rd_L1 l1 x22_2).length : Int) := of_decide_eq_true (by first | (with_reducible assumption) | assumption)
                      obtain ⟨ad162, e162, hx162_0⟩ := Kd.at_int HR154_0.out 2 p162 q162
                      have hw162_0 := hx162_0
                      (try rw [show ((2 : Int)).toNat = 2 from rfl] at hw162_0)
                      (try rw [show 2 * 1 = 2 from rfl] at hw162_0)
                      (try simp only [Nat.reduceMul, Nat.reduceEqDiff, Go.Addr.add, ↓reduceIte] at hw162_0)
                      obtain rfl : ad156 = ad162 := (by injection e162)
                      (try simp only [show (2 : Int).toNat = 2 from rfl, Nat.reduceMul, Nat.reduceEqDiff, Go.Addr.add, ↓reduceIte] at hx162_0)
                      have qi162 : (2 < (rd_L1 l1 x22_2).length) = True := eq_true (by omega)
                      (try rw [show ((2 : Int)).toNat = 2 from rfl] at hx162_0)
                      replace hx162_0 := (HB.out.cell (World.block_lt_of_cell? w _ hx162_0)).trans hx162_0
                      replace p162 := eq_true p162
                      replace q162 := eq_true q162
                      have p165 : 0 ≤ (0 : Int) := (by omega)
                      have q165 : 0 < ((rd_L1 l1 x22_2).length : Int) := of_decide_eq_true (by first | (with_reducible assumption) | assumption)
                      obtain ⟨ad165, e165, hx165_0⟩ := Kd.at_int HR154_0.out 0 p165 q165
                      have hw165_0 := hx165_0
                      (try rw [show ((0 : Int)).toNat = 0 from rfl] at hw165_0)
                      (try rw [show 0 * 1 = 0 from rfl] at hw165_0)
                      (try rw [Addr.add_zero'] at hw165_0)
                      obtain rfl : ad156 = ad165 := (by injection e165)
                      have qi165 : (0 < (rd_L1 l1 x22_2).length) = True := eq_true (by omega)
                      (try rw [show ((0 : Int)).toNat = 0 from rfl] at hx165_0)
                      (try rw [Addr.add_zero'] at hx165_0)
                      replace hx165_0 := (HB.out.cell (World.block_lt_of_cell? w _ hx165_0)).trans hx165_0
                      replace p165 := eq_true p165
                      replace q165 := eq_true q165
                      have p166 : 0 ≤ (1 : Int) := (by omega)
                      have q166 : 1 < ((rd_L1 l1 x22_2).length : Int) := of_decide_eq_true (by first | (with_reducible assumption) | assumption)
                      obtain ⟨ad166, e166, hx166_0⟩ := Kd.at_int HR154_0.out 1 p166 q166
                      have hw166_0 := hx166_0
                      (try rw [show ((1 : Int)).toNat = 1 from rfl] at hw166_0)
                      (try rw [show 1 * 1 = 1 from rfl] at hw166_0)
                      (try simp only [Nat.reduceMul, Nat.reduceEqDiff, Go.Addr.add, ↓reduceIte] at hw166_0)
                      obtain rfl : ad156 = ad166 := (by injection e166)
                      (try simp only [show (1 : Int).toNat = 1 from rfl, Nat.reduceMul, Nat.reduceEqDiff, Go.Addr.add, ↓reduceIte] at hx166_0)
                      have qi166 : (1 < (rd_L1 l1 x22_2).length) = True := eq_true (by omega)
                      (try rw [show ((1 : Int)).toNat = 1 from rfl] at hx166_0)
                      replace hx166_0 := (HB.out.cell (World.block_lt_of_cell? w _ hx166_0)).trans hx166_0
                      replace p166 := eq_true p166
                      replace q166 := eq_true q166
                      have p167 : 0 ≤ (2 : Int) := (by omega)
                      have q167 : 2 < ((rd_L1 l1 x22_2).length : Int) := of_decide_eq_true (by first | (with_reducible assumption) | assumption)
                      obtain ⟨ad167, e167, hx167_0⟩ := Kd.at_int HR154_0.out 2 p167 q167
                      have hw167_0 := hx167_0
                      (try rw [show ((2 : Int)).toNat = 2 from rfl] at hw167_0)
                      (try rw [show 2 * 1 = 2 from rfl] at hw167_0)
                      (try simp only [Nat.reduceMul, Nat.reduceEqDiff, Go.Addr.add, ↓reduceIte] at hw167_0)
                      obtain rfl : ad156 = ad167 := (by injection e167)
                      (try simp only [show (2 : Int).toNat = 2 from rfl, Nat.reduceMul, Nat.reduceEqDiff, Go.Addr.add, ↓reduceIte] at hx167_0)
                      have qi167 : (2 < (rd_L1 l1 x22_2).length) = True := eq_true (by omega)
                      (try rw [show ((2 : Int)).toNat = 2 from rfl] at hx167_0)
                      replace hx167_0 := (HB.out.cell (World.block_lt_of_cell? w _ hx167_0)).trans hx167_0
                      replace p167 := eq_true p167
                      replace q167 := eq_true q167
                      have p168 : 0 ≤ ((ji32) : Int) := of_decide_eq_true (by first | (with_reducible assumption) | assumption)
                      have q168 : (ji32) < (l1.length : Int) := of_decide_eq_true (by first | (with_reducible assumption) | assumption)
                      obtain ⟨ad168, A168_0, c168_0, e168, hx168_0, hl168_0, hi168_0⟩ := at_L1 HR1.out (ji32) p168 q168
                      have hw168_0 := hx168_0
                      obtain rfl : ad154 = ad168 := (by injection e168)
                      replace hx168_0 := (HB.out.cell (World.block_lt_of_cell? w _ hx168_0)).trans hx168_0
                      have HR168_0 := Aside0.mk hi168_0
                      have HC168_0 := Aside0.mk hl168_0
                      clear hi168_0 hl168_0
                      replace p168 := eq_true p168
                      replace q168 := eq_true q168
                      refine start_ (n := 70) (S := fun w' => w'.cell? ad156 = some (.int .i64 (rd (rd_L1 l1 x22_2) 0)) ∧ w'.cell? ⟨ad156.block, ad156.off + 1, none⟩ = some (.int .i64 (rd (rd_L1 l1 x22_2) 1)) ∧ w'.cell? ⟨ad156.block, ad156.off + 1, none⟩ = some (.int .i64 (rd (rd_L1 l1 x22_2) 1)) ∧ w'.cell? ⟨ad156.block, ad156.off + 2, none⟩ = some (.int .i64 (rd (rd_L1 l1 x22_2) 2)) ∧ w'.cell? ad156 = some (.int .i64 (rd (rd_L1 l1 x22_2) 0)) ∧ w'.cell? ⟨ad156.block, ad156.off + 1, none⟩ = some (.int .i64 (rd (rd_L1 l1 x22_2) 1)) ∧ w'.cell? ⟨ad156.block, ad156.off + 2, none⟩ = some (.int .i64 (rd (rd_L1 l1 x22_2) 2)) ∧ w'.cell? ad156 = some (.int .i64 (rd (rd_L1 l1 x22_2) 0)) ∧ w'.cell? ⟨ad156.block, ad156.off + 1, none⟩ = some (.int .i64 (rd (rd_L1 l1 x22_2) 1)) ∧ w'.cell? ⟨ad156.block, ad156.off + 2, none⟩ = some (.int .i64 (rd (rd_L1 l1 x22_2) 2)) ∧ w'.cell? (ad154.add ((ji32)).toNat) = some (.slice A168_0 (rd_L1 l1 (ji32)).length c168_0)) (ds := []) (mb 70 0) (by kernel_rfl) rfl rfl ⟨((HB.out.cell (World.block_lt_of_cell? w _ hw156_0)).trans hw156_0), ((HB.out.cell (World.block_lt_of_cell? w _ hw157_0)).trans hw157_0), ((HB.out.cell (World.block_lt_of_cell? w _ hw158_0)).trans hw158_0), ((HB.out.cell (World.block_lt_of_cell? w _ hw159_0)).trans hw159_0), ((HB.out.cell (World.block_lt_of_cell? w _ hw160_0)).trans hw160_0), ((HB.out.cell (World.block_lt_of_cell? w _ hw161_0)).trans hw161_0), ((HB.out.cell (World.block_lt_of_cell? w _ hw162_0)).trans hw162_0), ((HB.out.cell (World.block_lt_of_cell? w _ hw165_0)).trans hw165_0), ((HB.out.cell (World.block_lt_of_cell? w _ hw166_0)).trans hw166_0), ((HB.out.cell (World.block_lt_of_cell? w _ hw167_0)).trans hw167_0), ((HB.out.cell (World.block_lt_of_cell? w _ hw168_0)).trans hw168_0)⟩ (fun hHeld => ?_); refine with_tabW spec_trDifferences.tab7 spec_trDifferences.bits7 (fun HT_ HW_ => ?_)
                      generalize wr.drew = w37 at HB HR168_0 hx156_0 hx157_0 hx158_0 hx159_0 hx160_0 hx161_0 hx162_0 hx165_0 hx166_0 hx167_0 hx168_0 hHeld ⊢
                      refine pureV 0 27 70 1 HT_ ?_
                      refine pureV 1 28 70 3 HT_ ?_
                      refine pureV 2 29 70 7 HT_ ?_
                      refine pureV 3 30 70 15 HT_ ?_
                      refine pureV 4 31 70 31 HT_ ?_
                      refine pureV 5 32 70 63 HT_ ?_
                      refine pureV 6 33 70 127 HT_ ?_
                      refine one_ (i := 7) (N := some 34) (mb 70 255) rfl rfl (one_of HT_.out (by kernel_rfl)) (by decide) (fun K hK => ?_)
                      refine goes_ Try.func104 (by kernel_rfl) rfl #[.slice (some ad156) (rd_L1 l1 x22_2).length c154_0, .int .i64 1, .int .i64 (wrap64 (3 * (l1.length : Int)))] (by rfl) rfl rfl (by (try simp only [List.map_toArray, List.map_cons, List.map_nil]); first | done | rfl | (simp only [List.length_drop, List.length_take]; rfl)) ?_
                      with_reducible refine (spec_l1All.calls k2 _ _ (rd_L1 l1 x22_2) 1 (wrap64 (3 * (l1.length : Int))) true _ ?side1 ?side2 A11.out).mono ?_
                      (case side1 => repeat (first | exact (Kd.C_below HR154_0.out HB.out) | (with_reducible refine Kd.C_alloc ?_ _) | (with_reducible refine Kd.C_drewN ?_ _) | (with_reducible refine Kd.C_drew ?_)))
                      (case side2 => exact HC154_0.out)
                      rintro e w' ⟨rfl, ⟨nd, rfl⟩⟩
                      refine ⟨_, rfl, ?_⟩
                      refine hK.out _ _ ⟨((HB.out.cell (World.block_lt_of_cell? w _ hw156_0)).trans hw156_0), ((HB.out.cell (World.block_lt_of_cell? w _ hw157_0)).trans hw157_0), ((HB.out.cell (World.block_lt_of_cell? w _ hw158_0)).trans hw158_0), ((HB.out.cell (World.block_lt_of_cell? w _ hw159_0)).trans hw159_0), ((HB.out.cell (World.block_lt_of_cell? w _ hw160_0)).trans hw160_0), ((HB.out.cell (World.block_lt_of_cell? w _ hw161_0)).trans hw161_0), ((HB.out.cell (World.block_lt_of_cell? w _ hw162_0)).trans hw162_0), ((HB.out.cell (World.block_lt_of_cell? w _ hw165_0)).trans hw165_0), ((HB.out.cell (World.block_lt_of_cell? w _ hw166_0)).trans hw166_0), ((HB.out.cell (World.block_lt_of_cell? w _ hw167_0)).trans hw167_0), ((HB.out.cell (World.block_lt_of_cell? w _ hw168_0)).trans hw168_0)⟩ (fun hHeld => ?_)
                      clear hK K
                      refine norm_ (a' := ?_) ?_ ?_
                      rotate_left
                      ·show Act.put _ (some 34) _ = _
                       simp only [Act.put, List.setIfInBounds_toArray, List.set_cons_zero, List.set_cons_succ, i64_w, i32_w]
                       rfl
                      refine pureV 8 35 70 511 HT_ ?_
                      refine pureV 9 36 70 1023 HT_ ?_
                      refine pureV 10 37 70 2047 HT_ ?_
                      refine pureV 11 38 70 4095 HT_ ?_
                      refine pureV 12 39 70 8191 HT_ ?_
                      refine pureV 14 41 70 24575 HT_ ?_
                      refine pureV 15 42 70 57343 HT_ ?_
                      refine takeV 13 40 70 65535 HT_ HW_ hHeld rfl (by rintro w' ⟨s0, s1, s2, s3, s4, s5, s6, s7, s8, s9, s10⟩; go_simp; with_reducible rfl) ?_
                      refine takeV 16 43 70 131071 HT_ HW_ hHeld rfl (by rintro w' ⟨s0, s1, s2, s3, s4, s5, s6, s7, s8, s9, s10⟩; go_simp; with_reducible rfl) ?_
                      refine pureV 17 44 70 262143 HT_ ?_
                      refine pureV 18 45 70 524287 HT_ ?_
                      refine pureV 19 46 70 1048575 HT_ ?_
                      refine pureV 20 47 70 2097151 HT_ ?_
                      refine pureV 21 48 70 4194303 HT_ ?_
                      refine pureV 23 50 70 12582911 HT_ ?_
                      refine pureV 24 51 70 29360127 HT_ ?_
                      refine takeV 22 49 70 33554431 HT_ HW_ hHeld rfl (by rintro w' ⟨s0, s1, s2, s3, s4, s5, s6, s7, s8, s9, s10⟩; go_simp; with_reducible rfl) ?_
                      refine takeV 25 52 70 67108863 HT_ HW_ hHeld rfl (by rintro w' ⟨s0, s1, s2, s3, s4, s5, s6, s7, s8, s9, s10⟩; go_simp; with_reducible rfl) ?_
                      refine pureV 26 53 70 134217727 HT_ ?_
                      refine pureV 27 54 70 268435455 HT_ ?_
                      refine pureV 28 55 70 536870911 HT_ ?_
                      refine pureV 29 56 70 1073741823 HT_ ?_
                      refine pureV 30 57 70 2147483647 HT_ ?_
                      refine pureV 32 59 70 6442450943 HT_ ?_
                      refine pureV 33 60 70 15032385535 HT_ ?_
                      refine pureV 36 63 70 83751862271 HT_ ?_
                      refine pureV 37 64 70 221190815743 HT_ ?_
                      refine takeV 31 58 70 223338299391 HT_ HW_ hHeld rfl (by rintro w' ⟨s0, s1, s2, s3, s4, s5, s6, s7, s8, s9, s10⟩; go_simp; with_reducible rfl) ?_
                      refine takeV 34 61 70 240518168575 HT_ HW_ hHeld rfl (by rintro w' ⟨s0, s1, s2, s3, s4, s5, s6, s7, s8, s9, s10⟩; go_simp; with_reducible rfl) ?_
                      refine pureV 35 62 70 274877906943 HT_ ?_
                      refine takeV 38 65 70 549755813887 HT_ HW_ hHeld rfl (by rintro w' ⟨s0, s1, s2, s3, s4, s5, s6, s7, s8, s9, s10⟩; go_simp; with_reducible rfl) ?_
                      refine pureV 39 66 70 1099511627775 HT_ ?_
                      refine pureV 40 67 70 2199023255551 HT_ ?_
                      refine pureV 41 68 70 4398046511103 HT_ ?_
                      refine pureV 42 69 70 8796093022207 HT_ ?_
                      refine pureV 44 71 70 26388279066623 HT_ ?_
                      refine pureV 45 72 70 61572651155455 HT_ ?_
                      refine pureV 48 75 70 343047627866111 HT_ ?_
                      refine pureV 49 76 70 905997581287423 HT_ ?_
                      refine pureV 52 79 70 5409597208657919 HT_ ?_
                      refine takeV 43 70 70 5418393301680127 HT_ HW_ hHeld rfl (by rintro w' ⟨s0, s1, s2, s3, s4, s5, s6, s7, s8, s9, s10⟩; go_simp; with_reducible rfl) ?_
                      refine takeV 46 73 70 5488762045857791 HT_ HW_ hHeld rfl (by rintro w' ⟨s0, s1, s2, s3, s4, s5, s6, s7, s8, s9, s10⟩; go_simp; with_reducible rfl) ?_
                      refine pureV 47 74 70 5629499534213119 HT_ ?_
                      refine takeV 50 77 70 6755399441055743 HT_ HW_ hHeld rfl (by rintro w' ⟨s0, s1, s2, s3, s4, s5, s6, s7, s8, s9, s10⟩; go_simp; with_reducible rfl) ?_
                      refine pureV 51 78 70 9007199254740991 HT_ ?_
                      refine pureV 53 80 70 18014398509481983 HT_ ?_
                      refine pureV 54 81 70 36028797018963967 HT_ ?_
                      refine pureV 55 82 70 72057594037927935 HT_ ?_
                      refine pureV 56 83 70 144115188075855871 HT_ ?_
                      refine pureV 57 84 70 288230376151711743 HT_ ?_
                      refine pureV 58 85 70 576460752303423487 HT_ ?_
                      refine pureV 59 86 70 1152921504606846975 HT_ ?_
                      refine pureV 60 87 70 2305843009213693951 HT_ ?_
                      refine pureV 61 88 70 4611686018427387903 HT_ ?_
                      refine pureV 62 89 70 9223372036854775807 HT_ ?_
                      refine pureV 63 90 70 18446744073709551615 HT_ ?_
                      refine pureV 65 92 70 55340232221128654847 HT_ ?_
                      refine takeV 64 91 70 73786976294838206463 HT_ HW_ hHeld rfl (by rintro w' ⟨s0, s1, s2, s3, s4, s5, s6, s7, s8, s9, s10⟩; go_simp; with_reducible rfl) ?_
                      refine one_ (i := 66) (N := some 93) (mb 70 147573952589676412927) rfl rfl (one_of HT_.out (by kernel_rfl)) (by decide) (fun K hK => ?_)
                      refine goes_ Try.func91 (by kernel_rfl) rfl #[.slice A168_0 (rd_L1 l1 (ji32)).length c168_0, .slice (some ad156) (rd_L1 l1 x22_2).length c154_0] (by rfl) rfl rfl (by (try simp only [List.map_toArray, List.map_cons, List.map_nil]); first | done | (simp only [hji32]; rfl) | rfl | (simp only [List.length_drop, List.length_take]; rfl)) ?_
                      with_reducible refine (spec_trLess.calls k2 _ _ (rd_L1 l1 (ji32)) _ _ (rd_L1 l1 x22_2) true _ ?side1 ?side2 ?side3 ?side4 A35.out).mono ?_
                      (case side1 => repeat (first | exact (Kd.C_below HR168_0.out (by repeat (first | (with_reducible first | exact HB.out | apply below_alloc | apply pw_below_drewN | apply below_drew1) | exact HB.out))) | (with_reducible refine Kd.C_alloc ?_ _) | (with_reducible refine Kd.C_drewN ?_ _) | (with_reducible refine Kd.C_drew ?_)))
                      (case side2 => exact HC168_0.out)
                      (case side3 => repeat (first | exact (Kd.C_below HR154_0.out (by repeat (first | (with_reducible first | exact HB.out | apply below_alloc | apply pw_below_drewN | apply below_drew1) | exact HB.out))) | (with_reducible refine Kd.C_alloc ?_ _) | (with_reducible refine Kd.C_drewN ?_ _) | (with_reducible refine Kd.C_drew ?_)))
                      (case side4 => exact HC154_0.out)
                      rintro e w' ⟨rfl, ⟨nd, rfl⟩⟩
                      refine ⟨_, rfl, ?_⟩
                      refine hK.out _ _ ⟨((HB.out.cell (World.block_lt_of_cell? w _ hw156_0)).trans hw156_0), ((HB.out.cell (World.block_lt_of_cell? w _ hw157_0)).trans hw157_0), ((HB.out.cell (World.block_lt_of_cell? w _ hw158_0)).trans hw158_0), ((HB.out.cell (World.block_lt_of_cell? w _ hw159_0)).trans hw159_0), ((HB.out.cell (World.block_lt_of_cell? w _ hw160_0)).trans hw160_0), ((HB.out.cell (World.block_lt_of_cell? w _ hw161_0)).trans hw161_0), ((HB.out.cell (World.block_lt_of_cell? w _ hw162_0)).trans hw162_0), ((HB.out.cell (World.block_lt_of_cell? w _ hw165_0)).trans hw165_0), ((HB.out.cell (World.block_lt_of_cell? w _ hw166_0)).trans hw166_0), ((HB.out.cell (World.block_lt_of_cell? w _ hw167_0)).trans hw167_0), ((HB.out.cell (World.block_lt_of_cell? w _ hw168_0)).trans hw168_0)⟩ (fun hHeld => ?_)
                      clear hK K
                      refine norm_ (a' := ?_) ?_ ?_
                      rotate_left
                      ·show Act.put _ (some 93) _ = _
                       simp only [Act.put, List.setIfInBounds_toArray, List.set_cons_zero, List.set_cons_succ, i64_w, i32_w]
                       rfl
                      refine pureV 67 94 70 295147905179352825855 HT_ ?_
                      refine pureV 68 95 70 590295810358705651711 HT_ ?_
                      refine pureV 69 96 70 1180591620717411303423 HT_ ?_
                      refine done_ (done_of HT_.out (by kernel_rfl)) ?_
                      try go_wp2
                      go_roundg k2
                      case measure => have := HJ2.out; have := HK2.out; omega
                      case rel => exact ⟨(wrap64 (x22_2 + 1)), (by first | rfl | (simp; done) | (simp [*]; done)), H', ⟨by have := HJ2.out; have := HK2.out; omega⟩, ⟨by repeat (first | (with_reducible first | exact HB.out | apply below_alloc | apply pw_below_drewN | apply below_drew1) | exact HB.out)⟩⟩
                     ·replace c36 := Bool.eq_false_iff.mpr c36
                      subst c36
                      have H1 : (some false) = some r := by rw [if_neg (show ¬ (false = true) by decide)] at H; exact H
                      clear H
                      have H := H1
                      clear H1
                      obtain rfl := Option.some.inj H
                      have p154 : 0 ≤ (x22_2 : Int) := of_decide_eq_true (by first | (with_reducible assumption) | assumption)
                      have q154 : x22_2 < (l1.length : Int) := of_decide_eq_true (by first | (with_reducible assumption) | assumption)
                      obtain ⟨ad154, A154_0, c154_0, e154, hx154_0, hl154_0, hi154_0⟩ := at_L1 HR1.out x22_2 p154 q154
                      cases e154
                      replace hx154_0 := (HB.out.cell (World.block_lt_of_cell? w _ hx154_0)).trans hx154_0
                      have HR154_0 := Aside0.mk hi154_0
                      have HC154_0 := Aside0.mk hl154_0
                      clear hi154_0 hl154_0
                      replace p154 := eq_true p154
                      replace q154 := eq_true q154
                      try go_wp2
                      have n0_ := Aside0.mk (below_drew1 HB.out)
                      clear HB
                      have HB := n0_
                      clear n0_
                      have p156 : 0 ≤ (0 : Int) := (by omega)
                      have q156 : 0 < ((rd_L1 l1 x22_2).length : Int) := of_decide_eq_true (by first | (with_reducible assumption) | assumption)
                      obtain ⟨ad156, e156, hx156_0⟩ := Kd.at_int HR154_0.out 0 p156 q156
                      have hw156_0 := hx156_0
                      (try rw [show ((0 : Int)).toNat = 0 from rfl] at hw156_0)
                      (try rw [show 0 * 1 = 0 from rfl] at hw156_0)
                      (try rw [Addr.add_zero'] at hw156_0)
                      cases e156
                      have qi156 : (0 < (rd_L1 l1 x22_2).length) = True := eq_true (by omega)
                      (try rw [show ((0 : Int)).toNat = 0 from rfl] at hx156_0)
                      (try rw [Addr.add_zero'] at hx156_0)
                      replace hx156_0 := (HB.out.cell (World.block_lt_of_cell? w _ hx156_0)).trans hx156_0
                      replace p156 := eq_true p156
                      replace q156 := eq_true q156
                      have p157 : 0 ≤ (1 : Int) := (by omega)
                      have q157 : 1 < ((rd_L1 l1 x22_2).length : Int) := of_decide_eq_true (by first | (with_reducible assumption) | assumption)
                      obtain ⟨ad157, e157, hx157_0⟩ := Kd.at_int HR154_0.out 1 p157 q157
                      have hw157_0 := hx157_0
                      (try rw [show ((1 : Int)).toNat = 1 from rfl] at hw157_0)
                      (try rw [show 1 * 1 = 1 from rfl] at hw157_0)
                      (try simp only [Nat.reduceMul, Nat.reduceEqDiff, Go.Addr.add, ↓reduceIte] at hw157_0)
                      obtain rfl : ad156 = ad157 := (by injection e157)
                      (try simp only [show (1 : Int).toNat = 1 from rfl, Nat.reduceMul, Nat.reduceEqDiff, Go.Addr.add, ↓reduceIte] at hx157_0)
                      have qi157 : (1 < (rd_L1 l1 x22_2).length) = True := eq_true (by omega)
                      (try rw [show ((1 : Int)).toNat = 1 from rfl] at hx157_0)
                      replace hx157_0 := (HB.out.cell (World.block_lt_of_cell? w _ hx157_0)).trans hx157_0
                      replace p157 := eq_true p157
                      replace q157 := eq_true q157
                      have p158 : 0 ≤ (1 : Int) := (by omega)
                      have q158 : 1 < ((rd_L1 l1 x22_2).length : Int) := of_decide_eq_true (by first | (with_reducible assumption) | assumption)
                      obtain ⟨ad158, e158, hx158_0⟩ := Kd.at_int HR154_0.out 1 p158 q158
                      have hw158_0 := hx158_0
                      (try rw [show ((1 : Int)).toNat = 1 from rfl] at hw158_0)
                      (try rw [show 1 * 1 = 1 from rfl] at hw158_0)
                      (try simp only [Nat.reduceMul, Nat.reduceEqDiff, Go.Addr.add, ↓reduceIte] at hw158_0)
                      obtain rfl : ad156 = ad158 := (by injection e158)
                      (try simp only [show (1 : Int).toNat = 1 from rfl, Nat.reduceMul, Nat.reduceEqDiff, Go.Addr.add, ↓reduceIte] at hx158_0)
                      have qi158 : (1 < (rd_L1 l1 x22_2).length) = True := eq_true (by omega)
                      (try rw [show ((1 : Int)).toNat = 1 from rfl] at hx158_0)
                      replace hx158_0 := (HB.out.cell (World.block_lt_of_cell? w _ hx158_0)).trans hx158_0
                      replace p158 := eq_true p158
                      replace q158 := eq_true q158
                      have p159 : 0 ≤ (2 : Int) := (by omega)
                      have q159 : 2 < ((rd_L1 l1 x22_2).length : Int) := of_decide_eq_true (by first | (with_reducible assumption) | assumption)
                      obtain ⟨ad159, e159, hx159_0⟩ := Kd.at_int HR154_0.out 2 p159 q159
                      have hw159_0 := hx159_0
                      (try rw [show ((2 : Int)).toNat = 2 from rfl] at hw159_0)
                      (try rw [show 2 * 1 = 2 from rfl] at hw159_0)
                      (try simp only [Nat.reduceMul, Nat.reduceEqDiff, Go.Addr.add, ↓reduceIte] at hw159_0)
                      obtain rfl : ad156 = ad159 := (by injection e159)
                      (try simp only [show (2 : Int).toNat = 2 from rfl, Nat.reduceMul, Nat.reduceEqDiff, Go.Addr.add, ↓reduceIte] at hx159_0)
                      have qi159 : (2 < (rd_L1 l1 x22_2).length) = True := eq_true (by omega)
                      (try rw [show ((2 : Int)).toNat = 2 from rfl] at hx159_0)
                      replace hx159_0 := (HB.out.cell (World.block_lt_of_cell? w _ hx159_0)).trans hx159_0
                      replace p159 := eq_true p159
                      replace q159 := eq_true q159
                      have p160 : 0 ≤ (0 : Int) := (by omega)
                      have q160 : 0 < ((rd_L1 l1 x22_2).length : Int) := of_decide_eq_true (by first | (with_reducible assumption) | assumption)
                      obtain ⟨ad160, e160, hx160_0⟩ := Kd.at_int HR154_0.out 0 p160 q160
                      have hw160_0 := hx160_0
                      (try rw [show ((0 : Int)).toNat = 0 from rfl] at hw160_0)
                      (try rw [show 0 * 1 = 0 from rfl] at hw160_0)
                      (try rw [Addr.add_zero'] at hw160_0)
                      obtain rfl : ad156 = ad160 := (by injection e160)
                      have qi160 : (0 < (rd_L1 l1 x22_2).length) = True := eq_true (by omega)
                      (try rw [show ((0 : Int)).toNat = 0 from rfl] at hx160_0)
                      (try rw [Addr.add_zero'] at hx160_0)
                      replace hx160_0 := (HB.out.cell (World.block_lt_of_cell? w _ hx160_0)).trans hx160_0
                      replace p160 := eq_true p160
                      replace q160 := eq_true q160
                      have p161 : 0 ≤ (1 : Int) := (by omega)
                      have q161 : 1 < ((rd_L1 l1 x22_2).length : Int) := of_decide_eq_true (by first | (with_reducible assumption) | assumption)
                      obtain ⟨ad161, e161, hx161_0⟩ := Kd.at_int HR154_0.out 1 p161 q161
                      have hw161_0 := hx161_0
                      (try rw [show ((1 : Int)).toNat = 1 from rfl] at hw161_0)
                      (try rw [show 1 * 1 = 1 from rfl] at hw161_0)
                      (try simp only [Nat.reduceMul, Nat.reduceEqDiff, Go.Addr.add, ↓reduceIte] at hw161_0)
                      obtain rfl : ad156 = ad161 := (by injection e161)
                      (try simp only [show (1 : Int).toNat = 1 from rfl, Nat.reduceMul, Nat.reduceEqDiff, Go.Addr.add, ↓reduceIte] at hx161_0)
                      have qi161 : (1 < (rd_L1 l1 x22_2).length) = True := eq_true (by omega)
                      (try rw [show ((1 : Int)).toNat = 1 from rfl] at hx161_0)
                      replace hx161_0 := (HB.out.cell (World.block_lt_of_cell? w _ hx161_0)).trans hx161_0
                      replace p161 := eq_true p161
                      replace q161 := eq_true q161
                      have p162 : 0 ≤ (2 : Int) := (by omega)
                      have q162 : 2 < ((rd_L1 l1 x22_2).length : Int) := of_decide_eq_true (by first | (with_reducible assumption) | assumption)
                      obtain ⟨ad162, e162, hx162_0⟩ := Kd.at_int HR154_0.out 2 p162 q162
                      have hw162_0 := hx162_0
                      (try rw [show ((2 : Int)).toNat = 2 from rfl] at hw162_0)
                      (try rw [show 2 * 1 = 2 from rfl] at hw162_0)
                      (try simp only [Nat.reduceMul, Nat.reduceEqDiff, Go.Addr.add, ↓reduceIte] at hw162_0)
                      obtain rfl : ad156 = ad162 := (by injection e162)
                      (try simp only [show (2 : Int).toNat = 2 from rfl, Nat.reduceMul, Nat.reduceEqDiff, Go.Addr.add, ↓reduceIte] at hx162_0)
                      have qi162 : (2 < (rd_L1 l1 x22_2).length) = True := eq_true (by omega)
                      (try rw [show ((2 : Int)).toNat = 2 from rfl] at hx162_0)
                      replace hx162_0 := (HB.out.cell (World.block_lt_of_cell? w _ hx162_0)).trans hx162_0
                      replace p162 := eq_true p162
                      replace q162 := eq_true q162
                      have p165 : 0 ≤ (0 : Int) := (by omega)
                      have q165 : 0 < ((rd_L1 l1 x22_2).length : Int) := of_decide_eq_true (by first | (with_reducible assumption) | assumption)
                      obtain ⟨ad165, e165, hx165_0⟩ := Kd.at_int HR154_0.out 0 p165 q165
                      have hw165_0 := hx165_0
                      (try rw [show ((0 : Int)).toNat = 0 from rfl] at hw165_0)
                      (try rw [show 0 * 1 = 0 from rfl] at hw165_0)
                      (try rw [Addr.add_zero'] at hw165_0)
                      obtain rfl : ad156 = ad165 := (by injection e165)
                      have qi165 : (0 < (rd_L1 l1 x22_2).length) = True := eq_true (by omega)
                      (try rw [show ((0 : Int)).toNat = 0 from rfl] at hx165_0)
                      (try rw [Addr.add_zero'] at hx165_0)
                      replace hx165_0 := (HB.out.cell (World.block_lt_of_cell? w _ hx165_0)).trans hx165_0
                      replace p165 := eq_true p165
                      replace q165 := eq_true q165
                      have p166 : 0 ≤ (1 : Int) := (by omega)
                      have q166 : 1 < ((rd_L1 l1 x22_2).length : Int) := of_decide_eq_true (by first | (with_reducible assumption) | assumption)
                      obtain ⟨ad166, e166, hx166_0⟩ := Kd.at_int HR154_0.out 1 p166 q166
                      have hw166_0 := hx166_0
                      (try rw [show ((1 : Int)).toNat = 1 from rfl] at hw166_0)
                      (try rw [show 1 * 1 = 1 from rfl] at hw166_0)
                      (try simp only [Nat.reduceMul, Nat.reduceEqDiff, Go.Addr.add, ↓reduceIte] at hw166_0)
                      obtain rfl : ad156 = ad166 := (by injection e166)
                      (try simp only [show (1 : Int).toNat = 1 from rfl, Nat.reduceMul, Nat.reduceEqDiff, Go.Addr.add, ↓reduceIte] at hx166_0)
                      have qi166 : (1 < (rd_L1 l1 x22_2).length) = True := eq_true (by omega)
                      (try rw [show ((1 : Int)).toNat = 1 from rfl] at hx166_0)
                      replace hx166_0 := (HB.out.cell (World.block_lt_of_cell? w _ hx166_0)).trans hx166_0
                      replace p166 := eq_true p166
                      replace q166 := eq_true q166
                      have p167 : 0 ≤ (2 : Int) := (by omega)
                      have q167 : 2 < ((rd_L1 l1 x22_2).length : Int) := of_decide_eq_true (by first | (with_reducible assumption) | assumption)
                      obtain ⟨ad167, e167, hx167_0⟩ := Kd.at_int HR154_0.out 2 p167 q167
                      have hw167_0 := hx167_0
                      (try rw [show ((2 : Int)).toNat = 2 from rfl] at hw167_0)
                      (try rw [show 2 * 1 = 2 from rfl] at hw167_0)
                      (try simp only [Nat.reduceMul, Nat.reduceEqDiff, Go.Addr.add, ↓reduceIte] at hw167_0)
                      obtain rfl : ad156 = ad167 := (by injection e167)
                      (try simp only [show (2 : Int).toNat = 2 from rfl, Nat.reduceMul, Nat.reduceEqDiff, Go.Addr.add, ↓reduceIte] at hx167_0)
                      have qi167 : (2 < (rd_L1 l1 x22_2).length) = True := eq_true (by omega)
                      (try rw [show ((2 : Int)).toNat = 2 from rfl] at hx167_0)
                      replace hx167_0 := (HB.out.cell (World.block_lt_of_cell? w _ hx167_0)).trans hx167_0
                      replace p167 := eq_true p167
                      replace q167 := eq_true q167
                      have p168 : 0 ≤ ((ji32) : Int) := of_decide_eq_true (by first | (with_reducible assumption) | assumption)
                      have q168 : (ji32) < (l1.length : Int) := of_decide_eq_true (by first | (with_reducible assumption) | assumption)
                      obtain ⟨ad168, A168_0, c168_0, e168, hx168_0, hl168_0, hi168_0⟩ := at_L1 HR1.out (ji32) p168 q168
                      have hw168_0 := hx168_0
                      obtain rfl : ad154 = ad168 := (by injection e168)
                      replace hx168_0 := (HB.out.cell (World.block_lt_of_cell? w _ hx168_0)).trans hx168_0
                      have HR168_0 := Aside0.mk hi168_0
                      have HC168_0 := Aside0.mk hl168_0
                      clear hi168_0 hl168_0
                      replace p168 := eq_true p168
                      replace q168 := eq_true q168
                      refine start_ (n := 70) (S := fun w' => w'.cell? ad156 = some (.int .i64 (rd (rd_L1 l1 x22_2) 0)) ∧ w'.cell? ⟨ad156.block, ad156.off + 1, none⟩ = some (.int .i64 (rd (rd_L1 l1 x22_2) 1)) ∧ w'.cell? ⟨ad156.block, ad156.off + 1, none⟩ = some (.int .i64 (rd (rd_L1 l1 x22_2) 1)) ∧ w'.cell? ⟨ad156.block, ad156.off + 2, none⟩ = some (.int .i64 (rd (rd_L1 l1 x22_2) 2)) ∧ w'.cell? ad156 = some (.int .i64 (rd (rd_L1 l1 x22_2) 0)) ∧ w'.cell? ⟨ad156.block, ad156.off + 1, none⟩ = some (.int .i64 (rd (rd_L1 l1 x22_2) 1)) ∧ w'.cell? ⟨ad156.block, ad156.off + 2, none⟩ = some (.int .i64 (rd (rd_L1 l1 x22_2) 2)) ∧ w'.cell? ad156 = some (.int .i64 (rd (rd_L1 l1 x22_2) 0)) ∧ w'.cell? ⟨ad156.block, ad156.off + 1, none⟩ = some (.int .i64 (rd (rd_L1 l1 x22_2) 1)) ∧ w'.cell? ⟨ad156.block, ad156.off + 2, none⟩ = some (.int .i64 (rd (rd_L1 l1 x22_2) 2)) ∧ w'.cell? (ad154.add ((ji32)).toNat) = some (.slice A168_0 (rd_L1 l1 (ji32)).length c168_0)) (ds := []) (mb 70 0) (by kernel_rfl) rfl rfl ⟨((HB.out.cell (World.block_lt_of_cell? w _ hw156_0)).trans hw156_0), ((HB.out.cell (World.block_lt_of_cell? w _ hw157_0)).trans hw157_0), ((HB.out.cell (World.block_lt_of_cell? w _ hw158_0)).trans hw158_0), ((HB.out.cell (World.block_lt_of_cell? w _ hw159_0)).trans hw159_0), ((HB.out.cell (World.block_lt_of_cell? w _ hw160_0)).trans hw160_0), ((HB.out.cell (World.block_lt_of_cell? w _ hw161_0)).trans hw161_0), ((HB.out.cell (World.block_lt_of_cell? w _ hw162_0)).trans hw162_0), ((HB.out.cell (World.block_lt_of_cell? w _ hw165_0)).trans hw165_0), ((HB.out.cell (World.block_lt_of_cell? w _ hw166_0)).trans hw166_0), ((HB.out.cell (World.block_lt_of_cell? w _ hw167_0)).trans hw167_0), ((HB.out.cell (World.block_lt_of_cell? w _ hw168_0)).trans hw168_0)⟩ (fun hHeld => ?_); refine with_tabW spec_trDifferences.tab7 spec_trDifferences.bits7 (fun HT_ HW_ => ?_)
                      generalize wr.drew = w38 at HB HR168_0 hx156_0 hx157_0 hx158_0 hx159_0 hx160_0 hx161_0 hx162_0 hx165_0 hx166_0 hx167_0 hx168_0 hHeld ⊢
                      refine pureV 0 27 70 1 HT_ ?_
                      refine pureV 1 28 70 3 HT_ ?_
                      refine pureV 2 29 70 7 HT_ ?_
                      refine pureV 3 30 70 15 HT_ ?_
                      refine pureV 4 31 70 31 HT_ ?_
                      refine pureV 5 32 70 63 HT_ ?_
                      refine pureV 6 33 70 127 HT_ ?_
                      refine one_ (i := 7) (N := some 34) (mb 70 255) rfl rfl (one_of HT_.out (by kernel_rfl)) (by decide) (fun K hK => ?_)
                      refine goes_ Try.func104 (by kernel_rfl) rfl #[.slice (some ad156) (rd_L1 l1 x22_2).length c154_0, .int .i64 1, .int .i64 (wrap64 (3 * (l1.length : Int)))] (by rfl) rfl rfl (by (try simp only [List.map_toArray, List.map_cons, List.map_nil]); first | done | rfl | (simp only [List.length_drop, List.length_take]; rfl)) ?_
                      with_reducible refine (spec_l1All.calls k2 _ _ (rd_L1 l1 x22_2) 1 (wrap64 (3 * (l1.length : Int))) true _ ?side1 ?side2 A11.out).mono ?_
                      (case side1 => repeat (first | exact (Kd.C_below HR154_0.out HB.out) | (with_reducible refine Kd.C_alloc ?_ _) | (with_reducible refine Kd.C_drewN ?_ _) | (with_reducible refine Kd.C_drew ?_)))
                      (case side2 => exact HC154_0.out)
                      rintro e w' ⟨rfl, ⟨nd, rfl⟩⟩
                      refine ⟨_, rfl, ?_⟩
                      refine hK.out _ _ ⟨((HB.out.cell (World.block_lt_of_cell? w _ hw156_0)).trans hw156_0), ((HB.out.cell (World.block_lt_of_cell? w _ hw157_0)).trans hw157_0), ((HB.out.cell (World.block_lt_of_cell? w _ hw158_0)).trans hw158_0), ((HB.out.cell (World.block_lt_of_cell? w _ hw159_0)).trans hw159_0), ((HB.out.cell (World.block_lt_of_cell? w _ hw160_0)).trans hw160_0), ((HB.out.cell (World.block_lt_of_cell? w _ hw161_0)).trans hw161_0), ((HB.out.cell (World.block_lt_of_cell? w _ hw162_0)).trans hw162_0), ((HB.out.cell (World.block_lt_of_cell? w _ hw165_0)).trans hw165_0), ((HB.out.cell (World.block_lt_of_cell? w _ hw166_0)).trans hw166_0), ((HB.out.cell (World.block_lt_of_cell? w _ hw167_0)).trans hw167_0), ((HB.out.cell (World.block_lt_of_cell? w _ hw168_0)).trans hw168_0)⟩ (fun hHeld => ?_)
                      clear hK K
                      refine norm_ (a' := ?_) ?_ ?_
                      rotate_left
                      ·show Act.put _ (some 34) _ = _
                       simp only [Act.put, List.setIfInBounds_toArray, List.set_cons_zero, List.set_cons_succ, i64_w, i32_w]
                       rfl
                      refine pureV 8 35 70 511 HT_ ?_
                      refine pureV 9 36 70 1023 HT_ ?_
                      refine pureV 10 37 70 2047 HT_ ?_
                      refine pureV 11 38 70 4095 HT_ ?_
                      refine pureV 12 39 70 8191 HT_ ?_
                      refine pureV 14 41 70 24575 HT_ ?_
                      refine pureV 15 42 70 57343 HT_ ?_
                      refine takeV 13 40 70 65535 HT_ HW_ hHeld rfl (by rintro w' ⟨s0, s1, s2, s3, s4, s5, s6, s7, s8, s9, s10⟩; go_simp; with_reducible rfl) ?_
                      refine takeV 16 43 70 131071 HT_ HW_ hHeld rfl (by rintro w' ⟨s0, s1, s2, s3, s4, s5, s6, s7, s8, s9, s10⟩; go_simp; with_reducible rfl) ?_
                      refine pureV 17 44 70 262143 HT_ ?_
                      refine pureV 18 45 70 524287 HT_ ?_
                      refine pureV 19 46 70 1048575 HT_ ?_
                      refine pureV 20 47 70 2097151 HT_ ?_
                      refine pureV 21 48 70 4194303 HT_ ?_
                      refine pureV 23 50 70 12582911 HT_ ?_
                      refine pureV 24 51 70 29360127 HT_ ?_
                      refine takeV 22 49 70 33554431 HT_ HW_ hHeld rfl (by rintro w' ⟨s0, s1, s2, s3, s4, s5, s6, s7, s8, s9, s10⟩; go_simp; with_reducible rfl) ?_
                      refine takeV 25 52 70 67108863 HT_ HW_ hHeld rfl (by rintro w' ⟨s0, s1, s2, s3, s4, s5, s6, s7, s8, s9, s10⟩; go_simp; with_reducible rfl) ?_
                      refine pureV 26 53 70 134217727 HT_ ?_
                      refine pureV 27 54 70 268435455 HT_ ?_
                      refine pureV 28 55 70 536870911 HT_ ?_
                      refine pureV 29 56 70 1073741823 HT_ ?_
                      refine pureV 30 57 70 2147483647 HT_ ?_
                      refine pureV 32 59 70 6442450943 HT_ ?_
                      refine pureV 33 60 70 15032385535 HT_ ?_
                      refine pureV 36 63 70 83751862271 HT_ ?_
                      refine pureV 37 64 70 221190815743 HT_ ?_
                      refine takeV 31 58 70 223338299391 HT_ HW_ hHeld rfl (by rintro w' ⟨s0, s1, s2, s3, s4, s5, s6, s7, s8, s9, s10⟩; go_simp; with_reducible rfl) ?_
                      refine takeV 34 61 70 240518168575 HT_ HW_ hHeld rfl (by rintro w' ⟨s0, s1, s2, s3, s4, s5, s6, s7, s8, s9, s10⟩; go_simp; with_reducible rfl) ?_
                      refine pureV 35 62 70 274877906943 HT_ ?_
                      refine takeV 38 65 70 549755813887 HT_ HW_ hHeld rfl (by rintro w' ⟨s0, s1, s2, s3, s4, s5, s6, s7, s8, s9, s10⟩; go_simp; with_reducible rfl) ?_
                      refine pureV 39 66 70 1099511627775 HT_ ?_
                      refine pureV 40 67 70 2199023255551 HT_ ?_
                      refine pureV 41 68 70 4398046511103 HT_ ?_
                      refine pureV 42 69 70 8796093022207 HT_ ?_
                      refine pureV 44 71 70 26388279066623 HT_ ?_
                      refine pureV 45 72 70 61572651155455 HT_ ?_
                      refine pureV 48 75 70 343047627866111 HT_ ?_
                      refine pureV 49 76 70 905997581287423 HT_ ?_
                      refine pureV 52 79 70 5409597208657919 HT_ ?_
                      refine takeV 43 70 70 5418393301680127 HT_ HW_ hHeld rfl (by rintro w' ⟨s0, s1, s2, s3, s4, s5, s6, s7, s8, s9, s10⟩; go_simp; with_reducible rfl) ?_
                      refine takeV 46 73 70 5488762045857791 HT_ HW_ hHeld rfl (by rintro w' ⟨s0, s1, s2, s3, s4, s5, s6, s7, s8, s9, s10⟩; go_simp; with_reducible rfl) ?_
                      refine pureV 47 74 70 5629499534213119 HT_ ?_
                      refine takeV 50 77 70 6755399441055743 HT_ HW_ hHeld rfl (by rintro w' ⟨s0, s1, s2, s3, s4, s5, s6, s7, s8, s9, s10⟩; go_simp; with_reducible rfl) ?_
                      refine pureV 51 78 70 9007199254740991 HT_ ?_
                      refine pureV 53 80 70 18014398509481983 HT_ ?_
                      refine pureV 54 81 70 36028797018963967 HT_ ?_
                      refine pureV 55 82 70 72057594037927935 HT_ ?_
                      refine pureV 56 83 70 144115188075855871 HT_ ?_
                      refine pureV 57 84 70 288230376151711743 HT_ ?_
                      refine pureV 58 85 70 576460752303423487 HT_ ?_
                      refine pureV 59 86 70 1152921504606846975 HT_ ?_
                      refine pureV 60 87 70 2305843009213693951 HT_ ?_
                      refine pureV 61 88 70 4611686018427387903 HT_ ?_
                      refine pureV 62 89 70 9223372036854775807 HT_ ?_
                      refine pureV 63 90 70 18446744073709551615 HT_ ?_
                      refine pureV 65 92 70 55340232221128654847 HT_ ?_
                      refine takeV 64 91 70 73786976294838206463 HT_ HW_ hHeld rfl (by rintro w' ⟨s0, s1, s2, s3, s4, s5, s6, s7, s8, s9, s10⟩; go_simp; with_reducible rfl) ?_
                      refine one_ (i := 66) (N := some 93) (mb 70 147573952589676412927) rfl rfl (one_of HT_.out (by kernel_rfl)) (by decide) (fun K hK => ?_)
                      refine goes_ Try.func91 (by kernel_rfl) rfl #[.slice A168_0 (rd_L1 l1 (ji32)).length c168_0, .slice (some ad156) (rd_L1 l1 x22_2).length c154_0] (by rfl) rfl rfl (by (try simp only [List.map_toArray, List.map_cons, List.map_nil]); first | done | (simp only [hji32]; rfl) | rfl | (simp only [List.length_drop, List.length_take]; rfl)) ?_
                      with_reducible refine (spec_trLess.calls k2 _ _ (rd_L1 l1 (ji32)) _ _ (rd_L1 l1 x22_2) false _ ?side1 ?side2 ?side3 ?side4 A35.out).mono ?_
                      (case side1 => repeat (first | exact (Kd.C_below HR168_0.out (by repeat (first | (with_reducible first | exact HB.out | apply below_alloc | apply pw_below_drewN | apply below_drew1) | exact HB.out))) | (with_reducible refine Kd.C_alloc ?_ _) | (with_reducible refine Kd.C_drewN ?_ _) | (with_reducible refine Kd.C_drew ?_)))
                      (case side2 => exact HC168_0.out)
                      (case side3 => repeat (first | exact (Kd.C_below HR154_0.out (by repeat (first | (with_reducible first | exact HB.out | apply below_alloc | apply pw_below_drewN | apply below_drew1) | exact HB.out))) | (with_reducible refine Kd.C_alloc ?_ _) | (with_reducible refine Kd.C_drewN ?_ _) | (with_reducible refine Kd.C_drew ?_)))
                      (case side4 => exact HC154_0.out)
                      rintro e w' ⟨rfl, ⟨nd, rfl⟩⟩
                      refine ⟨_, rfl, ?_⟩
                      refine hK.out _ _ ⟨((HB.out.cell (World.block_lt_of_cell? w _ hw156_0)).trans hw156_0), ((HB.out.cell (World.block_lt_of_cell? w _ hw157_0)).trans hw157_0), ((HB.out.cell (World.block_lt_of_cell? w _ hw158_0)).trans hw158_0), ((HB.out.cell (World.block_lt_of_cell? w _ hw159_0)).trans hw159_0), ((HB.out.cell (World.block_lt_of_cell? w _ hw160_0)).trans hw160_0), ((HB.out.cell (World.block_lt_of_cell? w _ hw161_0)).trans hw161_0), ((HB.out.cell (World.block_lt_of_cell? w _ hw162_0)).trans hw162_0), ((HB.out.cell (World.block_lt_of_cell? w _ hw165_0)).trans hw165_0), ((HB.out.cell (World.block_lt_of_cell? w _ hw166_0)).trans hw166_0), ((HB.out.cell (World.block_lt_of_cell? w _ hw167_0)).trans hw167_0), ((HB.out.cell (World.block_lt_of_cell? w _ hw168_0)).trans hw168_0)⟩ (fun hHeld => ?_)
                      clear hK K
                      refine norm_ (a' := ?_) ?_ ?_
                      rotate_left
                      ·show Act.put _ (some 93) _ = _
                       simp only [Act.put, List.setIfInBounds_toArray, List.set_cons_zero, List.set_cons_succ, i64_w, i32_w]
                       rfl
                      refine pureV 67 94 70 295147905179352825855 HT_ ?_
                      refine pureV 68 95 70 590295810358705651711 HT_ ?_
                      refine pureV 69 96 70 1180591620717411303423 HT_ ?_
                      refine done_ (done_of HT_.out (by kernel_rfl)) ?_
                      try go_wp2
                      go_ret
                      exact ⟨by first | rfl | (simp [errW_none, errW_some] <;> rfl) | (simp only [← hji32]; first | rfl | (simp [errW_none, errW_some] <;> rfl)) | (simp [*, errW_none, errW_some] <;> rfl), by repeat (first | (with_reducible first | exact HB.out | apply below_alloc | apply pw_below_drewN | apply below_drew1) | exact HB.out)⟩
                    ·rw [if_neg c34] at H
                     exact absurd H (by simp)
                   ·rw [if_neg c33] at H
                    exact absurd H (by simp)
                  ·rw [if_neg c31] at H
                   have c31b0 : decide (0 < x22_2) = false := decide_eq_false c31
                   clear c31
                   have H' := Aside0.mk H
                   clear H
                   have p154 : 0 ≤ (x22_2 : Int) := of_decide_eq_true (by first | (with_reducible assumption) | assumption)
                   have q154 : x22_2 < (l1.length : Int) := of_decide_eq_true (by first | (with_reducible assumption) | assumption)
                   obtain ⟨ad154, A154_0, c154_0, e154, hx154_0, hl154_0, hi154_0⟩ := at_L1 HR1.out x22_2 p154 q154
                   cases e154
                   replace hx154_0 := (HB.out.cell (World.block_lt_of_cell? w _ hx154_0)).trans hx154_0
                   have HR154_0 := Aside0.mk hi154_0
                   have HC154_0 := Aside0.mk hl154_0
                   clear hi154_0 hl154_0
                   replace p154 := eq_true p154
                   replace q154 := eq_true q154
                   try go_wp2
                   have n0_ := Aside0.mk (below_drew1 HB.out)
                   clear HB
                   have HB := n0_
                   clear n0_
                   have p156 : 0 ≤ (0 : Int) := (by omega)
                   have q156 : 0 < ((rd_L1 l1 x22_2).length : Int) := of_decide_eq_true (by first | (with_reducible assumption) | assumption)
                   obtain ⟨ad156, e156, hx156_0⟩ := Kd.at_int HR154_0.out 0 p156 q156
                   have hw156_0 := hx156_0
                   (try rw [show ((0 : Int)).toNat = 0 from rfl] at hw156_0)
                   (try rw [show 0 * 1 = 0 from rfl] at hw156_0)
                   (try rw [Addr.add_zero'] at hw156_0)
                   cases e156
                   have qi156 : (0 < (rd_L1 l1 x22_2).length) = True := eq_true (by omega)
                   (try rw [show ((0 : Int)).toNat = 0 from rfl] at hx156_0)
                   (try rw [Addr.add_zero'] at hx156_0)
                   replace hx156_0 := (HB.out.cell (World.block_lt_of_cell? w _ hx156_0)).trans hx156_0
                   replace p156 := eq_true p156
                   replace q156 := eq_true q156
                   have p157 : 0 ≤ (1 : Int) := (by omega)
                   have q157 : 1 < ((rd_L1 l1 x22_2).length : Int) := of_decide_eq_true (by first | (with_reducible assumption) | assumption)
                   obtain ⟨ad157, e157, hx157_0⟩ := Kd.at_int HR154_0.out 1 p157 q157
                   have hw157_0 := hx157_0
                   (try rw [show ((1 : Int)).toNat = 1 from rfl] at hw157_0)
                   (try rw [show 1 * 1 = 1 from rfl] at hw157_0)
                   (try simp only [Nat.reduceMul, Nat.reduceEqDiff, Go.Addr.add, ↓reduceIte] at hw157_0)
                   obtain rfl : ad156 = ad157 := (by injection e157)
                   (try simp only [show (1 : Int).toNat = 1 from rfl, Nat.reduceMul, Nat.reduceEqDiff, Go.Addr.add, ↓reduceIte] at hx157_0)
                   have qi157 : (1 < (rd_L1 l1 x22_2).length) = True := eq_true (by omega)
                   (try rw [show ((1 : Int)).toNat = 1 from rfl] at hx157_0)
                   replace hx157_0 := (HB.out.cell (World.block_lt_of_cell? w _ hx157_0)).trans hx157_0
                   replace p157 := eq_true p157
                   replace q157 := eq_true q157
                   have p158 : 0 ≤ (1 : Int) := (by omega)
                   have q158 : 1 < ((rd_L1 l1 x22_2).length : Int) := of_decide_eq_true (by first | (with_reducible assumption) | assumption)
                   obtain ⟨ad158, e158, hx158_0⟩ := Kd.at_int HR154_0.out 1 p158 q158
                   have hw158_0 := hx158_0
                   (try rw [show ((1 : Int)).toNat = 1 from rfl] at hw158_0)
                   (try rw [show 1 * 1 = 1 from rfl] at hw158_0)
                   (try simp only [Nat.reduceMul, Nat.reduceEqDiff, Go.Addr.add, ↓reduceIte] at hw158_0)
                   obtain rfl : ad156 = ad158 := (by injection e158)
                   (try simp only [show (1 : Int).toNat = 1 from rfl, Nat.reduceMul, Nat.reduceEqDiff, Go.Addr.add, ↓reduceIte] at hx158_0)
                   have qi158 : (1 < (rd_L1 l1 x22_2).length) = True := eq_true (by omega)
                   (try rw [show ((1 : Int)).toNat = 1 from rfl] at hx158_0)
                   replace hx158_0 := (HB.out.cell (World.block_lt_of_cell? w _ hx158_0)).trans hx158_0
                   replace p158 := eq_true p158
                   replace q158 := eq_true q158
                   have p159 : 0 ≤ (2 : Int) := (by omega)
                   have q159 : 2 < ((rd_L1 l1 x22_2).length : Int) := of_decide_eq_true (by first | (with_reducible assumption) | assumption)
                   obtain ⟨ad159, e159, hx159_0⟩ := Kd.at_int HR154_0.out 2 p159 q159
                   have hw159_0 := hx159_0
                   (try rw [show ((2 : Int)).toNat = 2 from rfl] at hw159_0)
                   (try rw [show 2 * 1 = 2 from rfl] at hw159_0)
                   (try simp only [Nat.reduceMul, Nat.reduceEqDiff, Go.Addr.add, ↓reduceIte] at hw159_0)
                   obtain rfl : ad156 = ad159 := (by injection e159)
                   (try simp only [show (2 : Int).toNat = 2 from rfl, Nat.reduceMul, Nat.reduceEqDiff, Go.Addr.add, ↓reduceIte] at hx159_0)
                   have qi159 : (2 < (rd_L1 l1 x22_2).length) = True := eq_true (by omega)
                   (try rw [show ((2 : Int)).toNat = 2 from rfl] at hx159_0)
                   replace hx159_0 := (HB.out.cell (World.block_lt_of_cell? w _ hx159_0)).trans hx159_0
                   replace p159 := eq_true p159
                   replace q159 := eq_true q159
                   have p160 : 0 ≤ (0 : Int) := (by omega)
                   have q160 : 0 < ((rd_L1 l1 x22_2).length : Int) := of_decide_eq_true (by first | (with_reducible assumption) | assumption)
                   obtain ⟨ad160, e160, hx160_0⟩ := Kd.at_int HR154_0.out 0 p160 q160
                   have hw160_0 := hx160_0
                   (try rw [show ((0 : Int)).toNat = 0 from rfl] at hw160_0)
                   (try rw [show 0 * 1 = 0 from rfl] at hw160_0)
                   (try rw [Addr.add_zero'] at hw160_0)
                   obtain rfl : ad156 = ad160 := (by injection e160)
                   have qi160 : (0 < (rd_L1 l1 x22_2).length) = True := eq_true (by omega)
                   (try rw [show ((0 : Int)).toNat = 0 from rfl] at hx160_0)
                   (try rw [Addr.add_zero'] at hx160_0)
                   replace hx160_0 := (HB.out.cell (World.block_lt_of_cell? w _ hx160_0)).trans hx160_0
                   replace p160 := eq_true p160
                   replace q160 := eq_true q160
                   have p161 : 0 ≤ (1 : Int) := (by omega)
                   have q161 : 1 < ((rd_L1 l1 x22_2).length : Int) := of_decide_eq_true (by first | (with_reducible assumption) | assumption)
                   obtain ⟨ad161, e161, hx161_0⟩ := Kd.at_int HR154_0.out 1 p161 q161
                   have hw161_0 := hx161_0
                   (try rw [show ((1 : Int)).toNat = 1 from rfl] at hw161_0)
                   (try rw [show 1 * 1 = 1 from rfl] at hw161_0)
                   (try simp only [Nat.reduceMul, Nat.reduceEqDiff, Go.Addr.add, ↓reduceIte] at hw161_0)
                   obtain rfl : ad156 = ad161 := (by injection e161)
                   (try simp only [show (1 : Int).toNat = 1 from rfl, Nat.reduceMul, Nat.reduceEqDiff, Go.Addr.add, ↓reduceIte] at hx161_0)
                   have qi161 : (1 < (rd_L1 l1 x22_2).length) = True := eq_true (by omega)
                   (try rw [show ((1 : Int)).toNat = 1 from rfl] at hx161_0)
                   replace hx161_0 := (HB.out.cell (World.block_lt_of_cell? w _ hx161_0)).trans hx161_0
                   replace p161 := eq_true p161
                   replace q161 := eq_true q161
                   have p162 : 0 ≤ (2 : Int) := (by omega)
                   have q162 : 2 < ((rd_L1 l1 x22_2).length : Int) := of_decide_eq_true (by first | (with_reducible assumption) | assumption)
                   obtain ⟨ad162, e162, hx162_0⟩ := Kd.at_int HR154_0.out 2 p162 q162
                   have hw162_0 := hx162_0
                   (try rw [show ((2 : Int)).toNat = 2 from rfl] at hw162_0)
                   (try rw [show 2 * 1 = 2 from rfl] at hw162_0)
                   (try simp only [Nat.reduceMul, Nat.reduceEqDiff, Go.Addr.add, ↓reduceIte] at hw162_0)
                   obtain rfl : ad156 = ad162 := (by injection e162)
                   (try simp only [show (2 : Int).toNat = 2 from rfl, Nat.reduceMul, Nat.reduceEqDiff, Go.Addr.add, ↓reduceIte] at hx162_0)
                   have qi162 : (2 < (rd_L1 l1 x22_2).length) = True := eq_true (by omega)
                   (try rw [show ((2 : Int)).toNat = 2 from rfl] at hx162_0)
                   replace hx162_0 := (HB.out.cell (World.block_lt_of_cell? w _ hx162_0)).trans hx162_0
                   replace p162 := eq_true p162
                   replace q162 := eq_true q162
                   have p165 : 0 ≤ (0 : Int) := (by omega)
                   have q165 : 0 < ((rd_L1 l1 x22_2).length : Int) := of_decide_eq_true (by first | (with_reducible assumption) | assumption)
                   obtain ⟨ad165, e165, hx165_0⟩ := Kd.at_int HR154_0.out 0 p165 q165
                   have hw165_0 := hx165_0
                   (try rw [show ((0 : Int)).toNat = 0 from rfl] at hw165_0)
                   (try rw [show 0 * 1 = 0 from rfl] at hw165_0)
                   (try rw [Addr.add_zero'] at hw165_0)
                   obtain rfl : ad156 = ad165 := (by injection e165)
                   have qi165 : (0 < (rd_L1 l1 x22_2).length) = True := eq_true (by omega)
                   (try rw [show ((0 : Int)).toNat = 0 from rfl] at hx165_0)
                   (try rw [Addr.add_zero'] at hx165_0)
                   replace hx165_0 := (HB.out.cell (World.block_lt_of_cell? w _ hx165_0)).trans hx165_0
                   replace p165 := eq_true p165
                   replace q165 := eq_true q165
                   have p166 : 0 ≤ (1 : Int) := (by omega)
                   have q166 : 1 < ((rd_L1 l1 x22_2).length : Int) := of_decide_eq_true (by first | (with_reducible assumption) | assumption)
                   obtain ⟨ad166, e166, hx166_0⟩ := Kd.at_int HR154_0.out 1 p166 q166
                   have hw166_0 := hx166_0
                   (try rw [show ((1 : Int)).toNat = 1 from rfl] at hw166_0)
                   (try rw [show 1 * 1 = 1 from rfl] at hw166_0)
                   (try simp only [Nat.reduceMul, Nat.reduceEqDiff, Go.Addr.add, ↓reduceIte] at hw166_0)
                   obtain rfl : ad156 = ad166 := (by injection e166)
                   (try simp only [show (1 : Int).toNat = 1 from rfl, Nat.reduceMul, Nat.reduceEqDiff, Go.Addr.add, ↓reduceIte] at hx166_0)
                   have qi166 : (1 < (rd_L1 l1 x22_2).length) = True := eq_true (by omega)
                   (try rw [show ((1 : Int)).toNat = 1 from rfl] at hx166_0)
                   replace hx166_0 := (HB.out.cell (World.block_lt_of_cell? w _ hx166_0)).trans hx166_0
                   replace p166 := eq_true p166
                   replace q166 := eq_true q166
                   have p167 : 0 ≤ (2 : Int) := (by omega)
                   have q167 : 2 < ((rd_L1 l1 x22_2).length : Int) := of_decide_eq_true (by first | (with_reducible assumption) | assumption)
                   obtain ⟨ad167, e167, hx167_0⟩ := Kd.at_int HR154_0.out 2 p167 q167
                   have hw167_0 := hx167_0
                   (try rw [show ((2 : Int)).toNat = 2 from rfl] at hw167_0)
                   (try rw [show 2 * 1 = 2 from rfl] at hw167_0)
                   (try simp only [Nat.reduceMul, Nat.reduceEqDiff, Go.Addr.add, ↓reduceIte] at hw167_0)
                   obtain rfl : ad156 = ad167 := (by injection e167)
                   (try simp only [show (2 : Int).toNat = 2 from rfl, Nat.reduceMul, Nat.reduceEqDiff, Go.Addr.add, ↓reduceIte] at hx167_0)
                   have qi167 : (2 < (rd_L1 l1 x22_2).length) = True := eq_true (by omega)
                   (try rw [show ((2 : Int)).toNat = 2 from rfl] at hx167_0)
                   replace hx167_0 := (HB.out.cell (World.block_lt_of_cell? w _ hx167_0)).trans hx167_0
                   replace p167 := eq_true p167
                   replace q167 := eq_true q167
                   refine start_ (n := 70) (S := fun w' => w'.cell? ad156 = some (.int .i64 (rd (rd_L1 l1 x22_2) 0)) ∧ w'.cell? ⟨ad156.block, ad156.off + 1, none⟩ = some (.int .i64 (rd (rd_L1 l1 x22_2) 1)) ∧ w'.cell? ⟨ad156.block, ad156.off + 1, none⟩ = some (.int .i64 (rd (rd_L1 l1 x22_2) 1)) ∧ w'.cell? ⟨ad156.block, ad156.off + 2, none⟩ = some (.int .i64 (rd (rd_L1 l1 x22_2) 2)) ∧ w'.cell? ad156 = some (.int .i64 (rd (rd_L1 l1 x22_2) 0)) ∧ w'.cell? ⟨ad156.block, ad156.off + 1, none⟩ = some (.int .i64 (rd (rd_L1 l1 x22_2) 1)) ∧ w'.cell? ⟨ad156.block, ad156.off + 2, none⟩ = some (.int .i64 (rd (rd_L1 l1 x22_2) 2)) ∧ w'.cell? ad156 = some (.int .i64 (rd (rd_L1 l1 x22_2) 0)) ∧ w'.cell? ⟨ad156.block, ad156.off + 1, none⟩ = some (.int .i64 (rd (rd_L1 l1 x22_2) 1)) ∧ w'.cell? ⟨ad156.block, ad156.off + 2, none⟩ = some (.int .i64 (rd (rd_L1 l1 x22_2) 2))) (ds := []) (mb 70 0) (by kernel_rfl) rfl rfl ⟨((HB.out.cell (World.block_lt_of_cell? w _ hw156_0)).trans hw156_0), ((HB.out.cell (World.block_lt_of_cell? w _ hw157_0)).trans hw157_0), ((HB.out.cell (World.block_lt_of_cell? w _ hw158_0)).trans hw158_0), ((HB.out.cell (World.block_lt_of_cell? w _ hw159_0)).trans hw159_0), ((HB.out.cell (World.block_lt_of_cell? w _ hw160_0)).trans hw160_0), ((HB.out.cell (World.block_lt_of_cell? w _ hw161_0)).trans hw161_0), ((HB.out.cell (World.block_lt_of_cell? w _ hw162_0)).trans hw162_0), ((HB.out.cell (World.block_lt_of_cell? w _ hw165_0)).trans hw165_0), ((HB.out.cell (World.block_lt_of_cell? w _ hw166_0)).trans hw166_0), ((HB.out.cell (World.block_lt_of_cell? w _ hw167_0)).trans hw167_0)⟩ (fun hHeld => ?_); refine with_tabW spec_trDifferences.tab7 spec_trDifferences.bits7 (fun HT_ HW_ => ?_)
                   generalize wr.drew = w39 at HB hx156_0 hx157_0 hx158_0 hx159_0 hx160_0 hx161_0 hx162_0 hx165_0 hx166_0 hx167_0 hHeld ⊢
                   refine pureV 0 27 70 1 HT_ ?_
                   refine pureV 1 28 70 3 HT_ ?_
                   refine pureV 2 29 70 7 HT_ ?_
                   refine pureV 3 30 70 15 HT_ ?_
                   refine pureV 4 31 70 31 HT_ ?_
                   refine pureV 5 32 70 63 HT_ ?_
                   refine pureV 6 33 70 127 HT_ ?_
                   refine one_ (i := 7) (N := some 34) (mb 70 255) rfl rfl (one_of HT_.out (by kernel_rfl)) (by decide) (fun K hK => ?_)
                   refine goes_ Try.func104 (by kernel_rfl) rfl #[.slice (some ad156) (rd_L1 l1 x22_2).length c154_0, .int .i64 1, .int .i64 (wrap64 (3 * (l1.length : Int)))] (by rfl) rfl rfl (by (try simp only [List.map_toArray, List.map_cons, List.map_nil]); first | done | rfl | (simp only [List.length_drop, List.length_take]; rfl)) ?_
                   with_reducible refine (spec_l1All.calls k2 _ _ (rd_L1 l1 x22_2) 1 (wrap64 (3 * (l1.length : Int))) true _ ?side1 ?side2 A11.out).mono ?_
                   (case side1 => repeat (first | exact (Kd.C_below HR154_0.out HB.out) | (with_reducible refine Kd.C_alloc ?_ _) | (with_reducible refine Kd.C_drewN ?_ _) | (with_reducible refine Kd.C_drew ?_)))
                   (case side2 => exact HC154_0.out)
                   rintro e w' ⟨rfl, ⟨nd, rfl⟩⟩
                   refine ⟨_, rfl, ?_⟩
                   refine hK.out _ _ ⟨((HB.out.cell (World.block_lt_of_cell? w _ hw156_0)).trans hw156_0), ((HB.out.cell (World.block_lt_of_cell? w _ hw157_0)).trans hw157_0), ((HB.out.cell (World.block_lt_of_cell? w _ hw158_0)).trans hw158_0), ((HB.out.cell (World.block_lt_of_cell? w _ hw159_0)).trans hw159_0), ((HB.out.cell (World.block_lt_of_cell? w _ hw160_0)).trans hw160_0), ((HB.out.cell (World.block_lt_of_cell? w _ hw161_0)).trans hw161_0), ((HB.out.cell (World.block_lt_of_cell? w _ hw162_0)).trans hw162_0), ((HB.out.cell (World.block_lt_of_cell? w _ hw165_0)).trans hw165_0), ((HB.out.cell (World.block_lt_of_cell? w _ hw166_0)).trans hw166_0), ((HB.out.cell (World.block_lt_of_cell? w _ hw167_0)).trans hw167_0)⟩ (fun hHeld => ?_)
                   clear hK K
                   refine norm_ (a' := ?_) ?_ ?_
                   rotate_left
                   ·show Act.put _ (some 34) _ = _
                    simp only [Act.put, List.setIfInBounds_toArray, List.set_cons_zero, List.set_cons_succ, i64_w, i32_w]
                    rfl
                   refine pureV 8 35 70 511 HT_ ?_
                   refine pureV 9 36 70 1023 HT_ ?_
                   refine pureV 10 37 70 2047 HT_ ?_
                   refine pureV 11 38 70 4095 HT_ ?_
                   refine pureV 12 39 70 8191 HT_ ?_
                   refine pureV 14 41 70 24575 HT_ ?_
                   refine pureV 15 42 70 57343 HT_ ?_
                   refine takeV 13 40 70 65535 HT_ HW_ hHeld rfl (by rintro w' ⟨s0, s1, s2, s3, s4, s5, s6, s7, s8, s9⟩; go_simp; with_reducible rfl) ?_
                   refine takeV 16 43 70 131071 HT_ HW_ hHeld rfl (by rintro w' ⟨s0, s1, s2, s3, s4, s5, s6, s7, s8, s9⟩; go_simp; with_reducible rfl) ?_
                   refine pureV 17 44 70 262143 HT_ ?_
                   refine pureV 18 45 70 524287 HT_ ?_
                   refine pureV 19 46 70 1048575 HT_ ?_
                   refine pureV 20 47 70 2097151 HT_ ?_
                   refine pureV 21 48 70 4194303 HT_ ?_
                   refine pureV 23 50 70 12582911 HT_ ?_
                   refine pureV 24 51 70 29360127 HT_ ?_
                   refine takeV 22 49 70 33554431 HT_ HW_ hHeld rfl (by rintro w' ⟨s0, s1, s2, s3, s4, s5, s6, s7, s8, s9⟩; go_simp; with_reducible rfl) ?_
                   refine takeV 25 52 70 67108863 HT_ HW_ hHeld rfl (by rintro w' ⟨s0, s1, s2, s3, s4, s5, s6, s7, s8, s9⟩; go_simp; with_reducible rfl) ?_
                   refine pureV 26 53 70 134217727 HT_ ?_
                   refine pureV 27 54 70 268435455 HT_ ?_
                   refine pureV 28 55 70 536870911 HT_ ?_
                   refine pureV 29 56 70 1073741823 HT_ ?_
                   refine pureV 30 57 70 2147483647 HT_ ?_
                   refine pureV 32 59 70 6442450943 HT_ ?_
                   refine pureV 33 60 70 15032385535 HT_ ?_
                   refine pureV 36 63 70 83751862271 HT_ ?_
                   refine pureV 37 64 70 221190815743 HT_ ?_
                   refine takeV 31 58 70 223338299391 HT_ HW_ hHeld rfl (by rintro w' ⟨s0, s1, s2, s3, s4, s5, s6, s7, s8, s9⟩; go_simp; with_reducible rfl) ?_
                   refine takeV 34 61 70 240518168575 HT_ HW_ hHeld rfl (by rintro w' ⟨s0, s1, s2, s3, s4, s5, s6, s7, s8, s9⟩; go_simp; with_reducible rfl) ?_
                   refine pureV 35 62 70 274877906943 HT_ ?_
                   refine takeV 38 65 70 549755813887 HT_ HW_ hHeld rfl (by rintro w' ⟨s0, s1, s2, s3, s4, s5, s6, s7, s8, s9⟩; go_simp; with_reducible rfl) ?_
                   refine pureV 39 66 70 1099511627775 HT_ ?_
                   refine pureV 40 67 70 2199023255551 HT_ ?_
                   refine pureV 41 68 70 4398046511103 HT_ ?_
                   refine pureV 42 69 70 8796093022207 HT_ ?_
                   refine pureV 44 71 70 26388279066623 HT_ ?_
                   refine pureV 45 72 70 61572651155455 HT_ ?_
                   refine pureV 48 75 70 343047627866111 HT_ ?_
                   refine pureV 49 76 70 905997581287423 HT_ ?_
                   refine pureV 52 79 70 5409597208657919 HT_ ?_
                   refine takeV 43 70 70 5418393301680127 HT_ HW_ hHeld rfl (by rintro w' ⟨s0, s1, s2, s3, s4, s5, s6, s7, s8, s9⟩; go_simp; with_reducible rfl) ?_
                   refine takeV 46 73 70 5488762045857791 HT_ HW_ hHeld rfl (by rintro w' ⟨s0, s1, s2, s3, s4, s5, s6, s7, s8, s9⟩; go_simp; with_reducible rfl) ?_
                   refine pureV 47 74 70 5629499534213119 HT_ ?_
                   refine takeV 50 77 70 6755399441055743 HT_ HW_ hHeld rfl (by rintro w' ⟨s0, s1, s2, s3, s4, s5, s6, s7, s8, s9⟩; go_simp; with_reducible rfl) ?_
                   refine pureV 51 78 70 9007199254740991 HT_ ?_
                   refine pureV 53 80 70 18014398509481983 HT_ ?_
                   refine pureV 54 81 70 36028797018963967 HT_ ?_
                   refine pureV 55 82 70 72057594037927935 HT_ ?_
                   refine pureV 56 83 70 144115188075855871 HT_ ?_
                   refine pureV 57 84 70 288230376151711743 HT_ ?_
                   refine pureV 58 85 70 576460752303423487 HT_ ?_
                   refine pureV 59 86 70 1152921504606846975 HT_ ?_
                   refine pureU 60 87 70 2305843009213693951 HT_ ?_
                   refine pureU 61 88 70 4611686018427387903 HT_ ?_
                   refine pureU 62 89 70 9223372036854775807 HT_ ?_
                   refine pureU 63 90 70 18446744073709551615 HT_ ?_
                   refine pureU 64 91 70 36893488147419103231 HT_ ?_
                   refine pureU 65 92 70 73786976294838206463 HT_ ?_
                   refine pureU 66 93 70 147573952589676412927 HT_ ?_
                   refine pureU 67 94 70 295147905179352825855 HT_ ?_
                   refine pureV 68 95 70 590295810358705651711 HT_ ?_
                   refine pureV 69 96 70 1180591620717411303423 HT_ ?_
                   refine done_ (done_of HT_.out (by kernel_rfl)) ?_
                   try go_wp2
                   go_roundg k2
                   case measure => have := HJ2.out; have := HK2.out; omega
                   case rel => exact ⟨(wrap64 (x22_2 + 1)), (by first | rfl | (simp; done) | (simp [*]; done)), H', ⟨by have := HJ2.out; have := HK2.out; omega⟩, ⟨by repeat (first | (with_reducible first | exact HB.out | apply below_alloc | apply pw_below_drewN | apply below_drew1) | exact HB.out)⟩⟩
                 ·rw [if_neg c30] at H
                  have c30b0 : ((wrap64 ((wrap64 ((rd (rd_L1 l1 x22_2) 0) + (rd (rd_L1 l1 x22_2) 1))) + (rd (rd_L1 l1 x22_2) 2))) == a0) = false := beq_eq_false_iff_ne.mpr c30
                  have c30b1 : ((wrap64 ((wrap64 ((rd (rd_L1 l1 x22_2) 0) + (rd (rd_L1 l1 x22_2) 1))) + (rd (rd_L1 l1 x22_2) 2))) != a0) = true := bne_iff_ne.mpr c30
                  obtain rfl := Option.some.inj H
                  have p154 : 0 ≤ (x22_2 : Int) := of_decide_eq_true (by first | (with_reducible assumption) | assumption)
                  have q154 : x22_2 < (l1.length : Int) := of_decide_eq_true (by first | (with_reducible assumption) | assumption)
                  obtain ⟨ad154, A154_0, c154_0, e154, hx154_0, hl154_0, hi154_0⟩ := at_L1 HR1.out x22_2 p154 q154
                  cases e154
                  replace hx154_0 := (HB.out.cell (World.block_lt_of_cell? w _ hx154_0)).trans hx154_0
                  have HR154_0 := Aside0.mk hi154_0
                  have HC154_0 := Aside0.mk hl154_0
                  clear hi154_0 hl154_0
                  replace p154 := eq_true p154
                  replace q154 := eq_true q154
                  try go_wp2
                  have n0_ := Aside0.mk (below_drew1 HB.out)
                  clear HB
                  have HB := n0_
                  clear n0_
                  have p156 : 0 ≤ (0 : Int) := (by omega)
                  have q156 : 0 < ((rd_L1 l1 x22_2).length : Int) := of_decide_eq_true (by first | (with_reducible assumption) | assumption)
                  obtain ⟨ad156, e156, hx156_0⟩ := Kd.at_int HR154_0.out 0 p156 q156
                  have hw156_0 := hx156_0
                  (try rw [show ((0 : Int)).toNat = 0 from rfl] at hw156_0)
                  (try rw [show 0 * 1 = 0 from rfl] at hw156_0)
                  (try rw [Addr.add_zero'] at hw156_0)
                  cases e156
                  have qi156 : (0 < (rd_L1 l1 x22_2).length) = True := eq_true (by omega)
                  (try rw [show ((0 : Int)).toNat = 0 from rfl] at hx156_0)
                  (try rw [Addr.add_zero'] at hx156_0)
                  replace hx156_0 := (HB.out.cell (World.block_lt_of_cell? w _ hx156_0)).trans hx156_0
                  replace p156 := eq_true p156
                  replace q156 := eq_true q156
                  have p157 : 0 ≤ (1 : Int) := (by omega)
                  have q157 : 1 < ((rd_L1 l1 x22_2).length : Int) := of_decide_eq_true (by first | (with_reducible assumption) | assumption)
                  obtain ⟨ad157, e157, hx157_0⟩ := Kd.at_int HR154_0.out 1 p157 q157
                  have hw157_0 := hx157_0
                  (try rw [show ((1 : Int)).toNat = 1 from rfl] at hw157_0)
                  (try rw [show 1 * 1 = 1 from rfl] at hw157_0)
                  (try simp only [Nat.reduceMul, Nat.reduceEqDiff, Go.Addr.add, ↓reduceIte] at hw157_0)
                  obtain rfl : ad156 = ad157 := (by injection e157)
                  (try simp only [show (1 : Int).toNat = 1 from rfl, Nat.reduceMul, Nat.reduceEqDiff, Go.Addr.add, ↓reduceIte] at hx157_0)
                  have qi157 : (1 < (rd_L1 l1 x22_2).length) = True := eq_true (by omega)
                  (try rw [show ((1 : Int)).toNat = 1 from rfl] at hx157_0)
                  replace hx157_0 := (HB.out.cell (World.block_lt_of_cell? w _ hx157_0)).trans hx157_0
                  replace p157 := eq_true p157
                  replace q157 := eq_true q157
                  have p158 : 0 ≤ (1 : Int) := (by omega)
                  have q158 : 1 < ((rd_L1 l1 x22_2).length : Int) := of_decide_eq_true (by first | (with_reducible assumption) | assumption)
                  obtain ⟨ad158, e158, hx158_0⟩ := Kd.at_int HR154_0.out 1 p158 q158
                  have hw158_0 := hx158_0
                  (try rw [show ((1 : Int)).toNat = 1 from rfl] at hw158_0)
                  (try rw [show 1 * 1 = 1 from rfl] at hw158_0)
                  (try simp only [Nat.reduceMul, Nat.reduceEqDiff, Go.Addr.add, ↓reduceIte] at hw158_0)
                  obtain rfl : ad156 = ad158 := (by injection e158)
                  (try simp only [show (1 : Int).toNat = 1 from rfl, Nat.reduceMul, Nat.reduceEqDiff, Go.Addr.add, ↓reduceIte] at hx158_0)
                  have qi158 : (1 < (rd_L1 l1 x22_2).length) = True := eq_true (by omega)
                  (try rw [show ((1 : Int)).toNat = 1 from rfl] at hx158_0)
                  replace hx158_0 := (HB.out.cell (World.block_lt_of_cell? w _ hx158_0)).trans hx158_0
                  replace p158 := eq_true p158
                  replace q158 := eq_true q158
                  have p159 : 0 ≤ (2 : Int) := (by omega)
                  have q159 : 2 < ((rd_L1 l1 x22_2).length : Int) := of_decide_eq_true (by first | (with_reducible assumption) | assumption)
                  obtain ⟨ad159, e159, hx159_0⟩ := Kd.at_int HR154_0.out 2 p159 q159
                  have hw159_0 := hx159_0
                  (try rw [show ((2 : Int)).toNat = 2 from rfl] at hw159_0)
                  (try rw [show 2 * 1 = 2 from rfl] at hw159_0)
                  (try simp only [Nat.reduceMul, Nat.reduceEqDiff, Go.Addr.add, ↓reduceIte] at hw159_0)
                  obtain rfl : ad156 = ad159 := (by injection e159)
                  (try simp only [show (2 : Int).toNat = 2 from rfl, Nat.reduceMul, Nat.reduceEqDiff, Go.Addr.add, ↓reduceIte] at hx159_0)
                  have qi159 : (2 < (rd_L1 l1 x22_2).length) = True := eq_true (by omega)
                  (try rw [show ((2 : Int)).toNat = 2 from rfl] at hx159_0)
                  replace hx159_0 := (HB.out.cell (World.block_lt_of_cell? w _ hx159_0)).trans hx159_0
                  replace p159 := eq_true p159
                  replace q159 := eq_true q159
                  have p160 : 0 ≤ (0 : Int) := (by omega)
                  have q160 : 0 < ((rd_L1 l1 x22_2).length : Int) := of_decide_eq_true (by first | (with_reducible assumption) | assumption)
                  obtain ⟨ad160, e160, hx160_0⟩ := Kd.at_int HR154_0.out 0 p160 q160
                  have hw160_0 := hx160_0
                  (try rw [show ((0 : Int)).toNat = 0 from rfl] at hw160_0)
                  (try rw [show 0 * 1 = 0 from rfl] at hw160_0)
                  (try rw [Addr.add_zero'] at hw160_0)
                  obtain rfl : ad156 = ad160 := (by injection e160)
                  have qi160 : (0 < (rd_L1 l1 x22_2).length) = True := eq_true (by omega)
                  (try rw [show ((0 : Int)).toNat = 0 from rfl] at hx160_0)
                  (try rw [Addr.add_zero'] at hx160_0)
                  replace hx160_0 := (HB.out.cell (World.block_lt_of_cell? w _ hx160_0)).trans hx160_0
                  replace p160 := eq_true p160
                  replace q160 := eq_true q160
                  have p161 : 0 ≤ (1 : Int) := (by omega)
                  have q161 : 1 < ((rd_L1 l1 x22_2).length : Int) := of_decide_eq_true (by first | (with_reducible assumption) | assumption)
                  obtain ⟨ad161, e161, hx161_0⟩ := Kd.at_int HR154_0.out 1 p161 q161
                  have hw161_0 := hx161_0
                  (try rw [show ((1 : Int)).toNat = 1 from rfl] at hw161_0)
                  (try rw [show 1 * 1 = 1 from rfl] at hw161_0)
                  (try simp only [Nat.reduceMul, Nat.reduceEqDiff, Go.Addr.add, ↓reduceIte] at hw161_0)
                  obtain rfl : ad156 = ad161 := (by injection e161)
                  (try simp only [show (1 : Int).toNat = 1 from rfl, Nat.reduceMul, Nat.reduceEqDiff, Go.Addr.add, ↓reduceIte] at hx161_0)
                  have qi161 : (1 < (rd_L1 l1 x22_2).length) = True := eq_true (by omega)
                  (try rw [show ((1 : Int)).toNat = 1 from rfl] at hx161_0)
                  replace hx161_0 := (HB.out.cell (World.block_lt_of_cell? w _ hx161_0)).trans hx161_0
                  replace p161 := eq_true p161
                  replace q161 := eq_true q161
                  have p162 : 0 ≤ (2 : Int) := (by omega)
                  have q162 : 2 < ((rd_L1 l1 x22_2).length : Int) := of_decide_eq_true (by first | (with_reducible assumption) | assumption)
                  obtain ⟨ad162, e162, hx162_0⟩ := Kd.at_int HR154_0.out 2 p162 q162
                  have hw162_0 := hx162_0
                  (try rw [show ((2 : Int)).toNat = 2 from rfl] at hw162_0)
                  (try rw [show 2 * 1 = 2 from rfl] at hw162_0)
                  (try simp only [Nat.reduceMul, Nat.reduceEqDiff, Go.Addr.add, ↓reduceIte] at hw162_0)
                  obtain rfl : ad156 = ad162 := (by injection e162)
                  (try simp only [show (2 : Int).toNat = 2 from rfl, Nat.reduceMul, Nat.reduceEqDiff, Go.Addr.add, ↓reduceIte] at hx162_0)
                  have qi162 : (2 < (rd_L1 l1 x22_2).length) = True := eq_true (by omega)
                  (try rw [show ((2 : Int)).toNat = 2 from rfl] at hx162_0)
                  replace hx162_0 := (HB.out.cell (World.block_lt_of_cell? w _ hx162_0)).trans hx162_0
                  replace p162 := eq_true p162
                  replace q162 := eq_true q162
                  have p165 : 0 ≤ (0 : Int) := (by omega)
                  have q165 : 0 < ((rd_L1 l1 x22_2).length : Int) := of_decide_eq_true (by first | (with_reducible assumption) | assumption)
                  obtain ⟨ad165, e165, hx165_0⟩ := Kd.at_int HR154_0.out 0 p165 q165
                  have hw165_0 := hx165_0
                  (try rw [show ((0 : Int)).toNat = 0 from rfl] at hw165_0)
                  (try rw [show 0 * 1 = 0 from rfl] at hw165_0)
                  (try rw [Addr.add_zero'] at hw165_0)
                  obtain rfl : ad156 = ad165 := (by injection e165)
                  have qi165 : (0 < (rd_L1 l1 x22_2).length) = True := eq_true (by omega)
                  (try rw [show ((0 : Int)).toNat = 0 from rfl] at hx165_0)
                  (try rw [Addr.add_zero'] at hx165_0)
                  replace hx165_0 := (HB.out.cell (World.block_lt_of_cell? w _ hx165_0)).trans hx165_0
                  replace p165 := eq_true p165
                  replace q165 := eq_true q165
                  have p166 : 0 ≤ (1 : Int) := (by omega)
                  have q166 : 1 < ((rd_L1 l1 x22_2).length : Int) := of_decide_eq_true (by first | (with_reducible assumption) | assumption)
                  obtain ⟨ad166, e166, hx166_0⟩ := Kd.at_int HR154_0.out 1 p166 q166
                  have hw166_0 := hx166_0
                  (try rw [show ((1 : Int)).toNat = 1 from rfl] at hw166_0)
                  (try rw [show 1 * 1 = 1 from rfl] at hw166_0)
                  (try simp only [Nat.reduceMul, Nat.reduceEqDiff, Go.Addr.add, ↓reduceIte] at hw166_0)
                  obtain rfl : ad156 = ad166 := (by injection e166)
                  (try simp only [show (1 : Int).toNat = 1 from rfl, Nat.reduceMul, Nat.reduceEqDiff, Go.Addr.add, ↓reduceIte] at hx166_0)
                  have qi166 : (1 < (rd_L1 l1 x22_2).length) = True := eq_true (by omega)
                  (try rw [show ((1 : Int)).toNat = 1 from rfl] at hx166_0)
                  replace hx166_0 := (HB.out.cell (World.block_lt_of_cell? w _ hx166_0)).trans hx166_0
                  replace p166 := eq_true p166
                  replace q166 := eq_true q166
                  have p167 : 0 ≤ (2 : Int) := (by omega)
                  have q167 : 2 < ((rd_L1 l1 x22_2).length : Int) := of_decide_eq_true (by first | (with_reducible assumption) | assumption)
                  obtain ⟨ad167, e167, hx167_0⟩ := Kd.at_int HR154_0.out 2 p167 q167
                  have hw167_0 := hx167_0
                  (try rw [show ((2 : Int)).toNat = 2 from rfl] at hw167_0)
                  (try rw [show 2 * 1 = 2 from rfl] at hw167_0)
                  (try simp only [Nat.reduceMul, Nat.reduceEqDiff, Go.Addr.add, ↓reduceIte] at hw167_0)
                  obtain rfl : ad156 = ad167 := (by injection e167)
                  (try simp only [show (2 : Int).toNat = 2 from rfl, Nat.reduceMul, Nat.reduceEqDiff, Go.Addr.add, ↓reduceIte] at hx167_0)
                  have qi167 : (2 < (rd_L1 l1 x22_2).length) = True := eq_true (by omega)
                  (try rw [show ((2 : Int)).toNat = 2 from rfl] at hx167_0)
                  replace hx167_0 := (HB.out.cell (World.block_lt_of_cell? w _ hx167_0)).trans hx167_0
                  replace p167 := eq_true p167
                  replace q167 := eq_true q167
                  refine start_ (n := 70) (S := fun w' => w'.cell? ad156 = some (.int .i64 (rd (rd_L1 l1 x22_2) 0)) ∧ w'.cell? ⟨ad156.block, ad156.off + 1, none⟩ = some (.int .i64 (rd (rd_L1 l1 x22_2) 1)) ∧ w'.cell? ⟨ad156.block, ad156.off + 1, none⟩ = some (.int .i64 (rd (rd_L1 l1 x22_2) 1)) ∧ w'.cell? ⟨ad156.block, ad156.off + 2, none⟩ = some (.int .i64 (rd (rd_L1 l1 x22_2) 2)) ∧ w'.cell? ad156 = some (.int .i64 (rd (rd_L1 l1 x22_2) 0)) ∧ w'.cell? ⟨ad156.block, ad156.off + 1, none⟩ = some (.int .i64 (rd (rd_L1 l1 x22_2) 1)) ∧ w'.cell? ⟨ad156.block, ad156.off + 2, none⟩ = some (.int .i64 (rd (rd_L1 l1 x22_2) 2)) ∧ w'.cell? ad156 = some (.int .i64 (rd (rd_L1 l1 x22_2) 0)) ∧ w'.cell? ⟨ad156.block, ad156.off + 1, none⟩ = some (.int .i64 (rd (rd_L1 l1 x22_2) 1)) ∧ w'.cell? ⟨ad156.block, ad156.off + 2, none⟩ = some (.int .i64 (rd (rd_L1 l1 x22_2) 2))) (ds := []) (mb 70 0) (by kernel_rfl) rfl rfl ⟨((HB.out.cell (World.block_lt_of_cell? w _ hw156_0)).trans hw156_0), ((HB.out.cell (World.block_lt_of_cell? w _ hw157_0)).trans hw157_0), ((HB.out.cell (World.block_lt_of_cell? w _ hw158_0)).trans hw158_0), ((HB.out.cell (World.block_lt_of_cell? w _ hw159_0)).trans hw159_0), ((HB.out.cell (World.block_lt_of_cell? w _ hw160_0)).trans hw160_0), ((HB.out.cell (World.block_lt_of_cell? w _ hw161_0)).trans hw161_0), ((HB.out.cell (World.block_lt_of_cell? w _ hw162_0)).trans hw162_0), ((HB.out.cell (World.block_lt_of_cell? w _ hw165_0)).trans hw165_0), ((HB.out.cell (World.block_lt_of_cell? w _ hw166_0)).trans hw166_0), ((HB.out.cell (World.block_lt_of_cell? w _ hw167_0)).trans hw167_0)⟩ (fun hHeld => ?_); refine with_tabW spec_trDifferences.tab7 spec_trDifferences.bits7 (fun HT_ HW_ => ?_)
                  generalize wr.drew = w40 at HB hx156_0 hx157_0 hx158_0 hx159_0 hx160_0 hx161_0 hx162_0 hx165_0 hx166_0 hx167_0 hHeld ⊢
                  refine pureV 0 27 70 1 HT_ ?_
                  refine pureV 1 28 70 3 HT_ ?_
                  refine pureV 2 29 70 7 HT_ ?_
                  refine pureV 3 30 70 15 HT_ ?_
                  refine pureV 4 31 70 31 HT_ ?_
                  refine pureV 5 32 70 63 HT_ ?_
                  refine pureV 6 33 70 127 HT_ ?_
                  refine one_ (i := 7) (N := some 34) (mb 70 255) rfl rfl (one_of HT_.out (by kernel_rfl)) (by decide) (fun K hK => ?_)
                  refine goes_ Try.func104 (by kernel_rfl) rfl #[.slice (some ad156) (rd_L1 l1 x22_2).length c154_0, .int .i64 1, .int .i64 (wrap64 (3 * (l1.length : Int)))] (by rfl) rfl rfl (by (try simp only [List.map_toArray, List.map_cons, List.map_nil]); first | done | rfl | (simp only [List.length_drop, List.length_take]; rfl)) ?_
                  with_reducible refine (spec_l1All.calls k2 _ _ (rd_L1 l1 x22_2) 1 (wrap64 (3 * (l1.length : Int))) true _ ?side1 ?side2 A11.out).mono ?_
                  (case side1 => repeat (first | exact (Kd.C_below HR154_0.out HB.out) | (with_reducible refine Kd.C_alloc ?_ _) | (with_reducible refine Kd.C_drewN ?_ _) | (with_reducible refine Kd.C_drew ?_)))
                  (case side2 => exact HC154_0.out)
                  rintro e w' ⟨rfl, ⟨nd, rfl⟩⟩
                  refine ⟨_, rfl, ?_⟩
                  refine hK.out _ _ ⟨((HB.out.cell (World.block_lt_of_cell? w _ hw156_0)).trans hw156_0), ((HB.out.cell (World.block_lt_of_cell? w _ hw157_0)).trans hw157_0), ((HB.out.cell (World.block_lt_of_cell? w _ hw158_0)).trans hw158_0), ((HB.out.cell (World.block_lt_of_cell? w _ hw159_0)).trans hw159_0), ((HB.out.cell (World.block_lt_of_cell? w _ hw160_0)).trans hw160_0), ((HB.out.cell (World.block_lt_of_cell? w _ hw161_0)).trans hw161_0), ((HB.out.cell (World.block_lt_of_cell? w _ hw162_0)).trans hw162_0), ((HB.out.cell (World.block_lt_of_cell? w _ hw165_0)).trans hw165_0), ((HB.out.cell (World.block_lt_of_cell? w _ hw166_0)).trans hw166_0), ((HB.out.cell (World.block_lt_of_cell? w _ hw167_0)).trans hw167_0)⟩ (fun hHeld => ?_)
                  clear hK K
                  refine norm_ (a' := ?_) ?_ ?_
                  rotate_left
                  ·show Act.put _ (some 34) _ = _
                   simp only [Act.put, List.setIfInBounds_toArray, List.set_cons_zero, List.set_cons_succ, i64_w, i32_w]
                   rfl
                  refine pureV 8 35 70 511 HT_ ?_
                  refine pureV 9 36 70 1023 HT_ ?_
                  refine pureV 10 37 70 2047 HT_ ?_
                  refine pureV 11 38 70 4095 HT_ ?_
                  refine pureV 12 39 70 8191 HT_ ?_
                  refine pureV 14 41 70 24575 HT_ ?_
                  refine pureV 15 42 70 57343 HT_ ?_
                  refine takeV 13 40 70 65535 HT_ HW_ hHeld rfl (by rintro w' ⟨s0, s1, s2, s3, s4, s5, s6, s7, s8, s9⟩; go_simp; with_reducible rfl) ?_
                  refine takeV 16 43 70 131071 HT_ HW_ hHeld rfl (by rintro w' ⟨s0, s1, s2, s3, s4, s5, s6, s7, s8, s9⟩; go_simp; with_reducible rfl) ?_
                  refine pureV 17 44 70 262143 HT_ ?_
                  refine pureV 18 45 70 524287 HT_ ?_
                  refine pureV 19 46 70 1048575 HT_ ?_
                  refine pureV 20 47 70 2097151 HT_ ?_
                  refine pureV 21 48 70 4194303 HT_ ?_
                  refine pureV 23 50 70 12582911 HT_ ?_
                  refine pureV 24 51 70 29360127 HT_ ?_
                  refine takeV 22 49 70 33554431 HT_ HW_ hHeld rfl (by rintro w' ⟨s0, s1, s2, s3, s4, s5, s6, s7, s8, s9⟩; go_simp; with_reducible rfl) ?_
                  refine takeV 25 52 70 67108863 HT_ HW_ hHeld rfl (by rintro w' ⟨s0, s1, s2, s3, s4, s5, s6, s7, s8, s9⟩; go_simp; with_reducible rfl) ?_
                  refine pureV 26 53 70 134217727 HT_ ?_
                  refine pureV 27 54 70 268435455 HT_ ?_
                  refine pureV 28 55 70 536870911 HT_ ?_
                  refine pureV 29 56 70 1073741823 HT_ ?_
                  refine pureV 30 57 70 2147483647 HT_ ?_
                  refine pureV 32 59 70 6442450943 HT_ ?_
                  refine pureV 33 60 70 15032385535 HT_ ?_
                  refine pureV 36 63 70 83751862271 HT_ ?_
                  refine pureV 37 64 70 221190815743 HT_ ?_
                  refine takeV 31 58 70 223338299391 HT_ HW_ hHeld rfl (by rintro w' ⟨s0, s1, s2, s3, s4, s5, s6, s7, s8, s9⟩; go_simp; with_reducible rfl) ?_
                  refine takeV 34 61 70 240518168575 HT_ HW_ hHeld rfl (by rintro w' ⟨s0, s1, s2, s3, s4, s5, s6, s7, s8, s9⟩; go_simp; with_reducible rfl) ?_
                  refine pureV 35 62 70 274877906943 HT_ ?_
                  refine takeV 38 65 70 549755813887 HT_ HW_ hHeld rfl (by rintro w' ⟨s0, s1, s2, s3, s4, s5, s6, s7, s8, s9⟩; go_simp; with_reducible rfl) ?_
                  refine pureV 39 66 70 1099511627775 HT_ ?_
                  refine pureV 40 67 70 2199023255551 HT_ ?_
                  refine pureV 41 68 70 4398046511103 HT_ ?_
                  refine pureV 42 69 70 8796093022207 HT_ ?_
                  refine pureV 44 71 70 26388279066623 HT_ ?_
                  refine pureV 45 72 70 61572651155455 HT_ ?_
                  refine pureV 48 75 70 343047627866111 HT_ ?_
                  refine pureV 49 76 70 905997581287423 HT_ ?_
                  refine pureV 52 79 70 5409597208657919 HT_ ?_
                  refine takeV 43 70 70 5418393301680127 HT_ HW_ hHeld rfl (by rintro w' ⟨s0, s1, s2, s3, s4, s5, s6, s7, s8, s9⟩; go_simp; with_reducible rfl) ?_
                  refine takeV 46 73 70 5488762045857791 HT_ HW_ hHeld rfl (by rintro w' ⟨s0, s1, s2, s3, s4, s5, s6, s7, s8, s9⟩; go_simp; with_reducible rfl) ?_
                  refine pureV 47 74 70 5629499534213119 HT_ ?_
                  refine takeV 50 77 70 6755399441055743 HT_ HW_ hHeld rfl (by rintro w' ⟨s0, s1, s2, s3, s4, s5, s6, s7, s8, s9⟩; go_simp; with_reducible rfl) ?_
                  refine pureV 51 78 70 9007199254740991 HT_ ?_
                  refine pureV 53 80 70 18014398509481983 HT_ ?_
                  refine pureV 54 81 70 36028797018963967 HT_ ?_
                  refine pureV 55 82 70 72057594037927935 HT_ ?_
                  refine pureV 56 83 70 144115188075855871 HT_ ?_
                  refine pureU 57 84 70 288230376151711743 HT_ ?_
                  refine pureU 58 85 70 576460752303423487 HT_ ?_
                  refine pureU 59 86 70 1152921504606846975 HT_ ?_
                  refine pureU 60 87 70 2305843009213693951 HT_ ?_
                  refine pureU 61 88 70 4611686018427387903 HT_ ?_
                  refine pureU 62 89 70 9223372036854775807 HT_ ?_
                  refine pureU 63 90 70 18446744073709551615 HT_ ?_
                  refine pureU 64 91 70 36893488147419103231 HT_ ?_
                  refine pureU 65 92 70 73786976294838206463 HT_ ?_
                  refine pureU 66 93 70 147573952589676412927 HT_ ?_
                  refine pureU 67 94 70 295147905179352825855 HT_ ?_
                  refine pureU 68 95 70 590295810358705651711 HT_ ?_
                  refine pureV 69 96 70 1180591620717411303423 HT_ ?_
                  refine done_ (done_of HT_.out (by kernel_rfl)) ?_
                  try go_wp2
                  go_ret
                  exact ⟨by first | rfl | (simp [errW_none, errW_some] <;> rfl) | (simp [*, errW_none, errW_some] <;> rfl), by repeat (first | (with_reducible first | exact HB.out | apply below_alloc | apply pw_below_drewN | apply below_drew1) | exact HB.out)⟩
              ·rw [if_neg c17] at H
               exact absurd H (by simp)
            ·rw [if_neg c14] at H
             exact absurd H (by simp)
           ·rw [if_neg c13] at H
            exact absurd H (by simp)
          ·replace c12 := Bool.eq_false_iff.mpr c12
           subst c12
           have H1 : (some false) = some r := by rw [if_neg (show ¬ (false = true) by decide)] at H; exact H
           clear H
           have H := H1
           clear H1
           obtain rfl := Option.some.inj H
           have p154 : 0 ≤ (x22_2 : Int) := of_decide_eq_true (by first | (with_reducible assumption) | assumption)
           have q154 : x22_2 < (l1.length : Int) := of_decide_eq_true (by first | (with_reducible assumption) | assumption)
           obtain ⟨ad154, A154_0, c154_0, e154, hx154_0, hl154_0, hi154_0⟩ := at_L1 HR1.out x22_2 p154 q154
           cases e154
           replace hx154_0 := (HB.out.cell (World.block_lt_of_cell? w _ hx154_0)).trans hx154_0
           have HR154_0 := Aside0.mk hi154_0
           have HC154_0 := Aside0.mk hl154_0
           clear hi154_0 hl154_0
           replace p154 := eq_true p154
           replace q154 := eq_true q154
           try go_wp2
           have n0_ := Aside0.mk (below_drew1 HB.out)
           clear HB
           have HB := n0_
           clear n0_
           refine start_ (n := 70) (S := fun w' => True) (ds := []) (mb 70 0) (by kernel_rfl) rfl rfl trivial (fun hHeld => ?_); refine with_tabW spec_trDifferences.tab7 spec_trDifferences.bits7 (fun HT_ HW_ => ?_)
           generalize wr.drew = w41 at HB hHeld ⊢
           refine pureV 0 27 70 1 HT_ ?_
           refine pureV 1 28 70 3 HT_ ?_
           refine pureV 2 29 70 7 HT_ ?_
           refine pureV 3 30 70 15 HT_ ?_
           refine pureV 4 31 70 31 HT_ ?_
           refine pureV 5 32 70 63 HT_ ?_
           refine pureV 6 33 70 127 HT_ ?_
           refine one_ (i := 7) (N := some 34) (mb 70 255) rfl rfl (one_of HT_.out (by kernel_rfl)) (by decide) (fun K hK => ?_)
           refine goes_ Try.func104 (by kernel_rfl) rfl #[.slice A154_0 (rd_L1 l1 x22_2).length c154_0, .int .i64 1, .int .i64 (wrap64 (3 * (l1.length : Int)))] (by rfl) rfl rfl (by (try simp only [List.map_toArray, List.map_cons, List.map_nil]); first | done | rfl | (simp only [List.length_drop, List.length_take]; rfl)) ?_
           with_reducible refine (spec_l1All.calls k2 _ _ (rd_L1 l1 x22_2) 1 (wrap64 (3 * (l1.length : Int))) false _ ?side1 ?side2 A11.out).mono ?_
           (case side1 => repeat (first | exact (Kd.C_below HR154_0.out HB.out) | (with_reducible refine Kd.C_alloc ?_ _) | (with_reducible refine Kd.C_drewN ?_ _) | (with_reducible refine Kd.C_drew ?_)))
           (case side2 => exact HC154_0.out)
           rintro e w' ⟨rfl, ⟨nd, rfl⟩⟩
           refine ⟨_, rfl, ?_⟩
           refine hK.out _ _ trivial (fun hHeld => ?_)
           clear hK K
           refine norm_ (a' := ?_) ?_ ?_
           rotate_left
           ·show Act.put _ (some 34) _ = _
            simp only [Act.put, List.setIfInBounds_toArray, List.set_cons_zero, List.set_cons_succ, i64_w, i32_w]
            rfl
           refine pureV 8 35 70 511 HT_ ?_
           refine pureV 9 36 70 1023 HT_ ?_
           refine pureV 10 37 70 2047 HT_ ?_
           refine pureU 11 38 70 4095 HT_ ?_
           refine pureU 12 39 70 8191 HT_ ?_
           refine pureU 13 40 70 16383 HT_ ?_
           refine pureU 14 41 70 32767 HT_ ?_
           refine pureU 15 42 70 65535 HT_ ?_
           refine pureU 16 43 70 131071 HT_ ?_
           refine pureU 17 44 70 262143 HT_ ?_
           refine pureV 18 45 70 524287 HT_ ?_
           refine pureV 19 46 70 1048575 HT_ ?_
           refine pureU 20 47 70 2097151 HT_ ?_
           refine pureU 21 48 70 4194303 HT_ ?_
           refine pureU 22 49 70 8388607 HT_ ?_
           refine pureU 23 50 70 16777215 HT_ ?_
           refine pureU 24 51 70 33554431 HT_ ?_
           refine pureU 25 52 70 67108863 HT_ ?_
           refine pureU 26 53 70 134217727 HT_ ?_
           refine pureV 27 54 70 268435455 HT_ ?_
           refine pureV 28 55 70 536870911 HT_ ?_
           refine pureU 29 56 70 1073741823 HT_ ?_
           refine pureU 30 57 70 2147483647 HT_ ?_
           refine pureU 31 58 70 4294967295 HT_ ?_
           refine pureU 32 59 70 8589934591 HT_ ?_
           refine pureU 33 60 70 17179869183 HT_ ?_
           refine pureU 34 61 70 34359738367 HT_ ?_
           refine pureU 35 62 70 68719476735 HT_ ?_
           refine pureU 36 63 70 137438953471 HT_ ?_
           refine pureU 37 64 70 274877906943 HT_ ?_
           refine pureU 38 65 70 549755813887 HT_ ?_
           refine pureU 39 66 70 1099511627775 HT_ ?_
           refine pureU 40 67 70 2199023255551 HT_ ?_
           refine pureU 41 68 70 4398046511103 HT_ ?_
           refine pureU 42 69 70 8796093022207 HT_ ?_
           refine pureU 43 70 70 17592186044415 HT_ ?_
           refine pureU 44 71 70 35184372088831 HT_ ?_
           refine pureU 45 72 70 70368744177663 HT_ ?_
           refine pureU 46 73 70 140737488355327 HT_ ?_
           refine pureU 47 74 70 281474976710655 HT_ ?_
           refine pureU 48 75 70 562949953421311 HT_ ?_
           refine pureU 49 76 70 1125899906842623 HT_ ?_
           refine pureU 50 77 70 2251799813685247 HT_ ?_
           refine pureU 51 78 70 4503599627370495 HT_ ?_
           refine pureU 52 79 70 9007199254740991 HT_ ?_
           refine pureU 53 80 70 18014398509481983 HT_ ?_
           refine pureU 54 81 70 36028797018963967 HT_ ?_
           refine pureV 55 82 70 72057594037927935 HT_ ?_
           refine pureV 56 83 70 144115188075855871 HT_ ?_
           refine pureU 57 84 70 288230376151711743 HT_ ?_
           refine pureU 58 85 70 576460752303423487 HT_ ?_
           refine pureU 59 86 70 1152921504606846975 HT_ ?_
           refine pureU 60 87 70 2305843009213693951 HT_ ?_
           refine pureU 61 88 70 4611686018427387903 HT_ ?_
           refine pureU 62 89 70 9223372036854775807 HT_ ?_
           refine pureU 63 90 70 18446744073709551615 HT_ ?_
           refine pureU 64 91 70 36893488147419103231 HT_ ?_
           refine pureU 65 92 70 73786976294838206463 HT_ ?_
           refine pureU 66 93 70 147573952589676412927 HT_ ?_
           refine pureU 67 94 70 295147905179352825855 HT_ ?_
           refine pureU 68 95 70 590295810358705651711 HT_ ?_
           refine pureV 69 96 70 1180591620717411303423 HT_ ?_
           refine done_ (done_of HT_.out (by kernel_rfl)) ?_
           try go_wp2
           go_ret
           exact ⟨by first | rfl | (simp [errW_none, errW_some] <;> rfl) | (simp [*, errW_none, errW_some] <;> rfl), by repeat (first | (with_reducible first | exact HB.out | apply below_alloc | apply pw_below_drewN | apply below_drew1) | exact HB.out)⟩
         ·rw [if_neg c10] at H
          have c10b0 : (((rd_L1 l1 x22_2).length : Int) == 3) = false := beq_eq_false_iff_ne.mpr c10
          have c10b1 : (((rd_L1 l1 x22_2).length : Int) != 3) = true := bne_iff_ne.mpr c10
          obtain rfl := Option.some.inj H
          have p154 : 0 ≤ (x22_2 : Int) := of_decide_eq_true (by first | (with_reducible assumption) | assumption)
          have q154 : x22_2 < (l1.length : Int) := of_decide_eq_true (by first | (with_reducible assumption) | assumption)
          obtain ⟨ad154, A154_0, c154_0, e154, hx154_0, hl154_0, hi154_0⟩ := at_L1 HR1.out x22_2 p154 q154
          cases e154
          replace hx154_0 := (HB.out.cell (World.block_lt_of_cell? w _ hx154_0)).trans hx154_0
          have HR154_0 := Aside0.mk hi154_0
          have HC154_0 := Aside0.mk hl154_0
          clear hi154_0 hl154_0
          replace p154 := eq_true p154
          replace q154 := eq_true q154
          try go_wp2
          have n0_ := Aside0.mk (below_drew1 HB.out)
          clear HB
          have HB := n0_
          clear n0_
          refine start_ (n := 70) (S := fun w' => True) (ds := []) (mb 70 0) (by kernel_rfl) rfl rfl trivial (fun hHeld => ?_); refine with_tabW spec_trDifferences.tab7 spec_trDifferences.bits7 (fun HT_ HW_ => ?_)
          generalize wr.drew = w42 at HB hHeld ⊢
          refine pureV 0 27 70 1 HT_ ?_
          refine pureV 1 28 70 3 HT_ ?_
          refine pureV 2 29 70 7 HT_ ?_
          refine pureV 3 30 70 15 HT_ ?_
          refine pureU 4 31 70 31 HT_ ?_
          refine pureU 5 32 70 63 HT_ ?_
          refine pureU 6 33 70 127 HT_ ?_
          refine pureU 7 34 70 255 HT_ ?_
          refine pureU 8 35 70 511 HT_ ?_
          refine pureV 9 36 70 1023 HT_ ?_
          refine pureV 10 37 70 2047 HT_ ?_
          refine pureU 11 38 70 4095 HT_ ?_
          refine pureU 12 39 70 8191 HT_ ?_
          refine pureU 13 40 70 16383 HT_ ?_
          refine pureU 14 41 70 32767 HT_ ?_
          refine pureU 15 42 70 65535 HT_ ?_
          refine pureU 16 43 70 131071 HT_ ?_
          refine pureU 17 44 70 262143 HT_ ?_
          refine pureV 18 45 70 524287 HT_ ?_
          refine pureV 19 46 70 1048575 HT_ ?_
          refine pureU 20 47 70 2097151 HT_ ?_
          refine pureU 21 48 70 4194303 HT_ ?_
          refine pureU 22 49 70 8388607 HT_ ?_
          refine pureU 23 50 70 16777215 HT_ ?_
          refine pureU 24 51 70 33554431 HT_ ?_
          refine pureU 25 52 70 67108863 HT_ ?_
          refine pureU 26 53 70 134217727 HT_ ?_
          refine pureV 27 54 70 268435455 HT_ ?_
          refine pureV 28 55 70 536870911 HT_ ?_
          refine pureU 29 56 70 1073741823 HT_ ?_
          refine pureU 30 57 70 2147483647 HT_ ?_
          refine pureU 31 58 70 4294967295 HT_ ?_
          refine pureU 32 59 70 8589934591 HT_ ?_
          refine pureU 33 60 70 17179869183 HT_ ?_
          refine pureU 34 61 70 34359738367 HT_ ?_
          refine pureU 35 62 70 68719476735 HT_ ?_
          refine pureU 36 63 70 137438953471 HT_ ?_
          refine pureU 37 64 70 274877906943 HT_ ?_
          refine pureU 38 65 70 549755813887 HT_ ?_
          refine pureU 39 66 70 1099511627775 HT_ ?_
          refine pureU 40 67 70 2199023255551 HT_ ?_
          refine pureU 41 68 70 4398046511103 HT_ ?_
          refine pureU 42 69 70 8796093022207 HT_ ?_
          refine pureU 43 70 70 17592186044415 HT_ ?_
          refine pureU 44 71 70 35184372088831 HT_ ?_
          refine pureU 45 72 70 70368744177663 HT_ ?_
          refine pureU 46 73 70 140737488355327 HT_ ?_
          refine pureU 47 74 70 281474976710655 HT_ ?_
          refine pureU 48 75 70 562949953421311 HT_ ?_
          refine pureU 49 76 70 1125899906842623 HT_ ?_
          refine pureU 50 77 70 2251799813685247 HT_ ?_
          refine pureU 51 78 70 4503599627370495 HT_ ?_
          refine pureU 52 79 70 9007199254740991 HT_ ?_
          refine pureU 53 80 70 18014398509481983 HT_ ?_
          refine pureU 54 81 70 36028797018963967 HT_ ?_
          refine pureV 55 82 70 72057594037927935 HT_ ?_
          refine pureV 56 83 70 144115188075855871 HT_ ?_
          refine pureU 57 84 70 288230376151711743 HT_ ?_
          refine pureU 58 85 70 576460752303423487 HT_ ?_
          refine pureU 59 86 70 1152921504606846975 HT_ ?_
          refine pureU 60 87 70 2305843009213693951 HT_ ?_
          refine pureU 61 88 70 4611686018427387903 HT_ ?_
          refine pureU 62 89 70 9223372036854775807 HT_ ?_
          refine pureU 63 90 70 18446744073709551615 HT_ ?_
          refine pureU 64 91 70 36893488147419103231 HT_ ?_
          refine pureU 65 92 70 73786976294838206463 HT_ ?_
          refine pureU 66 93 70 147573952589676412927 HT_ ?_
          refine pureU 67 94 70 295147905179352825855 HT_ ?_
          refine pureU 68 95 70 590295810358705651711 HT_ ?_
          refine pureV 69 96 70 1180591620717411303423 HT_ ?_
          refine done_ (done_of HT_.out (by kernel_rfl)) ?_
          try go_wp2
          go_ret
          exact ⟨by first | rfl | (simp [errW_none, errW_some] <;> rfl) | (simp [*, errW_none, errW_some] <;> rfl), by repeat (first | (with_reducible first | exact HB.out | apply below_alloc | apply pw_below_drewN | apply below_drew1) | exact HB.out)⟩
        ·rw [if_neg c9] at H
         exact absurd H (by simp)
       ·rw [if_neg c8] at H
        exact absurd H (by simp)
      ·rw [if_neg c7] at H
       have c7b0 : decide (x22_2 < (l1.length : Int)) = false := decide_eq_false c7
       clear c7
       replace H := Option.bind_eq_some_iff.mp H
       obtain ⟨t150, A430, H⟩ := H
       replace H : ((spec_trOnce.f k2 l1 t150).bind fun t153 => (some t153)) = some r := H
       have A43 := Aside0.mk A430
       clear A430
       replace H := Option.bind_eq_some_iff.mp H
       obtain ⟨t153, A440, H⟩ := H
       replace H : (some t153) = some r := H
       have A44 := Aside0.mk A440
       clear A440
       obtain rfl := Option.some.inj H
       go_wp2_with (first | ((with_reducible refine gate_callee (f := 71) rfl ?_); refine goesL_ (some 100) rfl rfl Try.func71 (by kernel_rfl) rfl #[.int .i64 (l1.length : Int), .bool false] rfl (by (try simp only [List.map_toArray, List.map_cons, List.map_nil]); first | done | rfl | (simp only [List.length_drop, List.length_take]; rfl)) ?_; (with_reducible refine (spec_trMarks.calls k2 (l1.length : Int) false t150 _ A43.out).mono ?_); rintro e w45 ⟨v151, rfl, ho0, hb⟩; refine ⟨_, rfl, ?_⟩; have n0_ := Aside0.mk (Kd.R_lower ho0 (below_size (by repeat (first | (with_reducible first | exact HB.out | apply below_alloc | apply pw_below_drewN | apply below_drew1) | exact HB.out)))); have n1_ := Aside0.mk (below_step (by repeat (first | (with_reducible first | exact HB.out | apply below_alloc | apply pw_below_drewN | apply below_drew1) | exact HB.out)) hb); clear HB; have HO152 := n0_; have HB := n1_; clear n0_ n1_; (try clear hb); (try clear hb2); (try clear hk); (try clear hi); (try clear ho0); obtain ⟨Ao46, co46, eo46⟩ := Kd.R_slice HO152.out; subst eo46) | ((with_reducible refine gate_callee (f := 92) rfl ?_); refine goesL_ (some 101) rfl rfl Try.func92 (by kernel_rfl) rfl #[.slice A1 l1.length c1, .slice Ao46 t150.length co46] rfl (by (try simp only [List.map_toArray, List.map_cons, List.map_nil]); first | done | rfl | (simp only [List.length_drop, List.length_take]; rfl)) ?_; (with_reducible refine (spec_trOnce.calls k2 _ _ l1 _ _ t150 t153 _ ?side1 ?side2 ?side3 ?side4 A44.out).mono ?_); (case side1 => repeat (first | exact (Kd.C_below HR1.out HB.out) | (with_reducible refine Kd.C_alloc ?_ _) | (with_reducible refine Kd.C_drewN ?_ _) | (with_reducible refine Kd.C_drew ?_))); (case side2 => exact HC1.out); (case side3 => repeat (first | exact (Kd.R_reads' HO152.out).2.2 | (with_reducible refine Kd.C_alloc ?_ _) | (with_reducible refine Kd.C_drewN ?_ _) | (with_reducible refine Kd.C_drew ?_))); (case side4 => exact (Kd.R_reads' HO152.out).2.1); rintro e w47 ⟨rfl, hb⟩; refine ⟨_, rfl, ?_⟩; have n0_ := Aside0.mk (Kd.R_below (by (with_reducible repeat (first | apply Kd.R_alloc | apply Kd.R_drewN | apply Kd.R_drew)); exact HO152.out) hb); have n1_ := Aside0.mk (below_step (by repeat (first | (with_reducible first | exact HB.out | apply below_alloc | apply pw_below_drewN | apply below_drew1) | exact HB.out)) hb); clear HO152; clear HB; have HO152 := n0_; have HB := n1_; clear n0_ n1_; (try clear hb); (try clear hb2); (try clear hk); (try clear hi)))
       go_ret
       exact ⟨by first | rfl | (simp [errW_none, errW_some] <;> rfl) | (simp [*, errW_none, errW_some] <;> rfl), by repeat (first | (with_reducible first | exact HB.out | apply below_alloc | apply pw_below_drewN | apply below_drew1) | exact HB.out)⟩

end Go.Proofs.Ytgpnhaaklhinlaa.PFnExactCircleBlocks
