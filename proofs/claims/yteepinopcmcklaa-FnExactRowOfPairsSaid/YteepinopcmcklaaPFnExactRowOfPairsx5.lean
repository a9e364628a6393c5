-- Written by plug.py, a program of this session, over the kit's print of the function: checked by Lean alone.
import Derived.Test.YteepinopcmcklaaPFnExactRowOfPairsx0
import Derived.Test.YteepinopcmcklaaPFnExactRowOfPairsx4
namespace Go.Proofs.Yteepinopcmcklaa.PFnExactRowOfPairs
open Go.RowKit Go.Proofs.YteepinopcmcklaaW.PrintWords Go.Proofs.YteepinopcmcklaaW.PrintLast Go.Proofs.YteepinopcmcklaaW.PrintMore
attribute [local go_sem] max2_int min2_int max_two min_two max_three min_three max_four min_four   -- for this text's walks alone
set_option linter.unusedVariables false
set_option linter.unusedSimpArgs false

/-! ### impl_RowOfPairs: function 14 -/
mutual
def impl_RowOfPairs.j0 : Nat → Int → List (List Int) → Bool → Option (List Int × Bool)
 | 0, _, _, _ => none
 | k + 1, x0, x1, x19 => if x19 = true then (some (([] : List Int), false)) else (if 0 ≤ x0 then (if (x0 : Int).toNat ≤ 35184372088832 then (impl_RowOfPairs.l0 k x0 (List.replicate (x0 : Int).toNat 0) x1 (x1.length : Int) 0) else (none)) else (none))
def impl_RowOfPairs.l0 : Nat → Int → List Int → List (List Int) → Int → Int → Option (List Int × Bool)
 | 0, _, _, _, _, _ => none
 | k + 1, x0, x6, x22, x23, x24 => if x24 < x23 then (if 0 ≤ x24 then (if x24 < (x22.length : Int) then (if ((rd_L1 x22 x24).length : Int) = 3 then (if 0 < ((rd_L1 x22 x24).length : Int) then ((impl_isNumber.f (rd (rd_L1 x22 x24) 0)).bind fun t154 => (if t154 = true then ((slices_Contains_int_int.f k x6 (rd (rd_L1 x22 x24) 0)).bind fun t156 => (if t156 = true then (some (([] : List Int), false)) else (if 1 < ((rd_L1 x22 x24).length : Int) then (if (rd (rd_L1 x22 x24) 1) < 0 then (some (([] : List Int), false)) else (if 2 < ((rd_L1 x22 x24).length : Int) then (if (rd (rd_L1 x22 x24) 2) ≥ x0 then (some (([] : List Int), false)) else (if (rd (rd_L1 x22 x24) 1) ≥ (rd (rd_L1 x22 x24) 2) then (some (([] : List Int), false)) else (if 0 ≤ (rd (rd_L1 x22 x24) 1) then (if (rd (rd_L1 x22 x24) 1) < (x6.length : Int) then (if (rd x6 (rd (rd_L1 x22 x24) 1)) = 0 then (if 0 ≤ (rd (rd_L1 x22 x24) 2) then (if (rd (rd_L1 x22 x24) 2) < (x6.length : Int) then (if (rd x6 (rd (rd_L1 x22 x24) 2)) = 0 then (impl_RowOfPairs.l0 k x0 ((x6.set ((rd (rd_L1 x22 x24) 1) : Int).toNat (rd (rd_L1 x22 x24) 0)).set ((rd (rd_L1 x22 x24) 2) : Int).toNat (rd (rd_L1 x22 x24) 0)) x22 x23 (wrap64 (x24 + 1))) else (some (([] : List Int), false))) else (none)) else (none)) else (some (([] : List Int), false))) else (none)) else (none)))) else (none))) else (none)))) else (some (([] : List Int), false)))) else (none)) else (some (([] : List Int), false))) else (none)) else (none)) else (some (x6, true))
end
def impl_RowOfPairs.f (k : Nat) (a0 : Int) (l1 : List (List Int)) : Option (List Int × Bool) := if a0 < 0 then (impl_RowOfPairs.j0 k a0 l1 true) else (if a0 > 40 then (impl_RowOfPairs.j0 k a0 l1 true) else (impl_RowOfPairs.j0 k a0 l1 (decide ((l1.length : Int) > 20))))
theorem impl_RowOfPairs.mono_l : ∀ k, (∀ y0 y1 y2, LeO (impl_RowOfPairs.j0 k y0 y1 y2) (impl_RowOfPairs.j0 (k + 1) y0 y1 y2)) ∧ (∀ y0 y1 y2 y3 y4, LeO (impl_RowOfPairs.l0 k y0 y1 y2 y3 y4) (impl_RowOfPairs.l0 (k + 1) y0 y1 y2 y3 y4))
 | 0 => ⟨fun _ _ _ r h => by simp [impl_RowOfPairs.j0] at h, fun _ _ _ _ _ r h => by simp [impl_RowOfPairs.l0] at h⟩
 | k + 1 => by
  obtain ⟨ih0, ih1⟩ := impl_RowOfPairs.mono_l k
  refine ⟨?_, ?_⟩
  ·intro y0 y1 y2
   unfold impl_RowOfPairs.j0
   repeat' first
   | (with_reducible exact ih0 _ _ _)
   | (with_reducible exact ih1 _ _ _ _ _)
   | (with_reducible exact slices_Contains_int_int.mono _ _ _)
   | (with_reducible exact LeO.refl _)
   | (with_reducible exact LeO.none _)
   | (with_reducible refine LeO.ite ?_ ?_)
   | (with_reducible refine LeO.bind ?_ (fun _ => ?_))
   | exact ih0 _ _ _
   | exact ih1 _ _ _ _ _
   | exact slices_Contains_int_int.mono _ _ _
   | exact LeO.none _
   | refine LeO.ite ?_ ?_
   | refine LeO.bind ?_ (fun _ => ?_)
  ·intro y0 y1 y2 y3 y4
   unfold impl_RowOfPairs.l0
   repeat' first
   | (with_reducible exact ih0 _ _ _)
   | (with_reducible exact ih1 _ _ _ _ _)
   | (with_reducible exact slices_Contains_int_int.mono _ _ _)
   | (with_reducible exact LeO.refl _)
   | (with_reducible exact LeO.none _)
   | (with_reducible refine LeO.ite ?_ ?_)
   | (with_reducible refine LeO.bind ?_ (fun _ => ?_))
   | exact ih0 _ _ _
   | exact ih1 _ _ _ _ _
   | exact slices_Contains_int_int.mono _ _ _
   | exact LeO.none _
   | refine LeO.ite ?_ ?_
   | refine LeO.bind ?_ (fun _ => ?_)
theorem impl_RowOfPairs.mono : ∀ a0 a1 k, LeO (impl_RowOfPairs.f k a0 a1) (impl_RowOfPairs.f (k + 1) a0 a1) := by
 intro a0 a1 k
 obtain ⟨ih0, ih1⟩ := impl_RowOfPairs.mono_l k
 unfold impl_RowOfPairs.f
 repeat' first
   | (with_reducible exact ih0 _ _ _)
   | (with_reducible exact ih1 _ _ _ _ _)
   | (with_reducible exact slices_Contains_int_int.mono _ _ _)
   | (with_reducible exact LeO.refl _)
   | (with_reducible exact LeO.none _)
   | (with_reducible refine LeO.ite ?_ ?_)
   | (with_reducible refine LeO.bind ?_ (fun _ => ?_))
   | exact ih0 _ _ _
   | exact ih1 _ _ _ _ _
   | exact slices_Contains_int_int.mono _ _ _
   | exact LeO.none _
   | refine LeO.ite ?_ ?_
   | refine LeO.bind ?_ (fun _ => ?_)
def impl_RowOfPairs.T7 : Bool × List (List Nat × List Nat) := (true, [([], []), ([0], [0]), ([1], [1]), ([2], [2]), ([3], [3]), ([4, 3], [3, 4]), ([5, 3], [3, 5]), ([6, 3, 3], [3, 6]), ([7, 3], [3, 7]), ([3, 8], [3, 8]), ([9, 7], [9]), ([10], [10]), ([10], [10]), ([12, 10], [10, 12]), ([13, 10], [10, 13]), ([11, 14, 10, 10], [10, 11, 14]), ([10, 15], [10, 15]), ([16, 15], [16]), ([17], [17]), ([18, 17], [17, 18]), ([19, 17], [17, 19]), ([20, 17], [17, 20]), ([17, 21], [17, 21]), ([22, 17], [22]), ([23], [23]), ([24, 23], [23, 24]), ([25, 23], [23, 25]), ([23], [23]), ([26, 27, 23], [23, 26, 27]), ([23, 28], [23, 28]), ([29, 23], [29]), ([30], [30]), ([31, 30], [30, 31]), ([32, 30], [30, 32]), ([30], [30]), ([34, 30], [30, 34]), ([35, 30], [30, 35]), ([33, 36, 30], [30, 33, 36]), ([30, 37], [30, 37]), ([38, 30], [38]), ([39], [39]), ([39], [39]), ([41, 39], [39, 41]), ([42, 39], [39, 42]), ([40, 43, 39], [39, 40, 43]), ([44, 39], [39, 44]), ([45, 39], [39, 45]), ([39, 46], [39, 46]), ([47, 39], [47]), ([48], [48]), ([48], [48]), ([50, 48], [48, 50]), ([51, 48], [48, 51]), ([49, 52, 48], [48, 49, 52]), ([53, 48], [48, 53]), ([54, 48], [48, 54]), ([48, 55], [48, 55])])
def impl_RowOfPairs.B7 : List Nat := [0, 1, 3, 7, 15, 31, 63, 127, 255, 511, 1023, 2047, 2047, 6143, 14335, 32767, 65535, 131071, 262143, 524287, 1048575, 2097151, 4194303, 8388607, 16777215, 33554431, 67108863, 16777215, 268435455, 536870911, 1073741823, 2147483647, 4294967295, 8589934591, 2147483647, 19327352831, 53687091199, 137438953471, 274877906943, 549755813887, 1099511627775, 1099511627775, 3298534883327, 7696581394431, 17592186044415, 35184372088831, 70368744177663, 140737488355327, 281474976710655, 562949953421311, 562949953421311, 1688849860263935, 3940649673949183, 9007199254740991, 18014398509481983, 36028797018963967, 72057594037927935]
theorem impl_RowOfPairs.tab7 : rtab .any (opsOf Try.f14 7) = impl_RowOfPairs.T7 := by kernel_rfl
theorem impl_RowOfPairs.bits7 : waitsOk impl_RowOfPairs.T7.2 impl_RowOfPairs.B7 = true := by kernel_rfl
def impl_RowOfPairs.T9 : Bool × List (List Nat × List Nat) := (true, [([], []), ([], []), ([1], [1]), ([2], [2]), ([], []), ([4], [4]), ([5], [5]), ([0, 3, 0, 1, 2, 3, 4, 5, 6], [0, 3]), ([7, 6, 0, 1, 2, 3, 4, 5, 6], [6, 7])])
def impl_RowOfPairs.B9 : List Nat := [0, 0, 2, 6, 0, 16, 48, 127, 255]
theorem impl_RowOfPairs.tab9 : rtab .any (opsOf Try.f14 9) = impl_RowOfPairs.T9 := by kernel_rfl
theorem impl_RowOfPairs.bits9 : waitsOk impl_RowOfPairs.T9.2 impl_RowOfPairs.B9 = true := by kernel_rfl
def impl_RowOfPairs.T10 : Bool × List (List Nat × List Nat) := (true, [([], []), ([], []), ([1], [1]), ([2], [2]), ([], []), ([4], [4]), ([5], [5]), ([0, 3, 0, 1, 2, 3, 4, 5, 6], [0, 3]), ([7, 6, 0, 1, 2, 3, 4, 5, 6], [6, 7])])
def impl_RowOfPairs.B10 : List Nat := [0, 0, 2, 6, 0, 16, 48, 127, 255]
theorem impl_RowOfPairs.tab10 : rtab .any (opsOf Try.f14 10) = impl_RowOfPairs.T10 := by kernel_rfl
theorem impl_RowOfPairs.bits10 : waitsOk impl_RowOfPairs.T10.2 impl_RowOfPairs.B10 = true := by kernel_rfl
set_option maxHeartbeats 8000000 in
set_option maxRecDepth 100000 in
theorem impl_RowOfPairs.calls (k : Nat) (a0 : Int) (A1 : Option Addr) (c1 : Nat) (l1 : List (List Int)) (r1 : List Int) (r2 : Bool) (w : World) (hr1 : Kd.C (Kd.slice 3 (Kd.int .i64)) w A1 l1.length l1) (hc1 : l1.length ≤ c1) (h : impl_RowOfPairs.f k a0 l1 = some (r1, r2)) :
  Calls Try.prog 14 #[.int .i64 a0, .slice A1 l1.length c1] w fun e w' => ∃ v0_ : Value, e = .returned (.tuple #[v0_, .bool r2]) ∧ Kd.R (Kd.int .i64) 3 w' w.heap.size (fun _ => True) v0_ r1 ∧ Below w.heap.size w w' := by
 have HR1 := Aside0.mk hr1
 have HC1 := Aside0.mk hc1
 clear hr1 hc1
 have HB := Aside0.mk (Below.refl w.heap.size w)
 have H : (if a0 < 0 then (impl_RowOfPairs.j0 k a0 l1 true) else (if a0 > 40 then (impl_RowOfPairs.j0 k a0 l1 true) else (impl_RowOfPairs.j0 k a0 l1 (decide ((l1.length : Int) > 20))))) = some (r1, r2) := h
 clear h
 have HC3 := Aside0.mk H
 clear H
 go_enter Try.func14, Try.ntmps14
 go_upto_region 1 with (fail)
 go_cut [19] (fun v19 wc => ∃ (kq : Nat) (x19_2 : Bool), v19 = .bool x19_2 ∧ Aside0 (impl_RowOfPairs.j0 kq a0 l1 x19_2 = some (r1, r2)) ∧ Aside0 (kq ≤ k) ∧ Aside0 (Below w.heap.size w wc))
 case first =>
  have H := HC3.out
  clear HC3
  by_cases c4 : a0 < 0
  ·rw [if_pos c4] at H
   have c4b0 : decide (a0 < 0) = true := decide_eq_true c4
   clear c4
   (first | rw [c4b0] | (simp only [i64_w, i32_w]; rw [c4b0]) | skip)
   have H' := Aside0.mk H
   clear H
   go_wp2
   go_meet
   case rel => exact ⟨_, (true), (by first | rfl | (simp; done) | (simp [*]; done)), H', ⟨by first | omega | exact Nat.le_refl _⟩, ⟨by repeat (first | (with_reducible first | exact HB.out | apply below_alloc | apply pw_below_drewN | apply below_drew1) | exact HB.out)⟩⟩
  ·rw [if_neg c4] at H
   have c4b0 : decide (a0 < 0) = false := decide_eq_false c4
   clear c4
   (first | rw [c4b0] | (simp only [i64_w, i32_w]; rw [c4b0]) | skip)
   by_cases c5 : a0 > 40
   ·rw [if_pos c5] at H
    have c5b0 : decide (40 < a0) = true := decide_eq_true c5
    clear c5
    have H' := Aside0.mk H
    clear H
    go_wp2
    go_meet
    case rel => exact ⟨_, (true), (by first | rfl | (simp; done) | (simp [*]; done)), H', ⟨by first | omega | exact Nat.le_refl _⟩, ⟨by repeat (first | (with_reducible first | exact HB.out | apply below_alloc | apply pw_below_drewN | apply below_drew1) | exact HB.out)⟩⟩
   ·rw [if_neg c5] at H
    have c5b0 : decide (40 < a0) = false := decide_eq_false c5
    clear c5
    have H' := Aside0.mk H
    clear H
    go_wp2
    go_meet
    case rel => exact ⟨_, (decide ((l1.length : Int) > 20)), (by first | rfl | (simp; done) | (simp [*]; done)), H', ⟨by first | omega | exact Nat.le_refl _⟩, ⟨by repeat (first | (with_reducible first | exact HB.out | apply below_alloc | apply pw_below_drewN | apply below_drew1) | exact HB.out)⟩⟩
 case rest =>
  clear HC3
  try clear c1
  try clear p2
  try clear c4
  try clear c4b0
  try clear c5
  try clear c5b0
  obtain ⟨kq, x19_2, rfl, HA, HJ2, HB⟩ := hcut
  cases kq with
  | zero => exact absurd HA.out (by simp [impl_RowOfPairs.j0])
  | succ kj2 =>
   have H := HA.out
   clear HA
   simp only [impl_RowOfPairs.j0] at H
   by_cases c6 : x19_2 = true
   ·subst c6
    have H1 : (some (([] : List Int), false)) = some (r1, r2) := by rw [if_pos rfl] at H; exact H
    clear H
    have H := H1
    clear H1
    simp only [Option.some.injEq, Prod.mk.injEq] at H
    obtain ⟨rfl, rfl⟩ := H
    go_wp2
    go_ret2
    exact ⟨_, by first | rfl | (simp [errW_none, errW_some] <;> rfl) | (simp [*, errW_none, errW_some] <;> rfl), by first | exact Kd.R_nil _ _ _ _ _ | exact Kd.N_nil _ _ _ _ _ | exact Kd.V_nil _ _ _ _ _ | exact Kd.Q_nil _ _ _ _ _ | exact Kd.S_nil _ _ _ _ _, by repeat (first | (with_reducible first | exact HB.out | apply below_alloc | apply pw_below_drewN | apply below_drew1) | exact HB.out)⟩
   ·replace c6 := Bool.eq_false_iff.mpr c6
    subst c6
    have H1 : (if 0 ≤ a0 then (if (a0 : Int).toNat ≤ 35184372088832 then (impl_RowOfPairs.l0 kj2 a0 (List.replicate (a0 : Int).toNat 0) l1 (l1.length : Int) 0) else (none)) else (none)) = some (r1, r2) := by rw [if_neg (show ¬ (false = true) by decide)] at H; exact H
    clear H
    have H := H1
    clear H1
    by_cases c7 : 0 ≤ a0
    ·rw [if_pos c7] at H
     have c7b0 := eq_true c7
     have c7b1 : decide (0 ≤ a0) = true := decide_eq_true c7
     clear c7
     by_cases c8 : (a0 : Int).toNat ≤ 35184372088832
     ·rw [if_pos c8] at H
      have c8b0 := eq_true c8
      have c8b1 : decide ((a0 : Int).toNat ≤ 35184372088832) = true := decide_eq_true c8
      clear c8
      obtain ⟨y149, hy149⟩ : ∃ y_ : List Int, y_ = (List.replicate (a0 : Int).toNat 0) := ⟨_, rfl⟩
      replace H : (impl_RowOfPairs.l0 kj2 a0 y149 l1 (l1.length : Int) 0) = some (r1, r2) := by first | (rw [hy149]; with_reducible exact H) | (have H2_ := (Option.bind_some _ _).symm.trans H; rw [hy149]; with_reducible exact H2_) | (have H2_ := (Option.bind_some _ _).symm.trans H; with_reducible exact H2_) | with_reducible exact H | (rw [hy149]; exact H) | exact H
      have Ny149 := Aside0.mk hy149
      clear hy149
      have H' := Aside0.mk H
      clear H
      go_wp2_with (first | ((with_reducible refine gate_dst (N := 21) rfl ?_); (try (refine gate_guard (by rfl) ?_; dsimp only)); refine Kd.R_make (Kd.int .i64) _ 3 rfl (N := 21) rfl 29 _ _ rfl a0 rfl rfl Try.underlying29 (.int .i64 0) 8 info3 rfl (by decide) (by omega) 0 (ok := fun _ => True) (okp := fun _ => True) rfl (fun _ hk => hk) trivial (of_decide_eq_true (by first | (with_reducible assumption) | assumption)) (Nat.le_trans (Nat.mul_le_mul_right _ (of_decide_eq_true (by first | (with_reducible assumption) | assumption) : a0.toNat ≤ 35184372088832)) (by omega)) (Below.refl _ _) (Nat.le_refl _) ?_; intro v150 w9 ho10 hb hg_ hnew_; clear hg_ hnew_; (first | rw [← Ny149.out] at ho10 | (simp only [Int.reduceToNat] at ho10; rw [← Ny149.out] at ho10)); have n0_ := Aside0.mk (Kd.R_lower ho10 (below_size (by repeat (first | (with_reducible first | exact HB.out | apply below_alloc | apply pw_below_drewN | apply below_drew1) | exact HB.out)))); have n1_ := Aside0.mk (below_step (by repeat (first | (with_reducible first | exact HB.out | apply below_alloc | apply pw_below_drewN | apply below_drew1) | exact HB.out)) hb); clear HB; have HO151 := n0_; have HB := n1_; clear n0_ n1_; clear hb ho10))
      go_loopg [24] kj2 (fun kq v24 w' => ∃ (x6_2 : List Int) (x24_2 : Int), v24 = .int .i64 x24_2 ∧ Aside0 (impl_RowOfPairs.l0 kq a0 x6_2 l1 (l1.length : Int) x24_2 = some (r1, r2)) ∧ Aside0 (kq ≤ kj2) ∧ Aside0 (Kd.R (Kd.int .i64) 3 w' w.heap.size (fun _ => True) v150 x6_2) ∧ Aside0 (Below w.heap.size w w'))
      case atStart => exact ⟨(y149), (0), (by first | rfl | (simp; done) | (simp [*]; done)), H', ⟨Nat.le_refl _⟩, ⟨by (with_reducible repeat (first | apply Kd.R_alloc | apply Kd.R_drewN | apply Kd.R_drew)); exact HO151.out⟩, ⟨by repeat (first | (with_reducible first | exact HB.out | apply below_alloc | apply pw_below_drewN | apply below_drew1) | exact HB.out)⟩⟩
      case round =>
       clear H'
       try clear c1
       try clear p2
       try clear c4
       try clear c4b0
       try clear c5
       try clear c5b0
       try clear c6
       try clear c7
       try clear c7b0
       try clear c7b1
       try clear c8
       try clear c8b0
       try clear c8b1
       try clear p2
       obtain ⟨x6_2, x24_2, rfl, HA, HK2, HO_6, HB⟩ := hrel
       cases gk with
       | zero => exact absurd HA.out (by simp [impl_RowOfPairs.l0])
       | succ k2 =>
        have H := HA.out
        clear HA
        simp only [impl_RowOfPairs.l0] at H
        by_cases c11 : x24_2 < (l1.length : Int)
        ·rw [if_pos c11] at H
         have c11b0 : decide (x24_2 < (l1.length : Int)) = true := decide_eq_true c11
         clear c11
         by_cases c12 : 0 ≤ x24_2
         ·rw [if_pos c12] at H
          have c12b0 : decide (0 ≤ x24_2) = true := decide_eq_true c12
          clear c12
          by_cases c13 : x24_2 < (l1.length : Int)
          ·rw [if_pos c13] at H
           have c13b0 : decide (x24_2 < (l1.length : Int)) = true := decide_eq_true c13
           clear c13
           by_cases c14 : ((rd_L1 l1 x24_2).length : Int) = 3
           ·rw [if_pos c14] at H
            have c14b0 : (((rd_L1 l1 x24_2).length : Int) == 3) = true := beq_iff_eq.mpr c14
            have c14b1 : (((rd_L1 l1 x24_2).length : Int) != 3) = false := bne_eq_false_iff_eq.mpr c14
            clear c14
            by_cases c15 : 0 < ((rd_L1 l1 x24_2).length : Int)
            ·rw [if_pos c15] at H
             have c15b0 : decide (0 < ((rd_L1 l1 x24_2).length : Int)) = true := decide_eq_true c15
             have c15b1 : decide (0 < (rd_L1 l1 x24_2).length) = true := decide_eq_true (by omega)
             clear c15
             replace H := Option.bind_eq_some_iff.mp H
             obtain ⟨t154, A160, H⟩ := H
             replace H : (if t154 = true then ((slices_Contains_int_int.f k2 x6_2 (rd (rd_L1 l1 x24_2) 0)).bind fun t156 => (if t156 = true then (some (([] : List Int), false)) else (if 1 < ((rd_L1 l1 x24_2).length : Int) then (if (rd (rd_L1 l1 x24_2) 1) < 0 then (some (([] : List Int), false)) else (if 2 < ((rd_L1 l1 x24_2).length : Int) then (if (rd (rd_L1 l1 x24_2) 2) ≥ a0 then (some (([] : List Int), false)) else (if (rd (rd_L1 l1 x24_2) 1) ≥ (rd (rd_L1 l1 x24_2) 2) then (some (([] : List Int), false)) else (if 0 ≤ (rd (rd_L1 l1 x24_2) 1) then (if (rd (rd_L1 l1 x24_2) 1) < (x6_2.length : Int) then (if (rd x6_2 (rd (rd_L1 l1 x24_2) 1)) = 0 then (if 0 ≤ (rd (rd_L1 l1 x24_2) 2) then (if (rd (rd_L1 l1 x24_2) 2) < (x6_2.length : Int) then (if (rd x6_2 (rd (rd_L1 l1 x24_2) 2)) = 0 then (impl_RowOfPairs.l0 k2 a0 ((x6_2.set ((rd (rd_L1 l1 x24_2) 1) : Int).toNat (rd (rd_L1 l1 x24_2) 0)).set ((rd (rd_L1 l1 x24_2) 2) : Int).toNat (rd (rd_L1 l1 x24_2) 0)) l1 (l1.length : Int) (wrap64 (x24_2 + 1))) else (some (([] : List Int), false))) else (none)) else (none)) else (some (([] : List Int), false))) else (none)) else (none)))) else (none))) else (none)))) else (some (([] : List Int), false))) = some (r1, r2) := H
             have A16 := Aside0.mk A160
             clear A160
             by_cases c17 : t154 = true
             ·subst c17
              have H1 : ((slices_Contains_int_int.f k2 x6_2 (rd (rd_L1 l1 x24_2) 0)).bind fun t156 => (if t156 = true then (some (([] : List Int), false)) else (if 1 < ((rd_L1 l1 x24_2).length : Int) then (if (rd (rd_L1 l1 x24_2) 1) < 0 then (some (([] : List Int), false)) else (if 2 < ((rd_L1 l1 x24_2).length : Int) then (if (rd (rd_L1 l1 x24_2) 2) ≥ a0 then (some (([] : List Int), false)) else (if (rd (rd_L1 l1 x24_2) 1) ≥ (rd (rd_L1 l1 x24_2) 2) then (some (([] : List Int), false)) else (if 0 ≤ (rd (rd_L1 l1 x24_2) 1) then (if (rd (rd_L1 l1 x24_2) 1) < (x6_2.length : Int) then (if (rd x6_2 (rd (rd_L1 l1 x24_2) 1)) = 0 then (if 0 ≤ (rd (rd_L1 l1 x24_2) 2) then (if (rd (rd_L1 l1 x24_2) 2) < (x6_2.length : Int) then (if (rd x6_2 (rd (rd_L1 l1 x24_2) 2)) = 0 then (impl_RowOfPairs.l0 k2 a0 ((x6_2.set ((rd (rd_L1 l1 x24_2) 1) : Int).toNat (rd (rd_L1 l1 x24_2) 0)).set ((rd (rd_L1 l1 x24_2) 2) : Int).toNat (rd (rd_L1 l1 x24_2) 0)) l1 (l1.length : Int) (wrap64 (x24_2 + 1))) else (some (([] : List Int), false))) else (none)) else (none)) else (some (([] : List Int), false))) else (none)) else (none)))) else (none))) else (none)))) = some (r1, r2) := by rw [if_pos rfl] at H; exact H
              clear H
              have H := H1
              clear H1
              replace H := Option.bind_eq_some_iff.mp H
              obtain ⟨t156, A180, H⟩ := H
              replace H : (if t156 = true then (some (([] : List Int), false)) else (if 1 < ((rd_L1 l1 x24_2).length : Int) then (if (rd (rd_L1 l1 x24_2) 1) < 0 then (some (([] : List Int), false)) else (if 2 < ((rd_L1 l1 x24_2).length : Int) then (if (rd (rd_L1 l1 x24_2) 2) ≥ a0 then (some (([] : List Int), false)) else (if (rd (rd_L1 l1 x24_2) 1) ≥ (rd (rd_L1 l1 x24_2) 2) then (some (([] : List Int), false)) else (if 0 ≤ (rd (rd_L1 l1 x24_2) 1) then (if (rd (rd_L1 l1 x24_2) 1) < (x6_2.length : Int) then (if (rd x6_2 (rd (rd_L1 l1 x24_2) 1)) = 0 then (if 0 ≤ (rd (rd_L1 l1 x24_2) 2) then (if (rd (rd_L1 l1 x24_2) 2) < (x6_2.length : Int) then (if (rd x6_2 (rd (rd_L1 l1 x24_2) 2)) = 0 then (impl_RowOfPairs.l0 k2 a0 ((x6_2.set ((rd (rd_L1 l1 x24_2) 1) : Int).toNat (rd (rd_L1 l1 x24_2) 0)).set ((rd (rd_L1 l1 x24_2) 2) : Int).toNat (rd (rd_L1 l1 x24_2) 0)) l1 (l1.length : Int) (wrap64 (x24_2 + 1))) else (some (([] : List Int), false))) else (none)) else (none)) else (some (([] : List Int), false))) else (none)) else (none)))) else (none))) else (none))) = some (r1, r2) := H
              have A18 := Aside0.mk A180
              clear A180
              by_cases c19 : t156 = true
              ·subst c19
               have H1 : (some (([] : List Int), false)) = some (r1, r2) := by rw [if_pos rfl] at H; exact H
               clear H
               have H := H1
               clear H1
               simp only [Option.some.injEq, Prod.mk.injEq] at H
               obtain ⟨rfl, rfl⟩ := H
               have p152 : 0 ≤ (x24_2 : Int) := of_decide_eq_true (by first | (with_reducible assumption) | assumption)
               have q152 : x24_2 < (l1.length : Int) := of_decide_eq_true (by first | (with_reducible assumption) | assumption)
               obtain ⟨ad152, A152_0, c152_0, e152, hx152_0, hl152_0, hi152_0⟩ := at_L1 HR1.out x24_2 p152 q152
               cases e152
               replace hx152_0 := (HB.out.cell (World.block_lt_of_cell? w _ hx152_0)).trans hx152_0
               have HR152_0 := Aside0.mk hi152_0
               have HC152_0 := Aside0.mk hl152_0
               clear hi152_0 hl152_0
               replace p152 := eq_true p152
               replace q152 := eq_true q152
               try go_wp2
               have n0_ := Aside0.mk (Kd.R_drew HO_6.out)
               have n1_ := Aside0.mk (below_drew1 HB.out)
               clear HO_6
               clear HB
               have HO_6 := n0_
               have HB := n1_
               clear n0_ n1_
               have p153 : 0 ≤ (0 : Int) := (by omega)
               have q153 : 0 < ((rd_L1 l1 x24_2).length : Int) := of_decide_eq_true (by first | (with_reducible assumption) | assumption)
               obtain ⟨ad153, e153, hx153_0⟩ := Kd.at_int HR152_0.out 0 p153 q153
               have hw153_0 := hx153_0
               (try rw [show ((0 : Int)).toNat = 0 from rfl] at hw153_0)
               (try rw [show 0 * 1 = 0 from rfl] at hw153_0)
               (try rw [Addr.add_zero'] at hw153_0)
               cases e153
               have qi153 : (0 < (rd_L1 l1 x24_2).length) = True := eq_true (by omega)
               (try rw [show ((0 : Int)).toNat = 0 from rfl] at hx153_0)
               (try rw [Addr.add_zero'] at hx153_0)
               replace hx153_0 := (HB.out.cell (World.block_lt_of_cell? w _ hx153_0)).trans hx153_0
               replace p153 := eq_true p153
               replace q153 := eq_true q153
               have p155 : 0 ≤ (0 : Int) := (by omega)
               have q155 : 0 < ((rd_L1 l1 x24_2).length : Int) := of_decide_eq_true (by first | (with_reducible assumption) | assumption)
               obtain ⟨ad155, e155, hx155_0⟩ := Kd.at_int HR152_0.out 0 p155 q155
               have hw155_0 := hx155_0
               (try rw [show ((0 : Int)).toNat = 0 from rfl] at hw155_0)
               (try rw [show 0 * 1 = 0 from rfl] at hw155_0)
               (try rw [Addr.add_zero'] at hw155_0)
               obtain rfl : ad153 = ad155 := (by injection e155)
               have qi155 : (0 < (rd_L1 l1 x24_2).length) = True := eq_true (by omega)
               (try rw [show ((0 : Int)).toNat = 0 from rfl] at hx155_0)
               (try rw [Addr.add_zero'] at hx155_0)
               replace hx155_0 := (HB.out.cell (World.block_lt_of_cell? w _ hx155_0)).trans hx155_0
               replace p155 := eq_true p155
               replace q155 := eq_true q155
               refine start_ (n := 57) (S := fun w' => w'.cell? ad153 = some (.int .i64 (rd (rd_L1 l1 x24_2) 0)) ∧ w'.cell? ad153 = some (.int .i64 (rd (rd_L1 l1 x24_2) 0))) (ds := []) (mb 57 0) (by kernel_rfl) rfl rfl ⟨((HB.out.cell (World.block_lt_of_cell? w _ hw153_0)).trans hw153_0), ((HB.out.cell (World.block_lt_of_cell? w _ hw155_0)).trans hw155_0)⟩ (fun hHeld => ?_); refine with_tabW impl_RowOfPairs.tab7 impl_RowOfPairs.bits7 (fun HT_ HW_ => ?_)
               generalize wr.drew = w20 at HO_6 HB hx153_0 hx155_0 hHeld ⊢
               refine pureV 0 28 57 1 HT_ ?_
               refine pureV 1 29 57 3 HT_ ?_
               refine pureV 2 30 57 7 HT_ ?_
               refine pureV 3 31 57 15 HT_ ?_
               refine pureV 4 32 57 31 HT_ ?_
               refine pureV 5 33 57 63 HT_ ?_
               refine takeV 6 34 57 127 HT_ HW_ hHeld rfl (by rintro w' ⟨s0, s1⟩; go_simp; with_reducible rfl) ?_
               refine one_ (i := 7) (N := some 35) (mb 57 255) rfl rfl (one_of HT_.out (by kernel_rfl)) (by decide) (fun K hK => ?_)
               refine goes_ Try.func35 (by kernel_rfl) rfl #[.int .i64 (rd (rd_L1 l1 x24_2) 0)] (by rfl) rfl rfl (by (try simp only [List.map_toArray, List.map_cons, List.map_nil]); first | done | rfl | (simp only [List.length_drop, List.length_take]; rfl)) ?_
               with_reducible refine (impl_isNumber.calls (rd (rd_L1 l1 x24_2) 0) true _ A16.out).mono ?_
               rintro e w' ⟨rfl, ⟨nd, rfl⟩⟩
               refine ⟨_, rfl, ?_⟩
               obtain ⟨Ao21, co21, eo21⟩ := Kd.R_slice HO_6.out
               (first | subst eo21 | (injection eo21 with f1_ f2_ f3_; have f4_ := f1_.symm; have f5_ := f3_.symm; clear f1_ f2_ f3_; subst f4_; subst f5_))
               refine hK.out _ _ ⟨((HB.out.cell (World.block_lt_of_cell? w _ hw153_0)).trans hw153_0), ((HB.out.cell (World.block_lt_of_cell? w _ hw155_0)).trans hw155_0)⟩ (fun hHeld => ?_)
               clear hK K
               refine norm_ (a' := ?_) ?_ ?_
               rotate_left
               ·show Act.put _ (some 35) _ = _
                simp only [Act.put, List.setIfInBounds_toArray, List.set_cons_zero, List.set_cons_succ, i64_w, i32_w]
                rfl
               refine pureV 8 36 57 511 HT_ ?_
               refine pureV 9 37 57 1023 HT_ ?_
               refine pureV 10 38 57 2047 HT_ ?_
               refine pureV 11 39 57 4095 HT_ ?_
               refine pureV 12 40 57 8191 HT_ ?_
               refine pureV 13 41 57 16383 HT_ ?_
               refine takeV 14 42 57 32767 HT_ HW_ hHeld rfl (by rintro w' ⟨s0, s1⟩; go_simp; with_reducible rfl) ?_
               refine one_ (i := 15) (N := some 43) (mb 57 65535) rfl rfl (one_of HT_.out (by kernel_rfl)) (by decide) (fun K hK => ?_)
               refine goes_ Try.func36 (by kernel_rfl) rfl #[.slice Ao21 x6_2.length co21, .int .i64 (rd (rd_L1 l1 x24_2) 0)] (by rfl) rfl rfl (by (try simp only [List.map_toArray, List.map_cons, List.map_nil]); first | done | rfl | (simp only [List.length_drop, List.length_take]; rfl)) ?_
               with_reducible refine (slices_Contains_int_int.calls k2 _ _ x6_2 (rd (rd_L1 l1 x24_2) 0) true _ ?side1 ?side2 A18.out).mono ?_
               (case side1 => repeat (first | exact (Kd.R_reads' HO_6.out).2.2 | (with_reducible refine Kd.C_alloc ?_ _) | (with_reducible refine Kd.C_drewN ?_ _) | (with_reducible refine Kd.C_drew ?_)))
               (case side2 => exact (Kd.R_reads' HO_6.out).2.1)
               rintro e w' ⟨rfl, ⟨nd, rfl⟩⟩
               refine ⟨_, rfl, ?_⟩
               refine hK.out _ _ ⟨((HB.out.cell (World.block_lt_of_cell? w _ hw153_0)).trans hw153_0), ((HB.out.cell (World.block_lt_of_cell? w _ hw155_0)).trans hw155_0)⟩ (fun hHeld => ?_)
               clear hK K
               refine norm_ (a' := ?_) ?_ ?_
               rotate_left
               ·show Act.put _ (some 43) _ = _
                simp only [Act.put, List.setIfInBounds_toArray, List.set_cons_zero, List.set_cons_succ, i64_w, i32_w]
                rfl
               refine pureV 16 44 57 131071 HT_ ?_
               refine pureV 17 45 57 262143 HT_ ?_
               refine pureU 18 46 57 524287 HT_ ?_
               refine pureU 19 47 57 1048575 HT_ ?_
               refine pureU 20 48 57 2097151 HT_ ?_
               refine pureU 21 49 57 4194303 HT_ ?_
               refine pureV 22 50 57 8388607 HT_ ?_
               refine pureV 23 51 57 16777215 HT_ ?_
               refine pureU 24 52 57 33554431 HT_ ?_
               refine pureU 25 53 57 67108863 HT_ ?_
               refine pureU 26 54 57 134217727 HT_ ?_
               refine pureU 27 55 57 268435455 HT_ ?_
               refine pureU 28 56 57 536870911 HT_ ?_
               refine pureV 29 57 57 1073741823 HT_ ?_
               refine pureV 30 58 57 2147483647 HT_ ?_
               refine pureU 31 59 57 4294967295 HT_ ?_
               refine pureU 32 60 57 8589934591 HT_ ?_
               refine pureU 33 61 57 17179869183 HT_ ?_
               refine pureU 34 62 57 34359738367 HT_ ?_
               refine pureU 35 63 57 68719476735 HT_ ?_
               refine pureU 36 64 57 137438953471 HT_ ?_
               refine pureU 37 65 57 274877906943 HT_ ?_
               refine pureV 38 66 57 549755813887 HT_ ?_
               refine pureV 39 67 57 1099511627775 HT_ ?_
               refine pureU 40 68 57 2199023255551 HT_ ?_
               refine pureU 41 69 57 4398046511103 HT_ ?_
               refine pureU 42 70 57 8796093022207 HT_ ?_
               refine pureU 43 71 57 17592186044415 HT_ ?_
               refine pureU 44 72 57 35184372088831 HT_ ?_
               refine pureU 45 73 57 70368744177663 HT_ ?_
               refine pureU 46 74 57 140737488355327 HT_ ?_
               refine pureV 47 75 57 281474976710655 HT_ ?_
               refine pureV 48 76 57 562949953421311 HT_ ?_
               refine pureU 49 77 57 1125899906842623 HT_ ?_
               refine pureU 50 78 57 2251799813685247 HT_ ?_
               refine pureU 51 79 57 4503599627370495 HT_ ?_
               refine pureU 52 80 57 9007199254740991 HT_ ?_
               refine pureU 53 81 57 18014398509481983 HT_ ?_
               refine pureU 54 82 57 36028797018963967 HT_ ?_
               refine pureU 55 83 57 72057594037927935 HT_ ?_
               refine pureV 56 84 57 144115188075855871 HT_ ?_
               refine done_ (done_of HT_.out (by kernel_rfl)) ?_
               try go_wp2
               go_ret2
               exact ⟨_, by first | rfl | (simp [errW_none, errW_some] <;> rfl) | (simp [*, errW_none, errW_some] <;> rfl), by first | exact Kd.R_nil _ _ _ _ _ | exact Kd.N_nil _ _ _ _ _ | exact Kd.V_nil _ _ _ _ _ | exact Kd.Q_nil _ _ _ _ _ | exact Kd.S_nil _ _ _ _ _, by repeat (first | (with_reducible first | exact HB.out | apply below_alloc | apply pw_below_drewN | apply below_drew1) | exact HB.out)⟩
              ·replace c19 := Bool.eq_false_iff.mpr c19
               subst c19
               have H1 : (if 1 < ((rd_L1 l1 x24_2).length : Int) then (if (rd (rd_L1 l1 x24_2) 1) < 0 then (some (([] : List Int), false)) else (if 2 < ((rd_L1 l1 x24_2).length : Int) then (if (rd (rd_L1 l1 x24_2) 2) ≥ a0 then (some (([] : List Int), false)) else (if (rd (rd_L1 l1 x24_2) 1) ≥ (rd (rd_L1 l1 x24_2) 2) then (some (([] : List Int), false)) else (if 0 ≤ (rd (rd_L1 l1 x24_2) 1) then (if (rd (rd_L1 l1 x24_2) 1) < (x6_2.length : Int) then (if (rd x6_2 (rd (rd_L1 l1 x24_2) 1)) = 0 then (if 0 ≤ (rd (rd_L1 l1 x24_2) 2) then (if (rd (rd_L1 l1 x24_2) 2) < (x6_2.length : Int) then (if (rd x6_2 (rd (rd_L1 l1 x24_2) 2)) = 0 then (impl_RowOfPairs.l0 k2 a0 ((x6_2.set ((rd (rd_L1 l1 x24_2) 1) : Int).toNat (rd (rd_L1 l1 x24_2) 0)).set ((rd (rd_L1 l1 x24_2) 2) : Int).toNat (rd (rd_L1 l1 x24_2) 0)) l1 (l1.length : Int) (wrap64 (x24_2 + 1))) else (some (([] : List Int), false))) else (none)) else (none)) else (some (([] : List Int), false))) else (none)) else (none)))) else (none))) else (none)) = some (r1, r2) := by rw [if_neg (show ¬ (false = true) by decide)] at H; exact H
               clear H
               have H := H1
               clear H1
               by_cases c22 : 1 < ((rd_L1 l1 x24_2).length : Int)
               ·rw [if_pos c22] at H
                have c22b0 : decide (1 < ((rd_L1 l1 x24_2).length : Int)) = true := decide_eq_true c22
                have c22b1 : decide (1 < (rd_L1 l1 x24_2).length) = true := decide_eq_true (by omega)
                clear c22
                by_cases c23 : (rd (rd_L1 l1 x24_2) 1) < 0
                ·rw [if_pos c23] at H
                 have c23b0 : decide ((rd (rd_L1 l1 x24_2) 1) < 0) = true := decide_eq_true c23
                 clear c23
                 simp only [Option.some.injEq, Prod.mk.injEq] at H
                 obtain ⟨rfl, rfl⟩ := H
                 have p152 : 0 ≤ (x24_2 : Int) := of_decide_eq_true (by first | (with_reducible assumption) | assumption)
                 have q152 : x24_2 < (l1.length : Int) := of_decide_eq_true (by first | (with_reducible assumption) | assumption)
                 obtain ⟨ad152, A152_0, c152_0, e152, hx152_0, hl152_0, hi152_0⟩ := at_L1 HR1.out x24_2 p152 q152
                 cases e152
                 replace hx152_0 := (HB.out.cell (World.block_lt_of_cell? w _ hx152_0)).trans hx152_0
                 have HR152_0 := Aside0.mk hi152_0
                 have HC152_0 := Aside0.mk hl152_0
                 clear hi152_0 hl152_0
                 replace p152 := eq_true p152
                 replace q152 := eq_true q152
                 try go_wp2
                 have n0_ := Aside0.mk (Kd.R_drew HO_6.out)
                 have n1_ := Aside0.mk (below_drew1 HB.out)
                 clear HO_6
                 clear HB
                 have HO_6 := n0_
                 have HB := n1_
                 clear n0_ n1_
                 have p153 : 0 ≤ (0 : Int) := (by omega)
                 have q153 : 0 < ((rd_L1 l1 x24_2).length : Int) := of_decide_eq_true (by first | (with_reducible assumption) | assumption)
                 obtain ⟨ad153, e153, hx153_0⟩ := Kd.at_int HR152_0.out 0 p153 q153
                 have hw153_0 := hx153_0
                 (try rw [show ((0 : Int)).toNat = 0 from rfl] at hw153_0)
                 (try rw [show 0 * 1 = 0 from rfl] at hw153_0)
                 (try rw [Addr.add_zero'] at hw153_0)
                 cases e153
                 have qi153 : (0 < (rd_L1 l1 x24_2).length) = True := eq_true (by omega)
                 (try rw [show ((0 : Int)).toNat = 0 from rfl] at hx153_0)
                 (try rw [Addr.add_zero'] at hx153_0)
                 replace hx153_0 := (HB.out.cell (World.block_lt_of_cell? w _ hx153_0)).trans hx153_0
                 replace p153 := eq_true p153
                 replace q153 := eq_true q153
                 have p155 : 0 ≤ (0 : Int) := (by omega)
                 have q155 : 0 < ((rd_L1 l1 x24_2).length : Int) := of_decide_eq_true (by first | (with_reducible assumption) | assumption)
                 obtain ⟨ad155, e155, hx155_0⟩ := Kd.at_int HR152_0.out 0 p155 q155
                 have hw155_0 := hx155_0
                 (try rw [show ((0 : Int)).toNat = 0 from rfl] at hw155_0)
                 (try rw [show 0 * 1 = 0 from rfl] at hw155_0)
                 (try rw [Addr.add_zero'] at hw155_0)
                 obtain rfl : ad153 = ad155 := (by injection e155)
                 have qi155 : (0 < (rd_L1 l1 x24_2).length) = True := eq_true (by omega)
                 (try rw [show ((0 : Int)).toNat = 0 from rfl] at hx155_0)
                 (try rw [Addr.add_zero'] at hx155_0)
                 replace hx155_0 := (HB.out.cell (World.block_lt_of_cell? w _ hx155_0)).trans hx155_0
                 replace p155 := eq_true p155
                 replace q155 := eq_true q155
                 have p157 : 0 ≤ (1 : Int) := (by omega)
                 have q157 : 1 < ((rd_L1 l1 x24_2).length : Int) := of_decide_eq_true (by first | (with_reducible assumption) | assumption)
                 obtain ⟨ad157, e157, hx157_0⟩ := Kd.at_int HR152_0.out 1 p157 q157
                 have hw157_0 := hx157_0
                 (try rw [show ((1 : Int)).toNat = 1 from rfl] at hw157_0)
                 (try rw [show 1 * 1 = 1 from rfl] at hw157_0)
                 (try simp only [Nat.reduceMul, Nat.reduceEqDiff, Go.Addr.add, ↓reduceIte] at hw157_0)
                 obtain rfl : ad153 = ad157 := (by injection e157)
                 (try simp only [show (1 : Int).toNat = 1 from rfl, Nat.reduceMul, Nat.reduceEqDiff, Go.Addr.add, ↓reduceIte] at hx157_0)
                 have qi157 : (1 < (rd_L1 l1 x24_2).length) = True := eq_true (by omega)
                 (try rw [show ((1 : Int)).toNat = 1 from rfl] at hx157_0)
                 replace hx157_0 := (HB.out.cell (World.block_lt_of_cell? w _ hx157_0)).trans hx157_0
                 replace p157 := eq_true p157
                 replace q157 := eq_true q157
                 refine start_ (n := 57) (S := fun w' => w'.cell? ad153 = some (.int .i64 (rd (rd_L1 l1 x24_2) 0)) ∧ w'.cell? ad153 = some (.int .i64 (rd (rd_L1 l1 x24_2) 0)) ∧ w'.cell? ⟨ad153.block, ad153.off + 1, none⟩ = some (.int .i64 (rd (rd_L1 l1 x24_2) 1))) (ds := []) (mb 57 0) (by kernel_rfl) rfl rfl ⟨((HB.out.cell (World.block_lt_of_cell? w _ hw153_0)).trans hw153_0), ((HB.out.cell (World.block_lt_of_cell? w _ hw155_0)).trans hw155_0), ((HB.out.cell (World.block_lt_of_cell? w _ hw157_0)).trans hw157_0)⟩ (fun hHeld => ?_); refine with_tabW impl_RowOfPairs.tab7 impl_RowOfPairs.bits7 (fun HT_ HW_ => ?_)
                 generalize wr.drew = w24 at HO_6 HB hx153_0 hx155_0 hx157_0 hHeld ⊢
                 refine pureV 0 28 57 1 HT_ ?_
                 refine pureV 1 29 57 3 HT_ ?_
                 refine pureV 2 30 57 7 HT_ ?_
                 refine pureV 3 31 57 15 HT_ ?_
                 refine pureV 4 32 57 31 HT_ ?_
                 refine pureV 5 33 57 63 HT_ ?_
                 refine takeV 6 34 57 127 HT_ HW_ hHeld rfl (by rintro w' ⟨s0, s1, s2⟩; go_simp; with_reducible rfl) ?_
                 refine one_ (i := 7) (N := some 35) (mb 57 255) rfl rfl (one_of HT_.out (by kernel_rfl)) (by decide) (fun K hK => ?_)
                 refine goes_ Try.func35 (by kernel_rfl) rfl #[.int .i64 (rd (rd_L1 l1 x24_2) 0)] (by rfl) rfl rfl (by (try simp only [List.map_toArray, List.map_cons, List.map_nil]); first | done | rfl | (simp only [List.length_drop, List.length_take]; rfl)) ?_
                 with_reducible refine (impl_isNumber.calls (rd (rd_L1 l1 x24_2) 0) true _ A16.out).mono ?_
                 rintro e w' ⟨rfl, ⟨nd, rfl⟩⟩
                 refine ⟨_, rfl, ?_⟩
                 obtain ⟨Ao25, co25, eo25⟩ := Kd.R_slice HO_6.out
                 (first | subst eo25 | (injection eo25 with f1_ f2_ f3_; have f4_ := f1_.symm; have f5_ := f3_.symm; clear f1_ f2_ f3_; subst f4_; subst f5_))
                 refine hK.out _ _ ⟨((HB.out.cell (World.block_lt_of_cell? w _ hw153_0)).trans hw153_0), ((HB.out.cell (World.block_lt_of_cell? w _ hw155_0)).trans hw155_0), ((HB.out.cell (World.block_lt_of_cell? w _ hw157_0)).trans hw157_0)⟩ (fun hHeld => ?_)
                 clear hK K
                 refine norm_ (a' := ?_) ?_ ?_
                 rotate_left
                 ·show Act.put _ (some 35) _ = _
                  simp only [Act.put, List.setIfInBounds_toArray, List.set_cons_zero, List.set_cons_succ, i64_w, i32_w]
                  rfl
                 refine pureV 8 36 57 511 HT_ ?_
                 refine pureV 9 37 57 1023 HT_ ?_
                 refine pureV 10 38 57 2047 HT_ ?_
                 refine pureV 11 39 57 4095 HT_ ?_
                 refine pureV 12 40 57 8191 HT_ ?_
                 refine pureV 13 41 57 16383 HT_ ?_
                 refine takeV 14 42 57 32767 HT_ HW_ hHeld rfl (by rintro w' ⟨s0, s1, s2⟩; go_simp; with_reducible rfl) ?_
                 refine one_ (i := 15) (N := some 43) (mb 57 65535) rfl rfl (one_of HT_.out (by kernel_rfl)) (by decide) (fun K hK => ?_)
                 refine goes_ Try.func36 (by kernel_rfl) rfl #[.slice Ao25 x6_2.length co25, .int .i64 (rd (rd_L1 l1 x24_2) 0)] (by rfl) rfl rfl (by (try simp only [List.map_toArray, List.map_cons, List.map_nil]); first | done | rfl | (simp only [List.length_drop, List.length_take]; rfl)) ?_
                 with_reducible refine (slices_Contains_int_int.calls k2 _ _ x6_2 (rd (rd_L1 l1 x24_2) 0) false _ ?side1 ?side2 A18.out).mono ?_
                 (case side1 => repeat (first | exact (Kd.R_reads' HO_6.out).2.2 | (with_reducible refine Kd.C_alloc ?_ _) | (with_reducible refine Kd.C_drewN ?_ _) | (with_reducible refine Kd.C_drew ?_)))
                 (case side2 => exact (Kd.R_reads' HO_6.out).2.1)
                 rintro e w' ⟨rfl, ⟨nd, rfl⟩⟩
                 refine ⟨_, rfl, ?_⟩
                 refine hK.out _ _ ⟨((HB.out.cell (World.block_lt_of_cell? w _ hw153_0)).trans hw153_0), ((HB.out.cell (World.block_lt_of_cell? w _ hw155_0)).trans hw155_0), ((HB.out.cell (World.block_lt_of_cell? w _ hw157_0)).trans hw157_0)⟩ (fun hHeld => ?_)
                 clear hK K
                 refine norm_ (a' := ?_) ?_ ?_
                 rotate_left
                 ·show Act.put _ (some 43) _ = _
                  simp only [Act.put, List.setIfInBounds_toArray, List.set_cons_zero, List.set_cons_succ, i64_w, i32_w]
                  rfl
                 refine pureV 16 44 57 131071 HT_ ?_
                 refine pureV 17 45 57 262143 HT_ ?_
                 refine pureV 18 46 57 524287 HT_ ?_
                 refine pureV 19 47 57 1048575 HT_ ?_
                 refine takeV 20 48 57 2097151 HT_ HW_ hHeld rfl (by rintro w' ⟨s0, s1, s2⟩; go_simp; with_reducible rfl) ?_
                 refine pureV 21 49 57 4194303 HT_ ?_
                 refine pureV 22 50 57 8388607 HT_ ?_
                 refine pureV 23 51 57 16777215 HT_ ?_
                 refine pureU 24 52 57 33554431 HT_ ?_
                 refine pureU 25 53 57 67108863 HT_ ?_
                 refine pureU 26 54 57 134217727 HT_ ?_
                 refine pureU 27 55 57 268435455 HT_ ?_
                 refine pureU 28 56 57 536870911 HT_ ?_
                 refine pureV 29 57 57 1073741823 HT_ ?_
                 refine pureV 30 58 57 2147483647 HT_ ?_
                 refine pureU 31 59 57 4294967295 HT_ ?_
                 refine pureU 32 60 57 8589934591 HT_ ?_
                 refine pureU 33 61 57 17179869183 HT_ ?_
                 refine pureU 34 62 57 34359738367 HT_ ?_
                 refine pureU 35 63 57 68719476735 HT_ ?_
                 refine pureU 36 64 57 137438953471 HT_ ?_
                 refine pureU 37 65 57 274877906943 HT_ ?_
                 refine pureV 38 66 57 549755813887 HT_ ?_
                 refine pureV 39 67 57 1099511627775 HT_ ?_
                 refine pureU 40 68 57 2199023255551 HT_ ?_
                 refine pureU 41 69 57 4398046511103 HT_ ?_
                 refine pureU 42 70 57 8796093022207 HT_ ?_
                 refine pureU 43 71 57 17592186044415 HT_ ?_
                 refine pureU 44 72 57 35184372088831 HT_ ?_
                 refine pureU 45 73 57 70368744177663 HT_ ?_
                 refine pureU 46 74 57 140737488355327 HT_ ?_
                 refine pureV 47 75 57 281474976710655 HT_ ?_
                 refine pureV 48 76 57 562949953421311 HT_ ?_
                 refine pureU 49 77 57 1125899906842623 HT_ ?_
                 refine pureU 50 78 57 2251799813685247 HT_ ?_
                 refine pureU 51 79 57 4503599627370495 HT_ ?_
                 refine pureU 52 80 57 9007199254740991 HT_ ?_
                 refine pureU 53 81 57 18014398509481983 HT_ ?_
                 refine pureU 54 82 57 36028797018963967 HT_ ?_
                 refine pureU 55 83 57 72057594037927935 HT_ ?_
                 refine pureV 56 84 57 144115188075855871 HT_ ?_
                 refine done_ (done_of HT_.out (by kernel_rfl)) ?_
                 try go_wp2
                 go_ret2
                 exact ⟨_, by first | rfl | (simp [errW_none, errW_some] <;> rfl) | (simp [*, errW_none, errW_some] <;> rfl), by first | exact Kd.R_nil _ _ _ _ _ | exact Kd.N_nil _ _ _ _ _ | exact Kd.V_nil _ _ _ _ _ | exact Kd.Q_nil _ _ _ _ _ | exact Kd.S_nil _ _ _ _ _, by repeat (first | (with_reducible first | exact HB.out | apply below_alloc | apply pw_below_drewN | apply below_drew1) | exact HB.out)⟩
                ·rw [if_neg c23] at H
                 have c23b0 : decide ((rd (rd_L1 l1 x24_2) 1) < 0) = false := decide_eq_false c23
                 clear c23
                 by_cases c26 : 2 < ((rd_L1 l1 x24_2).length : Int)
                 ·rw [if_pos c26] at H
                  have c26b0 : decide (2 < ((rd_L1 l1 x24_2).length : Int)) = true := decide_eq_true c26
                  have c26b1 : decide (2 < (rd_L1 l1 x24_2).length) = true := decide_eq_true (by omega)
                  clear c26
                  by_cases c27 : (rd (rd_L1 l1 x24_2) 2) ≥ a0
                  ·rw [if_pos c27] at H
                   have c27b0 : decide (a0 ≤ (rd (rd_L1 l1 x24_2) 2)) = true := decide_eq_true c27
                   clear c27
                   simp only [Option.some.injEq, Prod.mk.injEq] at H
                   obtain ⟨rfl, rfl⟩ := H
                   have p152 : 0 ≤ (x24_2 : Int) := of_decide_eq_true (by first | (with_reducible assumption) | assumption)
                   have q152 : x24_2 < (l1.length : Int) := of_decide_eq_true (by first | (with_reducible assumption) | assumption)
                   obtain ⟨ad152, A152_0, c152_0, e152, hx152_0, hl152_0, hi152_0⟩ := at_L1 HR1.out x24_2 p152 q152
                   cases e152
                   replace hx152_0 := (HB.out.cell (World.block_lt_of_cell? w _ hx152_0)).trans hx152_0
                   have HR152_0 := Aside0.mk hi152_0
                   have HC152_0 := Aside0.mk hl152_0
                   clear hi152_0 hl152_0
                   replace p152 := eq_true p152
                   replace q152 := eq_true q152
                   try go_wp2
                   have n0_ := Aside0.mk (Kd.R_drew HO_6.out)
                   have n1_ := Aside0.mk (below_drew1 HB.out)
                   clear HO_6
                   clear HB
                   have HO_6 := n0_
                   have HB := n1_
                   clear n0_ n1_
                   have p153 : 0 ≤ (0 : Int) := (by omega)
                   have q153 : 0 < ((rd_L1 l1 x24_2).length : Int) := of_decide_eq_true (by first | (with_reducible assumption) | assumption)
                   obtain ⟨ad153, e153, hx153_0⟩ := Kd.at_int HR152_0.out 0 p153 q153
                   have hw153_0 := hx153_0
                   (try rw [show ((0 : Int)).toNat = 0 from rfl] at hw153_0)
                   (try rw [show 0 * 1 = 0 from rfl] at hw153_0)
                   (try rw [Addr.add_zero'] at hw153_0)
                   cases e153
                   have qi153 : (0 < (rd_L1 l1 x24_2).length) = True := eq_true (by omega)
                   (try rw [show ((0 : Int)).toNat = 0 from rfl] at hx153_0)
                   (try rw [Addr.add_zero'] at hx153_0)
                   replace hx153_0 := (HB.out.cell (World.block_lt_of_cell? w _ hx153_0)).trans hx153_0
                   replace p153 := eq_true p153
                   replace q153 := eq_true q153
                   have p155 : 0 ≤ (0 : Int) := (by omega)
                   have q155 : 0 < ((rd_L1 l1 x24_2).length : Int) := of_decide_eq_true (by first | (with_reducible assumption) | assumption)
                   obtain ⟨ad155, e155, hx155_0⟩ := Kd.at_int HR152_0.out 0 p155 q155
                   have hw155_0 := hx155_0
                   (try rw [show ((0 : Int)).toNat = 0 from rfl] at hw155_0)
                   (try rw [show 0 * 1 = 0 from rfl] at hw155_0)
                   (try rw [Addr.add_zero'] at hw155_0)
                   obtain rfl : ad153 = ad155 := (by injection e155)
                   have qi155 : (0 < (rd_L1 l1 x24_2).length) = True := eq_true (by omega)
                   (try rw [show ((0 : Int)).toNat = 0 from rfl] at hx155_0)
                   (try rw [Addr.add_zero'] at hx155_0)
                   replace hx155_0 := (HB.out.cell (World.block_lt_of_cell? w _ hx155_0)).trans hx155_0
                   replace p155 := eq_true p155
                   replace q155 := eq_true q155
                   have p157 : 0 ≤ (1 : Int) := (by omega)
                   have q157 : 1 < ((rd_L1 l1 x24_2).length : Int) := of_decide_eq_true (by first | (with_reducible assumption) | assumption)
                   obtain ⟨ad157, e157, hx157_0⟩ := Kd.at_int HR152_0.out 1 p157 q157
                   have hw157_0 := hx157_0
                   (try rw [show ((1 : Int)).toNat = 1 from rfl] at hw157_0)
                   (try rw [show 1 * 1 = 1 from rfl] at hw157_0)
                   (try simp only [Nat.reduceMul, Nat.reduceEqDiff, Go.Addr.add, ↓reduceIte] at hw157_0)
                   obtain rfl : ad153 = ad157 := (by injection e157)
                   (try simp only [show (1 : Int).toNat = 1 from rfl, Nat.reduceMul, Nat.reduceEqDiff, Go.Addr.add, ↓reduceIte] at hx157_0)
                   have qi157 : (1 < (rd_L1 l1 x24_2).length) = True := eq_true (by omega)
                   (try rw [show ((1 : Int)).toNat = 1 from rfl] at hx157_0)
                   replace hx157_0 := (HB.out.cell (World.block_lt_of_cell? w _ hx157_0)).trans hx157_0
                   replace p157 := eq_true p157
                   replace q157 := eq_true q157
                   have p158 : 0 ≤ (2 : Int) := (by omega)
                   have q158 : 2 < ((rd_L1 l1 x24_2).length : Int) := of_decide_eq_true (by first | (with_reducible assumption) | assumption)
                   obtain ⟨ad158, e158, hx158_0⟩ := Kd.at_int HR152_0.out 2 p158 q158
                   have hw158_0 := hx158_0
                   (try rw [show ((2 : Int)).toNat = 2 from rfl] at hw158_0)
                   (try rw [show 2 * 1 = 2 from rfl] at hw158_0)
                   (try simp only [Nat.reduceMul, Nat.reduceEqDiff, Go.Addr.add, ↓reduceIte] at hw158_0)
                   obtain rfl : ad153 = ad158 := (by injection e158)
                   (try simp only [show (2 : Int).toNat = 2 from rfl, Nat.reduceMul, Nat.reduceEqDiff, Go.Addr.add, ↓reduceIte] at hx158_0)
                   have qi158 : (2 < (rd_L1 l1 x24_2).length) = True := eq_true (by omega)
                   (try rw [show ((2 : Int)).toNat = 2 from rfl] at hx158_0)
                   replace hx158_0 := (HB.out.cell (World.block_lt_of_cell? w _ hx158_0)).trans hx158_0
                   replace p158 := eq_true p158
                   replace q158 := eq_true q158
                   refine start_ (n := 57) (S := fun w' => w'.cell? ad153 = some (.int .i64 (rd (rd_L1 l1 x24_2) 0)) ∧ w'.cell? ad153 = some (.int .i64 (rd (rd_L1 l1 x24_2) 0)) ∧ w'.cell? ⟨ad153.block, ad153.off + 1, none⟩ = some (.int .i64 (rd (rd_L1 l1 x24_2) 1)) ∧ w'.cell? ⟨ad153.block, ad153.off + 2, none⟩ = some (.int .i64 (rd (rd_L1 l1 x24_2) 2))) (ds := []) (mb 57 0) (by kernel_rfl) rfl rfl ⟨((HB.out.cell (World.block_lt_of_cell? w _ hw153_0)).trans hw153_0), ((HB.out.cell (World.block_lt_of_cell? w _ hw155_0)).trans hw155_0), ((HB.out.cell (World.block_lt_of_cell? w _ hw157_0)).trans hw157_0), ((HB.out.cell (World.block_lt_of_cell? w _ hw158_0)).trans hw158_0)⟩ (fun hHeld => ?_); refine with_tabW impl_RowOfPairs.tab7 impl_RowOfPairs.bits7 (fun HT_ HW_ => ?_)
                   generalize wr.drew = w28 at HO_6 HB hx153_0 hx155_0 hx157_0 hx158_0 hHeld ⊢
                   refine pureV 0 28 57 1 HT_ ?_
                   refine pureV 1 29 57 3 HT_ ?_
                   refine pureV 2 30 57 7 HT_ ?_
                   refine pureV 3 31 57 15 HT_ ?_
                   refine pureV 4 32 57 31 HT_ ?_
                   refine pureV 5 33 57 63 HT_ ?_
                   refine takeV 6 34 57 127 HT_ HW_ hHeld rfl (by rintro w' ⟨s0, s1, s2, s3⟩; go_simp; with_reducible rfl) ?_
                   refine one_ (i := 7) (N := some 35) (mb 57 255) rfl rfl (one_of HT_.out (by kernel_rfl)) (by decide) (fun K hK => ?_)
                   refine goes_ Try.func35 (by kernel_rfl) rfl #[.int .i64 (rd (rd_L1 l1 x24_2) 0)] (by rfl) rfl rfl (by (try simp only [List.map_toArray, List.map_cons, List.map_nil]); first | done | rfl | (simp only [List.length_drop, List.length_take]; rfl)) ?_
                   with_reducible refine (impl_isNumber.calls (rd (rd_L1 l1 x24_2) 0) true _ A16.out).mono ?_
                   rintro e w' ⟨rfl, ⟨nd, rfl⟩⟩
                   refine ⟨_, rfl, ?_⟩
                   obtain ⟨Ao29, co29, eo29⟩ := Kd.R_slice HO_6.out
                   (first | subst eo29 | (injection eo29 with f1_ f2_ f3_; have f4_ := f1_.symm; have f5_ := f3_.symm; clear f1_ f2_ f3_; subst f4_; subst f5_))
                   refine hK.out _ _ ⟨((HB.out.cell (World.block_lt_of_cell? w _ hw153_0)).trans hw153_0), ((HB.out.cell (World.block_lt_of_cell? w _ hw155_0)).trans hw155_0), ((HB.out.cell (World.block_lt_of_cell? w _ hw157_0)).trans hw157_0), ((HB.out.cell (World.block_lt_of_cell? w _ hw158_0)).trans hw158_0)⟩ (fun hHeld => ?_)
                   clear hK K
                   refine norm_ (a' := ?_) ?_ ?_
                   rotate_left
                   ·show Act.put _ (some 35) _ = _
                    simp only [Act.put, List.setIfInBounds_toArray, List.set_cons_zero, List.set_cons_succ, i64_w, i32_w]
                    rfl
                   refine pureV 8 36 57 511 HT_ ?_
                   refine pureV 9 37 57 1023 HT_ ?_
                   refine pureV 10 38 57 2047 HT_ ?_
                   refine pureV 11 39 57 4095 HT_ ?_
                   refine pureV 12 40 57 8191 HT_ ?_
                   refine pureV 13 41 57 16383 HT_ ?_
                   refine takeV 14 42 57 32767 HT_ HW_ hHeld rfl (by rintro w' ⟨s0, s1, s2, s3⟩; go_simp; with_reducible rfl) ?_
                   refine one_ (i := 15) (N := some 43) (mb 57 65535) rfl rfl (one_of HT_.out (by kernel_rfl)) (by decide) (fun K hK => ?_)
                   refine goes_ Try.func36 (by kernel_rfl) rfl #[.slice Ao29 x6_2.length co29, .int .i64 (rd (rd_L1 l1 x24_2) 0)] (by rfl) rfl rfl (by (try simp only [List.map_toArray, List.map_cons, List.map_nil]); first | done | rfl | (simp only [List.length_drop, List.length_take]; rfl)) ?_
                   with_reducible refine (slices_Contains_int_int.calls k2 _ _ x6_2 (rd (rd_L1 l1 x24_2) 0) false _ ?side1 ?side2 A18.out).mono ?_
                   (case side1 => repeat (first | exact (Kd.R_reads' HO_6.out).2.2 | (with_reducible refine Kd.C_alloc ?_ _) | (with_reducible refine Kd.C_drewN ?_ _) | (with_reducible refine Kd.C_drew ?_)))
                   (case side2 => exact (Kd.R_reads' HO_6.out).2.1)
                   rintro e w' ⟨rfl, ⟨nd, rfl⟩⟩
                   refine ⟨_, rfl, ?_⟩
                   refine hK.out _ _ ⟨((HB.out.cell (World.block_lt_of_cell? w _ hw153_0)).trans hw153_0), ((HB.out.cell (World.block_lt_of_cell? w _ hw155_0)).trans hw155_0), ((HB.out.cell (World.block_lt_of_cell? w _ hw157_0)).trans hw157_0), ((HB.out.cell (World.block_lt_of_cell? w _ hw158_0)).trans hw158_0)⟩ (fun hHeld => ?_)
                   clear hK K
                   refine norm_ (a' := ?_) ?_ ?_
                   rotate_left
                   ·show Act.put _ (some 43) _ = _
                    simp only [Act.put, List.setIfInBounds_toArray, List.set_cons_zero, List.set_cons_succ, i64_w, i32_w]
                    rfl
                   refine pureV 16 44 57 131071 HT_ ?_
                   refine pureV 17 45 57 262143 HT_ ?_
                   refine pureV 18 46 57 524287 HT_ ?_
                   refine pureV 19 47 57 1048575 HT_ ?_
                   refine takeV 20 48 57 2097151 HT_ HW_ hHeld rfl (by rintro w' ⟨s0, s1, s2, s3⟩; go_simp; with_reducible rfl) ?_
                   refine pureV 21 49 57 4194303 HT_ ?_
                   refine pureV 22 50 57 8388607 HT_ ?_
                   refine pureV 23 51 57 16777215 HT_ ?_
                   refine pureV 24 52 57 33554431 HT_ ?_
                   refine pureV 25 53 57 67108863 HT_ ?_
                   refine pureV 27 55 57 201326591 HT_ ?_
                   refine takeV 26 54 57 268435455 HT_ HW_ hHeld rfl (by rintro w' ⟨s0, s1, s2, s3⟩; go_simp; with_reducible rfl) ?_
                   refine pureV 28 56 57 536870911 HT_ ?_
                   refine pureV 29 57 57 1073741823 HT_ ?_
                   refine pureV 30 58 57 2147483647 HT_ ?_
                   refine pureU 31 59 57 4294967295 HT_ ?_
                   refine pureU 32 60 57 8589934591 HT_ ?_
                   refine pureU 33 61 57 17179869183 HT_ ?_
                   refine pureU 34 62 57 34359738367 HT_ ?_
                   refine pureU 35 63 57 68719476735 HT_ ?_
                   refine pureU 36 64 57 137438953471 HT_ ?_
                   refine pureU 37 65 57 274877906943 HT_ ?_
                   refine pureV 38 66 57 549755813887 HT_ ?_
                   refine pureV 39 67 57 1099511627775 HT_ ?_
                   refine pureU 40 68 57 2199023255551 HT_ ?_
                   refine pureU 41 69 57 4398046511103 HT_ ?_
                   refine pureU 42 70 57 8796093022207 HT_ ?_
                   refine pureU 43 71 57 17592186044415 HT_ ?_
                   refine pureU 44 72 57 35184372088831 HT_ ?_
                   refine pureU 45 73 57 70368744177663 HT_ ?_
                   refine pureU 46 74 57 140737488355327 HT_ ?_
                   refine pureV 47 75 57 281474976710655 HT_ ?_
                   refine pureV 48 76 57 562949953421311 HT_ ?_
                   refine pureU 49 77 57 1125899906842623 HT_ ?_
                   refine pureU 50 78 57 2251799813685247 HT_ ?_
                   refine pureU 51 79 57 4503599627370495 HT_ ?_
                   refine pureU 52 80 57 9007199254740991 HT_ ?_
                   refine pureU 53 81 57 18014398509481983 HT_ ?_
                   refine pureU 54 82 57 36028797018963967 HT_ ?_
                   refine pureU 55 83 57 72057594037927935 HT_ ?_
                   refine pureV 56 84 57 144115188075855871 HT_ ?_
                   refine done_ (done_of HT_.out (by kernel_rfl)) ?_
                   try go_wp2
                   go_ret2
                   exact ⟨_, by first | rfl | (simp [errW_none, errW_some] <;> rfl) | (simp [*, errW_none, errW_some] <;> rfl), by first | exact Kd.R_nil _ _ _ _ _ | exact Kd.N_nil _ _ _ _ _ | exact Kd.V_nil _ _ _ _ _ | exact Kd.Q_nil _ _ _ _ _ | exact Kd.S_nil _ _ _ _ _, by repeat (first | (with_reducible first | exact HB.out | apply below_alloc | apply pw_below_drewN | apply below_drew1) | exact HB.out)⟩
                  ·rw [if_neg c27] at H
                   have c27b0 : decide (a0 ≤ (rd (rd_L1 l1 x24_2) 2)) = false := decide_eq_false c27
                   clear c27
                   by_cases c30 : (rd (rd_L1 l1 x24_2) 1) ≥ (rd (rd_L1 l1 x24_2) 2)
                   ·rw [if_pos c30] at H
                    have c30b0 : decide ((rd (rd_L1 l1 x24_2) 2) ≤ (rd (rd_L1 l1 x24_2) 1)) = true := decide_eq_true c30
                    clear c30
                    simp only [Option.some.injEq, Prod.mk.injEq] at H
                    obtain ⟨rfl, rfl⟩ := H
                    have p152 : 0 ≤ (x24_2 : Int) := of_decide_eq_true (by first | (with_reducible assumption) | assumption)
                    have q152 : x24_2 < (l1.length : Int) := of_decide_eq_true (by first | (with_reducible assumption) | assumption)
                    obtain ⟨ad152, A152_0, c152_0, e152, hx152_0, hl152_0, hi152_0⟩ := at_L1 HR1.out x24_2 p152 q152
                    cases e152
                    replace hx152_0 := (HB.out.cell (World.block_lt_of_cell? w _ hx152_0)).trans hx152_0
                    have HR152_0 := Aside0.mk hi152_0
                    have HC152_0 := Aside0.mk hl152_0
                    clear hi152_0 hl152_0
                    replace p152 := eq_true p152
                    replace q152 := eq_true q152
                    try go_wp2
                    have n0_ := Aside0.mk (Kd.R_drew HO_6.out)
                    have n1_ := Aside0.mk (below_drew1 HB.out)
                    clear HO_6
                    clear HB
                    have HO_6 := n0_
                    have HB := n1_
                    clear n0_ n1_
                    have p153 : 0 ≤ (0 : Int) := (by omega)
                    have q153 : 0 < ((rd_L1 l1 x24_2).length : Int) := of_decide_eq_true (by first | (with_reducible assumption) | assumption)
                    obtain ⟨ad153, e153, hx153_0⟩ := Kd.at_int HR152_0.out 0 p153 q153
                    have hw153_0 := hx153_0
                    (try rw [show ((0 : Int)).toNat = 0 from rfl] at hw153_0)
                    (try rw [show 0 * 1 = 0 from rfl] at hw153_0)
                    (try rw [Addr.add_zero'] at hw153_0)
                    cases e153
                    have qi153 : (0 < (rd_L1 l1 x24_2).length) = True := eq_true (by omega)
                    (try rw [show ((0 : Int)).toNat = 0 from rfl] at hx153_0)
                    (try rw [Addr.add_zero'] at hx153_0)
                    replace hx153_0 := (HB.out.cell (World.block_lt_of_cell? w _ hx153_0)).trans hx153_0
                    replace p153 := eq_true p153
                    replace q153 := eq_true q153
                    have p155 : 0 ≤ (0 : Int) := (by omega)
                    have q155 : 0 < ((rd_L1 l1 x24_2).length : Int) := of_decide_eq_true (by first | (with_reducible assumption) | assumption)
                    obtain ⟨ad155, e155, hx155_0⟩ := Kd.at_int HR152_0.out 0 p155 q155
                    have hw155_0 := hx155_0
                    (try rw [show ((0 : Int)).toNat = 0 from rfl] at hw155_0)
                    (try rw [show 0 * 1 = 0 from rfl] at hw155_0)
                    (try rw [Addr.add_zero'] at hw155_0)
                    obtain rfl : ad153 = ad155 := (by injection e155)
                    have qi155 : (0 < (rd_L1 l1 x24_2).length) = True := eq_true (by omega)
                    (try rw [show ((0 : Int)).toNat = 0 from rfl] at hx155_0)
                    (try rw [Addr.add_zero'] at hx155_0)
                    replace hx155_0 := (HB.out.cell (World.block_lt_of_cell? w _ hx155_0)).trans hx155_0
                    replace p155 := eq_true p155
                    replace q155 := eq_true q155
                    have p157 : 0 ≤ (1 : Int) := (by omega)
                    have q157 : 1 < ((rd_L1 l1 x24_2).length : Int) := of_decide_eq_true (by first | (with_reducible assumption) | assumption)
                    obtain ⟨ad157, e157, hx157_0⟩ := Kd.at_int HR152_0.out 1 p157 q157
                    have hw157_0 := hx157_0
                    (try rw [show ((1 : Int)).toNat = 1 from rfl] at hw157_0)
                    (try rw [show 1 * 1 = 1 from rfl] at hw157_0)
                    (try simp only [Nat.reduceMul, Nat.reduceEqDiff, Go.Addr.add, ↓reduceIte] at hw157_0)
                    obtain rfl : ad153 = ad157 := (by injection e157)
                    (try simp only [show (1 : Int).toNat = 1 from rfl, Nat.reduceMul, Nat.reduceEqDiff, Go.Addr.add, ↓reduceIte] at hx157_0)
                    have qi157 : (1 < (rd_L1 l1 x24_2).length) = True := eq_true (by omega)
                    (try rw [show ((1 : Int)).toNat = 1 from rfl] at hx157_0)
                    replace hx157_0 := (HB.out.cell (World.block_lt_of_cell? w _ hx157_0)).trans hx157_0
                    replace p157 := eq_true p157
                    replace q157 := eq_true q157
                    have p158 : 0 ≤ (2 : Int) := (by omega)
                    have q158 : 2 < ((rd_L1 l1 x24_2).length : Int) := of_decide_eq_true (by first | (with_reducible assumption) | assumption)
                    obtain ⟨ad158, e158, hx158_0⟩ := Kd.at_int HR152_0.out 2 p158 q158
                    have hw158_0 := hx158_0
                    (try rw [show ((2 : Int)).toNat = 2 from rfl] at hw158_0)
                    (try rw [show 2 * 1 = 2 from rfl] at hw158_0)
                    (try simp only [Nat.reduceMul, Nat.reduceEqDiff, Go.Addr.add, ↓reduceIte] at hw158_0)
                    obtain rfl : ad153 = ad158 := (by injection e158)
                    (try simp only [show (2 : Int).toNat = 2 from rfl, Nat.reduceMul, Nat.reduceEqDiff, Go.Addr.add, ↓reduceIte] at hx158_0)
                    have qi158 : (2 < (rd_L1 l1 x24_2).length) = True := eq_true (by omega)
                    (try rw [show ((2 : Int)).toNat = 2 from rfl] at hx158_0)
                    replace hx158_0 := (HB.out.cell (World.block_lt_of_cell? w _ hx158_0)).trans hx158_0
                    replace p158 := eq_true p158
                    replace q158 := eq_true q158
                    have p159 : 0 ≤ (1 : Int) := (by omega)
                    have q159 : 1 < ((rd_L1 l1 x24_2).length : Int) := of_decide_eq_true (by first | (with_reducible assumption) | assumption)
                    obtain ⟨ad159, e159, hx159_0⟩ := Kd.at_int HR152_0.out 1 p159 q159
                    have hw159_0 := hx159_0
                    (try rw [show ((1 : Int)).toNat = 1 from rfl] at hw159_0)
                    (try rw [show 1 * 1 = 1 from rfl] at hw159_0)
                    (try simp only [Nat.reduceMul, Nat.reduceEqDiff, Go.Addr.add, ↓reduceIte] at hw159_0)
                    obtain rfl : ad153 = ad159 := (by injection e159)
                    (try simp only [show (1 : Int).toNat = 1 from rfl, Nat.reduceMul, Nat.reduceEqDiff, Go.Addr.add, ↓reduceIte] at hx159_0)
                    have qi159 : (1 < (rd_L1 l1 x24_2).length) = True := eq_true (by omega)
                    (try rw [show ((1 : Int)).toNat = 1 from rfl] at hx159_0)
                    replace hx159_0 := (HB.out.cell (World.block_lt_of_cell? w _ hx159_0)).trans hx159_0
                    replace p159 := eq_true p159
                    replace q159 := eq_true q159
                    have p160 : 0 ≤ (2 : Int) := (by omega)
                    have q160 : 2 < ((rd_L1 l1 x24_2).length : Int) := of_decide_eq_true (by first | (with_reducible assumption) | assumption)
                    obtain ⟨ad160, e160, hx160_0⟩ := Kd.at_int HR152_0.out 2 p160 q160
                    have hw160_0 := hx160_0
                    (try rw [show ((2 : Int)).toNat = 2 from rfl] at hw160_0)
                    (try rw [show 2 * 1 = 2 from rfl] at hw160_0)
                    (try simp only [Nat.reduceMul, Nat.reduceEqDiff, Go.Addr.add, ↓reduceIte] at hw160_0)
                    obtain rfl : ad153 = ad160 := (by injection e160)
                    (try simp only [show (2 : Int).toNat = 2 from rfl, Nat.reduceMul, Nat.reduceEqDiff, Go.Addr.add, ↓reduceIte] at hx160_0)
                    have qi160 : (2 < (rd_L1 l1 x24_2).length) = True := eq_true (by omega)
                    (try rw [show ((2 : Int)).toNat = 2 from rfl] at hx160_0)
                    replace hx160_0 := (HB.out.cell (World.block_lt_of_cell? w _ hx160_0)).trans hx160_0
                    replace p160 := eq_true p160
                    replace q160 := eq_true q160
                    refine start_ (n := 57) (S := fun w' => w'.cell? ad153 = some (.int .i64 (rd (rd_L1 l1 x24_2) 0)) ∧ w'.cell? ad153 = some (.int .i64 (rd (rd_L1 l1 x24_2) 0)) ∧ w'.cell? ⟨ad153.block, ad153.off + 1, none⟩ = some (.int .i64 (rd (rd_L1 l1 x24_2) 1)) ∧ w'.cell? ⟨ad153.block, ad153.off + 2, none⟩ = some (.int .i64 (rd (rd_L1 l1 x24_2) 2)) ∧ w'.cell? ⟨ad153.block, ad153.off + 1, none⟩ = some (.int .i64 (rd (rd_L1 l1 x24_2) 1)) ∧ w'.cell? ⟨ad153.block, ad153.off + 2, none⟩ = some (.int .i64 (rd (rd_L1 l1 x24_2) 2))) (ds := []) (mb 57 0) (by kernel_rfl) rfl rfl ⟨((HB.out.cell (World.block_lt_of_cell? w _ hw153_0)).trans hw153_0), ((HB.out.cell (World.block_lt_of_cell? w _ hw155_0)).trans hw155_0), ((HB.out.cell (World.block_lt_of_cell? w _ hw157_0)).trans hw157_0), ((HB.out.cell (World.block_lt_of_cell? w _ hw158_0)).trans hw158_0), ((HB.out.cell (World.block_lt_of_cell? w _ hw159_0)).trans hw159_0), ((HB.out.cell (World.block_lt_of_cell? w _ hw160_0)).trans hw160_0)⟩ (fun hHeld => ?_); refine with_tabW impl_RowOfPairs.tab7 impl_RowOfPairs.bits7 (fun HT_ HW_ => ?_)
                    generalize wr.drew = w31 at HO_6 HB hx153_0 hx155_0 hx157_0 hx158_0 hx159_0 hx160_0 hHeld ⊢
                    refine pureV 0 28 57 1 HT_ ?_
                    refine pureV 1 29 57 3 HT_ ?_
                    refine pureV 2 30 57 7 HT_ ?_
                    refine pureV 3 31 57 15 HT_ ?_
                    refine pureV 4 32 57 31 HT_ ?_
                    refine pureV 5 33 57 63 HT_ ?_
                    refine takeV 6 34 57 127 HT_ HW_ hHeld rfl (by rintro w' ⟨s0, s1, s2, s3, s4, s5⟩; go_simp; with_reducible rfl) ?_
                    refine one_ (i := 7) (N := some 35) (mb 57 255) rfl rfl (one_of HT_.out (by kernel_rfl)) (by decide) (fun K hK => ?_)
                    refine goes_ Try.func35 (by kernel_rfl) rfl #[.int .i64 (rd (rd_L1 l1 x24_2) 0)] (by rfl) rfl rfl (by (try simp only [List.map_toArray, List.map_cons, List.map_nil]); first | done | rfl | (simp only [List.length_drop, List.length_take]; rfl)) ?_
                    with_reducible refine (impl_isNumber.calls (rd (rd_L1 l1 x24_2) 0) true _ A16.out).mono ?_
                    rintro e w' ⟨rfl, ⟨nd, rfl⟩⟩
                    refine ⟨_, rfl, ?_⟩
                    obtain ⟨Ao32, co32, eo32⟩ := Kd.R_slice HO_6.out
                    (first | subst eo32 | (injection eo32 with f1_ f2_ f3_; have f4_ := f1_.symm; have f5_ := f3_.symm; clear f1_ f2_ f3_; subst f4_; subst f5_))
                    refine hK.out _ _ ⟨((HB.out.cell (World.block_lt_of_cell? w _ hw153_0)).trans hw153_0), ((HB.out.cell (World.block_lt_of_cell? w _ hw155_0)).trans hw155_0), ((HB.out.cell (World.block_lt_of_cell? w _ hw157_0)).trans hw157_0), ((HB.out.cell (World.block_lt_of_cell? w _ hw158_0)).trans hw158_0), ((HB.out.cell (World.block_lt_of_cell? w _ hw159_0)).trans hw159_0), ((HB.out.cell (World.block_lt_of_cell? w _ hw160_0)).trans hw160_0)⟩ (fun hHeld => ?_)
                    clear hK K
                    refine norm_ (a' := ?_) ?_ ?_
                    rotate_left
                    ·show Act.put _ (some 35) _ = _
                     simp only [Act.put, List.setIfInBounds_toArray, List.set_cons_zero, List.set_cons_succ, i64_w, i32_w]
                     rfl
                    refine pureV 8 36 57 511 HT_ ?_
                    refine pureV 9 37 57 1023 HT_ ?_
                    refine pureV 10 38 57 2047 HT_ ?_
                    refine pureV 11 39 57 4095 HT_ ?_
                    refine pureV 12 40 57 8191 HT_ ?_
                    refine pureV 13 41 57 16383 HT_ ?_
                    refine takeV 14 42 57 32767 HT_ HW_ hHeld rfl (by rintro w' ⟨s0, s1, s2, s3, s4, s5⟩; go_simp; with_reducible rfl) ?_
                    refine one_ (i := 15) (N := some 43) (mb 57 65535) rfl rfl (one_of HT_.out (by kernel_rfl)) (by decide) (fun K hK => ?_)
                    refine goes_ Try.func36 (by kernel_rfl) rfl #[.slice Ao32 x6_2.length co32, .int .i64 (rd (rd_L1 l1 x24_2) 0)] (by rfl) rfl rfl (by (try simp only [List.map_toArray, List.map_cons, List.map_nil]); first | done | rfl | (simp only [List.length_drop, List.length_take]; rfl)) ?_
                    with_reducible refine (slices_Contains_int_int.calls k2 _ _ x6_2 (rd (rd_L1 l1 x24_2) 0) false _ ?side1 ?side2 A18.out).mono ?_
                    (case side1 => repeat (first | exact (Kd.R_reads' HO_6.out).2.2 | (with_reducible refine Kd.C_alloc ?_ _) | (with_reducible refine Kd.C_drewN ?_ _) | (with_reducible refine Kd.C_drew ?_)))
                    (case side2 => exact (Kd.R_reads' HO_6.out).2.1)
                    rintro e w' ⟨rfl, ⟨nd, rfl⟩⟩
                    refine ⟨_, rfl, ?_⟩
                    refine hK.out _ _ ⟨((HB.out.cell (World.block_lt_of_cell? w _ hw153_0)).trans hw153_0), ((HB.out.cell (World.block_lt_of_cell? w _ hw155_0)).trans hw155_0), ((HB.out.cell (World.block_lt_of_cell? w _ hw157_0)).trans hw157_0), ((HB.out.cell (World.block_lt_of_cell? w _ hw158_0)).trans hw158_0), ((HB.out.cell (World.block_lt_of_cell? w _ hw159_0)).trans hw159_0), ((HB.out.cell (World.block_lt_of_cell? w _ hw160_0)).trans hw160_0)⟩ (fun hHeld => ?_)
                    clear hK K
                    refine norm_ (a' := ?_) ?_ ?_
                    rotate_left
                    ·show Act.put _ (some 43) _ = _
                     simp only [Act.put, List.setIfInBounds_toArray, List.set_cons_zero, List.set_cons_succ, i64_w, i32_w]
                     rfl
                    refine pureV 16 44 57 131071 HT_ ?_
                    refine pureV 17 45 57 262143 HT_ ?_
                    refine pureV 18 46 57 524287 HT_ ?_
                    refine pureV 19 47 57 1048575 HT_ ?_
                    refine takeV 20 48 57 2097151 HT_ HW_ hHeld rfl (by rintro w' ⟨s0, s1, s2, s3, s4, s5⟩; go_simp; with_reducible rfl) ?_
                    refine pureV 21 49 57 4194303 HT_ ?_
                    refine pureV 22 50 57 8388607 HT_ ?_
                    refine pureV 23 51 57 16777215 HT_ ?_
                    refine pureV 24 52 57 33554431 HT_ ?_
                    refine pureV 25 53 57 67108863 HT_ ?_
                    refine pureV 27 55 57 201326591 HT_ ?_
                    refine takeV 26 54 57 268435455 HT_ HW_ hHeld rfl (by rintro w' ⟨s0, s1, s2, s3, s4, s5⟩; go_simp; with_reducible rfl) ?_
                    refine pureV 28 56 57 536870911 HT_ ?_
                    refine pureV 29 57 57 1073741823 HT_ ?_
                    refine pureV 30 58 57 2147483647 HT_ ?_
                    refine pureV 31 59 57 4294967295 HT_ ?_
                    refine pureV 32 60 57 8589934591 HT_ ?_
                    refine pureV 34 62 57 25769803775 HT_ ?_
                    refine pureV 35 63 57 60129542143 HT_ ?_
                    refine takeV 33 61 57 68719476735 HT_ HW_ hHeld rfl (by rintro w' ⟨s0, s1, s2, s3, s4, s5⟩; go_simp; with_reducible rfl) ?_
                    refine takeV 36 64 57 137438953471 HT_ HW_ hHeld rfl (by rintro w' ⟨s0, s1, s2, s3, s4, s5⟩; go_simp; with_reducible rfl) ?_
                    refine pureV 37 65 57 274877906943 HT_ ?_
                    refine pureV 38 66 57 549755813887 HT_ ?_
                    refine pureV 39 67 57 1099511627775 HT_ ?_
                    refine pureU 40 68 57 2199023255551 HT_ ?_
                    refine pureU 41 69 57 4398046511103 HT_ ?_
                    refine pureU 42 70 57 8796093022207 HT_ ?_
                    refine pureU 43 71 57 17592186044415 HT_ ?_
                    refine pureU 44 72 57 35184372088831 HT_ ?_
                    refine pureU 45 73 57 70368744177663 HT_ ?_
                    refine pureU 46 74 57 140737488355327 HT_ ?_
                    refine pureV 47 75 57 281474976710655 HT_ ?_
                    refine pureV 48 76 57 562949953421311 HT_ ?_
                    refine pureU 49 77 57 1125899906842623 HT_ ?_
                    refine pureU 50 78 57 2251799813685247 HT_ ?_
                    refine pureU 51 79 57 4503599627370495 HT_ ?_
                    refine pureU 52 80 57 9007199254740991 HT_ ?_
                    refine pureU 53 81 57 18014398509481983 HT_ ?_
                    refine pureU 54 82 57 36028797018963967 HT_ ?_
                    refine pureU 55 83 57 72057594037927935 HT_ ?_
                    refine pureV 56 84 57 144115188075855871 HT_ ?_
                    refine done_ (done_of HT_.out (by kernel_rfl)) ?_
                    try go_wp2
                    go_ret2
                    exact ⟨_, by first | rfl | (simp [errW_none, errW_some] <;> rfl) | (simp [*, errW_none, errW_some] <;> rfl), by first | exact Kd.R_nil _ _ _ _ _ | exact Kd.N_nil _ _ _ _ _ | exact Kd.V_nil _ _ _ _ _ | exact Kd.Q_nil _ _ _ _ _ | exact Kd.S_nil _ _ _ _ _, by repeat (first | (with_reducible first | exact HB.out | apply below_alloc | apply pw_below_drewN | apply below_drew1) | exact HB.out)⟩
                   ·rw [if_neg c30] at H
                    have c30b0 : decide ((rd (rd_L1 l1 x24_2) 2) ≤ (rd (rd_L1 l1 x24_2) 1)) = false := decide_eq_false c30
                    clear c30
                    by_cases c33 : 0 ≤ (rd (rd_L1 l1 x24_2) 1)
                    ·rw [if_pos c33] at H
                     have c33b0 : decide (0 ≤ (rd (rd_L1 l1 x24_2) 1)) = true := decide_eq_true c33
                     clear c33
                     by_cases c34 : (rd (rd_L1 l1 x24_2) 1) < (x6_2.length : Int)
                     ·rw [if_pos c34] at H
                      have c34b0 : decide ((rd (rd_L1 l1 x24_2) 1) < (x6_2.length : Int)) = true := decide_eq_true c34
                      clear c34
                      by_cases c35 : (rd x6_2 (rd (rd_L1 l1 x24_2) 1)) = 0
                      ·rw [if_pos c35] at H
                       have c35b0 : ((rd x6_2 (rd (rd_L1 l1 x24_2) 1)) == 0) = true := beq_iff_eq.mpr c35
                       have c35b1 : ((rd x6_2 (rd (rd_L1 l1 x24_2) 1)) != 0) = false := bne_eq_false_iff_eq.mpr c35
                       clear c35
                       by_cases c36 : 0 ≤ (rd (rd_L1 l1 x24_2) 2)
                       ·rw [if_pos c36] at H
                        have c36b0 : decide (0 ≤ (rd (rd_L1 l1 x24_2) 2)) = true := decide_eq_true c36
                        clear c36
                        by_cases c37 : (rd (rd_L1 l1 x24_2) 2) < (x6_2.length : Int)
                        ·rw [if_pos c37] at H
                         have c37b0 : decide ((rd (rd_L1 l1 x24_2) 2) < (x6_2.length : Int)) = true := decide_eq_true c37
                         clear c37
                         by_cases c38 : (rd x6_2 (rd (rd_L1 l1 x24_2) 2)) = 0
                         ·rw [if_pos c38] at H
                          have c38b0 : ((rd x6_2 (rd (rd_L1 l1 x24_2) 2)) == 0) = true := beq_iff_eq.mpr c38
                          have c38b1 : ((rd x6_2 (rd (rd_L1 l1 x24_2) 2)) != 0) = false := bne_eq_false_iff_eq.mpr c38
                          clear c38
                          obtain ⟨y167, hy167⟩ : ∃ y_ : List Int, y_ = (x6_2.set ((rd (rd_L1 l1 x24_2) 1) : Int).toNat (rd (rd_L1 l1 x24_2) 0)) := ⟨_, rfl⟩
                          replace H : (impl_RowOfPairs.l0 k2 a0 (y167.set ((rd (rd_L1 l1 x24_2) 2) : Int).toNat (rd (rd_L1 l1 x24_2) 0)) l1 (l1.length : Int) (wrap64 (x24_2 + 1))) = some (r1, r2) := by first | (rw [hy167]; with_reducible exact H) | (have H2_ := (Option.bind_some _ _).symm.trans H; rw [hy167]; with_reducible exact H2_) | (have H2_ := (Option.bind_some _ _).symm.trans H; with_reducible exact H2_) | with_reducible exact H | (rw [hy167]; exact H) | exact H
                          have Ny167 := Aside0.mk hy167
                          clear hy167
                          obtain ⟨y170, hy170⟩ : ∃ y_ : List Int, y_ = (y167.set ((rd (rd_L1 l1 x24_2) 2) : Int).toNat (rd (rd_L1 l1 x24_2) 0)) := ⟨_, rfl⟩
                          replace H : (impl_RowOfPairs.l0 k2 a0 y170 l1 (l1.length : Int) (wrap64 (x24_2 + 1))) = some (r1, r2) := by first | (rw [hy170]; with_reducible exact H) | (have H2_ := (Option.bind_some _ _).symm.trans H; rw [hy170]; with_reducible exact H2_) | (have H2_ := (Option.bind_some _ _).symm.trans H; with_reducible exact H2_) | with_reducible exact H | (rw [hy170]; exact H) | exact H
                          have Ny170 := Aside0.mk hy170
                          clear hy170
                          have H' := Aside0.mk H
                          clear H
                          have p152 : 0 ≤ (x24_2 : Int) := of_decide_eq_true (by first | (with_reducible assumption) | assumption)
                          have q152 : x24_2 < (l1.length : Int) := of_decide_eq_true (by first | (with_reducible assumption) | assumption)
                          obtain ⟨ad152, A152_0, c152_0, e152, hx152_0, hl152_0, hi152_0⟩ := at_L1 HR1.out x24_2 p152 q152
                          cases e152
                          replace hx152_0 := (HB.out.cell (World.block_lt_of_cell? w _ hx152_0)).trans hx152_0
                          have HR152_0 := Aside0.mk hi152_0
                          have HC152_0 := Aside0.mk hl152_0
                          clear hi152_0 hl152_0
                          replace p152 := eq_true p152
                          replace q152 := eq_true q152
                          try go_wp2
                          have n0_ := Aside0.mk (Kd.R_drew HO_6.out)
                          have n1_ := Aside0.mk (below_drew1 HB.out)
                          clear HO_6
                          clear HB
                          have HO_6 := n0_
                          have HB := n1_
                          clear n0_ n1_
                          have p153 : 0 ≤ (0 : Int) := (by omega)
                          have q153 : 0 < ((rd_L1 l1 x24_2).length : Int) := of_decide_eq_true (by first | (with_reducible assumption) | assumption)
                          obtain ⟨ad153, e153, hx153_0⟩ := Kd.at_int HR152_0.out 0 p153 q153
                          have hw153_0 := hx153_0
                          (try rw [show ((0 : Int)).toNat = 0 from rfl] at hw153_0)
                          (try rw [show 0 * 1 = 0 from rfl] at hw153_0)
                          (try rw [Addr.add_zero'] at hw153_0)
                          cases e153
                          have qi153 : (0 < (rd_L1 l1 x24_2).length) = True := eq_true (by omega)
                          (try rw [show ((0 : Int)).toNat = 0 from rfl] at hx153_0)
                          (try rw [Addr.add_zero'] at hx153_0)
                          replace hx153_0 := (HB.out.cell (World.block_lt_of_cell? w _ hx153_0)).trans hx153_0
                          replace p153 := eq_true p153
                          replace q153 := eq_true q153
                          have p155 : 0 ≤ (0 : Int) := (by omega)
                          have q155 : 0 < ((rd_L1 l1 x24_2).length : Int) := of_decide_eq_true (by first | (with_reducible assumption) | assumption)
                          obtain ⟨ad155, e155, hx155_0⟩ := Kd.at_int HR152_0.out 0 p155 q155
                          have hw155_0 := hx155_0
                          (try rw [show ((0 : Int)).toNat = 0 from rfl] at hw155_0)
                          (try rw [show 0 * 1 = 0 from rfl] at hw155_0)
                          (try rw [Addr.add_zero'] at hw155_0)
                          obtain rfl : ad153 = ad155 := (by injection e155)
                          have qi155 : (0 < (rd_L1 l1 x24_2).length) = True := eq_true (by omega)
                          (try rw [show ((0 : Int)).toNat = 0 from rfl] at hx155_0)
                          (try rw [Addr.add_zero'] at hx155_0)
                          replace hx155_0 := (HB.out.cell (World.block_lt_of_cell? w _ hx155_0)).trans hx155_0
                          replace p155 := eq_true p155
                          replace q155 := eq_true q155
                          have p157 : 0 ≤ (1 : Int) := (by omega)
                          have q157 : 1 < ((rd_L1 l1 x24_2).length : Int) := of_decide_eq_true (by first | (with_reducible assumption) | assumption)
                          obtain ⟨ad157, e157, hx157_0⟩ := Kd.at_int HR152_0.out 1 p157 q157
                          have hw157_0 := hx157_0
                          (try rw [show ((1 : Int)).toNat = 1 from rfl] at hw157_0)
                          (try rw [show 1 * 1 = 1 from rfl] at hw157_0)
                          (try simp only [Nat.reduceMul, Nat.reduceEqDiff, Go.Addr.add, ↓reduceIte] at hw157_0)
                          obtain rfl : ad153 = ad157 := (by injection e157)
                          (try simp only [show (1 : Int).toNat = 1 from rfl, Nat.reduceMul, Nat.reduceEqDiff, Go.Addr.add, ↓reduceIte] at hx157_0)
                          have qi157 : (1 < (rd_L1 l1 x24_2).length) = True := eq_true (by omega)
                          (try rw [show ((1 : Int)).toNat = 1 from rfl] at hx157_0)
                          replace hx157_0 := (HB.out.cell (World.block_lt_of_cell? w _ hx157_0)).trans hx157_0
                          replace p157 := eq_true p157
                          replace q157 := eq_true q157
                          have p158 : 0 ≤ (2 : Int) := (by omega)
                          have q158 : 2 < ((rd_L1 l1 x24_2).length : Int) := of_decide_eq_true (by first | (with_reducible assumption) | assumption)
                          obtain ⟨ad158, e158, hx158_0⟩ := Kd.at_int HR152_0.out 2 p158 q158
                          have hw158_0 := hx158_0
                          (try rw [show ((2 : Int)).toNat = 2 from rfl] at hw158_0)
                          (try rw [show 2 * 1 = 2 from rfl] at hw158_0)
                          (try simp only [Nat.reduceMul, Nat.reduceEqDiff, Go.Addr.add, ↓reduceIte] at hw158_0)
                          obtain rfl : ad153 = ad158 := (by injection e158)
                          (try simp only [show (2 : Int).toNat = 2 from rfl, Nat.reduceMul, Nat.reduceEqDiff, Go.Addr.add, ↓reduceIte] at hx158_0)
                          have qi158 : (2 < (rd_L1 l1 x24_2).length) = True := eq_true (by omega)
                          (try rw [show ((2 : Int)).toNat = 2 from rfl] at hx158_0)
                          replace hx158_0 := (HB.out.cell (World.block_lt_of_cell? w _ hx158_0)).trans hx158_0
                          replace p158 := eq_true p158
                          replace q158 := eq_true q158
                          have p159 : 0 ≤ (1 : Int) := (by omega)
                          have q159 : 1 < ((rd_L1 l1 x24_2).length : Int) := of_decide_eq_true (by first | (with_reducible assumption) | assumption)
                          obtain ⟨ad159, e159, hx159_0⟩ := Kd.at_int HR152_0.out 1 p159 q159
                          have hw159_0 := hx159_0
                          (try rw [show ((1 : Int)).toNat = 1 from rfl] at hw159_0)
                          (try rw [show 1 * 1 = 1 from rfl] at hw159_0)
                          (try simp only [Nat.reduceMul, Nat.reduceEqDiff, Go.Addr.add, ↓reduceIte] at hw159_0)
                          obtain rfl : ad153 = ad159 := (by injection e159)
                          (try simp only [show (1 : Int).toNat = 1 from rfl, Nat.reduceMul, Nat.reduceEqDiff, Go.Addr.add, ↓reduceIte] at hx159_0)
                          have qi159 : (1 < (rd_L1 l1 x24_2).length) = True := eq_true (by omega)
                          (try rw [show ((1 : Int)).toNat = 1 from rfl] at hx159_0)
                          replace hx159_0 := (HB.out.cell (World.block_lt_of_cell? w _ hx159_0)).trans hx159_0
                          replace p159 := eq_true p159
                          replace q159 := eq_true q159
                          have p160 : 0 ≤ (2 : Int) := (by omega)
                          have q160 : 2 < ((rd_L1 l1 x24_2).length : Int) := of_decide_eq_true (by first | (with_reducible assumption) | assumption)
                          obtain ⟨ad160, e160, hx160_0⟩ := Kd.at_int HR152_0.out 2 p160 q160
                          have hw160_0 := hx160_0
                          (try rw [show ((2 : Int)).toNat = 2 from rfl] at hw160_0)
                          (try rw [show 2 * 1 = 2 from rfl] at hw160_0)
                          (try simp only [Nat.reduceMul, Nat.reduceEqDiff, Go.Addr.add, ↓reduceIte] at hw160_0)
                          obtain rfl : ad153 = ad160 := (by injection e160)
                          (try simp only [show (2 : Int).toNat = 2 from rfl, Nat.reduceMul, Nat.reduceEqDiff, Go.Addr.add, ↓reduceIte] at hx160_0)
                          have qi160 : (2 < (rd_L1 l1 x24_2).length) = True := eq_true (by omega)
                          (try rw [show ((2 : Int)).toNat = 2 from rfl] at hx160_0)
                          replace hx160_0 := (HB.out.cell (World.block_lt_of_cell? w _ hx160_0)).trans hx160_0
                          replace p160 := eq_true p160
                          replace q160 := eq_true q160
                          have p161 : 0 ≤ (1 : Int) := (by omega)
                          have q161 : 1 < ((rd_L1 l1 x24_2).length : Int) := of_decide_eq_true (by first | (with_reducible assumption) | assumption)
                          obtain ⟨ad161, e161, hx161_0⟩ := Kd.at_int HR152_0.out 1 p161 q161
                          have hw161_0 := hx161_0
                          (try rw [show ((1 : Int)).toNat = 1 from rfl] at hw161_0)
                          (try rw [show 1 * 1 = 1 from rfl] at hw161_0)
                          (try simp only [Nat.reduceMul, Nat.reduceEqDiff, Go.Addr.add, ↓reduceIte] at hw161_0)
                          obtain rfl : ad153 = ad161 := (by injection e161)
                          (try simp only [show (1 : Int).toNat = 1 from rfl, Nat.reduceMul, Nat.reduceEqDiff, Go.Addr.add, ↓reduceIte] at hx161_0)
                          have qi161 : (1 < (rd_L1 l1 x24_2).length) = True := eq_true (by omega)
                          (try rw [show ((1 : Int)).toNat = 1 from rfl] at hx161_0)
                          replace hx161_0 := (HB.out.cell (World.block_lt_of_cell? w _ hx161_0)).trans hx161_0
                          replace p161 := eq_true p161
                          replace q161 := eq_true q161
                          have p162 : 0 ≤ ((rd (rd_L1 l1 x24_2) 1) : Int) := of_decide_eq_true (by first | (with_reducible assumption) | assumption)
                          have q162 : (rd (rd_L1 l1 x24_2) 1) < (x6_2.length : Int) := of_decide_eq_true (by first | (with_reducible assumption) | assumption)
                          (try (obtain ⟨Aq_, cq_, eq_⟩ := Kd.R_slice HO_6.out; subst eq_))
                          obtain ⟨ad162, e162, hx162_0⟩ := Kd.at_int (Kd.R_reads' HO_6.out).2.2 (rd (rd_L1 l1 x24_2) 1) p162 q162
                          cases e162
                          replace p162 := eq_true p162
                          replace q162 := eq_true q162
                          have p163 : 0 ≤ (2 : Int) := (by omega)
                          have q163 : 2 < ((rd_L1 l1 x24_2).length : Int) := of_decide_eq_true (by first | (with_reducible assumption) | assumption)
                          obtain ⟨ad163, e163, hx163_0⟩ := Kd.at_int HR152_0.out 2 p163 q163
                          have hw163_0 := hx163_0
                          (try rw [show ((2 : Int)).toNat = 2 from rfl] at hw163_0)
                          (try rw [show 2 * 1 = 2 from rfl] at hw163_0)
                          (try simp only [Nat.reduceMul, Nat.reduceEqDiff, Go.Addr.add, ↓reduceIte] at hw163_0)
                          obtain rfl : ad153 = ad163 := (by injection e163)
                          (try simp only [show (2 : Int).toNat = 2 from rfl, Nat.reduceMul, Nat.reduceEqDiff, Go.Addr.add, ↓reduceIte] at hx163_0)
                          have qi163 : (2 < (rd_L1 l1 x24_2).length) = True := eq_true (by omega)
                          (try rw [show ((2 : Int)).toNat = 2 from rfl] at hx163_0)
                          replace hx163_0 := (HB.out.cell (World.block_lt_of_cell? w _ hx163_0)).trans hx163_0
                          replace p163 := eq_true p163
                          replace q163 := eq_true q163
                          have p164 : 0 ≤ ((rd (rd_L1 l1 x24_2) 2) : Int) := of_decide_eq_true (by first | (with_reducible assumption) | assumption)
                          have q164 : (rd (rd_L1 l1 x24_2) 2) < (x6_2.length : Int) := of_decide_eq_true (by first | (with_reducible assumption) | assumption)
                          obtain ⟨ad164, e164, hx164_0⟩ := Kd.at_int (Kd.R_reads' HO_6.out).2.2 (rd (rd_L1 l1 x24_2) 2) p164 q164
                          obtain rfl : ad162 = ad164 := (by injection e164)
                          replace p164 := eq_true p164
                          replace q164 := eq_true q164
                          refine start_ (n := 57) (S := fun w' => w'.cell? ad153 = some (.int .i64 (rd (rd_L1 l1 x24_2) 0)) ∧ w'.cell? ad153 = some (.int .i64 (rd (rd_L1 l1 x24_2) 0)) ∧ w'.cell? ⟨ad153.block, ad153.off + 1, none⟩ = some (.int .i64 (rd (rd_L1 l1 x24_2) 1)) ∧ w'.cell? ⟨ad153.block, ad153.off + 2, none⟩ = some (.int .i64 (rd (rd_L1 l1 x24_2) 2)) ∧ w'.cell? ⟨ad153.block, ad153.off + 1, none⟩ = some (.int .i64 (rd (rd_L1 l1 x24_2) 1)) ∧ w'.cell? ⟨ad153.block, ad153.off + 2, none⟩ = some (.int .i64 (rd (rd_L1 l1 x24_2) 2)) ∧ w'.cell? ⟨ad153.block, ad153.off + 1, none⟩ = some (.int .i64 (rd (rd_L1 l1 x24_2) 1)) ∧ w'.cell? (ad162.add ((rd (rd_L1 l1 x24_2) 1)).toNat) = some (.int .i64 (rd x6_2 (rd (rd_L1 l1 x24_2) 1))) ∧ w'.cell? ⟨ad153.block, ad153.off + 2, none⟩ = some (.int .i64 (rd (rd_L1 l1 x24_2) 2)) ∧ w'.cell? (ad162.add ((rd (rd_L1 l1 x24_2) 2)).toNat) = some (.int .i64 (rd x6_2 (rd (rd_L1 l1 x24_2) 2)))) (ds := []) (mb 57 0) (by kernel_rfl) rfl rfl ⟨((HB.out.cell (World.block_lt_of_cell? w _ hw153_0)).trans hw153_0), ((HB.out.cell (World.block_lt_of_cell? w _ hw155_0)).trans hw155_0), ((HB.out.cell (World.block_lt_of_cell? w _ hw157_0)).trans hw157_0), ((HB.out.cell (World.block_lt_of_cell? w _ hw158_0)).trans hw158_0), ((HB.out.cell (World.block_lt_of_cell? w _ hw159_0)).trans hw159_0), ((HB.out.cell (World.block_lt_of_cell? w _ hw160_0)).trans hw160_0), ((HB.out.cell (World.block_lt_of_cell? w _ hw161_0)).trans hw161_0), hx162_0, ((HB.out.cell (World.block_lt_of_cell? w _ hw163_0)).trans hw163_0), hx164_0⟩ (fun hHeld => ?_); refine with_tabW impl_RowOfPairs.tab7 impl_RowOfPairs.bits7 (fun HT_ HW_ => ?_)
                          generalize wr.drew = w41 at HO_6 HB hx153_0 hx155_0 hx157_0 hx158_0 hx159_0 hx160_0 hx161_0 hx162_0 hx163_0 hx164_0 hHeld ⊢
                          refine pureV 0 28 57 1 HT_ ?_
                          refine pureV 1 29 57 3 HT_ ?_
                          refine pureV 2 30 57 7 HT_ ?_
                          refine pureV 3 31 57 15 HT_ ?_
                          refine pureV 4 32 57 31 HT_ ?_
                          refine pureV 5 33 57 63 HT_ ?_
                          refine takeV 6 34 57 127 HT_ HW_ hHeld rfl (by rintro w' ⟨s0, s1, s2, s3, s4, s5, s6, s7, s8, s9⟩; go_simp; with_reducible rfl) ?_
                          refine one_ (i := 7) (N := some 35) (mb 57 255) rfl rfl (one_of HT_.out (by kernel_rfl)) (by decide) (fun K hK => ?_)
                          refine goes_ Try.func35 (by kernel_rfl) rfl #[.int .i64 (rd (rd_L1 l1 x24_2) 0)] (by rfl) rfl rfl (by (try simp only [List.map_toArray, List.map_cons, List.map_nil]); first | done | rfl | (simp only [List.length_drop, List.length_take]; rfl)) ?_
                          with_reducible refine (impl_isNumber.calls (rd (rd_L1 l1 x24_2) 0) true _ A16.out).mono ?_
                          rintro e w' ⟨rfl, ⟨nd, rfl⟩⟩
                          refine ⟨_, rfl, ?_⟩
                          obtain ⟨Ao42, co42, eo42⟩ := Kd.R_slice HO_6.out
                          (first | subst eo42 | (injection eo42 with f1_ f2_ f3_; have f4_ := f1_.symm; have f5_ := f3_.symm; clear f1_ f2_ f3_; subst f4_; subst f5_))
                          refine hK.out _ _ ⟨((HB.out.cell (World.block_lt_of_cell? w _ hw153_0)).trans hw153_0), ((HB.out.cell (World.block_lt_of_cell? w _ hw155_0)).trans hw155_0), ((HB.out.cell (World.block_lt_of_cell? w _ hw157_0)).trans hw157_0), ((HB.out.cell (World.block_lt_of_cell? w _ hw158_0)).trans hw158_0), ((HB.out.cell (World.block_lt_of_cell? w _ hw159_0)).trans hw159_0), ((HB.out.cell (World.block_lt_of_cell? w _ hw160_0)).trans hw160_0), ((HB.out.cell (World.block_lt_of_cell? w _ hw161_0)).trans hw161_0), hHeld.2.2.2.2.2.2.2.1, ((HB.out.cell (World.block_lt_of_cell? w _ hw163_0)).trans hw163_0), hHeld.2.2.2.2.2.2.2.2.2⟩ (fun hHeld => ?_)
                          clear hK K
                          refine norm_ (a' := ?_) ?_ ?_
                          rotate_left
                          ·show Act.put _ (some 35) _ = _
                           simp only [Act.put, List.setIfInBounds_toArray, List.set_cons_zero, List.set_cons_succ, i64_w, i32_w]
                           rfl
                          refine pureV 8 36 57 511 HT_ ?_
                          refine pureV 9 37 57 1023 HT_ ?_
                          refine pureV 10 38 57 2047 HT_ ?_
                          refine pureV 11 39 57 4095 HT_ ?_
                          refine pureV 12 40 57 8191 HT_ ?_
                          refine pureV 13 41 57 16383 HT_ ?_
                          refine takeV 14 42 57 32767 HT_ HW_ hHeld rfl (by rintro w' ⟨s0, s1, s2, s3, s4, s5, s6, s7, s8, s9⟩; go_simp; with_reducible rfl) ?_
                          refine one_ (i := 15) (N := some 43) (mb 57 65535) rfl rfl (one_of HT_.out (by kernel_rfl)) (by decide) (fun K hK => ?_)
                          refine goes_ Try.func36 (by kernel_rfl) rfl #[.slice (some ad162) x6_2.length co42, .int .i64 (rd (rd_L1 l1 x24_2) 0)] (by rfl) rfl rfl (by (try simp only [List.map_toArray, List.map_cons, List.map_nil]); first | done | rfl | (simp only [List.length_drop, List.length_take]; rfl)) ?_
                          with_reducible refine (slices_Contains_int_int.calls k2 _ _ x6_2 (rd (rd_L1 l1 x24_2) 0) false _ ?side1 ?side2 A18.out).mono ?_
                          (case side1 => repeat (first | exact (Kd.R_reads' HO_6.out).2.2 | (with_reducible refine Kd.C_alloc ?_ _) | (with_reducible refine Kd.C_drewN ?_ _) | (with_reducible refine Kd.C_drew ?_)))
                          (case side2 => exact (Kd.R_reads' HO_6.out).2.1)
                          rintro e w' ⟨rfl, ⟨nd, rfl⟩⟩
                          refine ⟨_, rfl, ?_⟩
                          refine hK.out _ _ ⟨((HB.out.cell (World.block_lt_of_cell? w _ hw153_0)).trans hw153_0), ((HB.out.cell (World.block_lt_of_cell? w _ hw155_0)).trans hw155_0), ((HB.out.cell (World.block_lt_of_cell? w _ hw157_0)).trans hw157_0), ((HB.out.cell (World.block_lt_of_cell? w _ hw158_0)).trans hw158_0), ((HB.out.cell (World.block_lt_of_cell? w _ hw159_0)).trans hw159_0), ((HB.out.cell (World.block_lt_of_cell? w _ hw160_0)).trans hw160_0), ((HB.out.cell (World.block_lt_of_cell? w _ hw161_0)).trans hw161_0), hHeld.2.2.2.2.2.2.2.1, ((HB.out.cell (World.block_lt_of_cell? w _ hw163_0)).trans hw163_0), hHeld.2.2.2.2.2.2.2.2.2⟩ (fun hHeld => ?_)
                          clear hK K
                          refine norm_ (a' := ?_) ?_ ?_
                          rotate_left
                          ·show Act.put _ (some 43) _ = _
                           simp only [Act.put, List.setIfInBounds_toArray, List.set_cons_zero, List.set_cons_succ, i64_w, i32_w]
                           rfl
                          refine pureV 16 44 57 131071 HT_ ?_
                          refine pureV 17 45 57 262143 HT_ ?_
                          refine pureV 18 46 57 524287 HT_ ?_
                          refine pureV 19 47 57 1048575 HT_ ?_
                          refine takeV 20 48 57 2097151 HT_ HW_ hHeld rfl (by rintro w' ⟨s0, s1, s2, s3, s4, s5, s6, s7, s8, s9⟩; go_simp; with_reducible rfl) ?_
                          refine pureV 21 49 57 4194303 HT_ ?_
                          refine pureV 22 50 57 8388607 HT_ ?_
                          refine pureV 23 51 57 16777215 HT_ ?_
                          refine pureV 24 52 57 33554431 HT_ ?_
                          refine pureV 25 53 57 67108863 HT_ ?_
                          refine pureV 27 55 57 201326591 HT_ ?_
                          refine takeV 26 54 57 268435455 HT_ HW_ hHeld rfl (by rintro w' ⟨s0, s1, s2, s3, s4, s5, s6, s7, s8, s9⟩; go_simp; with_reducible rfl) ?_
                          refine pureV 28 56 57 536870911 HT_ ?_
                          refine pureV 29 57 57 1073741823 HT_ ?_
                          refine pureV 30 58 57 2147483647 HT_ ?_
                          refine pureV 31 59 57 4294967295 HT_ ?_
                          refine pureV 32 60 57 8589934591 HT_ ?_
                          refine pureV 34 62 57 25769803775 HT_ ?_
                          refine pureV 35 63 57 60129542143 HT_ ?_
                          refine takeV 33 61 57 68719476735 HT_ HW_ hHeld rfl (by rintro w' ⟨s0, s1, s2, s3, s4, s5, s6, s7, s8, s9⟩; go_simp; with_reducible rfl) ?_
                          refine takeV 36 64 57 137438953471 HT_ HW_ hHeld rfl (by rintro w' ⟨s0, s1, s2, s3, s4, s5, s6, s7, s8, s9⟩; go_simp; with_reducible rfl) ?_
                          refine pureV 37 65 57 274877906943 HT_ ?_
                          refine pureV 38 66 57 549755813887 HT_ ?_
                          refine pureV 39 67 57 1099511627775 HT_ ?_
                          refine pureV 40 68 57 2199023255551 HT_ ?_
                          refine pureV 41 69 57 4398046511103 HT_ ?_
                          refine pureV 42 70 57 8796093022207 HT_ ?_
                          refine takeV 43 71 57 17592186044415 HT_ HW_ hHeld rfl (by rintro w' ⟨s0, s1, s2, s3, s4, s5, s6, s7, s8, s9⟩; go_simp; with_reducible rfl) ?_
                          refine pureV 44 72 57 35184372088831 HT_ ?_
                          refine takeV 45 73 57 70368744177663 HT_ HW_ hHeld rfl (by rintro w' ⟨s0, s1, s2, s3, s4, s5, s6, s7, s8, s9⟩; go_simp; with_reducible rfl) ?_
                          refine pureV 46 74 57 140737488355327 HT_ ?_
                          refine pureV 47 75 57 281474976710655 HT_ ?_
                          refine pureV 48 76 57 562949953421311 HT_ ?_
                          refine pureV 49 77 57 1125899906842623 HT_ ?_
                          refine pureV 50 78 57 2251799813685247 HT_ ?_
                          refine pureV 51 79 57 4503599627370495 HT_ ?_
                          refine takeV 52 80 57 9007199254740991 HT_ HW_ hHeld rfl (by rintro w' ⟨s0, s1, s2, s3, s4, s5, s6, s7, s8, s9⟩; go_simp; with_reducible rfl) ?_
                          refine pureV 53 81 57 18014398509481983 HT_ ?_
                          refine takeV 54 82 57 36028797018963967 HT_ HW_ hHeld rfl (by rintro w' ⟨s0, s1, s2, s3, s4, s5, s6, s7, s8, s9⟩; go_simp; with_reducible rfl) ?_
                          refine pureV 55 83 57 72057594037927935 HT_ ?_
                          refine pureV 56 84 57 144115188075855871 HT_ ?_
                          refine done_ (done_of HT_.out (by kernel_rfl)) ?_
                          try go_wp2
                          (try (rw [drewN_self w41]; generalize hq_ : World.drewN w41 _ = w41; have n0_ : Aside0 (Kd.R (Kd.int .i64) 3 w41 w.heap.size (fun _ => True) (.slice (some ad162) x6_2.length co42) x6_2) := ⟨by rw [← hq_]; exact (by (with_reducible repeat (first | apply Kd.R_alloc | apply Kd.R_drewN | apply Kd.R_drew)); exact HO_6.out)⟩; have n1_ : Aside0 (Below w.heap.size w w41) := ⟨by rw [← hq_]; exact (by repeat (first | (with_reducible first | exact HB.out | apply below_alloc | apply pw_below_drewN | apply below_drew1) | exact HB.out))⟩; clear HO_6 HB hq_; have HO_6 := n0_; have HB := n1_; clear n0_ n1_))
                          have n0_ := Aside0.mk (Kd.R_drew HO_6.out)
                          have n1_ := Aside0.mk (below_drew1 HB.out)
                          clear HO_6
                          clear HB
                          have HO_6 := n0_
                          have HB := n1_
                          clear n0_ n1_
                          have p165 : 0 ≤ (1 : Int) := (by omega)
                          have q165 : 1 < ((rd_L1 l1 x24_2).length : Int) := of_decide_eq_true (by first | (with_reducible assumption) | assumption)
                          obtain ⟨ad165, e165, hx165_0⟩ := Kd.at_int HR152_0.out 1 p165 q165
                          have hw165_0 := hx165_0
                          (try rw [show ((1 : Int)).toNat = 1 from rfl] at hw165_0)
                          (try rw [show 1 * 1 = 1 from rfl] at hw165_0)
                          (try simp only [Nat.reduceMul, Nat.reduceEqDiff, Go.Addr.add, ↓reduceIte] at hw165_0)
                          obtain rfl : ad153 = ad165 := (by injection e165)
                          (try simp only [show (1 : Int).toNat = 1 from rfl, Nat.reduceMul, Nat.reduceEqDiff, Go.Addr.add, ↓reduceIte] at hx165_0)
                          have qi165 : (1 < (rd_L1 l1 x24_2).length) = True := eq_true (by omega)
                          (try rw [show ((1 : Int)).toNat = 1 from rfl] at hx165_0)
                          replace hx165_0 := (HB.out.cell (World.block_lt_of_cell? w _ hx165_0)).trans hx165_0
                          replace p165 := eq_true p165
                          replace q165 := eq_true q165
                          have p166 : 0 ≤ (0 : Int) := (by omega)
                          have q166 : 0 < ((rd_L1 l1 x24_2).length : Int) := of_decide_eq_true (by first | (with_reducible assumption) | assumption)
                          obtain ⟨ad166, e166, hx166_0⟩ := Kd.at_int HR152_0.out 0 p166 q166
                          have hw166_0 := hx166_0
                          (try rw [show ((0 : Int)).toNat = 0 from rfl] at hw166_0)
                          (try rw [show 0 * 1 = 0 from rfl] at hw166_0)
                          (try rw [Addr.add_zero'] at hw166_0)
                          obtain rfl : ad153 = ad166 := (by injection e166)
                          have qi166 : (0 < (rd_L1 l1 x24_2).length) = True := eq_true (by omega)
                          (try rw [show ((0 : Int)).toNat = 0 from rfl] at hx166_0)
                          (try rw [Addr.add_zero'] at hx166_0)
                          replace hx166_0 := (HB.out.cell (World.block_lt_of_cell? w _ hx166_0)).trans hx166_0
                          replace p166 := eq_true p166
                          replace q166 := eq_true q166
                          have p39 : 0 ≤ ((rd (rd_L1 l1 x24_2) 1) : Int) := of_decide_eq_true (by first | (with_reducible assumption) | assumption)
                          have q39 : ((rd (rd_L1 l1 x24_2) 1) : Int) < ((x6_2.length : Int) : Int) := of_decide_eq_true (by first | (with_reducible assumption) | assumption)
                          obtain ⟨go39, co39, eo39, gb39, gl39, cl39, HG39⟩ := Kd.R_form HO_6.out (by omega)
                          (first | cases eo39 | (injection eo39 with ea_ en_ ec_; (first | subst ea_ | (injection ea_ with ea_; subst ea_)); subst ec_; clear en_))
                          have GB39 := Aside0.mk gb39
                          have GG39 := Aside0.mk HG39
                          clear gb39 gl39 HG39
                          (first | simp only [add_plain] at hx162_0 | skip)
                          (first | simp only [add_plain] at hx164_0 | skip)
                          obtain ⟨hx39_0, hf39_0⟩ := Kd.R_celln 0 HO_6.out ((rd (rd_L1 l1 x24_2) 1) : Int) p39 q39
                          replace p39 := eq_true p39
                          replace q39 := eq_true q39
                          have HP44 := Kd.R_putn HO_6.out ((rd (rd_L1 l1 x24_2) 1) : Int) (rd (rd_L1 l1 x24_2) 0)
                          rw [← Ny167.out] at HP44
                          have HQ44 := Aside0.mk HP44
                          clear HP44
                          refine start_ (n := 9) (S := fun w' => w'.cell? ⟨ad153.block, ad153.off + 1, none⟩ = some (.int .i64 (rd (rd_L1 l1 x24_2) 1)) ∧ w'.cell? ad153 = some (.int .i64 (rd (rd_L1 l1 x24_2) 0))) (ds := [8]) (mb 9 0) (by kernel_rfl) rfl rfl ⟨((HB.out.cell (World.block_lt_of_cell? w _ hw165_0)).trans hw165_0), ((HB.out.cell (World.block_lt_of_cell? w _ hw166_0)).trans hw166_0)⟩ (fun hHeld => ?_); refine with_tabW impl_RowOfPairs.tab9 impl_RowOfPairs.bits9 (fun HT_ HW_ => ?_)
                          generalize w41.drew = w43 at HO_6 HB GG39 HQ44 hf39_0 hx162_0 hx164_0 hx165_0 hx166_0 hx39_0 hHeld ⊢
                          refine pureV 0 85 9 1 HT_ ?_
                          refine pureV 1 86 9 3 HT_ ?_
                          refine pureV 2 87 9 7 HT_ ?_
                          refine pureV 4 89 9 23 HT_ ?_
                          refine pureV 5 90 9 55 HT_ ?_
                          refine takeV 3 88 9 63 HT_ HW_ hHeld rfl (by rintro w' ⟨s0, s1⟩; go_simp; with_reducible rfl) ?_
                          refine takeV 6 91 9 127 HT_ HW_ hHeld rfl (by rintro w' ⟨s0, s1⟩; go_simp; with_reducible rfl) ?_
                          refine pureV 7 92 9 255 HT_ ?_
                          refine last_ (i := 8) (N := none) (mb 9 511) rfl rfl (one_of HT_.out (by kernel_rfl)) (by decide) (fun K hK => ?_)
                          refine skip_ (w1 := ?_) (by rfl) rfl ?_ ?_
                          rotate_left
                          ·go_simp
                           rfl
                          refine hK.out _ _ ?_
                          clear hK K
                          refine done_ (done_of HT_.out (by kernel_rfl)) ?_
                          try go_wp2
                          have n0_ : Aside0 (Kd.R (Kd.int .i64) 3 (w43.setCell ⟨go39, ((rd (rd_L1 l1 x24_2) 1) : Int).toNat, none⟩ (.int .i64 (rd (rd_L1 l1 x24_2) 0))) w.heap.size (fun _ => True) (.slice (some ⟨go39, 0, none⟩) x6_2.length co42) y167) := ⟨by (with_reducible repeat (first | apply Kd.R_alloc | apply Kd.R_drewN | apply Kd.R_drew)); exact HQ44.out⟩
                          have n1_ : Aside0 (Below w.heap.size w (w43.setCell ⟨go39, ((rd (rd_L1 l1 x24_2) 1) : Int).toNat, none⟩ (.int .i64 (rd (rd_L1 l1 x24_2) 0)))) := ⟨by repeat (first | (with_reducible first | exact HB.out | apply below_alloc | apply pw_below_drewN | apply below_drew1 | refine below_set ?_ GB39.out) | exact HB.out)⟩
                          (try clear HO_6)
                          (try clear HB)
                          generalize (w43.setCell ⟨go39, ((rd (rd_L1 l1 x24_2) 1) : Int).toNat, none⟩ (.int .i64 (rd (rd_L1 l1 x24_2) 0))) = w45 at n0_ n1_ ⊢
                          have HO_6 := n0_
                          have HB := n1_
                          clear n0_ n1_
                          have n0_ := Aside0.mk (Kd.R_drew HO_6.out)
                          have n1_ := Aside0.mk (below_drew1 HB.out)
                          clear HO_6
                          clear HB
                          have HO_6 := n0_
                          have HB := n1_
                          clear n0_ n1_
                          have p168 : 0 ≤ (2 : Int) := (by omega)
                          have q168 : 2 < ((rd_L1 l1 x24_2).length : Int) := of_decide_eq_true (by first | (with_reducible assumption) | assumption)
                          obtain ⟨ad168, e168, hx168_0⟩ := Kd.at_int HR152_0.out 2 p168 q168
                          have hw168_0 := hx168_0
                          (try rw [show ((2 : Int)).toNat = 2 from rfl] at hw168_0)
                          (try rw [show 2 * 1 = 2 from rfl] at hw168_0)
                          (try simp only [Nat.reduceMul, Nat.reduceEqDiff, Go.Addr.add, ↓reduceIte] at hw168_0)
                          obtain rfl : ad153 = ad168 := (by injection e168)
                          (try simp only [show (2 : Int).toNat = 2 from rfl, Nat.reduceMul, Nat.reduceEqDiff, Go.Addr.add, ↓reduceIte] at hx168_0)
                          have qi168 : (2 < (rd_L1 l1 x24_2).length) = True := eq_true (by omega)
                          (try rw [show ((2 : Int)).toNat = 2 from rfl] at hx168_0)
                          replace hx168_0 := (HB.out.cell (World.block_lt_of_cell? w _ hx168_0)).trans hx168_0
                          replace p168 := eq_true p168
                          replace q168 := eq_true q168
                          have p169 : 0 ≤ (0 : Int) := (by omega)
                          have q169 : 0 < ((rd_L1 l1 x24_2).length : Int) := of_decide_eq_true (by first | (with_reducible assumption) | assumption)
                          obtain ⟨ad169, e169, hx169_0⟩ := Kd.at_int HR152_0.out 0 p169 q169
                          have hw169_0 := hx169_0
                          (try rw [show ((0 : Int)).toNat = 0 from rfl] at hw169_0)
                          (try rw [show 0 * 1 = 0 from rfl] at hw169_0)
                          (try rw [Addr.add_zero'] at hw169_0)
                          obtain rfl : ad153 = ad169 := (by injection e169)
                          have qi169 : (0 < (rd_L1 l1 x24_2).length) = True := eq_true (by omega)
                          (try rw [show ((0 : Int)).toNat = 0 from rfl] at hx169_0)
                          (try rw [Addr.add_zero'] at hx169_0)
                          replace hx169_0 := (HB.out.cell (World.block_lt_of_cell? w _ hx169_0)).trans hx169_0
                          replace p169 := eq_true p169
                          replace q169 := eq_true q169
                          have p40 : 0 ≤ ((rd (rd_L1 l1 x24_2) 2) : Int) := of_decide_eq_true (by first | (with_reducible assumption) | assumption)
                          have q40 : ((rd (rd_L1 l1 x24_2) 2) : Int) < ((x6_2.length : Int) : Int) := of_decide_eq_true (by first | (with_reducible assumption) | assumption)
                          obtain ⟨hx40_0, hf40_0⟩ := Kd.R_celln 0 HO_6.out ((rd (rd_L1 l1 x24_2) 2) : Int) p40 q40
                          replace p40 := eq_true p40
                          replace q40 := eq_true q40
                          have HP47 := Kd.R_putn HO_6.out ((rd (rd_L1 l1 x24_2) 2) : Int) (rd (rd_L1 l1 x24_2) 0)
                          rw [← Ny170.out] at HP47
                          have HQ47 := Aside0.mk HP47
                          clear HP47
                          refine start_ (n := 9) (S := fun w' => w'.cell? ⟨ad153.block, ad153.off + 2, none⟩ = some (.int .i64 (rd (rd_L1 l1 x24_2) 2)) ∧ w'.cell? ad153 = some (.int .i64 (rd (rd_L1 l1 x24_2) 0))) (ds := [8]) (mb 9 0) (by kernel_rfl) rfl rfl ⟨((HB.out.cell (World.block_lt_of_cell? w _ hw168_0)).trans hw168_0), ((HB.out.cell (World.block_lt_of_cell? w _ hw169_0)).trans hw169_0)⟩ (fun hHeld => ?_); refine with_tabW impl_RowOfPairs.tab10 impl_RowOfPairs.bits10 (fun HT_ HW_ => ?_)
                          generalize w45.drew = w46 at HO_6 HB HQ44 HQ47 hf40_0 hx168_0 hx169_0 hx40_0 hHeld ⊢
                          refine pureV 0 93 9 1 HT_ ?_
                          refine pureV 1 94 9 3 HT_ ?_
                          refine pureV 2 95 9 7 HT_ ?_
                          refine pureV 4 97 9 23 HT_ ?_
                          refine pureV 5 98 9 55 HT_ ?_
                          refine takeV 3 96 9 63 HT_ HW_ hHeld rfl (by rintro w' ⟨s0, s1⟩; go_simp; with_reducible rfl) ?_
                          refine takeV 6 99 9 127 HT_ HW_ hHeld rfl (by rintro w' ⟨s0, s1⟩; go_simp; with_reducible rfl) ?_
                          refine pureV 7 100 9 255 HT_ ?_
                          refine last_ (i := 8) (N := none) (mb 9 511) rfl rfl (one_of HT_.out (by kernel_rfl)) (by decide) (fun K hK => ?_)
                          refine skip_ (w1 := ?_) (by rfl) rfl ?_ ?_
                          rotate_left
                          ·go_simp
                           rfl
                          refine hK.out _ _ ?_
                          clear hK K
                          refine done_ (done_of HT_.out (by kernel_rfl)) ?_
                          try go_wp2
                          go_roundg k2
                          case measure => have := HJ2.out; have := HK2.out; omega
                          case rel => exact ⟨(y170), (wrap64 (x24_2 + 1)), (by first | rfl | (simp; done) | (simp [*]; done)), H', ⟨by have := HJ2.out; have := HK2.out; omega⟩, ⟨by (with_reducible repeat (first | apply Kd.R_alloc | apply Kd.R_drewN | apply Kd.R_drew)); exact HQ47.out⟩, ⟨by repeat (first | (with_reducible first | exact HB.out | apply below_alloc | apply pw_below_drewN | apply below_drew1 | refine below_set ?_ GB39.out) | exact HB.out)⟩⟩
                         ·rw [if_neg c38] at H
                          have c38b0 : ((rd x6_2 (rd (rd_L1 l1 x24_2) 2)) == 0) = false := beq_eq_false_iff_ne.mpr c38
                          have c38b1 : ((rd x6_2 (rd (rd_L1 l1 x24_2) 2)) != 0) = true := bne_iff_ne.mpr c38
                          simp only [Option.some.injEq, Prod.mk.injEq] at H
                          obtain ⟨rfl, rfl⟩ := H
                          have p152 : 0 ≤ (x24_2 : Int) := of_decide_eq_true (by first | (with_reducible assumption) | assumption)
                          have q152 : x24_2 < (l1.length : Int) := of_decide_eq_true (by first | (with_reducible assumption) | assumption)
                          obtain ⟨ad152, A152_0, c152_0, e152, hx152_0, hl152_0, hi152_0⟩ := at_L1 HR1.out x24_2 p152 q152
                          cases e152
                          replace hx152_0 := (HB.out.cell (World.block_lt_of_cell? w _ hx152_0)).trans hx152_0
                          have HR152_0 := Aside0.mk hi152_0
                          have HC152_0 := Aside0.mk hl152_0
                          clear hi152_0 hl152_0
                          replace p152 := eq_true p152
                          replace q152 := eq_true q152
                          try go_wp2
                          have n0_ := Aside0.mk (Kd.R_drew HO_6.out)
                          have n1_ := Aside0.mk (below_drew1 HB.out)
                          clear HO_6
                          clear HB
                          have HO_6 := n0_
                          have HB := n1_
                          clear n0_ n1_
                          have p153 : 0 ≤ (0 : Int) := (by omega)
                          have q153 : 0 < ((rd_L1 l1 x24_2).length : Int) := of_decide_eq_true (by first | (with_reducible assumption) | assumption)
                          obtain ⟨ad153, e153, hx153_0⟩ := Kd.at_int HR152_0.out 0 p153 q153
                          have hw153_0 := hx153_0
                          (try rw [show ((0 : Int)).toNat = 0 from rfl] at hw153_0)
                          (try rw [show 0 * 1 = 0 from rfl] at hw153_0)
                          (try rw [Addr.add_zero'] at hw153_0)
                          cases e153
                          have qi153 : (0 < (rd_L1 l1 x24_2).length) = True := eq_true (by omega)
                          (try rw [show ((0 : Int)).toNat = 0 from rfl] at hx153_0)
                          (try rw [Addr.add_zero'] at hx153_0)
                          replace hx153_0 := (HB.out.cell (World.block_lt_of_cell? w _ hx153_0)).trans hx153_0
                          replace p153 := eq_true p153
                          replace q153 := eq_true q153
                          have p155 : 0 ≤ (0 : Int) := (by omega)
                          have q155 : 0 < ((rd_L1 l1 x24_2).length : Int) := of_decide_eq_true (by first | (with_reducible assumption) | assumption)
                          obtain ⟨ad155, e155, hx155_0⟩ := Kd.at_int HR152_0.out 0 p155 q155
                          have hw155_0 := hx155_0
                          (try rw [show ((0 : Int)).toNat = 0 from rfl] at hw155_0)
                          (try rw [show 0 * 1 = 0 from rfl] at hw155_0)
                          (try rw [Addr.add_zero'] at hw155_0)
                          obtain rfl : ad153 = ad155 := (by injection e155)
                          have qi155 : (0 < (rd_L1 l1 x24_2).length) = True := eq_true (by omega)
                          (try rw [show ((0 : Int)).toNat = 0 from rfl] at hx155_0)
                          (try rw [Addr.add_zero'] at hx155_0)
                          replace hx155_0 := (HB.out.cell (World.block_lt_of_cell? w _ hx155_0)).trans hx155_0
                          replace p155 := eq_true p155
                          replace q155 := eq_true q155
                          have p157 : 0 ≤ (1 : Int) := (by omega)
                          have q157 : 1 < ((rd_L1 l1 x24_2).length : Int) := of_decide_eq_true (by first | (with_reducible assumption) | assumption)
                          obtain ⟨ad157, e157, hx157_0⟩ := Kd.at_int HR152_0.out 1 p157 q157
                          have hw157_0 := hx157_0
                          (try rw [show ((1 : Int)).toNat = 1 from rfl] at hw157_0)
                          (try rw [show 1 * 1 = 1 from rfl] at hw157_0)
                          (try simp only [Nat.reduceMul, Nat.reduceEqDiff, Go.Addr.add, ↓reduceIte] at hw157_0)
                          obtain rfl : ad153 = ad157 := (by injection e157)
                          (try simp only [show (1 : Int).toNat = 1 from rfl, Nat.reduceMul, Nat.reduceEqDiff, Go.Addr.add, ↓reduceIte] at hx157_0)
                          have qi157 : (1 < (rd_L1 l1 x24_2).length) = True := eq_true (by omega)
                          (try rw [show ((1 : Int)).toNat = 1 from rfl] at hx157_0)
                          replace hx157_0 := (HB.out.cell (World.block_lt_of_cell? w _ hx157_0)).trans hx157_0
                          replace p157 := eq_true p157
                          replace q157 := eq_true q157
                          have p158 : 0 ≤ (2 : Int) := (by omega)
                          have q158 : 2 < ((rd_L1 l1 x24_2).length : Int) := of_decide_eq_true (by first | (with_reducible assumption) | assumption)
                          obtain ⟨ad158, e158, hx158_0⟩ := Kd.at_int HR152_0.out 2 p158 q158
                          have hw158_0 := hx158_0
                          (try rw [show ((2 : Int)).toNat = 2 from rfl] at hw158_0)
                          (try rw [show 2 * 1 = 2 from rfl] at hw158_0)
                          (try simp only [Nat.reduceMul, Nat.reduceEqDiff, Go.Addr.add, ↓reduceIte] at hw158_0)
                          obtain rfl : ad153 = ad158 := (by injection e158)
                          (try simp only [show (2 : Int).toNat = 2 from rfl, Nat.reduceMul, Nat.reduceEqDiff, Go.Addr.add, ↓reduceIte] at hx158_0)
                          have qi158 : (2 < (rd_L1 l1 x24_2).length) = True := eq_true (by omega)
                          (try rw [show ((2 : Int)).toNat = 2 from rfl] at hx158_0)
                          replace hx158_0 := (HB.out.cell (World.block_lt_of_cell? w _ hx158_0)).trans hx158_0
                          replace p158 := eq_true p158
                          replace q158 := eq_true q158
                          have p159 : 0 ≤ (1 : Int) := (by omega)
                          have q159 : 1 < ((rd_L1 l1 x24_2).length : Int) := of_decide_eq_true (by first | (with_reducible assumption) | assumption)
                          obtain ⟨ad159, e159, hx159_0⟩ := Kd.at_int HR152_0.out 1 p159 q159
                          have hw159_0 := hx159_0
                          (try rw [show ((1 : Int)).toNat = 1 from rfl] at hw159_0)
                          (try rw [show 1 * 1 = 1 from rfl] at hw159_0)
                          (try simp only [Nat.reduceMul, Nat.reduceEqDiff, Go.Addr.add, ↓reduceIte] at hw159_0)
                          obtain rfl : ad153 = ad159 := (by injection e159)
                          (try simp only [show (1 : Int).toNat = 1 from rfl, Nat.reduceMul, Nat.reduceEqDiff, Go.Addr.add, ↓reduceIte] at hx159_0)
                          have qi159 : (1 < (rd_L1 l1 x24_2).length) = True := eq_true (by omega)
                          (try rw [show ((1 : Int)).toNat = 1 from rfl] at hx159_0)
                          replace hx159_0 := (HB.out.cell (World.block_lt_of_cell? w _ hx159_0)).trans hx159_0
                          replace p159 := eq_true p159
                          replace q159 := eq_true q159
                          have p160 : 0 ≤ (2 : Int) := (by omega)
                          have q160 : 2 < ((rd_L1 l1 x24_2).length : Int) := of_decide_eq_true (by first | (with_reducible assumption) | assumption)
                          obtain ⟨ad160, e160, hx160_0⟩ := Kd.at_int HR152_0.out 2 p160 q160
                          have hw160_0 := hx160_0
                          (try rw [show ((2 : Int)).toNat = 2 from rfl] at hw160_0)
                          (try rw [show 2 * 1 = 2 from rfl] at hw160_0)
                          (try simp only [Nat.reduceMul, Nat.reduceEqDiff, Go.Addr.add, ↓reduceIte] at hw160_0)
                          obtain rfl : ad153 = ad160 := (by injection e160)
                          (try simp only [show (2 : Int).toNat = 2 from rfl, Nat.reduceMul, Nat.reduceEqDiff, Go.Addr.add, ↓reduceIte] at hx160_0)
                          have qi160 : (2 < (rd_L1 l1 x24_2).length) = True := eq_true (by omega)
                          (try rw [show ((2 : Int)).toNat = 2 from rfl] at hx160_0)
                          replace hx160_0 := (HB.out.cell (World.block_lt_of_cell? w _ hx160_0)).trans hx160_0
                          replace p160 := eq_true p160
                          replace q160 := eq_true q160
                          have p161 : 0 ≤ (1 : Int) := (by omega)
                          have q161 : 1 < ((rd_L1 l1 x24_2).length : Int) := of_decide_eq_true (by first | (with_reducible assumption) | assumption)
                          obtain ⟨ad161, e161, hx161_0⟩ := Kd.at_int HR152_0.out 1 p161 q161
                          have hw161_0 := hx161_0
                          (try rw [show ((1 : Int)).toNat = 1 from rfl] at hw161_0)
                          (try rw [show 1 * 1 = 1 from rfl] at hw161_0)
                          (try simp only [Nat.reduceMul, Nat.reduceEqDiff, Go.Addr.add, ↓reduceIte] at hw161_0)
                          obtain rfl : ad153 = ad161 := (by injection e161)
                          (try simp only [show (1 : Int).toNat = 1 from rfl, Nat.reduceMul, Nat.reduceEqDiff, Go.Addr.add, ↓reduceIte] at hx161_0)
                          have qi161 : (1 < (rd_L1 l1 x24_2).length) = True := eq_true (by omega)
                          (try rw [show ((1 : Int)).toNat = 1 from rfl] at hx161_0)
                          replace hx161_0 := (HB.out.cell (World.block_lt_of_cell? w _ hx161_0)).trans hx161_0
                          replace p161 := eq_true p161
                          replace q161 := eq_true q161
                          have p162 : 0 ≤ ((rd (rd_L1 l1 x24_2) 1) : Int) := of_decide_eq_true (by first | (with_reducible assumption) | assumption)
                          have q162 : (rd (rd_L1 l1 x24_2) 1) < (x6_2.length : Int) := of_decide_eq_true (by first | (with_reducible assumption) | assumption)
                          (try (obtain ⟨Aq_, cq_, eq_⟩ := Kd.R_slice HO_6.out; subst eq_))
                          obtain ⟨ad162, e162, hx162_0⟩ := Kd.at_int (Kd.R_reads' HO_6.out).2.2 (rd (rd_L1 l1 x24_2) 1) p162 q162
                          cases e162
                          replace p162 := eq_true p162
                          replace q162 := eq_true q162
                          have p163 : 0 ≤ (2 : Int) := (by omega)
                          have q163 : 2 < ((rd_L1 l1 x24_2).length : Int) := of_decide_eq_true (by first | (with_reducible assumption) | assumption)
                          obtain ⟨ad163, e163, hx163_0⟩ := Kd.at_int HR152_0.out 2 p163 q163
                          have hw163_0 := hx163_0
                          (try rw [show ((2 : Int)).toNat = 2 from rfl] at hw163_0)
                          (try rw [show 2 * 1 = 2 from rfl] at hw163_0)
                          (try simp only [Nat.reduceMul, Nat.reduceEqDiff, Go.Addr.add, ↓reduceIte] at hw163_0)
                          obtain rfl : ad153 = ad163 := (by injection e163)
                          (try simp only [show (2 : Int).toNat = 2 from rfl, Nat.reduceMul, Nat.reduceEqDiff, Go.Addr.add, ↓reduceIte] at hx163_0)
                          have qi163 : (2 < (rd_L1 l1 x24_2).length) = True := eq_true (by omega)
                          (try rw [show ((2 : Int)).toNat = 2 from rfl] at hx163_0)
                          replace hx163_0 := (HB.out.cell (World.block_lt_of_cell? w _ hx163_0)).trans hx163_0
                          replace p163 := eq_true p163
                          replace q163 := eq_true q163
                          have p164 : 0 ≤ ((rd (rd_L1 l1 x24_2) 2) : Int) := of_decide_eq_true (by first | (with_reducible assumption) | assumption)
                          have q164 : (rd (rd_L1 l1 x24_2) 2) < (x6_2.length : Int) := of_decide_eq_true (by first | (with_reducible assumption) | assumption)
                          obtain ⟨ad164, e164, hx164_0⟩ := Kd.at_int (Kd.R_reads' HO_6.out).2.2 (rd (rd_L1 l1 x24_2) 2) p164 q164
                          obtain rfl : ad162 = ad164 := (by injection e164)
                          replace p164 := eq_true p164
                          replace q164 := eq_true q164
                          refine start_ (n := 57) (S := fun w' => w'.cell? ad153 = some (.int .i64 (rd (rd_L1 l1 x24_2) 0)) ∧ w'.cell? ad153 = some (.int .i64 (rd (rd_L1 l1 x24_2) 0)) ∧ w'.cell? ⟨ad153.block, ad153.off + 1, none⟩ = some (.int .i64 (rd (rd_L1 l1 x24_2) 1)) ∧ w'.cell? ⟨ad153.block, ad153.off + 2, none⟩ = some (.int .i64 (rd (rd_L1 l1 x24_2) 2)) ∧ w'.cell? ⟨ad153.block, ad153.off + 1, none⟩ = some (.int .i64 (rd (rd_L1 l1 x24_2) 1)) ∧ w'.cell? ⟨ad153.block, ad153.off + 2, none⟩ = some (.int .i64 (rd (rd_L1 l1 x24_2) 2)) ∧ w'.cell? ⟨ad153.block, ad153.off + 1, none⟩ = some (.int .i64 (rd (rd_L1 l1 x24_2) 1)) ∧ w'.cell? (ad162.add ((rd (rd_L1 l1 x24_2) 1)).toNat) = some (.int .i64 (rd x6_2 (rd (rd_L1 l1 x24_2) 1))) ∧ w'.cell? ⟨ad153.block, ad153.off + 2, none⟩ = some (.int .i64 (rd (rd_L1 l1 x24_2) 2)) ∧ w'.cell? (ad162.add ((rd (rd_L1 l1 x24_2) 2)).toNat) = some (.int .i64 (rd x6_2 (rd (rd_L1 l1 x24_2) 2)))) (ds := []) (mb 57 0) (by kernel_rfl) rfl rfl ⟨((HB.out.cell (World.block_lt_of_cell? w _ hw153_0)).trans hw153_0), ((HB.out.cell (World.block_lt_of_cell? w _ hw155_0)).trans hw155_0), ((HB.out.cell (World.block_lt_of_cell? w _ hw157_0)).trans hw157_0), ((HB.out.cell (World.block_lt_of_cell? w _ hw158_0)).trans hw158_0), ((HB.out.cell (World.block_lt_of_cell? w _ hw159_0)).trans hw159_0), ((HB.out.cell (World.block_lt_of_cell? w _ hw160_0)).trans hw160_0), ((HB.out.cell (World.block_lt_of_cell? w _ hw161_0)).trans hw161_0), hx162_0, ((HB.out.cell (World.block_lt_of_cell? w _ hw163_0)).trans hw163_0), hx164_0⟩ (fun hHeld => ?_); refine with_tabW impl_RowOfPairs.tab7 impl_RowOfPairs.bits7 (fun HT_ HW_ => ?_)
                          generalize wr.drew = w48 at HO_6 HB hx153_0 hx155_0 hx157_0 hx158_0 hx159_0 hx160_0 hx161_0 hx162_0 hx163_0 hx164_0 hHeld ⊢
                          refine pureV 0 28 57 1 HT_ ?_
                          refine pureV 1 29 57 3 HT_ ?_
                          refine pureV 2 30 57 7 HT_ ?_
                          refine pureV 3 31 57 15 HT_ ?_
                          refine pureV 4 32 57 31 HT_ ?_
                          refine pureV 5 33 57 63 HT_ ?_
                          refine takeV 6 34 57 127 HT_ HW_ hHeld rfl (by rintro w' ⟨s0, s1, s2, s3, s4, s5, s6, s7, s8, s9⟩; go_simp; with_reducible rfl) ?_
                          refine one_ (i := 7) (N := some 35) (mb 57 255) rfl rfl (one_of HT_.out (by kernel_rfl)) (by decide) (fun K hK => ?_)
                          refine goes_ Try.func35 (by kernel_rfl) rfl #[.int .i64 (rd (rd_L1 l1 x24_2) 0)] (by rfl) rfl rfl (by (try simp only [List.map_toArray, List.map_cons, List.map_nil]); first | done | rfl | (simp only [List.length_drop, List.length_take]; rfl)) ?_
                          with_reducible refine (impl_isNumber.calls (rd (rd_L1 l1 x24_2) 0) true _ A16.out).mono ?_
                          rintro e w' ⟨rfl, ⟨nd, rfl⟩⟩
                          refine ⟨_, rfl, ?_⟩
                          obtain ⟨Ao49, co49, eo49⟩ := Kd.R_slice HO_6.out
                          (first | subst eo49 | (injection eo49 with f1_ f2_ f3_; have f4_ := f1_.symm; have f5_ := f3_.symm; clear f1_ f2_ f3_; subst f4_; subst f5_))
                          refine hK.out _ _ ⟨((HB.out.cell (World.block_lt_of_cell? w _ hw153_0)).trans hw153_0), ((HB.out.cell (World.block_lt_of_cell? w _ hw155_0)).trans hw155_0), ((HB.out.cell (World.block_lt_of_cell? w _ hw157_0)).trans hw157_0), ((HB.out.cell (World.block_lt_of_cell? w _ hw158_0)).trans hw158_0), ((HB.out.cell (World.block_lt_of_cell? w _ hw159_0)).trans hw159_0), ((HB.out.cell (World.block_lt_of_cell? w _ hw160_0)).trans hw160_0), ((HB.out.cell (World.block_lt_of_cell? w _ hw161_0)).trans hw161_0), hHeld.2.2.2.2.2.2.2.1, ((HB.out.cell (World.block_lt_of_cell? w _ hw163_0)).trans hw163_0), hHeld.2.2.2.2.2.2.2.2.2⟩ (fun hHeld => ?_)
                          clear hK K
                          refine norm_ (a' := ?_) ?_ ?_
                          rotate_left
                          ·show Act.put _ (some 35) _ = _
                           simp only [Act.put, List.setIfInBounds_toArray, List.set_cons_zero, List.set_cons_succ, i64_w, i32_w]
                           rfl
                          refine pureV 8 36 57 511 HT_ ?_
                          refine pureV 9 37 57 1023 HT_ ?_
                          refine pureV 10 38 57 2047 HT_ ?_
                          refine pureV 11 39 57 4095 HT_ ?_
                          refine pureV 12 40 57 8191 HT_ ?_
                          refine pureV 13 41 57 16383 HT_ ?_
                          refine takeV 14 42 57 32767 HT_ HW_ hHeld rfl (by rintro w' ⟨s0, s1, s2, s3, s4, s5, s6, s7, s8, s9⟩; go_simp; with_reducible rfl) ?_
                          refine one_ (i := 15) (N := some 43) (mb 57 65535) rfl rfl (one_of HT_.out (by kernel_rfl)) (by decide) (fun K hK => ?_)
                          refine goes_ Try.func36 (by kernel_rfl) rfl #[.slice (some ad162) x6_2.length co49, .int .i64 (rd (rd_L1 l1 x24_2) 0)] (by rfl) rfl rfl (by (try simp only [List.map_toArray, List.map_cons, List.map_nil]); first | done | rfl | (simp only [List.length_drop, List.length_take]; rfl)) ?_
                          with_reducible refine (slices_Contains_int_int.calls k2 _ _ x6_2 (rd (rd_L1 l1 x24_2) 0) false _ ?side1 ?side2 A18.out).mono ?_
                          (case side1 => repeat (first | exact (Kd.R_reads' HO_6.out).2.2 | (with_reducible refine Kd.C_alloc ?_ _) | (with_reducible refine Kd.C_drewN ?_ _) | (with_reducible refine Kd.C_drew ?_)))
                          (case side2 => exact (Kd.R_reads' HO_6.out).2.1)
                          rintro e w' ⟨rfl, ⟨nd, rfl⟩⟩
                          refine ⟨_, rfl, ?_⟩
                          refine hK.out _ _ ⟨((HB.out.cell (World.block_lt_of_cell? w _ hw153_0)).trans hw153_0), ((HB.out.cell (World.block_lt_of_cell? w _ hw155_0)).trans hw155_0), ((HB.out.cell (World.block_lt_of_cell? w _ hw157_0)).trans hw157_0), ((HB.out.cell (World.block_lt_of_cell? w _ hw158_0)).trans hw158_0), ((HB.out.cell (World.block_lt_of_cell? w _ hw159_0)).trans hw159_0), ((HB.out.cell (World.block_lt_of_cell? w _ hw160_0)).trans hw160_0), ((HB.out.cell (World.block_lt_of_cell? w _ hw161_0)).trans hw161_0), hHeld.2.2.2.2.2.2.2.1, ((HB.out.cell (World.block_lt_of_cell? w _ hw163_0)).trans hw163_0), hHeld.2.2.2.2.2.2.2.2.2⟩ (fun hHeld => ?_)
                          clear hK K
                          refine norm_ (a' := ?_) ?_ ?_
                          rotate_left
                          ·show Act.put _ (some 43) _ = _
                           simp only [Act.put, List.setIfInBounds_toArray, List.set_cons_zero, List.set_cons_succ, i64_w, i32_w]
                           rfl
                          refine pureV 16 44 57 131071 HT_ ?_
                          refine pureV 17 45 57 262143 HT_ ?_
                          refine pureV 18 46 57 524287 HT_ ?_
                          refine pureV 19 47 57 1048575 HT_ ?_
                          refine takeV 20 48 57 2097151 HT_ HW_ hHeld rfl (by rintro w' ⟨s0, s1, s2, s3, s4, s5, s6, s7, s8, s9⟩; go_simp; with_reducible rfl) ?_
                          refine pureV 21 49 57 4194303 HT_ ?_
                          refine pureV 22 50 57 8388607 HT_ ?_
                          refine pureV 23 51 57 16777215 HT_ ?_
                          refine pureV 24 52 57 33554431 HT_ ?_
                          refine pureV 25 53 57 67108863 HT_ ?_
                          refine pureV 27 55 57 201326591 HT_ ?_
                          refine takeV 26 54 57 268435455 HT_ HW_ hHeld rfl (by rintro w' ⟨s0, s1, s2, s3, s4, s5, s6, s7, s8, s9⟩; go_simp; with_reducible rfl) ?_
                          refine pureV 28 56 57 536870911 HT_ ?_
                          refine pureV 29 57 57 1073741823 HT_ ?_
                          refine pureV 30 58 57 2147483647 HT_ ?_
                          refine pureV 31 59 57 4294967295 HT_ ?_
                          refine pureV 32 60 57 8589934591 HT_ ?_
                          refine pureV 34 62 57 25769803775 HT_ ?_
                          refine pureV 35 63 57 60129542143 HT_ ?_
                          refine takeV 33 61 57 68719476735 HT_ HW_ hHeld rfl (by rintro w' ⟨s0, s1, s2, s3, s4, s5, s6, s7, s8, s9⟩; go_simp; with_reducible rfl) ?_
                          refine takeV 36 64 57 137438953471 HT_ HW_ hHeld rfl (by rintro w' ⟨s0, s1, s2, s3, s4, s5, s6, s7, s8, s9⟩; go_simp; with_reducible rfl) ?_
                          refine pureV 37 65 57 274877906943 HT_ ?_
                          refine pureV 38 66 57 549755813887 HT_ ?_
                          refine pureV 39 67 57 1099511627775 HT_ ?_
                          refine pureV 40 68 57 2199023255551 HT_ ?_
                          refine pureV 41 69 57 4398046511103 HT_ ?_
                          refine pureV 42 70 57 8796093022207 HT_ ?_
                          refine takeV 43 71 57 17592186044415 HT_ HW_ hHeld rfl (by rintro w' ⟨s0, s1, s2, s3, s4, s5, s6, s7, s8, s9⟩; go_simp; with_reducible rfl) ?_
                          refine pureV 44 72 57 35184372088831 HT_ ?_
                          refine takeV 45 73 57 70368744177663 HT_ HW_ hHeld rfl (by rintro w' ⟨s0, s1, s2, s3, s4, s5, s6, s7, s8, s9⟩; go_simp; with_reducible rfl) ?_
                          refine pureV 46 74 57 140737488355327 HT_ ?_
                          refine pureV 47 75 57 281474976710655 HT_ ?_
                          refine pureV 48 76 57 562949953421311 HT_ ?_
                          refine pureV 49 77 57 1125899906842623 HT_ ?_
                          refine pureV 50 78 57 2251799813685247 HT_ ?_
                          refine pureV 51 79 57 4503599627370495 HT_ ?_
                          refine takeV 52 80 57 9007199254740991 HT_ HW_ hHeld rfl (by rintro w' ⟨s0, s1, s2, s3, s4, s5, s6, s7, s8, s9⟩; go_simp; with_reducible rfl) ?_
                          refine pureV 53 81 57 18014398509481983 HT_ ?_
                          refine takeV 54 82 57 36028797018963967 HT_ HW_ hHeld rfl (by rintro w' ⟨s0, s1, s2, s3, s4, s5, s6, s7, s8, s9⟩; go_simp; with_reducible rfl) ?_
                          refine pureV 55 83 57 72057594037927935 HT_ ?_
                          refine pureV 56 84 57 144115188075855871 HT_ ?_
                          refine done_ (done_of HT_.out (by kernel_rfl)) ?_
                          try go_wp2
                          go_ret2
                          exact ⟨_, by first | rfl | (simp [errW_none, errW_some] <;> rfl) | (simp [*, errW_none, errW_some] <;> rfl), by first | exact Kd.R_nil _ _ _ _ _ | exact Kd.N_nil _ _ _ _ _ | exact Kd.V_nil _ _ _ _ _ | exact Kd.Q_nil _ _ _ _ _ | exact Kd.S_nil _ _ _ _ _, by repeat (first | (with_reducible first | exact HB.out | apply below_alloc | apply pw_below_drewN | apply below_drew1) | exact HB.out)⟩
                        ·rw [if_neg c37] at H
                         exact absurd H (by simp)
                       ·rw [if_neg c36] at H
                        exact absurd H (by simp)
                      ·rw [if_neg c35] at H
                       have c35b0 : ((rd x6_2 (rd (rd_L1 l1 x24_2) 1)) == 0) = false := beq_eq_false_iff_ne.mpr c35
                       have c35b1 : ((rd x6_2 (rd (rd_L1 l1 x24_2) 1)) != 0) = true := bne_iff_ne.mpr c35
                       simp only [Option.some.injEq, Prod.mk.injEq] at H
                       obtain ⟨rfl, rfl⟩ := H
                       have p152 : 0 ≤ (x24_2 : Int) := of_decide_eq_true (by first | (with_reducible assumption) | assumption)
                       have q152 : x24_2 < (l1.length : Int) := of_decide_eq_true (by first | (with_reducible assumption) | assumption)
                       obtain ⟨ad152, A152_0, c152_0, e152, hx152_0, hl152_0, hi152_0⟩ := at_L1 HR1.out x24_2 p152 q152
                       cases e152
                       replace hx152_0 := (HB.out.cell (World.block_lt_of_cell? w _ hx152_0)).trans hx152_0
                       have HR152_0 := Aside0.mk hi152_0
                       have HC152_0 := Aside0.mk hl152_0
                       clear hi152_0 hl152_0
                       replace p152 := eq_true p152
                       replace q152 := eq_true q152
                       try go_wp2
                       have n0_ := Aside0.mk (Kd.R_drew HO_6.out)
                       have n1_ := Aside0.mk (below_drew1 HB.out)
                       clear HO_6
                       clear HB
                       have HO_6 := n0_
                       have HB := n1_
                       clear n0_ n1_
                       have p153 : 0 ≤ (0 : Int) := (by omega)
                       have q153 : 0 < ((rd_L1 l1 x24_2).length : Int) := of_decide_eq_true (by first | (with_reducible assumption) | assumption)
                       obtain ⟨ad153, e153, hx153_0⟩ := Kd.at_int HR152_0.out 0 p153 q153
                       have hw153_0 := hx153_0
                       (try rw [show ((0 : Int)).toNat = 0 from rfl] at hw153_0)
                       (try rw [show 0 * 1 = 0 from rfl] at hw153_0)
                       (try rw [Addr.add_zero'] at hw153_0)
                       cases e153
                       have qi153 : (0 < (rd_L1 l1 x24_2).length) = True := eq_true (by omega)
                       (try rw [show ((0 : Int)).toNat = 0 from rfl] at hx153_0)
                       (try rw [Addr.add_zero'] at hx153_0)
                       replace hx153_0 := (HB.out.cell (World.block_lt_of_cell? w _ hx153_0)).trans hx153_0
                       replace p153 := eq_true p153
                       replace q153 := eq_true q153
                       have p155 : 0 ≤ (0 : Int) := (by omega)
                       have q155 : 0 < ((rd_L1 l1 x24_2).length : Int) := of_decide_eq_true (by first | (with_reducible assumption) | assumption)
                       obtain ⟨ad155, e155, hx155_0⟩ := Kd.at_int HR152_0.out 0 p155 q155
                       have hw155_0 := hx155_0
                       (try rw [show ((0 : Int)).toNat = 0 from rfl] at hw155_0)
                       (try rw [show 0 * 1 = 0 from rfl] at hw155_0)
                       (try rw [Addr.add_zero'] at hw155_0)
                       obtain rfl : ad153 = ad155 := (by injection e155)
                       have qi155 : (0 < (rd_L1 l1 x24_2).length) = True := eq_true (by omega)
                       (try rw [show ((0 : Int)).toNat = 0 from rfl] at hx155_0)
                       (try rw [Addr.add_zero'] at hx155_0)
                       replace hx155_0 := (HB.out.cell (World.block_lt_of_cell? w _ hx155_0)).trans hx155_0
                       replace p155 := eq_true p155
                       replace q155 := eq_true q155
                       have p157 : 0 ≤ (1 : Int) := (by omega)
                       have q157 : 1 < ((rd_L1 l1 x24_2).length : Int) := of_decide_eq_true (by first | (with_reducible assumption) | assumption)
                       obtain ⟨ad157, e157, hx157_0⟩ := Kd.at_int HR152_0.out 1 p157 q157
                       have hw157_0 := hx157_0
                       (try rw [show ((1 : Int)).toNat = 1 from rfl] at hw157_0)
                       (try rw [show 1 * 1 = 1 from rfl] at hw157_0)
                       (try simp only [Nat.reduceMul, Nat.reduceEqDiff, Go.Addr.add, ↓reduceIte] at hw157_0)
                       obtain rfl : ad153 = ad157 := (by injection e157)
                       (try simp only [show (1 : Int).toNat = 1 from rfl, Nat.reduceMul, Nat.reduceEqDiff, Go.Addr.add, ↓reduceIte] at hx157_0)
                       have qi157 : (1 < (rd_L1 l1 x24_2).length) = True := eq_true (by omega)
                       (try rw [show ((1 : Int)).toNat = 1 from rfl] at hx157_0)
                       replace hx157_0 := (HB.out.cell (World.block_lt_of_cell? w _ hx157_0)).trans hx157_0
                       replace p157 := eq_true p157
                       replace q157 := eq_true q157
                       have p158 : 0 ≤ (2 : Int) := (by omega)
                       have q158 : 2 < ((rd_L1 l1 x24_2).length : Int) := of_decide_eq_true (by first | (with_reducible assumption) | assumption)
                       obtain ⟨ad158, e158, hx158_0⟩ := Kd.at_int HR152_0.out 2 p158 q158
                       have hw158_0 := hx158_0
                       (try rw [show ((2 : Int)).toNat = 2 from rfl] at hw158_0)
                       (try rw [show 2 * 1 = 2 from rfl] at hw158_0)
                       (try simp only [Nat.reduceMul, Nat.reduceEqDiff, Go.Addr.add, ↓reduceIte] at hw158_0)
                       obtain rfl : ad153 = ad158 := (by injection e158)
                       (try simp only [show (2 : Int).toNat = 2 from rfl, Nat.reduceMul, Nat.reduceEqDiff, Go.Addr.add, ↓reduceIte] at hx158_0)
                       have qi158 : (2 < (rd_L1 l1 x24_2).length) = True := eq_true (by omega)
                       (try rw [show ((2 : Int)).toNat = 2 from rfl] at hx158_0)
                       replace hx158_0 := (HB.out.cell (World.block_lt_of_cell? w _ hx158_0)).trans hx158_0
                       replace p158 := eq_true p158
                       replace q158 := eq_true q158
                       have p159 : 0 ≤ (1 : Int) := (by omega)
                       have q159 : 1 < ((rd_L1 l1 x24_2).length : Int) := of_decide_eq_true (by first | (with_reducible assumption) | assumption)
                       obtain ⟨ad159, e159, hx159_0⟩ := Kd.at_int HR152_0.out 1 p159 q159
                       have hw159_0 := hx159_0
                       (try rw [show ((1 : Int)).toNat = 1 from rfl] at hw159_0)
                       (try rw [show 1 * 1 = 1 from rfl] at hw159_0)
                       (try simp only [Nat.reduceMul, Nat.reduceEqDiff, Go.Addr.add, ↓reduceIte] at hw159_0)
                       obtain rfl : ad153 = ad159 := (by injection e159)
                       (try simp only [show (1 : Int).toNat = 1 from rfl, Nat.reduceMul, Nat.reduceEqDiff, Go.Addr.add, ↓reduceIte] at hx159_0)
                       have qi159 : (1 < (rd_L1 l1 x24_2).length) = True := eq_true (by omega)
                       (try rw [show ((1 : Int)).toNat = 1 from rfl] at hx159_0)
                       replace hx159_0 := (HB.out.cell (World.block_lt_of_cell? w _ hx159_0)).trans hx159_0
                       replace p159 := eq_true p159
                       replace q159 := eq_true q159
                       have p160 : 0 ≤ (2 : Int) := (by omega)
                       have q160 : 2 < ((rd_L1 l1 x24_2).length : Int) := of_decide_eq_true (by first | (with_reducible assumption) | assumption)
                       obtain ⟨ad160, e160, hx160_0⟩ := Kd.at_int HR152_0.out 2 p160 q160
                       have hw160_0 := hx160_0
                       (try rw [show ((2 : Int)).toNat = 2 from rfl] at hw160_0)
                       (try rw [show 2 * 1 = 2 from rfl] at hw160_0)
                       (try simp only [Nat.reduceMul, Nat.reduceEqDiff, Go.Addr.add, ↓reduceIte] at hw160_0)
                       obtain rfl : ad153 = ad160 := (by injection e160)
                       (try simp only [show (2 : Int).toNat = 2 from rfl, Nat.reduceMul, Nat.reduceEqDiff, Go.Addr.add, ↓reduceIte] at hx160_0)
                       have qi160 : (2 < (rd_L1 l1 x24_2).length) = True := eq_true (by omega)
                       (try rw [show ((2 : Int)).toNat = 2 from rfl] at hx160_0)
                       replace hx160_0 := (HB.out.cell (World.block_lt_of_cell? w _ hx160_0)).trans hx160_0
                       replace p160 := eq_true p160
                       replace q160 := eq_true q160
                       have p161 : 0 ≤ (1 : Int) := (by omega)
                       have q161 : 1 < ((rd_L1 l1 x24_2).length : Int) := of_decide_eq_true (by first | (with_reducible assumption) | assumption)
                       obtain ⟨ad161, e161, hx161_0⟩ := Kd.at_int HR152_0.out 1 p161 q161
                       have hw161_0 := hx161_0
                       (try rw [show ((1 : Int)).toNat = 1 from rfl] at hw161_0)
                       (try rw [show 1 * 1 = 1 from rfl] at hw161_0)
                       (try simp only [Nat.reduceMul, Nat.reduceEqDiff, Go.Addr.add, ↓reduceIte] at hw161_0)
                       obtain rfl : ad153 = ad161 := (by injection e161)
                       (try simp only [show (1 : Int).toNat = 1 from rfl, Nat.reduceMul, Nat.reduceEqDiff, Go.Addr.add, ↓reduceIte] at hx161_0)
                       have qi161 : (1 < (rd_L1 l1 x24_2).length) = True := eq_true (by omega)
                       (try rw [show ((1 : Int)).toNat = 1 from rfl] at hx161_0)
                       replace hx161_0 := (HB.out.cell (World.block_lt_of_cell? w _ hx161_0)).trans hx161_0
                       replace p161 := eq_true p161
                       replace q161 := eq_true q161
                       have p162 : 0 ≤ ((rd (rd_L1 l1 x24_2) 1) : Int) := of_decide_eq_true (by first | (with_reducible assumption) | assumption)
                       have q162 : (rd (rd_L1 l1 x24_2) 1) < (x6_2.length : Int) := of_decide_eq_true (by first | (with_reducible assumption) | assumption)
                       (try (obtain ⟨Aq_, cq_, eq_⟩ := Kd.R_slice HO_6.out; subst eq_))
                       obtain ⟨ad162, e162, hx162_0⟩ := Kd.at_int (Kd.R_reads' HO_6.out).2.2 (rd (rd_L1 l1 x24_2) 1) p162 q162
                       cases e162
                       replace p162 := eq_true p162
                       replace q162 := eq_true q162
                       refine start_ (n := 57) (S := fun w' => w'.cell? ad153 = some (.int .i64 (rd (rd_L1 l1 x24_2) 0)) ∧ w'.cell? ad153 = some (.int .i64 (rd (rd_L1 l1 x24_2) 0)) ∧ w'.cell? ⟨ad153.block, ad153.off + 1, none⟩ = some (.int .i64 (rd (rd_L1 l1 x24_2) 1)) ∧ w'.cell? ⟨ad153.block, ad153.off + 2, none⟩ = some (.int .i64 (rd (rd_L1 l1 x24_2) 2)) ∧ w'.cell? ⟨ad153.block, ad153.off + 1, none⟩ = some (.int .i64 (rd (rd_L1 l1 x24_2) 1)) ∧ w'.cell? ⟨ad153.block, ad153.off + 2, none⟩ = some (.int .i64 (rd (rd_L1 l1 x24_2) 2)) ∧ w'.cell? ⟨ad153.block, ad153.off + 1, none⟩ = some (.int .i64 (rd (rd_L1 l1 x24_2) 1)) ∧ w'.cell? (ad162.add ((rd (rd_L1 l1 x24_2) 1)).toNat) = some (.int .i64 (rd x6_2 (rd (rd_L1 l1 x24_2) 1)))) (ds := []) (mb 57 0) (by kernel_rfl) rfl rfl ⟨((HB.out.cell (World.block_lt_of_cell? w _ hw153_0)).trans hw153_0), ((HB.out.cell (World.block_lt_of_cell? w _ hw155_0)).trans hw155_0), ((HB.out.cell (World.block_lt_of_cell? w _ hw157_0)).trans hw157_0), ((HB.out.cell (World.block_lt_of_cell? w _ hw158_0)).trans hw158_0), ((HB.out.cell (World.block_lt_of_cell? w _ hw159_0)).trans hw159_0), ((HB.out.cell (World.block_lt_of_cell? w _ hw160_0)).trans hw160_0), ((HB.out.cell (World.block_lt_of_cell? w _ hw161_0)).trans hw161_0), hx162_0⟩ (fun hHeld => ?_); refine with_tabW impl_RowOfPairs.tab7 impl_RowOfPairs.bits7 (fun HT_ HW_ => ?_)
                       generalize wr.drew = w50 at HO_6 HB hx153_0 hx155_0 hx157_0 hx158_0 hx159_0 hx160_0 hx161_0 hx162_0 hHeld ⊢
                       refine pureV 0 28 57 1 HT_ ?_
                       refine pureV 1 29 57 3 HT_ ?_
                       refine pureV 2 30 57 7 HT_ ?_
                       refine pureV 3 31 57 15 HT_ ?_
                       refine pureV 4 32 57 31 HT_ ?_
                       refine pureV 5 33 57 63 HT_ ?_
                       refine takeV 6 34 57 127 HT_ HW_ hHeld rfl (by rintro w' ⟨s0, s1, s2, s3, s4, s5, s6, s7⟩; go_simp; with_reducible rfl) ?_
                       refine one_ (i := 7) (N := some 35) (mb 57 255) rfl rfl (one_of HT_.out (by kernel_rfl)) (by decide) (fun K hK => ?_)
                       refine goes_ Try.func35 (by kernel_rfl) rfl #[.int .i64 (rd (rd_L1 l1 x24_2) 0)] (by rfl) rfl rfl (by (try simp only [List.map_toArray, List.map_cons, List.map_nil]); first | done | rfl | (simp only [List.length_drop, List.length_take]; rfl)) ?_
                       with_reducible refine (impl_isNumber.calls (rd (rd_L1 l1 x24_2) 0) true _ A16.out).mono ?_
                       rintro e w' ⟨rfl, ⟨nd, rfl⟩⟩
                       refine ⟨_, rfl, ?_⟩
                       obtain ⟨Ao51, co51, eo51⟩ := Kd.R_slice HO_6.out
                       (first | subst eo51 | (injection eo51 with f1_ f2_ f3_; have f4_ := f1_.symm; have f5_ := f3_.symm; clear f1_ f2_ f3_; subst f4_; subst f5_))
                       refine hK.out _ _ ⟨((HB.out.cell (World.block_lt_of_cell? w _ hw153_0)).trans hw153_0), ((HB.out.cell (World.block_lt_of_cell? w _ hw155_0)).trans hw155_0), ((HB.out.cell (World.block_lt_of_cell? w _ hw157_0)).trans hw157_0), ((HB.out.cell (World.block_lt_of_cell? w _ hw158_0)).trans hw158_0), ((HB.out.cell (World.block_lt_of_cell? w _ hw159_0)).trans hw159_0), ((HB.out.cell (World.block_lt_of_cell? w _ hw160_0)).trans hw160_0), ((HB.out.cell (World.block_lt_of_cell? w _ hw161_0)).trans hw161_0), hHeld.2.2.2.2.2.2.2⟩ (fun hHeld => ?_)
                       clear hK K
                       refine norm_ (a' := ?_) ?_ ?_
                       rotate_left
                       ·show Act.put _ (some 35) _ = _
                        simp only [Act.put, List.setIfInBounds_toArray, List.set_cons_zero, List.set_cons_succ, i64_w, i32_w]
                        rfl
                       refine pureV 8 36 57 511 HT_ ?_
                       refine pureV 9 37 57 1023 HT_ ?_
                       refine pureV 10 38 57 2047 HT_ ?_
                       refine pureV 11 39 57 4095 HT_ ?_
                       refine pureV 12 40 57 8191 HT_ ?_
                       refine pureV 13 41 57 16383 HT_ ?_
                       refine takeV 14 42 57 32767 HT_ HW_ hHeld rfl (by rintro w' ⟨s0, s1, s2, s3, s4, s5, s6, s7⟩; go_simp; with_reducible rfl) ?_
                       refine one_ (i := 15) (N := some 43) (mb 57 65535) rfl rfl (one_of HT_.out (by kernel_rfl)) (by decide) (fun K hK => ?_)
                       refine goes_ Try.func36 (by kernel_rfl) rfl #[.slice (some ad162) x6_2.length co51, .int .i64 (rd (rd_L1 l1 x24_2) 0)] (by rfl) rfl rfl (by (try simp only [List.map_toArray, List.map_cons, List.map_nil]); first | done | rfl | (simp only [List.length_drop, List.length_take]; rfl)) ?_
                       with_reducible refine (slices_Contains_int_int.calls k2 _ _ x6_2 (rd (rd_L1 l1 x24_2) 0) false _ ?side1 ?side2 A18.out).mono ?_
                       (case side1 => repeat (first | exact (Kd.R_reads' HO_6.out).2.2 | (with_reducible refine Kd.C_alloc ?_ _) | (with_reducible refine Kd.C_drewN ?_ _) | (with_reducible refine Kd.C_drew ?_)))
                       (case side2 => exact (Kd.R_reads' HO_6.out).2.1)
                       rintro e w' ⟨rfl, ⟨nd, rfl⟩⟩
                       refine ⟨_, rfl, ?_⟩
                       refine hK.out _ _ ⟨((HB.out.cell (World.block_lt_of_cell? w _ hw153_0)).trans hw153_0), ((HB.out.cell (World.block_lt_of_cell? w _ hw155_0)).trans hw155_0), ((HB.out.cell (World.block_lt_of_cell? w _ hw157_0)).trans hw157_0), ((HB.out.cell (World.block_lt_of_cell? w _ hw158_0)).trans hw158_0), ((HB.out.cell (World.block_lt_of_cell? w _ hw159_0)).trans hw159_0), ((HB.out.cell (World.block_lt_of_cell? w _ hw160_0)).trans hw160_0), ((HB.out.cell (World.block_lt_of_cell? w _ hw161_0)).trans hw161_0), hHeld.2.2.2.2.2.2.2⟩ (fun hHeld => ?_)
                       clear hK K
                       refine norm_ (a' := ?_) ?_ ?_
                       rotate_left
                       ·show Act.put _ (some 43) _ = _
                        simp only [Act.put, List.setIfInBounds_toArray, List.set_cons_zero, List.set_cons_succ, i64_w, i32_w]
                        rfl
                       refine pureV 16 44 57 131071 HT_ ?_
                       refine pureV 17 45 57 262143 HT_ ?_
                       refine pureV 18 46 57 524287 HT_ ?_
                       refine pureV 19 47 57 1048575 HT_ ?_
                       refine takeV 20 48 57 2097151 HT_ HW_ hHeld rfl (by rintro w' ⟨s0, s1, s2, s3, s4, s5, s6, s7⟩; go_simp; with_reducible rfl) ?_
                       refine pureV 21 49 57 4194303 HT_ ?_
                       refine pureV 22 50 57 8388607 HT_ ?_
                       refine pureV 23 51 57 16777215 HT_ ?_
                       refine pureV 24 52 57 33554431 HT_ ?_
                       refine pureV 25 53 57 67108863 HT_ ?_
                       refine pureV 27 55 57 201326591 HT_ ?_
                       refine takeV 26 54 57 268435455 HT_ HW_ hHeld rfl (by rintro w' ⟨s0, s1, s2, s3, s4, s5, s6, s7⟩; go_simp; with_reducible rfl) ?_
                       refine pureV 28 56 57 536870911 HT_ ?_
                       refine pureV 29 57 57 1073741823 HT_ ?_
                       refine pureV 30 58 57 2147483647 HT_ ?_
                       refine pureV 31 59 57 4294967295 HT_ ?_
                       refine pureV 32 60 57 8589934591 HT_ ?_
                       refine pureV 34 62 57 25769803775 HT_ ?_
                       refine pureV 35 63 57 60129542143 HT_ ?_
                       refine takeV 33 61 57 68719476735 HT_ HW_ hHeld rfl (by rintro w' ⟨s0, s1, s2, s3, s4, s5, s6, s7⟩; go_simp; with_reducible rfl) ?_
                       refine takeV 36 64 57 137438953471 HT_ HW_ hHeld rfl (by rintro w' ⟨s0, s1, s2, s3, s4, s5, s6, s7⟩; go_simp; with_reducible rfl) ?_
                       refine pureV 37 65 57 274877906943 HT_ ?_
                       refine pureV 38 66 57 549755813887 HT_ ?_
                       refine pureV 39 67 57 1099511627775 HT_ ?_
                       refine pureV 40 68 57 2199023255551 HT_ ?_
                       refine pureV 41 69 57 4398046511103 HT_ ?_
                       refine pureV 42 70 57 8796093022207 HT_ ?_
                       refine takeV 43 71 57 17592186044415 HT_ HW_ hHeld rfl (by rintro w' ⟨s0, s1, s2, s3, s4, s5, s6, s7⟩; go_simp; with_reducible rfl) ?_
                       refine pureV 44 72 57 35184372088831 HT_ ?_
                       refine takeV 45 73 57 70368744177663 HT_ HW_ hHeld rfl (by rintro w' ⟨s0, s1, s2, s3, s4, s5, s6, s7⟩; go_simp; with_reducible rfl) ?_
                       refine pureV 46 74 57 140737488355327 HT_ ?_
                       refine pureV 47 75 57 281474976710655 HT_ ?_
                       refine pureV 48 76 57 562949953421311 HT_ ?_
                       refine pureU 49 77 57 1125899906842623 HT_ ?_
                       refine pureU 50 78 57 2251799813685247 HT_ ?_
                       refine pureU 51 79 57 4503599627370495 HT_ ?_
                       refine pureU 52 80 57 9007199254740991 HT_ ?_
                       refine pureU 53 81 57 18014398509481983 HT_ ?_
                       refine pureU 54 82 57 36028797018963967 HT_ ?_
                       refine pureU 55 83 57 72057594037927935 HT_ ?_
                       refine pureV 56 84 57 144115188075855871 HT_ ?_
                       refine done_ (done_of HT_.out (by kernel_rfl)) ?_
                       try go_wp2
                       go_ret2
                       exact ⟨_, by first | rfl | (simp [errW_none, errW_some] <;> rfl) | (simp [*, errW_none, errW_some] <;> rfl), by first | exact Kd.R_nil _ _ _ _ _ | exact Kd.N_nil _ _ _ _ _ | exact Kd.V_nil _ _ _ _ _ | exact Kd.Q_nil _ _ _ _ _ | exact Kd.S_nil _ _ _ _ _, by repeat (first | (with_reducible first | exact HB.out | apply below_alloc | apply pw_below_drewN | apply below_drew1) | exact HB.out)⟩
                     ·rw [if_neg c34] at H
                      exact absurd H (by simp)
                    ·rw [if_neg c33] at H
                     exact absurd H (by simp)
                 ·rw [if_neg c26] at H
                  exact absurd H (by simp)
               ·rw [if_neg c22] at H
                exact absurd H (by simp)
             ·replace c17 := Bool.eq_false_iff.mpr c17
              subst c17
              have H1 : (some (([] : List Int), false)) = some (r1, r2) := by rw [if_neg (show ¬ (false = true) by decide)] at H; exact H
              clear H
              have H := H1
              clear H1
              simp only [Option.some.injEq, Prod.mk.injEq] at H
              obtain ⟨rfl, rfl⟩ := H
              have p152 : 0 ≤ (x24_2 : Int) := of_decide_eq_true (by first | (with_reducible assumption) | assumption)
              have q152 : x24_2 < (l1.length : Int) := of_decide_eq_true (by first | (with_reducible assumption) | assumption)
              obtain ⟨ad152, A152_0, c152_0, e152, hx152_0, hl152_0, hi152_0⟩ := at_L1 HR1.out x24_2 p152 q152
              cases e152
              replace hx152_0 := (HB.out.cell (World.block_lt_of_cell? w _ hx152_0)).trans hx152_0
              have HR152_0 := Aside0.mk hi152_0
              have HC152_0 := Aside0.mk hl152_0
              clear hi152_0 hl152_0
              replace p152 := eq_true p152
              replace q152 := eq_true q152
              try go_wp2
              have n0_ := Aside0.mk (Kd.R_drew HO_6.out)
              have n1_ := Aside0.mk (below_drew1 HB.out)
              clear HO_6
              clear HB
              have HO_6 := n0_
              have HB := n1_
              clear n0_ n1_
              have p153 : 0 ≤ (0 : Int) := (by omega)
              have q153 : 0 < ((rd_L1 l1 x24_2).length : Int) := of_decide_eq_true (by first | (with_reducible assumption) | assumption)
              obtain ⟨ad153, e153, hx153_0⟩ := Kd.at_int HR152_0.out 0 p153 q153
              have hw153_0 := hx153_0
              (try rw [show ((0 : Int)).toNat = 0 from rfl] at hw153_0)
              (try rw [show 0 * 1 = 0 from rfl] at hw153_0)
              (try rw [Addr.add_zero'] at hw153_0)
              cases e153
              have qi153 : (0 < (rd_L1 l1 x24_2).length) = True := eq_true (by omega)
              (try rw [show ((0 : Int)).toNat = 0 from rfl] at hx153_0)
              (try rw [Addr.add_zero'] at hx153_0)
              replace hx153_0 := (HB.out.cell (World.block_lt_of_cell? w _ hx153_0)).trans hx153_0
              replace p153 := eq_true p153
              replace q153 := eq_true q153
              refine start_ (n := 57) (S := fun w' => w'.cell? ad153 = some (.int .i64 (rd (rd_L1 l1 x24_2) 0))) (ds := []) (mb 57 0) (by kernel_rfl) rfl rfl (((HB.out.cell (World.block_lt_of_cell? w _ hw153_0)).trans hw153_0)) (fun hHeld => ?_); refine with_tabW impl_RowOfPairs.tab7 impl_RowOfPairs.bits7 (fun HT_ HW_ => ?_)
              generalize wr.drew = w52 at HO_6 HB hx153_0 hHeld ⊢
              refine pureV 0 28 57 1 HT_ ?_
              refine pureV 1 29 57 3 HT_ ?_
              refine pureV 2 30 57 7 HT_ ?_
              refine pureV 3 31 57 15 HT_ ?_
              refine pureV 4 32 57 31 HT_ ?_
              refine pureV 5 33 57 63 HT_ ?_
              refine take_ (i := 6) (N := some 34) (v := ?_) (a' := ?_) (mb 57 127) rfl rfl (take_ofW HT_.out HW_.out (by kernel_rfl)) (fun _ _ _ h => h) (Or.inl ⟨by rfl, ?_⟩) hHeld ?_ ?_
              rotate_left
              ·intro w' s0
               go_simp
               with_reducible rfl
              rotate_left
              ·simp only [Act.put, List.setIfInBounds_toArray, List.set_cons_zero, List.set_cons_succ, i64_w, i32_w]
               rfl
              refine one_ (i := 7) (N := some 35) (mb 57 255) rfl rfl (one_of HT_.out (by kernel_rfl)) (by decide) (fun K hK => ?_)
              refine goes_ Try.func35 (by kernel_rfl) rfl #[.int .i64 (rd (rd_L1 l1 x24_2) 0)] (by rfl) rfl rfl (by (try simp only [List.map_toArray, List.map_cons, List.map_nil]); first | done | rfl | (simp only [List.length_drop, List.length_take]; rfl)) ?_
              with_reducible refine (impl_isNumber.calls (rd (rd_L1 l1 x24_2) 0) false _ A16.out).mono ?_
              rintro e w' ⟨rfl, ⟨nd, rfl⟩⟩
              refine ⟨_, rfl, ?_⟩
              refine hK.out _ _ (((HB.out.cell (World.block_lt_of_cell? w _ hw153_0)).trans hw153_0)) (fun hHeld => ?_)
              clear hK K
              refine norm_ (a' := ?_) ?_ ?_
              rotate_left
              ·show Act.put _ (some 35) _ = _
               simp only [Act.put, List.setIfInBounds_toArray, List.set_cons_zero, List.set_cons_succ, i64_w, i32_w]
               rfl
              refine pureV 8 36 57 511 HT_ ?_
              refine pureV 9 37 57 1023 HT_ ?_
              refine pureV 10 38 57 2047 HT_ ?_
              refine pureU 11 39 57 4095 HT_ ?_
              refine pureU 12 40 57 8191 HT_ ?_
              refine pureU 13 41 57 16383 HT_ ?_
              refine pureU 14 42 57 32767 HT_ ?_
              refine pureU 15 43 57 65535 HT_ ?_
              refine pureV 16 44 57 131071 HT_ ?_
              refine pureV 17 45 57 262143 HT_ ?_
              refine pureU 18 46 57 524287 HT_ ?_
              refine pureU 19 47 57 1048575 HT_ ?_
              refine pureU 20 48 57 2097151 HT_ ?_
              refine pureU 21 49 57 4194303 HT_ ?_
              refine pureV 22 50 57 8388607 HT_ ?_
              refine pureV 23 51 57 16777215 HT_ ?_
              refine pureU 24 52 57 33554431 HT_ ?_
              refine pureU 25 53 57 67108863 HT_ ?_
              refine pureU 26 54 57 134217727 HT_ ?_
              refine pureU 27 55 57 268435455 HT_ ?_
              refine pureU 28 56 57 536870911 HT_ ?_
              refine pureV 29 57 57 1073741823 HT_ ?_
              refine pureV 30 58 57 2147483647 HT_ ?_
              refine pureU 31 59 57 4294967295 HT_ ?_
              refine pureU 32 60 57 8589934591 HT_ ?_
              refine pureU 33 61 57 17179869183 HT_ ?_
              refine pureU 34 62 57 34359738367 HT_ ?_
              refine pureU 35 63 57 68719476735 HT_ ?_
              refine pureU 36 64 57 137438953471 HT_ ?_
              refine pureU 37 65 57 274877906943 HT_ ?_
              refine pureV 38 66 57 549755813887 HT_ ?_
              refine pureV 39 67 57 1099511627775 HT_ ?_
              refine pureU 40 68 57 2199023255551 HT_ ?_
              refine pureU 41 69 57 4398046511103 HT_ ?_
              refine pureU 42 70 57 8796093022207 HT_ ?_
              refine pureU 43 71 57 17592186044415 HT_ ?_
              refine pureU 44 72 57 35184372088831 HT_ ?_
              refine pureU 45 73 57 70368744177663 HT_ ?_
              refine pureU 46 74 57 140737488355327 HT_ ?_
              refine pureV 47 75 57 281474976710655 HT_ ?_
              refine pureV 48 76 57 562949953421311 HT_ ?_
              refine pureU 49 77 57 1125899906842623 HT_ ?_
              refine pureU 50 78 57 2251799813685247 HT_ ?_
              refine pureU 51 79 57 4503599627370495 HT_ ?_
              refine pureU 52 80 57 9007199254740991 HT_ ?_
              refine pureU 53 81 57 18014398509481983 HT_ ?_
              refine pureU 54 82 57 36028797018963967 HT_ ?_
              refine pureU 55 83 57 72057594037927935 HT_ ?_
              refine pureV 56 84 57 144115188075855871 HT_ ?_
              refine done_ (done_of HT_.out (by kernel_rfl)) ?_
              try go_wp2
              go_ret2
              exact ⟨_, by first | rfl | (simp [errW_none, errW_some] <;> rfl) | (simp [*, errW_none, errW_some] <;> rfl), by first | exact Kd.R_nil _ _ _ _ _ | exact Kd.N_nil _ _ _ _ _ | exact Kd.V_nil _ _ _ _ _ | exact Kd.Q_nil _ _ _ _ _ | exact Kd.S_nil _ _ _ _ _, by repeat (first | (with_reducible first | exact HB.out | apply below_alloc | apply pw_below_drewN | apply below_drew1) | exact HB.out)⟩
            ·rw [if_neg c15] at H
             exact absurd H (by simp)
           ·rw [if_neg c14] at H
            have c14b0 : (((rd_L1 l1 x24_2).length : Int) == 3) = false := beq_eq_false_iff_ne.mpr c14
            have c14b1 : (((rd_L1 l1 x24_2).length : Int) != 3) = true := bne_iff_ne.mpr c14
            simp only [Option.some.injEq, Prod.mk.injEq] at H
            obtain ⟨rfl, rfl⟩ := H
            have p152 : 0 ≤ (x24_2 : Int) := of_decide_eq_true (by first | (with_reducible assumption) | assumption)
            have q152 : x24_2 < (l1.length : Int) := of_decide_eq_true (by first | (with_reducible assumption) | assumption)
            obtain ⟨ad152, A152_0, c152_0, e152, hx152_0, hl152_0, hi152_0⟩ := at_L1 HR1.out x24_2 p152 q152
            cases e152
            replace hx152_0 := (HB.out.cell (World.block_lt_of_cell? w _ hx152_0)).trans hx152_0
            have HR152_0 := Aside0.mk hi152_0
            have HC152_0 := Aside0.mk hl152_0
            clear hi152_0 hl152_0
            replace p152 := eq_true p152
            replace q152 := eq_true q152
            try go_wp2
            have n0_ := Aside0.mk (Kd.R_drew HO_6.out)
            have n1_ := Aside0.mk (below_drew1 HB.out)
            clear HO_6
            clear HB
            have HO_6 := n0_
            have HB := n1_
            clear n0_ n1_
            refine start_ (n := 57) (S := fun w' => True) (ds := []) (mb 57 0) (by kernel_rfl) rfl rfl trivial (fun hHeld => ?_); refine with_tabW impl_RowOfPairs.tab7 impl_RowOfPairs.bits7 (fun HT_ HW_ => ?_)
            generalize wr.drew = w53 at HO_6 HB hHeld ⊢
            refine pureV 0 28 57 1 HT_ ?_
            refine pureV 1 29 57 3 HT_ ?_
            refine pureV 2 30 57 7 HT_ ?_
            refine pureV 3 31 57 15 HT_ ?_
            refine pureU 4 32 57 31 HT_ ?_
            refine pureU 5 33 57 63 HT_ ?_
            refine pureU 6 34 57 127 HT_ ?_
            refine pureU 7 35 57 255 HT_ ?_
            refine pureU 8 36 57 511 HT_ ?_
            refine pureV 9 37 57 1023 HT_ ?_
            refine pureV 10 38 57 2047 HT_ ?_
            refine pureU 11 39 57 4095 HT_ ?_
            refine pureU 12 40 57 8191 HT_ ?_
            refine pureU 13 41 57 16383 HT_ ?_
            refine pureU 14 42 57 32767 HT_ ?_
            refine pureU 15 43 57 65535 HT_ ?_
            refine pureV 16 44 57 131071 HT_ ?_
            refine pureV 17 45 57 262143 HT_ ?_
            refine pureU 18 46 57 524287 HT_ ?_
            refine pureU 19 47 57 1048575 HT_ ?_
            refine pureU 20 48 57 2097151 HT_ ?_
            refine pureU 21 49 57 4194303 HT_ ?_
            refine pureV 22 50 57 8388607 HT_ ?_
            refine pureV 23 51 57 16777215 HT_ ?_
            refine pureU 24 52 57 33554431 HT_ ?_
            refine pureU 25 53 57 67108863 HT_ ?_
            refine pureU 26 54 57 134217727 HT_ ?_
            refine pureU 27 55 57 268435455 HT_ ?_
            refine pureU 28 56 57 536870911 HT_ ?_
            refine pureV 29 57 57 1073741823 HT_ ?_
            refine pureV 30 58 57 2147483647 HT_ ?_
            refine pureU 31 59 57 4294967295 HT_ ?_
            refine pureU 32 60 57 8589934591 HT_ ?_
            refine pureU 33 61 57 17179869183 HT_ ?_
            refine pureU 34 62 57 34359738367 HT_ ?_
            refine pureU 35 63 57 68719476735 HT_ ?_
            refine pureU 36 64 57 137438953471 HT_ ?_
            refine pureU 37 65 57 274877906943 HT_ ?_
            refine pureV 38 66 57 549755813887 HT_ ?_
            refine pureV 39 67 57 1099511627775 HT_ ?_
            refine pureU 40 68 57 2199023255551 HT_ ?_
            refine pureU 41 69 57 4398046511103 HT_ ?_
            refine pureU 42 70 57 8796093022207 HT_ ?_
            refine pureU 43 71 57 17592186044415 HT_ ?_
            refine pureU 44 72 57 35184372088831 HT_ ?_
            refine pureU 45 73 57 70368744177663 HT_ ?_
            refine pureU 46 74 57 140737488355327 HT_ ?_
            refine pureV 47 75 57 281474976710655 HT_ ?_
            refine pureV 48 76 57 562949953421311 HT_ ?_
            refine pureU 49 77 57 1125899906842623 HT_ ?_
            refine pureU 50 78 57 2251799813685247 HT_ ?_
            refine pureU 51 79 57 4503599627370495 HT_ ?_
            refine pureU 52 80 57 9007199254740991 HT_ ?_
            refine pureU 53 81 57 18014398509481983 HT_ ?_
            refine pureU 54 82 57 36028797018963967 HT_ ?_
            refine pureU 55 83 57 72057594037927935 HT_ ?_
            refine pureV 56 84 57 144115188075855871 HT_ ?_
            refine done_ (done_of HT_.out (by kernel_rfl)) ?_
            try go_wp2
            go_ret2
            exact ⟨_, by first | rfl | (simp [errW_none, errW_some] <;> rfl) | (simp [*, errW_none, errW_some] <;> rfl), by first | exact Kd.R_nil _ _ _ _ _ | exact Kd.N_nil _ _ _ _ _ | exact Kd.V_nil _ _ _ _ _ | exact Kd.Q_nil _ _ _ _ _ | exact Kd.S_nil _ _ _ _ _, by repeat (first | (with_reducible first | exact HB.out | apply below_alloc | apply pw_below_drewN | apply below_drew1) | exact HB.out)⟩
          ·rw [if_neg c13] at H
           exact absurd H (by simp)
         ·rw [if_neg c12] at H
          exact absurd H (by simp)
        ·rw [if_neg c11] at H
         have c11b0 : decide (x24_2 < (l1.length : Int)) = false := decide_eq_false c11
         clear c11
         simp only [Option.some.injEq, Prod.mk.injEq] at H
         obtain ⟨rfl, rfl⟩ := H
         go_wp2
         go_ret2
         exact ⟨_, by first | rfl | (simp [errW_none, errW_some] <;> rfl) | (simp [*, errW_none, errW_some] <;> rfl), by (with_reducible repeat (first | apply Kd.R_alloc | apply Kd.R_drewN | apply Kd.R_drew)); exact HO_6.out, by repeat (first | (with_reducible first | exact HB.out | apply below_alloc | apply pw_below_drewN | apply below_drew1) | exact HB.out)⟩
     ·rw [if_neg c8] at H
      exact absurd H (by simp)
    ·rw [if_neg c7] at H
     exact absurd H (by simp)

end Go.Proofs.Yteepinopcmcklaa.PFnExactRowOfPairs
