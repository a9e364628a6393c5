-- Written by plug.py, a program of this session, over the kit's print of the function: checked by Lean alone.
import Derived.Test.YteepinopcmcklaaPFnExactRowOfPairsx0
import Derived.Test.YteepinopcmcklaaPFnExactRowOfPairsx1
import Derived.Test.YteepinopcmcklaaPFnExactRowOfPairsx2
namespace Go.Proofs.Yteepinopcmcklaa.PFnExactRowOfPairs
open Go.RowKit Go.Proofs.YteepinopcmcklaaW.PrintWords Go.Proofs.YteepinopcmcklaaW.PrintLast Go.Proofs.YteepinopcmcklaaW.PrintMore
attribute [local go_sem] max2_int min2_int max_two min_two max_three min_three max_four min_four   -- for this text's walks alone
set_option linter.unusedVariables false
set_option linter.unusedSimpArgs false

/-! ### spec_RowOfPairs: function 13 -/
mutual
def spec_RowOfPairs.j0 : Nat → Int → List (List Int) → Bool → Option (List Int × Bool)
 | 0, _, _, _ => none
 | k + 1, x0, x1, x16 => if x16 = true then (some (([] : List Int), false)) else (if 0 ≤ x0 then (if (x0 : Int).toNat ≤ 35184372088832 then (spec_RowOfPairs.l0 k x0 (List.replicate (x0 : Int).toNat 0) x1 (x1.length : Int) 0) else (none)) else (none))
def spec_RowOfPairs.l0 : Nat → Int → List Int → List (List Int) → Int → Int → Option (List Int × Bool)
 | 0, _, _, _, _, _ => none
 | k + 1, x0, x6, x19, x20, x21 => if x21 < x20 then (if 0 ≤ x21 then (if x21 < (x19.length : Int) then (if ((rd_L1 x19 x21).length : Int) = 3 then (if 0 < ((rd_L1 x19 x21).length : Int) then ((spec_roNumber.f (rd (rd_L1 x19 x21) 0)).bind fun t129 => (if t129 = true then ((spec_l1Has.f k x6 (rd (rd_L1 x19 x21) 0)).bind fun t131 => (if t131 = true then (some (([] : List Int), false)) else (if 1 < ((rd_L1 x19 x21).length : Int) then ((spec_l1In.f (rd (rd_L1 x19 x21) 1) 0 (wrap64 (x0 - 1))).bind fun t133 => (if t133 = true then (if 2 < ((rd_L1 x19 x21).length : Int) then ((spec_l1In.f (rd (rd_L1 x19 x21) 2) (wrap64 ((rd (rd_L1 x19 x21) 1) + 1)) (wrap64 (x0 - 1))).bind fun t136 => (if t136 = true then (if 0 ≤ (rd (rd_L1 x19 x21) 1) then (if (rd (rd_L1 x19 x21) 1) < (x6.length : Int) then (if (rd x6 (rd (rd_L1 x19 x21) 1)) = 0 then (if 0 ≤ (rd (rd_L1 x19 x21) 2) then (if (rd (rd_L1 x19 x21) 2) < (x6.length : Int) then (if (rd x6 (rd (rd_L1 x19 x21) 2)) = 0 then (spec_RowOfPairs.l0 k x0 ((x6.set ((rd (rd_L1 x19 x21) 1) : Int).toNat (rd (rd_L1 x19 x21) 0)).set ((rd (rd_L1 x19 x21) 2) : Int).toNat (rd (rd_L1 x19 x21) 0)) x19 x20 (wrap64 (x21 + 1))) else (some (([] : List Int), false))) else (none)) else (none)) else (some (([] : List Int), false))) else (none)) else (none)) else (some (([] : List Int), false)))) else (none)) else (some (([] : List Int), false)))) else (none)))) else (some (([] : List Int), false)))) else (none)) else (some (([] : List Int), false))) else (none)) else (none)) else (some (x6, true))
end
def spec_RowOfPairs.f (k : Nat) (a0 : Int) (l1 : List (List Int)) : Option (List Int × Bool) := (spec_l1In.f a0 0 40).bind fun t123 => (if t123 = true then (spec_RowOfPairs.j0 k a0 l1 (decide ((l1.length : Int) > 20))) else (spec_RowOfPairs.j0 k a0 l1 true))
theorem spec_RowOfPairs.mono_l : ∀ k, (∀ y0 y1 y2, LeO (spec_RowOfPairs.j0 k y0 y1 y2) (spec_RowOfPairs.j0 (k + 1) y0 y1 y2)) ∧ (∀ y0 y1 y2 y3 y4, LeO (spec_RowOfPairs.l0 k y0 y1 y2 y3 y4) (spec_RowOfPairs.l0 (k + 1) y0 y1 y2 y3 y4))
 | 0 => ⟨fun _ _ _ r h => by simp [spec_RowOfPairs.j0] at h, fun _ _ _ _ _ r h => by simp [spec_RowOfPairs.l0] at h⟩
 | k + 1 => by
  obtain ⟨ih0, ih1⟩ := spec_RowOfPairs.mono_l k
  refine ⟨?_, ?_⟩
  ·intro y0 y1 y2
   unfold spec_RowOfPairs.j0
   repeat' first
   | (with_reducible exact ih0 _ _ _)
   | (with_reducible exact ih1 _ _ _ _ _)
   | (with_reducible exact spec_l1Has.mono _ _ _)
   | (with_reducible exact LeO.refl _)
   | (with_reducible exact LeO.none _)
   | (with_reducible refine LeO.ite ?_ ?_)
   | (with_reducible refine LeO.bind ?_ (fun _ => ?_))
   | exact ih0 _ _ _
   | exact ih1 _ _ _ _ _
   | exact spec_l1Has.mono _ _ _
   | exact LeO.none _
   | refine LeO.ite ?_ ?_
   | refine LeO.bind ?_ (fun _ => ?_)
  ·intro y0 y1 y2 y3 y4
   unfold spec_RowOfPairs.l0
   repeat' first
   | (with_reducible exact ih0 _ _ _)
   | (with_reducible exact ih1 _ _ _ _ _)
   | (with_reducible exact spec_l1Has.mono _ _ _)
   | (with_reducible exact LeO.refl _)
   | (with_reducible exact LeO.none _)
   | (with_reducible refine LeO.ite ?_ ?_)
   | (with_reducible refine LeO.bind ?_ (fun _ => ?_))
   | exact ih0 _ _ _
   | exact ih1 _ _ _ _ _
   | exact spec_l1Has.mono _ _ _
   | exact LeO.none _
   | refine LeO.ite ?_ ?_
   | refine LeO.bind ?_ (fun _ => ?_)
theorem spec_RowOfPairs.mono : ∀ a0 a1 k, LeO (spec_RowOfPairs.f k a0 a1) (spec_RowOfPairs.f (k + 1) a0 a1) := by
 intro a0 a1 k
 obtain ⟨ih0, ih1⟩ := spec_RowOfPairs.mono_l k
 unfold spec_RowOfPairs.f
 repeat' first
   | (with_reducible exact ih0 _ _ _)
   | (with_reducible exact ih1 _ _ _ _ _)
   | (with_reducible exact spec_l1Has.mono _ _ _)
   | (with_reducible exact LeO.refl _)
   | (with_reducible exact LeO.none _)
   | (with_reducible refine LeO.ite ?_ ?_)
   | (with_reducible refine LeO.bind ?_ (fun _ => ?_))
   | exact ih0 _ _ _
   | exact ih1 _ _ _ _ _
   | exact spec_l1Has.mono _ _ _
   | exact LeO.none _
   | refine LeO.ite ?_ ?_
   | refine LeO.bind ?_ (fun _ => ?_)
def spec_RowOfPairs.T7 : Bool × List (List Nat × List Nat) := (true, [([], []), ([0], [0]), ([1], [1]), ([2], [2]), ([3], [3]), ([4, 3], [3, 4]), ([5, 3], [3, 5]), ([6, 3, 3], [3, 6]), ([7, 3], [3, 7]), ([3, 8], [3, 8]), ([9, 7], [9]), ([10], [10]), ([10], [10]), ([12, 10], [10, 12]), ([13, 10], [10, 13]), ([11, 14, 10, 10], [10, 11, 14]), ([10, 15], [10, 15]), ([16, 15], [16]), ([17], [17]), ([18, 17], [17, 18]), ([19, 17], [17, 19]), ([17], [17]), ([21, 17], [17, 21]), ([20, 22, 17, 17], [17, 20, 22]), ([23, 17], [17, 23]), ([17, 24], [17, 24]), ([25, 23], [25]), ([26], [26]), ([27, 26], [26, 27]), ([28, 26], [26, 28]), ([26], [26]), ([30, 26], [26, 30]), ([31, 26], [26, 31]), ([32, 26], [26, 32]), ([26], [26]), ([34, 26], [26, 34]), ([29, 33, 35, 26, 26], [26, 29, 33, 35]), ([36, 26], [26, 36]), ([26, 37], [26, 37]), ([38, 36], [38]), ([39], [39]), ([39], [39]), ([41, 39], [39, 41]), ([42, 39], [39, 42]), ([40, 43, 39], [39, 40, 43]), ([44, 39], [39, 44]), ([45, 39], [39, 45]), ([39, 46], [39, 46]), ([47, 39], [47]), ([48], [48]), ([48], [48]), ([50, 48], [48, 50]), ([51, 48], [48, 51]), ([49, 52, 48], [48, 49, 52]), ([53, 48], [48, 53]), ([54, 48], [48, 54]), ([48, 55], [48, 55])])
def spec_RowOfPairs.B7 : List Nat := [0, 1, 3, 7, 15, 31, 63, 127, 255, 511, 1023, 2047, 2047, 6143, 14335, 32767, 65535, 131071, 262143, 524287, 1048575, 262143, 2359295, 8388607, 16777215, 33554431, 67108863, 134217727, 268435455, 536870911, 134217727, 1207959551, 3355443199, 7650410495, 134217727, 17314086911, 68719476735, 137438953471, 274877906943, 549755813887, 1099511627775, 1099511627775, 3298534883327, 7696581394431, 17592186044415, 35184372088831, 70368744177663, 140737488355327, 281474976710655, 562949953421311, 562949953421311, 1688849860263935, 3940649673949183, 9007199254740991, 18014398509481983, 36028797018963967, 72057594037927935]
theorem spec_RowOfPairs.tab7 : rtab .any (opsOf Try.f13 7) = spec_RowOfPairs.T7 := by kernel_rfl
theorem spec_RowOfPairs.bits7 : waitsOk spec_RowOfPairs.T7.2 spec_RowOfPairs.B7 = true := by kernel_rfl
def spec_RowOfPairs.T9 : Bool × List (List Nat × List Nat) := (true, [([], []), ([], []), ([1], [1]), ([2], [2]), ([], []), ([4], [4]), ([5], [5]), ([0, 3, 0, 1, 2, 3, 4, 5, 6], [0, 3]), ([7, 6, 0, 1, 2, 3, 4, 5, 6], [6, 7])])
def spec_RowOfPairs.B9 : List Nat := [0, 0, 2, 6, 0, 16, 48, 127, 255]
theorem spec_RowOfPairs.tab9 : rtab .any (opsOf Try.f13 9) = spec_RowOfPairs.T9 := by kernel_rfl
theorem spec_RowOfPairs.bits9 : waitsOk spec_RowOfPairs.T9.2 spec_RowOfPairs.B9 = true := by kernel_rfl
def spec_RowOfPairs.T10 : Bool × List (List Nat × List Nat) := (true, [([], []), ([], []), ([1], [1]), ([2], [2]), ([], []), ([4], [4]), ([5], [5]), ([0, 3, 0, 1, 2, 3, 4, 5, 6], [0, 3]), ([7, 6, 0, 1, 2, 3, 4, 5, 6], [6, 7])])
def spec_RowOfPairs.B10 : List Nat := [0, 0, 2, 6, 0, 16, 48, 127, 255]
theorem spec_RowOfPairs.tab10 : rtab .any (opsOf Try.f13 10) = spec_RowOfPairs.T10 := by kernel_rfl
theorem spec_RowOfPairs.bits10 : waitsOk spec_RowOfPairs.T10.2 spec_RowOfPairs.B10 = true := by kernel_rfl
set_option maxHeartbeats 8000000 in
set_option maxRecDepth 100000 in
theorem spec_RowOfPairs.calls (k : Nat) (a0 : Int) (A1 : Option Addr) (c1 : Nat) (l1 : List (List Int)) (r1 : List Int) (r2 : Bool) (w : World) (hr1 : Kd.C (Kd.slice 3 (Kd.int .i64)) w A1 l1.length l1) (hc1 : l1.length ≤ c1) (h : spec_RowOfPairs.f k a0 l1 = some (r1, r2)) :
  Calls Try.prog 13 #[.int .i64 a0, .slice A1 l1.length c1] w fun e w' => ∃ v0_ : Value, e = .returned (.tuple #[v0_, .bool r2]) ∧ Kd.R (Kd.int .i64) 3 w' w.heap.size (fun _ => True) v0_ r1 ∧ Below w.heap.size w w' := by
 have HR1 := Aside0.mk hr1
 have HC1 := Aside0.mk hc1
 clear hr1 hc1
 have HB := Aside0.mk (Below.refl w.heap.size w)
 have H : ((spec_l1In.f a0 0 40).bind fun t123 => (if t123 = true then (spec_RowOfPairs.j0 k a0 l1 (decide ((l1.length : Int) > 20))) else (spec_RowOfPairs.j0 k a0 l1 true))) = some (r1, r2) := h
 clear h
 have HC3 := Aside0.mk H
 clear H
 go_enter Try.func13, Try.ntmps13
 go_upto_region 1 with (fail)
 go_cut [16] (fun v16 wc => ∃ (kq : Nat) (x16_2 : Bool), v16 = .bool x16_2 ∧ Aside0 (spec_RowOfPairs.j0 kq a0 l1 x16_2 = some (r1, r2)) ∧ Aside0 (kq ≤ k) ∧ Aside0 (Below w.heap.size w wc))
 case first =>
  have H := HC3.out
  clear HC3
  replace H := Option.bind_eq_some_iff.mp H
  obtain ⟨t123, A40, H⟩ := H
  replace H : (if t123 = true then (spec_RowOfPairs.j0 k a0 l1 (decide ((l1.length : Int) > 20))) else (spec_RowOfPairs.j0 k a0 l1 true)) = some (r1, r2) := H
  have A4 := Aside0.mk A40
  clear A40
  by_cases c5 : t123 = true
  ·subst c5
   have H1 : (spec_RowOfPairs.j0 k a0 l1 (decide ((l1.length : Int) > 20))) = some (r1, r2) := by rw [if_pos rfl] at H; exact H
   clear H
   have H := H1
   clear H1
   have H' := Aside0.mk H
   clear H
   go_wp2_with (first | ((with_reducible refine gate_callee (f := 32) rfl ?_); refine goesL_ (some 10) rfl rfl Try.func32 (by kernel_rfl) rfl #[.int .i64 a0, .int .i64 0, .int .i64 40] rfl (by (try simp only [List.map_toArray, List.map_cons, List.map_nil]); first | done | rfl | (simp only [List.length_drop, List.length_take]; rfl)) ?_; (with_reducible refine (spec_l1In.calls a0 0 40 true _ A4.out).mono ?_); rintro e w' ⟨rfl, ⟨nd, rfl⟩⟩; refine ⟨_, rfl, ?_⟩))
   go_meet
   case rel => exact ⟨_, (decide ((l1.length : Int) > 20)), (by first | rfl | (simp; done) | (simp [*]; done)), H', ⟨by first | omega | exact Nat.le_refl _⟩, ⟨by repeat (first | (with_reducible first | exact HB.out | apply below_alloc | apply pw_below_drewN | apply below_drew1) | exact HB.out)⟩⟩
  ·replace c5 := Bool.eq_false_iff.mpr c5
   subst c5
   have H1 : (spec_RowOfPairs.j0 k a0 l1 true) = some (r1, r2) := by rw [if_neg (show ¬ (false = true) by decide)] at H; exact H
   clear H
   have H := H1
   clear H1
   have H' := Aside0.mk H
   clear H
   go_wp2_with (first | ((with_reducible refine gate_callee (f := 32) rfl ?_); refine goesL_ (some 10) rfl rfl Try.func32 (by kernel_rfl) rfl #[.int .i64 a0, .int .i64 0, .int .i64 40] rfl (by (try simp only [List.map_toArray, List.map_cons, List.map_nil]); first | done | rfl | (simp only [List.length_drop, List.length_take]; rfl)) ?_; (with_reducible refine (spec_l1In.calls a0 0 40 false _ A4.out).mono ?_); rintro e w' ⟨rfl, ⟨nd, rfl⟩⟩; refine ⟨_, rfl, ?_⟩))
   go_meet
   case rel => exact ⟨_, (true), (by first | rfl | (simp; done) | (simp [*]; done)), H', ⟨by first | omega | exact Nat.le_refl _⟩, ⟨by repeat (first | (with_reducible first | exact HB.out | apply below_alloc | apply pw_below_drewN | apply below_drew1) | exact HB.out)⟩⟩
 case rest =>
  clear HC3
  try clear c1
  try clear p2
  try clear c3
  try clear c5
  obtain ⟨kq, x16_2, rfl, HA, HJ2, HB⟩ := hcut
  cases kq with
  | zero => exact absurd HA.out (by simp [spec_RowOfPairs.j0])
  | succ kj2 =>
   have H := HA.out
   clear HA
   simp only [spec_RowOfPairs.j0] at H
   by_cases c6 : x16_2 = true
   ·subst c6
    have H1 : (some (([] : List Int), false)) = some (r1, r2) := by rw [if_pos rfl] at H; exact H
    clear H
    have H := H1
    clear H1
    simp only [Option.some.injEq, Prod.mk.injEq] at H
    obtain ⟨rfl, rfl⟩ := H
    go_wp2
    go_ret2
    exact ⟨_, by first | rfl | (simp [errW_none, errW_some] <;> rfl) | (simp [*, errW_none, errW_some] <;> rfl), by first | exact Kd.R_nil _ _ _ _ _ | exact Kd.N_nil _ _ _ _ _ | exact Kd.V_nil _ _ _ _ _ | exact Kd.Q_nil _ _ _ _ _ | exact Kd.S_nil _ _ _ _ _, by repeat (first | (with_reducible first | exact HB.out | apply below_alloc | apply pw_below_drewN | apply below_drew1) | exact HB.out)⟩
   ·replace c6 := Bool.eq_false_iff.mpr c6
    subst c6
    have H1 : (if 0 ≤ a0 then (if (a0 : Int).toNat ≤ 35184372088832 then (spec_RowOfPairs.l0 kj2 a0 (List.replicate (a0 : Int).toNat 0) l1 (l1.length : Int) 0) else (none)) else (none)) = some (r1, r2) := by rw [if_neg (show ¬ (false = true) by decide)] at H; exact H
    clear H
    have H := H1
    clear H1
    by_cases c7 : 0 ≤ a0
    ·rw [if_pos c7] at H
     have c7b0 := eq_true c7
     have c7b1 : decide (0 ≤ a0) = true := decide_eq_true c7
     clear c7
     by_cases c8 : (a0 : Int).toNat ≤ 35184372088832
     ·rw [if_pos c8] at H
      have c8b0 := eq_true c8
      have c8b1 : decide ((a0 : Int).toNat ≤ 35184372088832) = true := decide_eq_true c8
      clear c8
      obtain ⟨y124, hy124⟩ : ∃ y_ : List Int, y_ = (List.replicate (a0 : Int).toNat 0) := ⟨_, rfl⟩
      replace H : (spec_RowOfPairs.l0 kj2 a0 y124 l1 (l1.length : Int) 0) = some (r1, r2) := by first | (rw [hy124]; with_reducible exact H) | (have H2_ := (Option.bind_some _ _).symm.trans H; rw [hy124]; with_reducible exact H2_) | (have H2_ := (Option.bind_some _ _).symm.trans H; with_reducible exact H2_) | with_reducible exact H | (rw [hy124]; exact H) | exact H
      have Ny124 := Aside0.mk hy124
      clear hy124
      have H' := Aside0.mk H
      clear H
      go_wp2_with (first | ((with_reducible refine gate_dst (N := 18) rfl ?_); (try (refine gate_guard (by rfl) ?_; dsimp only)); refine Kd.R_make (Kd.int .i64) _ 3 rfl (N := 18) rfl 29 _ _ rfl a0 rfl rfl Try.underlying29 (.int .i64 0) 8 info3 rfl (by decide) (by omega) 0 (ok := fun _ => True) (okp := fun _ => True) rfl (fun _ hk => hk) trivial (of_decide_eq_true (by first | (with_reducible assumption) | assumption)) (Nat.le_trans (Nat.mul_le_mul_right _ (of_decide_eq_true (by first | (with_reducible assumption) | assumption) : a0.toNat ≤ 35184372088832)) (by omega)) (Below.refl _ _) (Nat.le_refl _) ?_; intro v125 w9 ho10 hb hg_ hnew_; clear hg_ hnew_; (first | rw [← Ny124.out] at ho10 | (simp only [Int.reduceToNat] at ho10; rw [← Ny124.out] at ho10)); have n0_ := Aside0.mk (Kd.R_lower ho10 (below_size (by repeat (first | (with_reducible first | exact HB.out | apply below_alloc | apply pw_below_drewN | apply below_drew1) | exact HB.out)))); have n1_ := Aside0.mk (below_step (by repeat (first | (with_reducible first | exact HB.out | apply below_alloc | apply pw_below_drewN | apply below_drew1) | exact HB.out)) hb); clear HB; have HO126 := n0_; have HB := n1_; clear n0_ n1_; clear hb ho10))
      go_loopg [21] kj2 (fun kq v21 w' => ∃ (x6_2 : List Int) (x21_2 : Int), v21 = .int .i64 x21_2 ∧ Aside0 (spec_RowOfPairs.l0 kq a0 x6_2 l1 (l1.length : Int) x21_2 = some (r1, r2)) ∧ Aside0 (kq ≤ kj2) ∧ Aside0 (Kd.R (Kd.int .i64) 3 w' w.heap.size (fun _ => True) v125 x6_2) ∧ Aside0 (Below w.heap.size w w'))
      case atStart => exact ⟨(y124), (0), (by first | rfl | (simp; done) | (simp [*]; done)), H', ⟨Nat.le_refl _⟩, ⟨by (with_reducible repeat (first | apply Kd.R_alloc | apply Kd.R_drewN | apply Kd.R_drew)); exact HO126.out⟩, ⟨by repeat (first | (with_reducible first | exact HB.out | apply below_alloc | apply pw_below_drewN | apply below_drew1) | exact HB.out)⟩⟩
      case round =>
       clear H'
       try clear c1
       try clear p2
       try clear c3
       try clear c5
       try clear c6
       try clear c7
       try clear c7b0
       try clear c7b1
       try clear c8
       try clear c8b0
       try clear c8b1
       try clear p2
       obtain ⟨x6_2, x21_2, rfl, HA, HK2, HO_6, HB⟩ := hrel
       cases gk with
       | zero => exact absurd HA.out (by simp [spec_RowOfPairs.l0])
       | succ k2 =>
        have H := HA.out
        clear HA
        simp only [spec_RowOfPairs.l0] at H
        by_cases c11 : x21_2 < (l1.length : Int)
        ·rw [if_pos c11] at H
         have c11b0 : decide (x21_2 < (l1.length : Int)) = true := decide_eq_true c11
         clear c11
         by_cases c12 : 0 ≤ x21_2
         ·rw [if_pos c12] at H
          have c12b0 : decide (0 ≤ x21_2) = true := decide_eq_true c12
          clear c12
          by_cases c13 : x21_2 < (l1.length : Int)
          ·rw [if_pos c13] at H
           have c13b0 : decide (x21_2 < (l1.length : Int)) = true := decide_eq_true c13
           clear c13
           by_cases c14 : ((rd_L1 l1 x21_2).length : Int) = 3
           ·rw [if_pos c14] at H
            have c14b0 : (((rd_L1 l1 x21_2).length : Int) == 3) = true := beq_iff_eq.mpr c14
            have c14b1 : (((rd_L1 l1 x21_2).length : Int) != 3) = false := bne_eq_false_iff_eq.mpr c14
            clear c14
            by_cases c15 : 0 < ((rd_L1 l1 x21_2).length : Int)
            ·rw [if_pos c15] at H
             have c15b0 : decide (0 < ((rd_L1 l1 x21_2).length : Int)) = true := decide_eq_true c15
             have c15b1 : decide (0 < (rd_L1 l1 x21_2).length) = true := decide_eq_true (by omega)
             clear c15
             replace H := Option.bind_eq_some_iff.mp H
             obtain ⟨t129, A160, H⟩ := H
             replace H : (if t129 = true then ((spec_l1Has.f k2 x6_2 (rd (rd_L1 l1 x21_2) 0)).bind fun t131 => (if t131 = true then (some (([] : List Int), false)) else (if 1 < ((rd_L1 l1 x21_2).length : Int) then ((spec_l1In.f (rd (rd_L1 l1 x21_2) 1) 0 (wrap64 (a0 - 1))).bind fun t133 => (if t133 = true then (if 2 < ((rd_L1 l1 x21_2).length : Int) then ((spec_l1In.f (rd (rd_L1 l1 x21_2) 2) (wrap64 ((rd (rd_L1 l1 x21_2) 1) + 1)) (wrap64 (a0 - 1))).bind fun t136 => (if t136 = true then (if 0 ≤ (rd (rd_L1 l1 x21_2) 1) then (if (rd (rd_L1 l1 x21_2) 1) < (x6_2.length : Int) then (if (rd x6_2 (rd (rd_L1 l1 x21_2) 1)) = 0 then (if 0 ≤ (rd (rd_L1 l1 x21_2) 2) then (if (rd (rd_L1 l1 x21_2) 2) < (x6_2.length : Int) then (if (rd x6_2 (rd (rd_L1 l1 x21_2) 2)) = 0 then (spec_RowOfPairs.l0 k2 a0 ((x6_2.set ((rd (rd_L1 l1 x21_2) 1) : Int).toNat (rd (rd_L1 l1 x21_2) 0)).set ((rd (rd_L1 l1 x21_2) 2) : Int).toNat (rd (rd_L1 l1 x21_2) 0)) l1 (l1.length : Int) (wrap64 (x21_2 + 1))) else (some (([] : List Int), false))) else (none)) else (none)) else (some (([] : List Int), false))) else (none)) else (none)) else (some (([] : List Int), false)))) else (none)) else (some (([] : List Int), false)))) else (none)))) else (some (([] : List Int), false))) = some (r1, r2) := H
             have A16 := Aside0.mk A160
             clear A160
             by_cases c17 : t129 = true
             ·subst c17
              have H1 : ((spec_l1Has.f k2 x6_2 (rd (rd_L1 l1 x21_2) 0)).bind fun t131 => (if t131 = true then (some (([] : List Int), false)) else (if 1 < ((rd_L1 l1 x21_2).length : Int) then ((spec_l1In.f (rd (rd_L1 l1 x21_2) 1) 0 (wrap64 (a0 - 1))).bind fun t133 => (if t133 = true then (if 2 < ((rd_L1 l1 x21_2).length : Int) then ((spec_l1In.f (rd (rd_L1 l1 x21_2) 2) (wrap64 ((rd (rd_L1 l1 x21_2) 1) + 1)) (wrap64 (a0 - 1))).bind fun t136 => (if t136 = true then (if 0 ≤ (rd (rd_L1 l1 x21_2) 1) then (if (rd (rd_L1 l1 x21_2) 1) < (x6_2.length : Int) then (if (rd x6_2 (rd (rd_L1 l1 x21_2) 1)) = 0 then (if 0 ≤ (rd (rd_L1 l1 x21_2) 2) then (if (rd (rd_L1 l1 x21_2) 2) < (x6_2.length : Int) then (if (rd x6_2 (rd (rd_L1 l1 x21_2) 2)) = 0 then (spec_RowOfPairs.l0 k2 a0 ((x6_2.set ((rd (rd_L1 l1 x21_2) 1) : Int).toNat (rd (rd_L1 l1 x21_2) 0)).set ((rd (rd_L1 l1 x21_2) 2) : Int).toNat (rd (rd_L1 l1 x21_2) 0)) l1 (l1.length : Int) (wrap64 (x21_2 + 1))) else (some (([] : List Int), false))) else (none)) else (none)) else (some (([] : List Int), false))) else (none)) else (none)) else (some (([] : List Int), false)))) else (none)) else (some (([] : List Int), false)))) else (none)))) = some (r1, r2) := by rw [if_pos rfl] at H; exact H
              clear H
              have H := H1
              clear H1
              replace H := Option.bind_eq_some_iff.mp H
              obtain ⟨t131, A180, H⟩ := H
              replace H : (if t131 = true then (some (([] : List Int), false)) else (if 1 < ((rd_L1 l1 x21_2).length : Int) then ((spec_l1In.f (rd (rd_L1 l1 x21_2) 1) 0 (wrap64 (a0 - 1))).bind fun t133 => (if t133 = true then (if 2 < ((rd_L1 l1 x21_2).length : Int) then ((spec_l1In.f (rd (rd_L1 l1 x21_2) 2) (wrap64 ((rd (rd_L1 l1 x21_2) 1) + 1)) (wrap64 (a0 - 1))).bind fun t136 => (if t136 = true then (if 0 ≤ (rd (rd_L1 l1 x21_2) 1) then (if (rd (rd_L1 l1 x21_2) 1) < (x6_2.length : Int) then (if (rd x6_2 (rd (rd_L1 l1 x21_2) 1)) = 0 then (if 0 ≤ (rd (rd_L1 l1 x21_2) 2) then (if (rd (rd_L1 l1 x21_2) 2) < (x6_2.length : Int) then (if (rd x6_2 (rd (rd_L1 l1 x21_2) 2)) = 0 then (spec_RowOfPairs.l0 k2 a0 ((x6_2.set ((rd (rd_L1 l1 x21_2) 1) : Int).toNat (rd (rd_L1 l1 x21_2) 0)).set ((rd (rd_L1 l1 x21_2) 2) : Int).toNat (rd (rd_L1 l1 x21_2) 0)) l1 (l1.length : Int) (wrap64 (x21_2 + 1))) else (some (([] : List Int), false))) else (none)) else (none)) else (some (([] : List Int), false))) else (none)) else (none)) else (some (([] : List Int), false)))) else (none)) else (some (([] : List Int), false)))) else (none))) = some (r1, r2) := H
              have A18 := Aside0.mk A180
              clear A180
              by_cases c19 : t131 = true
              ·subst c19
               have H1 : (some (([] : List Int), false)) = some (r1, r2) := by rw [if_pos rfl] at H; exact H
               clear H
               have H := H1
               clear H1
               simp only [Option.some.injEq, Prod.mk.injEq] at H
               obtain ⟨rfl, rfl⟩ := H
               have p127 : 0 ≤ (x21_2 : Int) := of_decide_eq_true (by first | (with_reducible assumption) | assumption)
               have q127 : x21_2 < (l1.length : Int) := of_decide_eq_true (by first | (with_reducible assumption) | assumption)
               obtain ⟨ad127, A127_0, c127_0, e127, hx127_0, hl127_0, hi127_0⟩ := at_L1 HR1.out x21_2 p127 q127
               cases e127
               replace hx127_0 := (HB.out.cell (World.block_lt_of_cell? w _ hx127_0)).trans hx127_0
               have HR127_0 := Aside0.mk hi127_0
               have HC127_0 := Aside0.mk hl127_0
               clear hi127_0 hl127_0
               replace p127 := eq_true p127
               replace q127 := eq_true q127
               try go_wp2
               have n0_ := Aside0.mk (Kd.R_drew HO_6.out)
               have n1_ := Aside0.mk (below_drew1 HB.out)
               clear HO_6
               clear HB
               have HO_6 := n0_
               have HB := n1_
               clear n0_ n1_
               have p128 : 0 ≤ (0 : Int) := (by omega)
               have q128 : 0 < ((rd_L1 l1 x21_2).length : Int) := of_decide_eq_true (by first | (with_reducible assumption) | assumption)
               obtain ⟨ad128, e128, hx128_0⟩ := Kd.at_int HR127_0.out 0 p128 q128
               have hw128_0 := hx128_0
               (try rw [show ((0 : Int)).toNat = 0 from rfl] at hw128_0)
               (try rw [show 0 * 1 = 0 from rfl] at hw128_0)
               (try rw [Addr.add_zero'] at hw128_0)
               cases e128
               have qi128 : (0 < (rd_L1 l1 x21_2).length) = True := eq_true (by omega)
               (try rw [show ((0 : Int)).toNat = 0 from rfl] at hx128_0)
               (try rw [Addr.add_zero'] at hx128_0)
               replace hx128_0 := (HB.out.cell (World.block_lt_of_cell? w _ hx128_0)).trans hx128_0
               replace p128 := eq_true p128
               replace q128 := eq_true q128
               have p130 : 0 ≤ (0 : Int) := (by omega)
               have q130 : 0 < ((rd_L1 l1 x21_2).length : Int) := of_decide_eq_true (by first | (with_reducible assumption) | assumption)
               obtain ⟨ad130, e130, hx130_0⟩ := Kd.at_int HR127_0.out 0 p130 q130
               have hw130_0 := hx130_0
               (try rw [show ((0 : Int)).toNat = 0 from rfl] at hw130_0)
               (try rw [show 0 * 1 = 0 from rfl] at hw130_0)
               (try rw [Addr.add_zero'] at hw130_0)
               obtain rfl : ad128 = ad130 := (by injection e130)
               have qi130 : (0 < (rd_L1 l1 x21_2).length) = True := eq_true (by omega)
               (try rw [show ((0 : Int)).toNat = 0 from rfl] at hx130_0)
               (try rw [Addr.add_zero'] at hx130_0)
               replace hx130_0 := (HB.out.cell (World.block_lt_of_cell? w _ hx130_0)).trans hx130_0
               replace p130 := eq_true p130
               replace q130 := eq_true q130
               refine start_ (n := 57) (S := fun w' => w'.cell? ad128 = some (.int .i64 (rd (rd_L1 l1 x21_2) 0)) ∧ w'.cell? ad128 = some (.int .i64 (rd (rd_L1 l1 x21_2) 0))) (ds := []) (mb 57 0) (by kernel_rfl) rfl rfl ⟨((HB.out.cell (World.block_lt_of_cell? w _ hw128_0)).trans hw128_0), ((HB.out.cell (World.block_lt_of_cell? w _ hw130_0)).trans hw130_0)⟩ (fun hHeld => ?_); refine with_tabW spec_RowOfPairs.tab7 spec_RowOfPairs.bits7 (fun HT_ HW_ => ?_)
               generalize wr.drew = w20 at HO_6 HB hx128_0 hx130_0 hHeld ⊢
               refine pureV 0 25 57 1 HT_ ?_
               refine pureV 1 26 57 3 HT_ ?_
               refine pureV 2 27 57 7 HT_ ?_
               refine pureV 3 28 57 15 HT_ ?_
               refine pureV 4 29 57 31 HT_ ?_
               refine pureV 5 30 57 63 HT_ ?_
               refine takeV 6 31 57 127 HT_ HW_ hHeld rfl (by rintro w' ⟨s0, s1⟩; go_simp; with_reducible rfl) ?_
               refine one_ (i := 7) (N := some 32) (mb 57 255) rfl rfl (one_of HT_.out (by kernel_rfl)) (by decide) (fun K hK => ?_)
               refine goes_ Try.func33 (by kernel_rfl) rfl #[.int .i64 (rd (rd_L1 l1 x21_2) 0)] (by rfl) rfl rfl (by (try simp only [List.map_toArray, List.map_cons, List.map_nil]); first | done | rfl | (simp only [List.length_drop, List.length_take]; rfl)) ?_
               with_reducible refine (spec_roNumber.calls (rd (rd_L1 l1 x21_2) 0) true _ A16.out).mono ?_
               rintro e w' ⟨rfl, ⟨nd, rfl⟩⟩
               refine ⟨_, rfl, ?_⟩
               obtain ⟨Ao21, co21, eo21⟩ := Kd.R_slice HO_6.out
               (first | subst eo21 | (injection eo21 with f1_ f2_ f3_; have f4_ := f1_.symm; have f5_ := f3_.symm; clear f1_ f2_ f3_; subst f4_; subst f5_))
               refine hK.out _ _ ⟨((HB.out.cell (World.block_lt_of_cell? w _ hw128_0)).trans hw128_0), ((HB.out.cell (World.block_lt_of_cell? w _ hw130_0)).trans hw130_0)⟩ (fun hHeld => ?_)
               clear hK K
               refine norm_ (a' := ?_) ?_ ?_
               rotate_left
               ·show Act.put _ (some 32) _ = _
                simp only [Act.put, List.setIfInBounds_toArray, List.set_cons_zero, List.set_cons_succ, i64_w, i32_w]
                rfl
               refine pureV 8 33 57 511 HT_ ?_
               refine pureV 9 34 57 1023 HT_ ?_
               refine pureV 10 35 57 2047 HT_ ?_
               refine pureV 11 36 57 4095 HT_ ?_
               refine pureV 12 37 57 8191 HT_ ?_
               refine pureV 13 38 57 16383 HT_ ?_
               refine takeV 14 39 57 32767 HT_ HW_ hHeld rfl (by rintro w' ⟨s0, s1⟩; go_simp; with_reducible rfl) ?_
               refine one_ (i := 15) (N := some 40) (mb 57 65535) rfl rfl (one_of HT_.out (by kernel_rfl)) (by decide) (fun K hK => ?_)
               refine goes_ Try.func34 (by kernel_rfl) rfl #[.slice Ao21 x6_2.length co21, .int .i64 (rd (rd_L1 l1 x21_2) 0)] (by rfl) rfl rfl (by (try simp only [List.map_toArray, List.map_cons, List.map_nil]); first | done | rfl | (simp only [List.length_drop, List.length_take]; rfl)) ?_
               with_reducible refine (spec_l1Has.calls k2 _ _ x6_2 (rd (rd_L1 l1 x21_2) 0) true _ ?side1 ?side2 A18.out).mono ?_
               (case side1 => repeat (first | exact (Kd.R_reads' HO_6.out).2.2 | (with_reducible refine Kd.C_alloc ?_ _) | (with_reducible refine Kd.C_drewN ?_ _) | (with_reducible refine Kd.C_drew ?_)))
               (case side2 => exact (Kd.R_reads' HO_6.out).2.1)
               rintro e w' ⟨rfl, ⟨nd, rfl⟩⟩
               refine ⟨_, rfl, ?_⟩
               refine hK.out _ _ ⟨((HB.out.cell (World.block_lt_of_cell? w _ hw128_0)).trans hw128_0), ((HB.out.cell (World.block_lt_of_cell? w _ hw130_0)).trans hw130_0)⟩ (fun hHeld => ?_)
               clear hK K
               refine norm_ (a' := ?_) ?_ ?_
               rotate_left
               ·show Act.put _ (some 40) _ = _
                simp only [Act.put, List.setIfInBounds_toArray, List.set_cons_zero, List.set_cons_succ, i64_w, i32_w]
                rfl
               refine pureV 16 41 57 131071 HT_ ?_
               refine pureV 17 42 57 262143 HT_ ?_
               refine pureU 18 43 57 524287 HT_ ?_
               refine pureU 19 44 57 1048575 HT_ ?_
               refine pureU 20 45 57 2097151 HT_ ?_
               refine pureU 21 46 57 4194303 HT_ ?_
               refine pureU 22 47 57 8388607 HT_ ?_
               refine pureU 23 48 57 16777215 HT_ ?_
               refine pureU 24 49 57 33554431 HT_ ?_
               refine pureV 25 50 57 67108863 HT_ ?_
               refine pureV 26 51 57 134217727 HT_ ?_
               refine pureU 27 52 57 268435455 HT_ ?_
               refine pureU 28 53 57 536870911 HT_ ?_
               refine pureU 29 54 57 1073741823 HT_ ?_
               refine pureU 30 55 57 2147483647 HT_ ?_
               refine pureU 31 56 57 4294967295 HT_ ?_
               refine pureU 32 57 57 8589934591 HT_ ?_
               refine pureU 33 58 57 17179869183 HT_ ?_
               refine pureU 34 59 57 34359738367 HT_ ?_
               refine pureU 35 60 57 68719476735 HT_ ?_
               refine pureU 36 61 57 137438953471 HT_ ?_
               refine pureU 37 62 57 274877906943 HT_ ?_
               refine pureV 38 63 57 549755813887 HT_ ?_
               refine pureV 39 64 57 1099511627775 HT_ ?_
               refine pureU 40 65 57 2199023255551 HT_ ?_
               refine pureU 41 66 57 4398046511103 HT_ ?_
               refine pureU 42 67 57 8796093022207 HT_ ?_
               refine pureU 43 68 57 17592186044415 HT_ ?_
               refine pureU 44 69 57 35184372088831 HT_ ?_
               refine pureU 45 70 57 70368744177663 HT_ ?_
               refine pureU 46 71 57 140737488355327 HT_ ?_
               refine pureV 47 72 57 281474976710655 HT_ ?_
               refine pureV 48 73 57 562949953421311 HT_ ?_
               refine pureU 49 74 57 1125899906842623 HT_ ?_
               refine pureU 50 75 57 2251799813685247 HT_ ?_
               refine pureU 51 76 57 4503599627370495 HT_ ?_
               refine pureU 52 77 57 9007199254740991 HT_ ?_
               refine pureU 53 78 57 18014398509481983 HT_ ?_
               refine pureU 54 79 57 36028797018963967 HT_ ?_
               refine pureU 55 80 57 72057594037927935 HT_ ?_
               refine pureV 56 81 57 144115188075855871 HT_ ?_
               refine done_ (done_of HT_.out (by kernel_rfl)) ?_
               try go_wp2
               go_ret2
               exact ⟨_, by first | rfl | (simp [errW_none, errW_some] <;> rfl) | (simp [*, errW_none, errW_some] <;> rfl), by first | exact Kd.R_nil _ _ _ _ _ | exact Kd.N_nil _ _ _ _ _ | exact Kd.V_nil _ _ _ _ _ | exact Kd.Q_nil _ _ _ _ _ | exact Kd.S_nil _ _ _ _ _, by repeat (first | (with_reducible first | exact HB.out | apply below_alloc | apply pw_below_drewN | apply below_drew1) | exact HB.out)⟩
              ·replace c19 := Bool.eq_false_iff.mpr c19
               subst c19
               have H1 : (if 1 < ((rd_L1 l1 x21_2).length : Int) then ((spec_l1In.f (rd (rd_L1 l1 x21_2) 1) 0 (wrap64 (a0 - 1))).bind fun t133 => (if t133 = true then (if 2 < ((rd_L1 l1 x21_2).length : Int) then ((spec_l1In.f (rd (rd_L1 l1 x21_2) 2) (wrap64 ((rd (rd_L1 l1 x21_2) 1) + 1)) (wrap64 (a0 - 1))).bind fun t136 => (if t136 = true then (if 0 ≤ (rd (rd_L1 l1 x21_2) 1) then (if (rd (rd_L1 l1 x21_2) 1) < (x6_2.length : Int) then (if (rd x6_2 (rd (rd_L1 l1 x21_2) 1)) = 0 then (if 0 ≤ (rd (rd_L1 l1 x21_2) 2) then (if (rd (rd_L1 l1 x21_2) 2) < (x6_2.length : Int) then (if (rd x6_2 (rd (rd_L1 l1 x21_2) 2)) = 0 then (spec_RowOfPairs.l0 k2 a0 ((x6_2.set ((rd (rd_L1 l1 x21_2) 1) : Int).toNat (rd (rd_L1 l1 x21_2) 0)).set ((rd (rd_L1 l1 x21_2) 2) : Int).toNat (rd (rd_L1 l1 x21_2) 0)) l1 (l1.length : Int) (wrap64 (x21_2 + 1))) else (some (([] : List Int), false))) else (none)) else (none)) else (some (([] : List Int), false))) else (none)) else (none)) else (some (([] : List Int), false)))) else (none)) else (some (([] : List Int), false)))) else (none)) = some (r1, r2) := by rw [if_neg (show ¬ (false = true) by decide)] at H; exact H
               clear H
               have H := H1
               clear H1
               by_cases c22 : 1 < ((rd_L1 l1 x21_2).length : Int)
               ·rw [if_pos c22] at H
                have c22b0 : decide (1 < ((rd_L1 l1 x21_2).length : Int)) = true := decide_eq_true c22
                have c22b1 : decide (1 < (rd_L1 l1 x21_2).length) = true := decide_eq_true (by omega)
                clear c22
                replace H := Option.bind_eq_some_iff.mp H
                obtain ⟨t133, A230, H⟩ := H
                replace H : (if t133 = true then (if 2 < ((rd_L1 l1 x21_2).length : Int) then ((spec_l1In.f (rd (rd_L1 l1 x21_2) 2) (wrap64 ((rd (rd_L1 l1 x21_2) 1) + 1)) (wrap64 (a0 - 1))).bind fun t136 => (if t136 = true then (if 0 ≤ (rd (rd_L1 l1 x21_2) 1) then (if (rd (rd_L1 l1 x21_2) 1) < (x6_2.length : Int) then (if (rd x6_2 (rd (rd_L1 l1 x21_2) 1)) = 0 then (if 0 ≤ (rd (rd_L1 l1 x21_2) 2) then (if (rd (rd_L1 l1 x21_2) 2) < (x6_2.length : Int) then (if (rd x6_2 (rd (rd_L1 l1 x21_2) 2)) = 0 then (spec_RowOfPairs.l0 k2 a0 ((x6_2.set ((rd (rd_L1 l1 x21_2) 1) : Int).toNat (rd (rd_L1 l1 x21_2) 0)).set ((rd (rd_L1 l1 x21_2) 2) : Int).toNat (rd (rd_L1 l1 x21_2) 0)) l1 (l1.length : Int) (wrap64 (x21_2 + 1))) else (some (([] : List Int), false))) else (none)) else (none)) else (some (([] : List Int), false))) else (none)) else (none)) else (some (([] : List Int), false)))) else (none)) else (some (([] : List Int), false))) = some (r1, r2) := H
                have A23 := Aside0.mk A230
                clear A230
                by_cases c24 : t133 = true
                ·subst c24
                 have H1 : (if 2 < ((rd_L1 l1 x21_2).length : Int) then ((spec_l1In.f (rd (rd_L1 l1 x21_2) 2) (wrap64 ((rd (rd_L1 l1 x21_2) 1) + 1)) (wrap64 (a0 - 1))).bind fun t136 => (if t136 = true then (if 0 ≤ (rd (rd_L1 l1 x21_2) 1) then (if (rd (rd_L1 l1 x21_2) 1) < (x6_2.length : Int) then (if (rd x6_2 (rd (rd_L1 l1 x21_2) 1)) = 0 then (if 0 ≤ (rd (rd_L1 l1 x21_2) 2) then (if (rd (rd_L1 l1 x21_2) 2) < (x6_2.length : Int) then (if (rd x6_2 (rd (rd_L1 l1 x21_2) 2)) = 0 then (spec_RowOfPairs.l0 k2 a0 ((x6_2.set ((rd (rd_L1 l1 x21_2) 1) : Int).toNat (rd (rd_L1 l1 x21_2) 0)).set ((rd (rd_L1 l1 x21_2) 2) : Int).toNat (rd (rd_L1 l1 x21_2) 0)) l1 (l1.length : Int) (wrap64 (x21_2 + 1))) else (some (([] : List Int), false))) else (none)) else (none)) else (some (([] : List Int), false))) else (none)) else (none)) else (some (([] : List Int), false)))) else (none)) = some (r1, r2) := by rw [if_pos rfl] at H; exact H
                 clear H
                 have H := H1
                 clear H1
                 by_cases c25 : 2 < ((rd_L1 l1 x21_2).length : Int)
                 ·rw [if_pos c25] at H
                  have c25b0 : decide (2 < ((rd_L1 l1 x21_2).length : Int)) = true := decide_eq_true c25
                  have c25b1 : decide (2 < (rd_L1 l1 x21_2).length) = true := decide_eq_true (by omega)
                  clear c25
                  replace H := Option.bind_eq_some_iff.mp H
                  obtain ⟨t136, A260, H⟩ := H
                  replace H : (if t136 = true then (if 0 ≤ (rd (rd_L1 l1 x21_2) 1) then (if (rd (rd_L1 l1 x21_2) 1) < (x6_2.length : Int) then (if (rd x6_2 (rd (rd_L1 l1 x21_2) 1)) = 0 then (if 0 ≤ (rd (rd_L1 l1 x21_2) 2) then (if (rd (rd_L1 l1 x21_2) 2) < (x6_2.length : Int) then (if (rd x6_2 (rd (rd_L1 l1 x21_2) 2)) = 0 then (spec_RowOfPairs.l0 k2 a0 ((x6_2.set ((rd (rd_L1 l1 x21_2) 1) : Int).toNat (rd (rd_L1 l1 x21_2) 0)).set ((rd (rd_L1 l1 x21_2) 2) : Int).toNat (rd (rd_L1 l1 x21_2) 0)) l1 (l1.length : Int) (wrap64 (x21_2 + 1))) else (some (([] : List Int), false))) else (none)) else (none)) else (some (([] : List Int), false))) else (none)) else (none)) else (some (([] : List Int), false))) = some (r1, r2) := H
                  have A26 := Aside0.mk A260
                  clear A260
                  by_cases c27 : t136 = true
                  ·subst c27
                   have H1 : (if 0 ≤ (rd (rd_L1 l1 x21_2) 1) then (if (rd (rd_L1 l1 x21_2) 1) < (x6_2.length : Int) then (if (rd x6_2 (rd (rd_L1 l1 x21_2) 1)) = 0 then (if 0 ≤ (rd (rd_L1 l1 x21_2) 2) then (if (rd (rd_L1 l1 x21_2) 2) < (x6_2.length : Int) then (if (rd x6_2 (rd (rd_L1 l1 x21_2) 2)) = 0 then (spec_RowOfPairs.l0 k2 a0 ((x6_2.set ((rd (rd_L1 l1 x21_2) 1) : Int).toNat (rd (rd_L1 l1 x21_2) 0)).set ((rd (rd_L1 l1 x21_2) 2) : Int).toNat (rd (rd_L1 l1 x21_2) 0)) l1 (l1.length : Int) (wrap64 (x21_2 + 1))) else (some (([] : List Int), false))) else (none)) else (none)) else (some (([] : List Int), false))) else (none)) else (none)) = some (r1, r2) := by rw [if_pos rfl] at H; exact H
                   clear H
                   have H := H1
                   clear H1
                   by_cases c28 : 0 ≤ (rd (rd_L1 l1 x21_2) 1)
                   ·rw [if_pos c28] at H
                    have c28b0 : decide (0 ≤ (rd (rd_L1 l1 x21_2) 1)) = true := decide_eq_true c28
                    clear c28
                    by_cases c29 : (rd (rd_L1 l1 x21_2) 1) < (x6_2.length : Int)
                    ·rw [if_pos c29] at H
                     have c29b0 : decide ((rd (rd_L1 l1 x21_2) 1) < (x6_2.length : Int)) = true := decide_eq_true c29
                     clear c29
                     by_cases c30 : (rd x6_2 (rd (rd_L1 l1 x21_2) 1)) = 0
                     ·rw [if_pos c30] at H
                      have c30b0 : ((rd x6_2 (rd (rd_L1 l1 x21_2) 1)) == 0) = true := beq_iff_eq.mpr c30
                      have c30b1 : ((rd x6_2 (rd (rd_L1 l1 x21_2) 1)) != 0) = false := bne_eq_false_iff_eq.mpr c30
                      clear c30
                      by_cases c31 : 0 ≤ (rd (rd_L1 l1 x21_2) 2)
                      ·rw [if_pos c31] at H
                       have c31b0 : decide (0 ≤ (rd (rd_L1 l1 x21_2) 2)) = true := decide_eq_true c31
                       clear c31
                       by_cases c32 : (rd (rd_L1 l1 x21_2) 2) < (x6_2.length : Int)
                       ·rw [if_pos c32] at H
                        have c32b0 : decide ((rd (rd_L1 l1 x21_2) 2) < (x6_2.length : Int)) = true := decide_eq_true c32
                        clear c32
                        by_cases c33 : (rd x6_2 (rd (rd_L1 l1 x21_2) 2)) = 0
                        ·rw [if_pos c33] at H
                         have c33b0 : ((rd x6_2 (rd (rd_L1 l1 x21_2) 2)) == 0) = true := beq_iff_eq.mpr c33
                         have c33b1 : ((rd x6_2 (rd (rd_L1 l1 x21_2) 2)) != 0) = false := bne_eq_false_iff_eq.mpr c33
                         clear c33
                         obtain ⟨y143, hy143⟩ : ∃ y_ : List Int, y_ = (x6_2.set ((rd (rd_L1 l1 x21_2) 1) : Int).toNat (rd (rd_L1 l1 x21_2) 0)) := ⟨_, rfl⟩
                         replace H : (spec_RowOfPairs.l0 k2 a0 (y143.set ((rd (rd_L1 l1 x21_2) 2) : Int).toNat (rd (rd_L1 l1 x21_2) 0)) l1 (l1.length : Int) (wrap64 (x21_2 + 1))) = some (r1, r2) := by first | (rw [hy143]; with_reducible exact H) | (have H2_ := (Option.bind_some _ _).symm.trans H; rw [hy143]; with_reducible exact H2_) | (have H2_ := (Option.bind_some _ _).symm.trans H; with_reducible exact H2_) | with_reducible exact H | (rw [hy143]; exact H) | exact H
                         have Ny143 := Aside0.mk hy143
                         clear hy143
                         obtain ⟨y146, hy146⟩ : ∃ y_ : List Int, y_ = (y143.set ((rd (rd_L1 l1 x21_2) 2) : Int).toNat (rd (rd_L1 l1 x21_2) 0)) := ⟨_, rfl⟩
                         replace H : (spec_RowOfPairs.l0 k2 a0 y146 l1 (l1.length : Int) (wrap64 (x21_2 + 1))) = some (r1, r2) := by first | (rw [hy146]; with_reducible exact H) | (have H2_ := (Option.bind_some _ _).symm.trans H; rw [hy146]; with_reducible exact H2_) | (have H2_ := (Option.bind_some _ _).symm.trans H; with_reducible exact H2_) | with_reducible exact H | (rw [hy146]; exact H) | exact H
                         have Ny146 := Aside0.mk hy146
                         clear hy146
                         have H' := Aside0.mk H
                         clear H
                         have p127 : 0 ≤ (x21_2 : Int) := of_decide_eq_true (by first | (with_reducible assumption) | assumption)
                         have q127 : x21_2 < (l1.length : Int) := of_decide_eq_true (by first | (with_reducible assumption) | assumption)
                         obtain ⟨ad127, A127_0, c127_0, e127, hx127_0, hl127_0, hi127_0⟩ := at_L1 HR1.out x21_2 p127 q127
                         cases e127
                         replace hx127_0 := (HB.out.cell (World.block_lt_of_cell? w _ hx127_0)).trans hx127_0
                         have HR127_0 := Aside0.mk hi127_0
                         have HC127_0 := Aside0.mk hl127_0
                         clear hi127_0 hl127_0
                         replace p127 := eq_true p127
                         replace q127 := eq_true q127
                         try go_wp2
                         have n0_ := Aside0.mk (Kd.R_drew HO_6.out)
                         have n1_ := Aside0.mk (below_drew1 HB.out)
                         clear HO_6
                         clear HB
                         have HO_6 := n0_
                         have HB := n1_
                         clear n0_ n1_
                         have p128 : 0 ≤ (0 : Int) := (by omega)
                         have q128 : 0 < ((rd_L1 l1 x21_2).length : Int) := of_decide_eq_true (by first | (with_reducible assumption) | assumption)
                         obtain ⟨ad128, e128, hx128_0⟩ := Kd.at_int HR127_0.out 0 p128 q128
                         have hw128_0 := hx128_0
                         (try rw [show ((0 : Int)).toNat = 0 from rfl] at hw128_0)
                         (try rw [show 0 * 1 = 0 from rfl] at hw128_0)
                         (try rw [Addr.add_zero'] at hw128_0)
                         cases e128
                         have qi128 : (0 < (rd_L1 l1 x21_2).length) = True := eq_true (by omega)
                         (try rw [show ((0 : Int)).toNat = 0 from rfl] at hx128_0)
                         (try rw [Addr.add_zero'] at hx128_0)
                         replace hx128_0 := (HB.out.cell (World.block_lt_of_cell? w _ hx128_0)).trans hx128_0
                         replace p128 := eq_true p128
                         replace q128 := eq_true q128
                         have p130 : 0 ≤ (0 : Int) := (by omega)
                         have q130 : 0 < ((rd_L1 l1 x21_2).length : Int) := of_decide_eq_true (by first | (with_reducible assumption) | assumption)
                         obtain ⟨ad130, e130, hx130_0⟩ := Kd.at_int HR127_0.out 0 p130 q130
                         have hw130_0 := hx130_0
                         (try rw [show ((0 : Int)).toNat = 0 from rfl] at hw130_0)
                         (try rw [show 0 * 1 = 0 from rfl] at hw130_0)
                         (try rw [Addr.add_zero'] at hw130_0)
                         obtain rfl : ad128 = ad130 := (by injection e130)
                         have qi130 : (0 < (rd_L1 l1 x21_2).length) = True := eq_true (by omega)
                         (try rw [show ((0 : Int)).toNat = 0 from rfl] at hx130_0)
                         (try rw [Addr.add_zero'] at hx130_0)
                         replace hx130_0 := (HB.out.cell (World.block_lt_of_cell? w _ hx130_0)).trans hx130_0
                         replace p130 := eq_true p130
                         replace q130 := eq_true q130
                         have p132 : 0 ≤ (1 : Int) := (by omega)
                         have q132 : 1 < ((rd_L1 l1 x21_2).length : Int) := of_decide_eq_true (by first | (with_reducible assumption) | assumption)
                         obtain ⟨ad132, e132, hx132_0⟩ := Kd.at_int HR127_0.out 1 p132 q132
                         have hw132_0 := hx132_0
                         (try rw [show ((1 : Int)).toNat = 1 from rfl] at hw132_0)
                         (try rw [show 1 * 1 = 1 from rfl] at hw132_0)
                         (try simp only [Nat.reduceMul, Nat.reduceEqDiff, Go.Addr.add, ↓reduceIte] at hw132_0)
                         obtain rfl : ad128 = ad132 := (by injection e132)
                         (try simp only [show (1 : Int).toNat = 1 from rfl, Nat.reduceMul, Nat.reduceEqDiff, Go.Addr.add, ↓reduceIte] at hx132_0)
                         have qi132 : (1 < (rd_L1 l1 x21_2).length) = True := eq_true (by omega)
                         (try rw [show ((1 : Int)).toNat = 1 from rfl] at hx132_0)
                         replace hx132_0 := (HB.out.cell (World.block_lt_of_cell? w _ hx132_0)).trans hx132_0
                         replace p132 := eq_true p132
                         replace q132 := eq_true q132
                         have p134 : 0 ≤ (2 : Int) := (by omega)
                         have q134 : 2 < ((rd_L1 l1 x21_2).length : Int) := of_decide_eq_true (by first | (with_reducible assumption) | assumption)
                         obtain ⟨ad134, e134, hx134_0⟩ := Kd.at_int HR127_0.out 2 p134 q134
                         have hw134_0 := hx134_0
                         (try rw [show ((2 : Int)).toNat = 2 from rfl] at hw134_0)
                         (try rw [show 2 * 1 = 2 from rfl] at hw134_0)
                         (try simp only [Nat.reduceMul, Nat.reduceEqDiff, Go.Addr.add, ↓reduceIte] at hw134_0)
                         obtain rfl : ad128 = ad134 := (by injection e134)
                         (try simp only [show (2 : Int).toNat = 2 from rfl, Nat.reduceMul, Nat.reduceEqDiff, Go.Addr.add, ↓reduceIte] at hx134_0)
                         have qi134 : (2 < (rd_L1 l1 x21_2).length) = True := eq_true (by omega)
                         (try rw [show ((2 : Int)).toNat = 2 from rfl] at hx134_0)
                         replace hx134_0 := (HB.out.cell (World.block_lt_of_cell? w _ hx134_0)).trans hx134_0
                         replace p134 := eq_true p134
                         replace q134 := eq_true q134
                         have p135 : 0 ≤ (1 : Int) := (by omega)
                         have q135 : 1 < ((rd_L1 l1 x21_2).length : Int) := of_decide_eq_true (by first | (with_reducible assumption) | assumption)
                         obtain ⟨ad135, e135, hx135_0⟩ := Kd.at_int HR127_0.out 1 p135 q135
                         have hw135_0 := hx135_0
                         (try rw [show ((1 : Int)).toNat = 1 from rfl] at hw135_0)
                         (try rw [show 1 * 1 = 1 from rfl] at hw135_0)
                         (try simp only [Nat.reduceMul, Nat.reduceEqDiff, Go.Addr.add, ↓reduceIte] at hw135_0)
                         obtain rfl : ad128 = ad135 := (by injection e135)
                         (try simp only [show (1 : Int).toNat = 1 from rfl, Nat.reduceMul, Nat.reduceEqDiff, Go.Addr.add, ↓reduceIte] at hx135_0)
                         have qi135 : (1 < (rd_L1 l1 x21_2).length) = True := eq_true (by omega)
                         (try rw [show ((1 : Int)).toNat = 1 from rfl] at hx135_0)
                         replace hx135_0 := (HB.out.cell (World.block_lt_of_cell? w _ hx135_0)).trans hx135_0
                         replace p135 := eq_true p135
                         replace q135 := eq_true q135
                         have p137 : 0 ≤ (1 : Int) := (by omega)
                         have q137 : 1 < ((rd_L1 l1 x21_2).length : Int) := of_decide_eq_true (by first | (with_reducible assumption) | assumption)
                         obtain ⟨ad137, e137, hx137_0⟩ := Kd.at_int HR127_0.out 1 p137 q137
                         have hw137_0 := hx137_0
                         (try rw [show ((1 : Int)).toNat = 1 from rfl] at hw137_0)
                         (try rw [show 1 * 1 = 1 from rfl] at hw137_0)
                         (try simp only [Nat.reduceMul, Nat.reduceEqDiff, Go.Addr.add, ↓reduceIte] at hw137_0)
                         obtain rfl : ad128 = ad137 := (by injection e137)
                         (try simp only [show (1 : Int).toNat = 1 from rfl, Nat.reduceMul, Nat.reduceEqDiff, Go.Addr.add, ↓reduceIte] at hx137_0)
                         have qi137 : (1 < (rd_L1 l1 x21_2).length) = True := eq_true (by omega)
                         (try rw [show ((1 : Int)).toNat = 1 from rfl] at hx137_0)
                         replace hx137_0 := (HB.out.cell (World.block_lt_of_cell? w _ hx137_0)).trans hx137_0
                         replace p137 := eq_true p137
                         replace q137 := eq_true q137
                         have p138 : 0 ≤ ((rd (rd_L1 l1 x21_2) 1) : Int) := of_decide_eq_true (by first | (with_reducible assumption) | assumption)
                         have q138 : (rd (rd_L1 l1 x21_2) 1) < (x6_2.length : Int) := of_decide_eq_true (by first | (with_reducible assumption) | assumption)
                         (try (obtain ⟨Aq_, cq_, eq_⟩ := Kd.R_slice HO_6.out; subst eq_))
                         obtain ⟨ad138, e138, hx138_0⟩ := Kd.at_int (Kd.R_reads' HO_6.out).2.2 (rd (rd_L1 l1 x21_2) 1) p138 q138
                         cases e138
                         replace p138 := eq_true p138
                         replace q138 := eq_true q138
                         have p139 : 0 ≤ (2 : Int) := (by omega)
                         have q139 : 2 < ((rd_L1 l1 x21_2).length : Int) := of_decide_eq_true (by first | (with_reducible assumption) | assumption)
                         obtain ⟨ad139, e139, hx139_0⟩ := Kd.at_int HR127_0.out 2 p139 q139
                         have hw139_0 := hx139_0
                         (try rw [show ((2 : Int)).toNat = 2 from rfl] at hw139_0)
                         (try rw [show 2 * 1 = 2 from rfl] at hw139_0)
                         (try simp only [Nat.reduceMul, Nat.reduceEqDiff, Go.Addr.add, ↓reduceIte] at hw139_0)
                         obtain rfl : ad128 = ad139 := (by injection e139)
                         (try simp only [show (2 : Int).toNat = 2 from rfl, Nat.reduceMul, Nat.reduceEqDiff, Go.Addr.add, ↓reduceIte] at hx139_0)
                         have qi139 : (2 < (rd_L1 l1 x21_2).length) = True := eq_true (by omega)
                         (try rw [show ((2 : Int)).toNat = 2 from rfl] at hx139_0)
                         replace hx139_0 := (HB.out.cell (World.block_lt_of_cell? w _ hx139_0)).trans hx139_0
                         replace p139 := eq_true p139
                         replace q139 := eq_true q139
                         have p140 : 0 ≤ ((rd (rd_L1 l1 x21_2) 2) : Int) := of_decide_eq_true (by first | (with_reducible assumption) | assumption)
                         have q140 : (rd (rd_L1 l1 x21_2) 2) < (x6_2.length : Int) := of_decide_eq_true (by first | (with_reducible assumption) | assumption)
                         obtain ⟨ad140, e140, hx140_0⟩ := Kd.at_int (Kd.R_reads' HO_6.out).2.2 (rd (rd_L1 l1 x21_2) 2) p140 q140
                         obtain rfl : ad138 = ad140 := (by injection e140)
                         replace p140 := eq_true p140
                         replace q140 := eq_true q140
                         refine start_ (n := 57) (S := fun w' => w'.cell? ad128 = some (.int .i64 (rd (rd_L1 l1 x21_2) 0)) ∧ w'.cell? ad128 = some (.int .i64 (rd (rd_L1 l1 x21_2) 0)) ∧ w'.cell? ⟨ad128.block, ad128.off + 1, none⟩ = some (.int .i64 (rd (rd_L1 l1 x21_2) 1)) ∧ w'.cell? ⟨ad128.block, ad128.off + 2, none⟩ = some (.int .i64 (rd (rd_L1 l1 x21_2) 2)) ∧ w'.cell? ⟨ad128.block, ad128.off + 1, none⟩ = some (.int .i64 (rd (rd_L1 l1 x21_2) 1)) ∧ w'.cell? ⟨ad128.block, ad128.off + 1, none⟩ = some (.int .i64 (rd (rd_L1 l1 x21_2) 1)) ∧ w'.cell? (ad138.add ((rd (rd_L1 l1 x21_2) 1)).toNat) = some (.int .i64 (rd x6_2 (rd (rd_L1 l1 x21_2) 1))) ∧ w'.cell? ⟨ad128.block, ad128.off + 2, none⟩ = some (.int .i64 (rd (rd_L1 l1 x21_2) 2)) ∧ w'.cell? (ad138.add ((rd (rd_L1 l1 x21_2) 2)).toNat) = some (.int .i64 (rd x6_2 (rd (rd_L1 l1 x21_2) 2)))) (ds := []) (mb 57 0) (by kernel_rfl) rfl rfl ⟨((HB.out.cell (World.block_lt_of_cell? w _ hw128_0)).trans hw128_0), ((HB.out.cell (World.block_lt_of_cell? w _ hw130_0)).trans hw130_0), ((HB.out.cell (World.block_lt_of_cell? w _ hw132_0)).trans hw132_0), ((HB.out.cell (World.block_lt_of_cell? w _ hw134_0)).trans hw134_0), ((HB.out.cell (World.block_lt_of_cell? w _ hw135_0)).trans hw135_0), ((HB.out.cell (World.block_lt_of_cell? w _ hw137_0)).trans hw137_0), hx138_0, ((HB.out.cell (World.block_lt_of_cell? w _ hw139_0)).trans hw139_0), hx140_0⟩ (fun hHeld => ?_); refine with_tabW spec_RowOfPairs.tab7 spec_RowOfPairs.bits7 (fun HT_ HW_ => ?_)
                         generalize wr.drew = w36 at HO_6 HB hx128_0 hx130_0 hx132_0 hx134_0 hx135_0 hx137_0 hx138_0 hx139_0 hx140_0 hHeld ⊢
                         refine pureV 0 25 57 1 HT_ ?_
                         refine pureV 1 26 57 3 HT_ ?_
                         refine pureV 2 27 57 7 HT_ ?_
                         refine pureV 3 28 57 15 HT_ ?_
                         refine pureV 4 29 57 31 HT_ ?_
                         refine pureV 5 30 57 63 HT_ ?_
                         refine takeV 6 31 57 127 HT_ HW_ hHeld rfl (by rintro w' ⟨s0, s1, s2, s3, s4, s5, s6, s7, s8⟩; go_simp; with_reducible rfl) ?_
                         refine one_ (i := 7) (N := some 32) (mb 57 255) rfl rfl (one_of HT_.out (by kernel_rfl)) (by decide) (fun K hK => ?_)
                         refine goes_ Try.func33 (by kernel_rfl) rfl #[.int .i64 (rd (rd_L1 l1 x21_2) 0)] (by rfl) rfl rfl (by (try simp only [List.map_toArray, List.map_cons, List.map_nil]); first | done | rfl | (simp only [List.length_drop, List.length_take]; rfl)) ?_
                         with_reducible refine (spec_roNumber.calls (rd (rd_L1 l1 x21_2) 0) true _ A16.out).mono ?_
                         rintro e w' ⟨rfl, ⟨nd, rfl⟩⟩
                         refine ⟨_, rfl, ?_⟩
                         obtain ⟨Ao37, co37, eo37⟩ := Kd.R_slice HO_6.out
                         (first | subst eo37 | (injection eo37 with f1_ f2_ f3_; have f4_ := f1_.symm; have f5_ := f3_.symm; clear f1_ f2_ f3_; subst f4_; subst f5_))
                         refine hK.out _ _ ⟨((HB.out.cell (World.block_lt_of_cell? w _ hw128_0)).trans hw128_0), ((HB.out.cell (World.block_lt_of_cell? w _ hw130_0)).trans hw130_0), ((HB.out.cell (World.block_lt_of_cell? w _ hw132_0)).trans hw132_0), ((HB.out.cell (World.block_lt_of_cell? w _ hw134_0)).trans hw134_0), ((HB.out.cell (World.block_lt_of_cell? w _ hw135_0)).trans hw135_0), ((HB.out.cell (World.block_lt_of_cell? w _ hw137_0)).trans hw137_0), hHeld.2.2.2.2.2.2.1, ((HB.out.cell (World.block_lt_of_cell? w _ hw139_0)).trans hw139_0), hHeld.2.2.2.2.2.2.2.2⟩ (fun hHeld => ?_)
                         clear hK K
                         refine norm_ (a' := ?_) ?_ ?_
                         rotate_left
                         ·show Act.put _ (some 32) _ = _
                          simp only [Act.put, List.setIfInBounds_toArray, List.set_cons_zero, List.set_cons_succ, i64_w, i32_w]
                          rfl
                         refine pureV 8 33 57 511 HT_ ?_
                         refine pureV 9 34 57 1023 HT_ ?_
                         refine pureV 10 35 57 2047 HT_ ?_
                         refine pureV 11 36 57 4095 HT_ ?_
                         refine pureV 12 37 57 8191 HT_ ?_
                         refine pureV 13 38 57 16383 HT_ ?_
                         refine takeV 14 39 57 32767 HT_ HW_ hHeld rfl (by rintro w' ⟨s0, s1, s2, s3, s4, s5, s6, s7, s8⟩; go_simp; with_reducible rfl) ?_
                         refine one_ (i := 15) (N := some 40) (mb 57 65535) rfl rfl (one_of HT_.out (by kernel_rfl)) (by decide) (fun K hK => ?_)
                         refine goes_ Try.func34 (by kernel_rfl) rfl #[.slice (some ad138) x6_2.length co37, .int .i64 (rd (rd_L1 l1 x21_2) 0)] (by rfl) rfl rfl (by (try simp only [List.map_toArray, List.map_cons, List.map_nil]); first | done | rfl | (simp only [List.length_drop, List.length_take]; rfl)) ?_
                         with_reducible refine (spec_l1Has.calls k2 _ _ x6_2 (rd (rd_L1 l1 x21_2) 0) false _ ?side1 ?side2 A18.out).mono ?_
                         (case side1 => repeat (first | exact (Kd.R_reads' HO_6.out).2.2 | (with_reducible refine Kd.C_alloc ?_ _) | (with_reducible refine Kd.C_drewN ?_ _) | (with_reducible refine Kd.C_drew ?_)))
                         (case side2 => exact (Kd.R_reads' HO_6.out).2.1)
                         rintro e w' ⟨rfl, ⟨nd, rfl⟩⟩
                         refine ⟨_, rfl, ?_⟩
                         refine hK.out _ _ ⟨((HB.out.cell (World.block_lt_of_cell? w _ hw128_0)).trans hw128_0), ((HB.out.cell (World.block_lt_of_cell? w _ hw130_0)).trans hw130_0), ((HB.out.cell (World.block_lt_of_cell? w _ hw132_0)).trans hw132_0), ((HB.out.cell (World.block_lt_of_cell? w _ hw134_0)).trans hw134_0), ((HB.out.cell (World.block_lt_of_cell? w _ hw135_0)).trans hw135_0), ((HB.out.cell (World.block_lt_of_cell? w _ hw137_0)).trans hw137_0), hHeld.2.2.2.2.2.2.1, ((HB.out.cell (World.block_lt_of_cell? w _ hw139_0)).trans hw139_0), hHeld.2.2.2.2.2.2.2.2⟩ (fun hHeld => ?_)
                         clear hK K
                         refine norm_ (a' := ?_) ?_ ?_
                         rotate_left
                         ·show Act.put _ (some 40) _ = _
                          simp only [Act.put, List.setIfInBounds_toArray, List.set_cons_zero, List.set_cons_succ, i64_w, i32_w]
                          rfl
                         refine pureV 16 41 57 131071 HT_ ?_
                         refine pureV 17 42 57 262143 HT_ ?_
                         refine pureV 18 43 57 524287 HT_ ?_
                         refine pureV 19 44 57 1048575 HT_ ?_
                         refine pureV 21 46 57 3145727 HT_ ?_
                         refine pureV 22 47 57 7340031 HT_ ?_
                         refine takeV 20 45 57 8388607 HT_ HW_ hHeld rfl (by rintro w' ⟨s0, s1, s2, s3, s4, s5, s6, s7, s8⟩; go_simp; with_reducible rfl) ?_
                         refine one_ (i := 23) (N := some 48) (mb 57 16777215) rfl rfl (one_of HT_.out (by kernel_rfl)) (by decide) (fun K hK => ?_)
                         refine goes_ Try.func32 (by kernel_rfl) rfl #[.int .i64 (rd (rd_L1 l1 x21_2) 1), .int .i64 0, .int .i64 (wrap64 (a0 - 1))] (by rfl) rfl rfl (by (try simp only [List.map_toArray, List.map_cons, List.map_nil]); first | done | rfl | (simp only [List.length_drop, List.length_take]; rfl)) ?_
                         with_reducible refine (spec_l1In.calls (rd (rd_L1 l1 x21_2) 1) 0 (wrap64 (a0 - 1)) true _ A23.out).mono ?_
                         rintro e w' ⟨rfl, ⟨nd, rfl⟩⟩
                         refine ⟨_, rfl, ?_⟩
                         refine hK.out _ _ ⟨((HB.out.cell (World.block_lt_of_cell? w _ hw128_0)).trans hw128_0), ((HB.out.cell (World.block_lt_of_cell? w _ hw130_0)).trans hw130_0), ((HB.out.cell (World.block_lt_of_cell? w _ hw132_0)).trans hw132_0), ((HB.out.cell (World.block_lt_of_cell? w _ hw134_0)).trans hw134_0), ((HB.out.cell (World.block_lt_of_cell? w _ hw135_0)).trans hw135_0), ((HB.out.cell (World.block_lt_of_cell? w _ hw137_0)).trans hw137_0), hHeld.2.2.2.2.2.2.1, ((HB.out.cell (World.block_lt_of_cell? w _ hw139_0)).trans hw139_0), hHeld.2.2.2.2.2.2.2.2⟩ (fun hHeld => ?_)
                         clear hK K
                         refine norm_ (a' := ?_) ?_ ?_
                         rotate_left
                         ·show Act.put _ (some 48) _ = _
                          simp only [Act.put, List.setIfInBounds_toArray, List.set_cons_zero, List.set_cons_succ, i64_w, i32_w]
                          rfl
                         refine pureV 24 49 57 33554431 HT_ ?_
                         refine pureV 25 50 57 67108863 HT_ ?_
                         refine pureV 26 51 57 134217727 HT_ ?_
                         refine pureV 27 52 57 268435455 HT_ ?_
                         refine pureV 28 53 57 536870911 HT_ ?_
                         refine pureV 30 55 57 1610612735 HT_ ?_
                         refine pureV 31 56 57 3758096383 HT_ ?_
                         refine pureV 34 59 57 20937965567 HT_ ?_
                         refine pureV 35 60 57 55297703935 HT_ ?_
                         refine takeV 29 54 57 55834574847 HT_ HW_ hHeld rfl (by rintro w' ⟨s0, s1, s2, s3, s4, s5, s6, s7, s8⟩; go_simp; with_reducible rfl) ?_
                         refine takeV 32 57 57 60129542143 HT_ HW_ hHeld rfl (by rintro w' ⟨s0, s1, s2, s3, s4, s5, s6, s7, s8⟩; go_simp; with_reducible rfl) ?_
                         refine pureV 33 58 57 68719476735 HT_ ?_
                         refine one_ (i := 36) (N := some 61) (mb 57 137438953471) rfl rfl (one_of HT_.out (by kernel_rfl)) (by decide) (fun K hK => ?_)
                         refine goes_ Try.func32 (by kernel_rfl) rfl #[.int .i64 (rd (rd_L1 l1 x21_2) 2), .int .i64 (wrap64 ((rd (rd_L1 l1 x21_2) 1) + 1)), .int .i64 (wrap64 (a0 - 1))] (by rfl) rfl rfl (by (try simp only [List.map_toArray, List.map_cons, List.map_nil]); first | done | rfl | (simp only [List.length_drop, List.length_take]; rfl)) ?_
                         with_reducible refine (spec_l1In.calls (rd (rd_L1 l1 x21_2) 2) (wrap64 ((rd (rd_L1 l1 x21_2) 1) + 1)) (wrap64 (a0 - 1)) true _ A26.out).mono ?_
                         rintro e w' ⟨rfl, ⟨nd, rfl⟩⟩
                         refine ⟨_, rfl, ?_⟩
                         refine hK.out _ _ ⟨((HB.out.cell (World.block_lt_of_cell? w _ hw128_0)).trans hw128_0), ((HB.out.cell (World.block_lt_of_cell? w _ hw130_0)).trans hw130_0), ((HB.out.cell (World.block_lt_of_cell? w _ hw132_0)).trans hw132_0), ((HB.out.cell (World.block_lt_of_cell? w _ hw134_0)).trans hw134_0), ((HB.out.cell (World.block_lt_of_cell? w _ hw135_0)).trans hw135_0), ((HB.out.cell (World.block_lt_of_cell? w _ hw137_0)).trans hw137_0), hHeld.2.2.2.2.2.2.1, ((HB.out.cell (World.block_lt_of_cell? w _ hw139_0)).trans hw139_0), hHeld.2.2.2.2.2.2.2.2⟩ (fun hHeld => ?_)
                         clear hK K
                         refine norm_ (a' := ?_) ?_ ?_
                         rotate_left
                         ·show Act.put _ (some 61) _ = _
                          simp only [Act.put, List.setIfInBounds_toArray, List.set_cons_zero, List.set_cons_succ, i64_w, i32_w]
                          rfl
                         refine pureV 37 62 57 274877906943 HT_ ?_
                         refine pureV 38 63 57 549755813887 HT_ ?_
                         refine pureV 39 64 57 1099511627775 HT_ ?_
                         refine pureV 40 65 57 2199023255551 HT_ ?_
                         refine pureV 41 66 57 4398046511103 HT_ ?_
                         refine pureV 42 67 57 8796093022207 HT_ ?_
                         refine takeV 43 68 57 17592186044415 HT_ HW_ hHeld rfl (by rintro w' ⟨s0, s1, s2, s3, s4, s5, s6, s7, s8⟩; go_simp; with_reducible rfl) ?_
                         refine pureV 44 69 57 35184372088831 HT_ ?_
                         refine takeV 45 70 57 70368744177663 HT_ HW_ hHeld rfl (by rintro w' ⟨s0, s1, s2, s3, s4, s5, s6, s7, s8⟩; go_simp; with_reducible rfl) ?_
                         refine pureV 46 71 57 140737488355327 HT_ ?_
                         refine pureV 47 72 57 281474976710655 HT_ ?_
                         refine pureV 48 73 57 562949953421311 HT_ ?_
                         refine pureV 49 74 57 1125899906842623 HT_ ?_
                         refine pureV 50 75 57 2251799813685247 HT_ ?_
                         refine pureV 51 76 57 4503599627370495 HT_ ?_
                         refine takeV 52 77 57 9007199254740991 HT_ HW_ hHeld rfl (by rintro w' ⟨s0, s1, s2, s3, s4, s5, s6, s7, s8⟩; go_simp; with_reducible rfl) ?_
                         refine pureV 53 78 57 18014398509481983 HT_ ?_
                         refine takeV 54 79 57 36028797018963967 HT_ HW_ hHeld rfl (by rintro w' ⟨s0, s1, s2, s3, s4, s5, s6, s7, s8⟩; go_simp; with_reducible rfl) ?_
                         refine pureV 55 80 57 72057594037927935 HT_ ?_
                         refine pureV 56 81 57 144115188075855871 HT_ ?_
                         refine done_ (done_of HT_.out (by kernel_rfl)) ?_
                         try go_wp2
                         (try (rw [drewN_self w36]; generalize hq_ : World.drewN w36 _ = w36; have n0_ : Aside0 (Kd.R (Kd.int .i64) 3 w36 w.heap.size (fun _ => True) (.slice (some ad138) x6_2.length co37) x6_2) := ⟨by rw [← hq_]; exact (by (with_reducible repeat (first | apply Kd.R_alloc | apply Kd.R_drewN | apply Kd.R_drew)); exact HO_6.out)⟩; have n1_ : Aside0 (Below w.heap.size w w36) := ⟨by rw [← hq_]; exact (by repeat (first | (with_reducible first | exact HB.out | apply below_alloc | apply pw_below_drewN | apply below_drew1) | exact HB.out))⟩; clear HO_6 HB hq_; have HO_6 := n0_; have HB := n1_; clear n0_ n1_))
                         have n0_ := Aside0.mk (Kd.R_drew HO_6.out)
                         have n1_ := Aside0.mk (below_drew1 HB.out)
                         clear HO_6
                         clear HB
                         have HO_6 := n0_
                         have HB := n1_
                         clear n0_ n1_
                         have p141 : 0 ≤ (1 : Int) := (by omega)
                         have q141 : 1 < ((rd_L1 l1 x21_2).length : Int) := of_decide_eq_true (by first | (with_reducible assumption) | assumption)
                         obtain ⟨ad141, e141, hx141_0⟩ := Kd.at_int HR127_0.out 1 p141 q141
                         have hw141_0 := hx141_0
                         (try rw [show ((1 : Int)).toNat = 1 from rfl] at hw141_0)
                         (try rw [show 1 * 1 = 1 from rfl] at hw141_0)
                         (try simp only [Nat.reduceMul, Nat.reduceEqDiff, Go.Addr.add, ↓reduceIte] at hw141_0)
                         obtain rfl : ad128 = ad141 := (by injection e141)
                         (try simp only [show (1 : Int).toNat = 1 from rfl, Nat.reduceMul, Nat.reduceEqDiff, Go.Addr.add, ↓reduceIte] at hx141_0)
                         have qi141 : (1 < (rd_L1 l1 x21_2).length) = True := eq_true (by omega)
                         (try rw [show ((1 : Int)).toNat = 1 from rfl] at hx141_0)
                         replace hx141_0 := (HB.out.cell (World.block_lt_of_cell? w _ hx141_0)).trans hx141_0
                         replace p141 := eq_true p141
                         replace q141 := eq_true q141
                         have p142 : 0 ≤ (0 : Int) := (by omega)
                         have q142 : 0 < ((rd_L1 l1 x21_2).length : Int) := of_decide_eq_true (by first | (with_reducible assumption) | assumption)
                         obtain ⟨ad142, e142, hx142_0⟩ := Kd.at_int HR127_0.out 0 p142 q142
                         have hw142_0 := hx142_0
                         (try rw [show ((0 : Int)).toNat = 0 from rfl] at hw142_0)
                         (try rw [show 0 * 1 = 0 from rfl] at hw142_0)
                         (try rw [Addr.add_zero'] at hw142_0)
                         obtain rfl : ad128 = ad142 := (by injection e142)
                         have qi142 : (0 < (rd_L1 l1 x21_2).length) = True := eq_true (by omega)
                         (try rw [show ((0 : Int)).toNat = 0 from rfl] at hx142_0)
                         (try rw [Addr.add_zero'] at hx142_0)
                         replace hx142_0 := (HB.out.cell (World.block_lt_of_cell? w _ hx142_0)).trans hx142_0
                         replace p142 := eq_true p142
                         replace q142 := eq_true q142
                         have p34 : 0 ≤ ((rd (rd_L1 l1 x21_2) 1) : Int) := of_decide_eq_true (by first | (with_reducible assumption) | assumption)
                         have q34 : ((rd (rd_L1 l1 x21_2) 1) : Int) < ((x6_2.length : Int) : Int) := of_decide_eq_true (by first | (with_reducible assumption) | assumption)
                         obtain ⟨go34, co34, eo34, gb34, gl34, cl34, HG34⟩ := Kd.R_form HO_6.out (by omega)
                         (first | cases eo34 | (injection eo34 with ea_ en_ ec_; (first | subst ea_ | (injection ea_ with ea_; subst ea_)); subst ec_; clear en_))
                         have GB34 := Aside0.mk gb34
                         have GG34 := Aside0.mk HG34
                         clear gb34 gl34 HG34
                         (first | simp only [add_plain] at hx138_0 | skip)
                         (first | simp only [add_plain] at hx140_0 | skip)
                         obtain ⟨hx34_0, hf34_0⟩ := Kd.R_celln 0 HO_6.out ((rd (rd_L1 l1 x21_2) 1) : Int) p34 q34
                         replace p34 := eq_true p34
                         replace q34 := eq_true q34
                         have HP39 := Kd.R_putn HO_6.out ((rd (rd_L1 l1 x21_2) 1) : Int) (rd (rd_L1 l1 x21_2) 0)
                         rw [← Ny143.out] at HP39
                         have HQ39 := Aside0.mk HP39
                         clear HP39
                         refine start_ (n := 9) (S := fun w' => w'.cell? ⟨ad128.block, ad128.off + 1, none⟩ = some (.int .i64 (rd (rd_L1 l1 x21_2) 1)) ∧ w'.cell? ad128 = some (.int .i64 (rd (rd_L1 l1 x21_2) 0))) (ds := [8]) (mb 9 0) (by kernel_rfl) rfl rfl ⟨((HB.out.cell (World.block_lt_of_cell? w _ hw141_0)).trans hw141_0), ((HB.out.cell (World.block_lt_of_cell? w _ hw142_0)).trans hw142_0)⟩ (fun hHeld => ?_); refine with_tabW spec_RowOfPairs.tab9 spec_RowOfPairs.bits9 (fun HT_ HW_ => ?_)
                         generalize w36.drew = w38 at HO_6 HB GG34 HQ39 hf34_0 hx138_0 hx140_0 hx141_0 hx142_0 hx34_0 hHeld ⊢
                         refine pureV 0 82 9 1 HT_ ?_
                         refine pureV 1 83 9 3 HT_ ?_
                         refine pureV 2 84 9 7 HT_ ?_
                         refine pureV 4 86 9 23 HT_ ?_
                         refine pureV 5 87 9 55 HT_ ?_
                         refine takeV 3 85 9 63 HT_ HW_ hHeld rfl (by rintro w' ⟨s0, s1⟩; go_simp; with_reducible rfl) ?_
                         refine takeV 6 88 9 127 HT_ HW_ hHeld rfl (by rintro w' ⟨s0, s1⟩; go_simp; with_reducible rfl) ?_
                         refine pureV 7 89 9 255 HT_ ?_
                         refine last_ (i := 8) (N := none) (mb 9 511) rfl rfl (one_of HT_.out (by kernel_rfl)) (by decide) (fun K hK => ?_)
                         refine skip_ (w1 := ?_) (by rfl) rfl ?_ ?_
                         rotate_left
                         ·go_simp
                          rfl
                         refine hK.out _ _ ?_
                         clear hK K
                         refine done_ (done_of HT_.out (by kernel_rfl)) ?_
                         try go_wp2
                         have n0_ : Aside0 (Kd.R (Kd.int .i64) 3 (w38.setCell ⟨go34, ((rd (rd_L1 l1 x21_2) 1) : Int).toNat, none⟩ (.int .i64 (rd (rd_L1 l1 x21_2) 0))) w.heap.size (fun _ => True) (.slice (some ⟨go34, 0, none⟩) x6_2.length co37) y143) := ⟨by (with_reducible repeat (first | apply Kd.R_alloc | apply Kd.R_drewN | apply Kd.R_drew)); exact HQ39.out⟩
                         have n1_ : Aside0 (Below w.heap.size w (w38.setCell ⟨go34, ((rd (rd_L1 l1 x21_2) 1) : Int).toNat, none⟩ (.int .i64 (rd (rd_L1 l1 x21_2) 0)))) := ⟨by repeat (first | (with_reducible first | exact HB.out | apply below_alloc | apply pw_below_drewN | apply below_drew1 | refine below_set ?_ GB34.out) | exact HB.out)⟩
                         (try clear HO_6)
                         (try clear HB)
                         generalize (w38.setCell ⟨go34, ((rd (rd_L1 l1 x21_2) 1) : Int).toNat, none⟩ (.int .i64 (rd (rd_L1 l1 x21_2) 0))) = w40 at n0_ n1_ ⊢
                         have HO_6 := n0_
                         have HB := n1_
                         clear n0_ n1_
                         have n0_ := Aside0.mk (Kd.R_drew HO_6.out)
                         have n1_ := Aside0.mk (below_drew1 HB.out)
                         clear HO_6
                         clear HB
                         have HO_6 := n0_
                         have HB := n1_
                         clear n0_ n1_
                         have p144 : 0 ≤ (2 : Int) := (by omega)
                         have q144 : 2 < ((rd_L1 l1 x21_2).length : Int) := of_decide_eq_true (by first | (with_reducible assumption) | assumption)
                         obtain ⟨ad144, e144, hx144_0⟩ := Kd.at_int HR127_0.out 2 p144 q144
                         have hw144_0 := hx144_0
                         (try rw [show ((2 : Int)).toNat = 2 from rfl] at hw144_0)
                         (try rw [show 2 * 1 = 2 from rfl] at hw144_0)
                         (try simp only [Nat.reduceMul, Nat.reduceEqDiff, Go.Addr.add, ↓reduceIte] at hw144_0)
                         obtain rfl : ad128 = ad144 := (by injection e144)
                         (try simp only [show (2 : Int).toNat = 2 from rfl, Nat.reduceMul, Nat.reduceEqDiff, Go.Addr.add, ↓reduceIte] at hx144_0)
                         have qi144 : (2 < (rd_L1 l1 x21_2).length) = True := eq_true (by omega)
                         (try rw [show ((2 : Int)).toNat = 2 from rfl] at hx144_0)
                         replace hx144_0 := (HB.out.cell (World.block_lt_of_cell? w _ hx144_0)).trans hx144_0
                         replace p144 := eq_true p144
                         replace q144 := eq_true q144
                         have p145 : 0 ≤ (0 : Int) := (by omega)
                         have q145 : 0 < ((rd_L1 l1 x21_2).length : Int) := of_decide_eq_true (by first | (with_reducible assumption) | assumption)
                         obtain ⟨ad145, e145, hx145_0⟩ := Kd.at_int HR127_0.out 0 p145 q145
                         have hw145_0 := hx145_0
                         (try rw [show ((0 : Int)).toNat = 0 from rfl] at hw145_0)
                         (try rw [show 0 * 1 = 0 from rfl] at hw145_0)
                         (try rw [Addr.add_zero'] at hw145_0)
                         obtain rfl : ad128 = ad145 := (by injection e145)
                         have qi145 : (0 < (rd_L1 l1 x21_2).length) = True := eq_true (by omega)
                         (try rw [show ((0 : Int)).toNat = 0 from rfl] at hx145_0)
                         (try rw [Addr.add_zero'] at hx145_0)
                         replace hx145_0 := (HB.out.cell (World.block_lt_of_cell? w _ hx145_0)).trans hx145_0
                         replace p145 := eq_true p145
                         replace q145 := eq_true q145
                         have p35 : 0 ≤ ((rd (rd_L1 l1 x21_2) 2) : Int) := of_decide_eq_true (by first | (with_reducible assumption) | assumption)
                         have q35 : ((rd (rd_L1 l1 x21_2) 2) : Int) < ((x6_2.length : Int) : Int) := of_decide_eq_true (by first | (with_reducible assumption) | assumption)
                         obtain ⟨hx35_0, hf35_0⟩ := Kd.R_celln 0 HO_6.out ((rd (rd_L1 l1 x21_2) 2) : Int) p35 q35
                         replace p35 := eq_true p35
                         replace q35 := eq_true q35
                         have HP42 := Kd.R_putn HO_6.out ((rd (rd_L1 l1 x21_2) 2) : Int) (rd (rd_L1 l1 x21_2) 0)
                         rw [← Ny146.out] at HP42
                         have HQ42 := Aside0.mk HP42
                         clear HP42
                         refine start_ (n := 9) (S := fun w' => w'.cell? ⟨ad128.block, ad128.off + 2, none⟩ = some (.int .i64 (rd (rd_L1 l1 x21_2) 2)) ∧ w'.cell? ad128 = some (.int .i64 (rd (rd_L1 l1 x21_2) 0))) (ds := [8]) (mb 9 0) (by kernel_rfl) rfl rfl ⟨((HB.out.cell (World.block_lt_of_cell? w _ hw144_0)).trans hw144_0), ((HB.out.cell (World.block_lt_of_cell? w _ hw145_0)).trans hw145_0)⟩ (fun hHeld => ?_); refine with_tabW spec_RowOfPairs.tab10 spec_RowOfPairs.bits10 (fun HT_ HW_ => ?_)
                         generalize w40.drew = w41 at HO_6 HB HQ39 HQ42 hf35_0 hx144_0 hx145_0 hx35_0 hHeld ⊢
                         refine pureV 0 90 9 1 HT_ ?_
                         refine pureV 1 91 9 3 HT_ ?_
                         refine pureV 2 92 9 7 HT_ ?_
                         refine pureV 4 94 9 23 HT_ ?_
                         refine pureV 5 95 9 55 HT_ ?_
                         refine takeV 3 93 9 63 HT_ HW_ hHeld rfl (by rintro w' ⟨s0, s1⟩; go_simp; with_reducible rfl) ?_
                         refine takeV 6 96 9 127 HT_ HW_ hHeld rfl (by rintro w' ⟨s0, s1⟩; go_simp; with_reducible rfl) ?_
                         refine pureV 7 97 9 255 HT_ ?_
                         refine last_ (i := 8) (N := none) (mb 9 511) rfl rfl (one_of HT_.out (by kernel_rfl)) (by decide) (fun K hK => ?_)
                         refine skip_ (w1 := ?_) (by rfl) rfl ?_ ?_
                         rotate_left
                         ·go_simp
                          rfl
                         refine hK.out _ _ ?_
                         clear hK K
                         refine done_ (done_of HT_.out (by kernel_rfl)) ?_
                         try go_wp2
                         go_roundg k2
                         case measure => have := HJ2.out; have := HK2.out; omega
                         case rel => exact ⟨(y146), (wrap64 (x21_2 + 1)), (by first | rfl | (simp; done) | (simp [*]; done)), H', ⟨by have := HJ2.out; have := HK2.out; omega⟩, ⟨by (with_reducible repeat (first | apply Kd.R_alloc | apply Kd.R_drewN | apply Kd.R_drew)); exact HQ42.out⟩, ⟨by repeat (first | (with_reducible first | exact HB.out | apply below_alloc | apply pw_below_drewN | apply below_drew1 | refine below_set ?_ GB34.out) | exact HB.out)⟩⟩
                        ·rw [if_neg c33] at H
                         have c33b0 : ((rd x6_2 (rd (rd_L1 l1 x21_2) 2)) == 0) = false := beq_eq_false_iff_ne.mpr c33
                         have c33b1 : ((rd x6_2 (rd (rd_L1 l1 x21_2) 2)) != 0) = true := bne_iff_ne.mpr c33
                         simp only [Option.some.injEq, Prod.mk.injEq] at H
                         obtain ⟨rfl, rfl⟩ := H
                         have p127 : 0 ≤ (x21_2 : Int) := of_decide_eq_true (by first | (with_reducible assumption) | assumption)
                         have q127 : x21_2 < (l1.length : Int) := of_decide_eq_true (by first | (with_reducible assumption) | assumption)
                         obtain ⟨ad127, A127_0, c127_0, e127, hx127_0, hl127_0, hi127_0⟩ := at_L1 HR1.out x21_2 p127 q127
                         cases e127
                         replace hx127_0 := (HB.out.cell (World.block_lt_of_cell? w _ hx127_0)).trans hx127_0
                         have HR127_0 := Aside0.mk hi127_0
                         have HC127_0 := Aside0.mk hl127_0
                         clear hi127_0 hl127_0
                         replace p127 := eq_true p127
                         replace q127 := eq_true q127
                         try go_wp2
                         have n0_ := Aside0.mk (Kd.R_drew HO_6.out)
                         have n1_ := Aside0.mk (below_drew1 HB.out)
                         clear HO_6
                         clear HB
                         have HO_6 := n0_
                         have HB := n1_
                         clear n0_ n1_
                         have p128 : 0 ≤ (0 : Int) := (by omega)
                         have q128 : 0 < ((rd_L1 l1 x21_2).length : Int) := of_decide_eq_true (by first | (with_reducible assumption) | assumption)
                         obtain ⟨ad128, e128, hx128_0⟩ := Kd.at_int HR127_0.out 0 p128 q128
                         have hw128_0 := hx128_0
                         (try rw [show ((0 : Int)).toNat = 0 from rfl] at hw128_0)
                         (try rw [show 0 * 1 = 0 from rfl] at hw128_0)
                         (try rw [Addr.add_zero'] at hw128_0)
                         cases e128
                         have qi128 : (0 < (rd_L1 l1 x21_2).length) = True := eq_true (by omega)
                         (try rw [show ((0 : Int)).toNat = 0 from rfl] at hx128_0)
                         (try rw [Addr.add_zero'] at hx128_0)
                         replace hx128_0 := (HB.out.cell (World.block_lt_of_cell? w _ hx128_0)).trans hx128_0
                         replace p128 := eq_true p128
                         replace q128 := eq_true q128
                         have p130 : 0 ≤ (0 : Int) := (by omega)
                         have q130 : 0 < ((rd_L1 l1 x21_2).length : Int) := of_decide_eq_true (by first | (with_reducible assumption) | assumption)
                         obtain ⟨ad130, e130, hx130_0⟩ := Kd.at_int HR127_0.out 0 p130 q130
                         have hw130_0 := hx130_0
                         (try rw [show ((0 : Int)).toNat = 0 from rfl] at hw130_0)
                         (try rw [show 0 * 1 = 0 from rfl] at hw130_0)
                         (try rw [Addr.add_zero'] at hw130_0)
                         obtain rfl : ad128 = ad130 := (by injection e130)
                         have qi130 : (0 < (rd_L1 l1 x21_2).length) = True := eq_true (by omega)
                         (try rw [show ((0 : Int)).toNat = 0 from rfl] at hx130_0)
                         (try rw [Addr.add_zero'] at hx130_0)
                         replace hx130_0 := (HB.out.cell (World.block_lt_of_cell? w _ hx130_0)).trans hx130_0
                         replace p130 := eq_true p130
                         replace q130 := eq_true q130
                         have p132 : 0 ≤ (1 : Int) := (by omega)
                         have q132 : 1 < ((rd_L1 l1 x21_2).length : Int) := of_decide_eq_true (by first | (with_reducible assumption) | assumption)
                         obtain ⟨ad132, e132, hx132_0⟩ := Kd.at_int HR127_0.out 1 p132 q132
                         have hw132_0 := hx132_0
                         (try rw [show ((1 : Int)).toNat = 1 from rfl] at hw132_0)
                         (try rw [show 1 * 1 = 1 from rfl] at hw132_0)
                         (try simp only [Nat.reduceMul, Nat.reduceEqDiff, Go.Addr.add, ↓reduceIte] at hw132_0)
                         obtain rfl : ad128 = ad132 := (by injection e132)
                         (try simp only [show (1 : Int).toNat = 1 from rfl, Nat.reduceMul, Nat.reduceEqDiff, Go.Addr.add, ↓reduceIte] at hx132_0)
                         have qi132 : (1 < (rd_L1 l1 x21_2).length) = True := eq_true (by omega)
                         (try rw [show ((1 : Int)).toNat = 1 from rfl] at hx132_0)
                         replace hx132_0 := (HB.out.cell (World.block_lt_of_cell? w _ hx132_0)).trans hx132_0
                         replace p132 := eq_true p132
                         replace q132 := eq_true q132
                         have p134 : 0 ≤ (2 : Int) := (by omega)
                         have q134 : 2 < ((rd_L1 l1 x21_2).length : Int) := of_decide_eq_true (by first | (with_reducible assumption) | assumption)
                         obtain ⟨ad134, e134, hx134_0⟩ := Kd.at_int HR127_0.out 2 p134 q134
                         have hw134_0 := hx134_0
                         (try rw [show ((2 : Int)).toNat = 2 from rfl] at hw134_0)
                         (try rw [show 2 * 1 = 2 from rfl] at hw134_0)
                         (try simp only [Nat.reduceMul, Nat.reduceEqDiff, Go.Addr.add, ↓reduceIte] at hw134_0)
                         obtain rfl : ad128 = ad134 := (by injection e134)
                         (try simp only [show (2 : Int).toNat = 2 from rfl, Nat.reduceMul, Nat.reduceEqDiff, Go.Addr.add, ↓reduceIte] at hx134_0)
                         have qi134 : (2 < (rd_L1 l1 x21_2).length) = True := eq_true (by omega)
                         (try rw [show ((2 : Int)).toNat = 2 from rfl] at hx134_0)
                         replace hx134_0 := (HB.out.cell (World.block_lt_of_cell? w _ hx134_0)).trans hx134_0
                         replace p134 := eq_true p134
                         replace q134 := eq_true q134
                         have p135 : 0 ≤ (1 : Int) := (by omega)
                         have q135 : 1 < ((rd_L1 l1 x21_2).length : Int) := of_decide_eq_true (by first | (with_reducible assumption) | assumption)
                         obtain ⟨ad135, e135, hx135_0⟩ := Kd.at_int HR127_0.out 1 p135 q135
                         have hw135_0 := hx135_0
                         (try rw [show ((1 : Int)).toNat = 1 from rfl] at hw135_0)
                         (try rw [show 1 * 1 = 1 from rfl] at hw135_0)
                         (try simp only [Nat.reduceMul, Nat.reduceEqDiff, Go.Addr.add, ↓reduceIte] at hw135_0)
                         obtain rfl : ad128 = ad135 := (by injection e135)
                         (try simp only [show (1 : Int).toNat = 1 from rfl, Nat.reduceMul, Nat.reduceEqDiff, Go.Addr.add, ↓reduceIte] at hx135_0)
                         have qi135 : (1 < (rd_L1 l1 x21_2).length) = True := eq_true (by omega)
                         (try rw [show ((1 : Int)).toNat = 1 from rfl] at hx135_0)
                         replace hx135_0 := (HB.out.cell (World.block_lt_of_cell? w _ hx135_0)).trans hx135_0
                         replace p135 := eq_true p135
                         replace q135 := eq_true q135
                         have p137 : 0 ≤ (1 : Int) := (by omega)
                         have q137 : 1 < ((rd_L1 l1 x21_2).length : Int) := of_decide_eq_true (by first | (with_reducible assumption) | assumption)
                         obtain ⟨ad137, e137, hx137_0⟩ := Kd.at_int HR127_0.out 1 p137 q137
                         have hw137_0 := hx137_0
                         (try rw [show ((1 : Int)).toNat = 1 from rfl] at hw137_0)
                         (try rw [show 1 * 1 = 1 from rfl] at hw137_0)
                         (try simp only [Nat.reduceMul, Nat.reduceEqDiff, Go.Addr.add, ↓reduceIte] at hw137_0)
                         obtain rfl : ad128 = ad137 := (by injection e137)
                         (try simp only [show (1 : Int).toNat = 1 from rfl, Nat.reduceMul, Nat.reduceEqDiff, Go.Addr.add, ↓reduceIte] at hx137_0)
                         have qi137 : (1 < (rd_L1 l1 x21_2).length) = True := eq_true (by omega)
                         (try rw [show ((1 : Int)).toNat = 1 from rfl] at hx137_0)
                         replace hx137_0 := (HB.out.cell (World.block_lt_of_cell? w _ hx137_0)).trans hx137_0
                         replace p137 := eq_true p137
                         replace q137 := eq_true q137
                         have p138 : 0 ≤ ((rd (rd_L1 l1 x21_2) 1) : Int) := of_decide_eq_true (by first | (with_reducible assumption) | assumption)
                         have q138 : (rd (rd_L1 l1 x21_2) 1) < (x6_2.length : Int) := of_decide_eq_true (by first | (with_reducible assumption) | assumption)
                         (try (obtain ⟨Aq_, cq_, eq_⟩ := Kd.R_slice HO_6.out; subst eq_))
                         obtain ⟨ad138, e138, hx138_0⟩ := Kd.at_int (Kd.R_reads' HO_6.out).2.2 (rd (rd_L1 l1 x21_2) 1) p138 q138
                         cases e138
                         replace p138 := eq_true p138
                         replace q138 := eq_true q138
                         have p139 : 0 ≤ (2 : Int) := (by omega)
                         have q139 : 2 < ((rd_L1 l1 x21_2).length : Int) := of_decide_eq_true (by first | (with_reducible assumption) | assumption)
                         obtain ⟨ad139, e139, hx139_0⟩ := Kd.at_int HR127_0.out 2 p139 q139
                         have hw139_0 := hx139_0
                         (try rw [show ((2 : Int)).toNat = 2 from rfl] at hw139_0)
                         (try rw [show 2 * 1 = 2 from rfl] at hw139_0)
                         (try simp only [Nat.reduceMul, Nat.reduceEqDiff, Go.Addr.add, ↓reduceIte] at hw139_0)
                         obtain rfl : ad128 = ad139 := (by injection e139)
                         (try simp only [show (2 : Int).toNat = 2 from rfl, Nat.reduceMul, Nat.reduceEqDiff, Go.Addr.add, ↓reduceIte] at hx139_0)
                         have qi139 : (2 < (rd_L1 l1 x21_2).length) = True := eq_true (by omega)
                         (try rw [show ((2 : Int)).toNat = 2 from rfl] at hx139_0)
                         replace hx139_0 := (HB.out.cell (World.block_lt_of_cell? w _ hx139_0)).trans hx139_0
                         replace p139 := eq_true p139
                         replace q139 := eq_true q139
                         have p140 : 0 ≤ ((rd (rd_L1 l1 x21_2) 2) : Int) := of_decide_eq_true (by first | (with_reducible assumption) | assumption)
                         have q140 : (rd (rd_L1 l1 x21_2) 2) < (x6_2.length : Int) := of_decide_eq_true (by first | (with_reducible assumption) | assumption)
                         obtain ⟨ad140, e140, hx140_0⟩ := Kd.at_int (Kd.R_reads' HO_6.out).2.2 (rd (rd_L1 l1 x21_2) 2) p140 q140
                         obtain rfl : ad138 = ad140 := (by injection e140)
                         replace p140 := eq_true p140
                         replace q140 := eq_true q140
                         refine start_ (n := 57) (S := fun w' => w'.cell? ad128 = some (.int .i64 (rd (rd_L1 l1 x21_2) 0)) ∧ w'.cell? ad128 = some (.int .i64 (rd (rd_L1 l1 x21_2) 0)) ∧ w'.cell? ⟨ad128.block, ad128.off + 1, none⟩ = some (.int .i64 (rd (rd_L1 l1 x21_2) 1)) ∧ w'.cell? ⟨ad128.block, ad128.off + 2, none⟩ = some (.int .i64 (rd (rd_L1 l1 x21_2) 2)) ∧ w'.cell? ⟨ad128.block, ad128.off + 1, none⟩ = some (.int .i64 (rd (rd_L1 l1 x21_2) 1)) ∧ w'.cell? ⟨ad128.block, ad128.off + 1, none⟩ = some (.int .i64 (rd (rd_L1 l1 x21_2) 1)) ∧ w'.cell? (ad138.add ((rd (rd_L1 l1 x21_2) 1)).toNat) = some (.int .i64 (rd x6_2 (rd (rd_L1 l1 x21_2) 1))) ∧ w'.cell? ⟨ad128.block, ad128.off + 2, none⟩ = some (.int .i64 (rd (rd_L1 l1 x21_2) 2)) ∧ w'.cell? (ad138.add ((rd (rd_L1 l1 x21_2) 2)).toNat) = some (.int .i64 (rd x6_2 (rd (rd_L1 l1 x21_2) 2)))) (ds := []) (mb 57 0) (by kernel_rfl) rfl rfl ⟨((HB.out.cell (World.block_lt_of_cell? w _ hw128_0)).trans hw128_0), ((HB.out.cell (World.block_lt_of_cell? w _ hw130_0)).trans hw130_0), ((HB.out.cell (World.block_lt_of_cell? w _ hw132_0)).trans hw132_0), ((HB.out.cell (World.block_lt_of_cell? w _ hw134_0)).trans hw134_0), ((HB.out.cell (World.block_lt_of_cell? w _ hw135_0)).trans hw135_0), ((HB.out.cell (World.block_lt_of_cell? w _ hw137_0)).trans hw137_0), hx138_0, ((HB.out.cell (World.block_lt_of_cell? w _ hw139_0)).trans hw139_0), hx140_0⟩ (fun hHeld => ?_); refine with_tabW spec_RowOfPairs.tab7 spec_RowOfPairs.bits7 (fun HT_ HW_ => ?_)
                         generalize wr.drew = w43 at HO_6 HB hx128_0 hx130_0 hx132_0 hx134_0 hx135_0 hx137_0 hx138_0 hx139_0 hx140_0 hHeld ⊢
                         refine pureV 0 25 57 1 HT_ ?_
                         refine pureV 1 26 57 3 HT_ ?_
                         refine pureV 2 27 57 7 HT_ ?_
                         refine pureV 3 28 57 15 HT_ ?_
                         refine pureV 4 29 57 31 HT_ ?_
                         refine pureV 5 30 57 63 HT_ ?_
                         refine takeV 6 31 57 127 HT_ HW_ hHeld rfl (by rintro w' ⟨s0, s1, s2, s3, s4, s5, s6, s7, s8⟩; go_simp; with_reducible rfl) ?_
                         refine one_ (i := 7) (N := some 32) (mb 57 255) rfl rfl (one_of HT_.out (by kernel_rfl)) (by decide) (fun K hK => ?_)
                         refine goes_ Try.func33 (by kernel_rfl) rfl #[.int .i64 (rd (rd_L1 l1 x21_2) 0)] (by rfl) rfl rfl (by (try simp only [List.map_toArray, List.map_cons, List.map_nil]); first | done | rfl | (simp only [List.length_drop, List.length_take]; rfl)) ?_
                         with_reducible refine (spec_roNumber.calls (rd (rd_L1 l1 x21_2) 0) true _ A16.out).mono ?_
                         rintro e w' ⟨rfl, ⟨nd, rfl⟩⟩
                         refine ⟨_, rfl, ?_⟩
                         obtain ⟨Ao44, co44, eo44⟩ := Kd.R_slice HO_6.out
                         (first | subst eo44 | (injection eo44 with f1_ f2_ f3_; have f4_ := f1_.symm; have f5_ := f3_.symm; clear f1_ f2_ f3_; subst f4_; subst f5_))
                         refine hK.out _ _ ⟨((HB.out.cell (World.block_lt_of_cell? w _ hw128_0)).trans hw128_0), ((HB.out.cell (World.block_lt_of_cell? w _ hw130_0)).trans hw130_0), ((HB.out.cell (World.block_lt_of_cell? w _ hw132_0)).trans hw132_0), ((HB.out.cell (World.block_lt_of_cell? w _ hw134_0)).trans hw134_0), ((HB.out.cell (World.block_lt_of_cell? w _ hw135_0)).trans hw135_0), ((HB.out.cell (World.block_lt_of_cell? w _ hw137_0)).trans hw137_0), hHeld.2.2.2.2.2.2.1, ((HB.out.cell (World.block_lt_of_cell? w _ hw139_0)).trans hw139_0), hHeld.2.2.2.2.2.2.2.2⟩ (fun hHeld => ?_)
                         clear hK K
                         refine norm_ (a' := ?_) ?_ ?_
                         rotate_left
                         ·show Act.put _ (some 32) _ = _
                          simp only [Act.put, List.setIfInBounds_toArray, List.set_cons_zero, List.set_cons_succ, i64_w, i32_w]
                          rfl
                         refine pureV 8 33 57 511 HT_ ?_
                         refine pureV 9 34 57 1023 HT_ ?_
                         refine pureV 10 35 57 2047 HT_ ?_
                         refine pureV 11 36 57 4095 HT_ ?_
                         refine pureV 12 37 57 8191 HT_ ?_
                         refine pureV 13 38 57 16383 HT_ ?_
                         refine takeV 14 39 57 32767 HT_ HW_ hHeld rfl (by rintro w' ⟨s0, s1, s2, s3, s4, s5, s6, s7, s8⟩; go_simp; with_reducible rfl) ?_
                         refine one_ (i := 15) (N := some 40) (mb 57 65535) rfl rfl (one_of HT_.out (by kernel_rfl)) (by decide) (fun K hK => ?_)
                         refine goes_ Try.func34 (by kernel_rfl) rfl #[.slice (some ad138) x6_2.length co44, .int .i64 (rd (rd_L1 l1 x21_2) 0)] (by rfl) rfl rfl (by (try simp only [List.map_toArray, List.map_cons, List.map_nil]); first | done | rfl | (simp only [List.length_drop, List.length_take]; rfl)) ?_
                         with_reducible refine (spec_l1Has.calls k2 _ _ x6_2 (rd (rd_L1 l1 x21_2) 0) false _ ?side1 ?side2 A18.out).mono ?_
                         (case side1 => repeat (first | exact (Kd.R_reads' HO_6.out).2.2 | (with_reducible refine Kd.C_alloc ?_ _) | (with_reducible refine Kd.C_drewN ?_ _) | (with_reducible refine Kd.C_drew ?_)))
                         (case side2 => exact (Kd.R_reads' HO_6.out).2.1)
                         rintro e w' ⟨rfl, ⟨nd, rfl⟩⟩
                         refine ⟨_, rfl, ?_⟩
                         refine hK.out _ _ ⟨((HB.out.cell (World.block_lt_of_cell? w _ hw128_0)).trans hw128_0), ((HB.out.cell (World.block_lt_of_cell? w _ hw130_0)).trans hw130_0), ((HB.out.cell (World.block_lt_of_cell? w _ hw132_0)).trans hw132_0), ((HB.out.cell (World.block_lt_of_cell? w _ hw134_0)).trans hw134_0), ((HB.out.cell (World.block_lt_of_cell? w _ hw135_0)).trans hw135_0), ((HB.out.cell (World.block_lt_of_cell? w _ hw137_0)).trans hw137_0), hHeld.2.2.2.2.2.2.1, ((HB.out.cell (World.block_lt_of_cell? w _ hw139_0)).trans hw139_0), hHeld.2.2.2.2.2.2.2.2⟩ (fun hHeld => ?_)
                         clear hK K
                         refine norm_ (a' := ?_) ?_ ?_
                         rotate_left
                         ·show Act.put _ (some 40) _ = _
                          simp only [Act.put, List.setIfInBounds_toArray, List.set_cons_zero, List.set_cons_succ, i64_w, i32_w]
                          rfl
                         refine pureV 16 41 57 131071 HT_ ?_
                         refine pureV 17 42 57 262143 HT_ ?_
                         refine pureV 18 43 57 524287 HT_ ?_
                         refine pureV 19 44 57 1048575 HT_ ?_
                         refine pureV 21 46 57 3145727 HT_ ?_
                         refine pureV 22 47 57 7340031 HT_ ?_
                         refine takeV 20 45 57 8388607 HT_ HW_ hHeld rfl (by rintro w' ⟨s0, s1, s2, s3, s4, s5, s6, s7, s8⟩; go_simp; with_reducible rfl) ?_
                         refine one_ (i := 23) (N := some 48) (mb 57 16777215) rfl rfl (one_of HT_.out (by kernel_rfl)) (by decide) (fun K hK => ?_)
                         refine goes_ Try.func32 (by kernel_rfl) rfl #[.int .i64 (rd (rd_L1 l1 x21_2) 1), .int .i64 0, .int .i64 (wrap64 (a0 - 1))] (by rfl) rfl rfl (by (try simp only [List.map_toArray, List.map_cons, List.map_nil]); first | done | rfl | (simp only [List.length_drop, List.length_take]; rfl)) ?_
                         with_reducible refine (spec_l1In.calls (rd (rd_L1 l1 x21_2) 1) 0 (wrap64 (a0 - 1)) true _ A23.out).mono ?_
                         rintro e w' ⟨rfl, ⟨nd, rfl⟩⟩
                         refine ⟨_, rfl, ?_⟩
                         refine hK.out _ _ ⟨((HB.out.cell (World.block_lt_of_cell? w _ hw128_0)).trans hw128_0), ((HB.out.cell (World.block_lt_of_cell? w _ hw130_0)).trans hw130_0), ((HB.out.cell (World.block_lt_of_cell? w _ hw132_0)).trans hw132_0), ((HB.out.cell (World.block_lt_of_cell? w _ hw134_0)).trans hw134_0), ((HB.out.cell (World.block_lt_of_cell? w _ hw135_0)).trans hw135_0), ((HB.out.cell (World.block_lt_of_cell? w _ hw137_0)).trans hw137_0), hHeld.2.2.2.2.2.2.1, ((HB.out.cell (World.block_lt_of_cell? w _ hw139_0)).trans hw139_0), hHeld.2.2.2.2.2.2.2.2⟩ (fun hHeld => ?_)
                         clear hK K
                         refine norm_ (a' := ?_) ?_ ?_
                         rotate_left
                         ·show Act.put _ (some 48) _ = _
                          simp only [Act.put, List.setIfInBounds_toArray, List.set_cons_zero, List.set_cons_succ, i64_w, i32_w]
                          rfl
                         refine pureV 24 49 57 33554431 HT_ ?_
                         refine pureV 25 50 57 67108863 HT_ ?_
                         refine pureV 26 51 57 134217727 HT_ ?_
                         refine pureV 27 52 57 268435455 HT_ ?_
                         refine pureV 28 53 57 536870911 HT_ ?_
                         refine pureV 30 55 57 1610612735 HT_ ?_
                         refine pureV 31 56 57 3758096383 HT_ ?_
                         refine pureV 34 59 57 20937965567 HT_ ?_
                         refine pureV 35 60 57 55297703935 HT_ ?_
                         refine takeV 29 54 57 55834574847 HT_ HW_ hHeld rfl (by rintro w' ⟨s0, s1, s2, s3, s4, s5, s6, s7, s8⟩; go_simp; with_reducible rfl) ?_
                         refine takeV 32 57 57 60129542143 HT_ HW_ hHeld rfl (by rintro w' ⟨s0, s1, s2, s3, s4, s5, s6, s7, s8⟩; go_simp; with_reducible rfl) ?_
                         refine pureV 33 58 57 68719476735 HT_ ?_
                         refine one_ (i := 36) (N := some 61) (mb 57 137438953471) rfl rfl (one_of HT_.out (by kernel_rfl)) (by decide) (fun K hK => ?_)
                         refine goes_ Try.func32 (by kernel_rfl) rfl #[.int .i64 (rd (rd_L1 l1 x21_2) 2), .int .i64 (wrap64 ((rd (rd_L1 l1 x21_2) 1) + 1)), .int .i64 (wrap64 (a0 - 1))] (by rfl) rfl rfl (by (try simp only [List.map_toArray, List.map_cons, List.map_nil]); first | done | rfl | (simp only [List.length_drop, List.length_take]; rfl)) ?_
                         with_reducible refine (spec_l1In.calls (rd (rd_L1 l1 x21_2) 2) (wrap64 ((rd (rd_L1 l1 x21_2) 1) + 1)) (wrap64 (a0 - 1)) true _ A26.out).mono ?_
                         rintro e w' ⟨rfl, ⟨nd, rfl⟩⟩
                         refine ⟨_, rfl, ?_⟩
                         refine hK.out _ _ ⟨((HB.out.cell (World.block_lt_of_cell? w _ hw128_0)).trans hw128_0), ((HB.out.cell (World.block_lt_of_cell? w _ hw130_0)).trans hw130_0), ((HB.out.cell (World.block_lt_of_cell? w _ hw132_0)).trans hw132_0), ((HB.out.cell (World.block_lt_of_cell? w _ hw134_0)).trans hw134_0), ((HB.out.cell (World.block_lt_of_cell? w _ hw135_0)).trans hw135_0), ((HB.out.cell (World.block_lt_of_cell? w _ hw137_0)).trans hw137_0), hHeld.2.2.2.2.2.2.1, ((HB.out.cell (World.block_lt_of_cell? w _ hw139_0)).trans hw139_0), hHeld.2.2.2.2.2.2.2.2⟩ (fun hHeld => ?_)
                         clear hK K
                         refine norm_ (a' := ?_) ?_ ?_
                         rotate_left
                         ·show Act.put _ (some 61) _ = _
                          simp only [Act.put, List.setIfInBounds_toArray, List.set_cons_zero, List.set_cons_succ, i64_w, i32_w]
                          rfl
                         refine pureV 37 62 57 274877906943 HT_ ?_
                         refine pureV 38 63 57 549755813887 HT_ ?_
                         refine pureV 39 64 57 1099511627775 HT_ ?_
                         refine pureV 40 65 57 2199023255551 HT_ ?_
                         refine pureV 41 66 57 4398046511103 HT_ ?_
                         refine pureV 42 67 57 8796093022207 HT_ ?_
                         refine takeV 43 68 57 17592186044415 HT_ HW_ hHeld rfl (by rintro w' ⟨s0, s1, s2, s3, s4, s5, s6, s7, s8⟩; go_simp; with_reducible rfl) ?_
                         refine pureV 44 69 57 35184372088831 HT_ ?_
                         refine takeV 45 70 57 70368744177663 HT_ HW_ hHeld rfl (by rintro w' ⟨s0, s1, s2, s3, s4, s5, s6, s7, s8⟩; go_simp; with_reducible rfl) ?_
                         refine pureV 46 71 57 140737488355327 HT_ ?_
                         refine pureV 47 72 57 281474976710655 HT_ ?_
                         refine pureV 48 73 57 562949953421311 HT_ ?_
                         refine pureV 49 74 57 1125899906842623 HT_ ?_
                         refine pureV 50 75 57 2251799813685247 HT_ ?_
                         refine pureV 51 76 57 4503599627370495 HT_ ?_
                         refine takeV 52 77 57 9007199254740991 HT_ HW_ hHeld rfl (by rintro w' ⟨s0, s1, s2, s3, s4, s5, s6, s7, s8⟩; go_simp; with_reducible rfl) ?_
                         refine pureV 53 78 57 18014398509481983 HT_ ?_
                         refine takeV 54 79 57 36028797018963967 HT_ HW_ hHeld rfl (by rintro w' ⟨s0, s1, s2, s3, s4, s5, s6, s7, s8⟩; go_simp; with_reducible rfl) ?_
                         refine pureV 55 80 57 72057594037927935 HT_ ?_
                         refine pureV 56 81 57 144115188075855871 HT_ ?_
                         refine done_ (done_of HT_.out (by kernel_rfl)) ?_
                         try go_wp2
                         go_ret2
                         exact ⟨_, by first | rfl | (simp [errW_none, errW_some] <;> rfl) | (simp [*, errW_none, errW_some] <;> rfl), by first | exact Kd.R_nil _ _ _ _ _ | exact Kd.N_nil _ _ _ _ _ | exact Kd.V_nil _ _ _ _ _ | exact Kd.Q_nil _ _ _ _ _ | exact Kd.S_nil _ _ _ _ _, by repeat (first | (with_reducible first | exact HB.out | apply below_alloc | apply pw_below_drewN | apply below_drew1) | exact HB.out)⟩
                       ·rw [if_neg c32] at H
                        exact absurd H (by simp)
                      ·rw [if_neg c31] at H
                       exact absurd H (by simp)
                     ·rw [if_neg c30] at H
                      have c30b0 : ((rd x6_2 (rd (rd_L1 l1 x21_2) 1)) == 0) = false := beq_eq_false_iff_ne.mpr c30
                      have c30b1 : ((rd x6_2 (rd (rd_L1 l1 x21_2) 1)) != 0) = true := bne_iff_ne.mpr c30
                      simp only [Option.some.injEq, Prod.mk.injEq] at H
                      obtain ⟨rfl, rfl⟩ := H
                      have p127 : 0 ≤ (x21_2 : Int) := of_decide_eq_true (by first | (with_reducible assumption) | assumption)
                      have q127 : x21_2 < (l1.length : Int) := of_decide_eq_true (by first | (with_reducible assumption) | assumption)
                      obtain ⟨ad127, A127_0, c127_0, e127, hx127_0, hl127_0, hi127_0⟩ := at_L1 HR1.out x21_2 p127 q127
                      cases e127
                      replace hx127_0 := (HB.out.cell (World.block_lt_of_cell? w _ hx127_0)).trans hx127_0
                      have HR127_0 := Aside0.mk hi127_0
                      have HC127_0 := Aside0.mk hl127_0
                      clear hi127_0 hl127_0
                      replace p127 := eq_true p127
                      replace q127 := eq_true q127
                      try go_wp2
                      have n0_ := Aside0.mk (Kd.R_drew HO_6.out)
                      have n1_ := Aside0.mk (below_drew1 HB.out)
                      clear HO_6
                      clear HB
                      have HO_6 := n0_
                      have HB := n1_
                      clear n0_ n1_
                      have p128 : 0 ≤ (0 : Int) := (by omega)
                      have q128 : 0 < ((rd_L1 l1 x21_2).length : Int) := of_decide_eq_true (by first | (with_reducible assumption) | assumption)
                      obtain ⟨ad128, e128, hx128_0⟩ := Kd.at_int HR127_0.out 0 p128 q128
                      have hw128_0 := hx128_0
                      (try rw [show ((0 : Int)).toNat = 0 from rfl] at hw128_0)
                      (try rw [show 0 * 1 = 0 from rfl] at hw128_0)
                      (try rw [Addr.add_zero'] at hw128_0)
                      cases e128
                      have qi128 : (0 < (rd_L1 l1 x21_2).length) = True := eq_true (by omega)
                      (try rw [show ((0 : Int)).toNat = 0 from rfl] at hx128_0)
                      (try rw [Addr.add_zero'] at hx128_0)
                      replace hx128_0 := (HB.out.cell (World.block_lt_of_cell? w _ hx128_0)).trans hx128_0
                      replace p128 := eq_true p128
                      replace q128 := eq_true q128
                      have p130 : 0 ≤ (0 : Int) := (by omega)
                      have q130 : 0 < ((rd_L1 l1 x21_2).length : Int) := of_decide_eq_true (by first | (with_reducible assumption) | assumption)
                      obtain ⟨ad130, e130, hx130_0⟩ := Kd.at_int HR127_0.out 0 p130 q130
                      have hw130_0 := hx130_0
                      (try rw [show ((0 : Int)).toNat = 0 from rfl] at hw130_0)
                      (try rw [show 0 * 1 = 0 from rfl] at hw130_0)
                      (try rw [Addr.add_zero'] at hw130_0)
                      obtain rfl : ad128 = ad130 := (by injection e130)
                      have qi130 : (0 < (rd_L1 l1 x21_2).length) = True := eq_true (by omega)
                      (try rw [show ((0 : Int)).toNat = 0 from rfl] at hx130_0)
                      (try rw [Addr.add_zero'] at hx130_0)
                      replace hx130_0 := (HB.out.cell (World.block_lt_of_cell? w _ hx130_0)).trans hx130_0
                      replace p130 := eq_true p130
                      replace q130 := eq_true q130
                      have p132 : 0 ≤ (1 : Int) := (by omega)
                      have q132 : 1 < ((rd_L1 l1 x21_2).length : Int) := of_decide_eq_true (by first | (with_reducible assumption) | assumption)
                      obtain ⟨ad132, e132, hx132_0⟩ := Kd.at_int HR127_0.out 1 p132 q132
                      have hw132_0 := hx132_0
                      (try rw [show ((1 : Int)).toNat = 1 from rfl] at hw132_0)
                      (try rw [show 1 * 1 = 1 from rfl] at hw132_0)
                      (try simp only [Nat.reduceMul, Nat.reduceEqDiff, Go.Addr.add, ↓reduceIte] at hw132_0)
                      obtain rfl : ad128 = ad132 := (by injection e132)
                      (try simp only [show (1 : Int).toNat = 1 from rfl, Nat.reduceMul, Nat.reduceEqDiff, Go.Addr.add, ↓reduceIte] at hx132_0)
                      have qi132 : (1 < (rd_L1 l1 x21_2).length) = True := eq_true (by omega)
                      (try rw [show ((1 : Int)).toNat = 1 from rfl] at hx132_0)
                      replace hx132_0 := (HB.out.cell (World.block_lt_of_cell? w _ hx132_0)).trans hx132_0
                      replace p132 := eq_true p132
                      replace q132 := eq_true q132
                      have p134 : 0 ≤ (2 : Int) := (by omega)
                      have q134 : 2 < ((rd_L1 l1 x21_2).length : Int) := of_decide_eq_true (by first | (with_reducible assumption) | assumption)
                      obtain ⟨ad134, e134, hx134_0⟩ := Kd.at_int HR127_0.out 2 p134 q134
                      have hw134_0 := hx134_0
                      (try rw [show ((2 : Int)).toNat = 2 from rfl] at hw134_0)
                      (try rw [show 2 * 1 = 2 from rfl] at hw134_0)
                      (try simp only [Nat.reduceMul, Nat.reduceEqDiff, Go.Addr.add, ↓reduceIte] at hw134_0)
                      obtain rfl : ad128 = ad134 := (by injection e134)
                      (try simp only [show (2 : Int).toNat = 2 from rfl, Nat.reduceMul, Nat.reduceEqDiff, Go.Addr.add, ↓reduceIte] at hx134_0)
                      have qi134 : (2 < (rd_L1 l1 x21_2).length) = True := eq_true (by omega)
                      (try rw [show ((2 : Int)).toNat = 2 from rfl] at hx134_0)
                      replace hx134_0 := (HB.out.cell (World.block_lt_of_cell? w _ hx134_0)).trans hx134_0
                      replace p134 := eq_true p134
                      replace q134 := eq_true q134
                      have p135 : 0 ≤ (1 : Int) := (by omega)
                      have q135 : 1 < ((rd_L1 l1 x21_2).length : Int) := of_decide_eq_true (by first | (with_reducible assumption) | assumption)
                      obtain ⟨ad135, e135, hx135_0⟩ := Kd.at_int HR127_0.out 1 p135 q135
                      have hw135_0 := hx135_0
                      (try rw [show ((1 : Int)).toNat = 1 from rfl] at hw135_0)
                      (try rw [show 1 * 1 = 1 from rfl] at hw135_0)
                      (try simp only [Nat.reduceMul, Nat.reduceEqDiff, Go.Addr.add, ↓reduceIte] at hw135_0)
                      obtain rfl : ad128 = ad135 := (by injection e135)
                      (try simp only [show (1 : Int).toNat = 1 from rfl, Nat.reduceMul, Nat.reduceEqDiff, Go.Addr.add, ↓reduceIte] at hx135_0)
                      have qi135 : (1 < (rd_L1 l1 x21_2).length) = True := eq_true (by omega)
                      (try rw [show ((1 : Int)).toNat = 1 from rfl] at hx135_0)
                      replace hx135_0 := (HB.out.cell (World.block_lt_of_cell? w _ hx135_0)).trans hx135_0
                      replace p135 := eq_true p135
                      replace q135 := eq_true q135
                      have p137 : 0 ≤ (1 : Int) := (by omega)
                      have q137 : 1 < ((rd_L1 l1 x21_2).length : Int) := of_decide_eq_true (by first | (with_reducible assumption) | assumption)
                      obtain ⟨ad137, e137, hx137_0⟩ := Kd.at_int HR127_0.out 1 p137 q137
                      have hw137_0 := hx137_0
                      (try rw [show ((1 : Int)).toNat = 1 from rfl] at hw137_0)
                      (try rw [show 1 * 1 = 1 from rfl] at hw137_0)
                      (try simp only [Nat.reduceMul, Nat.reduceEqDiff, Go.Addr.add, ↓reduceIte] at hw137_0)
                      obtain rfl : ad128 = ad137 := (by injection e137)
                      (try simp only [show (1 : Int).toNat = 1 from rfl, Nat.reduceMul, Nat.reduceEqDiff, Go.Addr.add, ↓reduceIte] at hx137_0)
                      have qi137 : (1 < (rd_L1 l1 x21_2).length) = True := eq_true (by omega)
                      (try rw [show ((1 : Int)).toNat = 1 from rfl] at hx137_0)
                      replace hx137_0 := (HB.out.cell (World.block_lt_of_cell? w _ hx137_0)).trans hx137_0
                      replace p137 := eq_true p137
                      replace q137 := eq_true q137
                      have p138 : 0 ≤ ((rd (rd_L1 l1 x21_2) 1) : Int) := of_decide_eq_true (by first | (with_reducible assumption) | assumption)
                      have q138 : (rd (rd_L1 l1 x21_2) 1) < (x6_2.length : Int) := of_decide_eq_true (by first | (with_reducible assumption) | assumption)
                      (try (obtain ⟨Aq_, cq_, eq_⟩ := Kd.R_slice HO_6.out; subst eq_))
                      obtain ⟨ad138, e138, hx138_0⟩ := Kd.at_int (Kd.R_reads' HO_6.out).2.2 (rd (rd_L1 l1 x21_2) 1) p138 q138
                      cases e138
                      replace p138 := eq_true p138
                      replace q138 := eq_true q138
                      refine start_ (n := 57) (S := fun w' => w'.cell? ad128 = some (.int .i64 (rd (rd_L1 l1 x21_2) 0)) ∧ w'.cell? ad128 = some (.int .i64 (rd (rd_L1 l1 x21_2) 0)) ∧ w'.cell? ⟨ad128.block, ad128.off + 1, none⟩ = some (.int .i64 (rd (rd_L1 l1 x21_2) 1)) ∧ w'.cell? ⟨ad128.block, ad128.off + 2, none⟩ = some (.int .i64 (rd (rd_L1 l1 x21_2) 2)) ∧ w'.cell? ⟨ad128.block, ad128.off + 1, none⟩ = some (.int .i64 (rd (rd_L1 l1 x21_2) 1)) ∧ w'.cell? ⟨ad128.block, ad128.off + 1, none⟩ = some (.int .i64 (rd (rd_L1 l1 x21_2) 1)) ∧ w'.cell? (ad138.add ((rd (rd_L1 l1 x21_2) 1)).toNat) = some (.int .i64 (rd x6_2 (rd (rd_L1 l1 x21_2) 1)))) (ds := []) (mb 57 0) (by kernel_rfl) rfl rfl ⟨((HB.out.cell (World.block_lt_of_cell? w _ hw128_0)).trans hw128_0), ((HB.out.cell (World.block_lt_of_cell? w _ hw130_0)).trans hw130_0), ((HB.out.cell (World.block_lt_of_cell? w _ hw132_0)).trans hw132_0), ((HB.out.cell (World.block_lt_of_cell? w _ hw134_0)).trans hw134_0), ((HB.out.cell (World.block_lt_of_cell? w _ hw135_0)).trans hw135_0), ((HB.out.cell (World.block_lt_of_cell? w _ hw137_0)).trans hw137_0), hx138_0⟩ (fun hHeld => ?_); refine with_tabW spec_RowOfPairs.tab7 spec_RowOfPairs.bits7 (fun HT_ HW_ => ?_)
                      generalize wr.drew = w45 at HO_6 HB hx128_0 hx130_0 hx132_0 hx134_0 hx135_0 hx137_0 hx138_0 hHeld ⊢
                      refine pureV 0 25 57 1 HT_ ?_
                      refine pureV 1 26 57 3 HT_ ?_
                      refine pureV 2 27 57 7 HT_ ?_
                      refine pureV 3 28 57 15 HT_ ?_
                      refine pureV 4 29 57 31 HT_ ?_
                      refine pureV 5 30 57 63 HT_ ?_
                      refine takeV 6 31 57 127 HT_ HW_ hHeld rfl (by rintro w' ⟨s0, s1, s2, s3, s4, s5, s6⟩; go_simp; with_reducible rfl) ?_
                      refine one_ (i := 7) (N := some 32) (mb 57 255) rfl rfl (one_of HT_.out (by kernel_rfl)) (by decide) (fun K hK => ?_)
                      refine goes_ Try.func33 (by kernel_rfl) rfl #[.int .i64 (rd (rd_L1 l1 x21_2) 0)] (by rfl) rfl rfl (by (try simp only [List.map_toArray, List.map_cons, List.map_nil]); first | done | rfl | (simp only [List.length_drop, List.length_take]; rfl)) ?_
                      with_reducible refine (spec_roNumber.calls (rd (rd_L1 l1 x21_2) 0) true _ A16.out).mono ?_
                      rintro e w' ⟨rfl, ⟨nd, rfl⟩⟩
                      refine ⟨_, rfl, ?_⟩
                      obtain ⟨Ao46, co46, eo46⟩ := Kd.R_slice HO_6.out
                      (first | subst eo46 | (injection eo46 with f1_ f2_ f3_; have f4_ := f1_.symm; have f5_ := f3_.symm; clear f1_ f2_ f3_; subst f4_; subst f5_))
                      refine hK.out _ _ ⟨((HB.out.cell (World.block_lt_of_cell? w _ hw128_0)).trans hw128_0), ((HB.out.cell (World.block_lt_of_cell? w _ hw130_0)).trans hw130_0), ((HB.out.cell (World.block_lt_of_cell? w _ hw132_0)).trans hw132_0), ((HB.out.cell (World.block_lt_of_cell? w _ hw134_0)).trans hw134_0), ((HB.out.cell (World.block_lt_of_cell? w _ hw135_0)).trans hw135_0), ((HB.out.cell (World.block_lt_of_cell? w _ hw137_0)).trans hw137_0), hHeld.2.2.2.2.2.2⟩ (fun hHeld => ?_)
                      clear hK K
                      refine norm_ (a' := ?_) ?_ ?_
                      rotate_left
                      ·show Act.put _ (some 32) _ = _
                       simp only [Act.put, List.setIfInBounds_toArray, List.set_cons_zero, List.set_cons_succ, i64_w, i32_w]
                       rfl
                      refine pureV 8 33 57 511 HT_ ?_
                      refine pureV 9 34 57 1023 HT_ ?_
                      refine pureV 10 35 57 2047 HT_ ?_
                      refine pureV 11 36 57 4095 HT_ ?_
                      refine pureV 12 37 57 8191 HT_ ?_
                      refine pureV 13 38 57 16383 HT_ ?_
                      refine takeV 14 39 57 32767 HT_ HW_ hHeld rfl (by rintro w' ⟨s0, s1, s2, s3, s4, s5, s6⟩; go_simp; with_reducible rfl) ?_
                      refine one_ (i := 15) (N := some 40) (mb 57 65535) rfl rfl (one_of HT_.out (by kernel_rfl)) (by decide) (fun K hK => ?_)
                      refine goes_ Try.func34 (by kernel_rfl) rfl #[.slice (some ad138) x6_2.length co46, .int .i64 (rd (rd_L1 l1 x21_2) 0)] (by rfl) rfl rfl (by (try simp only [List.map_toArray, List.map_cons, List.map_nil]); first | done | rfl | (simp only [List.length_drop, List.length_take]; rfl)) ?_
                      with_reducible refine (spec_l1Has.calls k2 _ _ x6_2 (rd (rd_L1 l1 x21_2) 0) false _ ?side1 ?side2 A18.out).mono ?_
                      (case side1 => repeat (first | exact (Kd.R_reads' HO_6.out).2.2 | (with_reducible refine Kd.C_alloc ?_ _) | (with_reducible refine Kd.C_drewN ?_ _) | (with_reducible refine Kd.C_drew ?_)))
                      (case side2 => exact (Kd.R_reads' HO_6.out).2.1)
                      rintro e w' ⟨rfl, ⟨nd, rfl⟩⟩
                      refine ⟨_, rfl, ?_⟩
                      refine hK.out _ _ ⟨((HB.out.cell (World.block_lt_of_cell? w _ hw128_0)).trans hw128_0), ((HB.out.cell (World.block_lt_of_cell? w _ hw130_0)).trans hw130_0), ((HB.out.cell (World.block_lt_of_cell? w _ hw132_0)).trans hw132_0), ((HB.out.cell (World.block_lt_of_cell? w _ hw134_0)).trans hw134_0), ((HB.out.cell (World.block_lt_of_cell? w _ hw135_0)).trans hw135_0), ((HB.out.cell (World.block_lt_of_cell? w _ hw137_0)).trans hw137_0), hHeld.2.2.2.2.2.2⟩ (fun hHeld => ?_)
                      clear hK K
                      refine norm_ (a' := ?_) ?_ ?_
                      rotate_left
                      ·show Act.put _ (some 40) _ = _
                       simp only [Act.put, List.setIfInBounds_toArray, List.set_cons_zero, List.set_cons_succ, i64_w, i32_w]
                       rfl
                      refine pureV 16 41 57 131071 HT_ ?_
                      refine pureV 17 42 57 262143 HT_ ?_
                      refine pureV 18 43 57 524287 HT_ ?_
                      refine pureV 19 44 57 1048575 HT_ ?_
                      refine pureV 21 46 57 3145727 HT_ ?_
                      refine pureV 22 47 57 7340031 HT_ ?_
                      refine takeV 20 45 57 8388607 HT_ HW_ hHeld rfl (by rintro w' ⟨s0, s1, s2, s3, s4, s5, s6⟩; go_simp; with_reducible rfl) ?_
                      refine one_ (i := 23) (N := some 48) (mb 57 16777215) rfl rfl (one_of HT_.out (by kernel_rfl)) (by decide) (fun K hK => ?_)
                      refine goes_ Try.func32 (by kernel_rfl) rfl #[.int .i64 (rd (rd_L1 l1 x21_2) 1), .int .i64 0, .int .i64 (wrap64 (a0 - 1))] (by rfl) rfl rfl (by (try simp only [List.map_toArray, List.map_cons, List.map_nil]); first | done | rfl | (simp only [List.length_drop, List.length_take]; rfl)) ?_
                      with_reducible refine (spec_l1In.calls (rd (rd_L1 l1 x21_2) 1) 0 (wrap64 (a0 - 1)) true _ A23.out).mono ?_
                      rintro e w' ⟨rfl, ⟨nd, rfl⟩⟩
                      refine ⟨_, rfl, ?_⟩
                      refine hK.out _ _ ⟨((HB.out.cell (World.block_lt_of_cell? w _ hw128_0)).trans hw128_0), ((HB.out.cell (World.block_lt_of_cell? w _ hw130_0)).trans hw130_0), ((HB.out.cell (World.block_lt_of_cell? w _ hw132_0)).trans hw132_0), ((HB.out.cell (World.block_lt_of_cell? w _ hw134_0)).trans hw134_0), ((HB.out.cell (World.block_lt_of_cell? w _ hw135_0)).trans hw135_0), ((HB.out.cell (World.block_lt_of_cell? w _ hw137_0)).trans hw137_0), hHeld.2.2.2.2.2.2⟩ (fun hHeld => ?_)
                      clear hK K
                      refine norm_ (a' := ?_) ?_ ?_
                      rotate_left
                      ·show Act.put _ (some 48) _ = _
                       simp only [Act.put, List.setIfInBounds_toArray, List.set_cons_zero, List.set_cons_succ, i64_w, i32_w]
                       rfl
                      refine pureV 24 49 57 33554431 HT_ ?_
                      refine pureV 25 50 57 67108863 HT_ ?_
                      refine pureV 26 51 57 134217727 HT_ ?_
                      refine pureV 27 52 57 268435455 HT_ ?_
                      refine pureV 28 53 57 536870911 HT_ ?_
                      refine pureV 30 55 57 1610612735 HT_ ?_
                      refine pureV 31 56 57 3758096383 HT_ ?_
                      refine pureV 34 59 57 20937965567 HT_ ?_
                      refine pureV 35 60 57 55297703935 HT_ ?_
                      refine takeV 29 54 57 55834574847 HT_ HW_ hHeld rfl (by rintro w' ⟨s0, s1, s2, s3, s4, s5, s6⟩; go_simp; with_reducible rfl) ?_
                      refine takeV 32 57 57 60129542143 HT_ HW_ hHeld rfl (by rintro w' ⟨s0, s1, s2, s3, s4, s5, s6⟩; go_simp; with_reducible rfl) ?_
                      refine pureV 33 58 57 68719476735 HT_ ?_
                      refine one_ (i := 36) (N := some 61) (mb 57 137438953471) rfl rfl (one_of HT_.out (by kernel_rfl)) (by decide) (fun K hK => ?_)
                      refine goes_ Try.func32 (by kernel_rfl) rfl #[.int .i64 (rd (rd_L1 l1 x21_2) 2), .int .i64 (wrap64 ((rd (rd_L1 l1 x21_2) 1) + 1)), .int .i64 (wrap64 (a0 - 1))] (by rfl) rfl rfl (by (try simp only [List.map_toArray, List.map_cons, List.map_nil]); first | done | rfl | (simp only [List.length_drop, List.length_take]; rfl)) ?_
                      with_reducible refine (spec_l1In.calls (rd (rd_L1 l1 x21_2) 2) (wrap64 ((rd (rd_L1 l1 x21_2) 1) + 1)) (wrap64 (a0 - 1)) true _ A26.out).mono ?_
                      rintro e w' ⟨rfl, ⟨nd, rfl⟩⟩
                      refine ⟨_, rfl, ?_⟩
                      refine hK.out _ _ ⟨((HB.out.cell (World.block_lt_of_cell? w _ hw128_0)).trans hw128_0), ((HB.out.cell (World.block_lt_of_cell? w _ hw130_0)).trans hw130_0), ((HB.out.cell (World.block_lt_of_cell? w _ hw132_0)).trans hw132_0), ((HB.out.cell (World.block_lt_of_cell? w _ hw134_0)).trans hw134_0), ((HB.out.cell (World.block_lt_of_cell? w _ hw135_0)).trans hw135_0), ((HB.out.cell (World.block_lt_of_cell? w _ hw137_0)).trans hw137_0), hHeld.2.2.2.2.2.2⟩ (fun hHeld => ?_)
                      clear hK K
                      refine norm_ (a' := ?_) ?_ ?_
                      rotate_left
                      ·show Act.put _ (some 61) _ = _
                       simp only [Act.put, List.setIfInBounds_toArray, List.set_cons_zero, List.set_cons_succ, i64_w, i32_w]
                       rfl
                      refine pureV 37 62 57 274877906943 HT_ ?_
                      refine pureV 38 63 57 549755813887 HT_ ?_
                      refine pureV 39 64 57 1099511627775 HT_ ?_
                      refine pureV 40 65 57 2199023255551 HT_ ?_
                      refine pureV 41 66 57 4398046511103 HT_ ?_
                      refine pureV 42 67 57 8796093022207 HT_ ?_
                      refine takeV 43 68 57 17592186044415 HT_ HW_ hHeld rfl (by rintro w' ⟨s0, s1, s2, s3, s4, s5, s6⟩; go_simp; with_reducible rfl) ?_
                      refine pureV 44 69 57 35184372088831 HT_ ?_
                      refine takeV 45 70 57 70368744177663 HT_ HW_ hHeld rfl (by rintro w' ⟨s0, s1, s2, s3, s4, s5, s6⟩; go_simp; with_reducible rfl) ?_
                      refine pureV 46 71 57 140737488355327 HT_ ?_
                      refine pureV 47 72 57 281474976710655 HT_ ?_
                      refine pureV 48 73 57 562949953421311 HT_ ?_
                      refine pureU 49 74 57 1125899906842623 HT_ ?_
                      refine pureU 50 75 57 2251799813685247 HT_ ?_
                      refine pureU 51 76 57 4503599627370495 HT_ ?_
                      refine pureU 52 77 57 9007199254740991 HT_ ?_
                      refine pureU 53 78 57 18014398509481983 HT_ ?_
                      refine pureU 54 79 57 36028797018963967 HT_ ?_
                      refine pureU 55 80 57 72057594037927935 HT_ ?_
                      refine pureV 56 81 57 144115188075855871 HT_ ?_
                      refine done_ (done_of HT_.out (by kernel_rfl)) ?_
                      try go_wp2
                      go_ret2
                      exact ⟨_, by first | rfl | (simp [errW_none, errW_some] <;> rfl) | (simp [*, errW_none, errW_some] <;> rfl), by first | exact Kd.R_nil _ _ _ _ _ | exact Kd.N_nil _ _ _ _ _ | exact Kd.V_nil _ _ _ _ _ | exact Kd.Q_nil _ _ _ _ _ | exact Kd.S_nil _ _ _ _ _, by repeat (first | (with_reducible first | exact HB.out | apply below_alloc | apply pw_below_drewN | apply below_drew1) | exact HB.out)⟩
                    ·rw [if_neg c29] at H
                     exact absurd H (by simp)
                   ·rw [if_neg c28] at H
                    exact absurd H (by simp)
                  ·replace c27 := Bool.eq_false_iff.mpr c27
                   subst c27
                   have H1 : (some (([] : List Int), false)) = some (r1, r2) := by rw [if_neg (show ¬ (false = true) by decide)] at H; exact H
                   clear H
                   have H := H1
                   clear H1
                   simp only [Option.some.injEq, Prod.mk.injEq] at H
                   obtain ⟨rfl, rfl⟩ := H
                   have p127 : 0 ≤ (x21_2 : Int) := of_decide_eq_true (by first | (with_reducible assumption) | assumption)
                   have q127 : x21_2 < (l1.length : Int) := of_decide_eq_true (by first | (with_reducible assumption) | assumption)
                   obtain ⟨ad127, A127_0, c127_0, e127, hx127_0, hl127_0, hi127_0⟩ := at_L1 HR1.out x21_2 p127 q127
                   cases e127
                   replace hx127_0 := (HB.out.cell (World.block_lt_of_cell? w _ hx127_0)).trans hx127_0
                   have HR127_0 := Aside0.mk hi127_0
                   have HC127_0 := Aside0.mk hl127_0
                   clear hi127_0 hl127_0
                   replace p127 := eq_true p127
                   replace q127 := eq_true q127
                   try go_wp2
                   have n0_ := Aside0.mk (Kd.R_drew HO_6.out)
                   have n1_ := Aside0.mk (below_drew1 HB.out)
                   clear HO_6
                   clear HB
                   have HO_6 := n0_
                   have HB := n1_
                   clear n0_ n1_
                   have p128 : 0 ≤ (0 : Int) := (by omega)
                   have q128 : 0 < ((rd_L1 l1 x21_2).length : Int) := of_decide_eq_true (by first | (with_reducible assumption) | assumption)
                   obtain ⟨ad128, e128, hx128_0⟩ := Kd.at_int HR127_0.out 0 p128 q128
                   have hw128_0 := hx128_0
                   (try rw [show ((0 : Int)).toNat = 0 from rfl] at hw128_0)
                   (try rw [show 0 * 1 = 0 from rfl] at hw128_0)
                   (try rw [Addr.add_zero'] at hw128_0)
                   cases e128
                   have qi128 : (0 < (rd_L1 l1 x21_2).length) = True := eq_true (by omega)
                   (try rw [show ((0 : Int)).toNat = 0 from rfl] at hx128_0)
                   (try rw [Addr.add_zero'] at hx128_0)
                   replace hx128_0 := (HB.out.cell (World.block_lt_of_cell? w _ hx128_0)).trans hx128_0
                   replace p128 := eq_true p128
                   replace q128 := eq_true q128
                   have p130 : 0 ≤ (0 : Int) := (by omega)
                   have q130 : 0 < ((rd_L1 l1 x21_2).length : Int) := of_decide_eq_true (by first | (with_reducible assumption) | assumption)
                   obtain ⟨ad130, e130, hx130_0⟩ := Kd.at_int HR127_0.out 0 p130 q130
                   have hw130_0 := hx130_0
                   (try rw [show ((0 : Int)).toNat = 0 from rfl] at hw130_0)
                   (try rw [show 0 * 1 = 0 from rfl] at hw130_0)
                   (try rw [Addr.add_zero'] at hw130_0)
                   obtain rfl : ad128 = ad130 := (by injection e130)
                   have qi130 : (0 < (rd_L1 l1 x21_2).length) = True := eq_true (by omega)
                   (try rw [show ((0 : Int)).toNat = 0 from rfl] at hx130_0)
                   (try rw [Addr.add_zero'] at hx130_0)
                   replace hx130_0 := (HB.out.cell (World.block_lt_of_cell? w _ hx130_0)).trans hx130_0
                   replace p130 := eq_true p130
                   replace q130 := eq_true q130
                   have p132 : 0 ≤ (1 : Int) := (by omega)
                   have q132 : 1 < ((rd_L1 l1 x21_2).length : Int) := of_decide_eq_true (by first | (with_reducible assumption) | assumption)
                   obtain ⟨ad132, e132, hx132_0⟩ := Kd.at_int HR127_0.out 1 p132 q132
                   have hw132_0 := hx132_0
                   (try rw [show ((1 : Int)).toNat = 1 from rfl] at hw132_0)
                   (try rw [show 1 * 1 = 1 from rfl] at hw132_0)
                   (try simp only [Nat.reduceMul, Nat.reduceEqDiff, Go.Addr.add, ↓reduceIte] at hw132_0)
                   obtain rfl : ad128 = ad132 := (by injection e132)
                   (try simp only [show (1 : Int).toNat = 1 from rfl, Nat.reduceMul, Nat.reduceEqDiff, Go.Addr.add, ↓reduceIte] at hx132_0)
                   have qi132 : (1 < (rd_L1 l1 x21_2).length) = True := eq_true (by omega)
                   (try rw [show ((1 : Int)).toNat = 1 from rfl] at hx132_0)
                   replace hx132_0 := (HB.out.cell (World.block_lt_of_cell? w _ hx132_0)).trans hx132_0
                   replace p132 := eq_true p132
                   replace q132 := eq_true q132
                   have p134 : 0 ≤ (2 : Int) := (by omega)
                   have q134 : 2 < ((rd_L1 l1 x21_2).length : Int) := of_decide_eq_true (by first | (with_reducible assumption) | assumption)
                   obtain ⟨ad134, e134, hx134_0⟩ := Kd.at_int HR127_0.out 2 p134 q134
                   have hw134_0 := hx134_0
                   (try rw [show ((2 : Int)).toNat = 2 from rfl] at hw134_0)
                   (try rw [show 2 * 1 = 2 from rfl] at hw134_0)
                   (try simp only [Nat.reduceMul, Nat.reduceEqDiff, Go.Addr.add, ↓reduceIte] at hw134_0)
                   obtain rfl : ad128 = ad134 := (by injection e134)
                   (try simp only [show (2 : Int).toNat = 2 from rfl, Nat.reduceMul, Nat.reduceEqDiff, Go.Addr.add, ↓reduceIte] at hx134_0)
                   have qi134 : (2 < (rd_L1 l1 x21_2).length) = True := eq_true (by omega)
                   (try rw [show ((2 : Int)).toNat = 2 from rfl] at hx134_0)
                   replace hx134_0 := (HB.out.cell (World.block_lt_of_cell? w _ hx134_0)).trans hx134_0
                   replace p134 := eq_true p134
                   replace q134 := eq_true q134
                   have p135 : 0 ≤ (1 : Int) := (by omega)
                   have q135 : 1 < ((rd_L1 l1 x21_2).length : Int) := of_decide_eq_true (by first | (with_reducible assumption) | assumption)
                   obtain ⟨ad135, e135, hx135_0⟩ := Kd.at_int HR127_0.out 1 p135 q135
                   have hw135_0 := hx135_0
                   (try rw [show ((1 : Int)).toNat = 1 from rfl] at hw135_0)
                   (try rw [show 1 * 1 = 1 from rfl] at hw135_0)
                   (try simp only [Nat.reduceMul, Nat.reduceEqDiff, Go.Addr.add, ↓reduceIte] at hw135_0)
                   obtain rfl : ad128 = ad135 := (by injection e135)
                   (try simp only [show (1 : Int).toNat = 1 from rfl, Nat.reduceMul, Nat.reduceEqDiff, Go.Addr.add, ↓reduceIte] at hx135_0)
                   have qi135 : (1 < (rd_L1 l1 x21_2).length) = True := eq_true (by omega)
                   (try rw [show ((1 : Int)).toNat = 1 from rfl] at hx135_0)
                   replace hx135_0 := (HB.out.cell (World.block_lt_of_cell? w _ hx135_0)).trans hx135_0
                   replace p135 := eq_true p135
                   replace q135 := eq_true q135
                   refine start_ (n := 57) (S := fun w' => w'.cell? ad128 = some (.int .i64 (rd (rd_L1 l1 x21_2) 0)) ∧ w'.cell? ad128 = some (.int .i64 (rd (rd_L1 l1 x21_2) 0)) ∧ w'.cell? ⟨ad128.block, ad128.off + 1, none⟩ = some (.int .i64 (rd (rd_L1 l1 x21_2) 1)) ∧ w'.cell? ⟨ad128.block, ad128.off + 2, none⟩ = some (.int .i64 (rd (rd_L1 l1 x21_2) 2)) ∧ w'.cell? ⟨ad128.block, ad128.off + 1, none⟩ = some (.int .i64 (rd (rd_L1 l1 x21_2) 1))) (ds := []) (mb 57 0) (by kernel_rfl) rfl rfl ⟨((HB.out.cell (World.block_lt_of_cell? w _ hw128_0)).trans hw128_0), ((HB.out.cell (World.block_lt_of_cell? w _ hw130_0)).trans hw130_0), ((HB.out.cell (World.block_lt_of_cell? w _ hw132_0)).trans hw132_0), ((HB.out.cell (World.block_lt_of_cell? w _ hw134_0)).trans hw134_0), ((HB.out.cell (World.block_lt_of_cell? w _ hw135_0)).trans hw135_0)⟩ (fun hHeld => ?_); refine with_tabW spec_RowOfPairs.tab7 spec_RowOfPairs.bits7 (fun HT_ HW_ => ?_)
                   generalize wr.drew = w47 at HO_6 HB hx128_0 hx130_0 hx132_0 hx134_0 hx135_0 hHeld ⊢
                   refine pureV 0 25 57 1 HT_ ?_
                   refine pureV 1 26 57 3 HT_ ?_
                   refine pureV 2 27 57 7 HT_ ?_
                   refine pureV 3 28 57 15 HT_ ?_
                   refine pureV 4 29 57 31 HT_ ?_
                   refine pureV 5 30 57 63 HT_ ?_
                   refine takeV 6 31 57 127 HT_ HW_ hHeld rfl (by rintro w' ⟨s0, s1, s2, s3, s4⟩; go_simp; with_reducible rfl) ?_
                   refine one_ (i := 7) (N := some 32) (mb 57 255) rfl rfl (one_of HT_.out (by kernel_rfl)) (by decide) (fun K hK => ?_)
                   refine goes_ Try.func33 (by kernel_rfl) rfl #[.int .i64 (rd (rd_L1 l1 x21_2) 0)] (by rfl) rfl rfl (by (try simp only [List.map_toArray, List.map_cons, List.map_nil]); first | done | rfl | (simp only [List.length_drop, List.length_take]; rfl)) ?_
                   with_reducible refine (spec_roNumber.calls (rd (rd_L1 l1 x21_2) 0) true _ A16.out).mono ?_
                   rintro e w' ⟨rfl, ⟨nd, rfl⟩⟩
                   refine ⟨_, rfl, ?_⟩
                   obtain ⟨Ao48, co48, eo48⟩ := Kd.R_slice HO_6.out
                   (first | subst eo48 | (injection eo48 with f1_ f2_ f3_; have f4_ := f1_.symm; have f5_ := f3_.symm; clear f1_ f2_ f3_; subst f4_; subst f5_))
                   refine hK.out _ _ ⟨((HB.out.cell (World.block_lt_of_cell? w _ hw128_0)).trans hw128_0), ((HB.out.cell (World.block_lt_of_cell? w _ hw130_0)).trans hw130_0), ((HB.out.cell (World.block_lt_of_cell? w _ hw132_0)).trans hw132_0), ((HB.out.cell (World.block_lt_of_cell? w _ hw134_0)).trans hw134_0), ((HB.out.cell (World.block_lt_of_cell? w _ hw135_0)).trans hw135_0)⟩ (fun hHeld => ?_)
                   clear hK K
                   refine norm_ (a' := ?_) ?_ ?_
                   rotate_left
                   ·show Act.put _ (some 32) _ = _
                    simp only [Act.put, List.setIfInBounds_toArray, List.set_cons_zero, List.set_cons_succ, i64_w, i32_w]
                    rfl
                   refine pureV 8 33 57 511 HT_ ?_
                   refine pureV 9 34 57 1023 HT_ ?_
                   refine pureV 10 35 57 2047 HT_ ?_
                   refine pureV 11 36 57 4095 HT_ ?_
                   refine pureV 12 37 57 8191 HT_ ?_
                   refine pureV 13 38 57 16383 HT_ ?_
                   refine takeV 14 39 57 32767 HT_ HW_ hHeld rfl (by rintro w' ⟨s0, s1, s2, s3, s4⟩; go_simp; with_reducible rfl) ?_
                   refine one_ (i := 15) (N := some 40) (mb 57 65535) rfl rfl (one_of HT_.out (by kernel_rfl)) (by decide) (fun K hK => ?_)
                   refine goes_ Try.func34 (by kernel_rfl) rfl #[.slice Ao48 x6_2.length co48, .int .i64 (rd (rd_L1 l1 x21_2) 0)] (by rfl) rfl rfl (by (try simp only [List.map_toArray, List.map_cons, List.map_nil]); first | done | rfl | (simp only [List.length_drop, List.length_take]; rfl)) ?_
                   with_reducible refine (spec_l1Has.calls k2 _ _ x6_2 (rd (rd_L1 l1 x21_2) 0) false _ ?side1 ?side2 A18.out).mono ?_
                   (case side1 => repeat (first | exact (Kd.R_reads' HO_6.out).2.2 | (with_reducible refine Kd.C_alloc ?_ _) | (with_reducible refine Kd.C_drewN ?_ _) | (with_reducible refine Kd.C_drew ?_)))
                   (case side2 => exact (Kd.R_reads' HO_6.out).2.1)
                   rintro e w' ⟨rfl, ⟨nd, rfl⟩⟩
                   refine ⟨_, rfl, ?_⟩
                   refine hK.out _ _ ⟨((HB.out.cell (World.block_lt_of_cell? w _ hw128_0)).trans hw128_0), ((HB.out.cell (World.block_lt_of_cell? w _ hw130_0)).trans hw130_0), ((HB.out.cell (World.block_lt_of_cell? w _ hw132_0)).trans hw132_0), ((HB.out.cell (World.block_lt_of_cell? w _ hw134_0)).trans hw134_0), ((HB.out.cell (World.block_lt_of_cell? w _ hw135_0)).trans hw135_0)⟩ (fun hHeld => ?_)
                   clear hK K
                   refine norm_ (a' := ?_) ?_ ?_
                   rotate_left
                   ·show Act.put _ (some 40) _ = _
                    simp only [Act.put, List.setIfInBounds_toArray, List.set_cons_zero, List.set_cons_succ, i64_w, i32_w]
                    rfl
                   refine pureV 16 41 57 131071 HT_ ?_
                   refine pureV 17 42 57 262143 HT_ ?_
                   refine pureV 18 43 57 524287 HT_ ?_
                   refine pureV 19 44 57 1048575 HT_ ?_
                   refine pureV 21 46 57 3145727 HT_ ?_
                   refine pureV 22 47 57 7340031 HT_ ?_
                   refine takeV 20 45 57 8388607 HT_ HW_ hHeld rfl (by rintro w' ⟨s0, s1, s2, s3, s4⟩; go_simp; with_reducible rfl) ?_
                   refine one_ (i := 23) (N := some 48) (mb 57 16777215) rfl rfl (one_of HT_.out (by kernel_rfl)) (by decide) (fun K hK => ?_)
                   refine goes_ Try.func32 (by kernel_rfl) rfl #[.int .i64 (rd (rd_L1 l1 x21_2) 1), .int .i64 0, .int .i64 (wrap64 (a0 - 1))] (by rfl) rfl rfl (by (try simp only [List.map_toArray, List.map_cons, List.map_nil]); first | done | rfl | (simp only [List.length_drop, List.length_take]; rfl)) ?_
                   with_reducible refine (spec_l1In.calls (rd (rd_L1 l1 x21_2) 1) 0 (wrap64 (a0 - 1)) true _ A23.out).mono ?_
                   rintro e w' ⟨rfl, ⟨nd, rfl⟩⟩
                   refine ⟨_, rfl, ?_⟩
                   refine hK.out _ _ ⟨((HB.out.cell (World.block_lt_of_cell? w _ hw128_0)).trans hw128_0), ((HB.out.cell (World.block_lt_of_cell? w _ hw130_0)).trans hw130_0), ((HB.out.cell (World.block_lt_of_cell? w _ hw132_0)).trans hw132_0), ((HB.out.cell (World.block_lt_of_cell? w _ hw134_0)).trans hw134_0), ((HB.out.cell (World.block_lt_of_cell? w _ hw135_0)).trans hw135_0)⟩ (fun hHeld => ?_)
                   clear hK K
                   refine norm_ (a' := ?_) ?_ ?_
                   rotate_left
                   ·show Act.put _ (some 48) _ = _
                    simp only [Act.put, List.setIfInBounds_toArray, List.set_cons_zero, List.set_cons_succ, i64_w, i32_w]
                    rfl
                   refine pureV 24 49 57 33554431 HT_ ?_
                   refine pureV 25 50 57 67108863 HT_ ?_
                   refine pureV 26 51 57 134217727 HT_ ?_
                   refine pureV 27 52 57 268435455 HT_ ?_
                   refine pureV 28 53 57 536870911 HT_ ?_
                   refine pureV 30 55 57 1610612735 HT_ ?_
                   refine pureV 31 56 57 3758096383 HT_ ?_
                   refine pureV 34 59 57 20937965567 HT_ ?_
                   refine pureV 35 60 57 55297703935 HT_ ?_
                   refine takeV 29 54 57 55834574847 HT_ HW_ hHeld rfl (by rintro w' ⟨s0, s1, s2, s3, s4⟩; go_simp; with_reducible rfl) ?_
                   refine takeV 32 57 57 60129542143 HT_ HW_ hHeld rfl (by rintro w' ⟨s0, s1, s2, s3, s4⟩; go_simp; with_reducible rfl) ?_
                   refine pureV 33 58 57 68719476735 HT_ ?_
                   refine one_ (i := 36) (N := some 61) (mb 57 137438953471) rfl rfl (one_of HT_.out (by kernel_rfl)) (by decide) (fun K hK => ?_)
                   refine goes_ Try.func32 (by kernel_rfl) rfl #[.int .i64 (rd (rd_L1 l1 x21_2) 2), .int .i64 (wrap64 ((rd (rd_L1 l1 x21_2) 1) + 1)), .int .i64 (wrap64 (a0 - 1))] (by rfl) rfl rfl (by (try simp only [List.map_toArray, List.map_cons, List.map_nil]); first | done | rfl | (simp only [List.length_drop, List.length_take]; rfl)) ?_
                   with_reducible refine (spec_l1In.calls (rd (rd_L1 l1 x21_2) 2) (wrap64 ((rd (rd_L1 l1 x21_2) 1) + 1)) (wrap64 (a0 - 1)) false _ A26.out).mono ?_
                   rintro e w' ⟨rfl, ⟨nd, rfl⟩⟩
                   refine ⟨_, rfl, ?_⟩
                   refine hK.out _ _ ⟨((HB.out.cell (World.block_lt_of_cell? w _ hw128_0)).trans hw128_0), ((HB.out.cell (World.block_lt_of_cell? w _ hw130_0)).trans hw130_0), ((HB.out.cell (World.block_lt_of_cell? w _ hw132_0)).trans hw132_0), ((HB.out.cell (World.block_lt_of_cell? w _ hw134_0)).trans hw134_0), ((HB.out.cell (World.block_lt_of_cell? w _ hw135_0)).trans hw135_0)⟩ (fun hHeld => ?_)
                   clear hK K
                   refine norm_ (a' := ?_) ?_ ?_
                   rotate_left
                   ·show Act.put _ (some 61) _ = _
                    simp only [Act.put, List.setIfInBounds_toArray, List.set_cons_zero, List.set_cons_succ, i64_w, i32_w]
                    rfl
                   refine pureV 37 62 57 274877906943 HT_ ?_
                   refine pureV 38 63 57 549755813887 HT_ ?_
                   refine pureV 39 64 57 1099511627775 HT_ ?_
                   refine pureU 40 65 57 2199023255551 HT_ ?_
                   refine pureU 41 66 57 4398046511103 HT_ ?_
                   refine pureU 42 67 57 8796093022207 HT_ ?_
                   refine pureU 43 68 57 17592186044415 HT_ ?_
                   refine pureU 44 69 57 35184372088831 HT_ ?_
                   refine pureU 45 70 57 70368744177663 HT_ ?_
                   refine pureU 46 71 57 140737488355327 HT_ ?_
                   refine pureV 47 72 57 281474976710655 HT_ ?_
                   refine pureV 48 73 57 562949953421311 HT_ ?_
                   refine pureU 49 74 57 1125899906842623 HT_ ?_
                   refine pureU 50 75 57 2251799813685247 HT_ ?_
                   refine pureU 51 76 57 4503599627370495 HT_ ?_
                   refine pureU 52 77 57 9007199254740991 HT_ ?_
                   refine pureU 53 78 57 18014398509481983 HT_ ?_
                   refine pureU 54 79 57 36028797018963967 HT_ ?_
                   refine pureU 55 80 57 72057594037927935 HT_ ?_
                   refine pureV 56 81 57 144115188075855871 HT_ ?_
                   refine done_ (done_of HT_.out (by kernel_rfl)) ?_
                   try go_wp2
                   go_ret2
                   exact ⟨_, by first | rfl | (simp [errW_none, errW_some] <;> rfl) | (simp [*, errW_none, errW_some] <;> rfl), by first | exact Kd.R_nil _ _ _ _ _ | exact Kd.N_nil _ _ _ _ _ | exact Kd.V_nil _ _ _ _ _ | exact Kd.Q_nil _ _ _ _ _ | exact Kd.S_nil _ _ _ _ _, by repeat (first | (with_reducible first | exact HB.out | apply below_alloc | apply pw_below_drewN | apply below_drew1) | exact HB.out)⟩
                 ·rw [if_neg c25] at H
                  exact absurd H (by simp)
                ·replace c24 := Bool.eq_false_iff.mpr c24
                 subst c24
                 have H1 : (some (([] : List Int), false)) = some (r1, r2) := by rw [if_neg (show ¬ (false = true) by decide)] at H; exact H
                 clear H
                 have H := H1
                 clear H1
                 simp only [Option.some.injEq, Prod.mk.injEq] at H
                 obtain ⟨rfl, rfl⟩ := H
                 have p127 : 0 ≤ (x21_2 : Int) := of_decide_eq_true (by first | (with_reducible assumption) | assumption)
                 have q127 : x21_2 < (l1.length : Int) := of_decide_eq_true (by first | (with_reducible assumption) | assumption)
                 obtain ⟨ad127, A127_0, c127_0, e127, hx127_0, hl127_0, hi127_0⟩ := at_L1 HR1.out x21_2 p127 q127
                 cases e127
                 replace hx127_0 := (HB.out.cell (World.block_lt_of_cell? w _ hx127_0)).trans hx127_0
                 have HR127_0 := Aside0.mk hi127_0
                 have HC127_0 := Aside0.mk hl127_0
                 clear hi127_0 hl127_0
                 replace p127 := eq_true p127
                 replace q127 := eq_true q127
                 try go_wp2
                 have n0_ := Aside0.mk (Kd.R_drew HO_6.out)
                 have n1_ := Aside0.mk (below_drew1 HB.out)
                 clear HO_6
                 clear HB
                 have HO_6 := n0_
                 have HB := n1_
                 clear n0_ n1_
                 have p128 : 0 ≤ (0 : Int) := (by omega)
                 have q128 : 0 < ((rd_L1 l1 x21_2).length : Int) := of_decide_eq_true (by first | (with_reducible assumption) | assumption)
                 obtain ⟨ad128, e128, hx128_0⟩ := Kd.at_int HR127_0.out 0 p128 q128
                 have hw128_0 := hx128_0
                 (try rw [show ((0 : Int)).toNat = 0 from rfl] at hw128_0)
                 (try rw [show 0 * 1 = 0 from rfl] at hw128_0)
                 (try rw [Addr.add_zero'] at hw128_0)
                 cases e128
                 have qi128 : (0 < (rd_L1 l1 x21_2).length) = True := eq_true (by omega)
                 (try rw [show ((0 : Int)).toNat = 0 from rfl] at hx128_0)
                 (try rw [Addr.add_zero'] at hx128_0)
                 replace hx128_0 := (HB.out.cell (World.block_lt_of_cell? w _ hx128_0)).trans hx128_0
                 replace p128 := eq_true p128
                 replace q128 := eq_true q128
                 have p130 : 0 ≤ (0 : Int) := (by omega)
                 have q130 : 0 < ((rd_L1 l1 x21_2).length : Int) := of_decide_eq_true (by first | (with_reducible assumption) | assumption)
                 obtain ⟨ad130, e130, hx130_0⟩ := Kd.at_int HR127_0.out 0 p130 q130
                 have hw130_0 := hx130_0
                 (try rw [show ((0 : Int)).toNat = 0 from rfl] at hw130_0)
                 (try rw [show 0 * 1 = 0 from rfl] at hw130_0)
                 (try rw [Addr.add_zero'] at hw130_0)
                 obtain rfl : ad128 = ad130 := (by injection e130)
                 have qi130 : (0 < (rd_L1 l1 x21_2).length) = True := eq_true (by omega)
                 (try rw [show ((0 : Int)).toNat = 0 from rfl] at hx130_0)
                 (try rw [Addr.add_zero'] at hx130_0)
                 replace hx130_0 := (HB.out.cell (World.block_lt_of_cell? w _ hx130_0)).trans hx130_0
                 replace p130 := eq_true p130
                 replace q130 := eq_true q130
                 have p132 : 0 ≤ (1 : Int) := (by omega)
                 have q132 : 1 < ((rd_L1 l1 x21_2).length : Int) := of_decide_eq_true (by first | (with_reducible assumption) | assumption)
                 obtain ⟨ad132, e132, hx132_0⟩ := Kd.at_int HR127_0.out 1 p132 q132
                 have hw132_0 := hx132_0
                 (try rw [show ((1 : Int)).toNat = 1 from rfl] at hw132_0)
                 (try rw [show 1 * 1 = 1 from rfl] at hw132_0)
                 (try simp only [Nat.reduceMul, Nat.reduceEqDiff, Go.Addr.add, ↓reduceIte] at hw132_0)
                 obtain rfl : ad128 = ad132 := (by injection e132)
                 (try simp only [show (1 : Int).toNat = 1 from rfl, Nat.reduceMul, Nat.reduceEqDiff, Go.Addr.add, ↓reduceIte] at hx132_0)
                 have qi132 : (1 < (rd_L1 l1 x21_2).length) = True := eq_true (by omega)
                 (try rw [show ((1 : Int)).toNat = 1 from rfl] at hx132_0)
                 replace hx132_0 := (HB.out.cell (World.block_lt_of_cell? w _ hx132_0)).trans hx132_0
                 replace p132 := eq_true p132
                 replace q132 := eq_true q132
                 refine start_ (n := 57) (S := fun w' => w'.cell? ad128 = some (.int .i64 (rd (rd_L1 l1 x21_2) 0)) ∧ w'.cell? ad128 = some (.int .i64 (rd (rd_L1 l1 x21_2) 0)) ∧ w'.cell? ⟨ad128.block, ad128.off + 1, none⟩ = some (.int .i64 (rd (rd_L1 l1 x21_2) 1))) (ds := []) (mb 57 0) (by kernel_rfl) rfl rfl ⟨((HB.out.cell (World.block_lt_of_cell? w _ hw128_0)).trans hw128_0), ((HB.out.cell (World.block_lt_of_cell? w _ hw130_0)).trans hw130_0), ((HB.out.cell (World.block_lt_of_cell? w _ hw132_0)).trans hw132_0)⟩ (fun hHeld => ?_); refine with_tabW spec_RowOfPairs.tab7 spec_RowOfPairs.bits7 (fun HT_ HW_ => ?_)
                 generalize wr.drew = w49 at HO_6 HB hx128_0 hx130_0 hx132_0 hHeld ⊢
                 refine pureV 0 25 57 1 HT_ ?_
                 refine pureV 1 26 57 3 HT_ ?_
                 refine pureV 2 27 57 7 HT_ ?_
                 refine pureV 3 28 57 15 HT_ ?_
                 refine pureV 4 29 57 31 HT_ ?_
                 refine pureV 5 30 57 63 HT_ ?_
                 refine takeV 6 31 57 127 HT_ HW_ hHeld rfl (by rintro w' ⟨s0, s1, s2⟩; go_simp; with_reducible rfl) ?_
                 refine one_ (i := 7) (N := some 32) (mb 57 255) rfl rfl (one_of HT_.out (by kernel_rfl)) (by decide) (fun K hK => ?_)
                 refine goes_ Try.func33 (by kernel_rfl) rfl #[.int .i64 (rd (rd_L1 l1 x21_2) 0)] (by rfl) rfl rfl (by (try simp only [List.map_toArray, List.map_cons, List.map_nil]); first | done | rfl | (simp only [List.length_drop, List.length_take]; rfl)) ?_
                 with_reducible refine (spec_roNumber.calls (rd (rd_L1 l1 x21_2) 0) true _ A16.out).mono ?_
                 rintro e w' ⟨rfl, ⟨nd, rfl⟩⟩
                 refine ⟨_, rfl, ?_⟩
                 obtain ⟨Ao50, co50, eo50⟩ := Kd.R_slice HO_6.out
                 (first | subst eo50 | (injection eo50 with f1_ f2_ f3_; have f4_ := f1_.symm; have f5_ := f3_.symm; clear f1_ f2_ f3_; subst f4_; subst f5_))
                 refine hK.out _ _ ⟨((HB.out.cell (World.block_lt_of_cell? w _ hw128_0)).trans hw128_0), ((HB.out.cell (World.block_lt_of_cell? w _ hw130_0)).trans hw130_0), ((HB.out.cell (World.block_lt_of_cell? w _ hw132_0)).trans hw132_0)⟩ (fun hHeld => ?_)
                 clear hK K
                 refine norm_ (a' := ?_) ?_ ?_
                 rotate_left
                 ·show Act.put _ (some 32) _ = _
                  simp only [Act.put, List.setIfInBounds_toArray, List.set_cons_zero, List.set_cons_succ, i64_w, i32_w]
                  rfl
                 refine pureV 8 33 57 511 HT_ ?_
                 refine pureV 9 34 57 1023 HT_ ?_
                 refine pureV 10 35 57 2047 HT_ ?_
                 refine pureV 11 36 57 4095 HT_ ?_
                 refine pureV 12 37 57 8191 HT_ ?_
                 refine pureV 13 38 57 16383 HT_ ?_
                 refine takeV 14 39 57 32767 HT_ HW_ hHeld rfl (by rintro w' ⟨s0, s1, s2⟩; go_simp; with_reducible rfl) ?_
                 refine one_ (i := 15) (N := some 40) (mb 57 65535) rfl rfl (one_of HT_.out (by kernel_rfl)) (by decide) (fun K hK => ?_)
                 refine goes_ Try.func34 (by kernel_rfl) rfl #[.slice Ao50 x6_2.length co50, .int .i64 (rd (rd_L1 l1 x21_2) 0)] (by rfl) rfl rfl (by (try simp only [List.map_toArray, List.map_cons, List.map_nil]); first | done | rfl | (simp only [List.length_drop, List.length_take]; rfl)) ?_
                 with_reducible refine (spec_l1Has.calls k2 _ _ x6_2 (rd (rd_L1 l1 x21_2) 0) false _ ?side1 ?side2 A18.out).mono ?_
                 (case side1 => repeat (first | exact (Kd.R_reads' HO_6.out).2.2 | (with_reducible refine Kd.C_alloc ?_ _) | (with_reducible refine Kd.C_drewN ?_ _) | (with_reducible refine Kd.C_drew ?_)))
                 (case side2 => exact (Kd.R_reads' HO_6.out).2.1)
                 rintro e w' ⟨rfl, ⟨nd, rfl⟩⟩
                 refine ⟨_, rfl, ?_⟩
                 refine hK.out _ _ ⟨((HB.out.cell (World.block_lt_of_cell? w _ hw128_0)).trans hw128_0), ((HB.out.cell (World.block_lt_of_cell? w _ hw130_0)).trans hw130_0), ((HB.out.cell (World.block_lt_of_cell? w _ hw132_0)).trans hw132_0)⟩ (fun hHeld => ?_)
                 clear hK K
                 refine norm_ (a' := ?_) ?_ ?_
                 rotate_left
                 ·show Act.put _ (some 40) _ = _
                  simp only [Act.put, List.setIfInBounds_toArray, List.set_cons_zero, List.set_cons_succ, i64_w, i32_w]
                  rfl
                 refine pureV 16 41 57 131071 HT_ ?_
                 refine pureV 17 42 57 262143 HT_ ?_
                 refine pureV 18 43 57 524287 HT_ ?_
                 refine pureV 19 44 57 1048575 HT_ ?_
                 refine pureV 21 46 57 3145727 HT_ ?_
                 refine pureV 22 47 57 7340031 HT_ ?_
                 refine takeV 20 45 57 8388607 HT_ HW_ hHeld rfl (by rintro w' ⟨s0, s1, s2⟩; go_simp; with_reducible rfl) ?_
                 refine one_ (i := 23) (N := some 48) (mb 57 16777215) rfl rfl (one_of HT_.out (by kernel_rfl)) (by decide) (fun K hK => ?_)
                 refine goes_ Try.func32 (by kernel_rfl) rfl #[.int .i64 (rd (rd_L1 l1 x21_2) 1), .int .i64 0, .int .i64 (wrap64 (a0 - 1))] (by rfl) rfl rfl (by (try simp only [List.map_toArray, List.map_cons, List.map_nil]); first | done | rfl | (simp only [List.length_drop, List.length_take]; rfl)) ?_
                 with_reducible refine (spec_l1In.calls (rd (rd_L1 l1 x21_2) 1) 0 (wrap64 (a0 - 1)) false _ A23.out).mono ?_
                 rintro e w' ⟨rfl, ⟨nd, rfl⟩⟩
                 refine ⟨_, rfl, ?_⟩
                 refine hK.out _ _ ⟨((HB.out.cell (World.block_lt_of_cell? w _ hw128_0)).trans hw128_0), ((HB.out.cell (World.block_lt_of_cell? w _ hw130_0)).trans hw130_0), ((HB.out.cell (World.block_lt_of_cell? w _ hw132_0)).trans hw132_0)⟩ (fun hHeld => ?_)
                 clear hK K
                 refine norm_ (a' := ?_) ?_ ?_
                 rotate_left
                 ·show Act.put _ (some 48) _ = _
                  simp only [Act.put, List.setIfInBounds_toArray, List.set_cons_zero, List.set_cons_succ, i64_w, i32_w]
                  rfl
                 refine pureV 24 49 57 33554431 HT_ ?_
                 refine pureV 25 50 57 67108863 HT_ ?_
                 refine pureV 26 51 57 134217727 HT_ ?_
                 refine pureU 27 52 57 268435455 HT_ ?_
                 refine pureU 28 53 57 536870911 HT_ ?_
                 refine pureU 29 54 57 1073741823 HT_ ?_
                 refine pureU 30 55 57 2147483647 HT_ ?_
                 refine pureU 31 56 57 4294967295 HT_ ?_
                 refine pureU 32 57 57 8589934591 HT_ ?_
                 refine pureU 33 58 57 17179869183 HT_ ?_
                 refine pureU 34 59 57 34359738367 HT_ ?_
                 refine pureU 35 60 57 68719476735 HT_ ?_
                 refine pureU 36 61 57 137438953471 HT_ ?_
                 refine pureU 37 62 57 274877906943 HT_ ?_
                 refine pureV 38 63 57 549755813887 HT_ ?_
                 refine pureV 39 64 57 1099511627775 HT_ ?_
                 refine pureU 40 65 57 2199023255551 HT_ ?_
                 refine pureU 41 66 57 4398046511103 HT_ ?_
                 refine pureU 42 67 57 8796093022207 HT_ ?_
                 refine pureU 43 68 57 17592186044415 HT_ ?_
                 refine pureU 44 69 57 35184372088831 HT_ ?_
                 refine pureU 45 70 57 70368744177663 HT_ ?_
                 refine pureU 46 71 57 140737488355327 HT_ ?_
                 refine pureV 47 72 57 281474976710655 HT_ ?_
                 refine pureV 48 73 57 562949953421311 HT_ ?_
                 refine pureU 49 74 57 1125899906842623 HT_ ?_
                 refine pureU 50 75 57 2251799813685247 HT_ ?_
                 refine pureU 51 76 57 4503599627370495 HT_ ?_
                 refine pureU 52 77 57 9007199254740991 HT_ ?_
                 refine pureU 53 78 57 18014398509481983 HT_ ?_
                 refine pureU 54 79 57 36028797018963967 HT_ ?_
                 refine pureU 55 80 57 72057594037927935 HT_ ?_
                 refine pureV 56 81 57 144115188075855871 HT_ ?_
                 refine done_ (done_of HT_.out (by kernel_rfl)) ?_
                 try go_wp2
                 go_ret2
                 exact ⟨_, by first | rfl | (simp [errW_none, errW_some] <;> rfl) | (simp [*, errW_none, errW_some] <;> rfl), by first | exact Kd.R_nil _ _ _ _ _ | exact Kd.N_nil _ _ _ _ _ | exact Kd.V_nil _ _ _ _ _ | exact Kd.Q_nil _ _ _ _ _ | exact Kd.S_nil _ _ _ _ _, by repeat (first | (with_reducible first | exact HB.out | apply below_alloc | apply pw_below_drewN | apply below_drew1) | exact HB.out)⟩
               ·rw [if_neg c22] at H
                exact absurd H (by simp)
             ·replace c17 := Bool.eq_false_iff.mpr c17
              subst c17
              have H1 : (some (([] : List Int), false)) = some (r1, r2) := by rw [if_neg (show ¬ (false = true) by decide)] at H; exact H
              clear H
              have H := H1
              clear H1
              simp only [Option.some.injEq, Prod.mk.injEq] at H
              obtain ⟨rfl, rfl⟩ := H
              have p127 : 0 ≤ (x21_2 : Int) := of_decide_eq_true (by first | (with_reducible assumption) | assumption)
              have q127 : x21_2 < (l1.length : Int) := of_decide_eq_true (by first | (with_reducible assumption) | assumption)
              obtain ⟨ad127, A127_0, c127_0, e127, hx127_0, hl127_0, hi127_0⟩ := at_L1 HR1.out x21_2 p127 q127
              cases e127
              replace hx127_0 := (HB.out.cell (World.block_lt_of_cell? w _ hx127_0)).trans hx127_0
              have HR127_0 := Aside0.mk hi127_0
              have HC127_0 := Aside0.mk hl127_0
              clear hi127_0 hl127_0
              replace p127 := eq_true p127
              replace q127 := eq_true q127
              try go_wp2
              have n0_ := Aside0.mk (Kd.R_drew HO_6.out)
              have n1_ := Aside0.mk (below_drew1 HB.out)
              clear HO_6
              clear HB
              have HO_6 := n0_
              have HB := n1_
              clear n0_ n1_
              have p128 : 0 ≤ (0 : Int) := (by omega)
              have q128 : 0 < ((rd_L1 l1 x21_2).length : Int) := of_decide_eq_true (by first | (with_reducible assumption) | assumption)
              obtain ⟨ad128, e128, hx128_0⟩ := Kd.at_int HR127_0.out 0 p128 q128
              have hw128_0 := hx128_0
              (try rw [show ((0 : Int)).toNat = 0 from rfl] at hw128_0)
              (try rw [show 0 * 1 = 0 from rfl] at hw128_0)
              (try rw [Addr.add_zero'] at hw128_0)
              cases e128
              have qi128 : (0 < (rd_L1 l1 x21_2).length) = True := eq_true (by omega)
              (try rw [show ((0 : Int)).toNat = 0 from rfl] at hx128_0)
              (try rw [Addr.add_zero'] at hx128_0)
              replace hx128_0 := (HB.out.cell (World.block_lt_of_cell? w _ hx128_0)).trans hx128_0
              replace p128 := eq_true p128
              replace q128 := eq_true q128
              refine start_ (n := 57) (S := fun w' => w'.cell? ad128 = some (.int .i64 (rd (rd_L1 l1 x21_2) 0))) (ds := []) (mb 57 0) (by kernel_rfl) rfl rfl (((HB.out.cell (World.block_lt_of_cell? w _ hw128_0)).trans hw128_0)) (fun hHeld => ?_); refine with_tabW spec_RowOfPairs.tab7 spec_RowOfPairs.bits7 (fun HT_ HW_ => ?_)
              generalize wr.drew = w51 at HO_6 HB hx128_0 hHeld ⊢
              refine pureV 0 25 57 1 HT_ ?_
              refine pureV 1 26 57 3 HT_ ?_
              refine pureV 2 27 57 7 HT_ ?_
              refine pureV 3 28 57 15 HT_ ?_
              refine pureV 4 29 57 31 HT_ ?_
              refine pureV 5 30 57 63 HT_ ?_
              refine take_ (i := 6) (N := some 31) (v := ?_) (a' := ?_) (mb 57 127) rfl rfl (take_ofW HT_.out HW_.out (by kernel_rfl)) (fun _ _ _ h => h) (Or.inl ⟨by rfl, ?_⟩) hHeld ?_ ?_
              rotate_left
              ·intro w' s0
               go_simp
               with_reducible rfl
              rotate_left
              ·simp only [Act.put, List.setIfInBounds_toArray, List.set_cons_zero, List.set_cons_succ, i64_w, i32_w]
               rfl
              refine one_ (i := 7) (N := some 32) (mb 57 255) rfl rfl (one_of HT_.out (by kernel_rfl)) (by decide) (fun K hK => ?_)
              refine goes_ Try.func33 (by kernel_rfl) rfl #[.int .i64 (rd (rd_L1 l1 x21_2) 0)] (by rfl) rfl rfl (by (try simp only [List.map_toArray, List.map_cons, List.map_nil]); first | done | rfl | (simp only [List.length_drop, List.length_take]; rfl)) ?_
              with_reducible refine (spec_roNumber.calls (rd (rd_L1 l1 x21_2) 0) false _ A16.out).mono ?_
              rintro e w' ⟨rfl, ⟨nd, rfl⟩⟩
              refine ⟨_, rfl, ?_⟩
              refine hK.out _ _ (((HB.out.cell (World.block_lt_of_cell? w _ hw128_0)).trans hw128_0)) (fun hHeld => ?_)
              clear hK K
              refine norm_ (a' := ?_) ?_ ?_
              rotate_left
              ·show Act.put _ (some 32) _ = _
               simp only [Act.put, List.setIfInBounds_toArray, List.set_cons_zero, List.set_cons_succ, i64_w, i32_w]
               rfl
              refine pureV 8 33 57 511 HT_ ?_
              refine pureV 9 34 57 1023 HT_ ?_
              refine pureV 10 35 57 2047 HT_ ?_
              refine pureU 11 36 57 4095 HT_ ?_
              refine pureU 12 37 57 8191 HT_ ?_
              refine pureU 13 38 57 16383 HT_ ?_
              refine pureU 14 39 57 32767 HT_ ?_
              refine pureU 15 40 57 65535 HT_ ?_
              refine pureV 16 41 57 131071 HT_ ?_
              refine pureV 17 42 57 262143 HT_ ?_
              refine pureU 18 43 57 524287 HT_ ?_
              refine pureU 19 44 57 1048575 HT_ ?_
              refine pureU 20 45 57 2097151 HT_ ?_
              refine pureU 21 46 57 4194303 HT_ ?_
              refine pureU 22 47 57 8388607 HT_ ?_
              refine pureU 23 48 57 16777215 HT_ ?_
              refine pureU 24 49 57 33554431 HT_ ?_
              refine pureV 25 50 57 67108863 HT_ ?_
              refine pureV 26 51 57 134217727 HT_ ?_
              refine pureU 27 52 57 268435455 HT_ ?_
              refine pureU 28 53 57 536870911 HT_ ?_
              refine pureU 29 54 57 1073741823 HT_ ?_
              refine pureU 30 55 57 2147483647 HT_ ?_
              refine pureU 31 56 57 4294967295 HT_ ?_
              refine pureU 32 57 57 8589934591 HT_ ?_
              refine pureU 33 58 57 17179869183 HT_ ?_
              refine pureU 34 59 57 34359738367 HT_ ?_
              refine pureU 35 60 57 68719476735 HT_ ?_
              refine pureU 36 61 57 137438953471 HT_ ?_
              refine pureU 37 62 57 274877906943 HT_ ?_
              refine pureV 38 63 57 549755813887 HT_ ?_
              refine pureV 39 64 57 1099511627775 HT_ ?_
              refine pureU 40 65 57 2199023255551 HT_ ?_
              refine pureU 41 66 57 4398046511103 HT_ ?_
              refine pureU 42 67 57 8796093022207 HT_ ?_
              refine pureU 43 68 57 17592186044415 HT_ ?_
              refine pureU 44 69 57 35184372088831 HT_ ?_
              refine pureU 45 70 57 70368744177663 HT_ ?_
              refine pureU 46 71 57 140737488355327 HT_ ?_
              refine pureV 47 72 57 281474976710655 HT_ ?_
              refine pureV 48 73 57 562949953421311 HT_ ?_
              refine pureU 49 74 57 1125899906842623 HT_ ?_
              refine pureU 50 75 57 2251799813685247 HT_ ?_
              refine pureU 51 76 57 4503599627370495 HT_ ?_
              refine pureU 52 77 57 9007199254740991 HT_ ?_
              refine pureU 53 78 57 18014398509481983 HT_ ?_
              refine pureU 54 79 57 36028797018963967 HT_ ?_
              refine pureU 55 80 57 72057594037927935 HT_ ?_
              refine pureV 56 81 57 144115188075855871 HT_ ?_
              refine done_ (done_of HT_.out (by kernel_rfl)) ?_
              try go_wp2
              go_ret2
              exact ⟨_, by first | rfl | (simp [errW_none, errW_some] <;> rfl) | (simp [*, errW_none, errW_some] <;> rfl), by first | exact Kd.R_nil _ _ _ _ _ | exact Kd.N_nil _ _ _ _ _ | exact Kd.V_nil _ _ _ _ _ | exact Kd.Q_nil _ _ _ _ _ | exact Kd.S_nil _ _ _ _ _, by repeat (first | (with_reducible first | exact HB.out | apply below_alloc | apply pw_below_drewN | apply below_drew1) | exact HB.out)⟩
            ·rw [if_neg c15] at H
             exact absurd H (by simp)
           ·rw [if_neg c14] at H
            have c14b0 : (((rd_L1 l1 x21_2).length : Int) == 3) = false := beq_eq_false_iff_ne.mpr c14
            have c14b1 : (((rd_L1 l1 x21_2).length : Int) != 3) = true := bne_iff_ne.mpr c14
            simp only [Option.some.injEq, Prod.mk.injEq] at H
            obtain ⟨rfl, rfl⟩ := H
            have p127 : 0 ≤ (x21_2 : Int) := of_decide_eq_true (by first | (with_reducible assumption) | assumption)
            have q127 : x21_2 < (l1.length : Int) := of_decide_eq_true (by first | (with_reducible assumption) | assumption)
            obtain ⟨ad127, A127_0, c127_0, e127, hx127_0, hl127_0, hi127_0⟩ := at_L1 HR1.out x21_2 p127 q127
            cases e127
            replace hx127_0 := (HB.out.cell (World.block_lt_of_cell? w _ hx127_0)).trans hx127_0
            have HR127_0 := Aside0.mk hi127_0
            have HC127_0 := Aside0.mk hl127_0
            clear hi127_0 hl127_0
            replace p127 := eq_true p127
            replace q127 := eq_true q127
            try go_wp2
            have n0_ := Aside0.mk (Kd.R_drew HO_6.out)
            have n1_ := Aside0.mk (below_drew1 HB.out)
            clear HO_6
            clear HB
            have HO_6 := n0_
            have HB := n1_
            clear n0_ n1_
            refine start_ (n := 57) (S := fun w' => True) (ds := []) (mb 57 0) (by kernel_rfl) rfl rfl trivial (fun hHeld => ?_); refine with_tabW spec_RowOfPairs.tab7 spec_RowOfPairs.bits7 (fun HT_ HW_ => ?_)
            generalize wr.drew = w52 at HO_6 HB hHeld ⊢
            refine pureV 0 25 57 1 HT_ ?_
            refine pureV 1 26 57 3 HT_ ?_
            refine pureV 2 27 57 7 HT_ ?_
            refine pureV 3 28 57 15 HT_ ?_
            refine pureU 4 29 57 31 HT_ ?_
            refine pureU 5 30 57 63 HT_ ?_
            refine pureU 6 31 57 127 HT_ ?_
            refine pureU 7 32 57 255 HT_ ?_
            refine pureU 8 33 57 511 HT_ ?_
            refine pureV 9 34 57 1023 HT_ ?_
            refine pureV 10 35 57 2047 HT_ ?_
            refine pureU 11 36 57 4095 HT_ ?_
            refine pureU 12 37 57 8191 HT_ ?_
            refine pureU 13 38 57 16383 HT_ ?_
            refine pureU 14 39 57 32767 HT_ ?_
            refine pureU 15 40 57 65535 HT_ ?_
            refine pureV 16 41 57 131071 HT_ ?_
            refine pureV 17 42 57 262143 HT_ ?_
            refine pureU 18 43 57 524287 HT_ ?_
            refine pureU 19 44 57 1048575 HT_ ?_
            refine pureU 20 45 57 2097151 HT_ ?_
            refine pureU 21 46 57 4194303 HT_ ?_
            refine pureU 22 47 57 8388607 HT_ ?_
            refine pureU 23 48 57 16777215 HT_ ?_
            refine pureU 24 49 57 33554431 HT_ ?_
            refine pureV 25 50 57 67108863 HT_ ?_
            refine pureV 26 51 57 134217727 HT_ ?_
            refine pureU 27 52 57 268435455 HT_ ?_
            refine pureU 28 53 57 536870911 HT_ ?_
            refine pureU 29 54 57 1073741823 HT_ ?_
            refine pureU 30 55 57 2147483647 HT_ ?_
            refine pureU 31 56 57 4294967295 HT_ ?_
            refine pureU 32 57 57 8589934591 HT_ ?_
            refine pureU 33 58 57 17179869183 HT_ ?_
            refine pureU 34 59 57 34359738367 HT_ ?_
            refine pureU 35 60 57 68719476735 HT_ ?_
            refine pureU 36 61 57 137438953471 HT_ ?_
            refine pureU 37 62 57 274877906943 HT_ ?_
            refine pureV 38 63 57 549755813887 HT_ ?_
            refine pureV 39 64 57 1099511627775 HT_ ?_
            refine pureU 40 65 57 2199023255551 HT_ ?_
            refine pureU 41 66 57 4398046511103 HT_ ?_
            refine pureU 42 67 57 8796093022207 HT_ ?_
            refine pureU 43 68 57 17592186044415 HT_ ?_
            refine pureU 44 69 57 35184372088831 HT_ ?_
            refine pureU 45 70 57 70368744177663 HT_ ?_
            refine pureU 46 71 57 140737488355327 HT_ ?_
            refine pureV 47 72 57 281474976710655 HT_ ?_
            refine pureV 48 73 57 562949953421311 HT_ ?_
            refine pureU 49 74 57 1125899906842623 HT_ ?_
            refine pureU 50 75 57 2251799813685247 HT_ ?_
            refine pureU 51 76 57 4503599627370495 HT_ ?_
            refine pureU 52 77 57 9007199254740991 HT_ ?_
            refine pureU 53 78 57 18014398509481983 HT_ ?_
            refine pureU 54 79 57 36028797018963967 HT_ ?_
            refine pureU 55 80 57 72057594037927935 HT_ ?_
            refine pureV 56 81 57 144115188075855871 HT_ ?_
            refine done_ (done_of HT_.out (by kernel_rfl)) ?_
            try go_wp2
            go_ret2
            exact ⟨_, by first | rfl | (simp [errW_none, errW_some] <;> rfl) | (simp [*, errW_none, errW_some] <;> rfl), by first | exact Kd.R_nil _ _ _ _ _ | exact Kd.N_nil _ _ _ _ _ | exact Kd.V_nil _ _ _ _ _ | exact Kd.Q_nil _ _ _ _ _ | exact Kd.S_nil _ _ _ _ _, by repeat (first | (with_reducible first | exact HB.out | apply below_alloc | apply pw_below_drewN | apply below_drew1) | exact HB.out)⟩
          ·rw [if_neg c13] at H
           exact absurd H (by simp)
         ·rw [if_neg c12] at H
          exact absurd H (by simp)
        ·rw [if_neg c11] at H
         have c11b0 : decide (x21_2 < (l1.length : Int)) = false := decide_eq_false c11
         clear c11
         simp only [Option.some.injEq, Prod.mk.injEq] at H
         obtain ⟨rfl, rfl⟩ := H
         go_wp2
         go_ret2
         exact ⟨_, by first | rfl | (simp [errW_none, errW_some] <;> rfl) | (simp [*, errW_none, errW_some] <;> rfl), by (with_reducible repeat (first | apply Kd.R_alloc | apply Kd.R_drewN | apply Kd.R_drew)); exact HO_6.out, by repeat (first | (with_reducible first | exact HB.out | apply below_alloc | apply pw_below_drewN | apply below_drew1) | exact HB.out)⟩
     ·rw [if_neg c8] at H
      exact absurd H (by simp)
    ·rw [if_neg c7] at H
     exact absurd H (by simp)

end Go.Proofs.Yteepinopcmcklaa.PFnExactRowOfPairs
