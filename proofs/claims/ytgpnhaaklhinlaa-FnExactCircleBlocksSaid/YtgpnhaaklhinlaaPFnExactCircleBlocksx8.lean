-- Written by plug.py, a program of this session, over the kit's print of the function: checked by Lean alone.
import Derived.Test.YtgpnhaaklhinlaaPFnExactCircleBlocksx0
import Derived.Test.YtgpnhaaklhinlaaPFnExactCircleBlocksx5
namespace Go.Proofs.Ytgpnhaaklhinlaa.PFnExactCircleBlocks
open Go.RowKit Go.Proofs.YtgpnhaaklhinlaaW.PrintWords Go.Proofs.YtgpnhaaklhinlaaW.PrintLast Go.Proofs.YtgpnhaaklhinlaaW.PrintMore
attribute [local go_sem] max2_int min2_int max_two min_two max_three min_three max_four min_four   -- for this text's walks alone
set_option linter.unusedVariables false
set_option linter.unusedSimpArgs false

/-! ### cmp_Less_int: function 129 -/
def cmp_Less_int.f (a0 : Int) (a1 : Int) : Option (Bool) := (cmp_isNaN_int.f a0).bind fun t272 => (if t272 = true then ((cmp_isNaN_int.f a1).bind fun t273 => (if t273 = true then (some (decide (a0 < a1))) else (some true))) else (some (decide (a0 < a1))))
set_option maxHeartbeats 8000000 in
set_option maxRecDepth 100000 in
theorem cmp_Less_int.calls (a0 : Int) (a1 : Int) (r : Bool) (w : World) (h : cmp_Less_int.f a0 a1 = some r) :
  Calls Try.prog 129 #[.int .i64 a0, .int .i64 a1] w fun e w' => e = .returned (.bool r) ∧ Drawn0 w w' := by
 have H : ((cmp_isNaN_int.f a0).bind fun t272 => (if t272 = true then ((cmp_isNaN_int.f a1).bind fun t273 => (if t273 = true then (some (decide (a0 < a1))) else (some true))) else (some (decide (a0 < a1))))) = some r := h
 clear h
 replace H := Option.bind_eq_some_iff.mp H
 obtain ⟨t272, A30, H⟩ := H
 replace H : (if t272 = true then ((cmp_isNaN_int.f a1).bind fun t273 => (if t273 = true then (some (decide (a0 < a1))) else (some true))) else (some (decide (a0 < a1)))) = some r := H
 have A3 := Aside0.mk A30
 clear A30
 by_cases c4 : t272 = true
 ·subst c4
  have H1 : ((cmp_isNaN_int.f a1).bind fun t273 => (if t273 = true then (some (decide (a0 < a1))) else (some true))) = some r := by rw [if_pos rfl] at H; exact H
  clear H
  have H := H1
  clear H1
  replace H := Option.bind_eq_some_iff.mp H
  obtain ⟨t273, A50, H⟩ := H
  replace H : (if t273 = true then (some (decide (a0 < a1))) else (some true)) = some r := H
  have A5 := Aside0.mk A50
  clear A50
  by_cases c6 : t273 = true
  ·subst c6
   have H1 : (some (decide (a0 < a1))) = some r := by rw [if_pos rfl] at H; exact H
   clear H
   have H := H1
   clear H1
   obtain rfl := Option.some.inj H
   go_enter Try.func129, Try.ntmps129
   go_wp2_with (first | ((with_reducible refine gate_callee (f := 142) rfl ?_); refine goesL_ (some 6) rfl rfl Try.func142 (by kernel_rfl) rfl #[.int .i64 a0] rfl (by (try simp only [List.map_toArray, List.map_cons, List.map_nil]); first | done | rfl | (simp only [List.length_drop, List.length_take]; rfl)) ?_; (with_reducible refine (cmp_isNaN_int.calls a0 true _ A3.out).mono ?_); rintro e w' ⟨rfl, ⟨nd, rfl⟩⟩; refine ⟨_, rfl, ?_⟩) | (go_at_call 142; (with_reducible refine (cmp_isNaN_int.calls a1 true _ A5.out).mono ?_); rintro e w' ⟨rfl, ⟨nd, rfl⟩⟩))
   go_ret
   exact ⟨by first | rfl | (simp; done) | (simp [*]; done), by repeat (first | exact Drawn0.refl _ | apply Drawn0.step)⟩
  ·replace c6 := Bool.eq_false_iff.mpr c6
   subst c6
   have H1 : (some true) = some r := by rw [if_neg (show ¬ (false = true) by decide)] at H; exact H
   clear H
   have H := H1
   clear H1
   obtain rfl := Option.some.inj H
   go_enter Try.func129, Try.ntmps129
   go_wp2_with (first | ((with_reducible refine gate_callee (f := 142) rfl ?_); refine goesL_ (some 6) rfl rfl Try.func142 (by kernel_rfl) rfl #[.int .i64 a0] rfl (by (try simp only [List.map_toArray, List.map_cons, List.map_nil]); first | done | rfl | (simp only [List.length_drop, List.length_take]; rfl)) ?_; (with_reducible refine (cmp_isNaN_int.calls a0 true _ A3.out).mono ?_); rintro e w' ⟨rfl, ⟨nd, rfl⟩⟩; refine ⟨_, rfl, ?_⟩) | (go_at_call 142; (with_reducible refine (cmp_isNaN_int.calls a1 false _ A5.out).mono ?_); rintro e w' ⟨rfl, ⟨nd, rfl⟩⟩))
   go_ret
   exact ⟨by first | rfl | (simp; done) | (simp [*]; done), by repeat (first | exact Drawn0.refl _ | apply Drawn0.step)⟩
 ·replace c4 := Bool.eq_false_iff.mpr c4
  subst c4
  have H1 : (some (decide (a0 < a1))) = some r := by rw [if_neg (show ¬ (false = true) by decide)] at H; exact H
  clear H
  have H := H1
  clear H1
  obtain rfl := Option.some.inj H
  go_enter Try.func129, Try.ntmps129
  go_wp2_with (first | ((with_reducible refine gate_callee (f := 142) rfl ?_); refine goesL_ (some 6) rfl rfl Try.func142 (by kernel_rfl) rfl #[.int .i64 a0] rfl (by (try simp only [List.map_toArray, List.map_cons, List.map_nil]); first | done | rfl | (simp only [List.length_drop, List.length_take]; rfl)) ?_; (with_reducible refine (cmp_isNaN_int.calls a0 false _ A3.out).mono ?_); rintro e w' ⟨rfl, ⟨nd, rfl⟩⟩; refine ⟨_, rfl, ?_⟩))
  go_ret
  exact ⟨by first | rfl | (simp; done) | (simp [*]; done), by repeat (first | exact Drawn0.refl _ | apply Drawn0.step)⟩

/-! ### slices_insertionSortOrdered_int: function 123 -/
mutual
def slices_insertionSortOrdered_int.l0 : Nat → List Int → Int → Int → Int → Option (List Int)
 | 0, _, _, _, _ => none
 | k + 1, x0, x1, x2, x6 => if x6 < x2 then (slices_insertionSortOrdered_int.l1 k x0 x1 x2 x6 x6) else (some x0)
def slices_insertionSortOrdered_int.l1 : Nat → List Int → Int → Int → Int → Int → Option (List Int)
 | 0, _, _, _, _, _ => none
 | k + 1, x0, x1, x2, x6, x7 => if x7 > x1 then (if 0 ≤ x7 then (if x7 < (x0.length : Int) then (if 0 ≤ (wrap64 (x7 - 1)) then (if (wrap64 (x7 - 1)) < (x0.length : Int) then ((cmp_Less_int.f (rd x0 x7) (rd x0 (wrap64 (x7 - 1)))).bind fun t276 => (if t276 = true then (slices_insertionSortOrdered_int.l1 k ((x0.set (x7 : Int).toNat (rd x0 (wrap64 (x7 - 1)))).set ((wrap64 (x7 - 1)) : Int).toNat (rd x0 x7)) x1 x2 x6 (wrap64 (x7 - 1))) else (slices_insertionSortOrdered_int.l0 k x0 x1 x2 (wrap64 (x6 + 1))))) else (none)) else (none)) else (none)) else (none)) else (slices_insertionSortOrdered_int.l0 k x0 x1 x2 (wrap64 (x6 + 1)))
end
def slices_insertionSortOrdered_int.f (k : Nat) (l0 : List Int) (a1 : Int) (a2 : Int) : Option (List Int) := slices_insertionSortOrdered_int.l0 k l0 a1 a2 (wrap64 (a1 + 1))
theorem slices_insertionSortOrdered_int.mono_l : ∀ k, (∀ y0 y1 y2 y3, LeO (slices_insertionSortOrdered_int.l0 k y0 y1 y2 y3) (slices_insertionSortOrdered_int.l0 (k + 1) y0 y1 y2 y3)) ∧ (∀ y0 y1 y2 y3 y4, LeO (slices_insertionSortOrdered_int.l1 k y0 y1 y2 y3 y4) (slices_insertionSortOrdered_int.l1 (k + 1) y0 y1 y2 y3 y4))
 | 0 => ⟨fun _ _ _ _ r h => by simp [slices_insertionSortOrdered_int.l0] at h, fun _ _ _ _ _ r h => by simp [slices_insertionSortOrdered_int.l1] at h⟩
 | k + 1 => by
  obtain ⟨ih0, ih1⟩ := slices_insertionSortOrdered_int.mono_l k
  refine ⟨?_, ?_⟩
  ·intro y0 y1 y2 y3
   unfold slices_insertionSortOrdered_int.l0
   repeat' first
   | (with_reducible exact ih0 _ _ _ _)
   | (with_reducible exact ih1 _ _ _ _ _)
   | (with_reducible exact LeO.refl _)
   | (with_reducible exact LeO.none _)
   | (with_reducible refine LeO.ite ?_ ?_)
   | (with_reducible refine LeO.bind ?_ (fun _ => ?_))
   | exact ih0 _ _ _ _
   | exact ih1 _ _ _ _ _
   | exact LeO.none _
   | refine LeO.ite ?_ ?_
   | refine LeO.bind ?_ (fun _ => ?_)
  ·intro y0 y1 y2 y3 y4
   unfold slices_insertionSortOrdered_int.l1
   repeat' first
   | (with_reducible exact ih0 _ _ _ _)
   | (with_reducible exact ih1 _ _ _ _ _)
   | (with_reducible exact LeO.refl _)
   | (with_reducible exact LeO.none _)
   | (with_reducible refine LeO.ite ?_ ?_)
   | (with_reducible refine LeO.bind ?_ (fun _ => ?_))
   | exact ih0 _ _ _ _
   | exact ih1 _ _ _ _ _
   | exact LeO.none _
   | refine LeO.ite ?_ ?_
   | refine LeO.bind ?_ (fun _ => ?_)
theorem slices_insertionSortOrdered_int.mono : ∀ a0 a1 a2 k, LeO (slices_insertionSortOrdered_int.f k a0 a1 a2) (slices_insertionSortOrdered_int.f (k + 1) a0 a1 a2) := by
 intro a0 a1 a2 k
 obtain ⟨ih0, ih1⟩ := slices_insertionSortOrdered_int.mono_l k
 unfold slices_insertionSortOrdered_int.f
 repeat' first
   | (with_reducible exact ih0 _ _ _ _)
   | (with_reducible exact ih1 _ _ _ _ _)
   | (with_reducible exact LeO.refl _)
   | (with_reducible exact LeO.none _)
   | (with_reducible refine LeO.ite ?_ ?_)
   | (with_reducible refine LeO.bind ?_ (fun _ => ?_))
   | exact ih0 _ _ _ _
   | exact ih1 _ _ _ _ _
   | exact LeO.none _
   | refine LeO.ite ?_ ?_
   | refine LeO.bind ?_ (fun _ => ?_)
def slices_insertionSortOrdered_int.T4 : Bool × List (List Nat × List Nat) := (true, [([], []), ([], []), ([0, 1], [0, 1]), ([2], [2]), ([3], [3]), ([3], [3]), ([4, 5, 3], [3, 4, 5]), ([6, 3], [3, 6]), ([3], [3]), ([3], [3]), ([9, 3], [3, 9]), ([8, 10, 3], [3, 8, 10]), ([11, 3], [3, 11]), ([7, 12, 3, 3], [3, 7, 12]), ([3, 13], [3, 13])])
def slices_insertionSortOrdered_int.B4 : List Nat := [0, 0, 3, 7, 15, 15, 63, 127, 15, 15, 527, 1807, 3855, 8191, 16383]
theorem slices_insertionSortOrdered_int.tab4 : rtab .any (opsOf Try.f123 4) = slices_insertionSortOrdered_int.T4 := by kernel_rfl
theorem slices_insertionSortOrdered_int.bits4 : waitsOk slices_insertionSortOrdered_int.T4.2 slices_insertionSortOrdered_int.B4 = true := by kernel_rfl
def slices_insertionSortOrdered_int.T6 : Bool × List (List Nat × List Nat) := (true, [([], []), ([], []), ([], []), ([], []), ([3], [3]), ([], []), ([], []), ([6], [6]), ([5, 7], [5, 7]), ([8], [8]), ([], []), ([], []), ([10, 11], [10, 11]), ([12], [12]), ([0, 1, 0, 1, 5, 6, 7, 8, 9, 13], [0, 1]), ([14, 9, 0, 1, 5, 6, 7, 8, 9, 13], [9, 14]), ([2, 4, 0, 1, 2, 3, 4, 5, 6, 7, 8, 9, 10, 11, 12, 13, 14, 15], [2, 4]), ([16, 13, 15, 0, 1, 2, 3, 4, 5, 6, 7, 8, 9, 10, 11, 12, 13, 14, 15], [13, 16])])
def slices_insertionSortOrdered_int.B6 : List Nat := [0, 0, 0, 0, 8, 0, 0, 64, 224, 480, 0, 0, 3072, 7168, 16355, 32739, 65535, 131071]
theorem slices_insertionSortOrdered_int.tab6 : rtab .any (opsOf Try.f123 6) = slices_insertionSortOrdered_int.T6 := by kernel_rfl
theorem slices_insertionSortOrdered_int.bits6 : waitsOk slices_insertionSortOrdered_int.T6.2 slices_insertionSortOrdered_int.B6 = true := by kernel_rfl
set_option maxHeartbeats 8000000 in
set_option maxRecDepth 100000 in
theorem slices_insertionSortOrdered_int.calls (k : Nat) (P0_ : Nat → Prop) (u9000_ : Value) (l0 : List Int) (a1 : Int) (a2 : Int) (r : List Int) (w0 w : World) (hB : Below w0.heap.size w0 w) (ho0 : Kd.R (Kd.int .i64) 3 w w0.heap.size P0_ u9000_ l0) (h : slices_insertionSortOrdered_int.f k l0 a1 a2 = some r) :
  Calls Try.prog 123 #[u9000_, .int .i64 a1, .int .i64 a2] w fun e w' => e = .returned (.tuple #[]) ∧ Kd.R (Kd.int .i64) 3 w' w0.heap.size (fun k_ => (P0_ k_ ∨ w.heap.size ≤ k_)) u9000_ r ∧ Below w0.heap.size w0 w' ∧ Kept w w' (fun k_ => P0_ k_) := by
 have HO0 := Aside0.mk (show Kd.R (Kd.int .i64) 3 w w0.heap.size (fun k_ => (P0_ k_ ∨ w.heap.size ≤ k_)) u9000_ l0 from Kd.R_mono ho0 (fun k_ hk => (.inl hk)))
 have HK := Aside0.mk (Kept.refl w (fun k_ => P0_ k_))
 have HW0 := Aside0.mk hB.size
 have HB := Aside0.mk hB
 clear hB
 have H : (slices_insertionSortOrdered_int.l0 k l0 a1 a2 (wrap64 (a1 + 1))) = some r := h
 clear h
 have H' := Aside0.mk H
 clear H
 go_enter Try.func123, Try.ntmps123
 go_wp2
 go_loopg [6] k (fun kq v6 w' => ∃ (x0_1 : List Int) (x6_1 : Int), v6 = .int .i64 x6_1 ∧ Aside0 (slices_insertionSortOrdered_int.l0 kq x0_1 a1 a2 x6_1 = some r) ∧ Aside0 (kq ≤ k) ∧ Aside0 (Kd.R (Kd.int .i64) 3 w' w0.heap.size (fun k_ => (P0_ k_ ∨ w.heap.size ≤ k_)) u9000_ x0_1) ∧ Aside0 (Kept w w' (fun k_ => P0_ k_)) ∧ Aside0 (Below w0.heap.size w0 w'))
 case atStart => exact ⟨(l0), (wrap64 (a1 + 1)), (by first | rfl | (simp; done) | (simp [*]; done)), H', ⟨Nat.le_refl _⟩, ⟨by (with_reducible repeat (first | apply Kd.R_alloc | apply Kd.R_drewN | apply Kd.R_drew)); exact HO0.out⟩, ⟨by repeat (first | (with_reducible first | exact HK.out | apply Kept.alloc | apply Kept.drewN | apply Kept.drew) | exact HK.out)⟩, ⟨by repeat (first | (with_reducible first | exact HB.out | apply below_alloc | apply pw_below_drewN | apply below_drew1) | exact HB.out)⟩⟩
 case round =>
  clear H'
  try clear c1
  try clear p2
  obtain ⟨x0_1, x6_1, rfl, HA, HK1, HO_0, HK, HB⟩ := hrel
  cases gk with
  | zero => exact absurd HA.out (by simp [slices_insertionSortOrdered_int.l0])
  | succ k1 =>
   have H := HA.out
   clear HA
   simp only [slices_insertionSortOrdered_int.l0] at H
   by_cases c4 : x6_1 < a2
   ·rw [if_pos c4] at H
    have c4b0 : decide (x6_1 < a2) = true := decide_eq_true c4
    clear c4
    have H' := Aside0.mk H
    clear H
    go_wp2
    go_loopg [7] k1 (fun kq v7 w' => ∃ (x0_2 : List Int) (x7_2 : Int), v7 = .int .i64 x7_2 ∧ Aside0 (slices_insertionSortOrdered_int.l1 kq x0_2 a1 a2 x6_1 x7_2 = some r) ∧ Aside0 (kq ≤ k1) ∧ Aside0 (Kd.R (Kd.int .i64) 3 w' w0.heap.size (fun k_ => (P0_ k_ ∨ w.heap.size ≤ k_)) u9000_ x0_2) ∧ Aside0 (Kept w w' (fun k_ => P0_ k_)) ∧ Aside0 (Below w0.heap.size w0 w'))
    case atStart => exact ⟨(x0_1), (x6_1), (by first | rfl | (simp; done) | (simp [*]; done)), H', ⟨Nat.le_refl _⟩, ⟨by (with_reducible repeat (first | apply Kd.R_alloc | apply Kd.R_drewN | apply Kd.R_drew)); exact HO_0.out⟩, ⟨by repeat (first | (with_reducible first | exact HK.out | apply Kept.alloc | apply Kept.drewN | apply Kept.drew) | exact HK.out)⟩, ⟨by repeat (first | (with_reducible first | exact HB.out | apply below_alloc | apply pw_below_drewN | apply below_drew1) | exact HB.out)⟩⟩
    case round =>
     clear H'
     try clear c1
     try clear p2
     try clear c4
     try clear c4b0
     try clear p2
     obtain ⟨x0_2, x7_2, rfl, HA, HK2, HO_0, HK, HB⟩ := hrel
     cases gk with
     | zero => exact absurd HA.out (by simp [slices_insertionSortOrdered_int.l1])
     | succ k2 =>
      have H := HA.out
      clear HA
      simp only [slices_insertionSortOrdered_int.l1] at H
      by_cases c5 : x7_2 > a1
      ·rw [if_pos c5] at H
       have c5b0 : decide (a1 < x7_2) = true := decide_eq_true c5
       clear c5
       by_cases c6 : 0 ≤ x7_2
       ·rw [if_pos c6] at H
        have c6b0 : decide (0 ≤ x7_2) = true := decide_eq_true c6
        clear c6
        by_cases c7 : x7_2 < (x0_2.length : Int)
        ·rw [if_pos c7] at H
         have c7b0 : decide (x7_2 < (x0_2.length : Int)) = true := decide_eq_true c7
         clear c7
         obtain ⟨ji8, hji8⟩ : ∃ j_ : Int, (wrap64 (x7_2 - 1)) = j_ := ⟨_, rfl⟩
         replace H : (if 0 ≤ (ji8) then (if (ji8) < (x0_2.length : Int) then ((cmp_Less_int.f (rd x0_2 x7_2) (rd x0_2 (ji8))).bind fun t276 => (if t276 = true then (slices_insertionSortOrdered_int.l1 k2 ((x0_2.set (x7_2 : Int).toNat (rd x0_2 (ji8))).set ((ji8) : Int).toNat (rd x0_2 x7_2)) a1 a2 x6_1 ji8) else (slices_insertionSortOrdered_int.l0 k2 x0_2 a1 a2 (wrap64 (x6_1 + 1))))) else (none)) else (none)) = some r := by first | (rw [hji8] at H; exact H) | (simp only [hji8] at H ⊢; exact H)
         have hji8w : (IntKind.i64.wrap (x7_2 - 1)) = ji8 := (i64_w _).trans hji8
         by_cases c9 : 0 ≤ (ji8)
         ·rw [if_pos c9] at H
          have c9b0 : decide (0 ≤ (ji8)) = true := decide_eq_true c9
          clear c9
          by_cases c10 : (ji8) < (x0_2.length : Int)
          ·rw [if_pos c10] at H
           have c10b0 : decide ((ji8) < (x0_2.length : Int)) = true := decide_eq_true c10
           clear c10
           replace H := Option.bind_eq_some_iff.mp H
           obtain ⟨t276, A110, H⟩ := H
           replace H : (if t276 = true then (slices_insertionSortOrdered_int.l1 k2 ((x0_2.set (x7_2 : Int).toNat (rd x0_2 (ji8))).set ((ji8) : Int).toNat (rd x0_2 x7_2)) a1 a2 x6_1 ji8) else (slices_insertionSortOrdered_int.l0 k2 x0_2 a1 a2 (wrap64 (x6_1 + 1)))) = some r := H
           have A11 := Aside0.mk A110
           clear A110
           by_cases c12 : t276 = true
           ·subst c12
            have H1 : (slices_insertionSortOrdered_int.l1 k2 ((x0_2.set (x7_2 : Int).toNat (rd x0_2 (ji8))).set ((ji8) : Int).toNat (rd x0_2 x7_2)) a1 a2 x6_1 ji8) = some r := by rw [if_pos rfl] at H; exact H
            clear H
            have H := H1
            clear H1
            obtain ⟨y279, hy279⟩ : ∃ y_ : List Int, y_ = (x0_2.set (x7_2 : Int).toNat (rd x0_2 (ji8))) := ⟨_, rfl⟩
            replace H : (slices_insertionSortOrdered_int.l1 k2 (y279.set ((ji8) : Int).toNat (rd x0_2 x7_2)) a1 a2 x6_1 ji8) = some r := by first | (rw [hy279]; with_reducible exact H) | (have H2_ := (Option.bind_some _ _).symm.trans H; rw [hy279]; with_reducible exact H2_) | (have H2_ := (Option.bind_some _ _).symm.trans H; with_reducible exact H2_) | with_reducible exact H | (rw [hy279]; exact H) | exact H
            have Ny279 := Aside0.mk hy279
            clear hy279
            obtain ⟨y280, hy280⟩ : ∃ y_ : List Int, y_ = (y279.set ((ji8) : Int).toNat (rd x0_2 x7_2)) := ⟨_, rfl⟩
            replace H : (slices_insertionSortOrdered_int.l1 k2 y280 a1 a2 x6_1 ji8) = some r := by first | (rw [hy280]; with_reducible exact H) | (have H2_ := (Option.bind_some _ _).symm.trans H; rw [hy280]; with_reducible exact H2_) | (have H2_ := (Option.bind_some _ _).symm.trans H; with_reducible exact H2_) | with_reducible exact H | (rw [hy280]; exact H) | exact H
            have Ny280 := Aside0.mk hy280
            clear hy280
            have H' := Aside0.mk H
            clear H
            try go_wp2
            have n0_ := Aside0.mk (Kd.R_drew HO_0.out)
            have n1_ := Aside0.mk (Kept.drew HK.out)
            have n2_ := Aside0.mk (below_drew1 HB.out)
            clear HO_0
            clear HK
            clear HB
            have HO_0 := n0_
            have HK := n1_
            have HB := n2_
            clear n0_ n1_ n2_
            obtain ⟨Ao16, co16, eo16⟩ := Kd.R_slice HO_0.out
            (first | subst eo16 | (injection eo16 with f1_ f2_ f3_; have f4_ := f1_.symm; have f5_ := f3_.symm; clear f1_ f2_ f3_; subst f4_; subst f5_))
            have p274 : 0 ≤ (x7_2 : Int) := of_decide_eq_true (by first | (with_reducible assumption) | assumption)
            have q274 : x7_2 < (x0_2.length : Int) := of_decide_eq_true (by first | (with_reducible assumption) | assumption)
            obtain ⟨ad274, e274, hx274_0⟩ := Kd.at_int (Kd.R_reads' HO_0.out).2.2 x7_2 p274 q274
            cases e274
            replace p274 := eq_true p274
            replace q274 := eq_true q274
            have p275 : 0 ≤ ((ji8) : Int) := of_decide_eq_true (by first | (with_reducible assumption) | assumption)
            have q275 : (ji8) < (x0_2.length : Int) := of_decide_eq_true (by first | (with_reducible assumption) | assumption)
            obtain ⟨ad275, e275, hx275_0⟩ := Kd.at_int (Kd.R_reads' HO_0.out).2.2 (ji8) p275 q275
            obtain rfl : ad274 = ad275 := (by injection e275)
            replace p275 := eq_true p275
            replace q275 := eq_true q275
            refine start_ (n := 15) (S := fun w' => w'.cell? (ad274.add (x7_2).toNat) = some (.int .i64 (rd x0_2 x7_2)) ∧ w'.cell? (ad274.add ((ji8)).toNat) = some (.int .i64 (rd x0_2 (ji8)))) (ds := []) (mb 15 0) (by kernel_rfl) rfl rfl ⟨hx274_0, hx275_0⟩ (fun hHeld => ?_); refine with_tabW slices_insertionSortOrdered_int.tab4 slices_insertionSortOrdered_int.bits4 (fun HT_ HW_ => ?_)
            generalize wr.drew = w15 at HO_0 HK HB hx274_0 hx275_0 hHeld ⊢
            refine pureV 0 16 15 1 HT_ ?_
            refine pureV 1 17 15 3 HT_ ?_
            refine pureV 2 18 15 7 HT_ ?_
            refine pureV 3 19 15 15 HT_ ?_
            refine pureV 4 20 15 31 HT_ ?_
            refine pureV 5 21 15 63 HT_ ?_
            refine pureV 6 22 15 127 HT_ ?_
            refine pureV 8 24 15 383 HT_ ?_
            refine pureV 9 25 15 895 HT_ ?_
            refine pureV 10 26 15 1919 HT_ ?_
            refine pureV 11 27 15 3967 HT_ ?_
            refine takeV 7 23 15 4095 HT_ HW_ hHeld rfl (by rintro w' ⟨s0, s1⟩; go_simp; with_reducible rfl) ?_
            refine takeV 12 28 15 8191 HT_ HW_ hHeld rfl (by rintro w' ⟨s0, s1⟩; go_simp; with_reducible rfl) ?_
            refine one_ (i := 13) (N := some 29) (mb 15 16383) rfl rfl (one_of HT_.out (by kernel_rfl)) (by decide) (fun K hK => ?_)
            refine goes_ Try.func129 (by kernel_rfl) rfl #[.int .i64 (rd x0_2 x7_2), .int .i64 (rd x0_2 (ji8))] (by rfl) rfl rfl (by (try simp only [List.map_toArray, List.map_cons, List.map_nil]); first | done | (simp only [hji8]; rfl) | rfl | (simp only [List.length_drop, List.length_take]; rfl)) ?_
            with_reducible refine (cmp_Less_int.calls (rd x0_2 x7_2) (rd x0_2 (ji8)) true _ A11.out).mono ?_
            rintro e w' ⟨rfl, ⟨nd, rfl⟩⟩
            refine ⟨_, rfl, ?_⟩
            refine hK.out _ _ ⟨hHeld.1, hHeld.2⟩ (fun hHeld => ?_)
            clear hK K
            refine norm_ (a' := ?_) ?_ ?_
            rotate_left
            ·show Act.put _ (some 29) _ = _
             simp only [Act.put, List.setIfInBounds_toArray, List.set_cons_zero, List.set_cons_succ, i64_w, i32_w]
             rfl
            refine pureV 14 30 15 32767 HT_ ?_
            refine done_ (done_of HT_.out (by kernel_rfl)) ?_
            try go_wp2
            (try (rw [drewN_self w15]; generalize hq_ : World.drewN w15 _ = w15; have n0_ : Aside0 (Kd.R (Kd.int .i64) 3 w15 w0.heap.size (fun k_ => (P0_ k_ ∨ w.heap.size ≤ k_)) (.slice (some ad274) x0_2.length co16) x0_2) := ⟨by rw [← hq_]; exact (by (with_reducible repeat (first | apply Kd.R_alloc | apply Kd.R_drewN | apply Kd.R_drew)); exact HO_0.out)⟩; have n1_ : Aside0 (Kept w w15 (fun k_ => P0_ k_)) := ⟨by rw [← hq_]; exact (by repeat (first | (with_reducible first | exact HK.out | apply Kept.alloc | apply Kept.drewN | apply Kept.drew) | exact HK.out))⟩; have n2_ : Aside0 (Below w0.heap.size w0 w15) := ⟨by rw [← hq_]; exact (by repeat (first | (with_reducible first | exact HB.out | apply below_alloc | apply pw_below_drewN | apply below_drew1) | exact HB.out))⟩; clear HO_0 HK HB hq_; have HO_0 := n0_; have HK := n1_; have HB := n2_; clear n0_ n1_ n2_))
            have n0_ := Aside0.mk (Kd.R_drew HO_0.out)
            have n1_ := Aside0.mk (Kept.drew HK.out)
            have n2_ := Aside0.mk (below_drew1 HB.out)
            clear HO_0
            clear HK
            clear HB
            have HO_0 := n0_
            have HK := n1_
            have HB := n2_
            clear n0_ n1_ n2_
            have p277 : 0 ≤ ((ji8) : Int) := of_decide_eq_true (by first | (with_reducible assumption) | assumption)
            have q277 : (ji8) < (x0_2.length : Int) := of_decide_eq_true (by first | (with_reducible assumption) | assumption)
            obtain ⟨ad277, e277, hx277_0⟩ := Kd.at_int (Kd.R_reads' HO_0.out).2.2 (ji8) p277 q277
            obtain rfl : ad274 = ad277 := (by injection e277)
            replace p277 := eq_true p277
            replace q277 := eq_true q277
            have p278 : 0 ≤ (x7_2 : Int) := of_decide_eq_true (by first | (with_reducible assumption) | assumption)
            have q278 : x7_2 < (x0_2.length : Int) := of_decide_eq_true (by first | (with_reducible assumption) | assumption)
            obtain ⟨ad278, e278, hx278_0⟩ := Kd.at_int (Kd.R_reads' HO_0.out).2.2 x7_2 p278 q278
            obtain rfl : ad274 = ad278 := (by injection e278)
            replace p278 := eq_true p278
            replace q278 := eq_true q278
            have p13 : 0 ≤ (x7_2 : Int) := of_decide_eq_true (by first | (with_reducible assumption) | assumption)
            have q13 : (x7_2 : Int) < ((x0_2.length : Int) : Int) := of_decide_eq_true (by first | (with_reducible assumption) | assumption)
            obtain ⟨go13, co13, eo13, gb13, gl13, cl13, HG13⟩ := Kd.R_form HO_0.out (by omega)
            (first | cases eo13 | (injection eo13 with ea_ en_ ec_; (first | subst ea_ | (injection ea_ with ea_; subst ea_)); subst ec_; clear en_))
            have GB13 := Aside0.mk gb13
            have GG13 := Aside0.mk HG13
            clear gb13 gl13 HG13
            have HMgo13 := Aside0.mk (show (P0_ go13 ∨ w.heap.size ≤ go13) from (HO_0.out.1 _ rfl))
            (first | simp only [add_plain] at hx274_0 | skip)
            (first | simp only [add_plain] at hx275_0 | skip)
            (first | simp only [add_plain] at hx277_0 | skip)
            (first | simp only [add_plain] at hx278_0 | skip)
            obtain ⟨hx13_0, hf13_0⟩ := Kd.R_celln 0 HO_0.out (x7_2 : Int) p13 q13
            replace p13 := eq_true p13
            replace q13 := eq_true q13
            have HP18 := Kd.R_putn HO_0.out (x7_2 : Int) (rd x0_2 (ji8))
            rw [← Ny279.out] at HP18
            have HQ18 := Aside0.mk HP18
            clear HP18
            have p14 : 0 ≤ ((ji8) : Int) := of_decide_eq_true (by first | (with_reducible assumption) | assumption)
            have q14 : ((ji8) : Int) < ((x0_2.length : Int) : Int) := of_decide_eq_true (by first | (with_reducible assumption) | assumption)
            obtain ⟨hx14_0, hf14_0⟩ := Kd.R_celln 0 HQ18.out ((ji8) : Int) p14 q14
            replace p14 := eq_true p14
            replace q14 := eq_true q14
            have HP19 := Kd.R_putn HQ18.out ((ji8) : Int) (rd x0_2 x7_2)
            rw [← Ny280.out] at HP19
            have HQ19 := Aside0.mk HP19
            clear HP19
            refine start_ (n := 18) (S := fun w' => w'.cell? ⟨go13, ((ji8)).toNat, none⟩ = some (.int .i64 (rd x0_2 (ji8))) ∧ w'.cell? ⟨go13, (x7_2).toNat, none⟩ = some (.int .i64 (rd x0_2 x7_2))) (ds := [15, 17]) (mb 18 0) (by kernel_rfl) rfl rfl ⟨hx277_0, hx278_0⟩ (fun hHeld => ?_); refine with_tabW slices_insertionSortOrdered_int.tab6 slices_insertionSortOrdered_int.bits6 (fun HT_ HW_ => ?_)
            generalize w15.drew = w17 at HO_0 HK HB GG13 HQ18 HQ19 hf13_0 hf14_0 hx13_0 hx14_0 hx274_0 hx275_0 hx277_0 hx278_0 hHeld ⊢
            refine pureV 0 33 18 1 HT_ ?_
            refine pureV 1 34 18 3 HT_ ?_
            refine pureV 2 35 18 7 HT_ ?_
            refine pureV 3 36 18 15 HT_ ?_
            refine pureV 4 37 18 31 HT_ ?_
            refine pureV 5 38 18 63 HT_ ?_
            refine pureV 6 39 18 127 HT_ ?_
            refine pureV 7 40 18 255 HT_ ?_
            refine pureV 8 41 18 511 HT_ ?_
            refine pureV 10 43 18 1535 HT_ ?_
            refine pureV 11 44 18 3583 HT_ ?_
            refine pureV 12 45 18 7679 HT_ ?_
            refine takeV 9 42 18 8191 HT_ HW_ hHeld rfl (by rintro w' ⟨s0, s1⟩; go_simp; with_reducible rfl) ?_
            refine takeV 13 46 18 16383 HT_ HW_ hHeld rfl (by rintro w' ⟨s0, s1⟩; go_simp; with_reducible rfl) ?_
            refine pureV 14 47 18 32767 HT_ ?_
            refine last_ (i := 15) (N := none) (mb 18 65535) rfl rfl (one_of HT_.out (by kernel_rfl)) (by decide) (fun K hK => ?_)
            refine skip_ (w1 := ?_) (by rfl) rfl ?_ ?_
            rotate_left
            ·go_simp
             rfl
            refine hK.out _ _ ?_
            clear hK K
            refine pureV 16 48 18 131071 HT_ ?_
            refine last_ (i := 17) (N := none) (mb 18 262143) rfl rfl (one_of HT_.out (by kernel_rfl)) (by decide) (fun K hK => ?_)
            refine skip_ (w1 := ?_) (by rfl) rfl ?_ ?_
            rotate_left
            ·go_simp
             rfl
            refine hK.out _ _ ?_
            clear hK K
            refine done_ (done_of HT_.out (by kernel_rfl)) ?_
            try go_wp2
            go_roundg k2
            case measure => have := HK1.out; have := HK2.out; omega
            case rel => exact ⟨(y280), (ji8), (by first | rfl | (simp; done) | (simp only [← hji8] <;> (first | rfl | simp)) | (simp [*]; done)), H', ⟨by have := HK1.out; have := HK2.out; omega⟩, ⟨by (with_reducible repeat (first | apply Kd.R_alloc | apply Kd.R_drewN | apply Kd.R_drew)); exact HQ19.out⟩, ⟨by repeat (first | (with_reducible first | exact HK.out | apply Kept.alloc | apply Kept.drewN | apply Kept.drew | refine Kept.setCell ?_ HMgo13.out _ | refine Kept.setCell ?_ HMgo13.out _) | exact HK.out)⟩, ⟨by repeat (first | (with_reducible first | exact HB.out | apply below_alloc | apply pw_below_drewN | apply below_drew1 | refine below_set ?_ GB13.out | refine below_set ?_ GB13.out) | exact HB.out)⟩⟩
           ·replace c12 := Bool.eq_false_iff.mpr c12
            subst c12
            have H1 : (slices_insertionSortOrdered_int.l0 k2 x0_2 a1 a2 (wrap64 (x6_1 + 1))) = some r := by rw [if_neg (show ¬ (false = true) by decide)] at H; exact H
            clear H
            have H := H1
            clear H1
            have H' := Aside0.mk H
            clear H
            try go_wp2
            have n0_ := Aside0.mk (Kd.R_drew HO_0.out)
            have n1_ := Aside0.mk (Kept.drew HK.out)
            have n2_ := Aside0.mk (below_drew1 HB.out)
            clear HO_0
            clear HK
            clear HB
            have HO_0 := n0_
            have HK := n1_
            have HB := n2_
            clear n0_ n1_ n2_
            obtain ⟨Ao21, co21, eo21⟩ := Kd.R_slice HO_0.out
            (first | subst eo21 | (injection eo21 with f1_ f2_ f3_; have f4_ := f1_.symm; have f5_ := f3_.symm; clear f1_ f2_ f3_; subst f4_; subst f5_))
            have p274 : 0 ≤ (x7_2 : Int) := of_decide_eq_true (by first | (with_reducible assumption) | assumption)
            have q274 : x7_2 < (x0_2.length : Int) := of_decide_eq_true (by first | (with_reducible assumption) | assumption)
            obtain ⟨ad274, e274, hx274_0⟩ := Kd.at_int (Kd.R_reads' HO_0.out).2.2 x7_2 p274 q274
            cases e274
            replace p274 := eq_true p274
            replace q274 := eq_true q274
            have p275 : 0 ≤ ((ji8) : Int) := of_decide_eq_true (by first | (with_reducible assumption) | assumption)
            have q275 : (ji8) < (x0_2.length : Int) := of_decide_eq_true (by first | (with_reducible assumption) | assumption)
            obtain ⟨ad275, e275, hx275_0⟩ := Kd.at_int (Kd.R_reads' HO_0.out).2.2 (ji8) p275 q275
            obtain rfl : ad274 = ad275 := (by injection e275)
            replace p275 := eq_true p275
            replace q275 := eq_true q275
            refine start_ (n := 15) (S := fun w' => w'.cell? (ad274.add (x7_2).toNat) = some (.int .i64 (rd x0_2 x7_2)) ∧ w'.cell? (ad274.add ((ji8)).toNat) = some (.int .i64 (rd x0_2 (ji8)))) (ds := []) (mb 15 0) (by kernel_rfl) rfl rfl ⟨hx274_0, hx275_0⟩ (fun hHeld => ?_); refine with_tabW slices_insertionSortOrdered_int.tab4 slices_insertionSortOrdered_int.bits4 (fun HT_ HW_ => ?_)
            generalize wr.drew = w20 at HO_0 HK HB hx274_0 hx275_0 hHeld ⊢
            refine pureV 0 16 15 1 HT_ ?_
            refine pureV 1 17 15 3 HT_ ?_
            refine pureV 2 18 15 7 HT_ ?_
            refine pureV 3 19 15 15 HT_ ?_
            refine pureV 4 20 15 31 HT_ ?_
            refine pureV 5 21 15 63 HT_ ?_
            refine pureV 6 22 15 127 HT_ ?_
            refine pureV 8 24 15 383 HT_ ?_
            refine pureV 9 25 15 895 HT_ ?_
            refine pureV 10 26 15 1919 HT_ ?_
            refine pureV 11 27 15 3967 HT_ ?_
            refine takeV 7 23 15 4095 HT_ HW_ hHeld rfl (by rintro w' ⟨s0, s1⟩; go_simp; with_reducible rfl) ?_
            refine takeV 12 28 15 8191 HT_ HW_ hHeld rfl (by rintro w' ⟨s0, s1⟩; go_simp; with_reducible rfl) ?_
            refine one_ (i := 13) (N := some 29) (mb 15 16383) rfl rfl (one_of HT_.out (by kernel_rfl)) (by decide) (fun K hK => ?_)
            refine goes_ Try.func129 (by kernel_rfl) rfl #[.int .i64 (rd x0_2 x7_2), .int .i64 (rd x0_2 (ji8))] (by rfl) rfl rfl (by (try simp only [List.map_toArray, List.map_cons, List.map_nil]); first | done | (simp only [hji8]; rfl) | rfl | (simp only [List.length_drop, List.length_take]; rfl)) ?_
            with_reducible refine (cmp_Less_int.calls (rd x0_2 x7_2) (rd x0_2 (ji8)) false _ A11.out).mono ?_
            rintro e w' ⟨rfl, ⟨nd, rfl⟩⟩
            refine ⟨_, rfl, ?_⟩
            refine hK.out _ _ ⟨hHeld.1, hHeld.2⟩ (fun hHeld => ?_)
            clear hK K
            refine norm_ (a' := ?_) ?_ ?_
            rotate_left
            ·show Act.put _ (some 29) _ = _
             simp only [Act.put, List.setIfInBounds_toArray, List.set_cons_zero, List.set_cons_succ, i64_w, i32_w]
             rfl
            refine pureV 14 30 15 32767 HT_ ?_
            refine done_ (done_of HT_.out (by kernel_rfl)) ?_
            try go_wp2
            go_roundg k2
            case measure => have := HK1.out; have := HK2.out; omega
            case rel => exact ⟨(x0_2), (wrap64 (x6_1 + 1)), (by first | rfl | (simp; done) | (simp [*]; done)), H', ⟨by have := HK1.out; have := HK2.out; omega⟩, ⟨by (with_reducible repeat (first | apply Kd.R_alloc | apply Kd.R_drewN | apply Kd.R_drew)); exact HO_0.out⟩, ⟨by repeat (first | (with_reducible first | exact HK.out | apply Kept.alloc | apply Kept.drewN | apply Kept.drew) | exact HK.out)⟩, ⟨by repeat (first | (with_reducible first | exact HB.out | apply below_alloc | apply pw_below_drewN | apply below_drew1) | exact HB.out)⟩⟩
          ·rw [if_neg c10] at H
           exact absurd H (by simp)
         ·rw [if_neg c9] at H
          exact absurd H (by simp)
        ·rw [if_neg c7] at H
         exact absurd H (by simp)
       ·rw [if_neg c6] at H
        exact absurd H (by simp)
      ·rw [if_neg c5] at H
       have c5b0 : decide (a1 < x7_2) = false := decide_eq_false c5
       clear c5
       have H' := Aside0.mk H
       clear H
       try go_wp2
       have n0_ := Aside0.mk (Kd.R_drew HO_0.out)
       have n1_ := Aside0.mk (Kept.drew HK.out)
       have n2_ := Aside0.mk (below_drew1 HB.out)
       clear HO_0
       clear HK
       clear HB
       have HO_0 := n0_
       have HK := n1_
       have HB := n2_
       clear n0_ n1_ n2_
       refine start_ (n := 15) (S := fun w' => True) (ds := []) (mb 15 0) (by kernel_rfl) rfl rfl trivial (fun hHeld => ?_); refine with_tabW slices_insertionSortOrdered_int.tab4 slices_insertionSortOrdered_int.bits4 (fun HT_ HW_ => ?_)
       generalize wr.drew = w22 at HO_0 HK HB hHeld ⊢
       refine pureV 0 16 15 1 HT_ ?_
       refine pureV 1 17 15 3 HT_ ?_
       refine pureV 2 18 15 7 HT_ ?_
       refine pureV 3 19 15 15 HT_ ?_
       refine pureU 4 20 15 31 HT_ ?_
       refine pureU 5 21 15 63 HT_ ?_
       refine pureU 6 22 15 127 HT_ ?_
       refine pureU 7 23 15 255 HT_ ?_
       refine pureU 8 24 15 511 HT_ ?_
       refine pureU 9 25 15 1023 HT_ ?_
       refine pureU 10 26 15 2047 HT_ ?_
       refine pureU 11 27 15 4095 HT_ ?_
       refine pureU 12 28 15 8191 HT_ ?_
       refine pureU 13 29 15 16383 HT_ ?_
       refine pureV 14 30 15 32767 HT_ ?_
       refine done_ (done_of HT_.out (by kernel_rfl)) ?_
       try go_wp2
       go_roundg k2
       case measure => have := HK1.out; have := HK2.out; omega
       case rel => exact ⟨(x0_2), (wrap64 (x6_1 + 1)), (by first | rfl | (simp; done) | (simp [*]; done)), H', ⟨by have := HK1.out; have := HK2.out; omega⟩, ⟨by (with_reducible repeat (first | apply Kd.R_alloc | apply Kd.R_drewN | apply Kd.R_drew)); exact HO_0.out⟩, ⟨by repeat (first | (with_reducible first | exact HK.out | apply Kept.alloc | apply Kept.drewN | apply Kept.drew) | exact HK.out)⟩, ⟨by repeat (first | (with_reducible first | exact HB.out | apply below_alloc | apply pw_below_drewN | apply below_drew1) | exact HB.out)⟩⟩
   ·rw [if_neg c4] at H
    have c4b0 : decide (x6_1 < a2) = false := decide_eq_false c4
    clear c4
    obtain rfl := Option.some.inj H
    go_wp2
    first | go_end0 | ((try simp only [Exit.inBlock, Exit.then]); refine bodyPost_ret (results_none rfl _ _ _) rfl ?_)
    exact ⟨by first | rfl | (simp [errW_none, errW_some] <;> rfl) | (simp [*, errW_none, errW_some] <;> rfl), by (with_reducible repeat (first | apply Kd.R_alloc | apply Kd.R_drewN | apply Kd.R_drew)); exact HO_0.out, by repeat (first | (with_reducible first | exact HB.out | apply below_alloc | apply pw_below_drewN | apply below_drew1) | exact HB.out), by repeat (first | (with_reducible first | exact HK.out | apply Kept.alloc | apply Kept.drewN | apply Kept.drew) | exact HK.out)⟩

/-! ### slices_siftDownOrdered_int: function 143 -/
/- not reached: pdqsort's contract takes rows of 12 or fewer -/

/-! ### slices_heapSortOrdered_int: function 124 -/
/- not reached: pdqsort's contract takes rows of 12 or fewer -/

/-! ### bits_Len32: function 132 -/
/- math/bits.Len32: not asked for (math/bits.Len stands by the library's contract). -/

/-! ### bits_Len64: function 133 -/
/- math/bits.Len64: not asked for (math/bits.Len stands by the library's contract). -/

/-! ### bits_Len: function 119 -/
/-- How many bits a number has, by the library's contract. -/
def bits_Len.f (a0 : Int) : Option (Int) := if 0 ≤ a0 ∧ a0 ≤ 18446744073709551615 then some ((Lib.bitLen a0.toNat : Nat) : Int) else none
theorem bits_Len.calls (a0 : Int) (r : Int) (w : World) (h : bits_Len.f a0 = some r) :
  Calls Try.prog 119 #[.int .u64 a0] w fun e w' => e = .returned (.int .i64 r) ∧ Drawn0 w w' := by
 unfold bits_Len.f at h
 by_cases c : 0 ≤ a0 ∧ a0 ≤ 18446744073709551615
 ·rw [if_pos c] at h
  obtain rfl := Option.some.inj h
  have hc := Any.bits_Len Try.bitsLen a0 w c.1 c.2
  refine hc.mono ?_
  rintro e w' ⟨rfl, rfl⟩
  exact ⟨rfl, ⟨0, rfl⟩⟩
 ·rw [if_neg c] at h
  cases h

/-! ### slices_nextPowerOfTwo: function 144 -/
/- not reached: pdqsort's contract takes rows of 12 or fewer -/

-- NOT PRINTED: function 145 (slices_xorshift_Next)

-- NOT PRINTED: function 125 (slices_breakPatternsOrdered_int)

-- NOT PRINTED: function 151 (slices_order2Ordered_int)

-- NOT PRINTED: function 147 (slices_medianOrdered_int)

-- NOT PRINTED: function 146 (slices_medianAdjacentOrdered_int)

-- NOT PRINTED: function 126 (slices_choosePivotOrdered_int)

/-! ### slices_reverseRangeOrdered_int: function 127 -/
/- not reached: pdqsort's contract takes rows of 12 or fewer -/

/-! ### slices_partialInsertionSortOrdered_int: function 128 -/
/- not reached: pdqsort's contract takes rows of 12 or fewer -/

/-! ### slices_partitionEqualOrdered_int: function 130 -/
/- not reached: pdqsort's contract takes rows of 12 or fewer -/

/-! ### slices_partitionOrdered_int: function 131 -/
/- not reached: pdqsort's contract takes rows of 12 or fewer -/

/-! ### slices_pdqsortOrdered_int: function 118 -/
/-- The sort of 12 whole numbers or fewer. -/
def slices_pdqsortOrdered_int.f (k : Nat) (l0 : List Int) (a1 : Int) (a2 : Int) (a3 : Int) : Option (List Int) := if wrap64 (a2 - a1) ≤ 12 then slices_insertionSortOrdered_int.f k l0 a1 a2 else none
theorem slices_pdqsortOrdered_int.mono : ∀ a0 a1 a2 a3 k, LeO (slices_pdqsortOrdered_int.f k a0 a1 a2 a3) (slices_pdqsortOrdered_int.f (k + 1) a0 a1 a2 a3) := by
 intro a0 a1 a2 a3 k
 unfold slices_pdqsortOrdered_int.f
 exact LeO.ite (slices_insertionSortOrdered_int.mono _ _ _ _) (LeO.none _)
set_option maxHeartbeats 8000000 in
set_option maxRecDepth 100000 in
theorem slices_pdqsortOrdered_int.calls (k : Nat) (P0_ : Nat → Prop) (u9000_ : Value) (l0 : List Int) (a1 : Int) (a2 : Int) (a3 : Int) (r : List Int) (w0 w : World) (hB : Below w0.heap.size w0 w) (ho0 : Kd.R (Kd.int .i64) 3 w w0.heap.size P0_ u9000_ l0) (h : slices_pdqsortOrdered_int.f k l0 a1 a2 a3 = some r) :
  Calls Try.prog 118 #[u9000_, .int .i64 a1, .int .i64 a2, .int .i64 a3] w fun e w' => e = .returned (.tuple #[]) ∧ Kd.R (Kd.int .i64) 3 w' w0.heap.size (fun k_ => (P0_ k_ ∨ w.heap.size ≤ k_)) u9000_ r ∧ Below w0.heap.size w0 w' ∧ Kept w w' (fun k_ => P0_ k_) := by
 unfold slices_pdqsortOrdered_int.f at h
 by_cases hs : wrap64 (a2 - a1) ≤ 12
 ·rw [if_pos hs] at h
  have CC := Aside0.mk (slices_insertionSortOrdered_int.calls k P0_ u9000_ l0 a1 a2 r w0 w hB ho0 h)
  have b0 : decide (wrap64 (a2 - a1) ≤ 12) = true := decide_eq_true hs
  clear h hs hB ho0
  go_enter Try.func118, Try.ntmps118
  go_wp2
  go_loopg [1, 2, 3, 8, 9] 1 (fun kq v1 v2 v3 v8 v9 w' => v1 = .int .i64 a1 ∧ v2 = .int .i64 a2 ∧ v3 = .int .i64 a3 ∧ v8 = .bool true ∧ v9 = .bool true ∧ Aside0 (kq = 1) ∧ Aside0 (w' = w))
  case atStart => exact ⟨rfl, rfl, rfl, rfl, rfl, ⟨rfl⟩, ⟨rfl⟩⟩
  case round =>
   obtain ⟨rfl, rfl, rfl, rfl, rfl, HK, HW⟩ := hrel
   have hw := HW.out
   subst hw
   clear HW
   go_wp2_with (first | ((with_reducible refine gate_callee (f := 123) rfl ?_); refine goesL_ (some 27) rfl rfl Try.func123 (by kernel_rfl) rfl #[u9000_, .int .i64 a1, .int .i64 a2] rfl (by (try simp only [List.map_toArray, List.map_cons, List.map_nil]); first | done | rfl) ?_; refine (CC.out).mono ?_; rintro e w5 ⟨rfl, hr5, hb5, hk5⟩; refine ⟨_, rfl, ?_⟩; have HR5 := Aside0.mk hr5; have HB5 := Aside0.mk hb5; have HK5 := Aside0.mk hk5; clear hr5 hb5 hk5))
   first | go_end0 | ((try simp only [Exit.inBlock, Exit.then]); refine bodyPost_ret (results_none rfl _ _ _) rfl ?_)
   exact ⟨rfl, HR5.out, HB5.out, HK5.out⟩
 ·rw [if_neg hs] at h
  cases h

/-! ### slices_Sort_int_int: function 109 -/
def slices_Sort_int_int.f (k : Nat) (l0 : List Int) : Option (List Int) := (bits_Len.f (IntKind.u64.wrap ((l0.length : Int)))).bind fun t281 => ((slices_pdqsortOrdered_int.f k l0 0 (l0.length : Int) t281).bind fun t282 => (some t282))
theorem slices_Sort_int_int.mono : ∀ a0 k, LeO (slices_Sort_int_int.f k a0) (slices_Sort_int_int.f (k + 1) a0) := by
 intro a0 k
 unfold slices_Sort_int_int.f
 repeat' first
   | (with_reducible exact slices_pdqsortOrdered_int.mono _ _ _ _ _)
   | (with_reducible exact LeO.refl _)
   | (with_reducible exact LeO.none _)
   | (with_reducible refine LeO.ite ?_ ?_)
   | (with_reducible refine LeO.bind ?_ (fun _ => ?_))
   | exact slices_pdqsortOrdered_int.mono _ _ _ _ _
   | exact LeO.none _
   | refine LeO.ite ?_ ?_
   | refine LeO.bind ?_ (fun _ => ?_)
set_option maxHeartbeats 8000000 in
set_option maxRecDepth 100000 in
theorem slices_Sort_int_int.calls (k : Nat) (P0_ : Nat → Prop) (u9000_ : Value) (l0 : List Int) (r : List Int) (w0 w : World) (hB : Below w0.heap.size w0 w) (ho0 : Kd.R (Kd.int .i64) 3 w w0.heap.size P0_ u9000_ l0) (h : slices_Sort_int_int.f k l0 = some r) :
  Calls Try.prog 109 #[u9000_] w fun e w' => e = .returned (.tuple #[]) ∧ Kd.R (Kd.int .i64) 3 w' w0.heap.size (fun k_ => (P0_ k_ ∨ w.heap.size ≤ k_)) u9000_ r ∧ Below w0.heap.size w0 w' ∧ Kept w w' (fun k_ => P0_ k_) := by
 have HO0 := Aside0.mk (show Kd.R (Kd.int .i64) 3 w w0.heap.size (fun k_ => (P0_ k_ ∨ w.heap.size ≤ k_)) u9000_ l0 from Kd.R_mono ho0 (fun k_ hk => (.inl hk)))
 have HK := Aside0.mk (Kept.refl w (fun k_ => P0_ k_))
 have HW0 := Aside0.mk hB.size
 have HB := Aside0.mk hB
 clear hB
 have H : ((bits_Len.f (IntKind.u64.wrap ((l0.length : Int)))).bind fun t281 => ((slices_pdqsortOrdered_int.f k l0 0 (l0.length : Int) t281).bind fun t282 => (some t282))) = some r := h
 clear h
 replace H := Option.bind_eq_some_iff.mp H
 obtain ⟨t281, A20, H⟩ := H
 replace H : ((slices_pdqsortOrdered_int.f k l0 0 (l0.length : Int) t281).bind fun t282 => (some t282)) = some r := H
 have A2 := Aside0.mk A20
 clear A20
 replace H := Option.bind_eq_some_iff.mp H
 obtain ⟨t282, A30, H⟩ := H
 replace H : (some t282) = some r := H
 have A3 := Aside0.mk A30
 clear A30
 obtain rfl := Option.some.inj H
 obtain ⟨Ao4, co4, eo4⟩ := Kd.R_slice HO0.out
 subst eo4
 go_enter Try.func109, Try.ntmps109
 go_wp2_with (first | ((with_reducible refine gate_callee (f := 119) rfl ?_); refine goesL_ (some 9) rfl rfl Try.func119 (by kernel_rfl) rfl #[.int .u64 (IntKind.u64.wrap ((l0.length : Int)))] rfl (by (try simp only [List.map_toArray, List.map_cons, List.map_nil]); first | done | rfl | (simp only [List.length_drop, List.length_take]; rfl)) ?_; (with_reducible refine (bits_Len.calls (IntKind.u64.wrap ((l0.length : Int))) t281 _ A2.out).mono ?_); rintro e w' ⟨rfl, ⟨nd, rfl⟩⟩; refine ⟨_, rfl, ?_⟩) | ((with_reducible refine gate_callee (f := 118) rfl ?_); refine goesL_ (some 10) rfl rfl Try.func118 (by kernel_rfl) rfl #[.slice Ao4 l0.length co4, .int .i64 0, .int .i64 (l0.length : Int), .int .i64 t281] rfl (by (try simp only [List.map_toArray, List.map_cons, List.map_nil]); first | done | rfl | (simp only [List.length_drop, List.length_take]; rfl)) ?_; (with_reducible refine (slices_pdqsortOrdered_int.calls k (fun k_ => some k_ = (.slice Ao4 l0.length co4 : Value).ownBlock) (.slice Ao4 l0.length co4) l0 0 (l0.length : Int) t281 t282 w0 _ ?side1 ?side2 A3.out).mono ?_); (case side1 => repeat (first | (with_reducible first | exact HB.out | apply below_alloc | apply pw_below_drewN | apply below_drew1) | exact HB.out)); (case side2 => exact Kd.R_tight rfl HO0.out); rintro e w5 ⟨rfl, hy0, hb, hkp⟩; refine ⟨_, rfl, ?_⟩; have n0_ := Aside0.mk (Kd.R_reok rfl hy0 (fun k_ e_ => HO0.out.1 k_ e_)); have n1_ := Aside0.mk (Kept.then_ (S := (fun k_ => P0_ k_)) (by repeat (first | (with_reducible first | exact HK.out | apply Kept.alloc | apply Kept.drewN | apply Kept.drew) | exact HK.out)) hkp (fun k_ hs_ => (fun e_ => (HO0.out.1 k_ e_.symm)) hs_)); have n2_ := Aside0.mk (hb); clear HO0; clear HK; clear HB; have HO0 := n0_; have HK := n1_; have HB := n2_; clear n0_ n1_ n2_; (try clear hb); (try clear hkp); (try clear hy0)))
 first | go_end0 | ((try simp only [Exit.inBlock, Exit.then]); refine bodyPost_ret (results_none rfl _ _ _) rfl ?_)
 exact ⟨by first | rfl | (simp [errW_none, errW_some] <;> rfl) | (simp [*, errW_none, errW_some] <;> rfl), by (with_reducible repeat (first | apply Kd.R_alloc | apply Kd.R_drewN | apply Kd.R_drew)); exact HO0.out, by repeat (first | (with_reducible first | exact HB.out | apply below_alloc | apply pw_below_drewN | apply below_drew1) | exact HB.out), by repeat (first | (with_reducible first | exact HK.out | apply Kept.alloc | apply Kept.drewN | apply Kept.drew) | exact HK.out)⟩

-- NOT PRINTED: function 134 (slices_insertionSortCmpFunc_int)

-- NOT PRINTED: function 148 (slices_siftDownCmpFunc_int)

-- NOT PRINTED: function 135 (slices_heapSortCmpFunc_int)

-- NOT PRINTED: function 136 (slices_breakPatternsCmpFunc_int)

-- NOT PRINTED: function 152 (slices_order2CmpFunc_int)

-- NOT PRINTED: function 150 (slices_medianCmpFunc_int)

-- NOT PRINTED: function 149 (slices_medianAdjacentCmpFunc_int)

-- NOT PRINTED: function 137 (slices_choosePivotCmpFunc_int)

-- NOT PRINTED: function 138 (slices_reverseRangeCmpFunc_int)

-- NOT PRINTED: function 139 (slices_partialInsertionSortCmpFunc_int)

-- NOT PRINTED: function 140 (slices_partitionEqualCmpFunc_int)

-- NOT PRINTED: function 141 (slices_partitionCmpFunc_int)

-- NOT PRINTED: function 120 (slices_pdqsortCmpFunc_int)

-- NOT PRINTED: function 110 (slices_SortFunc_int_int)

/-! ### impl_circle: function 78 -/
theorem impl_circle.less_at (x y : Int) : cmp_Less_int.f x y = some (decide (x < y)) := by
 unfold cmp_Less_int.f
 by_cases c : x < y <;> simp [cmp_isNaN_int.f, c]
theorem ins3_some (a b c : Int) : slices_insertionSortOrdered_int.f 10 [a, b, c] 0 3 = some (Search.ins3 a b c) := by
 have w1 : wrap64 1 = 1 := by unfold wrap64; omega
 have w2 : wrap64 2 = 2 := by unfold wrap64; omega
 have w3 : wrap64 3 = 3 := by unfold wrap64; omega
 have w4 : wrap64 0 = 0 := by unfold wrap64; omega
 have w5 : (1 : Int) + 1 = 2 := rfl
 unfold slices_insertionSortOrdered_int.f Search.ins3
 by_cases c1 : b < a
 ·by_cases c2 : c < a
  ·by_cases c3 : c < b
   ·simp [slices_insertionSortOrdered_int.l0, slices_insertionSortOrdered_int.l1, impl_circle.less_at, rd, w1, w2, w3, w4, w5, c1, c2, c3]
   ·simp [slices_insertionSortOrdered_int.l0, slices_insertionSortOrdered_int.l1, impl_circle.less_at, rd, w1, w2, w3, w4, w5, c1, c2, c3]
  ·simp [slices_insertionSortOrdered_int.l0, slices_insertionSortOrdered_int.l1, impl_circle.less_at, rd, w1, w2, w3, w4, w5, c1, c2]
 ·by_cases c2 : c < b
  ·by_cases c3 : c < a
   ·simp [slices_insertionSortOrdered_int.l0, slices_insertionSortOrdered_int.l1, impl_circle.less_at, rd, w1, w2, w3, w4, w5, c1, c2, c3]
   ·simp [slices_insertionSortOrdered_int.l0, slices_insertionSortOrdered_int.l1, impl_circle.less_at, rd, w1, w2, w3, w4, w5, c1, c2, c3]
  ·simp [slices_insertionSortOrdered_int.l0, slices_insertionSortOrdered_int.l1, impl_circle.less_at, rd, w1, w2, w3, w4, w5, c1, c2]
theorem sort3_some (a b c : Int) : slices_Sort_int_int.f 10 [a, b, c] = some (Search.ins3 a b c) := by
 have w1 : wrap64 (3 - 0) ≤ 12 := by unfold wrap64; omega
 have h1 : bits_Len.f (IntKind.u64.wrap (3 : Int)) = some 2 := by kernel_rfl
 show (bits_Len.f (IntKind.u64.wrap (3 : Int))).bind (fun t388 => ((slices_pdqsortOrdered_int.f 10 [a, b, c] 0 3 t388).bind fun t389 => (some t389))) = _
 rw [h1, Option.bind_some]
 unfold slices_pdqsortOrdered_int.f
 rw [if_pos w1, ins3_some, Option.bind_some]
def circOk (v : Int) (L : List (List Int)) : Bool := decide (1 ≤ v ∧ v ≤ 40 ∧ 1 ≤ L.length ∧ L.length ≤ 10) && L.all fun t => decide (t.length = 3 ∧ 0 ≤ rd t 0 ∧ rd t 0 ≤ 1000 ∧ 0 ≤ rd t 1 ∧ rd t 1 ≤ 1000)
def impl_circle.f (v : Int) (L : List (List Int)) : Option (List (List Int)) := if circOk v L = true then some (Search.putAll [] (Search.circAll v L)) else none
theorem impl_circle.info22 : (Try.prog.info? 22).map (fun i => (i.zero, i.size, i.bytes)) = some (some (.slice none 0 0), 1, 24) := by kernel_rfl
theorem impl_circle.grew (w : World) (o : Obj) : w.heap.size < (w.alloc o).drew.heap.size := by
 show w.heap.size < (w.heap.push o).size
 rw [Array.size_push]
 exact Nat.lt_succ_self _
theorem impl_circle.lit (w : World) {base : Nat} (hb : base ≤ w.heap.size) (x y z : Int) : Kd.R (Kd.int .i64) 3 (w.alloc (.cells #[.int .i64 x, .int .i64 y, .int .i64 z] 3 (0, 0))) base (fun k => k = w.heap.size) (.slice (some ⟨w.heap.size, 0, none⟩) 3 3) [x, y, z] :=
 Kd.R_of_own ⟨rfl, .inr ⟨w.heap.size, 3, _, rfl, hb, heap_alloc_new _ _, Nat.le_refl _, by unfold maxLen; omega, rfl, rfl⟩⟩ (fun k hk => by
  have : some w.heap.size = some k := hk
  exact (Option.some.inj this).symm)
theorem circRows_step (v : Int) (t : List Int) (n : Nat) (k : Int) (h : 0 < n) : Search.circRows v t n k = Search.circRow v t k :: Search.circRows v t (n - 1) (k + 1) := by
 cases n with
 | zero => omega
 | succ n => rfl
theorem circAll_cons (v : Int) (t : List Int) (L : List (List Int)) : Search.circAll v (t :: L) = Search.circRows v t v.toNat 0 ++ Search.circAll v L := rfl
theorem circAll_len (v : Int) : ∀ L : List (List Int), (Search.circAll v L).length = L.length * v.toNat
 | [] => by simp [Search.circAll]
 | t :: L => by rw [circAll_cons, List.length_append, Search.circRows_len, circAll_len v L, List.length_cons, Nat.succ_mul, Nat.add_comm]
theorem circAll_small (v : Int) : ∀ L : List (List Int), ∀ x ∈ Search.circAll v L, x.length = 3
 | [], x, h => by simp [Search.circAll] at h
 | t :: L, x, h => by
  rw [circAll_cons] at h
  rcases List.mem_append.1 h with h | h
  ·exact Search.circRows_small _ _ _ _ x h
  ·exact circAll_small v L x h
set_option maxHeartbeats 8000000 in
set_option maxRecDepth 100000 in
theorem impl_circle.calls (a0 : Int) (A1 : Option Addr) (c1 : Nat) (l1 : List (List Int)) (r : List (List Int)) (w : World) (hr1 : Kd.C (Kd.slice 3 (Kd.int .i64)) w A1 l1.length l1) (hc1 : l1.length ≤ c1) (h : impl_circle.f a0 l1 = some r) :
  Calls Try.prog 78 #[.int .i64 a0, .slice A1 l1.length c1] w fun e w' => ∃ v0_ : Value, e = .returned (v0_) ∧ Kd.S (Kd.slice 3 (Kd.int .i64)) 22 w' w.heap.size (fun _ => True) v0_ r ∧ Below w.heap.size w w' := by
 unfold impl_circle.f at h
 by_cases hok : circOk a0 l1 = true
 ·rw [if_pos hok] at h
  obtain rfl := Option.some.inj h
  have HOK := Aside0.mk hok
  have HR1 := Aside0.mk hr1
  have HC1 := Aside0.mk hc1
  have HLL := Aside0.mk (show l1.length ≤ 10 by
   have h0 := hok
   unfold circOk at h0
   rw [Bool.and_eq_true, decide_eq_true_eq] at h0
   exact h0.1.2.2.2)
  have HLA := Aside0.mk (show (Search.circAll a0 l1).length ≤ 400 by
   have h0 := hok
   unfold circOk at h0
   rw [Bool.and_eq_true, decide_eq_true_eq] at h0
   rw [circAll_len]
   exact Nat.le_trans (Nat.mul_le_mul h0.1.2.2.2 (show a0.toNat ≤ 40 by omega)) (Nat.le_refl _))
  clear h hok hr1 hc1
  go_enter Try.func78, Try.ntmps78
  go_wp2
  go_loopg [5, 12] (l1.length + 1) (fun kq v5 v12 w' => ∃ (i : Nat) (out : List (List Int)), v12 = .int .i64 (i : Int) ∧ Aside0 (i ≤ l1.length ∧ kq + i = l1.length + 1) ∧ Aside0 (out ++ Search.circAll a0 (l1.drop i) = Search.circAll a0 l1) ∧ Aside0 (Kd.S (Kd.slice 3 (Kd.int .i64)) 22 w' w.heap.size (fun _ => True) v5 out) ∧ Aside0 (Below w.heap.size w w'))
  case atStart => exact ⟨0, [], rfl, ⟨by omega⟩, ⟨by simp⟩, ⟨Kd.S_nil _ _ _ _ _⟩, ⟨Below.refl _ _⟩⟩
  case round =>
   obtain ⟨i, out, rfl, HI, HO, HS, HB⟩ := hrel
   cases gk with
   | zero => exact absurd HI.out (by omega)
   | succ k1 =>
    by_cases hi : i < l1.length
    ·have ci : decide ((i : Int) < (l1.length : Int)) = true := decide_eq_true (by omega)
     have p1 : 0 ≤ (i : Int) := by omega
     have q1 : (i : Int) < (l1.length : Int) := by omega
     obtain ⟨ad1, A7, c7, e1, hx1, hl1, hi1⟩ := at_L1 HR1.out (i : Int) p1 q1
     subst e1
     replace hx1 := (HB.out.cell (World.block_lt_of_cell? w _ hx1)).trans hx1
     rw [Int.toNat_natCast] at hx1
     have HR7 := Aside0.mk hi1
     have HC7 := Aside0.mk hl1
     have HII := Aside0.mk hi
     replace p1 := eq_true p1
     replace q1 := eq_true q1
     clear hi hi1 hl1
     have HV := Aside0.mk (show 1 ≤ a0 ∧ a0 ≤ 40 by
      have := HOK.out
      unfold circOk at this
      rw [Bool.and_eq_true, decide_eq_true_eq] at this
      exact ⟨this.1.1, this.1.2.1⟩)
     have HT3 := Aside0.mk (show (rd_L1 l1 (i : Int)).length = 3 ∧ 0 ≤ rd (rd_L1 l1 (i : Int)) 0 ∧ rd (rd_L1 l1 (i : Int)) 0 ≤ 1000 ∧ 0 ≤ rd (rd_L1 l1 (i : Int)) 1 ∧ rd (rd_L1 l1 (i : Int)) 1 ≤ 1000 by
      have := HOK.out
      unfold circOk at this
      rw [Bool.and_eq_true, List.all_eq_true] at this
      have hm : rd_L1 l1 (i : Int) ∈ l1 := by
       have e : rd_L1 l1 (i : Int) = l1[i]'HII.out := by simp [rd_L1, List.getD_eq_getElem?_getD, HII.out]
       rw [e]
       exact List.getElem_mem _
      exact of_decide_eq_true (this.2 _ hm))
     have HD := Aside0.mk (show l1.drop i = rd_L1 l1 (i : Int) :: l1.drop (i + 1) by
      have e : rd_L1 l1 (i : Int) = l1[i]'HII.out := by simp [rd_L1, List.getD_eq_getElem?_getD, HII.out]
      rw [e]
      exact List.drop_eq_getElem_cons HII.out)
     generalize rd_L1 l1 (i : Int) = t at hx1 HR7 HC7 HT3 HD
     go_wp2
     go_loopg [5, 17] (a0.toNat + 1) (fun kq v5 v17 w' => ∃ (kk : Nat) (out2 : List (List Int)), v17 = .int .i64 (kk : Int) ∧ Aside0 (kk ≤ a0.toNat ∧ kq + kk = a0.toNat + 1) ∧ Aside0 (out2 ++ (Search.circRows a0 t (a0.toNat - kk) (kk : Int) ++ Search.circAll a0 (l1.drop (i + 1))) = Search.circAll a0 l1) ∧ Aside0 (Kd.S (Kd.slice 3 (Kd.int .i64)) 22 w' w.heap.size (fun _ => True) v5 out2) ∧ Aside0 (Below w.heap.size w w'))
     case atStart => exact ⟨0, out, rfl, ⟨by omega⟩, ⟨by
      have h1 := HO.out
      rw [HD.out] at h1
      exact h1⟩, HS, HB⟩
     case round =>
      obtain ⟨kk, out2, rfl, HI2, HO2, HS2, HB2⟩ := hrel
      cases gk with
      | zero => exact absurd HI2.out (by omega)
      | succ k2 =>
       by_cases hk : (kk : Int) < a0
       ·have ck : decide ((kk : Int) < a0) = true := decide_eq_true hk
        have cz : (a0 == 0) = false := beq_eq_false_iff_ne.2 (by have := HV.out; omega)
        have hx7 : ∃ ad7, A7 = some ad7 ∧ w.cell? ad7 = some (.int .i64 (rd t 0)) ∧ w.cell? ⟨ad7.block, ad7.off + 1, none⟩ = some (.int .i64 (rd t 1)) := by
         obtain ⟨ad, e, h1⟩ := Kd.at_int HR7.out 0 (by omega) (by have := HT3.out; omega)
         obtain ⟨ad', e', h2⟩ := Kd.at_int HR7.out 1 (by omega) (by have := HT3.out; omega)
         rw [e] at e'
         obtain rfl : ad = ad' := by injection e'
         refine ⟨ad, e, ?_, ?_⟩
         ·rw [show ((0 : Int)).toNat = 0 from rfl] at h1
          (try rw [Addr.add_zero'] at h1)
          exact h1
         ·(try simp only [show (1 : Int).toNat = 1 from rfl, Nat.reduceMul, Nat.reduceEqDiff, Go.Addr.add, ↓reduceIte] at h2)
          exact h2
        obtain ⟨ad7, e7, hy0, hy1⟩ := hx7
        subst e7
        have HY0 := Aside0.mk hy0
        have HY1 := Aside0.mk hy1
        have ql0 : (0 < t.length) = True := eq_true (by have := HT3.out; omega)
        have ql1 : (1 < t.length) = True := eq_true (by have := HT3.out; omega)
        have qz0 : (0 < (t.length : Int)) = True := eq_true (by have := HT3.out; omega)
        have qz1 : (1 < (t.length : Int)) = True := eq_true (by have := HT3.out; omega)
        have cz2 : (a0 = 0) = False := eq_false (by have := HV.out; omega)
        clear hk hy0 hy1
        go_wp2
        refine start_ (n := 21) (S := fun w' => w'.cell? ad7 = some (.int .i64 (rd t 0)) ∧ w'.cell? ⟨ad7.block, ad7.off + 1, none⟩ = some (.int .i64 (rd t 1))) (ds := []) (mb 21 0) (by kernel_rfl) rfl rfl ⟨((HB2.out.cell (World.block_lt_of_cell? w _ HY0.out)).trans HY0.out), ((HB2.out.cell (World.block_lt_of_cell? w _ HY1.out)).trans HY1.out)⟩ (fun hHeld => ?_)
        refine with_tab (T := rtab .any (opsOf Try.f78 8)) rfl (fun HT_ => ?_)
        refine pureV 0 20 21 1 HT_ ?_
        refine pureV 1 21 21 3 HT_ ?_
        refine pureV 2 22 21 7 HT_ ?_
        refine pureV 4 24 21 23 HT_ ?_
        refine pureV 6 26 21 87 HT_ ?_
        refine pureV 8 28 21 343 HT_ ?_
        refine pureV 9 29 21 855 HT_ ?_
        refine pureV 11 31 21 2903 HT_ ?_
        refine pureV 12 32 21 6999 HT_ ?_
        refine pureV 15 35 21 39767 HT_ ?_
        refine pureV 17 37 21 170839 HT_ ?_
        refine take_ (i := 3) (N := some 23) (v := ?_) (a' := ?_) (mb 21 170847) rfl rfl (by kernel_rfl) (fun _ _ _ h => h) (Or.inl ⟨by rfl, ?_⟩) hHeld ?_ ?_
        rotate_left
        ·rintro w' ⟨s0, s1⟩
         go_simp
         with_reducible rfl
        rotate_left
        ·simp only [Act.put, List.setIfInBounds_toArray, List.set_cons_zero, List.set_cons_succ, i64_w, i32_w]
         rfl
        refine pureV 5 25 21 170879 HT_ ?_
        refine pureV 7 27 21 171007 HT_ ?_
        refine take_ (i := 10) (N := some 30) (v := ?_) (a' := ?_) (mb 21 172031) rfl rfl (by kernel_rfl) (fun _ _ _ h => h) (Or.inl ⟨by rfl, ?_⟩) hHeld ?_ ?_
        rotate_left
        ·rintro w' ⟨s0, s1⟩
         go_simp
         with_reducible rfl
        rotate_left
        ·simp only [Act.put, List.setIfInBounds_toArray, List.set_cons_zero, List.set_cons_succ, i64_w, i32_w]
         rfl
        refine take_ (i := 13) (N := some 33) (v := ?_) (a' := ?_) (mb 21 180223) rfl rfl (by kernel_rfl) (fun _ _ _ h => h) (Or.inl ⟨by rfl, ?_⟩) hHeld ?_ ?_
        rotate_left
        ·rintro w' ⟨s0, s1⟩
         go_simp
         with_reducible rfl
        rotate_left
        ·simp only [Act.put, List.setIfInBounds_toArray, List.set_cons_zero, List.set_cons_succ, i64_w, i32_w]
         rfl
        refine pureV 14 34 21 196607 HT_ ?_
        refine pureV 16 36 21 262143 HT_ ?_
        refine pureV 18 38 21 524287 HT_ ?_
        refine one_ (i := 19) (N := some 39) (mb 21 1048575) rfl rfl (by kernel_rfl) (by decide) (fun K hK => ?_)
        refine value_ (w1 := ?_) (v := ?_) (by rfl) rfl ?_ ?_
        rotate_left 2
        ·go_simp
         constructor
         ·rfl
         ·rfl
        refine hK.out _ _ ⟨(World.cell?_alloc_lt _ _ _ (World.block_lt_of_cell? _ _ hHeld.1)).trans hHeld.1, (World.cell?_alloc_lt _ _ _ (World.block_lt_of_cell? _ _ hHeld.2)).trans hHeld.2⟩ (fun hHeld2 => ?_)
        clear hK K
        refine norm_ (a' := ?_) ?_ ?_
        rotate_left
        ·show Act.put _ (some 39) _ = _
         simp only [Act.put, List.setIfInBounds_toArray, List.set_cons_zero, List.set_cons_succ, i64_w, i32_w]
         rfl
        refine pureV 20 9 21 2097151 HT_ ?_
        refine done_ (by kernel_rfl) ?_
        have e1 : wrap64 (rd t 0 + (kk : Int)) = (kk : Int) + rd t 0 := by have := HT3.out; have := HV.out; have := HI2.out; unfold wrap64; omega
        have e2 : wrap64 (wrap64 (rd t 0 + rd t 1) + (kk : Int)) = (kk : Int) + rd t 0 + rd t 1 := by have := HT3.out; have := HV.out; have := HI2.out; unfold wrap64; omega
        rw [e1, e2]
        have HROW := Aside0.mk (show Search.circRow a0 t (kk : Int) = Search.ins3 (kk : Int) (Int.tmod ((kk : Int) + rd t 0) a0) (Int.tmod ((kk : Int) + rd t 0 + rd t 1) a0) from rfl)
        generalize Int.tmod ((kk : Int) + rd t 0) a0 = X at HROW ⊢
        generalize Int.tmod ((kk : Int) + rd t 0 + rd t 1) a0 = Y at HROW ⊢
        clear hHeld hHeld2 e1 e2
        have HN := Aside0.mk (Kd.R_drew (impl_circle.lit wr (base := w.heap.size) HB2.out.size (kk : Int) X Y))
        have HS3 := Aside0.mk (Kd.S_mono (ok' := fun k => k ≠ wr.heap.size) (Kd.S_drew (Kd.S_alloc (Kd.S_bound HS2.out) (.cells #[.int .i64 (kk : Int), .int .i64 X, .int .i64 Y] 3 (0, 0)))) (fun k hk => by have := hk.2.2.1; omega))
        have HB3 := Aside0.mk (below_drew (below_alloc HB2.out (.cells #[.int .i64 (kk : Int), .int .i64 X, .int .i64 Y] 3 (0, 0))))
        have HZ3 := Aside0.mk (impl_circle.grew wr (.cells #[.int .i64 (kk : Int), .int .i64 X, .int .i64 Y] 3 (0, 0)))
        have HZ2 := Aside0.mk HB2.out.size
        generalize (wr.alloc (.cells #[.int .i64 (kk : Int), .int .i64 X, .int .i64 Y] 3 (0, 0))).drew = w3 at HN HS3 HB3 HZ3 ⊢
        generalize wr.heap.size = b at HN HS3 HZ3 HZ2 ⊢
        have HS33 := Aside0.mk (sort3_some (kk : Int) X Y)
        have LO2 := Aside0.mk (show (out2.length + 1) * 24 ≤ 140737488355328 by
         have h1 := congrArg List.length HO2.out
         rw [List.length_append] at h1
         have := HLA.out
         omega)
        go_wp2_with (first | ((with_reducible refine gate_callee (f := 109) rfl ?_); refine goesL_ (some 41) rfl rfl Try.func109 (by kernel_rfl) rfl #[.slice (some ⟨b, 0, none⟩) 3 3] rfl (by (try simp only [List.map_toArray, List.map_cons, List.map_nil]); first | done | rfl) ?_; (with_reducible refine (slices_Sort_int_int.calls 10 (fun k => k = b) (.slice (some ⟨b, 0, none⟩) 3 3) [(kk : Int), X, Y] _ w _ HB3.out HN.out HS33.out).mono ?_); rintro e w4 ⟨rfl, ho4, hb4, hk4⟩; refine ⟨_, rfl, ?_⟩; have HS4 := Aside0.mk (Kd.S_step HS3.out (fun k hk hlt => hk4.2 k hlt hk)); have HB4 := Aside0.mk hb4; have HN4 := Aside0.mk (Kd.R_mono (ok' := fun k => k = b) (Kd.R_tight rfl ho4) (fun k hk => by injection hk)); have HZ4 := Aside0.mk hk4.1; clear ho4 hb4 hk4) | ((with_reducible refine gate_builtin (b := .append) (xs := #[.tmp 42, .tmp 44]) rfl ?_); at_builtin; refine Kd.S_append (Kd.slice 3 (Kd.int .i64)) (w0 := w) (W := w4) w.heap.size rfl (.tmp 42) (.tmp 44) 23 22 (.slice none 0 0) 24 rfl Try.underlying23 impl_circle.info22 rfl (by decide) (by omega) u5 out2 (Search.ins3 (kk : Int) X Y) [.slice (some ⟨b, 0, none⟩) 3 3] (fun _ => True) (fun k => k = b) rfl rfl ?aP ?aK ?aF ?aO ?aB ?aS ?aL ?_; (case aP => exact Kd.M_row HN4.out); (case aK => exact fun k hk => ⟨trivial, fun e => (Kd.S_R HS4.out).1 k e.symm hk⟩); (case aF => exact fun _ _ => trivial); (case aO => exact Kd.S_mono HS4.out (fun k hk => ⟨trivial, hk⟩)); (case aB => exact HB4.out); (case aS => exact HB4.out.size); (case aL => exact LO2.out); intro v5 w5 ho5 hb5 hg5 hat5; have HS5 := Aside0.mk ho5; have HB5 := Aside0.mk hb5; clear ho5 hb5 hg5 hat5))
        have e3 : wrap64 ((kk : Int) + 1) = ((kk + 1 : Nat) : Int) := by have := HV.out; have := of_decide_eq_true ck; unfold wrap64; omega
        rw [e3]
        have HO5 := Aside0.mk (show (out2 ++ [Search.ins3 (kk : Int) X Y]) ++ (Search.circRows a0 t (a0.toNat - (kk + 1)) ((kk + 1 : Nat) : Int) ++ Search.circAll a0 (l1.drop (i + 1))) = Search.circAll a0 l1 by
         have h1 := HO2.out
         have h2 := of_decide_eq_true ck
         rw [circRows_step a0 t (a0.toNat - kk) (kk : Int) (by omega), HROW.out] at h1
         rw [← h1, show a0.toNat - (kk + 1) = a0.toNat - kk - 1 by omega, show ((kk + 1 : Nat) : Int) = (kk : Int) + 1 by omega]
         simp)
        have HI5 := Aside0.mk (show kk + 1 ≤ a0.toNat ∧ k2 + (kk + 1) = a0.toNat + 1 by have := HI2.out; have := of_decide_eq_true ck; omega)
        go_roundg k2
        case measure => have := HI5.out; omega
        case rel => exact ⟨kk + 1, _, rfl, HI5, HO5, HS5, HB5⟩
       ·have ck : decide ((kk : Int) < a0) = false := decide_eq_false hk
        have HE := Aside0.mk (show out2 ++ Search.circAll a0 (l1.drop (i + 1)) = Search.circAll a0 l1 by
         have h1 := HO2.out
         rw [show a0.toNat - kk = 0 by omega] at h1
         exact h1)
        have e4 : wrap64 ((i : Int) + 1) = ((i + 1 : Nat) : Int) := by have := HII.out; have h2 := HLL.out; unfold wrap64; omega
        have HI5 := Aside0.mk (show i + 1 ≤ l1.length ∧ k1 + (i + 1) = l1.length + 1 by have := HI.out; have := HII.out; omega)
        clear hk
        go_wp2
        rw [e4]
        go_roundg k1
        case measure => have := HI5.out; omega
        case rel => exact ⟨i + 1, _, rfl, HI5, HE, HS2, HB2⟩
    ·have ci : decide ((i : Int) < (l1.length : Int)) = false := decide_eq_false (by omega)
     have HE := Aside0.mk (show out = Search.circAll a0 l1 by
      have h1 := HO.out
      rw [List.drop_of_length_le (by omega)] at h1
      simpa [Search.circAll] using h1)
     have hpos : 0 < out.length := by
      rw [HE.out, circAll_len]
      have h0 := HOK.out
      unfold circOk at h0
      rw [Bool.and_eq_true, decide_eq_true_eq] at h0
      exact Nat.mul_pos (by omega) (by omega)
     obtain ⟨g, cap, hv, _, _, _⟩ := Kd.S_form HS.out hpos
     subst hv
     have HM := Aside0.mk (show ∀ x ∈ out, x.length ≤ 1000 by
      intro x hx
      rw [HE.out] at hx
      rw [circAll_small _ _ x hx]
      omega)
     have HN := Aside0.mk (show out.length ≤ 100000 by rw [HE.out]; have := HLA.out; omega)
     have HZ := Aside0.mk HB.out.size
     have ci2 : (i < l1.length) = False := eq_false hi
     clear hi hpos
     go_wp2_with (first | ((with_reducible refine gate_callee (f := 110) rfl ?_); refine goesL_ (some 49) rfl rfl Try.func110 (by kernel_rfl) rfl #[.slice (some ⟨g, 0, none⟩) out.length cap, .func (.func 111) #[] #[]] rfl (by (try simp only [List.map_toArray, List.map_cons, List.map_nil]); first | done | rfl) ?_; (with_reducible refine (Search.sort_rows HS.out HZ.out HM.out HN.out).mono ?_); rintro e w6 ⟨rfl, L6, hp6, hs6, hS6, hb6, hk6⟩; refine ⟨_, rfl, ?_⟩; rw [HE.out] at hp6; obtain rfl := Search.sorted_put hp6 hs6; have HS6 := Aside0.mk hS6; have HB6 := Aside0.mk (HB.out.trans hb6); clear hp6 hs6 hS6 hb6 hk6))
     go_ret
     exact ⟨_, rfl, HS6.out, HB6.out⟩
 ·rw [if_neg hok] at h
  cases h

end Go.Proofs.Ytgpnhaaklhinlaa.PFnExactCircleBlocks
