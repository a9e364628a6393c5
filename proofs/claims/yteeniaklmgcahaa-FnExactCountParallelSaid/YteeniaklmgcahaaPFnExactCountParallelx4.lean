-- Written by plug.py, a program of this session, over the kit's print of the function: checked by Lean alone.
import Derived.Test.YteeniaklmgcahaaPFnExactCountParallelx0
namespace Go.Proofs.Yteeniaklmgcahaa.PFnExactCountParallel
open Go.RowKit Go.Proofs.YteeniaklmgcahaaW.PrintWords Go.Proofs.YteeniaklmgcahaaW.PrintLast Go.Proofs.YteeniaklmgcahaaW.PrintMore
attribute [local go_sem] max2_int min2_int max_two min_two max_three min_three max_four min_four   -- for this text's walks alone
set_option linter.unusedVariables false
set_option linter.unusedSimpArgs false

/-! ### spec_trParallel: function 79 -/
mutual
def spec_trParallel.j1 : Nat → List (List Int) → List Bool → Int → Option (Int)
 | 0, _, _, _ => none
 | k + 1, x0, x1, x5 => if x5 = (x1.length : Int) then (some 1) else (spec_trParallel.l1 k x0 x1 x5 0 x0 (x0.length : Int) 0)
def spec_trParallel.l1 : Nat → List (List Int) → List Bool → Int → Int → List (List Int) → Int → Int → Option (Int)
 | 0, _, _, _, _, _, _, _ => none
 | k + 1, x0, x1, x5, x6, x27, x28, x29 => if x29 < x28 then (if 0 ≤ x29 then (if x29 < (x27.length : Int) then (if 0 < ((rd_L1 x27 x29).length : Int) then (if (rd (rd_L1 x27 x29) 0) = x5 then (if 1 < ((rd_L1 x27 x29).length : Int) then (if 0 ≤ (rd (rd_L1 x27 x29) 1) then (if (rd (rd_L1 x27 x29) 1) < (x1.length : Int) then (if (rdOf false x1 (rd (rd_L1 x27 x29) 1) = true) then (if 2 < ((rd_L1 x27 x29).length : Int) then (if 0 ≤ (rd (rd_L1 x27 x29) 2) then (if (rd (rd_L1 x27 x29) 2) < (x1.length : Int) then (if (rdOf false x1 (rd (rd_L1 x27 x29) 2) = true) then ((some (([] : List Bool) : List Bool)).bind fun y170 => (if y170.length + x1.length < 140737488355328 then ((some (y170 ++ x1 : List Bool)).bind fun y173 => (if 0 ≤ (rd (rd_L1 x27 x29) 0) then (if (rd (rd_L1 x27 x29) 0) < (y173.length : Int) then (if (rd (rd_L1 x27 x29) 1) < (y173.length : Int) then (if (rd (rd_L1 x27 x29) 2) < (y173.length : Int) then ((spec_trParallel.f k x0 (((y173.set ((rd (rd_L1 x27 x29) 0) : Int).toNat false).set ((rd (rd_L1 x27 x29) 1) : Int).toNat false).set ((rd (rd_L1 x27 x29) 2) : Int).toNat false)).bind fun t182 => (spec_trParallel.l1 k x0 x1 x5 (wrap64 (x6 + t182)) x27 x28 (wrap64 (x29 + 1)))) else (none)) else (none)) else (none)) else (none))) else (none))) else (spec_trParallel.l1 k x0 x1 x5 x6 x27 x28 (wrap64 (x29 + 1)))) else (none)) else (none)) else (none)) else (spec_trParallel.l1 k x0 x1 x5 x6 x27 x28 (wrap64 (x29 + 1)))) else (none)) else (none)) else (none)) else (spec_trParallel.l1 k x0 x1 x5 x6 x27 x28 (wrap64 (x29 + 1)))) else (none)) else (none)) else (none)) else (some x6)
def spec_trParallel.l0 : Nat → List (List Int) → List Bool → Int → Option (Int)
 | 0, _, _, _ => none
 | k + 1, x0, x1, x5 => if x5 < (x1.length : Int) then (if 0 ≤ x5 then (if rdOf false x1 x5 = true then (spec_trParallel.j1 k x0 x1 x5) else (spec_trParallel.l0 k x0 x1 (wrap64 (x5 + 1)))) else (none)) else (spec_trParallel.j1 k x0 x1 x5)
def spec_trParallel.f : Nat → List (List Int) → List Bool → Option (Int)
 | 0, _, _ => none
 | k + 1, l0, l1 => spec_trParallel.l0 k l0 l1 0
end
theorem spec_trParallel.mono_l : ∀ k, (∀ y0 y1, LeO (spec_trParallel.f k y0 y1) (spec_trParallel.f (k + 1) y0 y1)) ∧ (∀ y0 y1 y2, LeO (spec_trParallel.j1 k y0 y1 y2) (spec_trParallel.j1 (k + 1) y0 y1 y2)) ∧ (∀ y0 y1 y2 y3 y4 y5 y6, LeO (spec_trParallel.l1 k y0 y1 y2 y3 y4 y5 y6) (spec_trParallel.l1 (k + 1) y0 y1 y2 y3 y4 y5 y6)) ∧ (∀ y0 y1 y2, LeO (spec_trParallel.l0 k y0 y1 y2) (spec_trParallel.l0 (k + 1) y0 y1 y2))
 | 0 => ⟨fun _ _ r h => by simp [spec_trParallel.f] at h, fun _ _ _ r h => by simp [spec_trParallel.j1] at h, fun _ _ _ _ _ _ _ r h => by simp [spec_trParallel.l1] at h, fun _ _ _ r h => by simp [spec_trParallel.l0] at h⟩
 | k + 1 => by
  obtain ⟨ih0, ih1, ih2, ih3⟩ := spec_trParallel.mono_l k
  refine ⟨?_, ?_, ?_, ?_⟩
  ·intro y0 y1
   unfold spec_trParallel.f
   repeat' first
   | (with_reducible exact ih0 _ _)
   | (with_reducible exact ih1 _ _ _)
   | (with_reducible exact ih2 _ _ _ _ _ _ _)
   | (with_reducible exact ih3 _ _ _)
   | (with_reducible exact LeO.refl _)
   | (with_reducible exact LeO.none _)
   | (with_reducible refine LeO.ite ?_ ?_)
   | (with_reducible refine LeO.bind ?_ (fun _ => ?_))
   | exact ih0 _ _
   | exact ih1 _ _ _
   | exact ih2 _ _ _ _ _ _ _
   | exact ih3 _ _ _
   | exact LeO.none _
   | refine LeO.ite ?_ ?_
   | refine LeO.bind ?_ (fun _ => ?_)
  ·intro y0 y1 y2
   unfold spec_trParallel.j1
   repeat' first
   | (with_reducible exact ih0 _ _)
   | (with_reducible exact ih1 _ _ _)
   | (with_reducible exact ih2 _ _ _ _ _ _ _)
   | (with_reducible exact ih3 _ _ _)
   | (with_reducible exact LeO.refl _)
   | (with_reducible exact LeO.none _)
   | (with_reducible refine LeO.ite ?_ ?_)
   | (with_reducible refine LeO.bind ?_ (fun _ => ?_))
   | exact ih0 _ _
   | exact ih1 _ _ _
   | exact ih2 _ _ _ _ _ _ _
   | exact ih3 _ _ _
   | exact LeO.none _
   | refine LeO.ite ?_ ?_
   | refine LeO.bind ?_ (fun _ => ?_)
  ·intro y0 y1 y2 y3 y4 y5 y6
   unfold spec_trParallel.l1
   repeat' first
   | (with_reducible exact ih0 _ _)
   | (with_reducible exact ih1 _ _ _)
   | (with_reducible exact ih2 _ _ _ _ _ _ _)
   | (with_reducible exact ih3 _ _ _)
   | (with_reducible exact LeO.refl _)
   | (with_reducible exact LeO.none _)
   | (with_reducible refine LeO.ite ?_ ?_)
   | (with_reducible refine LeO.bind ?_ (fun _ => ?_))
   | exact ih0 _ _
   | exact ih1 _ _ _
   | exact ih2 _ _ _ _ _ _ _
   | exact ih3 _ _ _
   | exact LeO.none _
   | refine LeO.ite ?_ ?_
   | refine LeO.bind ?_ (fun _ => ?_)
  ·intro y0 y1 y2
   unfold spec_trParallel.l0
   repeat' first
   | (with_reducible exact ih0 _ _)
   | (with_reducible exact ih1 _ _ _)
   | (with_reducible exact ih2 _ _ _ _ _ _ _)
   | (with_reducible exact ih3 _ _ _)
   | (with_reducible exact LeO.refl _)
   | (with_reducible exact LeO.none _)
   | (with_reducible refine LeO.ite ?_ ?_)
   | (with_reducible refine LeO.bind ?_ (fun _ => ?_))
   | exact ih0 _ _
   | exact ih1 _ _ _
   | exact ih2 _ _ _ _ _ _ _
   | exact ih3 _ _ _
   | exact LeO.none _
   | refine LeO.ite ?_ ?_
   | refine LeO.bind ?_ (fun _ => ?_)
theorem spec_trParallel.mono : ∀ a0 a1 k, LeO (spec_trParallel.f k a0 a1) (spec_trParallel.f (k + 1) a0 a1) := by
 intro a0 a1 k
 obtain ⟨ih0, ih1, ih2, ih3⟩ := spec_trParallel.mono_l k
 exact ih0 a0 a1
set_option maxHeartbeats 8000000 in
set_option maxRecDepth 100000 in
theorem spec_trParallel.calls (k : Nat) : ∀ (A0 : Option Addr) (c0 : Nat) (l0 : List (List Int)) (A1 : Option Addr) (c1 : Nat) (l1 : List Bool) (r : Int) (w : World) (hr0 : Kd.C (Kd.slice 3 (Kd.int .i64)) w A0 l0.length l0) (hc0 : l0.length ≤ c0) (hr1 : Kd.C Kd.bool w A1 l1.length l1) (hc1 : l1.length ≤ c1) (h : spec_trParallel.f k l0 l1 = some r),
  Calls Try.prog 79 #[.slice A0 l0.length c0, .slice A1 l1.length c1] w fun e w' => e = .returned (.int .i64 r) ∧ Below w.heap.size w w' := by
 induction k using Nat.strongRecOn with
 | _ k ih =>
 intro A0 c0 l0 A1 c1 l1 r w hr0 hc0 hr1 hc1 h
 cases k with
 | zero => exact absurd h (by simp [spec_trParallel.f])
 | succ k =>
 simp only [spec_trParallel.f] at h
 have HR0 := Aside0.mk hr0
 have HC0 := Aside0.mk hc0
 clear hr0 hc0
 have HR1 := Aside0.mk hr1
 have HC1 := Aside0.mk hc1
 clear hr1 hc1
 have HB := Aside0.mk (Below.refl w.heap.size w)
 have H : (spec_trParallel.l0 k l0 l1 0) = some r := h
 clear h
 have HC3 := Aside0.mk H
 clear H
 go_enter Try.func79, Try.ntmps79
 go_upto_block 0 with (fail)
 go_cut [5] (fun v5 wc => ∃ (kq : Nat) (x5_2 : Int), v5 = .int .i64 x5_2 ∧ Aside0 (spec_trParallel.j1 kq l0 l1 x5_2 = some r) ∧ Aside0 (kq ≤ k) ∧ Aside0 (Below w.heap.size w wc))
 case first =>
  have H := HC3.out
  clear HC3
  have H' := Aside0.mk H
  clear H
  go_wp2
  go_loopg [5] k (fun kq v5 w' => ∃ (x5_1 : Int), v5 = .int .i64 x5_1 ∧ Aside0 (spec_trParallel.l0 kq l0 l1 x5_1 = some r) ∧ Aside0 (kq ≤ k) ∧ Aside0 (Below w.heap.size w w'))
  case atStart => exact ⟨(0), (by first | rfl | (simp; done) | (simp [*]; done)), H', ⟨Nat.le_refl _⟩, ⟨by repeat (first | (with_reducible first | exact HB.out | apply below_alloc | apply pw_below_drewN | apply below_drew1) | exact HB.out)⟩⟩
  case round =>
   clear H'
   try clear c1
   try clear p2
   obtain ⟨x5_1, rfl, HA, HK1, HB⟩ := hrel
   cases gk with
   | zero => exact absurd HA.out (by simp [spec_trParallel.l0])
   | succ k1 =>
    have H := HA.out
    clear HA
    simp only [spec_trParallel.l0] at H
    by_cases c4 : x5_1 < (l1.length : Int)
    ·rw [if_pos c4] at H
     have c4b0 : decide (x5_1 < (l1.length : Int)) = true := decide_eq_true c4
     clear c4
     (first | rw [c4b0] | (simp only [i64_w, i32_w]; rw [c4b0]) | skip)
     by_cases c5 : 0 ≤ x5_1
     ·rw [if_pos c5] at H
      have c5b0 : decide (0 ≤ x5_1) = true := decide_eq_true c5
      clear c5
      obtain ⟨bq6, hbq6⟩ : ∃ b_ : Bool, b_ = (rdOf false l1 x5_1) := ⟨_, rfl⟩
      replace H : (if bq6 = true then (spec_trParallel.j1 k1 l0 l1 x5_1) else (spec_trParallel.l0 k1 l0 l1 (wrap64 (x5_1 + 1)))) = some r := by rw [← hbq6] at H; exact H
      have Nbq6 := Aside0.mk hbq6
      clear hbq6
      by_cases c7 : bq6 = true
      ·subst c7
       have H1 : (spec_trParallel.j1 k1 l0 l1 x5_1) = some r := by rw [if_pos rfl] at H; exact H
       clear H
       have H := H1
       clear H1
       have H' := Aside0.mk H
       clear H
       have p163 : 0 ≤ (x5_1 : Int) := of_decide_eq_true (by first | (with_reducible assumption) | assumption)
       have q163 : x5_1 < (l1.length : Int) := of_decide_eq_true (by first | (with_reducible assumption) | assumption)
       obtain ⟨ad163, e163, hx163_0⟩ := Kd.at_bool HR1.out x5_1 p163 q163
       (try rw [← Nbq6.out] at hx163_0)
       cases e163
       replace hx163_0 := (HB.out.cell (World.block_lt_of_cell? w _ hx163_0)).trans hx163_0
       replace p163 := eq_true p163
       replace q163 := eq_true q163
       go_wp2
       go_meet
       case rel => exact ⟨_, (x5_1), (by first | rfl | (simp; done) | (simp [*]; done)), H', ⟨by have := HK1.out; first | omega | exact Nat.le_refl _⟩, ⟨by repeat (first | (with_reducible first | exact HB.out | apply below_alloc | apply pw_below_drewN | apply below_drew1) | exact HB.out)⟩⟩
      ·replace c7 := Bool.eq_false_iff.mpr c7
       subst c7
       have H1 : (spec_trParallel.l0 k1 l0 l1 (wrap64 (x5_1 + 1))) = some r := by rw [if_neg (show ¬ (false = true) by decide)] at H; exact H
       clear H
       have H := H1
       clear H1
       have H' := Aside0.mk H
       clear H
       have p163 : 0 ≤ (x5_1 : Int) := of_decide_eq_true (by first | (with_reducible assumption) | assumption)
       have q163 : x5_1 < (l1.length : Int) := of_decide_eq_true (by first | (with_reducible assumption) | assumption)
       obtain ⟨ad163, e163, hx163_0⟩ := Kd.at_bool HR1.out x5_1 p163 q163
       (try rw [← Nbq6.out] at hx163_0)
       cases e163
       replace hx163_0 := (HB.out.cell (World.block_lt_of_cell? w _ hx163_0)).trans hx163_0
       replace p163 := eq_true p163
       replace q163 := eq_true q163
       go_wp2
       go_roundg k1
       case measure => have := HK1.out; omega
       case rel => exact ⟨(wrap64 (x5_1 + 1)), (by first | rfl | (simp; done) | (simp [*]; done)), H', ⟨by have := HK1.out; omega⟩, ⟨by repeat (first | (with_reducible first | exact HB.out | apply below_alloc | apply pw_below_drewN | apply below_drew1) | exact HB.out)⟩⟩
     ·rw [if_neg c5] at H
      exact absurd H (by simp)
    ·rw [if_neg c4] at H
     have c4b0 : decide (x5_1 < (l1.length : Int)) = false := decide_eq_false c4
     clear c4
     (first | rw [c4b0] | (simp only [i64_w, i32_w]; rw [c4b0]) | skip)
     have H' := Aside0.mk H
     clear H
     go_wp2
     go_meet
     case rel => exact ⟨_, (x5_1), (by first | rfl | (simp; done) | (simp [*]; done)), H', ⟨by have := HK1.out; first | omega | exact Nat.le_refl _⟩, ⟨by repeat (first | (with_reducible first | exact HB.out | apply below_alloc | apply pw_below_drewN | apply below_drew1) | exact HB.out)⟩⟩
 case rest =>
  clear HC3
  try clear c1
  try clear p1
  try clear q1
  try clear hx1
  try clear p2
  try clear c4
  try clear c4b0
  try clear c5
  try clear c5b0
  try clear p6
  try clear q6
  try clear c7
  try clear hx163_0
  try clear p163
  try clear p2
  try clear q163
  obtain ⟨kq, x5_2, rfl, HA, HJ2, HB⟩ := hcut
  cases kq with
  | zero => exact absurd HA.out (by simp [spec_trParallel.j1])
  | succ kj2 =>
   have H := HA.out
   clear HA
   simp only [spec_trParallel.j1] at H
   by_cases c8 : x5_2 = (l1.length : Int)
   ·rw [if_pos c8] at H
    have c8b0 : (x5_2 == (l1.length : Int)) = true := beq_iff_eq.mpr c8
    have c8b1 : (x5_2 != (l1.length : Int)) = false := bne_eq_false_iff_eq.mpr c8
    clear c8
    obtain rfl := Option.some.inj H
    go_wp2
    go_ret
    exact ⟨by first | rfl | (simp [errW_none, errW_some] <;> rfl) | (simp [*, errW_none, errW_some] <;> rfl), by repeat (first | (with_reducible first | exact HB.out | apply below_alloc | apply pw_below_drewN | apply below_drew1) | exact HB.out)⟩
   ·rw [if_neg c8] at H
    have c8b0 : (x5_2 == (l1.length : Int)) = false := beq_eq_false_iff_ne.mpr c8
    have c8b1 : (x5_2 != (l1.length : Int)) = true := bne_iff_ne.mpr c8
    have H' := Aside0.mk H
    clear H
    go_wp2
    go_loopg [6, 29] kj2 (fun kq v6 v29 w' => ∃ (x6_2 : Int) (x29_2 : Int), v6 = .int .i64 x6_2 ∧ v29 = .int .i64 x29_2 ∧ Aside0 (spec_trParallel.l1 kq l0 l1 x5_2 x6_2 l0 (l0.length : Int) x29_2 = some r) ∧ Aside0 (kq ≤ kj2) ∧ Aside0 (Below w.heap.size w w'))
    case atStart => exact ⟨(0), (0), (by first | rfl | (simp; done) | (simp [*]; done)), (by first | rfl | (simp; done) | (simp [*]; done)), H', ⟨Nat.le_refl _⟩, ⟨by repeat (first | (with_reducible first | exact HB.out | apply below_alloc | apply pw_below_drewN | apply below_drew1) | exact HB.out)⟩⟩
    case round =>
     clear H'
     try clear c1
     try clear p1
     try clear q1
     try clear hx1
     try clear p2
     try clear c4
     try clear c4b0
     try clear c5
     try clear c5b0
     try clear p6
     try clear q6
     try clear c7
     try clear c8
     try clear c8b0
     try clear c8b1
     try clear hx163_0
     try clear p1
     try clear p163
     try clear p2
     try clear p6
     try clear q1
     try clear q163
     try clear q6
     obtain ⟨x6_2, x29_2, rfl, rfl, HA, HK2, HB⟩ := hrel
     cases gk with
     | zero => exact absurd HA.out (by simp [spec_trParallel.l1])
     | succ k2 =>
      have H := HA.out
      clear HA
      simp only [spec_trParallel.l1] at H
      by_cases c9 : x29_2 < (l0.length : Int)
      ·rw [if_pos c9] at H
       have c9b0 : decide (x29_2 < (l0.length : Int)) = true := decide_eq_true c9
       clear c9
       by_cases c10 : 0 ≤ x29_2
       ·rw [if_pos c10] at H
        have c10b0 : decide (0 ≤ x29_2) = true := decide_eq_true c10
        clear c10
        by_cases c11 : x29_2 < (l0.length : Int)
        ·rw [if_pos c11] at H
         have c11b0 : decide (x29_2 < (l0.length : Int)) = true := decide_eq_true c11
         clear c11
         by_cases c12 : 0 < ((rd_L1 l0 x29_2).length : Int)
         ·rw [if_pos c12] at H
          have c12b0 : decide (0 < ((rd_L1 l0 x29_2).length : Int)) = true := decide_eq_true c12
          have c12b1 : decide (0 < (rd_L1 l0 x29_2).length) = true := decide_eq_true (by omega)
          clear c12
          by_cases c13 : (rd (rd_L1 l0 x29_2) 0) = x5_2
          ·rw [if_pos c13] at H
           have c13b0 : ((rd (rd_L1 l0 x29_2) 0) == x5_2) = true := beq_iff_eq.mpr c13
           have c13b1 : ((rd (rd_L1 l0 x29_2) 0) != x5_2) = false := bne_eq_false_iff_eq.mpr c13
           clear c13
           by_cases c14 : 1 < ((rd_L1 l0 x29_2).length : Int)
           ·rw [if_pos c14] at H
            have c14b0 : decide (1 < ((rd_L1 l0 x29_2).length : Int)) = true := decide_eq_true c14
            have c14b1 : decide (1 < (rd_L1 l0 x29_2).length) = true := decide_eq_true (by omega)
            clear c14
            by_cases c15 : 0 ≤ (rd (rd_L1 l0 x29_2) 1)
            ·rw [if_pos c15] at H
             have c15b0 : decide (0 ≤ (rd (rd_L1 l0 x29_2) 1)) = true := decide_eq_true c15
             clear c15
             by_cases c16 : (rd (rd_L1 l0 x29_2) 1) < (l1.length : Int)
             ·rw [if_pos c16] at H
              have c16b0 : decide ((rd (rd_L1 l0 x29_2) 1) < (l1.length : Int)) = true := decide_eq_true c16
              clear c16
              obtain ⟨bq17, hbq17⟩ : ∃ b_ : Bool, b_ = (rdOf false l1 (rd (rd_L1 l0 x29_2) 1)) := ⟨_, rfl⟩
              replace H : (if (bq17 = true) then (if 2 < ((rd_L1 l0 x29_2).length : Int) then (if 0 ≤ (rd (rd_L1 l0 x29_2) 2) then (if (rd (rd_L1 l0 x29_2) 2) < (l1.length : Int) then (if (rdOf false l1 (rd (rd_L1 l0 x29_2) 2) = true) then ((some (([] : List Bool) : List Bool)).bind fun y170 => (if y170.length + l1.length < 140737488355328 then ((some (y170 ++ l1 : List Bool)).bind fun y173 => (if 0 ≤ (rd (rd_L1 l0 x29_2) 0) then (if (rd (rd_L1 l0 x29_2) 0) < (y173.length : Int) then (if (rd (rd_L1 l0 x29_2) 1) < (y173.length : Int) then (if (rd (rd_L1 l0 x29_2) 2) < (y173.length : Int) then ((spec_trParallel.f k2 l0 (((y173.set ((rd (rd_L1 l0 x29_2) 0) : Int).toNat false).set ((rd (rd_L1 l0 x29_2) 1) : Int).toNat false).set ((rd (rd_L1 l0 x29_2) 2) : Int).toNat false)).bind fun t182 => (spec_trParallel.l1 k2 l0 l1 x5_2 (wrap64 (x6_2 + t182)) l0 (l0.length : Int) (wrap64 (x29_2 + 1)))) else (none)) else (none)) else (none)) else (none))) else (none))) else (spec_trParallel.l1 k2 l0 l1 x5_2 x6_2 l0 (l0.length : Int) (wrap64 (x29_2 + 1)))) else (none)) else (none)) else (none)) else (spec_trParallel.l1 k2 l0 l1 x5_2 x6_2 l0 (l0.length : Int) (wrap64 (x29_2 + 1)))) = some r := by rw [← hbq17] at H; exact H
              have Nbq17 := Aside0.mk hbq17
              clear hbq17
              by_cases c18 : (bq17 = true)
              ·subst c18
               have H1 : (if 2 < ((rd_L1 l0 x29_2).length : Int) then (if 0 ≤ (rd (rd_L1 l0 x29_2) 2) then (if (rd (rd_L1 l0 x29_2) 2) < (l1.length : Int) then (if (rdOf false l1 (rd (rd_L1 l0 x29_2) 2) = true) then ((some (([] : List Bool) : List Bool)).bind fun y170 => (if y170.length + l1.length < 140737488355328 then ((some (y170 ++ l1 : List Bool)).bind fun y173 => (if 0 ≤ (rd (rd_L1 l0 x29_2) 0) then (if (rd (rd_L1 l0 x29_2) 0) < (y173.length : Int) then (if (rd (rd_L1 l0 x29_2) 1) < (y173.length : Int) then (if (rd (rd_L1 l0 x29_2) 2) < (y173.length : Int) then ((spec_trParallel.f k2 l0 (((y173.set ((rd (rd_L1 l0 x29_2) 0) : Int).toNat false).set ((rd (rd_L1 l0 x29_2) 1) : Int).toNat false).set ((rd (rd_L1 l0 x29_2) 2) : Int).toNat false)).bind fun t182 => (spec_trParallel.l1 k2 l0 l1 x5_2 (wrap64 (x6_2 + t182)) l0 (l0.length : Int) (wrap64 (x29_2 + 1)))) else (none)) else (none)) else (none)) else (none))) else (none))) else (spec_trParallel.l1 k2 l0 l1 x5_2 x6_2 l0 (l0.length : Int) (wrap64 (x29_2 + 1)))) else (none)) else (none)) else (none)) = some r := by rw [if_pos rfl] at H; exact H
               clear H
               have H := H1
               clear H1
               by_cases c19 : 2 < ((rd_L1 l0 x29_2).length : Int)
               ·rw [if_pos c19] at H
                have c19b0 : decide (2 < ((rd_L1 l0 x29_2).length : Int)) = true := decide_eq_true c19
                have c19b1 : decide (2 < (rd_L1 l0 x29_2).length) = true := decide_eq_true (by omega)
                clear c19
                by_cases c20 : 0 ≤ (rd (rd_L1 l0 x29_2) 2)
                ·rw [if_pos c20] at H
                 have c20b0 : decide (0 ≤ (rd (rd_L1 l0 x29_2) 2)) = true := decide_eq_true c20
                 clear c20
                 by_cases c21 : (rd (rd_L1 l0 x29_2) 2) < (l1.length : Int)
                 ·rw [if_pos c21] at H
                  have c21b0 : decide ((rd (rd_L1 l0 x29_2) 2) < (l1.length : Int)) = true := decide_eq_true c21
                  clear c21
                  obtain ⟨bq22, hbq22⟩ : ∃ b_ : Bool, b_ = (rdOf false l1 (rd (rd_L1 l0 x29_2) 2)) := ⟨_, rfl⟩
                  replace H : (if (bq22 = true) then ((some (([] : List Bool) : List Bool)).bind fun y170 => (if y170.length + l1.length < 140737488355328 then ((some (y170 ++ l1 : List Bool)).bind fun y173 => (if 0 ≤ (rd (rd_L1 l0 x29_2) 0) then (if (rd (rd_L1 l0 x29_2) 0) < (y173.length : Int) then (if (rd (rd_L1 l0 x29_2) 1) < (y173.length : Int) then (if (rd (rd_L1 l0 x29_2) 2) < (y173.length : Int) then ((spec_trParallel.f k2 l0 (((y173.set ((rd (rd_L1 l0 x29_2) 0) : Int).toNat false).set ((rd (rd_L1 l0 x29_2) 1) : Int).toNat false).set ((rd (rd_L1 l0 x29_2) 2) : Int).toNat false)).bind fun t182 => (spec_trParallel.l1 k2 l0 l1 x5_2 (wrap64 (x6_2 + t182)) l0 (l0.length : Int) (wrap64 (x29_2 + 1)))) else (none)) else (none)) else (none)) else (none))) else (none))) else (spec_trParallel.l1 k2 l0 l1 x5_2 x6_2 l0 (l0.length : Int) (wrap64 (x29_2 + 1)))) = some r := by rw [← hbq22] at H; exact H
                  have Nbq22 := Aside0.mk hbq22
                  clear hbq22
                  by_cases c23 : (bq22 = true)
                  ·subst c23
                   have H1 : ((some (([] : List Bool) : List Bool)).bind fun y170 => (if y170.length + l1.length < 140737488355328 then ((some (y170 ++ l1 : List Bool)).bind fun y173 => (if 0 ≤ (rd (rd_L1 l0 x29_2) 0) then (if (rd (rd_L1 l0 x29_2) 0) < (y173.length : Int) then (if (rd (rd_L1 l0 x29_2) 1) < (y173.length : Int) then (if (rd (rd_L1 l0 x29_2) 2) < (y173.length : Int) then ((spec_trParallel.f k2 l0 (((y173.set ((rd (rd_L1 l0 x29_2) 0) : Int).toNat false).set ((rd (rd_L1 l0 x29_2) 1) : Int).toNat false).set ((rd (rd_L1 l0 x29_2) 2) : Int).toNat false)).bind fun t182 => (spec_trParallel.l1 k2 l0 l1 x5_2 (wrap64 (x6_2 + t182)) l0 (l0.length : Int) (wrap64 (x29_2 + 1)))) else (none)) else (none)) else (none)) else (none))) else (none))) = some r := by rw [if_pos rfl] at H; exact H
                   clear H
                   have H := H1
                   clear H1
                   obtain ⟨y170, hy170⟩ : ∃ y_ : List Bool, y_ = (([] : List Bool)) := ⟨_, rfl⟩
                   replace H : (if y170.length + l1.length < 140737488355328 then ((some (y170 ++ l1 : List Bool)).bind fun y173 => (if 0 ≤ (rd (rd_L1 l0 x29_2) 0) then (if (rd (rd_L1 l0 x29_2) 0) < (y173.length : Int) then (if (rd (rd_L1 l0 x29_2) 1) < (y173.length : Int) then (if (rd (rd_L1 l0 x29_2) 2) < (y173.length : Int) then ((spec_trParallel.f k2 l0 (((y173.set ((rd (rd_L1 l0 x29_2) 0) : Int).toNat false).set ((rd (rd_L1 l0 x29_2) 1) : Int).toNat false).set ((rd (rd_L1 l0 x29_2) 2) : Int).toNat false)).bind fun t182 => (spec_trParallel.l1 k2 l0 l1 x5_2 (wrap64 (x6_2 + t182)) l0 (l0.length : Int) (wrap64 (x29_2 + 1)))) else (none)) else (none)) else (none)) else (none))) else (none)) = some r := by first | (rw [hy170]; with_reducible exact H) | (have H2_ := (Option.bind_some _ _).symm.trans H; rw [hy170]; with_reducible exact H2_) | (have H2_ := (Option.bind_some _ _).symm.trans H; with_reducible exact H2_) | with_reducible exact H | (rw [hy170]; exact H) | exact H
                   have Ny170 := Aside0.mk hy170
                   clear hy170
                   by_cases c24 : y170.length + l1.length < 140737488355328
                   ·rw [if_pos c24] at H
                    have LMc24 := Aside0.mk c24
                    clear c24
                    obtain ⟨y173, hy173⟩ : ∃ y_ : List Bool, y_ = (y170 ++ l1) := ⟨_, rfl⟩
                    replace H : (if 0 ≤ (rd (rd_L1 l0 x29_2) 0) then (if (rd (rd_L1 l0 x29_2) 0) < (y173.length : Int) then (if (rd (rd_L1 l0 x29_2) 1) < (y173.length : Int) then (if (rd (rd_L1 l0 x29_2) 2) < (y173.length : Int) then ((spec_trParallel.f k2 l0 (((y173.set ((rd (rd_L1 l0 x29_2) 0) : Int).toNat false).set ((rd (rd_L1 l0 x29_2) 1) : Int).toNat false).set ((rd (rd_L1 l0 x29_2) 2) : Int).toNat false)).bind fun t182 => (spec_trParallel.l1 k2 l0 l1 x5_2 (wrap64 (x6_2 + t182)) l0 (l0.length : Int) (wrap64 (x29_2 + 1)))) else (none)) else (none)) else (none)) else (none)) = some r := by first | (rw [hy173]; with_reducible exact H) | (have H2_ := (Option.bind_some _ _).symm.trans H; rw [hy173]; with_reducible exact H2_) | (have H2_ := (Option.bind_some _ _).symm.trans H; with_reducible exact H2_) | with_reducible exact H | (rw [hy173]; exact H) | exact H
                    have Ny173 := Aside0.mk hy173
                    clear hy173
                    by_cases c25 : 0 ≤ (rd (rd_L1 l0 x29_2) 0)
                    ·rw [if_pos c25] at H
                     have c25b0 : decide (0 ≤ (rd (rd_L1 l0 x29_2) 0)) = true := decide_eq_true c25
                     clear c25
                     by_cases c26 : (rd (rd_L1 l0 x29_2) 0) < (y173.length : Int)
                     ·rw [if_pos c26] at H
                      have c26b0 : decide ((rd (rd_L1 l0 x29_2) 0) < (y173.length : Int)) = true := decide_eq_true c26
                      (try simp only [hl164_0] at c26b0)
                      clear c26
                      obtain ⟨y177, hy177⟩ : ∃ y_ : List Bool, y_ = (y173.set ((rd (rd_L1 l0 x29_2) 0) : Int).toNat false) := ⟨_, rfl⟩
                      replace H : (if (rd (rd_L1 l0 x29_2) 1) < (y173.length : Int) then (if (rd (rd_L1 l0 x29_2) 2) < (y173.length : Int) then ((spec_trParallel.f k2 l0 ((y177.set ((rd (rd_L1 l0 x29_2) 1) : Int).toNat false).set ((rd (rd_L1 l0 x29_2) 2) : Int).toNat false)).bind fun t182 => (spec_trParallel.l1 k2 l0 l1 x5_2 (wrap64 (x6_2 + t182)) l0 (l0.length : Int) (wrap64 (x29_2 + 1)))) else (none)) else (none)) = some r := by first | (rw [hy177]; with_reducible exact H) | (have H2_ := (Option.bind_some _ _).symm.trans H; rw [hy177]; with_reducible exact H2_) | (have H2_ := (Option.bind_some _ _).symm.trans H; with_reducible exact H2_) | with_reducible exact H | (rw [hy177]; exact H) | exact H
                      have Ny177 := Aside0.mk hy177
                      clear hy177
                      by_cases c28 : (rd (rd_L1 l0 x29_2) 1) < (y173.length : Int)
                      ·rw [if_pos c28] at H
                       have c28b0 : decide ((rd (rd_L1 l0 x29_2) 1) < (y173.length : Int)) = true := decide_eq_true c28
                       (try simp only [hl164_0] at c28b0)
                       clear c28
                       obtain ⟨y179, hy179⟩ : ∃ y_ : List Bool, y_ = (y177.set ((rd (rd_L1 l0 x29_2) 1) : Int).toNat false) := ⟨_, rfl⟩
                       replace H : (if (rd (rd_L1 l0 x29_2) 2) < (y173.length : Int) then ((spec_trParallel.f k2 l0 (y179.set ((rd (rd_L1 l0 x29_2) 2) : Int).toNat false)).bind fun t182 => (spec_trParallel.l1 k2 l0 l1 x5_2 (wrap64 (x6_2 + t182)) l0 (l0.length : Int) (wrap64 (x29_2 + 1)))) else (none)) = some r := by first | (rw [hy179]; with_reducible exact H) | (have H2_ := (Option.bind_some _ _).symm.trans H; rw [hy179]; with_reducible exact H2_) | (have H2_ := (Option.bind_some _ _).symm.trans H; with_reducible exact H2_) | with_reducible exact H | (rw [hy179]; exact H) | exact H
                       have Ny179 := Aside0.mk hy179
                       clear hy179
                       by_cases c30 : (rd (rd_L1 l0 x29_2) 2) < (y173.length : Int)
                       ·rw [if_pos c30] at H
                        have c30b0 : decide ((rd (rd_L1 l0 x29_2) 2) < (y173.length : Int)) = true := decide_eq_true c30
                        (try simp only [hl164_0] at c30b0)
                        clear c30
                        obtain ⟨y181, hy181⟩ : ∃ y_ : List Bool, y_ = (y179.set ((rd (rd_L1 l0 x29_2) 2) : Int).toNat false) := ⟨_, rfl⟩
                        replace H : ((spec_trParallel.f k2 l0 y181).bind fun t182 => (spec_trParallel.l1 k2 l0 l1 x5_2 (wrap64 (x6_2 + t182)) l0 (l0.length : Int) (wrap64 (x29_2 + 1)))) = some r := by first | (rw [hy181]; with_reducible exact H) | (have H2_ := (Option.bind_some _ _).symm.trans H; rw [hy181]; with_reducible exact H2_) | (have H2_ := (Option.bind_some _ _).symm.trans H; with_reducible exact H2_) | with_reducible exact H | (rw [hy181]; exact H) | exact H
                        have Ny181 := Aside0.mk hy181
                        clear hy181
                        replace H := Option.bind_eq_some_iff.mp H
                        obtain ⟨t182, A320, H⟩ := H
                        replace H : (spec_trParallel.l1 k2 l0 l1 x5_2 (wrap64 (x6_2 + t182)) l0 (l0.length : Int) (wrap64 (x29_2 + 1))) = some r := H
                        have A32 := Aside0.mk A320
                        clear A320
                        have H' := Aside0.mk H
                        clear H
                        have p164 : 0 ≤ (x29_2 : Int) := of_decide_eq_true (by first | (with_reducible assumption) | assumption)
                        have q164 : x29_2 < (l0.length : Int) := of_decide_eq_true (by first | (with_reducible assumption) | assumption)
                        obtain ⟨ad164, A164_0, c164_0, e164, hx164_0, hl164_0, hi164_0⟩ := at_L1 HR0.out x29_2 p164 q164
                        cases e164
                        replace hx164_0 := (HB.out.cell (World.block_lt_of_cell? w _ hx164_0)).trans hx164_0
                        have HR164_0 := Aside0.mk hi164_0
                        have HC164_0 := Aside0.mk hl164_0
                        clear hi164_0 hl164_0
                        replace p164 := eq_true p164
                        replace q164 := eq_true q164
                        have p165 : 0 ≤ (0 : Int) := (by omega)
                        have q165 : 0 < ((rd_L1 l0 x29_2).length : Int) := of_decide_eq_true (by first | (with_reducible assumption) | assumption)
                        obtain ⟨ad165, e165, hx165_0⟩ := Kd.at_int HR164_0.out 0 p165 q165
                        cases e165
                        have qi165 : (0 < (rd_L1 l0 x29_2).length) = True := eq_true (by omega)
                        (try rw [show ((0 : Int)).toNat = 0 from rfl] at hx165_0)
                        (try rw [Addr.add_zero'] at hx165_0)
                        replace hx165_0 := (HB.out.cell (World.block_lt_of_cell? w _ hx165_0)).trans hx165_0
                        replace p165 := eq_true p165
                        replace q165 := eq_true q165
                        have p166 : 0 ≤ (1 : Int) := (by omega)
                        have q166 : 1 < ((rd_L1 l0 x29_2).length : Int) := of_decide_eq_true (by first | (with_reducible assumption) | assumption)
                        obtain ⟨ad166, e166, hx166_0⟩ := Kd.at_int HR164_0.out 1 p166 q166
                        obtain rfl : ad165 = ad166 := (by injection e166)
                        (try simp only [show (1 : Int).toNat = 1 from rfl, Nat.reduceMul, Nat.reduceEqDiff, Go.Addr.add, ↓reduceIte] at hx166_0)
                        have qi166 : (1 < (rd_L1 l0 x29_2).length) = True := eq_true (by omega)
                        (try rw [show ((1 : Int)).toNat = 1 from rfl] at hx166_0)
                        replace hx166_0 := (HB.out.cell (World.block_lt_of_cell? w _ hx166_0)).trans hx166_0
                        replace p166 := eq_true p166
                        replace q166 := eq_true q166
                        have p167 : 0 ≤ ((rd (rd_L1 l0 x29_2) 1) : Int) := of_decide_eq_true (by first | (with_reducible assumption) | assumption)
                        have q167 : (rd (rd_L1 l0 x29_2) 1) < (l1.length : Int) := of_decide_eq_true (by first | (with_reducible assumption) | assumption)
                        obtain ⟨ad167, e167, hx167_0⟩ := Kd.at_bool HR1.out (rd (rd_L1 l0 x29_2) 1) p167 q167
                        (try rw [← Nbq17.out] at hx167_0)
                        (try rw [← Nbq22.out] at hx167_0)
                        cases e167
                        replace hx167_0 := (HB.out.cell (World.block_lt_of_cell? w _ hx167_0)).trans hx167_0
                        replace p167 := eq_true p167
                        replace q167 := eq_true q167
                        have p168 : 0 ≤ (2 : Int) := (by omega)
                        have q168 : 2 < ((rd_L1 l0 x29_2).length : Int) := of_decide_eq_true (by first | (with_reducible assumption) | assumption)
                        obtain ⟨ad168, e168, hx168_0⟩ := Kd.at_int HR164_0.out 2 p168 q168
                        obtain rfl : ad165 = ad168 := (by injection e168)
                        (try simp only [show (2 : Int).toNat = 2 from rfl, Nat.reduceMul, Nat.reduceEqDiff, Go.Addr.add, ↓reduceIte] at hx168_0)
                        have qi168 : (2 < (rd_L1 l0 x29_2).length) = True := eq_true (by omega)
                        (try rw [show ((2 : Int)).toNat = 2 from rfl] at hx168_0)
                        replace hx168_0 := (HB.out.cell (World.block_lt_of_cell? w _ hx168_0)).trans hx168_0
                        replace p168 := eq_true p168
                        replace q168 := eq_true q168
                        have p169 : 0 ≤ ((rd (rd_L1 l0 x29_2) 2) : Int) := of_decide_eq_true (by first | (with_reducible assumption) | assumption)
                        have q169 : (rd (rd_L1 l0 x29_2) 2) < (l1.length : Int) := of_decide_eq_true (by first | (with_reducible assumption) | assumption)
                        obtain ⟨ad169, e169, hx169_0⟩ := Kd.at_bool HR1.out (rd (rd_L1 l0 x29_2) 2) p169 q169
                        (try rw [← Nbq17.out] at hx169_0)
                        (try rw [← Nbq22.out] at hx169_0)
                        obtain rfl : ad167 = ad169 := (by injection e169)
                        replace hx169_0 := (HB.out.cell (World.block_lt_of_cell? w _ hx169_0)).trans hx169_0
                        replace p169 := eq_true p169
                        replace q169 := eq_true q169
                        go_wp2_with (first | ((with_reducible refine gate_dst (N := 56) rfl ?_); refine Kd.R_lit Kd.bool _ 4 ?hg (N := 56) ?hd (xs := ([] : List Bool)) (inner := []) (ok := fun _ => True) (okp := fun _ => True) ?hr ?hp (fun _ hk => hk) trivial (Below.refl _ _) (Nat.le_refl _) (by simp) ?_; (case hd => rfl); (case hg => rfl); (case hr => first | (go_simp; done) | (go_simp; rfl)); (case hp => exact (Reps.none _ _)); intro v171 w33 ho34 hb hg_ hnew_; clear hg_ hnew_; (first | rw [← Ny170.out] at ho34 | (simp only [Int.reduceToNat] at ho34; rw [← Ny170.out] at ho34)); have n0_ := Aside0.mk (Kd.R_lower ho34 (below_size (by repeat (first | (with_reducible first | exact HB.out | apply below_alloc | apply pw_below_drewN | apply below_drew1) | exact HB.out)))); have n1_ := Aside0.mk (below_step (by repeat (first | (with_reducible first | exact HB.out | apply below_alloc | apply pw_below_drewN | apply below_drew1) | exact HB.out)) hb); clear HB; have HO172 := n0_; have HB := n1_; clear n0_ n1_; clear hb ho34) | ((with_reducible refine gate_builtin (b := .append) (xs := #[.tmp 56, .tmp 57]) rfl ?_); at_builtin; refine Kd.R_append_rows Kd.bool (w0 := w) w.heap.size rfl (.tmp 56) (.tmp 57) 53 4 (.bool false) 1 rfl Try.underlying53 info4 rfl (by decide) (by omega) v171 y170 l1 _ _ _ (fun _ => True) (fun _ => False) rfl rfl ?aO ?aR (fun _ _ h => h) (fun _ h => h.elim) ?aF ?aB ?aS ?aL ?_; (case aR => repeat (first | exact (Kd.C_below HR1.out HB.out) | (with_reducible refine Kd.C_alloc ?_ _) | (with_reducible refine Kd.C_drewN ?_ _) | (with_reducible refine Kd.C_drew ?_))); (case aB => exact (by repeat (first | (with_reducible first | exact HB.out | apply below_alloc | apply pw_below_drewN | apply below_drew1) | exact HB.out))); (case aF => exact (fun _ _ => trivial)); (case aO => exact (by (with_reducible repeat (first | apply Kd.R_alloc | apply Kd.R_drewN | apply Kd.R_drew)); exact HO172.out)); (case aS => exact (below_size (by repeat (first | (with_reducible first | exact HB.out | apply below_alloc | apply pw_below_drewN | apply below_drew1) | exact HB.out)))); (case aL => have := LMc24.out; omega); intro v174 w35 ho hb hg hat; rw [← Ny173.out] at ho; have n0_ := Aside0.mk (hb); have n1_ := Aside0.mk (ho); clear HB; clear HO172; have HB := n0_; have HO175 := n1_; clear n0_ n1_; clear ho hb hg hat; have p176 : 0 ≤ (0 : Int) := (by omega); have q176 : 0 < ((rd_L1 l0 x29_2).length : Int) := of_decide_eq_true (by first | (with_reducible assumption) | assumption); obtain ⟨ad176, e176, hx176_0⟩ := Kd.at_int HR164_0.out 0 p176 q176; obtain rfl : ad165 = ad176 := (by injection e176); have qi176 : (0 < (rd_L1 l0 x29_2).length) = True := eq_true (by omega); (try rw [show ((0 : Int)).toNat = 0 from rfl] at hx176_0); (try rw [Addr.add_zero'] at hx176_0); replace hx176_0 := (HB.out.cell (World.block_lt_of_cell? w _ hx176_0)).trans hx176_0; replace p176 := eq_true p176; replace q176 := eq_true q176; have p27 : 0 ≤ ((rd (rd_L1 l0 x29_2) 0) : Int) := of_decide_eq_true (by first | (with_reducible assumption) | assumption); have q27 : ((rd (rd_L1 l0 x29_2) 0) : Int) < ((y173.length : Int) : Int) := of_decide_eq_true (by first | (with_reducible assumption) | assumption); obtain ⟨go27, co27, eo27, gb27, gl27, cl27, HG27⟩ := Kd.R_form HO175.out (by omega); (first | cases eo27 | (injection eo27 with ea_ en_ ec_; (first | subst ea_ | (injection ea_ with ea_; subst ea_)); subst ec_; clear en_)); have GB27 := Aside0.mk gb27; have GG27 := Aside0.mk HG27; clear gb27 gl27 HG27; obtain ⟨hx27_0, hf27_0⟩ := Kd.R_celln false HO175.out ((rd (rd_L1 l0 x29_2) 0) : Int) p27 q27; replace p27 := eq_true p27; replace q27 := eq_true q27; obtain ⟨hy36_, hz36_⟩ := Kd.R_celln false HO175.out ((rd (rd_L1 l0 x29_2) 0) : Int) (of_decide_eq_true (by first | (with_reducible assumption) | assumption)) (of_decide_eq_true (by first | (with_reducible assumption) | assumption)); have HP36 := Kd.R_putg HO175.out ((rd (rd_L1 l0 x29_2) 0) : Int) false) | ((with_reducible refine gate_store (t := 4) (p := 63) rfl ?_); refine store_event (t := 4) (p := 63) (v := ?vo_w37) (w1 := (w35.setCell ⟨go27, ((rd (rd_L1 l0 x29_2) 0) : Int).toNat, none⟩ (.bool false))) ?hg ?ho ?hn ?hr ?_; (case ho => rfl); (case hg => rfl); (case hn => rfl); (case hr => first | (go_simp; done) | (go_simp; rfl)); intro w37 hw; have hg : w35.grownBy w37 (some go27) := (by rw [hw]; exact HP36.2); have hp_ : Kd.R Kd.bool 4 w37 w.heap.size (fun _ => True) (.slice (some ⟨go27, 0, none⟩) y173.length co27) y177 := (by rw [hw, Ny177.out]; exact HP36.1); clear HP36; have n0_ := Aside0.mk (hp_); have n1_ := Aside0.mk ((by rw [hw]; exact below_set (HB.out) GB27.out : Below w.heap.size w w37)); clear HO175; clear HB; have HO175 := n0_; have HB := n1_; clear n0_ n1_; clear hg hw hp_; have p178 : 0 ≤ (1 : Int) := (by omega); have q178 : 1 < ((rd_L1 l0 x29_2).length : Int) := of_decide_eq_true (by first | (with_reducible assumption) | assumption); obtain ⟨ad178, e178, hx178_0⟩ := Kd.at_int HR164_0.out 1 p178 q178; obtain rfl : ad165 = ad178 := (by injection e178); (try simp only [show (1 : Int).toNat = 1 from rfl, Nat.reduceMul, Nat.reduceEqDiff, Go.Addr.add, ↓reduceIte] at hx178_0); have qi178 : (1 < (rd_L1 l0 x29_2).length) = True := eq_true (by omega); (try rw [show ((1 : Int)).toNat = 1 from rfl] at hx178_0); replace hx178_0 := (HB.out.cell (World.block_lt_of_cell? w _ hx178_0)).trans hx178_0; replace p178 := eq_true p178; replace q178 := eq_true q178; have p29 : 0 ≤ ((rd (rd_L1 l0 x29_2) 1) : Int) := of_decide_eq_true (by first | (with_reducible assumption) | assumption); have q29 : ((rd (rd_L1 l0 x29_2) 1) : Int) < ((y173.length : Int) : Int) := of_decide_eq_true (by first | (with_reducible assumption) | assumption); obtain ⟨hx29_0, hf29_0⟩ := Kd.R_celln false HO175.out ((rd (rd_L1 l0 x29_2) 1) : Int) p29 q29; replace p29 := eq_true p29; replace q29 := eq_true q29; obtain ⟨hy38_, hz38_⟩ := Kd.R_celln false HO175.out ((rd (rd_L1 l0 x29_2) 1) : Int) (of_decide_eq_true (by first | (with_reducible assumption) | assumption)) (of_decide_eq_true (by first | (with_reducible assumption) | assumption)); have HP38 := Kd.R_putg HO175.out ((rd (rd_L1 l0 x29_2) 1) : Int) false) | ((with_reducible refine gate_store (t := 4) (p := 68) rfl ?_); refine store_event (t := 4) (p := 68) (v := ?vo_w39) (w1 := (w37.setCell ⟨go27, ((rd (rd_L1 l0 x29_2) 1) : Int).toNat, none⟩ (.bool false))) ?hg ?ho ?hn ?hr ?_; (case ho => rfl); (case hg => rfl); (case hn => rfl); (case hr => first | (go_simp; done) | (go_simp; rfl)); intro w39 hw; have hg : w37.grownBy w39 (some go27) := (by rw [hw]; exact HP38.2); have hp_ : Kd.R Kd.bool 4 w39 w.heap.size (fun _ => True) (.slice (some ⟨go27, 0, none⟩) y173.length co27) y179 := (by rw [hw, Ny179.out]; exact HP38.1); clear HP38; have n0_ := Aside0.mk (hp_); have n1_ := Aside0.mk ((by rw [hw]; exact below_set (HB.out) GB27.out : Below w.heap.size w w39)); clear HO175; clear HB; have HO175 := n0_; have HB := n1_; clear n0_ n1_; clear hg hw hp_; have p180 : 0 ≤ (2 : Int) := (by omega); have q180 : 2 < ((rd_L1 l0 x29_2).length : Int) := of_decide_eq_true (by first | (with_reducible assumption) | assumption); obtain ⟨ad180, e180, hx180_0⟩ := Kd.at_int HR164_0.out 2 p180 q180; obtain rfl : ad165 = ad180 := (by injection e180); (try simp only [show (2 : Int).toNat = 2 from rfl, Nat.reduceMul, Nat.reduceEqDiff, Go.Addr.add, ↓reduceIte] at hx180_0); have qi180 : (2 < (rd_L1 l0 x29_2).length) = True := eq_true (by omega); (try rw [show ((2 : Int)).toNat = 2 from rfl] at hx180_0); replace hx180_0 := (HB.out.cell (World.block_lt_of_cell? w _ hx180_0)).trans hx180_0; replace p180 := eq_true p180; replace q180 := eq_true q180; have p31 : 0 ≤ ((rd (rd_L1 l0 x29_2) 2) : Int) := of_decide_eq_true (by first | (with_reducible assumption) | assumption); have q31 : ((rd (rd_L1 l0 x29_2) 2) : Int) < ((y173.length : Int) : Int) := of_decide_eq_true (by first | (with_reducible assumption) | assumption); obtain ⟨hx31_0, hf31_0⟩ := Kd.R_celln false HO175.out ((rd (rd_L1 l0 x29_2) 2) : Int) p31 q31; replace p31 := eq_true p31; replace q31 := eq_true q31; obtain ⟨hy40_, hz40_⟩ := Kd.R_celln false HO175.out ((rd (rd_L1 l0 x29_2) 2) : Int) (of_decide_eq_true (by first | (with_reducible assumption) | assumption)) (of_decide_eq_true (by first | (with_reducible assumption) | assumption)); have HP40 := Kd.R_putg HO175.out ((rd (rd_L1 l0 x29_2) 2) : Int) false) | ((with_reducible refine gate_store (t := 4) (p := 73) rfl ?_); refine store_event (t := 4) (p := 73) (v := ?vo_w41) (w1 := (w39.setCell ⟨go27, ((rd (rd_L1 l0 x29_2) 2) : Int).toNat, none⟩ (.bool false))) ?hg ?ho ?hn ?hr ?_; (case ho => rfl); (case hg => rfl); (case hn => rfl); (case hr => first | (go_simp; done) | (go_simp; rfl)); intro w41 hw; have hg : w39.grownBy w41 (some go27) := (by rw [hw]; exact HP40.2); have hp_ : Kd.R Kd.bool 4 w41 w.heap.size (fun _ => True) (.slice (some ⟨go27, 0, none⟩) y173.length co27) y181 := (by rw [hw, Ny181.out]; exact HP40.1); clear HP40; have n0_ := Aside0.mk (hp_); have n1_ := Aside0.mk ((by rw [hw]; exact below_set (HB.out) GB27.out : Below w.heap.size w w41)); clear HO175; clear HB; have HO175 := n0_; have HB := n1_; clear n0_ n1_; clear hg hw hp_) | ((with_reducible refine gate_callee (f := 79) rfl ?_); refine goesL_ (some 77) rfl rfl Try.func79 (by kernel_rfl) rfl #[.slice (some ad164) l0.length c0, .slice (some ⟨go27, 0, none⟩) y181.length co27] rfl (by (try simp only [List.map_toArray, List.map_cons, List.map_nil]); first | done | (rw [show y181.length = y173.length from (Kd.R_reads' HO175.out).1.symm] <;> rfl) | rfl | (simp only [List.length_drop, List.length_take]; rfl)) ?_; (with_reducible refine (ih k2 (by have := HJ2.out; have := HK2.out; omega) _ _ l0 _ _ y181 t182 _ ?side1 ?side2 ?side3 ?side4 A32.out).mono ?_); (case side1 => repeat (first | exact (Kd.C_below HR0.out HB.out) | (with_reducible refine Kd.C_alloc ?_ _) | (with_reducible refine Kd.C_drewN ?_ _) | (with_reducible refine Kd.C_drew ?_))); (case side2 => exact HC0.out); (case side3 => repeat (first | exact (Kd.R_reads' HO175.out).2.2 | (with_reducible refine Kd.C_alloc ?_ _) | (with_reducible refine Kd.C_drewN ?_ _) | (with_reducible refine Kd.C_drew ?_))); (case side4 => rw [show y181.length = y173.length from (Kd.R_reads' HO175.out).1.symm]; exact (Kd.R_reads' HO175.out).2.1); rintro e w42 ⟨rfl, hb⟩; refine ⟨_, rfl, ?_⟩; have n0_ := Aside0.mk (Kd.R_below (by (with_reducible repeat (first | apply Kd.R_alloc | apply Kd.R_drewN | apply Kd.R_drew)); exact HO175.out) hb); have n1_ := Aside0.mk (below_step (by repeat (first | (with_reducible first | exact HB.out | apply below_alloc | apply pw_below_drewN | apply below_drew1) | exact HB.out)) hb); clear HO175; clear HB; have HO175 := n0_; have HB := n1_; clear n0_ n1_; (try clear hb); (try clear hb2); (try clear hk); (try clear hi)))
                        go_roundg k2
                        case measure => have := HJ2.out; have := HK2.out; omega
                        case rel => exact ⟨(wrap64 (x6_2 + t182)), (wrap64 (x29_2 + 1)), (by first | rfl | (simp; done) | (simp [*]; done)), (by first | rfl | (simp; done) | (simp [*]; done)), H', ⟨by have := HJ2.out; have := HK2.out; omega⟩, ⟨by repeat (first | (with_reducible first | exact HB.out | apply below_alloc | apply pw_below_drewN | apply below_drew1) | exact HB.out)⟩⟩
                       ·rw [if_neg c30] at H
                        exact absurd H (by simp)
                      ·rw [if_neg c28] at H
                       exact absurd H (by simp)
                     ·rw [if_neg c26] at H
                      exact absurd H (by simp)
                    ·rw [if_neg c25] at H
                     exact absurd H (by simp)
                   ·rw [if_neg c24] at H
                    exact absurd H (by simp)
                  ·replace c23 := Bool.eq_false_iff.mpr c23
                   subst c23
                   have H1 : (spec_trParallel.l1 k2 l0 l1 x5_2 x6_2 l0 (l0.length : Int) (wrap64 (x29_2 + 1))) = some r := by rw [if_neg (show ¬ (false = true) by decide)] at H; exact H
                   clear H
                   have H := H1
                   clear H1
                   have H' := Aside0.mk H
                   clear H
                   have p164 : 0 ≤ (x29_2 : Int) := of_decide_eq_true (by first | (with_reducible assumption) | assumption)
                   have q164 : x29_2 < (l0.length : Int) := of_decide_eq_true (by first | (with_reducible assumption) | assumption)
                   obtain ⟨ad164, A164_0, c164_0, e164, hx164_0, hl164_0, hi164_0⟩ := at_L1 HR0.out x29_2 p164 q164
                   cases e164
                   replace hx164_0 := (HB.out.cell (World.block_lt_of_cell? w _ hx164_0)).trans hx164_0
                   have HR164_0 := Aside0.mk hi164_0
                   have HC164_0 := Aside0.mk hl164_0
                   clear hi164_0 hl164_0
                   replace p164 := eq_true p164
                   replace q164 := eq_true q164
                   have p165 : 0 ≤ (0 : Int) := (by omega)
                   have q165 : 0 < ((rd_L1 l0 x29_2).length : Int) := of_decide_eq_true (by first | (with_reducible assumption) | assumption)
                   obtain ⟨ad165, e165, hx165_0⟩ := Kd.at_int HR164_0.out 0 p165 q165
                   cases e165
                   have qi165 : (0 < (rd_L1 l0 x29_2).length) = True := eq_true (by omega)
                   (try rw [show ((0 : Int)).toNat = 0 from rfl] at hx165_0)
                   (try rw [Addr.add_zero'] at hx165_0)
                   replace hx165_0 := (HB.out.cell (World.block_lt_of_cell? w _ hx165_0)).trans hx165_0
                   replace p165 := eq_true p165
                   replace q165 := eq_true q165
                   have p166 : 0 ≤ (1 : Int) := (by omega)
                   have q166 : 1 < ((rd_L1 l0 x29_2).length : Int) := of_decide_eq_true (by first | (with_reducible assumption) | assumption)
                   obtain ⟨ad166, e166, hx166_0⟩ := Kd.at_int HR164_0.out 1 p166 q166
                   obtain rfl : ad165 = ad166 := (by injection e166)
                   (try simp only [show (1 : Int).toNat = 1 from rfl, Nat.reduceMul, Nat.reduceEqDiff, Go.Addr.add, ↓reduceIte] at hx166_0)
                   have qi166 : (1 < (rd_L1 l0 x29_2).length) = True := eq_true (by omega)
                   (try rw [show ((1 : Int)).toNat = 1 from rfl] at hx166_0)
                   replace hx166_0 := (HB.out.cell (World.block_lt_of_cell? w _ hx166_0)).trans hx166_0
                   replace p166 := eq_true p166
                   replace q166 := eq_true q166
                   have p167 : 0 ≤ ((rd (rd_L1 l0 x29_2) 1) : Int) := of_decide_eq_true (by first | (with_reducible assumption) | assumption)
                   have q167 : (rd (rd_L1 l0 x29_2) 1) < (l1.length : Int) := of_decide_eq_true (by first | (with_reducible assumption) | assumption)
                   obtain ⟨ad167, e167, hx167_0⟩ := Kd.at_bool HR1.out (rd (rd_L1 l0 x29_2) 1) p167 q167
                   (try rw [← Nbq17.out] at hx167_0)
                   (try rw [← Nbq22.out] at hx167_0)
                   cases e167
                   replace hx167_0 := (HB.out.cell (World.block_lt_of_cell? w _ hx167_0)).trans hx167_0
                   replace p167 := eq_true p167
                   replace q167 := eq_true q167
                   have p168 : 0 ≤ (2 : Int) := (by omega)
                   have q168 : 2 < ((rd_L1 l0 x29_2).length : Int) := of_decide_eq_true (by first | (with_reducible assumption) | assumption)
                   obtain ⟨ad168, e168, hx168_0⟩ := Kd.at_int HR164_0.out 2 p168 q168
                   obtain rfl : ad165 = ad168 := (by injection e168)
                   (try simp only [show (2 : Int).toNat = 2 from rfl, Nat.reduceMul, Nat.reduceEqDiff, Go.Addr.add, ↓reduceIte] at hx168_0)
                   have qi168 : (2 < (rd_L1 l0 x29_2).length) = True := eq_true (by omega)
                   (try rw [show ((2 : Int)).toNat = 2 from rfl] at hx168_0)
                   replace hx168_0 := (HB.out.cell (World.block_lt_of_cell? w _ hx168_0)).trans hx168_0
                   replace p168 := eq_true p168
                   replace q168 := eq_true q168
                   have p169 : 0 ≤ ((rd (rd_L1 l0 x29_2) 2) : Int) := of_decide_eq_true (by first | (with_reducible assumption) | assumption)
                   have q169 : (rd (rd_L1 l0 x29_2) 2) < (l1.length : Int) := of_decide_eq_true (by first | (with_reducible assumption) | assumption)
                   obtain ⟨ad169, e169, hx169_0⟩ := Kd.at_bool HR1.out (rd (rd_L1 l0 x29_2) 2) p169 q169
                   (try rw [← Nbq17.out] at hx169_0)
                   (try rw [← Nbq22.out] at hx169_0)
                   obtain rfl : ad167 = ad169 := (by injection e169)
                   replace hx169_0 := (HB.out.cell (World.block_lt_of_cell? w _ hx169_0)).trans hx169_0
                   replace p169 := eq_true p169
                   replace q169 := eq_true q169
                   go_wp2
                   go_roundg k2
                   case measure => have := HJ2.out; have := HK2.out; omega
                   case rel => exact ⟨(x6_2), (wrap64 (x29_2 + 1)), (by first | rfl | (simp; done) | (simp [*]; done)), (by first | rfl | (simp; done) | (simp [*]; done)), H', ⟨by have := HJ2.out; have := HK2.out; omega⟩, ⟨by repeat (first | (with_reducible first | exact HB.out | apply below_alloc | apply pw_below_drewN | apply below_drew1) | exact HB.out)⟩⟩
                 ·rw [if_neg c21] at H
                  exact absurd H (by simp)
                ·rw [if_neg c20] at H
                 exact absurd H (by simp)
               ·rw [if_neg c19] at H
                exact absurd H (by simp)
              ·replace c18 := Bool.eq_false_iff.mpr c18
               subst c18
               have H1 : (spec_trParallel.l1 k2 l0 l1 x5_2 x6_2 l0 (l0.length : Int) (wrap64 (x29_2 + 1))) = some r := by rw [if_neg (show ¬ (false = true) by decide)] at H; exact H
               clear H
               have H := H1
               clear H1
               have H' := Aside0.mk H
               clear H
               have p164 : 0 ≤ (x29_2 : Int) := of_decide_eq_true (by first | (with_reducible assumption) | assumption)
               have q164 : x29_2 < (l0.length : Int) := of_decide_eq_true (by first | (with_reducible assumption) | assumption)
               obtain ⟨ad164, A164_0, c164_0, e164, hx164_0, hl164_0, hi164_0⟩ := at_L1 HR0.out x29_2 p164 q164
               cases e164
               replace hx164_0 := (HB.out.cell (World.block_lt_of_cell? w _ hx164_0)).trans hx164_0
               have HR164_0 := Aside0.mk hi164_0
               have HC164_0 := Aside0.mk hl164_0
               clear hi164_0 hl164_0
               replace p164 := eq_true p164
               replace q164 := eq_true q164
               have p165 : 0 ≤ (0 : Int) := (by omega)
               have q165 : 0 < ((rd_L1 l0 x29_2).length : Int) := of_decide_eq_true (by first | (with_reducible assumption) | assumption)
               obtain ⟨ad165, e165, hx165_0⟩ := Kd.at_int HR164_0.out 0 p165 q165
               cases e165
               have qi165 : (0 < (rd_L1 l0 x29_2).length) = True := eq_true (by omega)
               (try rw [show ((0 : Int)).toNat = 0 from rfl] at hx165_0)
               (try rw [Addr.add_zero'] at hx165_0)
               replace hx165_0 := (HB.out.cell (World.block_lt_of_cell? w _ hx165_0)).trans hx165_0
               replace p165 := eq_true p165
               replace q165 := eq_true q165
               have p166 : 0 ≤ (1 : Int) := (by omega)
               have q166 : 1 < ((rd_L1 l0 x29_2).length : Int) := of_decide_eq_true (by first | (with_reducible assumption) | assumption)
               obtain ⟨ad166, e166, hx166_0⟩ := Kd.at_int HR164_0.out 1 p166 q166
               obtain rfl : ad165 = ad166 := (by injection e166)
               (try simp only [show (1 : Int).toNat = 1 from rfl, Nat.reduceMul, Nat.reduceEqDiff, Go.Addr.add, ↓reduceIte] at hx166_0)
               have qi166 : (1 < (rd_L1 l0 x29_2).length) = True := eq_true (by omega)
               (try rw [show ((1 : Int)).toNat = 1 from rfl] at hx166_0)
               replace hx166_0 := (HB.out.cell (World.block_lt_of_cell? w _ hx166_0)).trans hx166_0
               replace p166 := eq_true p166
               replace q166 := eq_true q166
               have p167 : 0 ≤ ((rd (rd_L1 l0 x29_2) 1) : Int) := of_decide_eq_true (by first | (with_reducible assumption) | assumption)
               have q167 : (rd (rd_L1 l0 x29_2) 1) < (l1.length : Int) := of_decide_eq_true (by first | (with_reducible assumption) | assumption)
               obtain ⟨ad167, e167, hx167_0⟩ := Kd.at_bool HR1.out (rd (rd_L1 l0 x29_2) 1) p167 q167
               (try rw [← Nbq17.out] at hx167_0)
               cases e167
               replace hx167_0 := (HB.out.cell (World.block_lt_of_cell? w _ hx167_0)).trans hx167_0
               replace p167 := eq_true p167
               replace q167 := eq_true q167
               go_wp2
               go_roundg k2
               case measure => have := HJ2.out; have := HK2.out; omega
               case rel => exact ⟨(x6_2), (wrap64 (x29_2 + 1)), (by first | rfl | (simp; done) | (simp [*]; done)), (by first | rfl | (simp; done) | (simp [*]; done)), H', ⟨by have := HJ2.out; have := HK2.out; omega⟩, ⟨by repeat (first | (with_reducible first | exact HB.out | apply below_alloc | apply pw_below_drewN | apply below_drew1) | exact HB.out)⟩⟩
             ·rw [if_neg c16] at H
              exact absurd H (by simp)
            ·rw [if_neg c15] at H
             exact absurd H (by simp)
           ·rw [if_neg c14] at H
            exact absurd H (by simp)
          ·rw [if_neg c13] at H
           have c13b0 : ((rd (rd_L1 l0 x29_2) 0) == x5_2) = false := beq_eq_false_iff_ne.mpr c13
           have c13b1 : ((rd (rd_L1 l0 x29_2) 0) != x5_2) = true := bne_iff_ne.mpr c13
           have H' := Aside0.mk H
           clear H
           have p164 : 0 ≤ (x29_2 : Int) := of_decide_eq_true (by first | (with_reducible assumption) | assumption)
           have q164 : x29_2 < (l0.length : Int) := of_decide_eq_true (by first | (with_reducible assumption) | assumption)
           obtain ⟨ad164, A164_0, c164_0, e164, hx164_0, hl164_0, hi164_0⟩ := at_L1 HR0.out x29_2 p164 q164
           cases e164
           replace hx164_0 := (HB.out.cell (World.block_lt_of_cell? w _ hx164_0)).trans hx164_0
           have HR164_0 := Aside0.mk hi164_0
           have HC164_0 := Aside0.mk hl164_0
           clear hi164_0 hl164_0
           replace p164 := eq_true p164
           replace q164 := eq_true q164
           have p165 : 0 ≤ (0 : Int) := (by omega)
           have q165 : 0 < ((rd_L1 l0 x29_2).length : Int) := of_decide_eq_true (by first | (with_reducible assumption) | assumption)
           obtain ⟨ad165, e165, hx165_0⟩ := Kd.at_int HR164_0.out 0 p165 q165
           cases e165
           have qi165 : (0 < (rd_L1 l0 x29_2).length) = True := eq_true (by omega)
           (try rw [show ((0 : Int)).toNat = 0 from rfl] at hx165_0)
           (try rw [Addr.add_zero'] at hx165_0)
           replace hx165_0 := (HB.out.cell (World.block_lt_of_cell? w _ hx165_0)).trans hx165_0
           replace p165 := eq_true p165
           replace q165 := eq_true q165
           go_wp2
           go_roundg k2
           case measure => have := HJ2.out; have := HK2.out; omega
           case rel => exact ⟨(x6_2), (wrap64 (x29_2 + 1)), (by first | rfl | (simp; done) | (simp [*]; done)), (by first | rfl | (simp; done) | (simp [*]; done)), H', ⟨by have := HJ2.out; have := HK2.out; omega⟩, ⟨by repeat (first | (with_reducible first | exact HB.out | apply below_alloc | apply pw_below_drewN | apply below_drew1) | exact HB.out)⟩⟩
         ·rw [if_neg c12] at H
          exact absurd H (by simp)
        ·rw [if_neg c11] at H
         exact absurd H (by simp)
       ·rw [if_neg c10] at H
        exact absurd H (by simp)
      ·rw [if_neg c9] at H
       have c9b0 : decide (x29_2 < (l0.length : Int)) = false := decide_eq_false c9
       clear c9
       obtain rfl := Option.some.inj H
       go_wp2
       go_ret
       exact ⟨by first | rfl | (simp [errW_none, errW_some] <;> rfl) | (simp [*, errW_none, errW_some] <;> rfl), by repeat (first | (with_reducible first | exact HB.out | apply below_alloc | apply pw_below_drewN | apply below_drew1) | exact HB.out)⟩

end Go.Proofs.Yteeniaklmgcahaa.PFnExactCountParallel
