-- Written by plug.py, a program of this session, over the kit's print of the function: checked by Lean alone.
import Derived.Test.YtgpnhaaklhinlaaPFnExactSystemOfRowx0
import Derived.Test.YtgpnhaaklhinlaaPFnExactSystemOfRowx3
import Derived.Test.YtgpnhaaklhinlaaPFnExactSystemOfRowx4
namespace Go.Proofs.Ytgpnhaaklhinlaa.PFnExactSystemOfRow
open Go.RowKit Go.Proofs.YtgpnhaaklhinlaaW.PrintWords Go.Proofs.YtgpnhaaklhinlaaW.PrintLast Go.Proofs.YtgpnhaaklhinlaaW.PrintMore
attribute [local go_sem] max2_int min2_int max_two min_two max_three min_three max_four min_four   -- for this text's walks alone
set_option linter.unusedVariables false
set_option linter.unusedSimpArgs false

/-! ### spec_trBlocks: function 76 -/
mutual
def spec_trBlocks.l0 : Nat → Int → List (List Int) → List (List Int) → Int → Int → Option ((List (List Int)))
 | 0, _, _, _, _, _ => none
 | k + 1, x0, x5, x9, x10, x11 => if x11 < x10 then (if 0 ≤ x11 then (if x11 < (x9.length : Int) then (spec_trBlocks.l1 k x0 x5 (rd_L1 x9 x11) 0 x9 x10 x11) else (none)) else (none)) else (some x5)
def spec_trBlocks.l1 : Nat → Int → List (List Int) → List Int → Int → List (List Int) → Int → Int → Option ((List (List Int)))
 | 0, _, _, _, _, _, _, _ => none
 | k + 1, x0, x5, x7, x8, x9, x10, x11 => if x8 < x0 then (if 0 < (x7.length : Int) then (if x0 = 0 then (none) else (if 1 < (x7.length : Int) then ((spec_trSort.f k x8 (Int.tmod (wrap64 (x8 + (rd x7 0))) x0) (Int.tmod (wrap64 ((wrap64 (x8 + (rd x7 0))) + (rd x7 1))) x0)).bind fun t236 => ((spec_trPut.f k x5 t236).bind fun t239 => (spec_trBlocks.l1 k x0 t239 x7 (wrap64 (x8 + 1)) x9 x10 x11))) else (none))) else (none)) else (spec_trBlocks.l0 k x0 x5 x9 x10 (wrap64 (x11 + 1)))
end
def spec_trBlocks.f (k : Nat) (a0 : Int) (l1 : List (List Int)) : Option ((List (List Int))) := spec_trBlocks.l0 k a0 ([] : List (List Int)) l1 (l1.length : Int) 0
theorem spec_trBlocks.mono_l : ∀ k, (∀ y0 y1 y2 y3 y4, LeO (spec_trBlocks.l0 k y0 y1 y2 y3 y4) (spec_trBlocks.l0 (k + 1) y0 y1 y2 y3 y4)) ∧ (∀ y0 y1 y2 y3 y4 y5 y6, LeO (spec_trBlocks.l1 k y0 y1 y2 y3 y4 y5 y6) (spec_trBlocks.l1 (k + 1) y0 y1 y2 y3 y4 y5 y6))
 | 0 => ⟨fun _ _ _ _ _ r h => by simp [spec_trBlocks.l0] at h, fun _ _ _ _ _ _ _ r h => by simp [spec_trBlocks.l1] at h⟩
 | k + 1 => by
  obtain ⟨ih0, ih1⟩ := spec_trBlocks.mono_l k
  refine ⟨?_, ?_⟩
  ·intro y0 y1 y2 y3 y4
   unfold spec_trBlocks.l0
   repeat' first
   | (with_reducible exact ih0 _ _ _ _ _)
   | (with_reducible exact ih1 _ _ _ _ _ _ _)
   | (with_reducible exact spec_trPut.mono _ _ _)
   | (with_reducible exact spec_trSort.mono _ _ _ _)
   | (with_reducible exact LeO.refl _)
   | (with_reducible exact LeO.none _)
   | (with_reducible refine LeO.ite ?_ ?_)
   | (with_reducible refine LeO.bind ?_ (fun _ => ?_))
   | exact ih0 _ _ _ _ _
   | exact ih1 _ _ _ _ _ _ _
   | exact spec_trPut.mono _ _ _
   | exact spec_trSort.mono _ _ _ _
   | exact LeO.none _
   | refine LeO.ite ?_ ?_
   | refine LeO.bind ?_ (fun _ => ?_)
  ·intro y0 y1 y2 y3 y4 y5 y6
   unfold spec_trBlocks.l1
   repeat' first
   | (with_reducible exact ih0 _ _ _ _ _)
   | (with_reducible exact ih1 _ _ _ _ _ _ _)
   | (with_reducible exact spec_trPut.mono _ _ _)
   | (with_reducible exact spec_trSort.mono _ _ _ _)
   | (with_reducible exact LeO.refl _)
   | (with_reducible exact LeO.none _)
   | (with_reducible refine LeO.ite ?_ ?_)
   | (with_reducible refine LeO.bind ?_ (fun _ => ?_))
   | exact ih0 _ _ _ _ _
   | exact ih1 _ _ _ _ _ _ _
   | exact spec_trPut.mono _ _ _
   | exact spec_trSort.mono _ _ _ _
   | exact LeO.none _
   | refine LeO.ite ?_ ?_
   | refine LeO.bind ?_ (fun _ => ?_)
theorem spec_trBlocks.mono : ∀ a0 a1 k, LeO (spec_trBlocks.f k a0 a1) (spec_trBlocks.f (k + 1) a0 a1) := by
 intro a0 a1 k
 obtain ⟨ih0, ih1⟩ := spec_trBlocks.mono_l k
 unfold spec_trBlocks.f
 repeat' first
   | (with_reducible exact ih0 _ _ _ _ _)
   | (with_reducible exact ih1 _ _ _ _ _ _ _)
   | (with_reducible exact spec_trPut.mono _ _ _)
   | (with_reducible exact spec_trSort.mono _ _ _ _)
   | (with_reducible exact LeO.refl _)
   | (with_reducible exact LeO.none _)
   | (with_reducible refine LeO.ite ?_ ?_)
   | (with_reducible refine LeO.bind ?_ (fun _ => ?_))
   | exact ih0 _ _ _ _ _
   | exact ih1 _ _ _ _ _ _ _
   | exact spec_trPut.mono _ _ _
   | exact spec_trSort.mono _ _ _ _
   | exact LeO.none _
   | refine LeO.ite ?_ ?_
   | refine LeO.bind ?_ (fun _ => ?_)
def spec_trBlocks.T8 : Bool × List (List Nat × List Nat) := (true, [([], []), ([], []), ([], []), ([], []), ([3], [3]), ([4], [4]), ([2, 5], [2, 5]), ([], []), ([6, 7], [6, 7]), ([], []), ([], []), ([10], [10]), ([11], [11]), ([9, 12], [9, 12]), ([], []), ([14], [14]), ([15], [15]), ([13, 16], [13, 16]), ([], []), ([17, 18], [17, 18]), ([1, 8, 19], [1, 8, 19]), ([0, 20, 20], [0, 20]), ([21, 21, 0, 1, 2, 3, 4, 5, 6, 7, 8, 9, 10, 11, 12, 13, 14, 15, 16, 17, 18, 19, 20, 21], [0, 21])])
def spec_trBlocks.B8 : List Nat := [0, 0, 0, 0, 8, 24, 60, 0, 252, 0, 0, 1024, 3072, 7680, 0, 16384, 49152, 130560, 0, 523776, 1048574, 2097151, 4194303]
theorem spec_trBlocks.tab8 : rtab .any (opsOf Try.f76 8) = spec_trBlocks.T8 := by kernel_rfl
theorem spec_trBlocks.bits8 : waitsOk spec_trBlocks.T8.2 spec_trBlocks.B8 = true := by kernel_rfl
set_option maxHeartbeats 8000000 in
set_option maxRecDepth 100000 in
theorem spec_trBlocks.calls (k : Nat) (a0 : Int) (A1 : Option Addr) (c1 : Nat) (l1 : List (List Int)) (r : List (List Int)) (w : World) (hr1 : Kd.C (Kd.slice 3 (Kd.int .i64)) w A1 l1.length l1) (hc1 : l1.length ≤ c1) (h : spec_trBlocks.f k a0 l1 = some r) :
  Calls Try.prog 76 #[.int .i64 a0, .slice A1 l1.length c1] w fun e w' => ∃ v0_ : Value, e = .returned (v0_) ∧ Kd.N (Kd.slice 3 (Kd.int .i64)) 22 w' w.heap.size (fun k_ => (w.heap.size ≤ k_)) v0_ r ∧ Below w.heap.size w w' := by
 have HR1 := Aside0.mk hr1
 have HC1 := Aside0.mk hc1
 clear hr1 hc1
 have HB := Aside0.mk (Below.refl w.heap.size w)
 have H : (spec_trBlocks.l0 k a0 ([] : List (List Int)) l1 (l1.length : Int) 0) = some r := h
 clear h
 have H' := Aside0.mk H
 clear H
 go_enter Try.func76, Try.ntmps76
 go_wp2
 go_loopg [5, 11] k (fun kq v5 v11 w' => ∃ (x5_1 : List (List Int)) (x11_1 : Int), v11 = .int .i64 x11_1 ∧ Aside0 (spec_trBlocks.l0 kq a0 x5_1 l1 (l1.length : Int) x11_1 = some r) ∧ Aside0 (kq ≤ k) ∧ Aside0 (Kd.N (Kd.slice 3 (Kd.int .i64)) 22 w' w.heap.size (fun k_ => (w.heap.size ≤ k_)) v5 x5_1) ∧ Aside0 (Below w.heap.size w w'))
 case atStart => exact ⟨(([] : List (List Int))), (0), (by first | rfl | (simp; done) | (simp [*]; done)), H', ⟨Nat.le_refl _⟩, ⟨by first | exact Kd.S_nil _ _ _ _ _ | exact Kd.N_nil _ _ _ _ _ | exact Kd.V_nil _ _ _ _ _ | exact Kd.Q_nil _ _ _ _ _ | exact Kd.R_nil _ _ _ _ _⟩, ⟨by repeat (first | (with_reducible first | exact HB.out | apply below_alloc | apply pw_below_drewN | apply below_drew1) | exact HB.out)⟩⟩
 case round =>
  clear H'
  try clear c1
  try clear p2
  obtain ⟨x5_1, x11_1, rfl, HA, HK1, HO_5, HB⟩ := hrel
  cases gk with
  | zero => exact absurd HA.out (by simp [spec_trBlocks.l0])
  | succ k1 =>
   have H := HA.out
   clear HA
   simp only [spec_trBlocks.l0] at H
   by_cases c3 : x11_1 < (l1.length : Int)
   ·rw [if_pos c3] at H
    have c3b0 : decide (x11_1 < (l1.length : Int)) = true := decide_eq_true c3
    clear c3
    by_cases c4 : 0 ≤ x11_1
    ·rw [if_pos c4] at H
     have c4b0 : decide (0 ≤ x11_1) = true := decide_eq_true c4
     clear c4
     by_cases c5 : x11_1 < (l1.length : Int)
     ·rw [if_pos c5] at H
      have c5b0 : decide (x11_1 < (l1.length : Int)) = true := decide_eq_true c5
      clear c5
      have H' := Aside0.mk H
      clear H
      have p232 : 0 ≤ (x11_1 : Int) := of_decide_eq_true (by first | (with_reducible assumption) | assumption)
      have q232 : x11_1 < (l1.length : Int) := of_decide_eq_true (by first | (with_reducible assumption) | assumption)
      obtain ⟨ad232, A232_0, c232_0, e232, hx232_0, hl232_0, hi232_0⟩ := at_L1 HR1.out x11_1 p232 q232
      cases e232
      replace hx232_0 := (HB.out.cell (World.block_lt_of_cell? w _ hx232_0)).trans hx232_0
      have HR232_0 := Aside0.mk hi232_0
      have HC232_0 := Aside0.mk hl232_0
      clear hi232_0 hl232_0
      replace p232 := eq_true p232
      replace q232 := eq_true q232
      go_wp2
      go_loopg [5, 8] k1 (fun kq v5 v8 w' => ∃ (x5_2 : List (List Int)) (x8_2 : Int), v8 = .int .i64 x8_2 ∧ Aside0 (spec_trBlocks.l1 kq a0 x5_2 (rd_L1 l1 x11_1) x8_2 l1 (l1.length : Int) x11_1 = some r) ∧ Aside0 (kq ≤ k1) ∧ Aside0 (Kd.N (Kd.slice 3 (Kd.int .i64)) 22 w' w.heap.size (fun k_ => (w.heap.size ≤ k_)) v5 x5_2) ∧ Aside0 (Below w.heap.size w w'))
      case atStart => exact ⟨(x5_1), (0), (by first | rfl | (simp; done) | (simp [*]; done)), H', ⟨Nat.le_refl _⟩, ⟨by (with_reducible repeat (first | apply Kd.N_alloc | apply Kd.N_drewN | apply Kd.N_drew)); exact HO_5.out⟩, ⟨by repeat (first | (with_reducible first | exact HB.out | apply below_alloc | apply pw_below_drewN | apply below_drew1) | exact HB.out)⟩⟩
      case round =>
       clear H'
       try clear c1
       try clear c2
       try clear p2
       try clear q2
       try clear hx2
       try clear c3
       try clear c3b0
       try clear c4
       try clear c4b0
       try clear c5
       try clear c5b0
       try clear hx232_0
       try clear p2
       try clear p232
       try clear q232
       obtain ⟨x5_2, x8_2, rfl, HA, HK2, HO_5, HB⟩ := hrel
       cases gk with
       | zero => exact absurd HA.out (by simp [spec_trBlocks.l1])
       | succ k2 =>
        have H := HA.out
        clear HA
        simp only [spec_trBlocks.l1] at H
        by_cases c6 : x8_2 < a0
        ·rw [if_pos c6] at H
         have c6b0 : decide (x8_2 < a0) = true := decide_eq_true c6
         clear c6
         by_cases c7 : 0 < ((rd_L1 l1 x11_1).length : Int)
         ·rw [if_pos c7] at H
          have c7b0 : decide (0 < ((rd_L1 l1 x11_1).length : Int)) = true := decide_eq_true c7
          have c7b1 : decide (0 < (rd_L1 l1 x11_1).length) = true := decide_eq_true (by omega)
          clear c7
          by_cases c8 : a0 = 0
          ·rw [if_pos c8] at H
           exact absurd H (by simp)
          ·rw [if_neg c8] at H
           have c8b0 : (a0 == 0) = false := beq_eq_false_iff_ne.mpr c8
           have c8b1 : (a0 != 0) = true := bne_iff_ne.mpr c8
           by_cases c9 : 1 < ((rd_L1 l1 x11_1).length : Int)
           ·rw [if_pos c9] at H
            have c9b0 : decide (1 < ((rd_L1 l1 x11_1).length : Int)) = true := decide_eq_true c9
            have c9b1 : decide (1 < (rd_L1 l1 x11_1).length) = true := decide_eq_true (by omega)
            clear c9
            replace H := Option.bind_eq_some_iff.mp H
            obtain ⟨t236, A100, H⟩ := H
            replace H : ((spec_trPut.f k2 x5_2 t236).bind fun t239 => (spec_trBlocks.l1 k2 a0 t239 (rd_L1 l1 x11_1) (wrap64 (x8_2 + 1)) l1 (l1.length : Int) x11_1)) = some r := H
            have A10 := Aside0.mk A100
            clear A100
            replace H := Option.bind_eq_some_iff.mp H
            obtain ⟨t239, A110, H⟩ := H
            replace H : (spec_trBlocks.l1 k2 a0 t239 (rd_L1 l1 x11_1) (wrap64 (x8_2 + 1)) l1 (l1.length : Int) x11_1) = some r := H
            have A11 := Aside0.mk A110
            clear A110
            have H' := Aside0.mk H
            clear H
            try go_wp2
            have n0_ := Aside0.mk (Kd.N_drew HO_5.out)
            have n1_ := Aside0.mk (below_drew1 HB.out)
            clear HO_5
            clear HB
            have HO_5 := n0_
            have HB := n1_
            clear n0_ n1_
            have p233 : 0 ≤ (0 : Int) := (by omega)
            have q233 : 0 < ((rd_L1 l1 x11_1).length : Int) := of_decide_eq_true (by first | (with_reducible assumption) | assumption)
            obtain ⟨ad233, e233, hx233_0⟩ := Kd.at_int HR232_0.out 0 p233 q233
            have hw233_0 := hx233_0
            (try rw [show ((0 : Int)).toNat = 0 from rfl] at hw233_0)
            (try rw [show 0 * 1 = 0 from rfl] at hw233_0)
            (try rw [Addr.add_zero'] at hw233_0)
            cases e233
            have qi233 : (0 < (rd_L1 l1 x11_1).length) = True := eq_true (by omega)
            (try rw [show ((0 : Int)).toNat = 0 from rfl] at hx233_0)
            (try rw [Addr.add_zero'] at hx233_0)
            replace hx233_0 := (HB.out.cell (World.block_lt_of_cell? w _ hx233_0)).trans hx233_0
            replace p233 := eq_true p233
            replace q233 := eq_true q233
            have p234 : 0 ≤ (0 : Int) := (by omega)
            have q234 : 0 < ((rd_L1 l1 x11_1).length : Int) := of_decide_eq_true (by first | (with_reducible assumption) | assumption)
            obtain ⟨ad234, e234, hx234_0⟩ := Kd.at_int HR232_0.out 0 p234 q234
            have hw234_0 := hx234_0
            (try rw [show ((0 : Int)).toNat = 0 from rfl] at hw234_0)
            (try rw [show 0 * 1 = 0 from rfl] at hw234_0)
            (try rw [Addr.add_zero'] at hw234_0)
            obtain rfl : ad233 = ad234 := (by injection e234)
            have qi234 : (0 < (rd_L1 l1 x11_1).length) = True := eq_true (by omega)
            (try rw [show ((0 : Int)).toNat = 0 from rfl] at hx234_0)
            (try rw [Addr.add_zero'] at hx234_0)
            replace hx234_0 := (HB.out.cell (World.block_lt_of_cell? w _ hx234_0)).trans hx234_0
            replace p234 := eq_true p234
            replace q234 := eq_true q234
            have p235 : 0 ≤ (1 : Int) := (by omega)
            have q235 : 1 < ((rd_L1 l1 x11_1).length : Int) := of_decide_eq_true (by first | (with_reducible assumption) | assumption)
            obtain ⟨ad235, e235, hx235_0⟩ := Kd.at_int HR232_0.out 1 p235 q235
            have hw235_0 := hx235_0
            (try rw [show ((1 : Int)).toNat = 1 from rfl] at hw235_0)
            (try rw [show 1 * 1 = 1 from rfl] at hw235_0)
            (try simp only [Nat.reduceMul, Nat.reduceEqDiff, Go.Addr.add, ↓reduceIte] at hw235_0)
            obtain rfl : ad233 = ad235 := (by injection e235)
            (try simp only [show (1 : Int).toNat = 1 from rfl, Nat.reduceMul, Nat.reduceEqDiff, Go.Addr.add, ↓reduceIte] at hx235_0)
            have qi235 : (1 < (rd_L1 l1 x11_1).length) = True := eq_true (by omega)
            (try rw [show ((1 : Int)).toNat = 1 from rfl] at hx235_0)
            replace hx235_0 := (HB.out.cell (World.block_lt_of_cell? w _ hx235_0)).trans hx235_0
            replace p235 := eq_true p235
            replace q235 := eq_true q235
            refine start_ (n := 23) (S := fun w' => w'.cell? ad233 = some (.int .i64 (rd (rd_L1 l1 x11_1) 0)) ∧ w'.cell? ad233 = some (.int .i64 (rd (rd_L1 l1 x11_1) 0)) ∧ w'.cell? ⟨ad233.block, ad233.off + 1, none⟩ = some (.int .i64 (rd (rd_L1 l1 x11_1) 1))) (ds := []) (mb 23 0) (by kernel_rfl) rfl rfl ⟨((HB.out.cell (World.block_lt_of_cell? w _ hw233_0)).trans hw233_0), ((HB.out.cell (World.block_lt_of_cell? w _ hw234_0)).trans hw234_0), ((HB.out.cell (World.block_lt_of_cell? w _ hw235_0)).trans hw235_0)⟩ (fun hHeld => ?_); refine with_tabW spec_trBlocks.tab8 spec_trBlocks.bits8 (fun HT_ HW_ => ?_)
            generalize wr.drew = w12 at HO_5 HB hx233_0 hx234_0 hx235_0 hHeld ⊢
            refine pureV 0 20 23 1 HT_ ?_
            refine pureV 1 21 23 3 HT_ ?_
            refine pureV 2 22 23 7 HT_ ?_
            refine pureV 3 23 23 15 HT_ ?_
            refine pureV 4 24 23 31 HT_ ?_
            refine pureV 7 27 23 159 HT_ ?_
            refine pureV 9 29 23 671 HT_ ?_
            refine pureV 10 30 23 1695 HT_ ?_
            refine pureV 11 31 23 3743 HT_ ?_
            refine pureV 14 34 23 20127 HT_ ?_
            refine pureV 15 35 23 52895 HT_ ?_
            refine pureV 18 38 23 315039 HT_ ?_
            refine takeV 5 25 23 315071 HT_ HW_ hHeld rfl (by rintro w' ⟨s0, s1, s2⟩; go_simp; with_reducible rfl) ?_
            refine pureV 6 26 23 315135 HT_ ?_
            refine pureV 8 28 23 315391 HT_ ?_
            refine takeV 12 32 23 319487 HT_ HW_ hHeld rfl (by rintro w' ⟨s0, s1, s2⟩; go_simp; with_reducible rfl) ?_
            refine pureV 13 33 23 327679 HT_ ?_
            refine takeV 16 36 23 393215 HT_ HW_ hHeld rfl (by rintro w' ⟨s0, s1, s2⟩; go_simp; with_reducible rfl) ?_
            refine pureV 17 37 23 524287 HT_ ?_
            refine pureV 19 39 23 1048575 HT_ ?_
            refine one_ (i := 20) (N := some 40) (mb 23 2097151) rfl rfl (one_of HT_.out (by kernel_rfl)) (by decide) (fun K hK => ?_)
            refine goes_ Try.func106 (by kernel_rfl) rfl #[.int .i64 x8_2, .int .i64 (Int.tmod (wrap64 (x8_2 + (rd (rd_L1 l1 x11_1) 0))) a0), .int .i64 (Int.tmod (wrap64 ((wrap64 (x8_2 + (rd (rd_L1 l1 x11_1) 0))) + (rd (rd_L1 l1 x11_1) 1))) a0)] (by rfl) rfl rfl (by (try simp only [List.map_toArray, List.map_cons, List.map_nil]); first | done | rfl | (simp only [List.length_drop, List.length_take]; rfl)) ?_
            with_reducible refine (spec_trSort.calls k2 x8_2 (Int.tmod (wrap64 (x8_2 + (rd (rd_L1 l1 x11_1) 0))) a0) (Int.tmod (wrap64 ((wrap64 (x8_2 + (rd (rd_L1 l1 x11_1) 0))) + (rd (rd_L1 l1 x11_1) 1))) a0) t236 _ A10.out).mono ?_
            rintro e w13 ⟨v237, rfl, ho0, hb⟩
            refine ⟨_, rfl, ?_⟩
            have n0_ := Aside0.mk (Kd.N_elder' (by (with_reducible repeat (first | apply Kd.N_alloc | apply Kd.N_drewN | apply Kd.N_drew)); exact HO_5.out) (Kd.R_base ho0) hb)
            have n1_ := Aside0.mk (Kd.R_lower (Kd.R_newM (M := fun k_ => (w.heap.size ≤ k_)) ho0 (below_size (by repeat (first | (with_reducible first | exact HB.out | apply below_alloc | apply pw_below_drewN | apply below_drew1) | exact HB.out))) (fun k_ h_ => h_)) (below_size (by repeat (first | (with_reducible first | exact HB.out | apply below_alloc | apply pw_below_drewN | apply below_drew1) | exact HB.out))))
            have n2_ := Aside0.mk (below_step (by repeat (first | (with_reducible first | exact HB.out | apply below_alloc | apply pw_below_drewN | apply below_drew1) | exact HB.out)) hb)
            clear HO_5
            clear HB
            have HO_5 := n0_
            have HO238 := n1_
            have HB := n2_
            clear n0_ n1_ n2_
            (try clear hb)
            (try clear hb2)
            (try clear hk)
            (try clear hi)
            (try clear ho0)
            obtain ⟨Ao14, co14, eo14⟩ := Kd.N_slice HO_5.out
            (first | subst eo14 | (injection eo14 with f1_ f2_ f3_; have f4_ := f1_.symm; have f5_ := f3_.symm; clear f1_ f2_ f3_; subst f4_; subst f5_))
            obtain ⟨Ao15, co15, eo15⟩ := Kd.R_slice HO238.out
            (first | subst eo15 | (injection eo15 with f1_ f2_ f3_; have f4_ := f1_.symm; have f5_ := f3_.symm; clear f1_ f2_ f3_; subst f4_; subst f5_))
            refine hK.out _ _ ⟨((HB.out.cell (World.block_lt_of_cell? w _ hw233_0)).trans hw233_0), ((HB.out.cell (World.block_lt_of_cell? w _ hw234_0)).trans hw234_0), ((HB.out.cell (World.block_lt_of_cell? w _ hw235_0)).trans hw235_0)⟩ (fun hHeld => ?_)
            clear hK K
            refine norm_ (a' := ?_) ?_ ?_
            rotate_left
            ·show Act.put _ (some 40) _ = _
             simp only [Act.put, List.setIfInBounds_toArray, List.set_cons_zero, List.set_cons_succ, i64_w, i32_w]
             rfl
            refine one_ (i := 21) (N := some 41) (mb 23 4194303) rfl rfl (one_of HT_.out (by kernel_rfl)) (by decide) (fun K hK => ?_)
            refine goes_ Try.func105 (by kernel_rfl) rfl #[.slice Ao14 x5_2.length co14, .slice Ao15 t236.length co15] (by rfl) rfl rfl (by (try simp only [List.map_toArray, List.map_cons, List.map_nil]); first | done | rfl | (simp only [List.length_drop, List.length_take]; rfl)) ?_
            with_reducible refine (spec_trPut.calls k2 (fun k_ => ((w.heap.size ≤ k_) ∧ some k_ ≠ (.slice Ao15 t236.length co15 : Value).ownBlock)) _ _ x5_2 (fun k_ => some k_ = (.slice Ao15 t236.length co15 : Value).ownBlock) _ _ t236 t239 _ ?side1 ?side2 A11.out).mono ?_
            (case side1 => exact Kd.N_V (HO_5.out))
            (case side2 => exact Kd.R_V (Kd.R_tight rfl (Kd.R_apart' (HO238.out) (Kd.N_typed HO_5.out) (by decide))))
            rintro e w16 ⟨v240, rfl, ho0, hb⟩
            refine ⟨_, rfl, ?_⟩
            have n0_ := Aside0.mk (Kd.N_elder' (by (with_reducible repeat (first | apply Kd.N_alloc | apply Kd.N_drewN | apply Kd.N_drew)); exact HO_5.out) (Kd.N_base ho0) hb)
            have n1_ := Aside0.mk (Kd.R_below (by (with_reducible repeat (first | apply Kd.R_alloc | apply Kd.R_drewN | apply Kd.R_drew)); exact HO238.out) hb)
            have n2_ := Aside0.mk (Kd.N_lower (Kd.N_mono (ok' := fun k_ => (w.heap.size ≤ k_)) ho0 (fun k_ hk_ => Or.elim hk_ (fun hs_ => Or.elim hs_ (fun hs_ => hs_.1) (fun hs_ => ((Kd.R_apart' (HO238.out) (Kd.N_typed HO_5.out) (by decide)).1 k_ hs_.symm).1.1)) (fun hn_ => (Nat.le_trans (below_size (by repeat (first | (with_reducible first | exact HB.out | apply below_alloc | apply pw_below_drewN | apply below_drew1) | exact HB.out))) hn_)))) (below_size (by repeat (first | (with_reducible first | exact HB.out | apply below_alloc | apply pw_below_drewN | apply below_drew1) | exact HB.out))))
            have n3_ := Aside0.mk (below_step (by repeat (first | (with_reducible first | exact HB.out | apply below_alloc | apply pw_below_drewN | apply below_drew1) | exact HB.out)) hb)
            clear HO_5
            clear HO238
            clear HB
            have HO_5 := n0_
            have HO238 := n1_
            have HO241 := n2_
            have HB := n3_
            clear n0_ n1_ n2_ n3_
            (try clear hb)
            (try clear hb2)
            (try clear hk)
            (try clear hi)
            (try clear ho0)
            refine hK.out _ _ ⟨((HB.out.cell (World.block_lt_of_cell? w _ hw233_0)).trans hw233_0), ((HB.out.cell (World.block_lt_of_cell? w _ hw234_0)).trans hw234_0), ((HB.out.cell (World.block_lt_of_cell? w _ hw235_0)).trans hw235_0)⟩ (fun hHeld => ?_)
            clear hK K
            refine norm_ (a' := ?_) ?_ ?_
            rotate_left
            ·show Act.put _ (some 41) _ = _
             simp only [Act.put, List.setIfInBounds_toArray, List.set_cons_zero, List.set_cons_succ, i64_w, i32_w]
             rfl
            refine pureV 22 5 23 8388607 HT_ ?_
            refine done_ (done_of HT_.out (by kernel_rfl)) ?_
            try go_wp2
            go_roundg k2
            case measure => have := HK1.out; have := HK2.out; omega
            case rel => exact ⟨(t239), (wrap64 (x8_2 + 1)), (by first | rfl | (simp; done) | (simp [*]; done)), H', ⟨by have := HK1.out; have := HK2.out; omega⟩, ⟨by (with_reducible repeat (first | apply Kd.N_alloc | apply Kd.N_drewN | apply Kd.N_drew)); exact HO241.out⟩, ⟨by repeat (first | (with_reducible first | exact HB.out | apply below_alloc | apply pw_below_drewN | apply below_drew1) | exact HB.out)⟩⟩
           ·rw [if_neg c9] at H
            exact absurd H (by simp)
         ·rw [if_neg c7] at H
          exact absurd H (by simp)
        ·rw [if_neg c6] at H
         have c6b0 : decide (x8_2 < a0) = false := decide_eq_false c6
         clear c6
         have H' := Aside0.mk H
         clear H
         go_wp2
         go_roundg k2
         case measure => have := HK1.out; have := HK2.out; omega
         case rel => exact ⟨(x5_2), (wrap64 (x11_1 + 1)), (by first | rfl | (simp; done) | (simp [*]; done)), H', ⟨by have := HK1.out; have := HK2.out; omega⟩, ⟨by (with_reducible repeat (first | apply Kd.N_alloc | apply Kd.N_drewN | apply Kd.N_drew)); exact HO_5.out⟩, ⟨by repeat (first | (with_reducible first | exact HB.out | apply below_alloc | apply pw_below_drewN | apply below_drew1) | exact HB.out)⟩⟩
     ·rw [if_neg c5] at H
      exact absurd H (by simp)
    ·rw [if_neg c4] at H
     exact absurd H (by simp)
   ·rw [if_neg c3] at H
    have c3b0 : decide (x11_1 < (l1.length : Int)) = false := decide_eq_false c3
    clear c3
    obtain rfl := Option.some.inj H
    go_wp2
    go_ret
    exact ⟨_, by first | rfl | (simp [errW_none, errW_some] <;> rfl) | (simp [*, errW_none, errW_some] <;> rfl), by (with_reducible repeat (first | apply Kd.N_alloc | apply Kd.N_drewN | apply Kd.N_drew)); exact HO_5.out, by repeat (first | (with_reducible first | exact HB.out | apply below_alloc | apply pw_below_drewN | apply below_drew1) | exact HB.out)⟩

/-! ### spec_SystemOfRow: function 40 -/
/-- The reference's triples where the row is a hooked one. -/
def spec_SystemOfRow.row (n : Int) (t : List Int) : List Int := if rd t 2 = wrap64 (wrap64 (3 * n) + 1) then t.set 2 (wrap64 (3 * n)) else t
def spec_SystemOfRow.trip (n : Int) (hk : Bool) (L : List (List Int)) : Option (List (List Int)) := if hk = true then (if (decide (0 < L.length ∧ L.length ≤ 100) && L.all fun t => decide (t.length = 3)) = true then some (L.map (spec_SystemOfRow.row n)) else none) else some L
def spec_SystemOfRow.rest (k : Nat) (l0 : List Int) (a : Int × Bool × Bool) : Option (List (List Int) × Bool) :=
 if a.2.2 = true then (if wrap64 (wrap64 (6 * a.1) + 1) > 40 then some ([], false) else (spec_trOfRow.f k l0 a.1).bind fun L => (spec_SystemOfRow.trip a.1 a.2.1 L).bind fun L' => (spec_trBlocks.f k (wrap64 (wrap64 (6 * a.1) + 1)) L').bind fun r => some (r, true)) else some ([], false)
def spec_SystemOfRow.f (k : Nat) (l0 : List Int) : Option (List (List Int) × Bool) := (spec_trRow.f k l0).bind fun a => spec_SystemOfRow.rest k l0 a
theorem spec_SystemOfRow.mono : ∀ a0 k, LeO (spec_SystemOfRow.f k a0) (spec_SystemOfRow.f (k + 1) a0) := by
 intro a0 k
 unfold spec_SystemOfRow.f
 refine LeO.bind (spec_trRow.mono _ _) (fun a => ?_)
 unfold spec_SystemOfRow.rest
 split
 ·split
  ·exact LeO.refl _
  ·refine LeO.bind (spec_trOfRow.mono _ _ _) (fun L => ?_)
   refine LeO.bind (LeO.refl _) (fun L' => ?_)
   exact LeO.bind (spec_trBlocks.mono _ _ _) (fun _ => LeO.refl _)
 ·exact LeO.refl _
set_option maxHeartbeats 8000000 in
set_option maxRecDepth 100000 in
theorem spec_SystemOfRow.calls (k : Nat) (A0 : Option Addr) (c0 : Nat) (l0 : List Int) (r1 : List (List Int)) (r2 : Bool) (w : World) (hr0 : Kd.C (Kd.int .i64) w A0 l0.length l0) (hc0 : l0.length ≤ c0) (h : spec_SystemOfRow.f k l0 = some (r1, r2)) :
  Calls Try.prog 40 #[.slice A0 l0.length c0] w fun e w' => ∃ v0_ : Value, e = .returned (.tuple #[v0_, .bool r2]) ∧ Kd.N (Kd.slice 3 (Kd.int .i64)) 22 w' w.heap.size (fun k_ => (w.heap.size ≤ k_)) v0_ r1 ∧ Below w.heap.size w w' := by
 unfold spec_SystemOfRow.f at h
 obtain ⟨⟨n, hk, ok⟩, hA, hrest⟩ := Option.bind_eq_some_iff.1 h
 unfold spec_SystemOfRow.rest at hrest
 have HA := Aside0.mk hA
 have HR0 := Aside0.mk hr0
 have HC0 := Aside0.mk hc0
 clear h hA hr0 hc0
 dsimp only at hrest
 cases ok with
 | false =>
  rw [if_neg (by decide)] at hrest
  simp only [Option.some.injEq, Prod.mk.injEq] at hrest
  obtain ⟨rfl, rfl⟩ := hrest
  go_enter Try.func40, Try.ntmps40
  go_wp2_with (first | (go_at_call 48; (with_reducible refine (spec_trRow.calls k A0 c0 l0 n hk false _ HR0.out HC0.out HA.out).mono ?_); rintro e w1 ⟨rfl, hb1⟩; have HB1 := Aside0.mk hb1; clear hb1))
  go_ret2
  exact ⟨_, rfl, Kd.N_nil _ _ _ _ _, HB1.out⟩
 | true =>
  rw [if_pos rfl] at hrest
  by_cases cg : wrap64 (wrap64 (6 * n) + 1) > 40
  ·rw [if_pos cg] at hrest
   simp only [Option.some.injEq, Prod.mk.injEq] at hrest
   obtain ⟨rfl, rfl⟩ := hrest
   have cd : decide (wrap64 (wrap64 (6 * n) + 1) > 40) = true := decide_eq_true cg
   have cd2 : decide (40 < wrap64 (wrap64 (6 * n) + 1)) = true := decide_eq_true cg
   clear cg
   go_enter Try.func40, Try.ntmps40
   go_wp2_with (first | (go_at_call 48; (with_reducible refine (spec_trRow.calls k A0 c0 l0 n hk true _ HR0.out HC0.out HA.out).mono ?_); rintro e w1 ⟨rfl, hb1⟩; have HB1 := Aside0.mk hb1; clear hb1))
   go_ret2
   exact ⟨_, rfl, Kd.N_nil _ _ _ _ _, HB1.out⟩
  ·rw [if_neg cg] at hrest
   have cd : decide (wrap64 (wrap64 (6 * n) + 1) > 40) = false := decide_eq_false cg
   have cd2 : decide (40 < wrap64 (wrap64 (6 * n) + 1)) = false := decide_eq_false cg
   have cd3 : (40 < wrap64 (wrap64 (6 * n) + 1)) = False := eq_false cg
   clear cg
   obtain ⟨L, hL, hrest⟩ := Option.bind_eq_some_iff.1 hrest
   obtain ⟨L', hL', hrest⟩ := Option.bind_eq_some_iff.1 hrest
   obtain ⟨r, hr, hrest⟩ := Option.bind_eq_some_iff.1 hrest
   simp only [Option.some.injEq, Prod.mk.injEq] at hrest
   obtain ⟨rfl, rfl⟩ := hrest
   have HL := Aside0.mk hL
   have HRC := Aside0.mk hr
   clear hL hr
   unfold spec_SystemOfRow.trip at hL'
   cases hk with
   | false =>
    rw [if_neg (by decide)] at hL'
    obtain rfl := Option.some.inj hL'
    go_enter Try.func40, Try.ntmps40
    go_wp2_with (first | (go_at_call 48; (with_reducible refine (spec_trRow.calls k A0 c0 l0 n false true _ HR0.out HC0.out HA.out).mono ?_); rintro e w1 ⟨rfl, hb1⟩; have HB1 := Aside0.mk hb1; clear hb1) | ((with_reducible refine gate_callee (f := 49) rfl ?_); refine goesL_ (some 26) rfl rfl Try.func49 (by kernel_rfl) rfl #[.slice A0 l0.length c0, .int .i64 n] rfl (by (try simp only [List.map_toArray, List.map_cons, List.map_nil]); first | done | rfl) ?_; (with_reducible refine (spec_trOfRow.calls k A0 c0 l0 n L _ (Kd.C_below HR0.out HB1.out) HC0.out HL.out).mono ?_); rintro e w2 ⟨v2, rfl, ho2, hb2⟩; refine ⟨_, rfl, ?_⟩; obtain ⟨A2, c2, rfl⟩ := Kd.S_slice ho2; have HS2 := Aside0.mk (Kd.S_lower ho2 HB1.out.size); have HB2 := Aside0.mk (below_step HB1.out hb2); clear ho2 hb2) | ((with_reducible refine gate_callee (f := 76) rfl ?_); refine goesL_ (some 50) rfl rfl Try.func76 (by kernel_rfl) rfl #[.int .i64 (wrap64 (wrap64 (6 * n) + 1)), .slice A2 L.length c2] rfl (by (try simp only [List.map_toArray, List.map_cons, List.map_nil]); first | done | rfl) ?_; (with_reducible refine (spec_trBlocks.calls k (wrap64 (wrap64 (6 * n) + 1)) A2 c2 L r _ (Kd.S_reads' HS2.out).2.2 (Kd.S_reads' HS2.out).2.1 HRC.out).mono ?_); rintro e w6 ⟨v6, rfl, ho6, hb6⟩; refine ⟨_, rfl, ?_⟩; have HS6 := Aside0.mk (Kd.N_lower (Kd.N_mono (ok' := fun k_ => (w.heap.size ≤ k_)) ho6 (fun k_ hk_ => Nat.le_trans HB2.out.size hk_)) HB2.out.size); have HB6 := Aside0.mk (below_step HB2.out hb6); clear ho6 hb6))
    go_ret2
    exact ⟨_, rfl, HS6.out, HB6.out⟩
   | true =>
    rw [if_pos rfl] at hL'
    by_cases ca : (decide (0 < L.length ∧ L.length ≤ 100) && L.all fun t => decide (t.length = 3)) = true
    ·rw [if_pos ca] at hL'
     obtain rfl := Option.some.inj hL'
     rw [Bool.and_eq_true, decide_eq_true_eq] at ca
     have HP := Aside0.mk ca.1.1
     have HL1 := Aside0.mk ca.1.2
     have HA3 := Aside0.mk ca.2
     clear ca hL'
     go_enter Try.func40, Try.ntmps40
     go_wp2_with (first | (go_at_call 48; (with_reducible refine (spec_trRow.calls k A0 c0 l0 n true true _ HR0.out HC0.out HA.out).mono ?_); rintro e w1 ⟨rfl, hb1⟩; have HB1 := Aside0.mk hb1; clear hb1) | ((with_reducible refine gate_callee (f := 49) rfl ?_); refine goesL_ (some 26) rfl rfl Try.func49 (by kernel_rfl) rfl #[.slice A0 l0.length c0, .int .i64 n] rfl (by (try simp only [List.map_toArray, List.map_cons, List.map_nil]); first | done | rfl) ?_; (with_reducible refine (spec_trOfRow.calls k A0 c0 l0 n L _ (Kd.C_below HR0.out HB1.out) HC0.out HL.out).mono ?_); rintro e w2 ⟨v2, rfl, ho2, hb2⟩; refine ⟨_, rfl, ?_⟩; obtain ⟨g, cap, rfl, hg, hgl, cells, hcells⟩ := Kd.S_form ho2 HP.out; have HS2 := Aside0.mk (Kd.S_lower ho2 HB1.out.size); have HB2 := Aside0.mk (below_step HB1.out hb2); clear ho2 hb2))
     go_loopg [30] (L.length + 1) (fun kq v30 w' => ∃ (i : Nat), v30 = .int .i64 (i : Int) ∧ Aside0 (i ≤ L.length ∧ kq + i = L.length + 1) ∧ Aside0 (Kd.S (Kd.slice 3 (Kd.int .i64)) 22 w' w.heap.size (fun _ => True) (.slice (some ⟨g, 0, none⟩) L.length cap) ((L.take i).map (spec_SystemOfRow.row n) ++ L.drop i)) ∧ Aside0 (Below w.heap.size w w'))
     case atStart => exact ⟨0, rfl, ⟨by omega⟩, ⟨by simpa using HS2.out⟩, HB2⟩
     case round =>
      obtain ⟨i, rfl, HI, HS, HB⟩ := hrel
      cases gk with
      | zero => exact absurd HI.out (by omega)
      | succ k1 =>
       by_cases hi : i < L.length
       ·have ci : decide ((i : Int) < (L.length : Int)) = true := decide_eq_true (by omega)
        have ci2 : (i < L.length) = True := eq_true hi
        have p1 : (0 ≤ (i : Int)) = True := eq_true (by omega)
        have q1 : ((i : Int) < (L.length : Int)) = True := eq_true (by omega)
        have ht3 := Search.all_three HA3.out i hi
        obtain ⟨b, c2, hx, hne, hbb, _, hblt, hcell, hfr, hset⟩ := Search.store_row HS.out i (by rw [Search.part_len]; exact hi) 2 (by rw [Search.part_get _ _ _ hi, ht3]; omega) (wrap64 (3 * n))
        rw [Search.part_get _ _ _ hi] at hx hcell hset
        have PS := Aside0.mk (Search.part_set (spec_SystemOfRow.row n) L i hi)
        have PM := Aside0.mk (Search.part_same (spec_SystemOfRow.row n) L i hi)
        have h2 : _ = some (Value.int .i64 (rd L[i] 2)) := hcell 2 (by rw [ht3]; omega)
        have f2 := hfr 2
        rw [ht3] at hx
        have hx' : _ = some (Value.slice (some ⟨b, 0, none⟩) 3 c2) := (congrArg _ (add_plain g i)).trans hx
        have EF := Aside0.mk (show spec_SystemOfRow.row n L[i] = if rd L[i] 2 = wrap64 (wrap64 (3 * n) + 1) then L[i].set 2 (wrap64 (3 * n)) else L[i] from rfl)
        have HSET := Aside0.mk hset
        have HBB := Aside0.mk hbb
        have HI1 := Aside0.mk (show i + 1 ≤ L.length ∧ k1 + (i + 1) = L.length + 1 by have := HI.out; omega)
        have e4 : wrap64 ((i : Int) + 1) = ((i + 1 : Nat) : Int) := by have := HL1.out; unfold wrap64; omega
        clear hset hcell hfr hbb hblt hne ht3
        generalize L[i] = t at h2 HSET PS PM EF
        clear hi
        by_cases c : rd t 2 = wrap64 (wrap64 (3 * n) + 1)
        ·have cb : (rd t 2 == wrap64 (wrap64 (3 * n) + 1)) = true := beq_iff_eq.2 c
         have ER := Aside0.mk (EF.out.trans (if_pos c))
         clear c
         go_wp2
         rw [e4]
         have HS5 := Aside0.mk (show Kd.S (Kd.slice 3 (Kd.int .i64)) 22 (wr.setCell ⟨b, 2, none⟩ (.int .i64 (wrap64 (3 * n)))) w.heap.size (fun _ => True) (.slice (some ⟨g, 0, none⟩) L.length cap) ((L.take (i + 1)).map (spec_SystemOfRow.row n) ++ L.drop (i + 1)) from by
          have h := HSET.out
          rw [← ER.out, PS.out] at h
          exact h)
         have HB5 := Aside0.mk (below_set (j := 2) (v := .int .i64 (wrap64 (3 * n))) HB.out HBB.out)
         go_roundg k1
         case measure => have := HI1.out; omega
         case rel => exact ⟨i + 1, rfl, HI1, HS5, HB5⟩
        ·have cb : (rd t 2 == wrap64 (wrap64 (3 * n) + 1)) = false := beq_eq_false_iff_ne.2 c
         have ER := Aside0.mk (EF.out.trans (if_neg c))
         clear c
         go_wp2
         rw [e4]
         have HS5 := HS
         rw [PM.out ER.out] at HS5
         go_roundg k1
         case measure => have := HI1.out; omega
         case rel => exact ⟨i + 1, rfl, HI1, HS5, HB⟩
       ·have ci : decide ((i : Int) < (L.length : Int)) = false := decide_eq_false (by omega)
        have ci2 : (i < L.length) = False := eq_false hi
        have hF := HS.out
        rw [List.take_of_length_le (by omega), List.drop_of_length_le (by omega), List.append_nil] at hF
        have hC := Kd.S_reads' hF
        have hcon := spec_trBlocks.calls k (wrap64 (wrap64 (6 * n) + 1)) (some ⟨g, 0, none⟩) cap (L.map (spec_SystemOfRow.row n)) r wr (hC.1 ▸ hC.2.2) (hC.1 ▸ hC.2.1) HRC.out
        rw [List.length_map] at hcon
        have HCON := Aside0.mk hcon
        clear hi hF hC hcon
        go_wp2_with (first | ((with_reducible refine gate_callee (f := 76) rfl ?_); refine goesL_ (some 50) rfl rfl Try.func76 (by kernel_rfl) rfl #[.int .i64 (wrap64 (wrap64 (6 * n) + 1)), .slice (some ⟨g, 0, none⟩) L.length cap] rfl (by (try simp only [List.map_toArray, List.map_cons, List.map_nil]); first | done | rfl) ?_; (with_reducible refine (HCON.out).mono ?_); rintro e w6 ⟨v6, rfl, ho6, hb6⟩; refine ⟨_, rfl, ?_⟩; have HS6 := Aside0.mk (Kd.N_lower (Kd.N_mono (ok' := fun k_ => (w.heap.size ≤ k_)) ho6 (fun k_ hk_ => Nat.le_trans HB.out.size hk_)) HB.out.size); have HB6 := Aside0.mk (below_step HB.out hb6); clear ho6 hb6))
        go_ret2
        exact ⟨_, rfl, HS6.out, HB6.out⟩
    ·rw [if_neg ca] at hL'
     cases hL'

-- NOT PRINTED: function 46 (impl_pairs)

/-! ### impl_IsRow: function 82 -/
def impl_IsRow.l0 : Nat → List Int → List Int → Int → Int → Option (Bool)
 | 0, _, _, _, _ => none
 | k + 1, x0, x5, x6, x7 => if x7 < x6 then (if 0 ≤ x7 then (if x7 < (x5.length : Int) then (if (rd x5 x7) < 0 then (some false) else (if (rd x5 x7) > 20 then (some false) else (impl_IsRow.l0 k x0 x5 x6 (wrap64 (x7 + 1))))) else (none)) else (none)) else (some (decide ((x0.length : Int) ≤ 40)))
def impl_IsRow.f (k : Nat) (l0 : List Int) : Option (Bool) := impl_IsRow.l0 k l0 l0 (l0.length : Int) 0
theorem impl_IsRow.mono_l : ∀ k, (∀ y0 y1 y2 y3, LeO (impl_IsRow.l0 k y0 y1 y2 y3) (impl_IsRow.l0 (k + 1) y0 y1 y2 y3))
 | 0 => fun _ _ _ _ r h => by simp [impl_IsRow.l0] at h
 | k + 1 => by
  have ih0 := impl_IsRow.mono_l k
  ·intro y0 y1 y2 y3
   unfold impl_IsRow.l0
   repeat' first
   | (with_reducible exact ih0 _ _ _ _)
   | (with_reducible exact LeO.refl _)
   | (with_reducible exact LeO.none _)
   | (with_reducible refine LeO.ite ?_ ?_)
   | (with_reducible refine LeO.bind ?_ (fun _ => ?_))
   | exact ih0 _ _ _ _
   | exact LeO.none _
   | refine LeO.ite ?_ ?_
   | refine LeO.bind ?_ (fun _ => ?_)
theorem impl_IsRow.mono : ∀ a0 k, LeO (impl_IsRow.f k a0) (impl_IsRow.f (k + 1) a0) := by
 intro a0 k
 have ih0 := impl_IsRow.mono_l k
 unfold impl_IsRow.f
 repeat' first
   | (with_reducible exact ih0 _ _ _ _)
   | (with_reducible exact LeO.refl _)
   | (with_reducible exact LeO.none _)
   | (with_reducible refine LeO.ite ?_ ?_)
   | (with_reducible refine LeO.bind ?_ (fun _ => ?_))
   | exact ih0 _ _ _ _
   | exact LeO.none _
   | refine LeO.ite ?_ ?_
   | refine LeO.bind ?_ (fun _ => ?_)
set_option maxHeartbeats 8000000 in
set_option maxRecDepth 100000 in
theorem impl_IsRow.calls (k : Nat) (A0 : Option Addr) (c0 : Nat) (l0 : List Int) (r : Bool) (w : World) (hr0 : Kd.C (Kd.int .i64) w A0 l0.length l0) (hc0 : l0.length ≤ c0) (h : impl_IsRow.f k l0 = some r) :
  Calls Try.prog 82 #[.slice A0 l0.length c0] w fun e w' => e = .returned (.bool r) ∧ Drawn0 w w' := by
 have HR0 := Aside0.mk hr0
 have HC0 := Aside0.mk hc0
 clear hr0 hc0
 have H : (impl_IsRow.l0 k l0 l0 (l0.length : Int) 0) = some r := h
 clear h
 have H' := Aside0.mk H
 clear H
 go_enter Try.func82, Try.ntmps82
 go_wp2
 go_loopg [7] k (fun kq v7 w' => ∃ (x7_1 : Int), v7 = .int .i64 x7_1 ∧ Aside0 (impl_IsRow.l0 kq l0 l0 (l0.length : Int) x7_1 = some r) ∧ Aside0 (kq ≤ k) ∧ Drawn0 w w')
 case atStart => exact ⟨(0), (by first | rfl | (simp; done) | (simp [*]; done)), H', ⟨Nat.le_refl _⟩, by repeat (first | exact Drawn0.refl _ | apply Drawn0.step)⟩
 case round =>
  clear H'
  obtain ⟨x7_1, rfl, HA, HK1, ⟨m1, rfl⟩⟩ := hrel
  cases gk with
  | zero => exact absurd HA.out (by simp [impl_IsRow.l0])
  | succ k1 =>
   have H := HA.out
   clear HA
   simp only [impl_IsRow.l0] at H
   by_cases c2 : x7_1 < (l0.length : Int)
   ·rw [if_pos c2] at H
    have c2b0 : decide (x7_1 < (l0.length : Int)) = true := decide_eq_true c2
    clear c2
    by_cases c3 : 0 ≤ x7_1
    ·rw [if_pos c3] at H
     have c3b0 : decide (0 ≤ x7_1) = true := decide_eq_true c3
     clear c3
     by_cases c4 : x7_1 < (l0.length : Int)
     ·rw [if_pos c4] at H
      have c4b0 : decide (x7_1 < (l0.length : Int)) = true := decide_eq_true c4
      clear c4
      by_cases c5 : (rd l0 x7_1) < 0
      ·rw [if_pos c5] at H
       have c5b0 : decide ((rd l0 x7_1) < 0) = true := decide_eq_true c5
       clear c5
       obtain rfl := Option.some.inj H
       have p242 : 0 ≤ (x7_1 : Int) := of_decide_eq_true (by first | (with_reducible assumption) | assumption)
       have q242 : x7_1 < (l0.length : Int) := of_decide_eq_true (by first | (with_reducible assumption) | assumption)
       obtain ⟨ad242, e242, hx242_0⟩ := Kd.at_int HR0.out x7_1 p242 q242
       cases e242
       replace p242 := eq_true p242
       replace q242 := eq_true q242
       go_wp2
       go_ret
       exact ⟨by first | rfl | (simp; done) | (simp [*]; done), by repeat (first | exact Drawn0.refl _ | apply Drawn0.step)⟩
      ·rw [if_neg c5] at H
       have c5b0 : decide ((rd l0 x7_1) < 0) = false := decide_eq_false c5
       clear c5
       by_cases c6 : (rd l0 x7_1) > 20
       ·rw [if_pos c6] at H
        have c6b0 : decide (20 < (rd l0 x7_1)) = true := decide_eq_true c6
        clear c6
        obtain rfl := Option.some.inj H
        have p242 : 0 ≤ (x7_1 : Int) := of_decide_eq_true (by first | (with_reducible assumption) | assumption)
        have q242 : x7_1 < (l0.length : Int) := of_decide_eq_true (by first | (with_reducible assumption) | assumption)
        obtain ⟨ad242, e242, hx242_0⟩ := Kd.at_int HR0.out x7_1 p242 q242
        cases e242
        replace p242 := eq_true p242
        replace q242 := eq_true q242
        go_wp2
        go_ret
        exact ⟨by first | rfl | (simp; done) | (simp [*]; done), by repeat (first | exact Drawn0.refl _ | apply Drawn0.step)⟩
       ·rw [if_neg c6] at H
        have c6b0 : decide (20 < (rd l0 x7_1)) = false := decide_eq_false c6
        clear c6
        have H' := Aside0.mk H
        clear H
        have p242 : 0 ≤ (x7_1 : Int) := of_decide_eq_true (by first | (with_reducible assumption) | assumption)
        have q242 : x7_1 < (l0.length : Int) := of_decide_eq_true (by first | (with_reducible assumption) | assumption)
        obtain ⟨ad242, e242, hx242_0⟩ := Kd.at_int HR0.out x7_1 p242 q242
        cases e242
        replace p242 := eq_true p242
        replace q242 := eq_true q242
        go_wp2
        go_roundg k1
        case measure => have := HK1.out; omega
        case rel => exact ⟨(wrap64 (x7_1 + 1)), (by first | rfl | (simp; done) | (simp [*]; done)), H', ⟨by have := HK1.out; omega⟩, by repeat (first | exact Drawn0.refl _ | apply Drawn0.step)⟩
     ·rw [if_neg c4] at H
      exact absurd H (by simp)
    ·rw [if_neg c3] at H
     exact absurd H (by simp)
   ·rw [if_neg c2] at H
    have c2b0 : decide (x7_1 < (l0.length : Int)) = false := decide_eq_false c2
    clear c2
    obtain rfl := Option.some.inj H
    go_wp2
    go_ret
    exact ⟨by first | rfl | (simp; done) | (simp [*]; done), by repeat (first | exact Drawn0.refl _ | apply Drawn0.step)⟩

end Go.Proofs.Ytgpnhaaklhinlaa.PFnExactSystemOfRow
