-- Written by plug.py, a program of this session, over the kit's print of the function: checked by Lean alone.
import Derived.Test.YtgpnhaaklhinlaaPFnExactRowOfTriplesx0
import Derived.Test.YtgpnhaaklhinlaaPFnExactRowOfTriplesx1
import Derived.Test.YtgpnhaaklhinlaaPFnExactRowOfTriplesx4
namespace Go.Proofs.Ytgpnhaaklhinlaa.PFnExactRowOfTriples
open Go.RowKit Go.Proofs.YtgpnhaaklhinlaaW.PrintWords Go.Proofs.YtgpnhaaklhinlaaW.PrintLast Go.Proofs.YtgpnhaaklhinlaaW.PrintMore
attribute [local go_sem] max2_int min2_int max_two min_two max_three min_three max_four min_four   -- for this text's walks alone
set_option linter.unusedVariables false
set_option linter.unusedSimpArgs false

/-! ### spec_RowOfTriples: function 23 -/
mutual
def spec_RowOfTriples.j0 : Nat → List (List Int) → Int → Bool → Option (List Int × Bool)
  | 0, _, _, _ => none
  | k + 1, x0, x4, x25 => if x25 = true then (some (([] : List Int), false)) else ((spec_trSplit.f k x4 x0 true).bind fun t150 => (if t150 = true then (spec_RowOfTriples.j1 k x0 x4 (wrap64 ((wrap64 (2 * x4)) + 1))) else (spec_RowOfTriples.j1 k x0 x4 (wrap64 (2 * x4)))))
def spec_RowOfTriples.j1 : Nat → List (List Int) → Int → Int → Option (List Int × Bool)
  | 0, _, _, _ => none
  | k + 1, x0, x4, x5 => if 0 ≤ x5 then (if (x5 : Int).toNat ≤ 35184372088832 then (spec_RowOfTriples.l0 k x4 (List.replicate (x5 : Int).toNat 0) x0 (x0.length : Int) 0) else (none)) else (none)
def spec_RowOfTriples.l0 : Nat → Int → List Int → List (List Int) → Int → Int → Option (List Int × Bool)
  | 0, _, _, _, _, _ => none
  | k + 1, x4, x6, x35, x36, x37 => if x37 < x36 then (if 0 ≤ x37 then (if x37 < (x35.length : Int) then (if 0 < ((rd_L1 x35 x37).length : Int) then (if (rd (rd_L1 x35 x37) 0) = (wrap64 (x37 + 1)) then (if 1 < ((rd_L1 x35 x37).length : Int) then (if (rd (rd_L1 x35 x37) 1) ≤ x4 then (some (([] : List Int), false)) else (if 0 ≤ (wrap64 ((wrap64 ((rd (rd_L1 x35 x37) 1) - x4)) - 1)) then (if (wrap64 ((wrap64 ((rd (rd_L1 x35 x37) 1) - x4)) - 1)) < (x6.length : Int) then (if 2 < ((rd_L1 x35 x37).length : Int) then (if 0 ≤ (wrap64 ((wrap64 ((rd (rd_L1 x35 x37) 2) - x4)) - 1)) then (if (wrap64 ((wrap64 ((rd (rd_L1 x35 x37) 2) - x4)) - 1)) < (x6.length : Int) then (spec_RowOfTriples.l0 k x4 ((x6.set ((wrap64 ((wrap64 ((rd (rd_L1 x35 x37) 1) - x4)) - 1)) : Int).toNat (rd (rd_L1 x35 x37) 0)).set ((wrap64 ((wrap64 ((rd (rd_L1 x35 x37) 2) - x4)) - 1)) : Int).toNat (rd (rd_L1 x35 x37) 0)) x35 x36 (wrap64 (x37 + 1))) else (none)) else (none)) else (none)) else (none)) else (none))) else (none)) else (some (([] : List Int), false))) else (none)) else (none)) else (none)) else (some (x6, true))
end
def spec_RowOfTriples.f (k : Nat) (l0 : List (List Int)) : Option (List Int × Bool) := (spec_l1In.f (l0.length : Int) 1 10).bind fun t147 => (if t147 = true then ((spec_trSplit.f k (l0.length : Int) l0 false).bind fun t148 => (if t148 = true then (spec_RowOfTriples.j0 k l0 (l0.length : Int) false) else ((spec_trSplit.f k (l0.length : Int) l0 true).bind fun t149 => (spec_RowOfTriples.j0 k l0 (l0.length : Int) (!t149))))) else (spec_RowOfTriples.j0 k l0 (l0.length : Int) true))
theorem spec_RowOfTriples.mono_l : ∀ k, (∀ y0 y1 y2, LeO (spec_RowOfTriples.j0 k y0 y1 y2) (spec_RowOfTriples.j0 (k + 1) y0 y1 y2)) ∧ (∀ y0 y1 y2, LeO (spec_RowOfTriples.j1 k y0 y1 y2) (spec_RowOfTriples.j1 (k + 1) y0 y1 y2)) ∧ (∀ y0 y1 y2 y3 y4, LeO (spec_RowOfTriples.l0 k y0 y1 y2 y3 y4) (spec_RowOfTriples.l0 (k + 1) y0 y1 y2 y3 y4))
  | 0 => ⟨fun _ _ _ r h => by simp [spec_RowOfTriples.j0] at h, fun _ _ _ r h => by simp [spec_RowOfTriples.j1] at h, fun _ _ _ _ _ r h => by simp [spec_RowOfTriples.l0] at h⟩
  | k + 1 => by
    obtain ⟨ih0, ih1, ih2⟩ := spec_RowOfTriples.mono_l k
    refine ⟨?_, ?_, ?_⟩
    · intro y0 y1 y2
      unfold spec_RowOfTriples.j0
      repeat' first
      | (with_reducible exact ih0 _ _ _)
      | (with_reducible exact ih1 _ _ _)
      | (with_reducible exact ih2 _ _ _ _ _)
      | (with_reducible exact spec_trSplit.mono _ _ _ _)
      | (with_reducible exact LeO.refl _)
      | (with_reducible exact LeO.none _)
      | (with_reducible refine LeO.ite ?_ ?_)
      | (with_reducible refine LeO.bind ?_ (fun _ => ?_))
      | exact ih0 _ _ _
      | exact ih1 _ _ _
      | exact ih2 _ _ _ _ _
      | exact spec_trSplit.mono _ _ _ _
      | exact LeO.none _
      | refine LeO.ite ?_ ?_
      | refine LeO.bind ?_ (fun _ => ?_)
    · intro y0 y1 y2
      unfold spec_RowOfTriples.j1
      repeat' first
      | (with_reducible exact ih0 _ _ _)
      | (with_reducible exact ih1 _ _ _)
      | (with_reducible exact ih2 _ _ _ _ _)
      | (with_reducible exact spec_trSplit.mono _ _ _ _)
      | (with_reducible exact LeO.refl _)
      | (with_reducible exact LeO.none _)
      | (with_reducible refine LeO.ite ?_ ?_)
      | (with_reducible refine LeO.bind ?_ (fun _ => ?_))
      | exact ih0 _ _ _
      | exact ih1 _ _ _
      | exact ih2 _ _ _ _ _
      | exact spec_trSplit.mono _ _ _ _
      | exact LeO.none _
      | refine LeO.ite ?_ ?_
      | refine LeO.bind ?_ (fun _ => ?_)
    · intro y0 y1 y2 y3 y4
      unfold spec_RowOfTriples.l0
      repeat' first
      | (with_reducible exact ih0 _ _ _)
      | (with_reducible exact ih1 _ _ _)
      | (with_reducible exact ih2 _ _ _ _ _)
      | (with_reducible exact spec_trSplit.mono _ _ _ _)
      | (with_reducible exact LeO.refl _)
      | (with_reducible exact LeO.none _)
      | (with_reducible refine LeO.ite ?_ ?_)
      | (with_reducible refine LeO.bind ?_ (fun _ => ?_))
      | exact ih0 _ _ _
      | exact ih1 _ _ _
      | exact ih2 _ _ _ _ _
      | exact spec_trSplit.mono _ _ _ _
      | exact LeO.none _
      | refine LeO.ite ?_ ?_
      | refine LeO.bind ?_ (fun _ => ?_)
theorem spec_RowOfTriples.mono : ∀ a0 k, LeO (spec_RowOfTriples.f k a0) (spec_RowOfTriples.f (k + 1) a0) := by
  intro a0 k
  obtain ⟨ih0, ih1, ih2⟩ := spec_RowOfTriples.mono_l k
  unfold spec_RowOfTriples.f
  repeat' first
      | (with_reducible exact ih0 _ _ _)
      | (with_reducible exact ih1 _ _ _)
      | (with_reducible exact ih2 _ _ _ _ _)
      | (with_reducible exact spec_trSplit.mono _ _ _ _)
      | (with_reducible exact LeO.refl _)
      | (with_reducible exact LeO.none _)
      | (with_reducible refine LeO.ite ?_ ?_)
      | (with_reducible refine LeO.bind ?_ (fun _ => ?_))
      | exact ih0 _ _ _
      | exact ih1 _ _ _
      | exact ih2 _ _ _ _ _
      | exact spec_trSplit.mono _ _ _ _
      | exact LeO.none _
      | refine LeO.ite ?_ ?_
      | refine LeO.bind ?_ (fun _ => ?_)
def spec_RowOfTriples.T13 : Bool × List (List Nat × List Nat) := (true, [([], []), ([], []), ([1], [1]), ([2], [2]), ([], []), ([3, 4], [3, 4]), ([5], [5]), ([], []), ([7], [7]), ([8], [8]), ([0, 6, 0, 1, 2, 3, 4, 5, 6, 7, 8, 9], [0, 6]), ([10, 9, 0, 1, 2, 3, 4, 5, 6, 7, 8, 9], [9, 10])])
def spec_RowOfTriples.B13 : List Nat := [0, 0, 2, 6, 0, 30, 62, 0, 128, 384, 1023, 2047]
theorem spec_RowOfTriples.tab13 : rtab .any (opsOf Try.f23 13) = spec_RowOfTriples.T13 := by kernel_rfl
theorem spec_RowOfTriples.bits13 : waitsOk spec_RowOfTriples.T13.2 spec_RowOfTriples.B13 = true := by kernel_rfl
def spec_RowOfTriples.T14 : Bool × List (List Nat × List Nat) := (true, [([], []), ([], []), ([1], [1]), ([2], [2]), ([], []), ([3, 4], [3, 4]), ([5], [5]), ([], []), ([7], [7]), ([8], [8]), ([0, 6, 0, 1, 2, 3, 4, 5, 6, 7, 8, 9], [0, 6]), ([10, 9, 0, 1, 2, 3, 4, 5, 6, 7, 8, 9], [9, 10])])
def spec_RowOfTriples.B14 : List Nat := [0, 0, 2, 6, 0, 30, 62, 0, 128, 384, 1023, 2047]
theorem spec_RowOfTriples.tab14 : rtab .any (opsOf Try.f23 14) = spec_RowOfTriples.T14 := by kernel_rfl
theorem spec_RowOfTriples.bits14 : waitsOk spec_RowOfTriples.T14.2 spec_RowOfTriples.B14 = true := by kernel_rfl
set_option maxHeartbeats 8000000 in
set_option maxRecDepth 100000 in
theorem spec_RowOfTriples.calls (k : Nat) (A0 : Option Addr) (c0 : Nat) (l0 : List (List Int)) (r1 : List Int) (r2 : Bool) (w : World) (hr0 : Kd.C (Kd.slice 3 (Kd.int .i64)) w A0 l0.length l0) (hc0 : l0.length ≤ c0) (h : spec_RowOfTriples.f k l0 = some (r1, r2)) :
    Calls Try.prog 23 #[.slice A0 l0.length c0] w fun e w' => ∃ v0_ : Value, e = .returned (.tuple #[v0_, .bool r2]) ∧ Kd.R (Kd.int .i64) 3 w' w.heap.size (fun _ => True) v0_ r1 ∧ Below w.heap.size w w' := by
  have HR0 := Aside0.mk hr0
  have HC0 := Aside0.mk hc0
  clear hr0 hc0
  have HB := Aside0.mk (Below.refl w.heap.size w)
  have H : ((spec_l1In.f (l0.length : Int) 1 10).bind fun t147 => (if t147 = true then ((spec_trSplit.f k (l0.length : Int) l0 false).bind fun t148 => (if t148 = true then (spec_RowOfTriples.j0 k l0 (l0.length : Int) false) else ((spec_trSplit.f k (l0.length : Int) l0 true).bind fun t149 => (spec_RowOfTriples.j0 k l0 (l0.length : Int) (!t149))))) else (spec_RowOfTriples.j0 k l0 (l0.length : Int) true))) = some (r1, r2) := h
  clear h
  have HC2 := Aside0.mk H
  clear H
  go_enter Try.func23, Try.ntmps23
  go_upto_region 2 with (fail)
  go_cut [25] (fun v25 wc => ∃ (kq : Nat) (x25_1 : Bool), v25 = .bool x25_1 ∧ Aside0 (spec_RowOfTriples.j0 kq l0 (l0.length : Int) x25_1 = some (r1, r2)) ∧ Aside0 (kq ≤ k) ∧ Aside0 (Below w.heap.size w wc))
  case first =>
    have H := HC2.out
    clear HC2
    replace H := Option.bind_eq_some_iff.mp H
    obtain ⟨t147, A30, H⟩ := H
    replace H : (if t147 = true then ((spec_trSplit.f k (l0.length : Int) l0 false).bind fun t148 => (if t148 = true then (spec_RowOfTriples.j0 k l0 (l0.length : Int) false) else ((spec_trSplit.f k (l0.length : Int) l0 true).bind fun t149 => (spec_RowOfTriples.j0 k l0 (l0.length : Int) (!t149))))) else (spec_RowOfTriples.j0 k l0 (l0.length : Int) true)) = some (r1, r2) := H
    have A3 := Aside0.mk A30
    clear A30
    by_cases c4 : t147 = true
    · subst c4
      have H1 : ((spec_trSplit.f k (l0.length : Int) l0 false).bind fun t148 => (if t148 = true then (spec_RowOfTriples.j0 k l0 (l0.length : Int) false) else ((spec_trSplit.f k (l0.length : Int) l0 true).bind fun t149 => (spec_RowOfTriples.j0 k l0 (l0.length : Int) (!t149))))) = some (r1, r2) := by rw [if_pos rfl] at H; exact H
      clear H
      have H := H1
      clear H1
      replace H := Option.bind_eq_some_iff.mp H
      obtain ⟨t148, A50, H⟩ := H
      replace H : (if t148 = true then (spec_RowOfTriples.j0 k l0 (l0.length : Int) false) else ((spec_trSplit.f k (l0.length : Int) l0 true).bind fun t149 => (spec_RowOfTriples.j0 k l0 (l0.length : Int) (!t149)))) = some (r1, r2) := H
      have A5 := Aside0.mk A50
      clear A50
      by_cases c6 : t148 = true
      · subst c6
        have H1 : (spec_RowOfTriples.j0 k l0 (l0.length : Int) false) = some (r1, r2) := by rw [if_pos rfl] at H; exact H
        clear H
        have H := H1
        clear H1
        have H' := Aside0.mk H
        clear H
        go_wp2_with (first | ((with_reducible refine gate_callee (f := 54) rfl ?_); refine goesL_ (some 12) rfl rfl Try.func54 (by kernel_rfl) rfl #[.int .i64 (l0.length : Int), .int .i64 1, .int .i64 10] rfl (by (try simp only [List.map_toArray, List.map_cons, List.map_nil]); first | done | rfl | (simp only [List.length_drop, List.length_take]; rfl)) ?_; (with_reducible refine (spec_l1In.calls (l0.length : Int) 1 10 true _ A3.out).mono ?_); rintro e w' ⟨rfl, ⟨nd, rfl⟩⟩; refine ⟨_, rfl, ?_⟩) | (go_at_call 55; (with_reducible refine (spec_trSplit.calls k (l0.length : Int) _ _ l0 false true _ ?side1 ?side2 A5.out).mono ?_); (case side1 => repeat (first | exact (Kd.C_below HR0.out (by repeat (first | (with_reducible first | exact HB.out | apply below_alloc | apply pw_below_drewN | apply below_drew1) | exact HB.out))) | (with_reducible refine Kd.C_alloc ?_ _) | (with_reducible refine Kd.C_drewN ?_ _) | (with_reducible refine Kd.C_drew ?_))); (case side2 => exact HC0.out); rintro e w7 ⟨rfl, hb⟩; have n0_ := Aside0.mk (below_step (by repeat (first | (with_reducible first | exact HB.out | apply below_alloc | apply pw_below_drewN | apply below_drew1) | exact HB.out)) hb); clear HB; have HB := n0_; clear n0_; (try clear hb); (try clear hb2); (try clear hk); (try clear hi)))
        go_meet
        case rel => exact ⟨_, (false), (by first | rfl | (simp; done) | (simp [*]; done)), H', ⟨by first | omega | exact Nat.le_refl _⟩, ⟨by repeat (first | (with_reducible first | exact HB.out | apply below_alloc | apply pw_below_drewN | apply below_drew1) | exact HB.out)⟩⟩
      · replace c6 := Bool.eq_false_iff.mpr c6
        subst c6
        have H1 : ((spec_trSplit.f k (l0.length : Int) l0 true).bind fun t149 => (spec_RowOfTriples.j0 k l0 (l0.length : Int) (!t149))) = some (r1, r2) := by rw [if_neg (show ¬ (false = true) by decide)] at H; exact H
        clear H
        have H := H1
        clear H1
        replace H := Option.bind_eq_some_iff.mp H
        obtain ⟨t149, A80, H⟩ := H
        replace H : (spec_RowOfTriples.j0 k l0 (l0.length : Int) (!t149)) = some (r1, r2) := H
        have A8 := Aside0.mk A80
        clear A80
        have H' := Aside0.mk H
        clear H
        go_wp2_with (first | ((with_reducible refine gate_callee (f := 54) rfl ?_); refine goesL_ (some 12) rfl rfl Try.func54 (by kernel_rfl) rfl #[.int .i64 (l0.length : Int), .int .i64 1, .int .i64 10] rfl (by (try simp only [List.map_toArray, List.map_cons, List.map_nil]); first | done | rfl | (simp only [List.length_drop, List.length_take]; rfl)) ?_; (with_reducible refine (spec_l1In.calls (l0.length : Int) 1 10 true _ A3.out).mono ?_); rintro e w' ⟨rfl, ⟨nd, rfl⟩⟩; refine ⟨_, rfl, ?_⟩) | (go_at_call 55; (with_reducible refine (spec_trSplit.calls k (l0.length : Int) _ _ l0 false false _ ?side1 ?side2 A5.out).mono ?_); (case side1 => repeat (first | exact (Kd.C_below HR0.out (by repeat (first | (with_reducible first | exact HB.out | apply below_alloc | apply pw_below_drewN | apply below_drew1) | exact HB.out))) | (with_reducible refine Kd.C_alloc ?_ _) | (with_reducible refine Kd.C_drewN ?_ _) | (with_reducible refine Kd.C_drew ?_))); (case side2 => exact HC0.out); rintro e w9 ⟨rfl, hb⟩; have n0_ := Aside0.mk (below_step (by repeat (first | (with_reducible first | exact HB.out | apply below_alloc | apply pw_below_drewN | apply below_drew1) | exact HB.out)) hb); clear HB; have HB := n0_; clear n0_; (try clear hb); (try clear hb2); (try clear hk); (try clear hi)) | (go_at_call 55; (with_reducible refine (spec_trSplit.calls k (l0.length : Int) _ _ l0 true t149 _ ?side1 ?side2 A8.out).mono ?_); (case side1 => repeat (first | exact (Kd.C_below HR0.out HB.out) | (with_reducible refine Kd.C_alloc ?_ _) | (with_reducible refine Kd.C_drewN ?_ _) | (with_reducible refine Kd.C_drew ?_))); (case side2 => exact HC0.out); rintro e w10 ⟨rfl, hb⟩; have n0_ := Aside0.mk (below_step (by repeat (first | (with_reducible first | exact HB.out | apply below_alloc | apply pw_below_drewN | apply below_drew1) | exact HB.out)) hb); clear HB; have HB := n0_; clear n0_; (try clear hb); (try clear hb2); (try clear hk); (try clear hi)))
        go_meet
        case rel => exact ⟨_, (!t149), (by first | rfl | (simp; done) | (simp [*]; done)), H', ⟨by first | omega | exact Nat.le_refl _⟩, ⟨by repeat (first | (with_reducible first | exact HB.out | apply below_alloc | apply pw_below_drewN | apply below_drew1) | exact HB.out)⟩⟩
    · replace c4 := Bool.eq_false_iff.mpr c4
      subst c4
      have H1 : (spec_RowOfTriples.j0 k l0 (l0.length : Int) true) = some (r1, r2) := by rw [if_neg (show ¬ (false = true) by decide)] at H; exact H
      clear H
      have H := H1
      clear H1
      have H' := Aside0.mk H
      clear H
      go_wp2_with (first | ((with_reducible refine gate_callee (f := 54) rfl ?_); refine goesL_ (some 12) rfl rfl Try.func54 (by kernel_rfl) rfl #[.int .i64 (l0.length : Int), .int .i64 1, .int .i64 10] rfl (by (try simp only [List.map_toArray, List.map_cons, List.map_nil]); first | done | rfl | (simp only [List.length_drop, List.length_take]; rfl)) ?_; (with_reducible refine (spec_l1In.calls (l0.length : Int) 1 10 false _ A3.out).mono ?_); rintro e w' ⟨rfl, ⟨nd, rfl⟩⟩; refine ⟨_, rfl, ?_⟩))
      go_meet
      case rel => exact ⟨_, (true), (by first | rfl | (simp; done) | (simp [*]; done)), H', ⟨by first | omega | exact Nat.le_refl _⟩, ⟨by repeat (first | (with_reducible first | exact HB.out | apply below_alloc | apply pw_below_drewN | apply below_drew1) | exact HB.out)⟩⟩
  case rest =>
    clear HC2
    try clear c2
    try clear p2
    try clear c4
    try clear c5
    try clear c6
    obtain ⟨kq, x25_1, rfl, HA, HJ1, HB⟩ := hcut
    cases kq with
    | zero => exact absurd HA.out (by simp [spec_RowOfTriples.j0])
    | succ kj1 =>
      have H := HA.out
      clear HA
      simp only [spec_RowOfTriples.j0] at H
      by_cases c11 : x25_1 = true
      · subst c11
        have H1 : (some (([] : List Int), false)) = some (r1, r2) := by rw [if_pos rfl] at H; exact H
        clear H
        have H := H1
        clear H1
        simp only [Option.some.injEq, Prod.mk.injEq] at H
        obtain ⟨rfl, rfl⟩ := H
        go_wp2
        go_ret2
        exact ⟨_, by first | rfl | (simp [errW_none, errW_some] <;> rfl) | (simp [*, errW_none, errW_some] <;> rfl), by first | exact Kd.R_nil _ _ _ _ _ | exact Kd.N_nil _ _ _ _ _ | exact Kd.V_nil _ _ _ _ _ | exact Kd.Q_nil _ _ _ _ _ | exact Kd.S_nil _ _ _ _ _, by repeat (first | (with_reducible first | exact HB.out | apply below_alloc | apply pw_below_drewN | apply below_drew1) | exact HB.out)⟩
      · replace c11 := Bool.eq_false_iff.mpr c11
        subst c11
        have H1 : ((spec_trSplit.f kj1 (l0.length : Int) l0 true).bind fun t150 => (if t150 = true then (spec_RowOfTriples.j1 kj1 l0 (l0.length : Int) (wrap64 ((wrap64 (2 * (l0.length : Int))) + 1))) else (spec_RowOfTriples.j1 kj1 l0 (l0.length : Int) (wrap64 (2 * (l0.length : Int)))))) = some (r1, r2) := by rw [if_neg (show ¬ (false = true) by decide)] at H; exact H
        clear H
        have H := H1
        clear H1
        replace H := Option.bind_eq_some_iff.mp H
        obtain ⟨t150, A120, H⟩ := H
        replace H : (if t150 = true then (spec_RowOfTriples.j1 kj1 l0 (l0.length : Int) (wrap64 ((wrap64 (2 * (l0.length : Int))) + 1))) else (spec_RowOfTriples.j1 kj1 l0 (l0.length : Int) (wrap64 (2 * (l0.length : Int))))) = some (r1, r2) := H
        have A12 := Aside0.mk A120
        clear A120
        have HC13 := Aside0.mk H
        clear H
        go_upto_if 30 with (first | ((with_reducible refine gate_callee (f := 55) rfl ?_); refine goesL_ (some 30) rfl rfl Try.func55 (by kernel_rfl) rfl #[.int .i64 (l0.length : Int), .slice A0 l0.length c0, .bool true] rfl (by (try simp only [List.map_toArray, List.map_cons, List.map_nil]); first | done | rfl | (simp only [List.length_drop, List.length_take]; rfl)) ?_; (with_reducible refine (spec_trSplit.calls kj1 (l0.length : Int) _ _ l0 true t150 _ ?side1 ?side2 A12.out).mono ?_); (case side1 => repeat (first | exact (Kd.C_below HR0.out HB.out) | (with_reducible refine Kd.C_alloc ?_ _) | (with_reducible refine Kd.C_drewN ?_ _) | (with_reducible refine Kd.C_drew ?_))); (case side2 => exact HC0.out); rintro e w14 ⟨rfl, hb⟩; refine ⟨_, rfl, ?_⟩; have n0_ := Aside0.mk (below_step (by repeat (first | (with_reducible first | exact HB.out | apply below_alloc | apply pw_below_drewN | apply below_drew1) | exact HB.out)) hb); clear HB; have HB := n0_; clear n0_; (try clear hb); (try clear hb2); (try clear hk); (try clear hi)))
        (try simp only [Act.put, List.setIfInBounds_toArray, List.set_cons_zero, List.set_cons_succ])
        go_cut [5] (fun v5 wc => ∃ (kq : Nat) (x5_12 : Int), v5 = .int .i64 x5_12 ∧ Aside0 (spec_RowOfTriples.j1 kq l0 (l0.length : Int) x5_12 = some (r1, r2)) ∧ Aside0 (kq ≤ kj1) ∧ Aside0 (Below w.heap.size w wc))
        case first =>
          have H := HC13.out
          clear HC13
          by_cases c15 : t150 = true
          · subst c15
            have H1 : (spec_RowOfTriples.j1 kj1 l0 (l0.length : Int) (wrap64 ((wrap64 (2 * (l0.length : Int))) + 1))) = some (r1, r2) := by rw [if_pos rfl] at H; exact H
            clear H
            have H := H1
            clear H1
            have H' := Aside0.mk H
            clear H
            go_wp2
            go_meet
            case rel => exact ⟨_, (wrap64 ((wrap64 (2 * (l0.length : Int))) + 1)), (by first | rfl | (simp; done) | (simp [*]; done)), H', ⟨by have := HJ1.out; first | omega | exact Nat.le_refl _⟩, ⟨by repeat (first | (with_reducible first | exact HB.out | apply below_alloc | apply pw_below_drewN | apply below_drew1) | exact HB.out)⟩⟩
          · replace c15 := Bool.eq_false_iff.mpr c15
            subst c15
            have H1 : (spec_RowOfTriples.j1 kj1 l0 (l0.length : Int) (wrap64 (2 * (l0.length : Int)))) = some (r1, r2) := by rw [if_neg (show ¬ (false = true) by decide)] at H; exact H
            clear H
            have H := H1
            clear H1
            have H' := Aside0.mk H
            clear H
            go_wp2
            go_meet
            case rel => exact ⟨_, (wrap64 (2 * (l0.length : Int))), (by first | rfl | (simp; done) | (simp [*]; done)), H', ⟨by have := HJ1.out; first | omega | exact Nat.le_refl _⟩, ⟨by repeat (first | (with_reducible first | exact HB.out | apply below_alloc | apply pw_below_drewN | apply below_drew1) | exact HB.out)⟩⟩
        case rest =>
          clear HC13
          try clear c1
          try clear c2
          try clear p2
          try clear c4
          try clear c5
          try clear c6
          try clear p6
          try clear c11
          try clear c15
          try clear p2
          obtain ⟨kq, x5_12, rfl, HA, HJ12, HB⟩ := hcut
          cases kq with
          | zero => exact absurd HA.out (by simp [spec_RowOfTriples.j1])
          | succ kj12 =>
            have H := HA.out
            clear HA
            simp only [spec_RowOfTriples.j1] at H
            by_cases c16 : 0 ≤ x5_12
            · rw [if_pos c16] at H
              have c16b0 := eq_true c16
              have c16b1 : decide (0 ≤ x5_12) = true := decide_eq_true c16
              clear c16
              by_cases c17 : (x5_12 : Int).toNat ≤ 35184372088832
              · rw [if_pos c17] at H
                have c17b0 := eq_true c17
                have c17b1 : decide ((x5_12 : Int).toNat ≤ 35184372088832) = true := decide_eq_true c17
                clear c17
                obtain ⟨y151, hy151⟩ : ∃ y_ : List Int, y_ = (List.replicate (x5_12 : Int).toNat 0) := ⟨_, rfl⟩
                replace H : (spec_RowOfTriples.l0 kj12 (l0.length : Int) y151 l0 (l0.length : Int) 0) = some (r1, r2) := by first | (rw [hy151]; with_reducible exact H) | (have H2_ := (Option.bind_some _ _).symm.trans H; rw [hy151]; with_reducible exact H2_) | (have H2_ := (Option.bind_some _ _).symm.trans H; with_reducible exact H2_) | with_reducible exact H | (rw [hy151]; exact H) | exact H
                have Ny151 := Aside0.mk hy151
                clear hy151
                have H' := Aside0.mk H
                clear H
                go_wp2_with (first | ((with_reducible refine gate_dst (N := 34) rfl ?_); refine Kd.R_make (Kd.int .i64) _ 3 rfl (N := 34) rfl 22 _ _ rfl x5_12 rfl rfl Try.underlying22 (.int .i64 0) 8 info3 rfl (by decide) (by omega) 0 (ok := fun _ => True) (okp := fun _ => True) rfl (fun _ hk => hk) trivial (of_decide_eq_true (by first | (with_reducible assumption) | assumption)) (Nat.le_trans (Nat.mul_le_mul_right _ (of_decide_eq_true (by first | (with_reducible assumption) | assumption) : x5_12.toNat ≤ 35184372088832)) (by omega)) (Below.refl _ _) (Nat.le_refl _) ?_; intro v152 w18 ho19 hb hg_ hnew_; clear hg_ hnew_; (first | rw [← Ny151.out] at ho19 | (simp only [Int.reduceToNat] at ho19; rw [← Ny151.out] at ho19)); have n0_ := Aside0.mk (Kd.R_lower ho19 (below_size (by repeat (first | (with_reducible first | exact HB.out | apply below_alloc | apply pw_below_drewN | apply below_drew1) | exact HB.out)))); have n1_ := Aside0.mk (below_step (by repeat (first | (with_reducible first | exact HB.out | apply below_alloc | apply pw_below_drewN | apply below_drew1) | exact HB.out)) hb); clear HB; have HO153 := n0_; have HB := n1_; clear n0_ n1_; clear hb ho19))
                go_loopg [37] kj12 (fun kq v37 w' => ∃ (x6_3 : List Int) (x37_3 : Int), v37 = .int .i64 x37_3 ∧ Aside0 (spec_RowOfTriples.l0 kq (l0.length : Int) x6_3 l0 (l0.length : Int) x37_3 = some (r1, r2)) ∧ Aside0 (kq ≤ kj12) ∧ Aside0 (Kd.R (Kd.int .i64) 3 w' w.heap.size (fun _ => True) v152 x6_3) ∧ Aside0 (Below w.heap.size w w'))
                case atStart => exact ⟨(y151), (0), (by first | rfl | (simp; done) | (simp [*]; done)), H', ⟨Nat.le_refl _⟩, ⟨by (with_reducible repeat (first | apply Kd.R_alloc | apply Kd.R_drewN | apply Kd.R_drew)); exact HO153.out⟩, ⟨by repeat (first | (with_reducible first | exact HB.out | apply below_alloc | apply pw_below_drewN | apply below_drew1) | exact HB.out)⟩⟩
                case round =>
                  clear H'
                  try clear c1
                  try clear c2
                  try clear p2
                  try clear c4
                  try clear c5
                  try clear c6
                  try clear p6
                  try clear c11
                  try clear c15
                  try clear c16
                  try clear c16b0
                  try clear c16b1
                  try clear c17
                  try clear c17b0
                  try clear c17b1
                  try clear p2
                  try clear p6
                  obtain ⟨x6_3, x37_3, rfl, HA, HK3, HO_6, HB⟩ := hrel
                  cases gk with
                  | zero => exact absurd HA.out (by simp [spec_RowOfTriples.l0])
                  | succ k3 =>
                    have H := HA.out
                    clear HA
                    simp only [spec_RowOfTriples.l0] at H
                    by_cases c20 : x37_3 < (l0.length : Int)
                    · rw [if_pos c20] at H
                      have c20b0 : decide (x37_3 < (l0.length : Int)) = true := decide_eq_true c20
                      clear c20
                      by_cases c21 : 0 ≤ x37_3
                      · rw [if_pos c21] at H
                        have c21b0 : decide (0 ≤ x37_3) = true := decide_eq_true c21
                        clear c21
                        by_cases c22 : x37_3 < (l0.length : Int)
                        · rw [if_pos c22] at H
                          have c22b0 : decide (x37_3 < (l0.length : Int)) = true := decide_eq_true c22
                          clear c22
                          by_cases c23 : 0 < ((rd_L1 l0 x37_3).length : Int)
                          · rw [if_pos c23] at H
                            have c23b0 : decide (0 < ((rd_L1 l0 x37_3).length : Int)) = true := decide_eq_true c23
                            have c23b1 : decide (0 < (rd_L1 l0 x37_3).length) = true := decide_eq_true (by omega)
                            clear c23
                            by_cases c24 : (rd (rd_L1 l0 x37_3) 0) = (wrap64 (x37_3 + 1))
                            · rw [if_pos c24] at H
                              have c24b0 : ((rd (rd_L1 l0 x37_3) 0) == (wrap64 (x37_3 + 1))) = true := beq_iff_eq.mpr c24
                              have c24b1 : ((rd (rd_L1 l0 x37_3) 0) != (wrap64 (x37_3 + 1))) = false := bne_eq_false_iff_eq.mpr c24
                              clear c24
                              by_cases c25 : 1 < ((rd_L1 l0 x37_3).length : Int)
                              · rw [if_pos c25] at H
                                have c25b0 : decide (1 < ((rd_L1 l0 x37_3).length : Int)) = true := decide_eq_true c25
                                have c25b1 : decide (1 < (rd_L1 l0 x37_3).length) = true := decide_eq_true (by omega)
                                clear c25
                                by_cases c26 : (rd (rd_L1 l0 x37_3) 1) ≤ (l0.length : Int)
                                · rw [if_pos c26] at H
                                  have c26b0 : decide ((rd (rd_L1 l0 x37_3) 1) ≤ (l0.length : Int)) = true := decide_eq_true c26
                                  clear c26
                                  simp only [Option.some.injEq, Prod.mk.injEq] at H
                                  obtain ⟨rfl, rfl⟩ := H
                                  have p154 : 0 ≤ (x37_3 : Int) := of_decide_eq_true (by first | (with_reducible assumption) | assumption)
                                  have q154 : x37_3 < (l0.length : Int) := of_decide_eq_true (by first | (with_reducible assumption) | assumption)
                                  obtain ⟨ad154, A154_0, c154_0, e154, hx154_0, hl154_0, hi154_0⟩ := at_L1 HR0.out x37_3 p154 q154
                                  cases e154
                                  replace hx154_0 := (HB.out.cell (World.block_lt_of_cell? w _ hx154_0)).trans hx154_0
                                  have HR154_0 := Aside0.mk hi154_0
                                  have HC154_0 := Aside0.mk hl154_0
                                  clear hi154_0 hl154_0
                                  replace p154 := eq_true p154
                                  replace q154 := eq_true q154
                                  have p155 : 0 ≤ (0 : Int) := (by omega)
                                  have q155 : 0 < ((rd_L1 l0 x37_3).length : Int) := of_decide_eq_true (by first | (with_reducible assumption) | assumption)
                                  obtain ⟨ad155, e155, hx155_0⟩ := Kd.at_int HR154_0.out 0 p155 q155
                                  cases e155
                                  have qi155 : (0 < (rd_L1 l0 x37_3).length) = True := eq_true (by omega)
                                  (try rw [show ((0 : Int)).toNat = 0 from rfl] at hx155_0)
                                  (try rw [Addr.add_zero'] at hx155_0)
                                  replace hx155_0 := (HB.out.cell (World.block_lt_of_cell? w _ hx155_0)).trans hx155_0
                                  replace p155 := eq_true p155
                                  replace q155 := eq_true q155
                                  have p156 : 0 ≤ (1 : Int) := (by omega)
                                  have q156 : 1 < ((rd_L1 l0 x37_3).length : Int) := of_decide_eq_true (by first | (with_reducible assumption) | assumption)
                                  obtain ⟨ad156, e156, hx156_0⟩ := Kd.at_int HR154_0.out 1 p156 q156
                                  obtain rfl : ad155 = ad156 := (by injection e156)
                                  (try simp only [show (1 : Int).toNat = 1 from rfl, Nat.reduceMul, Nat.reduceEqDiff, Go.Addr.add, ↓reduceIte] at hx156_0)
                                  have qi156 : (1 < (rd_L1 l0 x37_3).length) = True := eq_true (by omega)
                                  (try rw [show ((1 : Int)).toNat = 1 from rfl] at hx156_0)
                                  replace hx156_0 := (HB.out.cell (World.block_lt_of_cell? w _ hx156_0)).trans hx156_0
                                  replace p156 := eq_true p156
                                  replace q156 := eq_true q156
                                  go_wp2
                                  go_ret2
                                  exact ⟨_, by first | rfl | (simp [errW_none, errW_some] <;> rfl) | (simp [*, errW_none, errW_some] <;> rfl), by first | exact Kd.R_nil _ _ _ _ _ | exact Kd.N_nil _ _ _ _ _ | exact Kd.V_nil _ _ _ _ _ | exact Kd.Q_nil _ _ _ _ _ | exact Kd.S_nil _ _ _ _ _, by repeat (first | (with_reducible first | exact HB.out | apply below_alloc | apply pw_below_drewN | apply below_drew1) | exact HB.out)⟩
                                · rw [if_neg c26] at H
                                  have c26b0 : decide ((rd (rd_L1 l0 x37_3) 1) ≤ (l0.length : Int)) = false := decide_eq_false c26
                                  clear c26
                                  obtain ⟨ji27, hji27⟩ : ∃ j_ : Int, (wrap64 ((wrap64 ((rd (rd_L1 l0 x37_3) 1) - (l0.length : Int))) - 1)) = j_ := ⟨_, rfl⟩
                                  replace H : (if 0 ≤ (ji27) then (if (ji27) < (x6_3.length : Int) then (if 2 < ((rd_L1 l0 x37_3).length : Int) then (if 0 ≤ (wrap64 ((wrap64 ((rd (rd_L1 l0 x37_3) 2) - (l0.length : Int))) - 1)) then (if (wrap64 ((wrap64 ((rd (rd_L1 l0 x37_3) 2) - (l0.length : Int))) - 1)) < (x6_3.length : Int) then (spec_RowOfTriples.l0 k3 (l0.length : Int) ((x6_3.set ((ji27) : Int).toNat (rd (rd_L1 l0 x37_3) 0)).set ((wrap64 ((wrap64 ((rd (rd_L1 l0 x37_3) 2) - (l0.length : Int))) - 1)) : Int).toNat (rd (rd_L1 l0 x37_3) 0)) l0 (l0.length : Int) (wrap64 (x37_3 + 1))) else (none)) else (none)) else (none)) else (none)) else (none)) = some (r1, r2) := by first | (rw [hji27] at H; exact H) | (simp only [hji27] at H ⊢; exact H)
                                  have hji27w : (IntKind.i64.wrap ((wrap64 ((rd (rd_L1 l0 x37_3) 1) - (l0.length : Int))) - 1)) = ji27 := (i64_w _).trans hji27
                                  by_cases c28 : 0 ≤ (ji27)
                                  · rw [if_pos c28] at H
                                    have c28b0 : decide (0 ≤ (ji27)) = true := decide_eq_true c28
                                    clear c28
                                    by_cases c29 : (ji27) < (x6_3.length : Int)
                                    · rw [if_pos c29] at H
                                      have c29b0 : decide ((ji27) < (x6_3.length : Int)) = true := decide_eq_true c29
                                      clear c29
                                      obtain ⟨y159, hy159⟩ : ∃ y_ : List Int, y_ = (x6_3.set ((ji27) : Int).toNat (rd (rd_L1 l0 x37_3) 0)) := ⟨_, rfl⟩
                                      replace H : (if 2 < ((rd_L1 l0 x37_3).length : Int) then (if 0 ≤ (wrap64 ((wrap64 ((rd (rd_L1 l0 x37_3) 2) - (l0.length : Int))) - 1)) then (if (wrap64 ((wrap64 ((rd (rd_L1 l0 x37_3) 2) - (l0.length : Int))) - 1)) < (x6_3.length : Int) then (spec_RowOfTriples.l0 k3 (l0.length : Int) (y159.set ((wrap64 ((wrap64 ((rd (rd_L1 l0 x37_3) 2) - (l0.length : Int))) - 1)) : Int).toNat (rd (rd_L1 l0 x37_3) 0)) l0 (l0.length : Int) (wrap64 (x37_3 + 1))) else (none)) else (none)) else (none)) = some (r1, r2) := by first | (rw [hy159]; with_reducible exact H) | (have H2_ := (Option.bind_some _ _).symm.trans H; rw [hy159]; with_reducible exact H2_) | (have H2_ := (Option.bind_some _ _).symm.trans H; with_reducible exact H2_) | with_reducible exact H | (rw [hy159]; exact H) | exact H
                                      have Ny159 := Aside0.mk hy159
                                      clear hy159
                                      by_cases c31 : 2 < ((rd_L1 l0 x37_3).length : Int)
                                      · rw [if_pos c31] at H
                                        have c31b0 : decide (2 < ((rd_L1 l0 x37_3).length : Int)) = true := decide_eq_true c31
                                        have c31b1 : decide (2 < (rd_L1 l0 x37_3).length) = true := decide_eq_true (by omega)
                                        clear c31
                                        obtain ⟨ji32, hji32⟩ : ∃ j_ : Int, (wrap64 ((wrap64 ((rd (rd_L1 l0 x37_3) 2) - (l0.length : Int))) - 1)) = j_ := ⟨_, rfl⟩
                                        replace H : (if 0 ≤ (ji32) then (if (ji32) < (x6_3.length : Int) then (spec_RowOfTriples.l0 k3 (l0.length : Int) (y159.set ((ji32) : Int).toNat (rd (rd_L1 l0 x37_3) 0)) l0 (l0.length : Int) (wrap64 (x37_3 + 1))) else (none)) else (none)) = some (r1, r2) := by first | (rw [hji32] at H; exact H) | (simp only [hji32] at H ⊢; exact H)
                                        have hji32w : (IntKind.i64.wrap ((wrap64 ((rd (rd_L1 l0 x37_3) 2) - (l0.length : Int))) - 1)) = ji32 := (i64_w _).trans hji32
                                        by_cases c33 : 0 ≤ (ji32)
                                        · rw [if_pos c33] at H
                                          have c33b0 : decide (0 ≤ (ji32)) = true := decide_eq_true c33
                                          clear c33
                                          by_cases c34 : (ji32) < (x6_3.length : Int)
                                          · rw [if_pos c34] at H
                                            have c34b0 : decide ((ji32) < (x6_3.length : Int)) = true := decide_eq_true c34
                                            clear c34
                                            obtain ⟨y162, hy162⟩ : ∃ y_ : List Int, y_ = (y159.set ((ji32) : Int).toNat (rd (rd_L1 l0 x37_3) 0)) := ⟨_, rfl⟩
                                            replace H : (spec_RowOfTriples.l0 k3 (l0.length : Int) y162 l0 (l0.length : Int) (wrap64 (x37_3 + 1))) = some (r1, r2) := by first | (rw [hy162]; with_reducible exact H) | (have H2_ := (Option.bind_some _ _).symm.trans H; rw [hy162]; with_reducible exact H2_) | (have H2_ := (Option.bind_some _ _).symm.trans H; with_reducible exact H2_) | with_reducible exact H | (rw [hy162]; exact H) | exact H
                                            have Ny162 := Aside0.mk hy162
                                            clear hy162
                                            have H' := Aside0.mk H
                                            clear H
                                            have p154 : 0 ≤ (x37_3 : Int) := of_decide_eq_true (by first | (with_reducible assumption) | assumption)
                                            have q154 : x37_3 < (l0.length : Int) := of_decide_eq_true (by first | (with_reducible assumption) | assumption)
                                            obtain ⟨ad154, A154_0, c154_0, e154, hx154_0, hl154_0, hi154_0⟩ := at_L1 HR0.out x37_3 p154 q154
                                            cases e154
                                            replace hx154_0 := (HB.out.cell (World.block_lt_of_cell? w _ hx154_0)).trans hx154_0
                                            have HR154_0 := Aside0.mk hi154_0
                                            have HC154_0 := Aside0.mk hl154_0
                                            clear hi154_0 hl154_0
                                            replace p154 := eq_true p154
                                            replace q154 := eq_true q154
                                            have p155 : 0 ≤ (0 : Int) := (by omega)
                                            have q155 : 0 < ((rd_L1 l0 x37_3).length : Int) := of_decide_eq_true (by first | (with_reducible assumption) | assumption)
                                            obtain ⟨ad155, e155, hx155_0⟩ := Kd.at_int HR154_0.out 0 p155 q155
                                            cases e155
                                            have qi155 : (0 < (rd_L1 l0 x37_3).length) = True := eq_true (by omega)
                                            (try rw [show ((0 : Int)).toNat = 0 from rfl] at hx155_0)
                                            (try rw [Addr.add_zero'] at hx155_0)
                                            replace hx155_0 := (HB.out.cell (World.block_lt_of_cell? w _ hx155_0)).trans hx155_0
                                            replace p155 := eq_true p155
                                            replace q155 := eq_true q155
                                            have p156 : 0 ≤ (1 : Int) := (by omega)
                                            have q156 : 1 < ((rd_L1 l0 x37_3).length : Int) := of_decide_eq_true (by first | (with_reducible assumption) | assumption)
                                            obtain ⟨ad156, e156, hx156_0⟩ := Kd.at_int HR154_0.out 1 p156 q156
                                            obtain rfl : ad155 = ad156 := (by injection e156)
                                            (try simp only [show (1 : Int).toNat = 1 from rfl, Nat.reduceMul, Nat.reduceEqDiff, Go.Addr.add, ↓reduceIte] at hx156_0)
                                            have qi156 : (1 < (rd_L1 l0 x37_3).length) = True := eq_true (by omega)
                                            (try rw [show ((1 : Int)).toNat = 1 from rfl] at hx156_0)
                                            replace hx156_0 := (HB.out.cell (World.block_lt_of_cell? w _ hx156_0)).trans hx156_0
                                            replace p156 := eq_true p156
                                            replace q156 := eq_true q156
                                            try go_wp2
                                            have n0_ := Aside0.mk (Kd.R_drew HO_6.out)
                                            have n1_ := Aside0.mk (below_drew1 HB.out)
                                            clear HO_6
                                            clear HB
                                            have HO_6 := n0_
                                            have HB := n1_
                                            clear n0_ n1_
                                            have p157 : 0 ≤ (1 : Int) := (by omega)
                                            have q157 : 1 < ((rd_L1 l0 x37_3).length : Int) := of_decide_eq_true (by first | (with_reducible assumption) | assumption)
                                            obtain ⟨ad157, e157, hx157_0⟩ := Kd.at_int HR154_0.out 1 p157 q157
                                            have hw157_0 := hx157_0
                                            (try rw [show ((1 : Int)).toNat = 1 from rfl] at hw157_0)
                                            (try rw [show 1 * 1 = 1 from rfl] at hw157_0)
                                            (try simp only [Nat.reduceMul, Nat.reduceEqDiff, Go.Addr.add, ↓reduceIte] at hw157_0)
                                            obtain rfl : ad155 = ad157 := (by injection e157)
                                            (try simp only [show (1 : Int).toNat = 1 from rfl, Nat.reduceMul, Nat.reduceEqDiff, Go.Addr.add, ↓reduceIte] at hx157_0)
                                            have qi157 : (1 < (rd_L1 l0 x37_3).length) = True := eq_true (by omega)
                                            (try rw [show ((1 : Int)).toNat = 1 from rfl] at hx157_0)
                                            replace hx157_0 := (HB.out.cell (World.block_lt_of_cell? w _ hx157_0)).trans hx157_0
                                            replace p157 := eq_true p157
                                            replace q157 := eq_true q157
                                            have p158 : 0 ≤ (0 : Int) := (by omega)
                                            have q158 : 0 < ((rd_L1 l0 x37_3).length : Int) := of_decide_eq_true (by first | (with_reducible assumption) | assumption)
                                            obtain ⟨ad158, e158, hx158_0⟩ := Kd.at_int HR154_0.out 0 p158 q158
                                            have hw158_0 := hx158_0
                                            (try rw [show ((0 : Int)).toNat = 0 from rfl] at hw158_0)
                                            (try rw [show 0 * 1 = 0 from rfl] at hw158_0)
                                            (try rw [Addr.add_zero'] at hw158_0)
                                            obtain rfl : ad155 = ad158 := (by injection e158)
                                            have qi158 : (0 < (rd_L1 l0 x37_3).length) = True := eq_true (by omega)
                                            (try rw [show ((0 : Int)).toNat = 0 from rfl] at hx158_0)
                                            (try rw [Addr.add_zero'] at hx158_0)
                                            replace hx158_0 := (HB.out.cell (World.block_lt_of_cell? w _ hx158_0)).trans hx158_0
                                            replace p158 := eq_true p158
                                            replace q158 := eq_true q158
                                            have p30 : 0 ≤ ((ji27) : Int) := of_decide_eq_true (by first | (with_reducible assumption) | assumption)
                                            have q30 : ((ji27) : Int) < ((x6_3.length : Int) : Int) := of_decide_eq_true (by first | (with_reducible assumption) | assumption)
                                            obtain ⟨go30, co30, eo30, gb30, gl30, cl30, HG30⟩ := Kd.R_form HO_6.out (by omega)
                                            (first | cases eo30 | (injection eo30 with ea_ en_ ec_; (first | subst ea_ | (injection ea_ with ea_; subst ea_)); subst ec_; clear en_))
                                            have GB30 := Aside0.mk gb30
                                            have GG30 := Aside0.mk HG30
                                            clear gb30 gl30 HG30
                                            obtain ⟨hx30_0, hf30_0⟩ := Kd.R_celln 0 HO_6.out ((ji27) : Int) p30 q30
                                            replace p30 := eq_true p30
                                            replace q30 := eq_true q30
                                            have HP37 := Kd.R_putn HO_6.out ((ji27) : Int) (rd (rd_L1 l0 x37_3) 0)
                                            rw [← Ny159.out] at HP37
                                            have HQ37 := Aside0.mk HP37
                                            clear HP37
                                            refine start_ (n := 12) (S := fun w' => w'.cell? ⟨ad155.block, ad155.off + 1, none⟩ = some (.int .i64 (rd (rd_L1 l0 x37_3) 1)) ∧ w'.cell? ad155 = some (.int .i64 (rd (rd_L1 l0 x37_3) 0))) (ds := [11]) #[false, false, false, false, false, false, false, false, false, false, false, false] (by kernel_rfl) rfl rfl ⟨((HB.out.cell (World.block_lt_of_cell? w _ hw157_0)).trans hw157_0), ((HB.out.cell (World.block_lt_of_cell? w _ hw158_0)).trans hw158_0)⟩ (fun hHeld => ?_); refine with_tabW spec_RowOfTriples.tab13 spec_RowOfTriples.bits13 (fun HT_ HW_ => ?_)
                                            generalize wr.drew = w36 at HO_6 HB GG30 HQ37 hf30_0 hx157_0 hx158_0 hx30_0 hHeld ⊢
                                            refine pure_ (i := 0) (N := some 55) (v := ?_) (a' := ?_) #[true, false, false, false, false, false, false, false, false, false, false, false] rfl rfl (any_of HT_.out (by kernel_rfl)) (fun _ _ _ h => h) (Or.inl ⟨by rfl, ?_⟩) ?_ ?_
                                            rotate_left
                                            · intro w'
                                              go_simp
                                              with_reducible rfl
                                            rotate_left
                                            · simp only [Act.put, List.setIfInBounds_toArray, List.set_cons_zero, List.set_cons_succ, i64_w, i32_w]
                                              rfl
                                            refine pure_ (i := 1) (N := some 56) (v := ?_) (a' := ?_) #[true, true, false, false, false, false, false, false, false, false, false, false] rfl rfl (any_of HT_.out (by kernel_rfl)) (fun _ _ _ h => h) (Or.inl ⟨by rfl, ?_⟩) ?_ ?_
                                            rotate_left
                                            · intro w'
                                              go_simp
                                              with_reducible rfl
                                            rotate_left
                                            · simp only [Act.put, List.setIfInBounds_toArray, List.set_cons_zero, List.set_cons_succ, i64_w, i32_w]
                                              rfl
                                            refine pure_ (i := 2) (N := some 57) (v := ?_) (a' := ?_) #[true, true, true, false, false, false, false, false, false, false, false, false] rfl rfl (any_of HT_.out (by kernel_rfl)) (fun _ _ _ h => h) (Or.inl ⟨by rfl, ?_⟩) ?_ ?_
                                            rotate_left
                                            · intro w'
                                              go_simp
                                              with_reducible rfl
                                            rotate_left
                                            · simp only [Act.put, List.setIfInBounds_toArray, List.set_cons_zero, List.set_cons_succ, i64_w, i32_w]
                                              rfl
                                            refine pure_ (i := 4) (N := some 59) (v := ?_) (a' := ?_) #[true, true, true, false, true, false, false, false, false, false, false, false] rfl rfl (any_of HT_.out (by kernel_rfl)) (fun _ _ _ h => h) (Or.inl ⟨by rfl, ?_⟩) ?_ ?_
                                            rotate_left
                                            · intro w'
                                              go_simp
                                              with_reducible rfl
                                            rotate_left
                                            · simp only [Act.put, List.setIfInBounds_toArray, List.set_cons_zero, List.set_cons_succ, i64_w, i32_w]
                                              rfl
                                            refine pure_ (i := 7) (N := some 62) (v := ?_) (a' := ?_) #[true, true, true, false, true, false, false, true, false, false, false, false] rfl rfl (any_of HT_.out (by kernel_rfl)) (fun _ _ _ h => h) (Or.inl ⟨by rfl, ?_⟩) ?_ ?_
                                            rotate_left
                                            · intro w'
                                              go_simp
                                              with_reducible rfl
                                            rotate_left
                                            · simp only [Act.put, List.setIfInBounds_toArray, List.set_cons_zero, List.set_cons_succ, i64_w, i32_w]
                                              rfl
                                            refine pure_ (i := 8) (N := some 63) (v := ?_) (a' := ?_) #[true, true, true, false, true, false, false, true, true, false, false, false] rfl rfl (any_of HT_.out (by kernel_rfl)) (fun _ _ _ h => h) (Or.inl ⟨by rfl, ?_⟩) ?_ ?_
                                            rotate_left
                                            · intro w'
                                              go_simp
                                              with_reducible rfl
                                            rotate_left
                                            · simp only [Act.put, List.setIfInBounds_toArray, List.set_cons_zero, List.set_cons_succ, i64_w, i32_w]
                                              rfl
                                            refine take_ (i := 3) (N := some 58) (v := ?_) (a' := ?_) #[true, true, true, true, true, false, false, true, true, false, false, false] rfl rfl (take_ofW HT_.out HW_.out (by kernel_rfl)) (fun _ _ _ h => h) (Or.inl ⟨by rfl, ?_⟩) hHeld ?_ ?_
                                            rotate_left
                                            · rintro w' ⟨s0, s1⟩
                                              go_simp
                                              with_reducible rfl
                                            rotate_left
                                            · simp only [Act.put, List.setIfInBounds_toArray, List.set_cons_zero, List.set_cons_succ, i64_w, i32_w]
                                              rfl
                                            refine pure_ (i := 5) (N := some 60) (v := ?_) (a' := ?_) #[true, true, true, true, true, true, false, true, true, false, false, false] rfl rfl (any_of HT_.out (by kernel_rfl)) (fun _ _ _ h => h) (Or.inl ⟨by rfl, ?_⟩) ?_ ?_
                                            rotate_left
                                            · intro w'
                                              go_simp
                                              with_reducible rfl
                                            rotate_left
                                            · simp only [Act.put, List.setIfInBounds_toArray, List.set_cons_zero, List.set_cons_succ, i64_w, i32_w]
                                              rfl
                                            refine pure_ (i := 6) (N := some 61) (v := ?_) (a' := ?_) #[true, true, true, true, true, true, true, true, true, false, false, false] rfl rfl (any_of HT_.out (by kernel_rfl)) (fun _ _ _ h => h) (Or.inl ⟨by rfl, ?_⟩) ?_ ?_
                                            rotate_left
                                            · intro w'
                                              go_simp
                                              with_reducible rfl
                                            rotate_left
                                            · simp only [Act.put, List.setIfInBounds_toArray, List.set_cons_zero, List.set_cons_succ, i64_w, i32_w]
                                              rfl
                                            refine take_ (i := 9) (N := some 64) (v := ?_) (a' := ?_) #[true, true, true, true, true, true, true, true, true, true, false, false] rfl rfl (take_ofW HT_.out HW_.out (by kernel_rfl)) (fun _ _ _ h => h) (Or.inl ⟨by rfl, ?_⟩) hHeld ?_ ?_
                                            rotate_left
                                            · rintro w' ⟨s0, s1⟩
                                              go_simp
                                              with_reducible rfl
                                            rotate_left
                                            · simp only [Act.put, List.setIfInBounds_toArray, List.set_cons_zero, List.set_cons_succ, i64_w, i32_w]
                                              rfl
                                            refine pure_ (i := 10) (N := some 65) (v := ?_) (a' := ?_) #[true, true, true, true, true, true, true, true, true, true, true, false] rfl rfl (any_of HT_.out (by kernel_rfl)) (fun _ _ _ h => h) (Or.inl ⟨by rfl, ?_⟩) ?_ ?_
                                            rotate_left
                                            · intro w'
                                              go_simp
                                              with_reducible rfl
                                            rotate_left
                                            · simp only [Act.put, List.setIfInBounds_toArray, List.set_cons_zero, List.set_cons_succ, i64_w, i32_w]
                                              rfl
                                            refine last_ (i := 11) (N := none) #[true, true, true, true, true, true, true, true, true, true, true, true] rfl rfl (one_of HT_.out (by kernel_rfl)) (by decide) (fun K hK => ?_)
                                            refine skip_ (w1 := ?_) (by rfl) rfl ?_ ?_
                                            rotate_left
                                            · go_simp
                                              rfl
                                            refine hK.out _ _ ?_
                                            clear hK K
                                            refine done_ (done_of HT_.out (by kernel_rfl)) ?_
                                            try go_wp2
                                            have n0_ : Aside0 (Kd.R (Kd.int .i64) 3 (w36.setCell ⟨go30, ((ji27) : Int).toNat, none⟩ (.int .i64 (rd (rd_L1 l0 x37_3) 0))) w.heap.size (fun _ => True) (.slice (some ⟨go30, 0, none⟩) x6_3.length co30) y159) := ⟨by (with_reducible repeat (first | apply Kd.R_alloc | apply Kd.R_drewN | apply Kd.R_drew)); exact HQ37.out⟩
                                            have n1_ : Aside0 (Below w.heap.size w (w36.setCell ⟨go30, ((ji27) : Int).toNat, none⟩ (.int .i64 (rd (rd_L1 l0 x37_3) 0)))) := ⟨by repeat (first | (with_reducible first | exact HB.out | apply below_alloc | apply pw_below_drewN | apply below_drew1 | refine below_set ?_ GB30.out) | exact HB.out)⟩
                                            (try clear HO_6)
                                            (try clear HB)
                                            generalize (w36.setCell ⟨go30, ((ji27) : Int).toNat, none⟩ (.int .i64 (rd (rd_L1 l0 x37_3) 0))) = w38 at n0_ n1_ ⊢
                                            have HO_6 := n0_
                                            have HB := n1_
                                            clear n0_ n1_
                                            have n0_ := Aside0.mk (Kd.R_drew HO_6.out)
                                            have n1_ := Aside0.mk (below_drew1 HB.out)
                                            clear HO_6
                                            clear HB
                                            have HO_6 := n0_
                                            have HB := n1_
                                            clear n0_ n1_
                                            have p160 : 0 ≤ (2 : Int) := (by omega)
                                            have q160 : 2 < ((rd_L1 l0 x37_3).length : Int) := of_decide_eq_true (by first | (with_reducible assumption) | assumption)
                                            obtain ⟨ad160, e160, hx160_0⟩ := Kd.at_int HR154_0.out 2 p160 q160
                                            have hw160_0 := hx160_0
                                            (try rw [show ((2 : Int)).toNat = 2 from rfl] at hw160_0)
                                            (try rw [show 2 * 1 = 2 from rfl] at hw160_0)
                                            (try simp only [Nat.reduceMul, Nat.reduceEqDiff, Go.Addr.add, ↓reduceIte] at hw160_0)
                                            obtain rfl : ad155 = ad160 := (by injection e160)
                                            (try simp only [show (2 : Int).toNat = 2 from rfl, Nat.reduceMul, Nat.reduceEqDiff, Go.Addr.add, ↓reduceIte] at hx160_0)
                                            have qi160 : (2 < (rd_L1 l0 x37_3).length) = True := eq_true (by omega)
                                            (try rw [show ((2 : Int)).toNat = 2 from rfl] at hx160_0)
                                            replace hx160_0 := (HB.out.cell (World.block_lt_of_cell? w _ hx160_0)).trans hx160_0
                                            replace p160 := eq_true p160
                                            replace q160 := eq_true q160
                                            have p161 : 0 ≤ (0 : Int) := (by omega)
                                            have q161 : 0 < ((rd_L1 l0 x37_3).length : Int) := of_decide_eq_true (by first | (with_reducible assumption) | assumption)
                                            obtain ⟨ad161, e161, hx161_0⟩ := Kd.at_int HR154_0.out 0 p161 q161
                                            have hw161_0 := hx161_0
                                            (try rw [show ((0 : Int)).toNat = 0 from rfl] at hw161_0)
                                            (try rw [show 0 * 1 = 0 from rfl] at hw161_0)
                                            (try rw [Addr.add_zero'] at hw161_0)
                                            obtain rfl : ad155 = ad161 := (by injection e161)
                                            have qi161 : (0 < (rd_L1 l0 x37_3).length) = True := eq_true (by omega)
                                            (try rw [show ((0 : Int)).toNat = 0 from rfl] at hx161_0)
                                            (try rw [Addr.add_zero'] at hx161_0)
                                            replace hx161_0 := (HB.out.cell (World.block_lt_of_cell? w _ hx161_0)).trans hx161_0
                                            replace p161 := eq_true p161
                                            replace q161 := eq_true q161
                                            have p35 : 0 ≤ ((ji32) : Int) := of_decide_eq_true (by first | (with_reducible assumption) | assumption)
                                            have q35 : ((ji32) : Int) < ((x6_3.length : Int) : Int) := of_decide_eq_true (by first | (with_reducible assumption) | assumption)
                                            obtain ⟨hx35_0, hf35_0⟩ := Kd.R_celln 0 HO_6.out ((ji32) : Int) p35 q35
                                            replace p35 := eq_true p35
                                            replace q35 := eq_true q35
                                            have HP40 := Kd.R_putn HO_6.out ((ji32) : Int) (rd (rd_L1 l0 x37_3) 0)
                                            rw [← Ny162.out] at HP40
                                            have HQ40 := Aside0.mk HP40
                                            clear HP40
                                            refine start_ (n := 12) (S := fun w' => w'.cell? ⟨ad155.block, ad155.off + 2, none⟩ = some (.int .i64 (rd (rd_L1 l0 x37_3) 2)) ∧ w'.cell? ad155 = some (.int .i64 (rd (rd_L1 l0 x37_3) 0))) (ds := [11]) #[false, false, false, false, false, false, false, false, false, false, false, false] (by kernel_rfl) rfl rfl ⟨((HB.out.cell (World.block_lt_of_cell? w _ hw160_0)).trans hw160_0), ((HB.out.cell (World.block_lt_of_cell? w _ hw161_0)).trans hw161_0)⟩ (fun hHeld => ?_); refine with_tabW spec_RowOfTriples.tab14 spec_RowOfTriples.bits14 (fun HT_ HW_ => ?_)
                                            generalize w38.drew = w39 at HO_6 HB HQ37 HQ40 hf35_0 hx160_0 hx161_0 hx35_0 hHeld ⊢
                                            refine pure_ (i := 0) (N := some 66) (v := ?_) (a' := ?_) #[true, false, false, false, false, false, false, false, false, false, false, false] rfl rfl (any_of HT_.out (by kernel_rfl)) (fun _ _ _ h => h) (Or.inl ⟨by rfl, ?_⟩) ?_ ?_
                                            rotate_left
                                            · intro w'
                                              go_simp
                                              with_reducible rfl
                                            rotate_left
                                            · simp only [Act.put, List.setIfInBounds_toArray, List.set_cons_zero, List.set_cons_succ, i64_w, i32_w]
                                              rfl
                                            refine pure_ (i := 1) (N := some 67) (v := ?_) (a' := ?_) #[true, true, false, false, false, false, false, false, false, false, false, false] rfl rfl (any_of HT_.out (by kernel_rfl)) (fun _ _ _ h => h) (Or.inl ⟨by rfl, ?_⟩) ?_ ?_
                                            rotate_left
                                            · intro w'
                                              go_simp
                                              with_reducible rfl
                                            rotate_left
                                            · simp only [Act.put, List.setIfInBounds_toArray, List.set_cons_zero, List.set_cons_succ, i64_w, i32_w]
                                              rfl
                                            refine pure_ (i := 2) (N := some 68) (v := ?_) (a' := ?_) #[true, true, true, false, false, false, false, false, false, false, false, false] rfl rfl (any_of HT_.out (by kernel_rfl)) (fun _ _ _ h => h) (Or.inl ⟨by rfl, ?_⟩) ?_ ?_
                                            rotate_left
                                            · intro w'
                                              go_simp
                                              with_reducible rfl
                                            rotate_left
                                            · simp only [Act.put, List.setIfInBounds_toArray, List.set_cons_zero, List.set_cons_succ, i64_w, i32_w]
                                              rfl
                                            refine pure_ (i := 4) (N := some 70) (v := ?_) (a' := ?_) #[true, true, true, false, true, false, false, false, false, false, false, false] rfl rfl (any_of HT_.out (by kernel_rfl)) (fun _ _ _ h => h) (Or.inl ⟨by rfl, ?_⟩) ?_ ?_
                                            rotate_left
                                            · intro w'
                                              go_simp
                                              with_reducible rfl
                                            rotate_left
                                            · simp only [Act.put, List.setIfInBounds_toArray, List.set_cons_zero, List.set_cons_succ, i64_w, i32_w]
                                              rfl
                                            refine pure_ (i := 7) (N := some 73) (v := ?_) (a' := ?_) #[true, true, true, false, true, false, false, true, false, false, false, false] rfl rfl (any_of HT_.out (by kernel_rfl)) (fun _ _ _ h => h) (Or.inl ⟨by rfl, ?_⟩) ?_ ?_
                                            rotate_left
                                            · intro w'
                                              go_simp
                                              with_reducible rfl
                                            rotate_left
                                            · simp only [Act.put, List.setIfInBounds_toArray, List.set_cons_zero, List.set_cons_succ, i64_w, i32_w]
                                              rfl
                                            refine pure_ (i := 8) (N := some 74) (v := ?_) (a' := ?_) #[true, true, true, false, true, false, false, true, true, false, false, false] rfl rfl (any_of HT_.out (by kernel_rfl)) (fun _ _ _ h => h) (Or.inl ⟨by rfl, ?_⟩) ?_ ?_
                                            rotate_left
                                            · intro w'
                                              go_simp
                                              with_reducible rfl
                                            rotate_left
                                            · simp only [Act.put, List.setIfInBounds_toArray, List.set_cons_zero, List.set_cons_succ, i64_w, i32_w]
                                              rfl
                                            refine take_ (i := 3) (N := some 69) (v := ?_) (a' := ?_) #[true, true, true, true, true, false, false, true, true, false, false, false] rfl rfl (take_ofW HT_.out HW_.out (by kernel_rfl)) (fun _ _ _ h => h) (Or.inl ⟨by rfl, ?_⟩) hHeld ?_ ?_
                                            rotate_left
                                            · rintro w' ⟨s0, s1⟩
                                              go_simp
                                              with_reducible rfl
                                            rotate_left
                                            · simp only [Act.put, List.setIfInBounds_toArray, List.set_cons_zero, List.set_cons_succ, i64_w, i32_w]
                                              rfl
                                            refine pure_ (i := 5) (N := some 71) (v := ?_) (a' := ?_) #[true, true, true, true, true, true, false, true, true, false, false, false] rfl rfl (any_of HT_.out (by kernel_rfl)) (fun _ _ _ h => h) (Or.inl ⟨by rfl, ?_⟩) ?_ ?_
                                            rotate_left
                                            · intro w'
                                              go_simp
                                              with_reducible rfl
                                            rotate_left
                                            · simp only [Act.put, List.setIfInBounds_toArray, List.set_cons_zero, List.set_cons_succ, i64_w, i32_w]
                                              rfl
                                            refine pure_ (i := 6) (N := some 72) (v := ?_) (a' := ?_) #[true, true, true, true, true, true, true, true, true, false, false, false] rfl rfl (any_of HT_.out (by kernel_rfl)) (fun _ _ _ h => h) (Or.inl ⟨by rfl, ?_⟩) ?_ ?_
                                            rotate_left
                                            · intro w'
                                              go_simp
                                              with_reducible rfl
                                            rotate_left
                                            · simp only [Act.put, List.setIfInBounds_toArray, List.set_cons_zero, List.set_cons_succ, i64_w, i32_w]
                                              rfl
                                            refine take_ (i := 9) (N := some 75) (v := ?_) (a' := ?_) #[true, true, true, true, true, true, true, true, true, true, false, false] rfl rfl (take_ofW HT_.out HW_.out (by kernel_rfl)) (fun _ _ _ h => h) (Or.inl ⟨by rfl, ?_⟩) hHeld ?_ ?_
                                            rotate_left
                                            · rintro w' ⟨s0, s1⟩
                                              go_simp
                                              with_reducible rfl
                                            rotate_left
                                            · simp only [Act.put, List.setIfInBounds_toArray, List.set_cons_zero, List.set_cons_succ, i64_w, i32_w]
                                              rfl
                                            refine pure_ (i := 10) (N := some 76) (v := ?_) (a' := ?_) #[true, true, true, true, true, true, true, true, true, true, true, false] rfl rfl (any_of HT_.out (by kernel_rfl)) (fun _ _ _ h => h) (Or.inl ⟨by rfl, ?_⟩) ?_ ?_
                                            rotate_left
                                            · intro w'
                                              go_simp
                                              with_reducible rfl
                                            rotate_left
                                            · simp only [Act.put, List.setIfInBounds_toArray, List.set_cons_zero, List.set_cons_succ, i64_w, i32_w]
                                              rfl
                                            refine last_ (i := 11) (N := none) #[true, true, true, true, true, true, true, true, true, true, true, true] rfl rfl (one_of HT_.out (by kernel_rfl)) (by decide) (fun K hK => ?_)
                                            refine skip_ (w1 := ?_) (by rfl) rfl ?_ ?_
                                            rotate_left
                                            · go_simp
                                              rfl
                                            refine hK.out _ _ ?_
                                            clear hK K
                                            refine done_ (done_of HT_.out (by kernel_rfl)) ?_
                                            try go_wp2
                                            go_roundg k3
                                            case measure => have := HJ1.out; have := HJ12.out; have := HK3.out; omega
                                            case rel => exact ⟨(y162), (wrap64 (x37_3 + 1)), (by first | rfl | (simp; done) | (simp [*]; done)), H', ⟨by have := HJ1.out; have := HJ12.out; have := HK3.out; omega⟩, ⟨by (with_reducible repeat (first | apply Kd.R_alloc | apply Kd.R_drewN | apply Kd.R_drew)); exact HQ40.out⟩, ⟨by repeat (first | (with_reducible first | exact HB.out | apply below_alloc | apply pw_below_drewN | apply below_drew1 | refine below_set ?_ GB30.out) | exact HB.out)⟩⟩
                                          · rw [if_neg c34] at H
                                            exact absurd H (by simp)
                                        · rw [if_neg c33] at H
                                          exact absurd H (by simp)
                                      · rw [if_neg c31] at H
                                        exact absurd H (by simp)
                                    · rw [if_neg c29] at H
                                      exact absurd H (by simp)
                                  · rw [if_neg c28] at H
                                    exact absurd H (by simp)
                              · rw [if_neg c25] at H
                                exact absurd H (by simp)
                            · rw [if_neg c24] at H
                              have c24b0 : ((rd (rd_L1 l0 x37_3) 0) == (wrap64 (x37_3 + 1))) = false := beq_eq_false_iff_ne.mpr c24
                              have c24b1 : ((rd (rd_L1 l0 x37_3) 0) != (wrap64 (x37_3 + 1))) = true := bne_iff_ne.mpr c24
                              simp only [Option.some.injEq, Prod.mk.injEq] at H
                              obtain ⟨rfl, rfl⟩ := H
                              have p154 : 0 ≤ (x37_3 : Int) := of_decide_eq_true (by first | (with_reducible assumption) | assumption)
                              have q154 : x37_3 < (l0.length : Int) := of_decide_eq_true (by first | (with_reducible assumption) | assumption)
                              obtain ⟨ad154, A154_0, c154_0, e154, hx154_0, hl154_0, hi154_0⟩ := at_L1 HR0.out x37_3 p154 q154
                              cases e154
                              replace hx154_0 := (HB.out.cell (World.block_lt_of_cell? w _ hx154_0)).trans hx154_0
                              have HR154_0 := Aside0.mk hi154_0
                              have HC154_0 := Aside0.mk hl154_0
                              clear hi154_0 hl154_0
                              replace p154 := eq_true p154
                              replace q154 := eq_true q154
                              have p155 : 0 ≤ (0 : Int) := (by omega)
                              have q155 : 0 < ((rd_L1 l0 x37_3).length : Int) := of_decide_eq_true (by first | (with_reducible assumption) | assumption)
                              obtain ⟨ad155, e155, hx155_0⟩ := Kd.at_int HR154_0.out 0 p155 q155
                              cases e155
                              have qi155 : (0 < (rd_L1 l0 x37_3).length) = True := eq_true (by omega)
                              (try rw [show ((0 : Int)).toNat = 0 from rfl] at hx155_0)
                              (try rw [Addr.add_zero'] at hx155_0)
                              replace hx155_0 := (HB.out.cell (World.block_lt_of_cell? w _ hx155_0)).trans hx155_0
                              replace p155 := eq_true p155
                              replace q155 := eq_true q155
                              go_wp2
                              go_ret2
                              exact ⟨_, by first | rfl | (simp [errW_none, errW_some] <;> rfl) | (simp [*, errW_none, errW_some] <;> rfl), by first | exact Kd.R_nil _ _ _ _ _ | exact Kd.N_nil _ _ _ _ _ | exact Kd.V_nil _ _ _ _ _ | exact Kd.Q_nil _ _ _ _ _ | exact Kd.S_nil _ _ _ _ _, by repeat (first | (with_reducible first | exact HB.out | apply below_alloc | apply pw_below_drewN | apply below_drew1) | exact HB.out)⟩
                          · rw [if_neg c23] at H
                            exact absurd H (by simp)
                        · rw [if_neg c22] at H
                          exact absurd H (by simp)
                      · rw [if_neg c21] at H
                        exact absurd H (by simp)
                    · rw [if_neg c20] at H
                      have c20b0 : decide (x37_3 < (l0.length : Int)) = false := decide_eq_false c20
                      clear c20
                      simp only [Option.some.injEq, Prod.mk.injEq] at H
                      obtain ⟨rfl, rfl⟩ := H
                      go_wp2
                      go_ret2
                      exact ⟨_, by first | rfl | (simp [errW_none, errW_some] <;> rfl) | (simp [*, errW_none, errW_some] <;> rfl), by (with_reducible repeat (first | apply Kd.R_alloc | apply Kd.R_drewN | apply Kd.R_drew)); exact HO_6.out, by repeat (first | (with_reducible first | exact HB.out | apply below_alloc | apply pw_below_drewN | apply below_drew1) | exact HB.out)⟩
              · rw [if_neg c17] at H
                exact absurd H (by simp)
            · rw [if_neg c16] at H
              exact absurd H (by simp)

end Go.Proofs.Ytgpnhaaklhinlaa.PFnExactRowOfTriples
