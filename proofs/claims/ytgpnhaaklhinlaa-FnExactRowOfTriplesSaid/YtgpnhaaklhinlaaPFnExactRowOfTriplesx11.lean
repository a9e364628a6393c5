-- Written by plug.py, a program of this session, over the kit's print of the function: checked by Lean alone.
import Derived.Test.YtgpnhaaklhinlaaPFnExactRowOfTriplesx0
import Derived.Test.YtgpnhaaklhinlaaPFnExactRowOfTriplesx8
import Derived.Test.YtgpnhaaklhinlaaPFnExactRowOfTriplesx9
import Derived.Test.YtgpnhaaklhinlaaPFnExactRowOfTriplesx10
namespace Go.Proofs.Ytgpnhaaklhinlaa.PFnExactRowOfTriples
open Go.RowKit Go.Proofs.YtgpnhaaklhinlaaW.PrintWords Go.Proofs.YtgpnhaaklhinlaaW.PrintLast Go.Proofs.YtgpnhaaklhinlaaW.PrintMore
attribute [local go_sem] max2_int min2_int max_two min_two max_three min_three max_four min_four   -- for this text's walks alone
set_option linter.unusedVariables false
set_option linter.unusedSimpArgs false

/-! ### impl_RowOfTriples: function 25 -/
mutual
def impl_RowOfTriples.l0 : Nat → List (List Int) → Int → List Int → Int → Int → Option (List Int × Bool)
  | 0, _, _, _, _, _ => none
  | k + 1, x0, x4, x23, x24, x25 => if x25 < x24 then (if 0 ≤ x25 then (if x25 < (x23.length : Int) then (if 0 ≤ (rd x23 x25) then (if (rd x23 x25 : Int).toNat ≤ 35184372088832 then (impl_RowOfTriples.l1 k x0 x4 (rd x23 x25) (List.replicate (rd x23 x25 : Int).toNat 0) true x23 x24 x25 x0 (x0.length : Int) 0) else (none)) else (none)) else (none)) else (none)) else (some (([] : List Int), false))
def impl_RowOfTriples.j2 : Nat → List (List Int) → Int → List Int → Bool → List Int → Int → Int → Option (List Int × Bool)
  | 0, _, _, _, _, _, _, _ => none
  | k + 1, x0, x4, x7, x8, x23, x24, x25 => if x8 = true then ((impl_TriplesOfRow.f k x7).bind fun bt235 => (if bt235.2 = true then ((slices_EqualFunc_int_int_int_int.f k bt235.1 x0).bind fun t239 => (if t239 = true then (some (x7, true)) else (impl_RowOfTriples.l0 k x0 x4 x23 x24 (wrap64 (x25 + 1))))) else (impl_RowOfTriples.l0 k x0 x4 x23 x24 (wrap64 (x25 + 1))))) else (impl_RowOfTriples.l0 k x0 x4 x23 x24 (wrap64 (x25 + 1)))
def impl_RowOfTriples.l1 : Nat → List (List Int) → Int → Int → List Int → Bool → List Int → Int → Int → List (List Int) → Int → Int → Option (List Int × Bool)
  | 0, _, _, _, _, _, _, _, _, _, _, _ => none
  | k + 1, x0, x4, x6, x7, x8, x23, x24, x25, x31, x32, x33 => if x33 < x32 then (if 0 ≤ x33 then (if x33 < (x31.length : Int) then (if ((rd_L1 x31 x33).length : Int) = 3 then (if 0 < ((rd_L1 x31 x33).length : Int) then ((impl_isNumber.f (rd (rd_L1 x31 x33) 0)).bind fun t224 => (if t224 = true then (if 1 < ((rd_L1 x31 x33).length : Int) then (if (rd (rd_L1 x31 x33) 1) ≤ x4 then (impl_RowOfTriples.j2 k x0 x4 x7 false x23 x24 x25) else (if (rd (rd_L1 x31 x33) 1) > (wrap64 (x4 + x6)) then (impl_RowOfTriples.j2 k x0 x4 x7 false x23 x24 x25) else (if 2 < ((rd_L1 x31 x33).length : Int) then (if (rd (rd_L1 x31 x33) 2) ≤ x4 then (impl_RowOfTriples.j2 k x0 x4 x7 false x23 x24 x25) else (if (rd (rd_L1 x31 x33) 2) > (wrap64 (x4 + x6)) then (impl_RowOfTriples.j2 k x0 x4 x7 false x23 x24 x25) else (if 0 ≤ (wrap64 ((wrap64 ((rd (rd_L1 x31 x33) 1) - x4)) - 1)) then (if (wrap64 ((wrap64 ((rd (rd_L1 x31 x33) 1) - x4)) - 1)) < (x7.length : Int) then (if 0 ≤ (wrap64 ((wrap64 ((rd (rd_L1 x31 x33) 2) - x4)) - 1)) then (if (wrap64 ((wrap64 ((rd (rd_L1 x31 x33) 2) - x4)) - 1)) < (x7.length : Int) then (impl_RowOfTriples.l1 k x0 x4 x6 ((x7.set ((wrap64 ((wrap64 ((rd (rd_L1 x31 x33) 1) - x4)) - 1)) : Int).toNat (rd (rd_L1 x31 x33) 0)).set ((wrap64 ((wrap64 ((rd (rd_L1 x31 x33) 2) - x4)) - 1)) : Int).toNat (rd (rd_L1 x31 x33) 0)) x8 x23 x24 x25 x31 x32 (wrap64 (x33 + 1))) else (none)) else (none)) else (none)) else (none)))) else (none)))) else (none)) else (impl_RowOfTriples.j2 k x0 x4 x7 false x23 x24 x25))) else (none)) else (impl_RowOfTriples.j2 k x0 x4 x7 false x23 x24 x25)) else (none)) else (none)) else (impl_RowOfTriples.j2 k x0 x4 x7 x8 x23 x24 x25)
end
def impl_RowOfTriples.f (k : Nat) (l0 : List (List Int)) : Option (List Int × Bool) := (impl_isMany.f (l0.length : Int)).bind fun t214 => (if t214 = true then ((some (([wrap64 (2 * (l0.length : Int)), wrap64 ((wrap64 (2 * (l0.length : Int))) + 1)] : List Int) : List Int)).bind fun y215 => (impl_RowOfTriples.l0 k l0 (l0.length : Int) y215 (y215.length : Int) 0)) else (some (([] : List Int), false)))
theorem impl_RowOfTriples.mono_l : ∀ k, (∀ y0 y1 y2 y3 y4, LeO (impl_RowOfTriples.l0 k y0 y1 y2 y3 y4) (impl_RowOfTriples.l0 (k + 1) y0 y1 y2 y3 y4)) ∧ (∀ y0 y1 y2 y3 y4 y5 y6, LeO (impl_RowOfTriples.j2 k y0 y1 y2 y3 y4 y5 y6) (impl_RowOfTriples.j2 (k + 1) y0 y1 y2 y3 y4 y5 y6)) ∧ (∀ y0 y1 y2 y3 y4 y5 y6 y7 y8 y9 y10, LeO (impl_RowOfTriples.l1 k y0 y1 y2 y3 y4 y5 y6 y7 y8 y9 y10) (impl_RowOfTriples.l1 (k + 1) y0 y1 y2 y3 y4 y5 y6 y7 y8 y9 y10))
  | 0 => ⟨fun _ _ _ _ _ r h => by simp [impl_RowOfTriples.l0] at h, fun _ _ _ _ _ _ _ r h => by simp [impl_RowOfTriples.j2] at h, fun _ _ _ _ _ _ _ _ _ _ _ r h => by simp [impl_RowOfTriples.l1] at h⟩
  | k + 1 => by
    obtain ⟨ih0, ih1, ih2⟩ := impl_RowOfTriples.mono_l k
    refine ⟨?_, ?_, ?_⟩
    · intro y0 y1 y2 y3 y4
      unfold impl_RowOfTriples.l0
      repeat' first
      | (with_reducible exact ih0 _ _ _ _ _)
      | (with_reducible exact ih1 _ _ _ _ _ _ _)
      | (with_reducible exact ih2 _ _ _ _ _ _ _ _ _ _ _)
      | (with_reducible exact impl_TriplesOfRow.mono _ _)
      | (with_reducible exact slices_EqualFunc_int_int_int_int.mono _ _ _)
      | (with_reducible exact LeO.refl _)
      | (with_reducible exact LeO.none _)
      | (with_reducible refine LeO.ite ?_ ?_)
      | (with_reducible refine LeO.bind ?_ (fun _ => ?_))
      | exact ih0 _ _ _ _ _
      | exact ih1 _ _ _ _ _ _ _
      | exact ih2 _ _ _ _ _ _ _ _ _ _ _
      | exact impl_TriplesOfRow.mono _ _
      | exact slices_EqualFunc_int_int_int_int.mono _ _ _
      | exact LeO.none _
      | refine LeO.ite ?_ ?_
      | refine LeO.bind ?_ (fun _ => ?_)
    · intro y0 y1 y2 y3 y4 y5 y6
      unfold impl_RowOfTriples.j2
      repeat' first
      | (with_reducible exact ih0 _ _ _ _ _)
      | (with_reducible exact ih1 _ _ _ _ _ _ _)
      | (with_reducible exact ih2 _ _ _ _ _ _ _ _ _ _ _)
      | (with_reducible exact impl_TriplesOfRow.mono _ _)
      | (with_reducible exact slices_EqualFunc_int_int_int_int.mono _ _ _)
      | (with_reducible exact LeO.refl _)
      | (with_reducible exact LeO.none _)
      | (with_reducible refine LeO.ite ?_ ?_)
      | (with_reducible refine LeO.bind ?_ (fun _ => ?_))
      | exact ih0 _ _ _ _ _
      | exact ih1 _ _ _ _ _ _ _
      | exact ih2 _ _ _ _ _ _ _ _ _ _ _
      | exact impl_TriplesOfRow.mono _ _
      | exact slices_EqualFunc_int_int_int_int.mono _ _ _
      | exact LeO.none _
      | refine LeO.ite ?_ ?_
      | refine LeO.bind ?_ (fun _ => ?_)
    · intro y0 y1 y2 y3 y4 y5 y6 y7 y8 y9 y10
      unfold impl_RowOfTriples.l1
      repeat' first
      | (with_reducible exact ih0 _ _ _ _ _)
      | (with_reducible exact ih1 _ _ _ _ _ _ _)
      | (with_reducible exact ih2 _ _ _ _ _ _ _ _ _ _ _)
      | (with_reducible exact impl_TriplesOfRow.mono _ _)
      | (with_reducible exact slices_EqualFunc_int_int_int_int.mono _ _ _)
      | (with_reducible exact LeO.refl _)
      | (with_reducible exact LeO.none _)
      | (with_reducible refine LeO.ite ?_ ?_)
      | (with_reducible refine LeO.bind ?_ (fun _ => ?_))
      | exact ih0 _ _ _ _ _
      | exact ih1 _ _ _ _ _ _ _
      | exact ih2 _ _ _ _ _ _ _ _ _ _ _
      | exact impl_TriplesOfRow.mono _ _
      | exact slices_EqualFunc_int_int_int_int.mono _ _ _
      | exact LeO.none _
      | refine LeO.ite ?_ ?_
      | refine LeO.bind ?_ (fun _ => ?_)
theorem impl_RowOfTriples.mono : ∀ a0 k, LeO (impl_RowOfTriples.f k a0) (impl_RowOfTriples.f (k + 1) a0) := by
  intro a0 k
  obtain ⟨ih0, ih1, ih2⟩ := impl_RowOfTriples.mono_l k
  unfold impl_RowOfTriples.f
  repeat' first
      | (with_reducible exact ih0 _ _ _ _ _)
      | (with_reducible exact ih1 _ _ _ _ _ _ _)
      | (with_reducible exact ih2 _ _ _ _ _ _ _ _ _ _ _)
      | (with_reducible exact impl_TriplesOfRow.mono _ _)
      | (with_reducible exact slices_EqualFunc_int_int_int_int.mono _ _ _)
      | (with_reducible exact LeO.refl _)
      | (with_reducible exact LeO.none _)
      | (with_reducible refine LeO.ite ?_ ?_)
      | (with_reducible refine LeO.bind ?_ (fun _ => ?_))
      | exact ih0 _ _ _ _ _
      | exact ih1 _ _ _ _ _ _ _
      | exact ih2 _ _ _ _ _ _ _ _ _ _ _
      | exact impl_TriplesOfRow.mono _ _
      | exact slices_EqualFunc_int_int_int_int.mono _ _ _
      | exact LeO.none _
      | refine LeO.ite ?_ ?_
      | refine LeO.bind ?_ (fun _ => ?_)
def impl_RowOfTriples.T14 : Bool × List (List Nat × List Nat) := (true, [([], []), ([], []), ([1], [1]), ([2], [2]), ([], []), ([3, 4], [3, 4]), ([5], [5]), ([], []), ([7], [7]), ([8], [8]), ([0, 6, 0, 1, 2, 3, 4, 5, 6, 7, 8, 9], [0, 6]), ([10, 9, 0, 1, 2, 3, 4, 5, 6, 7, 8, 9], [9, 10])])
def impl_RowOfTriples.B14 : List Nat := [0, 0, 2, 6, 0, 30, 62, 0, 128, 384, 1023, 2047]
theorem impl_RowOfTriples.tab14 : rtab .any (opsOf Try.f25 14) = impl_RowOfTriples.T14 := by kernel_rfl
theorem impl_RowOfTriples.bits14 : waitsOk impl_RowOfTriples.T14.2 impl_RowOfTriples.B14 = true := by kernel_rfl
def impl_RowOfTriples.T15 : Bool × List (List Nat × List Nat) := (true, [([], []), ([], []), ([1], [1]), ([2], [2]), ([], []), ([3, 4], [3, 4]), ([5], [5]), ([], []), ([7], [7]), ([8], [8]), ([0, 6, 0, 1, 2, 3, 4, 5, 6, 7, 8, 9], [0, 6]), ([10, 9, 0, 1, 2, 3, 4, 5, 6, 7, 8, 9], [9, 10])])
def impl_RowOfTriples.B15 : List Nat := [0, 0, 2, 6, 0, 30, 62, 0, 128, 384, 1023, 2047]
theorem impl_RowOfTriples.tab15 : rtab .any (opsOf Try.f25 15) = impl_RowOfTriples.T15 := by kernel_rfl
theorem impl_RowOfTriples.bits15 : waitsOk impl_RowOfTriples.T15.2 impl_RowOfTriples.B15 = true := by kernel_rfl
set_option maxHeartbeats 8000000 in
set_option maxRecDepth 100000 in
theorem impl_RowOfTriples.calls (k : Nat) (A0 : Option Addr) (c0 : Nat) (l0 : List (List Int)) (r1 : List Int) (r2 : Bool) (w : World) (hr0 : Kd.C (Kd.slice 3 (Kd.int .i64)) w A0 l0.length l0) (hc0 : l0.length ≤ c0) (h : impl_RowOfTriples.f k l0 = some (r1, r2)) :
    Calls Try.prog 25 #[.slice A0 l0.length c0] w fun e w' => ∃ v0_ : Value, e = .returned (.tuple #[v0_, .bool r2]) ∧ Kd.R (Kd.int .i64) 3 w' w.heap.size (fun _ => True) v0_ r1 ∧ Below w.heap.size w w' := by
  have HR0 := Aside0.mk hr0
  have HC0 := Aside0.mk hc0
  clear hr0 hc0
  have HB := Aside0.mk (Below.refl w.heap.size w)
  have H : ((impl_isMany.f (l0.length : Int)).bind fun t214 => (if t214 = true then ((some (([wrap64 (2 * (l0.length : Int)), wrap64 ((wrap64 (2 * (l0.length : Int))) + 1)] : List Int) : List Int)).bind fun y215 => (impl_RowOfTriples.l0 k l0 (l0.length : Int) y215 (y215.length : Int) 0)) else (some (([] : List Int), false)))) = some (r1, r2) := h
  clear h
  replace H := Option.bind_eq_some_iff.mp H
  obtain ⟨t214, A20, H⟩ := H
  replace H : (if t214 = true then ((some (([wrap64 (2 * (l0.length : Int)), wrap64 ((wrap64 (2 * (l0.length : Int))) + 1)] : List Int) : List Int)).bind fun y215 => (impl_RowOfTriples.l0 k l0 (l0.length : Int) y215 (y215.length : Int) 0)) else (some (([] : List Int), false))) = some (r1, r2) := H
  have A2 := Aside0.mk A20
  clear A20
  by_cases c3 : t214 = true
  · subst c3
    have H1 : ((some (([wrap64 (2 * (l0.length : Int)), wrap64 ((wrap64 (2 * (l0.length : Int))) + 1)] : List Int) : List Int)).bind fun y215 => (impl_RowOfTriples.l0 k l0 (l0.length : Int) y215 (y215.length : Int) 0)) = some (r1, r2) := by rw [if_pos rfl] at H; exact H
    clear H
    have H := H1
    clear H1
    obtain ⟨y215, hy215⟩ : ∃ y_ : List Int, y_ = (([wrap64 (2 * (l0.length : Int)), wrap64 ((wrap64 (2 * (l0.length : Int))) + 1)] : List Int)) := ⟨_, rfl⟩
    replace H : (impl_RowOfTriples.l0 k l0 (l0.length : Int) y215 (y215.length : Int) 0) = some (r1, r2) := by first | (rw [hy215]; with_reducible exact H) | (have H2_ := (Option.bind_some _ _).symm.trans H; rw [hy215]; with_reducible exact H2_) | (have H2_ := (Option.bind_some _ _).symm.trans H; with_reducible exact H2_) | with_reducible exact H | (rw [hy215]; exact H) | exact H
    have Ny215 := Aside0.mk hy215
    clear hy215
    have H' := Aside0.mk H
    clear H
    go_enter Try.func25, Try.ntmps25
    go_wp2_with (first | ((with_reducible refine gate_callee (f := 52) rfl ?_); refine goesL_ (some 16) rfl rfl Try.func52 (by kernel_rfl) rfl #[.int .i64 (l0.length : Int)] rfl (by (try simp only [List.map_toArray, List.map_cons, List.map_nil]); first | done | rfl | (simp only [List.length_drop, List.length_take]; rfl)) ?_; (with_reducible refine (impl_isMany.calls (l0.length : Int) true _ A2.out).mono ?_); rintro e w' ⟨rfl, ⟨nd, rfl⟩⟩; refine ⟨_, rfl, ?_⟩) | ((with_reducible refine gate_dst (N := 23) rfl ?_); refine Kd.R_lit (Kd.int .i64) _ 3 ?hg (N := 23) ?hd (xs := ([wrap64 (2 * (l0.length : Int)), wrap64 ((wrap64 (2 * (l0.length : Int))) + 1)] : List Int)) (inner := [.int .i64 (wrap64 (2 * (l0.length : Int))), .int .i64 (wrap64 ((wrap64 (2 * (l0.length : Int))) + 1))]) (ok := fun _ => True) (okp := fun _ => True) ?hr ?hp (fun _ hk => hk) trivial (Below.refl _ _) (Nat.le_refl _) (by simp) ?_; (case hd => rfl); (case hg => rfl); (case hr => first | (go_simp; done) | (go_simp; rfl)); (case hp => exact (Reps.one (show Kd.M (Kd.int .i64) _ _ _ (wrap64 (2 * (l0.length : Int))) [.int .i64 (wrap64 (2 * (l0.length : Int)))] from rfl) (Reps.one (show Kd.M (Kd.int .i64) _ _ _ (wrap64 ((wrap64 (2 * (l0.length : Int))) + 1)) [.int .i64 (wrap64 ((wrap64 (2 * (l0.length : Int))) + 1))] from rfl) (Reps.none _ _)))); intro v216 w4 ho5 hb hg_ hnew_; clear hg_ hnew_; (first | rw [← Ny215.out] at ho5 | (simp only [Int.reduceToNat] at ho5; rw [← Ny215.out] at ho5)); have n0_ := Aside0.mk (Kd.R_lower ho5 (below_size (by repeat (first | (with_reducible first | exact HB.out | apply below_alloc | apply pw_below_drewN | apply below_drew1) | exact HB.out)))); have n1_ := Aside0.mk (below_step (by repeat (first | (with_reducible first | exact HB.out | apply below_alloc | apply pw_below_drewN | apply below_drew1) | exact HB.out)) hb); clear HB; have HO217 := n0_; have HB := n1_; clear n0_ n1_; clear hb ho5; obtain ⟨Ao6, co6, eo6⟩ := Kd.R_slice HO217.out; subst eo6))
    go_loopg [25] k (fun kq v25 w' => ∃ (x23_1 : List Int) (x25_1 : Int), v25 = .int .i64 x25_1 ∧ Aside0 (impl_RowOfTriples.l0 kq l0 (l0.length : Int) x23_1 (y215.length : Int) x25_1 = some (r1, r2)) ∧ Aside0 (kq ≤ k) ∧ Aside0 (Kd.R (Kd.int .i64) 3 w' w.heap.size (fun _ => True) (.slice Ao6 y215.length co6) x23_1) ∧ Aside0 (Below w.heap.size w w'))
    case atStart => exact ⟨(y215), (0), (by first | rfl | (simp; done) | (simp [*]; done)), H', ⟨Nat.le_refl _⟩, ⟨by (with_reducible repeat (first | apply Kd.R_alloc | apply Kd.R_drewN | apply Kd.R_drew)); exact HO217.out⟩, ⟨by repeat (first | (with_reducible first | exact HB.out | apply below_alloc | apply pw_below_drewN | apply below_drew1) | exact HB.out)⟩⟩
    case round =>
      clear H'
      try clear c2
      try clear p2
      try clear c3
      try clear c5
      try clear p6
      obtain ⟨x23_1, x25_1, rfl, HA, HK1, HO_23, HB⟩ := hrel
      have hl23_1 := (Kd.R_reads' HO_23.out).1
      rw [hl23_1] at HO_23
      (try simp only [hl23_1])
      cases gk with
      | zero => exact absurd HA.out (by simp [impl_RowOfTriples.l0])
      | succ k1 =>
        have H := HA.out
        clear HA
        simp only [impl_RowOfTriples.l0] at H
        by_cases c7 : x25_1 < (y215.length : Int)
        · rw [if_pos c7] at H
          have c7b0 : decide (x25_1 < (y215.length : Int)) = true := decide_eq_true c7
          (try simp only [hl222_0] at c7b0)
          (try simp only [hl23_1] at c7b0)
          clear c7
          by_cases c8 : 0 ≤ x25_1
          · rw [if_pos c8] at H
            have c8b0 : decide (0 ≤ x25_1) = true := decide_eq_true c8
            clear c8
            by_cases c9 : x25_1 < (x23_1.length : Int)
            · rw [if_pos c9] at H
              have c9b0 : decide (x25_1 < (x23_1.length : Int)) = true := decide_eq_true c9
              clear c9
              by_cases c10 : 0 ≤ (rd x23_1 x25_1)
              · rw [if_pos c10] at H
                have c10b0 := eq_true c10
                have c10b1 : decide (0 ≤ (rd x23_1 x25_1)) = true := decide_eq_true c10
                clear c10
                by_cases c11 : (rd x23_1 x25_1 : Int).toNat ≤ 35184372088832
                · rw [if_pos c11] at H
                  have c11b0 := eq_true c11
                  have c11b1 : decide ((rd x23_1 x25_1 : Int).toNat ≤ 35184372088832) = true := decide_eq_true c11
                  clear c11
                  obtain ⟨y219, hy219⟩ : ∃ y_ : List Int, y_ = (List.replicate (rd x23_1 x25_1 : Int).toNat 0) := ⟨_, rfl⟩
                  replace H : (impl_RowOfTriples.l1 k1 l0 (l0.length : Int) (rd x23_1 x25_1) y219 true x23_1 (y215.length : Int) x25_1 l0 (l0.length : Int) 0) = some (r1, r2) := by first | (rw [hy219]; with_reducible exact H) | (have H2_ := (Option.bind_some _ _).symm.trans H; rw [hy219]; with_reducible exact H2_) | (have H2_ := (Option.bind_some _ _).symm.trans H; with_reducible exact H2_) | with_reducible exact H | (rw [hy219]; exact H) | exact H
                  have Ny219 := Aside0.mk hy219
                  clear hy219
                  have HC12 := Aside0.mk H
                  clear H
                  have p218 : 0 ≤ (x25_1 : Int) := of_decide_eq_true (by first | (with_reducible assumption) | assumption)
                  have q218 : x25_1 < (x23_1.length : Int) := of_decide_eq_true (by first | (with_reducible assumption) | assumption)
                  obtain ⟨ad218, e218, hx218_0⟩ := Kd.at_int (Kd.R_reads' HO_23.out).2.2 x25_1 p218 q218
                  cases e218
                  replace p218 := eq_true p218
                  replace q218 := eq_true q218
                  go_upto_block 2 with (first | ((with_reducible refine gate_dst (N := 30) rfl ?_); refine Kd.R_make (Kd.int .i64) _ 3 rfl (N := 30) rfl 22 _ _ rfl (rd x23_1 x25_1) rfl rfl Try.underlying22 (.int .i64 0) 8 info3 rfl (by decide) (by omega) 0 (ok := fun _ => True) (okp := fun _ => True) rfl (fun _ hk => hk) trivial (of_decide_eq_true (by first | (with_reducible assumption) | assumption)) (Nat.le_trans (Nat.mul_le_mul_right _ (of_decide_eq_true (by first | (with_reducible assumption) | assumption) : (rd x23_1 x25_1).toNat ≤ 35184372088832)) (by omega)) (Below.refl _ _) (Nat.le_refl _) ?_; intro v220 w13 ho14 hb hg_ hnew_; clear hg_ hnew_; (first | rw [← Ny219.out] at ho14 | (simp only [Int.reduceToNat] at ho14; rw [← Ny219.out] at ho14)); have n0_ := Aside0.mk (Kd.R_elder' (by (with_reducible repeat (first | apply Kd.R_alloc | apply Kd.R_drewN | apply Kd.R_drew)); exact HO_23.out) (Kd.R_base ho14) hb); have n1_ := Aside0.mk (Kd.R_lower (Kd.R_new' ho14 (Kd.R_lt (by (with_reducible repeat (first | apply Kd.R_alloc | apply Kd.R_drewN | apply Kd.R_drew)); exact HO_23.out))) (below_size (by repeat (first | (with_reducible first | exact HB.out | apply below_alloc | apply pw_below_drewN | apply below_drew1) | exact HB.out)))); have n2_ := Aside0.mk (below_step (by repeat (first | (with_reducible first | exact HB.out | apply below_alloc | apply pw_below_drewN | apply below_drew1) | exact HB.out)) hb); clear HO_23; clear HB; have HO_23 := n0_; have HO221 := n1_; have HB := n2_; clear n0_ n1_ n2_; clear hb ho14))
                  (try simp only [Act.put, List.setIfInBounds_toArray, List.set_cons_zero, List.set_cons_succ])
                  go_cut [8] (fun v8 wc => ∃ (kq : Nat) (x7_11 : List Int) (x8_11 : Bool), v8 = .bool x8_11 ∧ Aside0 (impl_RowOfTriples.j2 kq l0 (l0.length : Int) x7_11 x8_11 x23_1 (y215.length : Int) x25_1 = some (r1, r2)) ∧ Aside0 (kq ≤ k1) ∧ Aside0 (Kd.R (Kd.int .i64) 3 wc w.heap.size (fun k_ => some k_ ≠ ((.slice (some ad218) x23_1.length co6) : Value).ownBlock) v220 x7_11) ∧ Aside0 (Kd.R (Kd.int .i64) 3 wc w.heap.size (fun k_ => some k_ ≠ (v220 : Value).ownBlock) (.slice (some ad218) x23_1.length co6) x23_1) ∧ Aside0 (Below w.heap.size w wc))
                  case first =>
                    have H := HC12.out
                    clear HC12
                    have H' := Aside0.mk H
                    clear H
                    go_wp2
                    go_loopg [8, 33] k1 (fun kq v8 v33 w' => ∃ (x7_2 : List Int) (x8_2 : Bool) (x33_2 : Int), v8 = .bool x8_2 ∧ v33 = .int .i64 x33_2 ∧ Aside0 (impl_RowOfTriples.l1 kq l0 (l0.length : Int) (rd x23_1 x25_1) x7_2 x8_2 x23_1 (y215.length : Int) x25_1 l0 (l0.length : Int) x33_2 = some (r1, r2)) ∧ Aside0 (kq ≤ k1) ∧ Aside0 (Kd.R (Kd.int .i64) 3 w' w.heap.size (fun k_ => some k_ ≠ ((.slice (some ad218) x23_1.length co6) : Value).ownBlock) v220 x7_2) ∧ Aside0 (Kd.R (Kd.int .i64) 3 w' w.heap.size (fun k_ => some k_ ≠ (v220 : Value).ownBlock) (.slice (some ad218) x23_1.length co6) x23_1) ∧ Aside0 (Below w.heap.size w w'))
                    case atStart => exact ⟨(y219), (true), (0), (by first | rfl | (simp; done) | (simp [*]; done)), (by first | rfl | (simp; done) | (simp [*]; done)), H', ⟨Nat.le_refl _⟩, ⟨by (try simp only [hl23_1]); (with_reducible repeat (first | apply Kd.R_alloc | apply Kd.R_drewN | apply Kd.R_drew)); exact Kd.R_mono HO221.out (fun _ hk => hk.2)⟩, ⟨by (try simp only [hl23_1]); (with_reducible repeat (first | apply Kd.R_alloc | apply Kd.R_drewN | apply Kd.R_drew)); exact Kd.R_mono HO_23.out (fun _ hk => hk.2)⟩, ⟨by repeat (first | (with_reducible first | exact HB.out | apply below_alloc | apply pw_below_drewN | apply below_drew1) | exact HB.out)⟩⟩
                    case round =>
                      clear H'
                      try clear c1
                      try clear c2
                      try clear p2
                      try clear q2
                      try clear hx2
                      try clear c3
                      try clear c5
                      try clear p6
                      try clear c7
                      try clear c7b0
                      try clear c8
                      try clear c8b0
                      try clear c9
                      try clear c9b0
                      try clear c10
                      try clear c10b0
                      try clear c10b1
                      try clear c11
                      try clear c11b0
                      try clear c11b1
                      try clear hx218_0
                      try clear p2
                      try clear p218
                      try clear p6
                      try clear q218
                      obtain ⟨x7_2, x8_2, x33_2, rfl, rfl, HA, HK2, HO_7, HO_23, HB⟩ := hrel
                      cases gk with
                      | zero => exact absurd HA.out (by simp [impl_RowOfTriples.l1])
                      | succ k2 =>
                        have H := HA.out
                        clear HA
                        simp only [impl_RowOfTriples.l1] at H
                        by_cases c15 : x33_2 < (l0.length : Int)
                        · rw [if_pos c15] at H
                          have c15b0 : decide (x33_2 < (l0.length : Int)) = true := decide_eq_true c15
                          clear c15
                          (first | rw [c15b0] | (simp only [i64_w, i32_w]; rw [c15b0]) | skip)
                          by_cases c16 : 0 ≤ x33_2
                          · rw [if_pos c16] at H
                            have c16b0 : decide (0 ≤ x33_2) = true := decide_eq_true c16
                            clear c16
                            by_cases c17 : x33_2 < (l0.length : Int)
                            · rw [if_pos c17] at H
                              have c17b0 : decide (x33_2 < (l0.length : Int)) = true := decide_eq_true c17
                              clear c17
                              by_cases c18 : ((rd_L1 l0 x33_2).length : Int) = 3
                              · rw [if_pos c18] at H
                                have c18b0 : (((rd_L1 l0 x33_2).length : Int) == 3) = true := beq_iff_eq.mpr c18
                                have c18b1 : (((rd_L1 l0 x33_2).length : Int) != 3) = false := bne_eq_false_iff_eq.mpr c18
                                clear c18
                                by_cases c19 : 0 < ((rd_L1 l0 x33_2).length : Int)
                                · rw [if_pos c19] at H
                                  have c19b0 : decide (0 < ((rd_L1 l0 x33_2).length : Int)) = true := decide_eq_true c19
                                  have c19b1 : decide (0 < (rd_L1 l0 x33_2).length) = true := decide_eq_true (by omega)
                                  clear c19
                                  replace H := Option.bind_eq_some_iff.mp H
                                  obtain ⟨t224, A200, H⟩ := H
                                  replace H : (if t224 = true then (if 1 < ((rd_L1 l0 x33_2).length : Int) then (if (rd (rd_L1 l0 x33_2) 1) ≤ (l0.length : Int) then (impl_RowOfTriples.j2 k2 l0 (l0.length : Int) x7_2 false x23_1 (y215.length : Int) x25_1) else (if (rd (rd_L1 l0 x33_2) 1) > (wrap64 ((l0.length : Int) + (rd x23_1 x25_1))) then (impl_RowOfTriples.j2 k2 l0 (l0.length : Int) x7_2 false x23_1 (y215.length : Int) x25_1) else (if 2 < ((rd_L1 l0 x33_2).length : Int) then (if (rd (rd_L1 l0 x33_2) 2) ≤ (l0.length : Int) then (impl_RowOfTriples.j2 k2 l0 (l0.length : Int) x7_2 false x23_1 (y215.length : Int) x25_1) else (if (rd (rd_L1 l0 x33_2) 2) > (wrap64 ((l0.length : Int) + (rd x23_1 x25_1))) then (impl_RowOfTriples.j2 k2 l0 (l0.length : Int) x7_2 false x23_1 (y215.length : Int) x25_1) else (if 0 ≤ (wrap64 ((wrap64 ((rd (rd_L1 l0 x33_2) 1) - (l0.length : Int))) - 1)) then (if (wrap64 ((wrap64 ((rd (rd_L1 l0 x33_2) 1) - (l0.length : Int))) - 1)) < (x7_2.length : Int) then (if 0 ≤ (wrap64 ((wrap64 ((rd (rd_L1 l0 x33_2) 2) - (l0.length : Int))) - 1)) then (if (wrap64 ((wrap64 ((rd (rd_L1 l0 x33_2) 2) - (l0.length : Int))) - 1)) < (x7_2.length : Int) then (impl_RowOfTriples.l1 k2 l0 (l0.length : Int) (rd x23_1 x25_1) ((x7_2.set ((wrap64 ((wrap64 ((rd (rd_L1 l0 x33_2) 1) - (l0.length : Int))) - 1)) : Int).toNat (rd (rd_L1 l0 x33_2) 0)).set ((wrap64 ((wrap64 ((rd (rd_L1 l0 x33_2) 2) - (l0.length : Int))) - 1)) : Int).toNat (rd (rd_L1 l0 x33_2) 0)) x8_2 x23_1 (y215.length : Int) x25_1 l0 (l0.length : Int) (wrap64 (x33_2 + 1))) else (none)) else (none)) else (none)) else (none)))) else (none)))) else (none)) else (impl_RowOfTriples.j2 k2 l0 (l0.length : Int) x7_2 false x23_1 (y215.length : Int) x25_1)) = some (r1, r2) := H
                                  have A20 := Aside0.mk A200
                                  clear A200
                                  by_cases c21 : t224 = true
                                  · subst c21
                                    have H1 : (if 1 < ((rd_L1 l0 x33_2).length : Int) then (if (rd (rd_L1 l0 x33_2) 1) ≤ (l0.length : Int) then (impl_RowOfTriples.j2 k2 l0 (l0.length : Int) x7_2 false x23_1 (y215.length : Int) x25_1) else (if (rd (rd_L1 l0 x33_2) 1) > (wrap64 ((l0.length : Int) + (rd x23_1 x25_1))) then (impl_RowOfTriples.j2 k2 l0 (l0.length : Int) x7_2 false x23_1 (y215.length : Int) x25_1) else (if 2 < ((rd_L1 l0 x33_2).length : Int) then (if (rd (rd_L1 l0 x33_2) 2) ≤ (l0.length : Int) then (impl_RowOfTriples.j2 k2 l0 (l0.length : Int) x7_2 false x23_1 (y215.length : Int) x25_1) else (if (rd (rd_L1 l0 x33_2) 2) > (wrap64 ((l0.length : Int) + (rd x23_1 x25_1))) then (impl_RowOfTriples.j2 k2 l0 (l0.length : Int) x7_2 false x23_1 (y215.length : Int) x25_1) else (if 0 ≤ (wrap64 ((wrap64 ((rd (rd_L1 l0 x33_2) 1) - (l0.length : Int))) - 1)) then (if (wrap64 ((wrap64 ((rd (rd_L1 l0 x33_2) 1) - (l0.length : Int))) - 1)) < (x7_2.length : Int) then (if 0 ≤ (wrap64 ((wrap64 ((rd (rd_L1 l0 x33_2) 2) - (l0.length : Int))) - 1)) then (if (wrap64 ((wrap64 ((rd (rd_L1 l0 x33_2) 2) - (l0.length : Int))) - 1)) < (x7_2.length : Int) then (impl_RowOfTriples.l1 k2 l0 (l0.length : Int) (rd x23_1 x25_1) ((x7_2.set ((wrap64 ((wrap64 ((rd (rd_L1 l0 x33_2) 1) - (l0.length : Int))) - 1)) : Int).toNat (rd (rd_L1 l0 x33_2) 0)).set ((wrap64 ((wrap64 ((rd (rd_L1 l0 x33_2) 2) - (l0.length : Int))) - 1)) : Int).toNat (rd (rd_L1 l0 x33_2) 0)) x8_2 x23_1 (y215.length : Int) x25_1 l0 (l0.length : Int) (wrap64 (x33_2 + 1))) else (none)) else (none)) else (none)) else (none)))) else (none)))) else (none)) = some (r1, r2) := by rw [if_pos rfl] at H; exact H
                                    clear H
                                    have H := H1
                                    clear H1
                                    by_cases c22 : 1 < ((rd_L1 l0 x33_2).length : Int)
                                    · rw [if_pos c22] at H
                                      have c22b0 : decide (1 < ((rd_L1 l0 x33_2).length : Int)) = true := decide_eq_true c22
                                      have c22b1 : decide (1 < (rd_L1 l0 x33_2).length) = true := decide_eq_true (by omega)
                                      clear c22
                                      by_cases c23 : (rd (rd_L1 l0 x33_2) 1) ≤ (l0.length : Int)
                                      · rw [if_pos c23] at H
                                        have c23b0 : decide ((rd (rd_L1 l0 x33_2) 1) ≤ (l0.length : Int)) = true := decide_eq_true c23
                                        clear c23
                                        have H' := Aside0.mk H
                                        clear H
                                        have p222 : 0 ≤ (x33_2 : Int) := of_decide_eq_true (by first | (with_reducible assumption) | assumption)
                                        have q222 : x33_2 < (l0.length : Int) := of_decide_eq_true (by first | (with_reducible assumption) | assumption)
                                        obtain ⟨ad222, A222_0, c222_0, e222, hx222_0, hl222_0, hi222_0⟩ := at_L1 HR0.out x33_2 p222 q222
                                        cases e222
                                        replace hx222_0 := (HB.out.cell (World.block_lt_of_cell? w _ hx222_0)).trans hx222_0
                                        have HR222_0 := Aside0.mk hi222_0
                                        have HC222_0 := Aside0.mk hl222_0
                                        clear hi222_0 hl222_0
                                        replace p222 := eq_true p222
                                        replace q222 := eq_true q222
                                        have p223 : 0 ≤ (0 : Int) := (by omega)
                                        have q223 : 0 < ((rd_L1 l0 x33_2).length : Int) := of_decide_eq_true (by first | (with_reducible assumption) | assumption)
                                        obtain ⟨ad223, e223, hx223_0⟩ := Kd.at_int HR222_0.out 0 p223 q223
                                        cases e223
                                        have qi223 : (0 < (rd_L1 l0 x33_2).length) = True := eq_true (by omega)
                                        (try rw [show ((0 : Int)).toNat = 0 from rfl] at hx223_0)
                                        (try rw [Addr.add_zero'] at hx223_0)
                                        replace hx223_0 := (HB.out.cell (World.block_lt_of_cell? w _ hx223_0)).trans hx223_0
                                        replace p223 := eq_true p223
                                        replace q223 := eq_true q223
                                        go_wp2_with (first | (go_at_call 56; (with_reducible refine (impl_isNumber.calls (rd (rd_L1 l0 x33_2) 0) true _ A20.out).mono ?_); rintro e w' ⟨rfl, ⟨nd, rfl⟩⟩; have p225 : 0 ≤ (1 : Int) := (by omega); have q225 : 1 < ((rd_L1 l0 x33_2).length : Int) := of_decide_eq_true (by first | (with_reducible assumption) | assumption); obtain ⟨ad225, e225, hx225_0⟩ := Kd.at_int HR222_0.out 1 p225 q225; obtain rfl : ad223 = ad225 := (by injection e225); (try simp only [show (1 : Int).toNat = 1 from rfl, Nat.reduceMul, Nat.reduceEqDiff, Go.Addr.add, ↓reduceIte] at hx225_0); have qi225 : (1 < (rd_L1 l0 x33_2).length) = True := eq_true (by omega); (try rw [show ((1 : Int)).toNat = 1 from rfl] at hx225_0); replace hx225_0 := (HB.out.cell (World.block_lt_of_cell? w _ hx225_0)).trans hx225_0; replace p225 := eq_true p225; replace q225 := eq_true q225))
                                        go_meet
                                        case rel => exact ⟨_, (x7_2), (false), (by first | rfl | (simp; done) | (simp [*]; done)), H', ⟨by have := HK1.out; have := HK2.out; first | omega | exact Nat.le_refl _⟩, ⟨by (try simp only [hl23_1]); (with_reducible repeat (first | apply Kd.R_alloc | apply Kd.R_drewN | apply Kd.R_drew)); exact HO_7.out⟩, ⟨by (try simp only [hl23_1]); (with_reducible repeat (first | apply Kd.R_alloc | apply Kd.R_drewN | apply Kd.R_drew)); exact HO_23.out⟩, ⟨by repeat (first | (with_reducible first | exact HB.out | apply below_alloc | apply pw_below_drewN | apply below_drew1) | exact HB.out)⟩⟩
                                      · rw [if_neg c23] at H
                                        have c23b0 : decide ((rd (rd_L1 l0 x33_2) 1) ≤ (l0.length : Int)) = false := decide_eq_false c23
                                        clear c23
                                        by_cases c24 : (rd (rd_L1 l0 x33_2) 1) > (wrap64 ((l0.length : Int) + (rd x23_1 x25_1)))
                                        · rw [if_pos c24] at H
                                          have c24b0 : decide ((wrap64 ((l0.length : Int) + (rd x23_1 x25_1))) < (rd (rd_L1 l0 x33_2) 1)) = true := decide_eq_true c24
                                          clear c24
                                          have H' := Aside0.mk H
                                          clear H
                                          have p222 : 0 ≤ (x33_2 : Int) := of_decide_eq_true (by first | (with_reducible assumption) | assumption)
                                          have q222 : x33_2 < (l0.length : Int) := of_decide_eq_true (by first | (with_reducible assumption) | assumption)
                                          obtain ⟨ad222, A222_0, c222_0, e222, hx222_0, hl222_0, hi222_0⟩ := at_L1 HR0.out x33_2 p222 q222
                                          cases e222
                                          replace hx222_0 := (HB.out.cell (World.block_lt_of_cell? w _ hx222_0)).trans hx222_0
                                          have HR222_0 := Aside0.mk hi222_0
                                          have HC222_0 := Aside0.mk hl222_0
                                          clear hi222_0 hl222_0
                                          replace p222 := eq_true p222
                                          replace q222 := eq_true q222
                                          have p223 : 0 ≤ (0 : Int) := (by omega)
                                          have q223 : 0 < ((rd_L1 l0 x33_2).length : Int) := of_decide_eq_true (by first | (with_reducible assumption) | assumption)
                                          obtain ⟨ad223, e223, hx223_0⟩ := Kd.at_int HR222_0.out 0 p223 q223
                                          cases e223
                                          have qi223 : (0 < (rd_L1 l0 x33_2).length) = True := eq_true (by omega)
                                          (try rw [show ((0 : Int)).toNat = 0 from rfl] at hx223_0)
                                          (try rw [Addr.add_zero'] at hx223_0)
                                          replace hx223_0 := (HB.out.cell (World.block_lt_of_cell? w _ hx223_0)).trans hx223_0
                                          replace p223 := eq_true p223
                                          replace q223 := eq_true q223
                                          go_wp2_with (first | (go_at_call 56; (with_reducible refine (impl_isNumber.calls (rd (rd_L1 l0 x33_2) 0) true _ A20.out).mono ?_); rintro e w' ⟨rfl, ⟨nd, rfl⟩⟩; have p225 : 0 ≤ (1 : Int) := (by omega); have q225 : 1 < ((rd_L1 l0 x33_2).length : Int) := of_decide_eq_true (by first | (with_reducible assumption) | assumption); obtain ⟨ad225, e225, hx225_0⟩ := Kd.at_int HR222_0.out 1 p225 q225; obtain rfl : ad223 = ad225 := (by injection e225); (try simp only [show (1 : Int).toNat = 1 from rfl, Nat.reduceMul, Nat.reduceEqDiff, Go.Addr.add, ↓reduceIte] at hx225_0); have qi225 : (1 < (rd_L1 l0 x33_2).length) = True := eq_true (by omega); (try rw [show ((1 : Int)).toNat = 1 from rfl] at hx225_0); replace hx225_0 := (HB.out.cell (World.block_lt_of_cell? w _ hx225_0)).trans hx225_0; replace p225 := eq_true p225; replace q225 := eq_true q225; have p226 : 0 ≤ (1 : Int) := (by omega); have q226 : 1 < ((rd_L1 l0 x33_2).length : Int) := of_decide_eq_true (by first | (with_reducible assumption) | assumption); obtain ⟨ad226, e226, hx226_0⟩ := Kd.at_int HR222_0.out 1 p226 q226; obtain rfl : ad223 = ad226 := (by injection e226); (try simp only [show (1 : Int).toNat = 1 from rfl, Nat.reduceMul, Nat.reduceEqDiff, Go.Addr.add, ↓reduceIte] at hx226_0); have qi226 : (1 < (rd_L1 l0 x33_2).length) = True := eq_true (by omega); (try rw [show ((1 : Int)).toNat = 1 from rfl] at hx226_0); replace hx226_0 := (HB.out.cell (World.block_lt_of_cell? w _ hx226_0)).trans hx226_0; replace p226 := eq_true p226; replace q226 := eq_true q226))
                                          go_meet
                                          case rel => exact ⟨_, (x7_2), (false), (by first | rfl | (simp; done) | (simp [*]; done)), H', ⟨by have := HK1.out; have := HK2.out; first | omega | exact Nat.le_refl _⟩, ⟨by (try simp only [hl23_1]); (with_reducible repeat (first | apply Kd.R_alloc | apply Kd.R_drewN | apply Kd.R_drew)); exact HO_7.out⟩, ⟨by (try simp only [hl23_1]); (with_reducible repeat (first | apply Kd.R_alloc | apply Kd.R_drewN | apply Kd.R_drew)); exact HO_23.out⟩, ⟨by repeat (first | (with_reducible first | exact HB.out | apply below_alloc | apply pw_below_drewN | apply below_drew1) | exact HB.out)⟩⟩
                                        · rw [if_neg c24] at H
                                          have c24b0 : decide ((wrap64 ((l0.length : Int) + (rd x23_1 x25_1))) < (rd (rd_L1 l0 x33_2) 1)) = false := decide_eq_false c24
                                          clear c24
                                          by_cases c25 : 2 < ((rd_L1 l0 x33_2).length : Int)
                                          · rw [if_pos c25] at H
                                            have c25b0 : decide (2 < ((rd_L1 l0 x33_2).length : Int)) = true := decide_eq_true c25
                                            have c25b1 : decide (2 < (rd_L1 l0 x33_2).length) = true := decide_eq_true (by omega)
                                            clear c25
                                            by_cases c26 : (rd (rd_L1 l0 x33_2) 2) ≤ (l0.length : Int)
                                            · rw [if_pos c26] at H
                                              have c26b0 : decide ((rd (rd_L1 l0 x33_2) 2) ≤ (l0.length : Int)) = true := decide_eq_true c26
                                              clear c26
                                              have H' := Aside0.mk H
                                              clear H
                                              have p222 : 0 ≤ (x33_2 : Int) := of_decide_eq_true (by first | (with_reducible assumption) | assumption)
                                              have q222 : x33_2 < (l0.length : Int) := of_decide_eq_true (by first | (with_reducible assumption) | assumption)
                                              obtain ⟨ad222, A222_0, c222_0, e222, hx222_0, hl222_0, hi222_0⟩ := at_L1 HR0.out x33_2 p222 q222
                                              cases e222
                                              replace hx222_0 := (HB.out.cell (World.block_lt_of_cell? w _ hx222_0)).trans hx222_0
                                              have HR222_0 := Aside0.mk hi222_0
                                              have HC222_0 := Aside0.mk hl222_0
                                              clear hi222_0 hl222_0
                                              replace p222 := eq_true p222
                                              replace q222 := eq_true q222
                                              have p223 : 0 ≤ (0 : Int) := (by omega)
                                              have q223 : 0 < ((rd_L1 l0 x33_2).length : Int) := of_decide_eq_true (by first | (with_reducible assumption) | assumption)
                                              obtain ⟨ad223, e223, hx223_0⟩ := Kd.at_int HR222_0.out 0 p223 q223
                                              cases e223
                                              have qi223 : (0 < (rd_L1 l0 x33_2).length) = True := eq_true (by omega)
                                              (try rw [show ((0 : Int)).toNat = 0 from rfl] at hx223_0)
                                              (try rw [Addr.add_zero'] at hx223_0)
                                              replace hx223_0 := (HB.out.cell (World.block_lt_of_cell? w _ hx223_0)).trans hx223_0
                                              replace p223 := eq_true p223
                                              replace q223 := eq_true q223
                                              go_wp2_with (first | (go_at_call 56; (with_reducible refine (impl_isNumber.calls (rd (rd_L1 l0 x33_2) 0) true _ A20.out).mono ?_); rintro e w' ⟨rfl, ⟨nd, rfl⟩⟩; have p225 : 0 ≤ (1 : Int) := (by omega); have q225 : 1 < ((rd_L1 l0 x33_2).length : Int) := of_decide_eq_true (by first | (with_reducible assumption) | assumption); obtain ⟨ad225, e225, hx225_0⟩ := Kd.at_int HR222_0.out 1 p225 q225; obtain rfl : ad223 = ad225 := (by injection e225); (try simp only [show (1 : Int).toNat = 1 from rfl, Nat.reduceMul, Nat.reduceEqDiff, Go.Addr.add, ↓reduceIte] at hx225_0); have qi225 : (1 < (rd_L1 l0 x33_2).length) = True := eq_true (by omega); (try rw [show ((1 : Int)).toNat = 1 from rfl] at hx225_0); replace hx225_0 := (HB.out.cell (World.block_lt_of_cell? w _ hx225_0)).trans hx225_0; replace p225 := eq_true p225; replace q225 := eq_true q225; have p226 : 0 ≤ (1 : Int) := (by omega); have q226 : 1 < ((rd_L1 l0 x33_2).length : Int) := of_decide_eq_true (by first | (with_reducible assumption) | assumption); obtain ⟨ad226, e226, hx226_0⟩ := Kd.at_int HR222_0.out 1 p226 q226; obtain rfl : ad223 = ad226 := (by injection e226); (try simp only [show (1 : Int).toNat = 1 from rfl, Nat.reduceMul, Nat.reduceEqDiff, Go.Addr.add, ↓reduceIte] at hx226_0); have qi226 : (1 < (rd_L1 l0 x33_2).length) = True := eq_true (by omega); (try rw [show ((1 : Int)).toNat = 1 from rfl] at hx226_0); replace hx226_0 := (HB.out.cell (World.block_lt_of_cell? w _ hx226_0)).trans hx226_0; replace p226 := eq_true p226; replace q226 := eq_true q226; have p227 : 0 ≤ (2 : Int) := (by omega); have q227 : 2 < ((rd_L1 l0 x33_2).length : Int) := of_decide_eq_true (by first | (with_reducible assumption) | assumption); obtain ⟨ad227, e227, hx227_0⟩ := Kd.at_int HR222_0.out 2 p227 q227; obtain rfl : ad223 = ad227 := (by injection e227); (try simp only [show (2 : Int).toNat = 2 from rfl, Nat.reduceMul, Nat.reduceEqDiff, Go.Addr.add, ↓reduceIte] at hx227_0); have qi227 : (2 < (rd_L1 l0 x33_2).length) = True := eq_true (by omega); (try rw [show ((2 : Int)).toNat = 2 from rfl] at hx227_0); replace hx227_0 := (HB.out.cell (World.block_lt_of_cell? w _ hx227_0)).trans hx227_0; replace p227 := eq_true p227; replace q227 := eq_true q227))
                                              go_meet
                                              case rel => exact ⟨_, (x7_2), (false), (by first | rfl | (simp; done) | (simp [*]; done)), H', ⟨by have := HK1.out; have := HK2.out; first | omega | exact Nat.le_refl _⟩, ⟨by (try simp only [hl23_1]); (with_reducible repeat (first | apply Kd.R_alloc | apply Kd.R_drewN | apply Kd.R_drew)); exact HO_7.out⟩, ⟨by (try simp only [hl23_1]); (with_reducible repeat (first | apply Kd.R_alloc | apply Kd.R_drewN | apply Kd.R_drew)); exact HO_23.out⟩, ⟨by repeat (first | (with_reducible first | exact HB.out | apply below_alloc | apply pw_below_drewN | apply below_drew1) | exact HB.out)⟩⟩
                                            · rw [if_neg c26] at H
                                              have c26b0 : decide ((rd (rd_L1 l0 x33_2) 2) ≤ (l0.length : Int)) = false := decide_eq_false c26
                                              clear c26
                                              by_cases c27 : (rd (rd_L1 l0 x33_2) 2) > (wrap64 ((l0.length : Int) + (rd x23_1 x25_1)))
                                              · rw [if_pos c27] at H
                                                have c27b0 : decide ((wrap64 ((l0.length : Int) + (rd x23_1 x25_1))) < (rd (rd_L1 l0 x33_2) 2)) = true := decide_eq_true c27
                                                clear c27
                                                have H' := Aside0.mk H
                                                clear H
                                                have p222 : 0 ≤ (x33_2 : Int) := of_decide_eq_true (by first | (with_reducible assumption) | assumption)
                                                have q222 : x33_2 < (l0.length : Int) := of_decide_eq_true (by first | (with_reducible assumption) | assumption)
                                                obtain ⟨ad222, A222_0, c222_0, e222, hx222_0, hl222_0, hi222_0⟩ := at_L1 HR0.out x33_2 p222 q222
                                                cases e222
                                                replace hx222_0 := (HB.out.cell (World.block_lt_of_cell? w _ hx222_0)).trans hx222_0
                                                have HR222_0 := Aside0.mk hi222_0
                                                have HC222_0 := Aside0.mk hl222_0
                                                clear hi222_0 hl222_0
                                                replace p222 := eq_true p222
                                                replace q222 := eq_true q222
                                                have p223 : 0 ≤ (0 : Int) := (by omega)
                                                have q223 : 0 < ((rd_L1 l0 x33_2).length : Int) := of_decide_eq_true (by first | (with_reducible assumption) | assumption)
                                                obtain ⟨ad223, e223, hx223_0⟩ := Kd.at_int HR222_0.out 0 p223 q223
                                                cases e223
                                                have qi223 : (0 < (rd_L1 l0 x33_2).length) = True := eq_true (by omega)
                                                (try rw [show ((0 : Int)).toNat = 0 from rfl] at hx223_0)
                                                (try rw [Addr.add_zero'] at hx223_0)
                                                replace hx223_0 := (HB.out.cell (World.block_lt_of_cell? w _ hx223_0)).trans hx223_0
                                                replace p223 := eq_true p223
                                                replace q223 := eq_true q223
                                                go_wp2_with (first | (go_at_call 56; (with_reducible refine (impl_isNumber.calls (rd (rd_L1 l0 x33_2) 0) true _ A20.out).mono ?_); rintro e w' ⟨rfl, ⟨nd, rfl⟩⟩; have p225 : 0 ≤ (1 : Int) := (by omega); have q225 : 1 < ((rd_L1 l0 x33_2).length : Int) := of_decide_eq_true (by first | (with_reducible assumption) | assumption); obtain ⟨ad225, e225, hx225_0⟩ := Kd.at_int HR222_0.out 1 p225 q225; obtain rfl : ad223 = ad225 := (by injection e225); (try simp only [show (1 : Int).toNat = 1 from rfl, Nat.reduceMul, Nat.reduceEqDiff, Go.Addr.add, ↓reduceIte] at hx225_0); have qi225 : (1 < (rd_L1 l0 x33_2).length) = True := eq_true (by omega); (try rw [show ((1 : Int)).toNat = 1 from rfl] at hx225_0); replace hx225_0 := (HB.out.cell (World.block_lt_of_cell? w _ hx225_0)).trans hx225_0; replace p225 := eq_true p225; replace q225 := eq_true q225; have p226 : 0 ≤ (1 : Int) := (by omega); have q226 : 1 < ((rd_L1 l0 x33_2).length : Int) := of_decide_eq_true (by first | (with_reducible assumption) | assumption); obtain ⟨ad226, e226, hx226_0⟩ := Kd.at_int HR222_0.out 1 p226 q226; obtain rfl : ad223 = ad226 := (by injection e226); (try simp only [show (1 : Int).toNat = 1 from rfl, Nat.reduceMul, Nat.reduceEqDiff, Go.Addr.add, ↓reduceIte] at hx226_0); have qi226 : (1 < (rd_L1 l0 x33_2).length) = True := eq_true (by omega); (try rw [show ((1 : Int)).toNat = 1 from rfl] at hx226_0); replace hx226_0 := (HB.out.cell (World.block_lt_of_cell? w _ hx226_0)).trans hx226_0; replace p226 := eq_true p226; replace q226 := eq_true q226; have p227 : 0 ≤ (2 : Int) := (by omega); have q227 : 2 < ((rd_L1 l0 x33_2).length : Int) := of_decide_eq_true (by first | (with_reducible assumption) | assumption); obtain ⟨ad227, e227, hx227_0⟩ := Kd.at_int HR222_0.out 2 p227 q227; obtain rfl : ad223 = ad227 := (by injection e227); (try simp only [show (2 : Int).toNat = 2 from rfl, Nat.reduceMul, Nat.reduceEqDiff, Go.Addr.add, ↓reduceIte] at hx227_0); have qi227 : (2 < (rd_L1 l0 x33_2).length) = True := eq_true (by omega); (try rw [show ((2 : Int)).toNat = 2 from rfl] at hx227_0); replace hx227_0 := (HB.out.cell (World.block_lt_of_cell? w _ hx227_0)).trans hx227_0; replace p227 := eq_true p227; replace q227 := eq_true q227; have p228 : 0 ≤ (2 : Int) := (by omega); have q228 : 2 < ((rd_L1 l0 x33_2).length : Int) := of_decide_eq_true (by first | (with_reducible assumption) | assumption); obtain ⟨ad228, e228, hx228_0⟩ := Kd.at_int HR222_0.out 2 p228 q228; obtain rfl : ad223 = ad228 := (by injection e228); (try simp only [show (2 : Int).toNat = 2 from rfl, Nat.reduceMul, Nat.reduceEqDiff, Go.Addr.add, ↓reduceIte] at hx228_0); have qi228 : (2 < (rd_L1 l0 x33_2).length) = True := eq_true (by omega); (try rw [show ((2 : Int)).toNat = 2 from rfl] at hx228_0); replace hx228_0 := (HB.out.cell (World.block_lt_of_cell? w _ hx228_0)).trans hx228_0; replace p228 := eq_true p228; replace q228 := eq_true q228))
                                                go_meet
                                                case rel => exact ⟨_, (x7_2), (false), (by first | rfl | (simp; done) | (simp [*]; done)), H', ⟨by have := HK1.out; have := HK2.out; first | omega | exact Nat.le_refl _⟩, ⟨by (try simp only [hl23_1]); (with_reducible repeat (first | apply Kd.R_alloc | apply Kd.R_drewN | apply Kd.R_drew)); exact HO_7.out⟩, ⟨by (try simp only [hl23_1]); (with_reducible repeat (first | apply Kd.R_alloc | apply Kd.R_drewN | apply Kd.R_drew)); exact HO_23.out⟩, ⟨by repeat (first | (with_reducible first | exact HB.out | apply below_alloc | apply pw_below_drewN | apply below_drew1) | exact HB.out)⟩⟩
                                              · rw [if_neg c27] at H
                                                have c27b0 : decide ((wrap64 ((l0.length : Int) + (rd x23_1 x25_1))) < (rd (rd_L1 l0 x33_2) 2)) = false := decide_eq_false c27
                                                clear c27
                                                obtain ⟨ji28, hji28⟩ : ∃ j_ : Int, (wrap64 ((wrap64 ((rd (rd_L1 l0 x33_2) 1) - (l0.length : Int))) - 1)) = j_ := ⟨_, rfl⟩
                                                replace H : (if 0 ≤ (ji28) then (if (ji28) < (x7_2.length : Int) then (if 0 ≤ (wrap64 ((wrap64 ((rd (rd_L1 l0 x33_2) 2) - (l0.length : Int))) - 1)) then (if (wrap64 ((wrap64 ((rd (rd_L1 l0 x33_2) 2) - (l0.length : Int))) - 1)) < (x7_2.length : Int) then (impl_RowOfTriples.l1 k2 l0 (l0.length : Int) (rd x23_1 x25_1) ((x7_2.set ((ji28) : Int).toNat (rd (rd_L1 l0 x33_2) 0)).set ((wrap64 ((wrap64 ((rd (rd_L1 l0 x33_2) 2) - (l0.length : Int))) - 1)) : Int).toNat (rd (rd_L1 l0 x33_2) 0)) x8_2 x23_1 (y215.length : Int) x25_1 l0 (l0.length : Int) (wrap64 (x33_2 + 1))) else (none)) else (none)) else (none)) else (none)) = some (r1, r2) := by first | (rw [hji28] at H; exact H) | (simp only [hji28] at H ⊢; exact H)
                                                (try rw [hji28] at A20)
                                                have hji28w : (IntKind.i64.wrap ((wrap64 ((rd (rd_L1 l0 x33_2) 1) - (l0.length : Int))) - 1)) = ji28 := (i64_w _).trans hji28
                                                by_cases c29 : 0 ≤ (ji28)
                                                · rw [if_pos c29] at H
                                                  have c29b0 : decide (0 ≤ (ji28)) = true := decide_eq_true c29
                                                  clear c29
                                                  by_cases c30 : (ji28) < (x7_2.length : Int)
                                                  · rw [if_pos c30] at H
                                                    have c30b0 : decide ((ji28) < (x7_2.length : Int)) = true := decide_eq_true c30
                                                    clear c30
                                                    obtain ⟨y231, hy231⟩ : ∃ y_ : List Int, y_ = (x7_2.set ((ji28) : Int).toNat (rd (rd_L1 l0 x33_2) 0)) := ⟨_, rfl⟩
                                                    replace H : (if 0 ≤ (wrap64 ((wrap64 ((rd (rd_L1 l0 x33_2) 2) - (l0.length : Int))) - 1)) then (if (wrap64 ((wrap64 ((rd (rd_L1 l0 x33_2) 2) - (l0.length : Int))) - 1)) < (x7_2.length : Int) then (impl_RowOfTriples.l1 k2 l0 (l0.length : Int) (rd x23_1 x25_1) (y231.set ((wrap64 ((wrap64 ((rd (rd_L1 l0 x33_2) 2) - (l0.length : Int))) - 1)) : Int).toNat (rd (rd_L1 l0 x33_2) 0)) x8_2 x23_1 (y215.length : Int) x25_1 l0 (l0.length : Int) (wrap64 (x33_2 + 1))) else (none)) else (none)) = some (r1, r2) := by first | (rw [hy231]; with_reducible exact H) | (have H2_ := (Option.bind_some _ _).symm.trans H; rw [hy231]; with_reducible exact H2_) | (have H2_ := (Option.bind_some _ _).symm.trans H; with_reducible exact H2_) | with_reducible exact H | (rw [hy231]; exact H) | exact H
                                                    have Ny231 := Aside0.mk hy231
                                                    clear hy231
                                                    obtain ⟨ji32, hji32⟩ : ∃ j_ : Int, (wrap64 ((wrap64 ((rd (rd_L1 l0 x33_2) 2) - (l0.length : Int))) - 1)) = j_ := ⟨_, rfl⟩
                                                    replace H : (if 0 ≤ (ji32) then (if (ji32) < (x7_2.length : Int) then (impl_RowOfTriples.l1 k2 l0 (l0.length : Int) (rd x23_1 x25_1) (y231.set ((ji32) : Int).toNat (rd (rd_L1 l0 x33_2) 0)) x8_2 x23_1 (y215.length : Int) x25_1 l0 (l0.length : Int) (wrap64 (x33_2 + 1))) else (none)) else (none)) = some (r1, r2) := by first | (rw [hji32] at H; exact H) | (simp only [hji32] at H ⊢; exact H)
                                                    (try rw [hji32] at A20)
                                                    have hji32w : (IntKind.i64.wrap ((wrap64 ((rd (rd_L1 l0 x33_2) 2) - (l0.length : Int))) - 1)) = ji32 := (i64_w _).trans hji32
                                                    by_cases c33 : 0 ≤ (ji32)
                                                    · rw [if_pos c33] at H
                                                      have c33b0 : decide (0 ≤ (ji32)) = true := decide_eq_true c33
                                                      clear c33
                                                      by_cases c34 : (ji32) < (x7_2.length : Int)
                                                      · rw [if_pos c34] at H
                                                        have c34b0 : decide ((ji32) < (x7_2.length : Int)) = true := decide_eq_true c34
                                                        clear c34
                                                        obtain ⟨y234, hy234⟩ : ∃ y_ : List Int, y_ = (y231.set ((ji32) : Int).toNat (rd (rd_L1 l0 x33_2) 0)) := ⟨_, rfl⟩
                                                        replace H : (impl_RowOfTriples.l1 k2 l0 (l0.length : Int) (rd x23_1 x25_1) y234 x8_2 x23_1 (y215.length : Int) x25_1 l0 (l0.length : Int) (wrap64 (x33_2 + 1))) = some (r1, r2) := by first | (rw [hy234]; with_reducible exact H) | (have H2_ := (Option.bind_some _ _).symm.trans H; rw [hy234]; with_reducible exact H2_) | (have H2_ := (Option.bind_some _ _).symm.trans H; with_reducible exact H2_) | with_reducible exact H | (rw [hy234]; exact H) | exact H
                                                        have Ny234 := Aside0.mk hy234
                                                        clear hy234
                                                        have H' := Aside0.mk H
                                                        clear H
                                                        have p222 : 0 ≤ (x33_2 : Int) := of_decide_eq_true (by first | (with_reducible assumption) | assumption)
                                                        have q222 : x33_2 < (l0.length : Int) := of_decide_eq_true (by first | (with_reducible assumption) | assumption)
                                                        obtain ⟨ad222, A222_0, c222_0, e222, hx222_0, hl222_0, hi222_0⟩ := at_L1 HR0.out x33_2 p222 q222
                                                        cases e222
                                                        replace hx222_0 := (HB.out.cell (World.block_lt_of_cell? w _ hx222_0)).trans hx222_0
                                                        have HR222_0 := Aside0.mk hi222_0
                                                        have HC222_0 := Aside0.mk hl222_0
                                                        clear hi222_0 hl222_0
                                                        replace p222 := eq_true p222
                                                        replace q222 := eq_true q222
                                                        have p223 : 0 ≤ (0 : Int) := (by omega)
                                                        have q223 : 0 < ((rd_L1 l0 x33_2).length : Int) := of_decide_eq_true (by first | (with_reducible assumption) | assumption)
                                                        obtain ⟨ad223, e223, hx223_0⟩ := Kd.at_int HR222_0.out 0 p223 q223
                                                        cases e223
                                                        have qi223 : (0 < (rd_L1 l0 x33_2).length) = True := eq_true (by omega)
                                                        (try rw [show ((0 : Int)).toNat = 0 from rfl] at hx223_0)
                                                        (try rw [Addr.add_zero'] at hx223_0)
                                                        replace hx223_0 := (HB.out.cell (World.block_lt_of_cell? w _ hx223_0)).trans hx223_0
                                                        replace p223 := eq_true p223
                                                        replace q223 := eq_true q223
                                                        try go_wp2_with (first | (go_at_call 56; (with_reducible refine (impl_isNumber.calls (rd (rd_L1 l0 x33_2) 0) true _ A20.out).mono ?_); rintro e w' ⟨rfl, ⟨nd, rfl⟩⟩; (try (rw [drewN_self wr]; generalize hq_ : World.drewN wr _ = wr; have n0_ : Aside0 (Kd.R (Kd.int .i64) 3 wr w.heap.size (fun k_ => some k_ ≠ (v220 : Value).ownBlock) (.slice (some ad218) x23_1.length co6) x23_1) := ⟨by rw [← hq_]; exact (by (with_reducible repeat (first | apply Kd.R_alloc | apply Kd.R_drewN | apply Kd.R_drew)); exact HO_23.out)⟩; have n1_ : Aside0 (Kd.R (Kd.int .i64) 3 wr w.heap.size (fun k_ => some k_ ≠ (.slice (some ad218) x23_1.length co6 : Value).ownBlock) v220 x7_2) := ⟨by rw [← hq_]; exact (by (with_reducible repeat (first | apply Kd.R_alloc | apply Kd.R_drewN | apply Kd.R_drew)); exact HO_7.out)⟩; have n2_ : Aside0 (Below w.heap.size w wr) := ⟨by rw [← hq_]; exact (by repeat (first | (with_reducible first | exact HB.out | apply below_alloc | apply pw_below_drewN | apply below_drew1) | exact HB.out))⟩; clear HO_23 HO_7 HB hq_; have HO_23 := n0_; have HO_7 := n1_; have HB := n2_; clear n0_ n1_ n2_)); have p225 : 0 ≤ (1 : Int) := (by omega); have q225 : 1 < ((rd_L1 l0 x33_2).length : Int) := of_decide_eq_true (by first | (with_reducible assumption) | assumption); obtain ⟨ad225, e225, hx225_0⟩ := Kd.at_int HR222_0.out 1 p225 q225; obtain rfl : ad223 = ad225 := (by injection e225); (try simp only [show (1 : Int).toNat = 1 from rfl, Nat.reduceMul, Nat.reduceEqDiff, Go.Addr.add, ↓reduceIte] at hx225_0); have qi225 : (1 < (rd_L1 l0 x33_2).length) = True := eq_true (by omega); (try rw [show ((1 : Int)).toNat = 1 from rfl] at hx225_0); replace hx225_0 := (HB.out.cell (World.block_lt_of_cell? w _ hx225_0)).trans hx225_0; replace p225 := eq_true p225; replace q225 := eq_true q225; have p226 : 0 ≤ (1 : Int) := (by omega); have q226 : 1 < ((rd_L1 l0 x33_2).length : Int) := of_decide_eq_true (by first | (with_reducible assumption) | assumption); obtain ⟨ad226, e226, hx226_0⟩ := Kd.at_int HR222_0.out 1 p226 q226; obtain rfl : ad223 = ad226 := (by injection e226); (try simp only [show (1 : Int).toNat = 1 from rfl, Nat.reduceMul, Nat.reduceEqDiff, Go.Addr.add, ↓reduceIte] at hx226_0); have qi226 : (1 < (rd_L1 l0 x33_2).length) = True := eq_true (by omega); (try rw [show ((1 : Int)).toNat = 1 from rfl] at hx226_0); replace hx226_0 := (HB.out.cell (World.block_lt_of_cell? w _ hx226_0)).trans hx226_0; replace p226 := eq_true p226; replace q226 := eq_true q226; have p227 : 0 ≤ (2 : Int) := (by omega); have q227 : 2 < ((rd_L1 l0 x33_2).length : Int) := of_decide_eq_true (by first | (with_reducible assumption) | assumption); obtain ⟨ad227, e227, hx227_0⟩ := Kd.at_int HR222_0.out 2 p227 q227; obtain rfl : ad223 = ad227 := (by injection e227); (try simp only [show (2 : Int).toNat = 2 from rfl, Nat.reduceMul, Nat.reduceEqDiff, Go.Addr.add, ↓reduceIte] at hx227_0); have qi227 : (2 < (rd_L1 l0 x33_2).length) = True := eq_true (by omega); (try rw [show ((2 : Int)).toNat = 2 from rfl] at hx227_0); replace hx227_0 := (HB.out.cell (World.block_lt_of_cell? w _ hx227_0)).trans hx227_0; replace p227 := eq_true p227; replace q227 := eq_true q227; have p228 : 0 ≤ (2 : Int) := (by omega); have q228 : 2 < ((rd_L1 l0 x33_2).length : Int) := of_decide_eq_true (by first | (with_reducible assumption) | assumption); obtain ⟨ad228, e228, hx228_0⟩ := Kd.at_int HR222_0.out 2 p228 q228; obtain rfl : ad223 = ad228 := (by injection e228); (try simp only [show (2 : Int).toNat = 2 from rfl, Nat.reduceMul, Nat.reduceEqDiff, Go.Addr.add, ↓reduceIte] at hx228_0); have qi228 : (2 < (rd_L1 l0 x33_2).length) = True := eq_true (by omega); (try rw [show ((2 : Int)).toNat = 2 from rfl] at hx228_0); replace hx228_0 := (HB.out.cell (World.block_lt_of_cell? w _ hx228_0)).trans hx228_0; replace p228 := eq_true p228; replace q228 := eq_true q228))
                                                        have n0_ := Aside0.mk (Kd.R_drew HO_7.out)
                                                        have n1_ := Aside0.mk (Kd.R_drew HO_23.out)
                                                        have n2_ := Aside0.mk (below_drew1 HB.out)
                                                        clear HO_7
                                                        clear HO_23
                                                        clear HB
                                                        have HO_7 := n0_
                                                        have HO_23 := n1_
                                                        have HB := n2_
                                                        clear n0_ n1_ n2_
                                                        have p229 : 0 ≤ (1 : Int) := (by omega)
                                                        have q229 : 1 < ((rd_L1 l0 x33_2).length : Int) := of_decide_eq_true (by first | (with_reducible assumption) | assumption)
                                                        obtain ⟨ad229, e229, hx229_0⟩ := Kd.at_int HR222_0.out 1 p229 q229
                                                        have hw229_0 := hx229_0
                                                        (try rw [show ((1 : Int)).toNat = 1 from rfl] at hw229_0)
                                                        (try rw [show 1 * 1 = 1 from rfl] at hw229_0)
                                                        (try simp only [Nat.reduceMul, Nat.reduceEqDiff, Go.Addr.add, ↓reduceIte] at hw229_0)
                                                        obtain rfl : ad223 = ad229 := (by injection e229)
                                                        (try simp only [show (1 : Int).toNat = 1 from rfl, Nat.reduceMul, Nat.reduceEqDiff, Go.Addr.add, ↓reduceIte] at hx229_0)
                                                        have qi229 : (1 < (rd_L1 l0 x33_2).length) = True := eq_true (by omega)
                                                        (try rw [show ((1 : Int)).toNat = 1 from rfl] at hx229_0)
                                                        replace hx229_0 := (HB.out.cell (World.block_lt_of_cell? w _ hx229_0)).trans hx229_0
                                                        replace p229 := eq_true p229
                                                        replace q229 := eq_true q229
                                                        have p230 : 0 ≤ (0 : Int) := (by omega)
                                                        have q230 : 0 < ((rd_L1 l0 x33_2).length : Int) := of_decide_eq_true (by first | (with_reducible assumption) | assumption)
                                                        obtain ⟨ad230, e230, hx230_0⟩ := Kd.at_int HR222_0.out 0 p230 q230
                                                        have hw230_0 := hx230_0
                                                        (try rw [show ((0 : Int)).toNat = 0 from rfl] at hw230_0)
                                                        (try rw [show 0 * 1 = 0 from rfl] at hw230_0)
                                                        (try rw [Addr.add_zero'] at hw230_0)
                                                        obtain rfl : ad223 = ad230 := (by injection e230)
                                                        have qi230 : (0 < (rd_L1 l0 x33_2).length) = True := eq_true (by omega)
                                                        (try rw [show ((0 : Int)).toNat = 0 from rfl] at hx230_0)
                                                        (try rw [Addr.add_zero'] at hx230_0)
                                                        replace hx230_0 := (HB.out.cell (World.block_lt_of_cell? w _ hx230_0)).trans hx230_0
                                                        replace p230 := eq_true p230
                                                        replace q230 := eq_true q230
                                                        have p31 : 0 ≤ ((ji28) : Int) := of_decide_eq_true (by first | (with_reducible assumption) | assumption)
                                                        have q31 : ((ji28) : Int) < ((x7_2.length : Int) : Int) := of_decide_eq_true (by first | (with_reducible assumption) | assumption)
                                                        obtain ⟨go31, co31, eo31, gb31, gl31, cl31, HG31⟩ := Kd.R_form HO_7.out (by omega)
                                                        (first | cases eo31 | (injection eo31 with ea_ en_ ec_; (first | subst ea_ | (injection ea_ with ea_; subst ea_)); subst ec_; clear en_))
                                                        have GB31 := Aside0.mk gb31
                                                        have GG31 := Aside0.mk HG31
                                                        clear gb31 gl31 HG31
                                                        obtain ⟨hx31_0, hf31_0⟩ := Kd.R_celln 0 HO_7.out ((ji28) : Int) p31 q31
                                                        replace p31 := eq_true p31
                                                        replace q31 := eq_true q31
                                                        have HP37 := Kd.R_putn HO_7.out ((ji28) : Int) (rd (rd_L1 l0 x33_2) 0)
                                                        rw [← Ny231.out] at HP37
                                                        have HQ37 := Aside0.mk HP37
                                                        clear HP37
                                                        refine start_ (n := 12) (S := fun w' => w'.cell? ⟨ad223.block, ad223.off + 1, none⟩ = some (.int .i64 (rd (rd_L1 l0 x33_2) 1)) ∧ w'.cell? ad223 = some (.int .i64 (rd (rd_L1 l0 x33_2) 0))) (ds := [11]) #[false, false, false, false, false, false, false, false, false, false, false, false] (by kernel_rfl) rfl rfl ⟨((HB.out.cell (World.block_lt_of_cell? w _ hw229_0)).trans hw229_0), ((HB.out.cell (World.block_lt_of_cell? w _ hw230_0)).trans hw230_0)⟩ (fun hHeld => ?_); refine with_tabW impl_RowOfTriples.tab14 impl_RowOfTriples.bits14 (fun HT_ HW_ => ?_)
                                                        generalize wr.drew = w36 at HO_7 HO_23 HB GG31 HQ37 hf31_0 hx229_0 hx230_0 hx31_0 hHeld ⊢
                                                        refine pure_ (i := 0) (N := some 79) (v := ?_) (a' := ?_) #[true, false, false, false, false, false, false, false, false, false, false, false] rfl rfl (any_of HT_.out (by kernel_rfl)) (fun _ _ _ h => h) (Or.inl ⟨by rfl, ?_⟩) ?_ ?_
                                                        rotate_left
                                                        · intro w'
                                                          go_simp
                                                          with_reducible rfl
                                                        rotate_left
                                                        · simp only [Act.put, List.setIfInBounds_toArray, List.set_cons_zero, List.set_cons_succ, i64_w, i32_w]
                                                          rfl
                                                        refine pure_ (i := 1) (N := some 80) (v := ?_) (a' := ?_) #[true, true, false, false, false, false, false, false, false, false, false, false] rfl rfl (any_of HT_.out (by kernel_rfl)) (fun _ _ _ h => h) (Or.inl ⟨by rfl, ?_⟩) ?_ ?_
                                                        rotate_left
                                                        · intro w'
                                                          go_simp
                                                          with_reducible rfl
                                                        rotate_left
                                                        · simp only [Act.put, List.setIfInBounds_toArray, List.set_cons_zero, List.set_cons_succ, i64_w, i32_w]
                                                          rfl
                                                        refine pure_ (i := 2) (N := some 81) (v := ?_) (a' := ?_) #[true, true, true, false, false, false, false, false, false, false, false, false] rfl rfl (any_of HT_.out (by kernel_rfl)) (fun _ _ _ h => h) (Or.inl ⟨by rfl, ?_⟩) ?_ ?_
                                                        rotate_left
                                                        · intro w'
                                                          go_simp
                                                          with_reducible rfl
                                                        rotate_left
                                                        · simp only [Act.put, List.setIfInBounds_toArray, List.set_cons_zero, List.set_cons_succ, i64_w, i32_w]
                                                          rfl
                                                        refine pure_ (i := 4) (N := some 83) (v := ?_) (a' := ?_) #[true, true, true, false, true, false, false, false, false, false, false, false] rfl rfl (any_of HT_.out (by kernel_rfl)) (fun _ _ _ h => h) (Or.inl ⟨by rfl, ?_⟩) ?_ ?_
                                                        rotate_left
                                                        · intro w'
                                                          go_simp
                                                          with_reducible rfl
                                                        rotate_left
                                                        · simp only [Act.put, List.setIfInBounds_toArray, List.set_cons_zero, List.set_cons_succ, i64_w, i32_w]
                                                          rfl
                                                        refine pure_ (i := 7) (N := some 86) (v := ?_) (a' := ?_) #[true, true, true, false, true, false, false, true, false, false, false, false] rfl rfl (any_of HT_.out (by kernel_rfl)) (fun _ _ _ h => h) (Or.inl ⟨by rfl, ?_⟩) ?_ ?_
                                                        rotate_left
                                                        · intro w'
                                                          go_simp
                                                          with_reducible rfl
                                                        rotate_left
                                                        · simp only [Act.put, List.setIfInBounds_toArray, List.set_cons_zero, List.set_cons_succ, i64_w, i32_w]
                                                          rfl
                                                        refine pure_ (i := 8) (N := some 87) (v := ?_) (a' := ?_) #[true, true, true, false, true, false, false, true, true, false, false, false] rfl rfl (any_of HT_.out (by kernel_rfl)) (fun _ _ _ h => h) (Or.inl ⟨by rfl, ?_⟩) ?_ ?_
                                                        rotate_left
                                                        · intro w'
                                                          go_simp
                                                          with_reducible rfl
                                                        rotate_left
                                                        · simp only [Act.put, List.setIfInBounds_toArray, List.set_cons_zero, List.set_cons_succ, i64_w, i32_w]
                                                          rfl
                                                        refine take_ (i := 3) (N := some 82) (v := ?_) (a' := ?_) #[true, true, true, true, true, false, false, true, true, false, false, false] rfl rfl (take_ofW HT_.out HW_.out (by kernel_rfl)) (fun _ _ _ h => h) (Or.inl ⟨by rfl, ?_⟩) hHeld ?_ ?_
                                                        rotate_left
                                                        · rintro w' ⟨s0, s1⟩
                                                          go_simp
                                                          with_reducible rfl
                                                        rotate_left
                                                        · simp only [Act.put, List.setIfInBounds_toArray, List.set_cons_zero, List.set_cons_succ, i64_w, i32_w]
                                                          rfl
                                                        refine pure_ (i := 5) (N := some 84) (v := ?_) (a' := ?_) #[true, true, true, true, true, true, false, true, true, false, false, false] rfl rfl (any_of HT_.out (by kernel_rfl)) (fun _ _ _ h => h) (Or.inl ⟨by rfl, ?_⟩) ?_ ?_
                                                        rotate_left
                                                        · intro w'
                                                          go_simp
                                                          with_reducible rfl
                                                        rotate_left
                                                        · simp only [Act.put, List.setIfInBounds_toArray, List.set_cons_zero, List.set_cons_succ, i64_w, i32_w]
                                                          rfl
                                                        refine pure_ (i := 6) (N := some 85) (v := ?_) (a' := ?_) #[true, true, true, true, true, true, true, true, true, false, false, false] rfl rfl (any_of HT_.out (by kernel_rfl)) (fun _ _ _ h => h) (Or.inl ⟨by rfl, ?_⟩) ?_ ?_
                                                        rotate_left
                                                        · intro w'
                                                          go_simp
                                                          with_reducible rfl
                                                        rotate_left
                                                        · simp only [Act.put, List.setIfInBounds_toArray, List.set_cons_zero, List.set_cons_succ, i64_w, i32_w]
                                                          rfl
                                                        refine take_ (i := 9) (N := some 88) (v := ?_) (a' := ?_) #[true, true, true, true, true, true, true, true, true, true, false, false] rfl rfl (take_ofW HT_.out HW_.out (by kernel_rfl)) (fun _ _ _ h => h) (Or.inl ⟨by rfl, ?_⟩) hHeld ?_ ?_
                                                        rotate_left
                                                        · rintro w' ⟨s0, s1⟩
                                                          go_simp
                                                          with_reducible rfl
                                                        rotate_left
                                                        · simp only [Act.put, List.setIfInBounds_toArray, List.set_cons_zero, List.set_cons_succ, i64_w, i32_w]
                                                          rfl
                                                        refine pure_ (i := 10) (N := some 89) (v := ?_) (a' := ?_) #[true, true, true, true, true, true, true, true, true, true, true, false] rfl rfl (any_of HT_.out (by kernel_rfl)) (fun _ _ _ h => h) (Or.inl ⟨by rfl, ?_⟩) ?_ ?_
                                                        rotate_left
                                                        · intro w'
                                                          go_simp
                                                          with_reducible rfl
                                                        rotate_left
                                                        · simp only [Act.put, List.setIfInBounds_toArray, List.set_cons_zero, List.set_cons_succ, i64_w, i32_w]
                                                          rfl
                                                        refine last_ (i := 11) (N := none) #[true, true, true, true, true, true, true, true, true, true, true, true] rfl rfl (one_of HT_.out (by kernel_rfl)) (by decide) (fun K hK => ?_)
                                                        refine skip_ (w1 := ?_) (by rfl) rfl ?_ ?_
                                                        rotate_left
                                                        · go_simp
                                                          rfl
                                                        refine hK.out _ _ ?_
                                                        clear hK K
                                                        refine done_ (done_of HT_.out (by kernel_rfl)) ?_
                                                        try go_wp2
                                                        have n0_ : Aside0 (Kd.R (Kd.int .i64) 3 (w36.setCell ⟨go31, ((ji28) : Int).toNat, none⟩ (.int .i64 (rd (rd_L1 l0 x33_2) 0))) w.heap.size (fun k_ => some k_ ≠ (.slice (some ad218) x23_1.length co6 : Value).ownBlock) (.slice (some ⟨go31, 0, none⟩) x7_2.length co31) y231) := ⟨by (with_reducible repeat (first | apply Kd.R_alloc | apply Kd.R_drewN | apply Kd.R_drew)); exact HQ37.out⟩
                                                        have n1_ : Aside0 (Kd.R (Kd.int .i64) 3 (w36.setCell ⟨go31, ((ji28) : Int).toNat, none⟩ (.int .i64 (rd (rd_L1 l0 x33_2) 0))) w.heap.size (fun k_ => some k_ ≠ (.slice (some ⟨go31, 0, none⟩) x7_2.length co31 : Value).ownBlock) (.slice (some ad218) x23_1.length co6) x23_1) := ⟨by (with_reducible repeat (first | apply Kd.R_alloc | apply Kd.R_drewN | apply Kd.R_drew)); exact Kd.R_mono (Kd.R_far (p := ⟨go31, ((ji28) : Int).toNat, none⟩) (Kd.R_mono HO_23.out (fun k_ hk => (⟨hk, fun e_ => hk (by rw [e_]; rfl)⟩ : _ ∧ k_ ≠ go31))) (fun _ hk => hk.2) (.int .i64 (rd (rd_L1 l0 x33_2) 0))) (fun _ hk => hk.1)⟩
                                                        have n2_ : Aside0 (Below w.heap.size w (w36.setCell ⟨go31, ((ji28) : Int).toNat, none⟩ (.int .i64 (rd (rd_L1 l0 x33_2) 0)))) := ⟨by repeat (first | (with_reducible first | exact HB.out | apply below_alloc | apply pw_below_drewN | apply below_drew1 | refine below_set ?_ GB31.out) | exact HB.out)⟩
                                                        (try clear HO_7)
                                                        (try clear HO_23)
                                                        (try clear HB)
                                                        generalize (w36.setCell ⟨go31, ((ji28) : Int).toNat, none⟩ (.int .i64 (rd (rd_L1 l0 x33_2) 0))) = w38 at n0_ n1_ n2_ ⊢
                                                        have HO_7 := n0_
                                                        have HO_23 := n1_
                                                        have HB := n2_
                                                        clear n0_ n1_ n2_
                                                        have n0_ := Aside0.mk (Kd.R_drew HO_7.out)
                                                        have n1_ := Aside0.mk (Kd.R_drew HO_23.out)
                                                        have n2_ := Aside0.mk (below_drew1 HB.out)
                                                        clear HO_7
                                                        clear HO_23
                                                        clear HB
                                                        have HO_7 := n0_
                                                        have HO_23 := n1_
                                                        have HB := n2_
                                                        clear n0_ n1_ n2_
                                                        have p232 : 0 ≤ (2 : Int) := (by omega)
                                                        have q232 : 2 < ((rd_L1 l0 x33_2).length : Int) := of_decide_eq_true (by first | (with_reducible assumption) | assumption)
                                                        obtain ⟨ad232, e232, hx232_0⟩ := Kd.at_int HR222_0.out 2 p232 q232
                                                        have hw232_0 := hx232_0
                                                        (try rw [show ((2 : Int)).toNat = 2 from rfl] at hw232_0)
                                                        (try rw [show 2 * 1 = 2 from rfl] at hw232_0)
                                                        (try simp only [Nat.reduceMul, Nat.reduceEqDiff, Go.Addr.add, ↓reduceIte] at hw232_0)
                                                        obtain rfl : ad223 = ad232 := (by injection e232)
                                                        (try simp only [show (2 : Int).toNat = 2 from rfl, Nat.reduceMul, Nat.reduceEqDiff, Go.Addr.add, ↓reduceIte] at hx232_0)
                                                        have qi232 : (2 < (rd_L1 l0 x33_2).length) = True := eq_true (by omega)
                                                        (try rw [show ((2 : Int)).toNat = 2 from rfl] at hx232_0)
                                                        replace hx232_0 := (HB.out.cell (World.block_lt_of_cell? w _ hx232_0)).trans hx232_0
                                                        replace p232 := eq_true p232
                                                        replace q232 := eq_true q232
                                                        have p233 : 0 ≤ (0 : Int) := (by omega)
                                                        have q233 : 0 < ((rd_L1 l0 x33_2).length : Int) := of_decide_eq_true (by first | (with_reducible assumption) | assumption)
                                                        obtain ⟨ad233, e233, hx233_0⟩ := Kd.at_int HR222_0.out 0 p233 q233
                                                        have hw233_0 := hx233_0
                                                        (try rw [show ((0 : Int)).toNat = 0 from rfl] at hw233_0)
                                                        (try rw [show 0 * 1 = 0 from rfl] at hw233_0)
                                                        (try rw [Addr.add_zero'] at hw233_0)
                                                        obtain rfl : ad223 = ad233 := (by injection e233)
                                                        have qi233 : (0 < (rd_L1 l0 x33_2).length) = True := eq_true (by omega)
                                                        (try rw [show ((0 : Int)).toNat = 0 from rfl] at hx233_0)
                                                        (try rw [Addr.add_zero'] at hx233_0)
                                                        replace hx233_0 := (HB.out.cell (World.block_lt_of_cell? w _ hx233_0)).trans hx233_0
                                                        replace p233 := eq_true p233
                                                        replace q233 := eq_true q233
                                                        have p35 : 0 ≤ ((ji32) : Int) := of_decide_eq_true (by first | (with_reducible assumption) | assumption)
                                                        have q35 : ((ji32) : Int) < ((x7_2.length : Int) : Int) := of_decide_eq_true (by first | (with_reducible assumption) | assumption)
                                                        obtain ⟨hx35_0, hf35_0⟩ := Kd.R_celln 0 HO_7.out ((ji32) : Int) p35 q35
                                                        replace p35 := eq_true p35
                                                        replace q35 := eq_true q35
                                                        have HP40 := Kd.R_putn HO_7.out ((ji32) : Int) (rd (rd_L1 l0 x33_2) 0)
                                                        rw [← Ny234.out] at HP40
                                                        have HQ40 := Aside0.mk HP40
                                                        clear HP40
                                                        refine start_ (n := 12) (S := fun w' => w'.cell? ⟨ad223.block, ad223.off + 2, none⟩ = some (.int .i64 (rd (rd_L1 l0 x33_2) 2)) ∧ w'.cell? ad223 = some (.int .i64 (rd (rd_L1 l0 x33_2) 0))) (ds := [11]) #[false, false, false, false, false, false, false, false, false, false, false, false] (by kernel_rfl) rfl rfl ⟨((HB.out.cell (World.block_lt_of_cell? w _ hw232_0)).trans hw232_0), ((HB.out.cell (World.block_lt_of_cell? w _ hw233_0)).trans hw233_0)⟩ (fun hHeld => ?_); refine with_tabW impl_RowOfTriples.tab15 impl_RowOfTriples.bits15 (fun HT_ HW_ => ?_)
                                                        generalize w38.drew = w39 at HO_7 HO_23 HB HQ37 HQ40 hf35_0 hx232_0 hx233_0 hx35_0 hHeld ⊢
                                                        refine pure_ (i := 0) (N := some 90) (v := ?_) (a' := ?_) #[true, false, false, false, false, false, false, false, false, false, false, false] rfl rfl (any_of HT_.out (by kernel_rfl)) (fun _ _ _ h => h) (Or.inl ⟨by rfl, ?_⟩) ?_ ?_
                                                        rotate_left
                                                        · intro w'
                                                          go_simp
                                                          with_reducible rfl
                                                        rotate_left
                                                        · simp only [Act.put, List.setIfInBounds_toArray, List.set_cons_zero, List.set_cons_succ, i64_w, i32_w]
                                                          rfl
                                                        refine pure_ (i := 1) (N := some 91) (v := ?_) (a' := ?_) #[true, true, false, false, false, false, false, false, false, false, false, false] rfl rfl (any_of HT_.out (by kernel_rfl)) (fun _ _ _ h => h) (Or.inl ⟨by rfl, ?_⟩) ?_ ?_
                                                        rotate_left
                                                        · intro w'
                                                          go_simp
                                                          with_reducible rfl
                                                        rotate_left
                                                        · simp only [Act.put, List.setIfInBounds_toArray, List.set_cons_zero, List.set_cons_succ, i64_w, i32_w]
                                                          rfl
                                                        refine pure_ (i := 2) (N := some 92) (v := ?_) (a' := ?_) #[true, true, true, false, false, false, false, false, false, false, false, false] rfl rfl (any_of HT_.out (by kernel_rfl)) (fun _ _ _ h => h) (Or.inl ⟨by rfl, ?_⟩) ?_ ?_
                                                        rotate_left
                                                        · intro w'
                                                          go_simp
                                                          with_reducible rfl
                                                        rotate_left
                                                        · simp only [Act.put, List.setIfInBounds_toArray, List.set_cons_zero, List.set_cons_succ, i64_w, i32_w]
                                                          rfl
                                                        refine pure_ (i := 4) (N := some 94) (v := ?_) (a' := ?_) #[true, true, true, false, true, false, false, false, false, false, false, false] rfl rfl (any_of HT_.out (by kernel_rfl)) (fun _ _ _ h => h) (Or.inl ⟨by rfl, ?_⟩) ?_ ?_
                                                        rotate_left
                                                        · intro w'
                                                          go_simp
                                                          with_reducible rfl
                                                        rotate_left
                                                        · simp only [Act.put, List.setIfInBounds_toArray, List.set_cons_zero, List.set_cons_succ, i64_w, i32_w]
                                                          rfl
                                                        refine pure_ (i := 7) (N := some 97) (v := ?_) (a' := ?_) #[true, true, true, false, true, false, false, true, false, false, false, false] rfl rfl (any_of HT_.out (by kernel_rfl)) (fun _ _ _ h => h) (Or.inl ⟨by rfl, ?_⟩) ?_ ?_
                                                        rotate_left
                                                        · intro w'
                                                          go_simp
                                                          with_reducible rfl
                                                        rotate_left
                                                        · simp only [Act.put, List.setIfInBounds_toArray, List.set_cons_zero, List.set_cons_succ, i64_w, i32_w]
                                                          rfl
                                                        refine pure_ (i := 8) (N := some 98) (v := ?_) (a' := ?_) #[true, true, true, false, true, false, false, true, true, false, false, false] rfl rfl (any_of HT_.out (by kernel_rfl)) (fun _ _ _ h => h) (Or.inl ⟨by rfl, ?_⟩) ?_ ?_
                                                        rotate_left
                                                        · intro w'
                                                          go_simp
                                                          with_reducible rfl
                                                        rotate_left
                                                        · simp only [Act.put, List.setIfInBounds_toArray, List.set_cons_zero, List.set_cons_succ, i64_w, i32_w]
                                                          rfl
                                                        refine take_ (i := 3) (N := some 93) (v := ?_) (a' := ?_) #[true, true, true, true, true, false, false, true, true, false, false, false] rfl rfl (take_ofW HT_.out HW_.out (by kernel_rfl)) (fun _ _ _ h => h) (Or.inl ⟨by rfl, ?_⟩) hHeld ?_ ?_
                                                        rotate_left
                                                        · rintro w' ⟨s0, s1⟩
                                                          go_simp
                                                          with_reducible rfl
                                                        rotate_left
                                                        · simp only [Act.put, List.setIfInBounds_toArray, List.set_cons_zero, List.set_cons_succ, i64_w, i32_w]
                                                          rfl
                                                        refine pure_ (i := 5) (N := some 95) (v := ?_) (a' := ?_) #[true, true, true, true, true, true, false, true, true, false, false, false] rfl rfl (any_of HT_.out (by kernel_rfl)) (fun _ _ _ h => h) (Or.inl ⟨by rfl, ?_⟩) ?_ ?_
                                                        rotate_left
                                                        · intro w'
                                                          go_simp
                                                          with_reducible rfl
                                                        rotate_left
                                                        · simp only [Act.put, List.setIfInBounds_toArray, List.set_cons_zero, List.set_cons_succ, i64_w, i32_w]
                                                          rfl
                                                        refine pure_ (i := 6) (N := some 96) (v := ?_) (a' := ?_) #[true, true, true, true, true, true, true, true, true, false, false, false] rfl rfl (any_of HT_.out (by kernel_rfl)) (fun _ _ _ h => h) (Or.inl ⟨by rfl, ?_⟩) ?_ ?_
                                                        rotate_left
                                                        · intro w'
                                                          go_simp
                                                          with_reducible rfl
                                                        rotate_left
                                                        · simp only [Act.put, List.setIfInBounds_toArray, List.set_cons_zero, List.set_cons_succ, i64_w, i32_w]
                                                          rfl
                                                        refine take_ (i := 9) (N := some 99) (v := ?_) (a' := ?_) #[true, true, true, true, true, true, true, true, true, true, false, false] rfl rfl (take_ofW HT_.out HW_.out (by kernel_rfl)) (fun _ _ _ h => h) (Or.inl ⟨by rfl, ?_⟩) hHeld ?_ ?_
                                                        rotate_left
                                                        · rintro w' ⟨s0, s1⟩
                                                          go_simp
                                                          with_reducible rfl
                                                        rotate_left
                                                        · simp only [Act.put, List.setIfInBounds_toArray, List.set_cons_zero, List.set_cons_succ, i64_w, i32_w]
                                                          rfl
                                                        refine pure_ (i := 10) (N := some 100) (v := ?_) (a' := ?_) #[true, true, true, true, true, true, true, true, true, true, true, false] rfl rfl (any_of HT_.out (by kernel_rfl)) (fun _ _ _ h => h) (Or.inl ⟨by rfl, ?_⟩) ?_ ?_
                                                        rotate_left
                                                        · intro w'
                                                          go_simp
                                                          with_reducible rfl
                                                        rotate_left
                                                        · simp only [Act.put, List.setIfInBounds_toArray, List.set_cons_zero, List.set_cons_succ, i64_w, i32_w]
                                                          rfl
                                                        refine last_ (i := 11) (N := none) #[true, true, true, true, true, true, true, true, true, true, true, true] rfl rfl (one_of HT_.out (by kernel_rfl)) (by decide) (fun K hK => ?_)
                                                        refine skip_ (w1 := ?_) (by rfl) rfl ?_ ?_
                                                        rotate_left
                                                        · go_simp
                                                          rfl
                                                        refine hK.out _ _ ?_
                                                        clear hK K
                                                        refine done_ (done_of HT_.out (by kernel_rfl)) ?_
                                                        try go_wp2
                                                        go_roundg k2
                                                        case measure => have := HK1.out; have := HK2.out; omega
                                                        case rel => exact ⟨(y234), (x8_2), (wrap64 (x33_2 + 1)), (by first | rfl | (simp; done) | (simp [*]; done)), (by first | rfl | (simp; done) | (simp [*]; done)), H', ⟨by have := HK1.out; have := HK2.out; omega⟩, ⟨by (try simp only [hl23_1]); (with_reducible repeat (first | apply Kd.R_alloc | apply Kd.R_drewN | apply Kd.R_drew)); exact HQ40.out⟩, ⟨by (try simp only [hl23_1]); (with_reducible repeat (first | apply Kd.R_alloc | apply Kd.R_drewN | apply Kd.R_drew)); exact Kd.R_mono (Kd.R_far (p := ⟨go31, ((ji32) : Int).toNat, none⟩) (Kd.R_mono HO_23.out (fun k_ hk => (⟨hk, fun e_ => hk (by rw [e_]; rfl)⟩ : _ ∧ k_ ≠ go31))) (fun _ hk => hk.2) (.int .i64 (rd (rd_L1 l0 x33_2) 0))) (fun _ hk => hk.1)⟩, ⟨by repeat (first | (with_reducible first | exact HB.out | apply below_alloc | apply pw_below_drewN | apply below_drew1 | refine below_set ?_ GB31.out) | exact HB.out)⟩⟩
                                                      · rw [if_neg c34] at H
                                                        exact absurd H (by simp)
                                                    · rw [if_neg c33] at H
                                                      exact absurd H (by simp)
                                                  · rw [if_neg c30] at H
                                                    exact absurd H (by simp)
                                                · rw [if_neg c29] at H
                                                  exact absurd H (by simp)
                                          · rw [if_neg c25] at H
                                            exact absurd H (by simp)
                                    · rw [if_neg c22] at H
                                      exact absurd H (by simp)
                                  · replace c21 := Bool.eq_false_iff.mpr c21
                                    subst c21
                                    have H1 : (impl_RowOfTriples.j2 k2 l0 (l0.length : Int) x7_2 false x23_1 (y215.length : Int) x25_1) = some (r1, r2) := by rw [if_neg (show ¬ (false = true) by decide)] at H; exact H
                                    clear H
                                    have H := H1
                                    clear H1
                                    have H' := Aside0.mk H
                                    clear H
                                    have p222 : 0 ≤ (x33_2 : Int) := of_decide_eq_true (by first | (with_reducible assumption) | assumption)
                                    have q222 : x33_2 < (l0.length : Int) := of_decide_eq_true (by first | (with_reducible assumption) | assumption)
                                    obtain ⟨ad222, A222_0, c222_0, e222, hx222_0, hl222_0, hi222_0⟩ := at_L1 HR0.out x33_2 p222 q222
                                    cases e222
                                    replace hx222_0 := (HB.out.cell (World.block_lt_of_cell? w _ hx222_0)).trans hx222_0
                                    have HR222_0 := Aside0.mk hi222_0
                                    have HC222_0 := Aside0.mk hl222_0
                                    clear hi222_0 hl222_0
                                    replace p222 := eq_true p222
                                    replace q222 := eq_true q222
                                    have p223 : 0 ≤ (0 : Int) := (by omega)
                                    have q223 : 0 < ((rd_L1 l0 x33_2).length : Int) := of_decide_eq_true (by first | (with_reducible assumption) | assumption)
                                    obtain ⟨ad223, e223, hx223_0⟩ := Kd.at_int HR222_0.out 0 p223 q223
                                    cases e223
                                    have qi223 : (0 < (rd_L1 l0 x33_2).length) = True := eq_true (by omega)
                                    (try rw [show ((0 : Int)).toNat = 0 from rfl] at hx223_0)
                                    (try rw [Addr.add_zero'] at hx223_0)
                                    replace hx223_0 := (HB.out.cell (World.block_lt_of_cell? w _ hx223_0)).trans hx223_0
                                    replace p223 := eq_true p223
                                    replace q223 := eq_true q223
                                    go_wp2_with (first | (go_at_call 56; (with_reducible refine (impl_isNumber.calls (rd (rd_L1 l0 x33_2) 0) false _ A20.out).mono ?_); rintro e w' ⟨rfl, ⟨nd, rfl⟩⟩))
                                    go_meet
                                    case rel => exact ⟨_, (x7_2), (false), (by first | rfl | (simp; done) | (simp [*]; done)), H', ⟨by have := HK1.out; have := HK2.out; first | omega | exact Nat.le_refl _⟩, ⟨by (try simp only [hl23_1]); (with_reducible repeat (first | apply Kd.R_alloc | apply Kd.R_drewN | apply Kd.R_drew)); exact HO_7.out⟩, ⟨by (try simp only [hl23_1]); (with_reducible repeat (first | apply Kd.R_alloc | apply Kd.R_drewN | apply Kd.R_drew)); exact HO_23.out⟩, ⟨by repeat (first | (with_reducible first | exact HB.out | apply below_alloc | apply pw_below_drewN | apply below_drew1) | exact HB.out)⟩⟩
                                · rw [if_neg c19] at H
                                  exact absurd H (by simp)
                              · rw [if_neg c18] at H
                                have c18b0 : (((rd_L1 l0 x33_2).length : Int) == 3) = false := beq_eq_false_iff_ne.mpr c18
                                have c18b1 : (((rd_L1 l0 x33_2).length : Int) != 3) = true := bne_iff_ne.mpr c18
                                have H' := Aside0.mk H
                                clear H
                                have p222 : 0 ≤ (x33_2 : Int) := of_decide_eq_true (by first | (with_reducible assumption) | assumption)
                                have q222 : x33_2 < (l0.length : Int) := of_decide_eq_true (by first | (with_reducible assumption) | assumption)
                                obtain ⟨ad222, A222_0, c222_0, e222, hx222_0, hl222_0, hi222_0⟩ := at_L1 HR0.out x33_2 p222 q222
                                cases e222
                                replace hx222_0 := (HB.out.cell (World.block_lt_of_cell? w _ hx222_0)).trans hx222_0
                                have HR222_0 := Aside0.mk hi222_0
                                have HC222_0 := Aside0.mk hl222_0
                                clear hi222_0 hl222_0
                                replace p222 := eq_true p222
                                replace q222 := eq_true q222
                                go_wp2
                                go_meet
                                case rel => exact ⟨_, (x7_2), (false), (by first | rfl | (simp; done) | (simp [*]; done)), H', ⟨by have := HK1.out; have := HK2.out; first | omega | exact Nat.le_refl _⟩, ⟨by (try simp only [hl23_1]); (with_reducible repeat (first | apply Kd.R_alloc | apply Kd.R_drewN | apply Kd.R_drew)); exact HO_7.out⟩, ⟨by (try simp only [hl23_1]); (with_reducible repeat (first | apply Kd.R_alloc | apply Kd.R_drewN | apply Kd.R_drew)); exact HO_23.out⟩, ⟨by repeat (first | (with_reducible first | exact HB.out | apply below_alloc | apply pw_below_drewN | apply below_drew1) | exact HB.out)⟩⟩
                            · rw [if_neg c17] at H
                              exact absurd H (by simp)
                          · rw [if_neg c16] at H
                            exact absurd H (by simp)
                        · rw [if_neg c15] at H
                          have c15b0 : decide (x33_2 < (l0.length : Int)) = false := decide_eq_false c15
                          clear c15
                          (first | rw [c15b0] | (simp only [i64_w, i32_w]; rw [c15b0]) | skip)
                          have H' := Aside0.mk H
                          clear H
                          go_wp2
                          go_meet
                          case rel => exact ⟨_, (x7_2), (x8_2), (by first | rfl | (simp; done) | (simp [*]; done)), H', ⟨by have := HK1.out; have := HK2.out; first | omega | exact Nat.le_refl _⟩, ⟨by (try simp only [hl23_1]); (with_reducible repeat (first | apply Kd.R_alloc | apply Kd.R_drewN | apply Kd.R_drew)); exact HO_7.out⟩, ⟨by (try simp only [hl23_1]); (with_reducible repeat (first | apply Kd.R_alloc | apply Kd.R_drewN | apply Kd.R_drew)); exact HO_23.out⟩, ⟨by repeat (first | (with_reducible first | exact HB.out | apply below_alloc | apply pw_below_drewN | apply below_drew1) | exact HB.out)⟩⟩
                  case rest =>
                    clear HC12
                    try clear c1
                    try clear c2
                    try clear p2
                    try clear q2
                    try clear hx2
                    try clear qi2
                    try clear c3
                    try clear p3
                    try clear q3
                    try clear hx3
                    try clear hf3
                    try clear p6
                    try clear c15
                    try clear c15b0
                    try clear c16
                    try clear c17
                    try clear c18
                    try clear c18b0
                    try clear c18b1
                    try clear c19
                    try clear c19b0
                    try clear c19b1
                    try clear c21
                    try clear c22
                    try clear c22b0
                    try clear c22b1
                    try clear p22
                    try clear q22
                    try clear hx22
                    try clear qi22
                    try clear c23
                    try clear c23b0
                    try clear p23
                    try clear q23
                    try clear hx23
                    try clear qi23
                    try clear c24
                    try clear c24b0
                    try clear c25
                    try clear c25b0
                    try clear c25b1
                    try clear c26
                    try clear c26b0
                    try clear c27
                    try clear c27b0
                    try clear c29
                    try clear c29b0
                    try clear c30
                    try clear c30b0
                    try clear p31
                    try clear q31
                    try clear hx31
                    try clear hf31
                    try clear c33
                    try clear c33b0
                    try clear c34
                    try clear c34b0
                    try clear p35
                    try clear q35
                    try clear hx35
                    try clear hf35
                    try clear hx222_0
                    try clear hx223_0
                    try clear hx225_0
                    try clear hx226_0
                    try clear hx227_0
                    try clear hx228_0
                    try clear hx229_0
                    try clear hx230_0
                    try clear hx232_0
                    try clear hx233_0
                    try clear hx31_0
                    try clear hx35_0
                    try clear p222
                    try clear p223
                    try clear p225
                    try clear p226
                    try clear p227
                    try clear p228
                    try clear p229
                    try clear p230
                    try clear p232
                    try clear p233
                    try clear p31
                    try clear p35
                    try clear q222
                    try clear q223
                    try clear q225
                    try clear q226
                    try clear q227
                    try clear q228
                    try clear q229
                    try clear q230
                    try clear q232
                    try clear q233
                    try clear q31
                    try clear q35
                    obtain ⟨kq, x7_11, x8_11, rfl, HA, HJ11, HO_7, HO_23, HB⟩ := hcut
                    cases kq with
                    | zero => exact absurd HA.out (by simp [impl_RowOfTriples.j2])
                    | succ kj11 =>
                      have H := HA.out
                      clear HA
                      simp only [impl_RowOfTriples.j2] at H
                      by_cases c41 : x8_11 = true
                      · subst c41
                        have H1 : ((impl_TriplesOfRow.f kj11 x7_11).bind fun bt235 => (if bt235.2 = true then ((slices_EqualFunc_int_int_int_int.f kj11 bt235.1 l0).bind fun t239 => (if t239 = true then (some (x7_11, true)) else (impl_RowOfTriples.l0 kj11 l0 (l0.length : Int) x23_1 (y215.length : Int) (wrap64 (x25_1 + 1))))) else (impl_RowOfTriples.l0 kj11 l0 (l0.length : Int) x23_1 (y215.length : Int) (wrap64 (x25_1 + 1))))) = some (r1, r2) := by rw [if_pos rfl] at H; exact H
                        clear H
                        have H := H1
                        clear H1
                        replace H := Option.bind_eq_some_iff.mp H
                        obtain ⟨⟨t235, t236⟩, A420, H⟩ := H
                        replace H : (if t236 = true then ((slices_EqualFunc_int_int_int_int.f kj11 t235 l0).bind fun t239 => (if t239 = true then (some (x7_11, true)) else (impl_RowOfTriples.l0 kj11 l0 (l0.length : Int) x23_1 (y215.length : Int) (wrap64 (x25_1 + 1))))) else (impl_RowOfTriples.l0 kj11 l0 (l0.length : Int) x23_1 (y215.length : Int) (wrap64 (x25_1 + 1)))) = some (r1, r2) := H
                        have A42 := Aside0.mk A420
                        clear A420
                        by_cases c43 : t236 = true
                        · subst c43
                          have H1 : ((slices_EqualFunc_int_int_int_int.f kj11 t235 l0).bind fun t239 => (if t239 = true then (some (x7_11, true)) else (impl_RowOfTriples.l0 kj11 l0 (l0.length : Int) x23_1 (y215.length : Int) (wrap64 (x25_1 + 1))))) = some (r1, r2) := by rw [if_pos rfl] at H; exact H
                          clear H
                          have H := H1
                          clear H1
                          replace H := Option.bind_eq_some_iff.mp H
                          obtain ⟨t239, A440, H⟩ := H
                          replace H : (if t239 = true then (some (x7_11, true)) else (impl_RowOfTriples.l0 kj11 l0 (l0.length : Int) x23_1 (y215.length : Int) (wrap64 (x25_1 + 1)))) = some (r1, r2) := H
                          have A44 := Aside0.mk A440
                          clear A440
                          by_cases c45 : t239 = true
                          · subst c45
                            have H1 : (some (x7_11, true)) = some (r1, r2) := by rw [if_pos rfl] at H; exact H
                            clear H
                            have H := H1
                            clear H1
                            simp only [Option.some.injEq, Prod.mk.injEq] at H
                            obtain ⟨rfl, rfl⟩ := H
                            obtain ⟨Ao46, co46, eo46⟩ := Kd.R_slice HO_7.out
                            subst eo46
                            go_wp2_with (first | ((with_reducible refine gate_callee (f := 21) rfl ?_); refine goesL_ (some 106) rfl rfl Try.func21 (by kernel_rfl) rfl #[.slice Ao46 x7_11.length co46] rfl (by (try simp only [List.map_toArray, List.map_cons, List.map_nil]); first | done | rfl | (simp only [List.length_drop, List.length_take]; rfl)) ?_; (with_reducible refine (impl_TriplesOfRow.calls kj11 _ _ x7_11 t235 true _ ?side1 ?side2 A42.out).mono ?_); (case side1 => repeat (first | exact (Kd.R_reads' HO_7.out).2.2 | (with_reducible refine Kd.C_alloc ?_ _) | (with_reducible refine Kd.C_drewN ?_ _) | (with_reducible refine Kd.C_drew ?_))); (case side2 => exact (Kd.R_reads' HO_7.out).2.1); rintro e w47 ⟨v237, rfl, ho0, hb⟩; refine ⟨_, rfl, ?_⟩; have n0_ := Aside0.mk (Kd.R_below (by (with_reducible repeat (first | apply Kd.R_alloc | apply Kd.R_drewN | apply Kd.R_drew)); exact HO_7.out) hb); have n1_ := Aside0.mk (Kd.R_below (by (with_reducible repeat (first | apply Kd.R_alloc | apply Kd.R_drewN | apply Kd.R_drew)); exact HO_23.out) hb); have n2_ := Aside0.mk (Kd.S_lower (Kd.S_new' (Kd.S_new' ho0 (Kd.R_lt (by (with_reducible repeat (first | apply Kd.R_alloc | apply Kd.R_drewN | apply Kd.R_drew)); exact HO_7.out))) (Kd.R_lt (by (with_reducible repeat (first | apply Kd.R_alloc | apply Kd.R_drewN | apply Kd.R_drew)); exact HO_23.out))) (below_size (by repeat (first | (with_reducible first | exact HB.out | apply below_alloc | apply pw_below_drewN | apply below_drew1) | exact HB.out)))); have n3_ := Aside0.mk (below_step (by repeat (first | (with_reducible first | exact HB.out | apply below_alloc | apply pw_below_drewN | apply below_drew1) | exact HB.out)) hb); clear HO_7; clear HO_23; clear HB; have HO_7 := n0_; have HO_23 := n1_; have HO238 := n2_; have HB := n3_; clear n0_ n1_ n2_ n3_; (try clear hb); (try clear hb2); (try clear hk); (try clear hi); (try clear ho0); obtain ⟨Ao48, co48, eo48⟩ := Kd.S_slice HO238.out; subst eo48) | (go_at_call 57; (with_reducible refine (slices_EqualFunc_int_int_int_int.calls kj11 _ _ t235 _ _ l0 true _ ?side1 ?side2 ?side3 ?side4 A44.out).mono ?_); (case side1 => repeat (first | exact (Kd.S_reads' HO238.out).2.2 | (with_reducible refine Kd.C_alloc ?_ _) | (with_reducible refine Kd.C_drewN ?_ _) | (with_reducible refine Kd.C_drew ?_))); (case side2 => exact (Kd.S_reads' HO238.out).2.1); (case side3 => repeat (first | exact (Kd.C_below HR0.out HB.out) | (with_reducible refine Kd.C_alloc ?_ _) | (with_reducible refine Kd.C_drewN ?_ _) | (with_reducible refine Kd.C_drew ?_))); (case side4 => exact HC0.out); rintro e w' ⟨rfl, ⟨nd, rfl⟩⟩))
                            go_ret2
                            exact ⟨_, by first | rfl | (simp [errW_none, errW_some] <;> rfl) | (simp [*, errW_none, errW_some] <;> rfl), by (with_reducible repeat (first | apply Kd.R_alloc | apply Kd.R_drewN | apply Kd.R_drew)); exact Kd.R_mono HO_7.out (fun _ hk => trivial), by repeat (first | (with_reducible first | exact HB.out | apply below_alloc | apply pw_below_drewN | apply below_drew1) | exact HB.out)⟩
                          · replace c45 := Bool.eq_false_iff.mpr c45
                            subst c45
                            have H1 : (impl_RowOfTriples.l0 kj11 l0 (l0.length : Int) x23_1 (y215.length : Int) (wrap64 (x25_1 + 1))) = some (r1, r2) := by rw [if_neg (show ¬ (false = true) by decide)] at H; exact H
                            clear H
                            have H := H1
                            clear H1
                            have H' := Aside0.mk H
                            clear H
                            obtain ⟨Ao49, co49, eo49⟩ := Kd.R_slice HO_7.out
                            subst eo49
                            go_wp2_with (first | ((with_reducible refine gate_callee (f := 21) rfl ?_); refine goesL_ (some 106) rfl rfl Try.func21 (by kernel_rfl) rfl #[.slice Ao49 x7_11.length co49] rfl (by (try simp only [List.map_toArray, List.map_cons, List.map_nil]); first | done | rfl | (simp only [List.length_drop, List.length_take]; rfl)) ?_; (with_reducible refine (impl_TriplesOfRow.calls kj11 _ _ x7_11 t235 true _ ?side1 ?side2 A42.out).mono ?_); (case side1 => repeat (first | exact (Kd.R_reads' HO_7.out).2.2 | (with_reducible refine Kd.C_alloc ?_ _) | (with_reducible refine Kd.C_drewN ?_ _) | (with_reducible refine Kd.C_drew ?_))); (case side2 => exact (Kd.R_reads' HO_7.out).2.1); rintro e w50 ⟨v237, rfl, ho0, hb⟩; refine ⟨_, rfl, ?_⟩; have n0_ := Aside0.mk (Kd.R_below (by (with_reducible repeat (first | apply Kd.R_alloc | apply Kd.R_drewN | apply Kd.R_drew)); exact HO_7.out) hb); have n1_ := Aside0.mk (Kd.R_below (by (with_reducible repeat (first | apply Kd.R_alloc | apply Kd.R_drewN | apply Kd.R_drew)); exact HO_23.out) hb); have n2_ := Aside0.mk (Kd.S_lower (Kd.S_new' (Kd.S_new' ho0 (Kd.R_lt (by (with_reducible repeat (first | apply Kd.R_alloc | apply Kd.R_drewN | apply Kd.R_drew)); exact HO_7.out))) (Kd.R_lt (by (with_reducible repeat (first | apply Kd.R_alloc | apply Kd.R_drewN | apply Kd.R_drew)); exact HO_23.out))) (below_size (by repeat (first | (with_reducible first | exact HB.out | apply below_alloc | apply pw_below_drewN | apply below_drew1) | exact HB.out)))); have n3_ := Aside0.mk (below_step (by repeat (first | (with_reducible first | exact HB.out | apply below_alloc | apply pw_below_drewN | apply below_drew1) | exact HB.out)) hb); clear HO_7; clear HO_23; clear HB; have HO_7 := n0_; have HO_23 := n1_; have HO238 := n2_; have HB := n3_; clear n0_ n1_ n2_ n3_; (try clear hb); (try clear hb2); (try clear hk); (try clear hi); (try clear ho0); obtain ⟨Ao51, co51, eo51⟩ := Kd.S_slice HO238.out; subst eo51) | (go_at_call 57; (with_reducible refine (slices_EqualFunc_int_int_int_int.calls kj11 _ _ t235 _ _ l0 false _ ?side1 ?side2 ?side3 ?side4 A44.out).mono ?_); (case side1 => repeat (first | exact (Kd.S_reads' HO238.out).2.2 | (with_reducible refine Kd.C_alloc ?_ _) | (with_reducible refine Kd.C_drewN ?_ _) | (with_reducible refine Kd.C_drew ?_))); (case side2 => exact (Kd.S_reads' HO238.out).2.1); (case side3 => repeat (first | exact (Kd.C_below HR0.out HB.out) | (with_reducible refine Kd.C_alloc ?_ _) | (with_reducible refine Kd.C_drewN ?_ _) | (with_reducible refine Kd.C_drew ?_))); (case side4 => exact HC0.out); rintro e w' ⟨rfl, ⟨nd, rfl⟩⟩))
                            (try simp only [← hl23_1])
                            go_roundg kj11
                            case measure => have := HK1.out; have := HJ11.out; omega
                            case rel => exact ⟨(x23_1), (wrap64 (x25_1 + 1)), (by first | rfl | (simp; done) | (simp [*]; done)), H', ⟨by have := HK1.out; have := HJ11.out; omega⟩, ⟨by (try simp only [hl23_1]); (with_reducible repeat (first | apply Kd.R_alloc | apply Kd.R_drewN | apply Kd.R_drew)); exact Kd.R_mono HO_23.out (fun _ hk => trivial)⟩, ⟨by repeat (first | (with_reducible first | exact HB.out | apply below_alloc | apply pw_below_drewN | apply below_drew1) | exact HB.out)⟩⟩
                        · replace c43 := Bool.eq_false_iff.mpr c43
                          subst c43
                          have H1 : (impl_RowOfTriples.l0 kj11 l0 (l0.length : Int) x23_1 (y215.length : Int) (wrap64 (x25_1 + 1))) = some (r1, r2) := by rw [if_neg (show ¬ (false = true) by decide)] at H; exact H
                          clear H
                          have H := H1
                          clear H1
                          have H' := Aside0.mk H
                          clear H
                          obtain ⟨Ao52, co52, eo52⟩ := Kd.R_slice HO_7.out
                          subst eo52
                          go_wp2_with (first | ((with_reducible refine gate_callee (f := 21) rfl ?_); refine goesL_ (some 106) rfl rfl Try.func21 (by kernel_rfl) rfl #[.slice Ao52 x7_11.length co52] rfl (by (try simp only [List.map_toArray, List.map_cons, List.map_nil]); first | done | rfl | (simp only [List.length_drop, List.length_take]; rfl)) ?_; (with_reducible refine (impl_TriplesOfRow.calls kj11 _ _ x7_11 t235 false _ ?side1 ?side2 A42.out).mono ?_); (case side1 => repeat (first | exact (Kd.R_reads' HO_7.out).2.2 | (with_reducible refine Kd.C_alloc ?_ _) | (with_reducible refine Kd.C_drewN ?_ _) | (with_reducible refine Kd.C_drew ?_))); (case side2 => exact (Kd.R_reads' HO_7.out).2.1); rintro e w53 ⟨v237, rfl, ho0, hb⟩; refine ⟨_, rfl, ?_⟩; have n0_ := Aside0.mk (Kd.R_below (by (with_reducible repeat (first | apply Kd.R_alloc | apply Kd.R_drewN | apply Kd.R_drew)); exact HO_7.out) hb); have n1_ := Aside0.mk (Kd.R_below (by (with_reducible repeat (first | apply Kd.R_alloc | apply Kd.R_drewN | apply Kd.R_drew)); exact HO_23.out) hb); have n2_ := Aside0.mk (Kd.S_lower (Kd.S_new' (Kd.S_new' ho0 (Kd.R_lt (by (with_reducible repeat (first | apply Kd.R_alloc | apply Kd.R_drewN | apply Kd.R_drew)); exact HO_7.out))) (Kd.R_lt (by (with_reducible repeat (first | apply Kd.R_alloc | apply Kd.R_drewN | apply Kd.R_drew)); exact HO_23.out))) (below_size (by repeat (first | (with_reducible first | exact HB.out | apply below_alloc | apply pw_below_drewN | apply below_drew1) | exact HB.out)))); have n3_ := Aside0.mk (below_step (by repeat (first | (with_reducible first | exact HB.out | apply below_alloc | apply pw_below_drewN | apply below_drew1) | exact HB.out)) hb); clear HO_7; clear HO_23; clear HB; have HO_7 := n0_; have HO_23 := n1_; have HO238 := n2_; have HB := n3_; clear n0_ n1_ n2_ n3_; (try clear hb); (try clear hb2); (try clear hk); (try clear hi); (try clear ho0)))
                          (try simp only [← hl23_1])
                          go_roundg kj11
                          case measure => have := HK1.out; have := HJ11.out; omega
                          case rel => exact ⟨(x23_1), (wrap64 (x25_1 + 1)), (by first | rfl | (simp; done) | (simp [*]; done)), H', ⟨by have := HK1.out; have := HJ11.out; omega⟩, ⟨by (try simp only [hl23_1]); (with_reducible repeat (first | apply Kd.R_alloc | apply Kd.R_drewN | apply Kd.R_drew)); exact Kd.R_mono HO_23.out (fun _ hk => trivial)⟩, ⟨by repeat (first | (with_reducible first | exact HB.out | apply below_alloc | apply pw_below_drewN | apply below_drew1) | exact HB.out)⟩⟩
                      · replace c41 := Bool.eq_false_iff.mpr c41
                        subst c41
                        have H1 : (impl_RowOfTriples.l0 kj11 l0 (l0.length : Int) x23_1 (y215.length : Int) (wrap64 (x25_1 + 1))) = some (r1, r2) := by rw [if_neg (show ¬ (false = true) by decide)] at H; exact H
                        clear H
                        have H := H1
                        clear H1
                        have H' := Aside0.mk H
                        clear H
                        go_wp2
                        (try simp only [← hl23_1])
                        go_roundg kj11
                        case measure => have := HK1.out; have := HJ11.out; omega
                        case rel => exact ⟨(x23_1), (wrap64 (x25_1 + 1)), (by first | rfl | (simp; done) | (simp [*]; done)), H', ⟨by have := HK1.out; have := HJ11.out; omega⟩, ⟨by (try simp only [hl23_1]); (with_reducible repeat (first | apply Kd.R_alloc | apply Kd.R_drewN | apply Kd.R_drew)); exact Kd.R_mono HO_23.out (fun _ hk => trivial)⟩, ⟨by repeat (first | (with_reducible first | exact HB.out | apply below_alloc | apply pw_below_drewN | apply below_drew1) | exact HB.out)⟩⟩
                · rw [if_neg c11] at H
                  exact absurd H (by simp)
              · rw [if_neg c10] at H
                exact absurd H (by simp)
            · rw [if_neg c9] at H
              exact absurd H (by simp)
          · rw [if_neg c8] at H
            exact absurd H (by simp)
        · rw [if_neg c7] at H
          have c7b0 : decide (x25_1 < (y215.length : Int)) = false := decide_eq_false c7
          (try simp only [hl222_0] at c7b0)
          (try simp only [hl23_1] at c7b0)
          clear c7
          simp only [Option.some.injEq, Prod.mk.injEq] at H
          obtain ⟨rfl, rfl⟩ := H
          go_wp2
          go_ret2
          exact ⟨_, by first | rfl | (simp [errW_none, errW_some] <;> rfl) | (simp [*, errW_none, errW_some] <;> rfl), by first | exact Kd.R_nil _ _ _ _ _ | exact Kd.N_nil _ _ _ _ _ | exact Kd.V_nil _ _ _ _ _ | exact Kd.Q_nil _ _ _ _ _ | exact Kd.S_nil _ _ _ _ _, by repeat (first | (with_reducible first | exact HB.out | apply below_alloc | apply pw_below_drewN | apply below_drew1) | exact HB.out)⟩
  · replace c3 := Bool.eq_false_iff.mpr c3
    subst c3
    have H1 : (some (([] : List Int), false)) = some (r1, r2) := by rw [if_neg (show ¬ (false = true) by decide)] at H; exact H
    clear H
    have H := H1
    clear H1
    simp only [Option.some.injEq, Prod.mk.injEq] at H
    obtain ⟨rfl, rfl⟩ := H
    go_enter Try.func25, Try.ntmps25
    go_wp2_with (first | ((with_reducible refine gate_callee (f := 52) rfl ?_); refine goesL_ (some 16) rfl rfl Try.func52 (by kernel_rfl) rfl #[.int .i64 (l0.length : Int)] rfl (by (try simp only [List.map_toArray, List.map_cons, List.map_nil]); first | done | rfl | (simp only [List.length_drop, List.length_take]; rfl)) ?_; (with_reducible refine (impl_isMany.calls (l0.length : Int) false _ A2.out).mono ?_); rintro e w' ⟨rfl, ⟨nd, rfl⟩⟩; refine ⟨_, rfl, ?_⟩))
    go_ret2
    exact ⟨_, by first | rfl | (simp [errW_none, errW_some] <;> rfl) | (simp [*, errW_none, errW_some] <;> rfl), by first | exact Kd.R_nil _ _ _ _ _ | exact Kd.N_nil _ _ _ _ _ | exact Kd.V_nil _ _ _ _ _ | exact Kd.Q_nil _ _ _ _ _ | exact Kd.S_nil _ _ _ _ _, by repeat (first | (with_reducible first | exact HB.out | apply below_alloc | apply pw_below_drewN | apply below_drew1) | exact HB.out)⟩

end Go.Proofs.Ytgpnhaaklhinlaa.PFnExactRowOfTriples
