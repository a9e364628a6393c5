-- Written by plug.py, a program of this session, over the kit's print of the function: checked by Lean alone.
import Derived.Test.YteepinopcmcklaaPFnExactFirstSystemx0
import Derived.Test.YteepinopcmcklaaPFnExactFirstSystemx1
namespace Go.Proofs.Yteepinopcmcklaa.PFnExactFirstSystem
open Go.RowKit Go.Proofs.YteepinopcmcklaaW.PrintWords Go.Proofs.YteepinopcmcklaaW.PrintLast Go.Proofs.YteepinopcmcklaaW.PrintMore
attribute [local go_sem] max2_int min2_int max_two min_two max_three min_three max_four min_four   -- for this text's walks alone
set_option linter.unusedVariables false
set_option linter.unusedSimpArgs false

/-! ### slices_Clone_int_int: function 57 -/
def slices_Clone_int_int.f (l0 : List Int) : Option (List Int) := if l0.length < 17592186044416 then (some l0) else (none)
set_option maxHeartbeats 8000000 in
set_option maxRecDepth 100000 in
theorem slices_Clone_int_int.calls (A0 : Option Addr) (c0 : Nat) (l0 : List Int) (r : List Int) (w : World) (hr0 : Kd.C (Kd.int .i64) w A0 l0.length l0) (hc0 : l0.length ≤ c0) (h : slices_Clone_int_int.f l0 = some r) :
    Calls Try.prog 57 #[.slice A0 l0.length c0] w fun e w' => ∃ v0_ : Value, e = .returned (v0_) ∧ Kd.R (Kd.int .i64) 3 w' w.heap.size (fun _ => True) v0_ r ∧ Below w.heap.size w w' := by
  have HR0 := Aside0.mk hr0
  have HC0 := Aside0.mk hc0
  have hlen := hr0.1
  have hsome := hr0.2.2
  clear hc0
  have HB := Aside0.mk (Below.refl w.heap.size w)
  unfold slices_Clone_int_int.f at h
  by_cases c2 : l0.length < 17592186044416
  · rw [if_pos c2] at h
    obtain rfl := Option.some.inj h
    clear h
    cases A0 with
    | none =>
      have e0 : l0 = [] := by
        rcases Nat.eq_zero_or_pos l0.length with h0 | h0
        · exact List.eq_nil_of_length_eq_zero h0
        · obtain ⟨ad, e, _⟩ := hsome h0
          cases e
      subst e0
      clear hr0 hlen hsome HR0
      have heq := fun (w : World) (n c : Nat) => Go.Lib.run_eql_slice_nil (P := Try.prog) w 29 3 none n c 0 0 Try.underlying29
      go_enter Try.func57, Try.ntmps57
      go_wp2
      go_ret
      exact ⟨_, rfl, Kd.R_nil _ _ _ _ _, HB.out⟩
    | some a0 =>
      clear hr0 hlen hsome
      have LMc2 := Aside0.mk c2
      clear c2
      obtain ⟨y113, hy113⟩ : ∃ y_ : List Int, y_ = (([] : List Int)) := ⟨_, rfl⟩
      have Ny113 := Aside0.mk hy113
      have Ly113 : y113.length = 0 := by rw [hy113]; rfl
      have LLy := Aside0.mk Ly113
      clear hy113 Ly113
      obtain ⟨y116, hy116⟩ : ∃ y_ : List Int, y_ = (y113 ++ l0) := ⟨_, rfl⟩
      have Ny116 := Aside0.mk hy116
      clear hy116
      have heq := fun (w : World) (n c : Nat) => Go.Lib.run_eql_slice_nil (P := Try.prog) w 29 3 (some a0) n c 0 0 Try.underlying29
      go_enter Try.func57, Try.ntmps57
      go_wp2_with (first | ((with_reducible refine gate_dst (N := 5) rfl ?_); refine Kd.R_lit (Kd.int .i64) _ 3 ?hg (N := 5) ?hd (xs := ([] : List Int)) (inner := []) (ok := fun _ => True) (okp := fun _ => True) ?hr ?hp (fun _ hk => hk) trivial (Below.refl _ _) (Nat.le_refl _) (by simp) ?_; (case hd => rfl); (case hg => rfl); (case hr => first | (go_simp; done) | (go_simp; rfl)); (case hp => exact (Reps.none _ _)); intro v114 w3 ho4 hb hg_ hnew_; clear hg_ hnew_; (first | rw [← Ny113.out] at ho4 | (simp only [Int.reduceToNat] at ho4; rw [← Ny113.out] at ho4)); have n0_ := Aside0.mk (Kd.R_lower ho4 (below_size (by repeat (first | (with_reducible first | exact HB.out | apply below_alloc | apply pw_below_drewN | apply below_drew1) | exact HB.out)))); have n1_ := Aside0.mk (below_step (by repeat (first | (with_reducible first | exact HB.out | apply below_alloc | apply pw_below_drewN | apply below_drew1) | exact HB.out)) hb); clear HB; have HO115 := n0_; have HB := n1_; clear n0_ n1_; clear hb ho4) | ((with_reducible refine gate_builtin (b := .append) (xs := #[.tmp 5, .tmp 6]) rfl ?_); at_builtin; refine Kd.R_append_rows (Kd.int .i64) (w0 := w) w.heap.size rfl (.tmp 5) (.tmp 6) 29 3 (.int .i64 0) 8 rfl Try.underlying29 info3 rfl (by decide) (by omega) v114 y113 l0 _ _ _ (fun _ => True) (fun _ => False) rfl rfl ?aO ?aR (fun _ _ h => h) (fun _ h => h.elim) ?aF ?aB ?aS ?aL ?_; (case aR => repeat (first | exact (Kd.C_below HR0.out HB.out) | (with_reducible refine Kd.C_alloc ?_ _) | (with_reducible refine Kd.C_drewN ?_ _) | (with_reducible refine Kd.C_drew ?_))); (case aB => exact (by repeat (first | (with_reducible first | exact HB.out | apply below_alloc | apply pw_below_drewN | apply below_drew1) | exact HB.out))); (case aF => exact (fun _ _ => trivial)); (case aO => exact (by (with_reducible repeat (first | apply Kd.R_alloc | apply Kd.R_drewN | apply Kd.R_drew)); exact HO115.out)); (case aS => exact (below_size (by repeat (first | (with_reducible first | exact HB.out | apply below_alloc | apply pw_below_drewN | apply below_drew1) | exact HB.out)))); (case aL => have := LMc2.out; have := LLy.out; omega); intro v117 w5 ho hb hg hat; rw [← Ny116.out] at ho; have n0_ := Aside0.mk (hb); have n1_ := Aside0.mk (ho); clear HB; clear HO115; have HB := n0_; have HO118 := n1_; clear n0_ n1_; clear ho hb hg hat))
      go_ret
      have ey : y116 = l0 := by rw [Ny116.out, Ny113.out]; rfl
      exact ⟨_, rfl, by rw [← ey]; (with_reducible repeat (first | apply Kd.R_alloc | apply Kd.R_drewN | apply Kd.R_drew)); exact HO118.out, by repeat (first | (with_reducible first | exact HB.out | apply below_alloc | apply pw_below_drewN | apply below_drew1) | exact HB.out)⟩
  · rw [if_neg c2] at h
    exact absurd h (by simp)


/-! ### impl_clones: function 50 -/
def impl_clones.l0 : Nat → List (List Int) → List (List Int) → Int → Int → Option ((List (List Int)))
  | 0, _, _, _, _ => none
  | k + 1, x3, x6, x7, x8 => if x8 < x7 then (if 0 ≤ x8 then (if x8 < (x6.length : Int) then ((slices_Clone_int_int.f (rd_L1 x6 x8)).bind fun t109 => (if x3.length < 5864062014805 then (impl_clones.l0 k (x3 ++ [t109]) x6 x7 (wrap64 (x8 + 1))) else (none))) else (none)) else (none)) else (some x3)
def impl_clones.f (k : Nat) (l0 : List (List Int)) : Option ((List (List Int))) := impl_clones.l0 k ([] : List (List Int)) l0 (l0.length : Int) 0
theorem impl_clones.mono_l : ∀ k, (∀ y0 y1 y2 y3, LeO (impl_clones.l0 k y0 y1 y2 y3) (impl_clones.l0 (k + 1) y0 y1 y2 y3))
  | 0 => fun _ _ _ _ r h => by simp [impl_clones.l0] at h
  | k + 1 => by
    have ih0 := impl_clones.mono_l k
    · intro y0 y1 y2 y3
      unfold impl_clones.l0
      repeat' first
      | (with_reducible exact ih0 _ _ _ _)
      | (with_reducible exact LeO.refl _)
      | (with_reducible exact LeO.none _)
      | (with_reducible refine LeO.ite ?_ ?_)
      | (with_reducible refine LeO.bind ?_ (fun _ => ?_))
      | exact ih0 _ _ _ _
      | exact LeO.none _
      | refine LeO.ite ?_ ?_
      | refine LeO.bind ?_ (fun _ => ?_)
theorem impl_clones.mono : ∀ a0 k, LeO (impl_clones.f k a0) (impl_clones.f (k + 1) a0) := by
  intro a0 k
  have ih0 := impl_clones.mono_l k
  unfold impl_clones.f
  repeat' first
      | (with_reducible exact ih0 _ _ _ _)
      | (with_reducible exact LeO.refl _)
      | (with_reducible exact LeO.none _)
      | (with_reducible refine LeO.ite ?_ ?_)
      | (with_reducible refine LeO.bind ?_ (fun _ => ?_))
      | exact ih0 _ _ _ _
      | exact LeO.none _
      | refine LeO.ite ?_ ?_
      | refine LeO.bind ?_ (fun _ => ?_)
set_option maxHeartbeats 8000000 in
set_option maxRecDepth 100000 in
theorem impl_clones.calls (k : Nat) (A0 : Option Addr) (c0 : Nat) (l0 : List (List Int)) (r : List (List Int)) (w : World) (hr0 : Kd.C (Kd.slice 3 (Kd.int .i64)) w A0 l0.length l0) (hc0 : l0.length ≤ c0) (h : impl_clones.f k l0 = some r) :
    Calls Try.prog 50 #[.slice A0 l0.length c0] w fun e w' => ∃ v0_ : Value, e = .returned (v0_) ∧ Kd.S (Kd.slice 3 (Kd.int .i64)) 29 w' w.heap.size (fun _ => True) v0_ r ∧ Below w.heap.size w w' := by
  have HR0 := Aside0.mk hr0
  have HC0 := Aside0.mk hc0
  clear hr0 hc0
  have HB := Aside0.mk (Below.refl w.heap.size w)
  have H : (impl_clones.l0 k ([] : List (List Int)) l0 (l0.length : Int) 0) = some r := h
  clear h
  have H' := Aside0.mk H
  clear H
  go_enter Try.func50, Try.ntmps50
  go_wp2
  go_loopg [3, 8] k (fun kq v3 v8 w' => ∃ (x3_1 : List (List Int)) (x8_1 : Int), v8 = .int .i64 x8_1 ∧ Aside0 (impl_clones.l0 kq x3_1 l0 (l0.length : Int) x8_1 = some r) ∧ Aside0 (kq ≤ k) ∧ Aside0 (Kd.S (Kd.slice 3 (Kd.int .i64)) 29 w' w.heap.size (fun _ => True) v3 x3_1) ∧ Aside0 (Below w.heap.size w w'))
  case atStart => exact ⟨(([] : List (List Int))), (0), (by first | rfl | (simp; done) | (simp [*]; done)), H', ⟨Nat.le_refl _⟩, ⟨by first | exact Kd.S_nil _ _ _ _ _ | exact Kd.N_nil _ _ _ _ _ | exact Kd.V_nil _ _ _ _ _ | exact Kd.Q_nil _ _ _ _ _ | exact Kd.R_nil _ _ _ _ _⟩, ⟨by repeat (first | (with_reducible first | exact HB.out | apply below_alloc | apply pw_below_drewN | apply below_drew1) | exact HB.out)⟩⟩
  case round =>
    clear H'
    obtain ⟨x3_1, x8_1, rfl, HA, HK1, HO_3, HB⟩ := hrel
    cases gk with
    | zero => exact absurd HA.out (by simp [impl_clones.l0])
    | succ k1 =>
      have H := HA.out
      clear HA
      simp only [impl_clones.l0] at H
      by_cases c2 : x8_1 < (l0.length : Int)
      · rw [if_pos c2] at H
        have c2b0 : decide (x8_1 < (l0.length : Int)) = true := decide_eq_true c2
        clear c2
        by_cases c3 : 0 ≤ x8_1
        · rw [if_pos c3] at H
          have c3b0 : decide (0 ≤ x8_1) = true := decide_eq_true c3
          clear c3
          by_cases c4 : x8_1 < (l0.length : Int)
          · rw [if_pos c4] at H
            have c4b0 : decide (x8_1 < (l0.length : Int)) = true := decide_eq_true c4
            clear c4
            replace H := Option.bind_eq_some_iff.mp H
            obtain ⟨t109, A50, H⟩ := H
            replace H : (if x3_1.length < 5864062014805 then (impl_clones.l0 k1 (x3_1 ++ [t109]) l0 (l0.length : Int) (wrap64 (x8_1 + 1))) else (none)) = some r := H
            have A5 := Aside0.mk A50
            clear A50
            by_cases c6 : x3_1.length < 5864062014805
            · rw [if_pos c6] at H
              have LMc6 := Aside0.mk c6
              clear c6
              obtain ⟨y112, hy112⟩ : ∃ y_ : List (List Int), y_ = (x3_1 ++ [t109]) := ⟨_, rfl⟩
              replace H : (impl_clones.l0 k1 y112 l0 (l0.length : Int) (wrap64 (x8_1 + 1))) = some r := by first | (rw [hy112]; with_reducible exact H) | (have H2_ := (Option.bind_some _ _).symm.trans H; rw [hy112]; with_reducible exact H2_) | (have H2_ := (Option.bind_some _ _).symm.trans H; with_reducible exact H2_) | with_reducible exact H | (rw [hy112]; exact H) | exact H
              have Ny112 := Aside0.mk hy112
              clear hy112
              have H' := Aside0.mk H
              clear H
              have p108 : 0 ≤ (x8_1 : Int) := of_decide_eq_true (by first | (with_reducible assumption) | assumption)
              have q108 : x8_1 < (l0.length : Int) := of_decide_eq_true (by first | (with_reducible assumption) | assumption)
              obtain ⟨ad108, A108_0, c108_0, e108, hx108_0, hl108_0, hi108_0⟩ := at_L1 HR0.out x8_1 p108 q108
              cases e108
              replace hx108_0 := (HB.out.cell (World.block_lt_of_cell? w _ hx108_0)).trans hx108_0
              have HR108_0 := Aside0.mk hi108_0
              have HC108_0 := Aside0.mk hl108_0
              clear hi108_0 hl108_0
              replace p108 := eq_true p108
              replace q108 := eq_true q108
              go_wp2_with (first | ((with_reducible refine gate_callee (f := 57) rfl ?_); refine goesL_ (some 14) rfl rfl Try.func57 (by kernel_rfl) rfl #[.slice A108_0 (rd_L1 l0 x8_1).length c108_0] rfl (by (try simp only [List.map_toArray, List.map_cons, List.map_nil]); first | done | rfl | (simp only [List.length_drop, List.length_take]; rfl)) ?_; (with_reducible refine (slices_Clone_int_int.calls _ _ (rd_L1 l0 x8_1) t109 _ ?side1 ?side2 A5.out).mono ?_); (case side1 => repeat (first | exact (Kd.C_below HR108_0.out HB.out) | (with_reducible refine Kd.C_alloc ?_ _) | (with_reducible refine Kd.C_drewN ?_ _) | (with_reducible refine Kd.C_drew ?_))); (case side2 => exact HC108_0.out); rintro e w7 ⟨v110, rfl, ho0, hb⟩; refine ⟨_, rfl, ?_⟩; have n0_ := Aside0.mk (Kd.S_elder' (by (with_reducible repeat (first | apply Kd.S_alloc | apply Kd.S_drewN | apply Kd.S_drew)); exact HO_3.out) (Kd.R_base ho0) hb); have n1_ := Aside0.mk (Kd.R_lower ho0 (below_size (by repeat (first | (with_reducible first | exact HB.out | apply below_alloc | apply pw_below_drewN | apply below_drew1) | exact HB.out)))); have n2_ := Aside0.mk (below_step (by repeat (first | (with_reducible first | exact HB.out | apply below_alloc | apply pw_below_drewN | apply below_drew1) | exact HB.out)) hb); clear HO_3; clear HB; have HO_3 := n0_; have HO111 := n1_; have HB := n2_; clear n0_ n1_ n2_; (try clear hb); (try clear hb2); (try clear hk); (try clear hi); (try clear ho0); obtain ⟨Ao9, co9, eo9⟩ := Kd.R_slice HO111.out; subst eo9) | ((with_reducible refine gate_builtin (b := .append) (xs := #[.tmp 12, .tmp 15]) rfl ?_); at_builtin; refine Kd.S_append (Kd.slice 3 (Kd.int .i64)) (w0 := w) w.heap.size rfl (.tmp 12) (.tmp 15) 22 29 (.slice none 0 0) 24 rfl Try.underlying22 info29 rfl (by decide) (by omega) u3 x3_1 t109 [.slice Ao9 t109.length co9] (fun _ => True) (fun k_ => some k_ = (.slice Ao9 t109.length co9 : Value).ownBlock) rfl rfl ?aP (fun k_ hk_ => ((Kd.R_mono (ok' := fun k_ => ((fun _ => True)) k_ ∧ some k_ ≠ (u3 : Value).ownBlock) (Kd.R_apart' (HO111.out) (Kd.S_typed HO_3.out) (by decide)) (fun k_ hk => ⟨trivial, hk.2⟩))).1 k_ hk_.symm) ?aF ?aO ?aB ?aS ?aL ?_; (case aP => exact Kd.M_row (Kd.R_mono (Kd.R_tight rfl (Kd.R_mono (ok' := fun k_ => ((fun _ => True)) k_ ∧ some k_ ≠ (u3 : Value).ownBlock) (Kd.R_apart' (HO111.out) (Kd.S_typed HO_3.out) (by decide)) (fun k_ hk => ⟨trivial, hk.2⟩))) (fun _ h_ => h_))); (case aB => exact (by repeat (first | (with_reducible first | exact HB.out | apply below_alloc | apply pw_below_drewN | apply below_drew1) | exact HB.out))); (case aF => exact (fun _ _ => trivial)); (case aO => exact (by (with_reducible repeat (first | apply Kd.S_alloc | apply Kd.S_drewN | apply Kd.S_drew)); exact Kd.S_mono HO_3.out (fun k_ hk => ⟨trivial, fun e_ => hk.2 e_⟩))); (case aS => exact (below_size (by repeat (first | (with_reducible first | exact HB.out | apply below_alloc | apply pw_below_drewN | apply below_drew1) | exact HB.out)))); (case aL => have := LMc6.out; omega); intro v113 w8 ho hb hg hat; rw [← Ny112.out] at ho; have n0_ := Aside0.mk (hb); have n1_ := Aside0.mk (ho); clear HB; clear HO_3; clear HO111; have HB := n0_; have HO114 := n1_; clear n0_ n1_; clear ho hb hg hat))
              go_roundg k1
              case measure => have := HK1.out; omega
              case rel => exact ⟨(y112), (wrap64 (x8_1 + 1)), (by first | rfl | (simp; done) | (simp [*]; done)), H', ⟨by have := HK1.out; omega⟩, ⟨by (with_reducible repeat (first | apply Kd.S_alloc | apply Kd.S_drewN | apply Kd.S_drew)); exact HO114.out⟩, ⟨by repeat (first | (with_reducible first | exact HB.out | apply below_alloc | apply pw_below_drewN | apply below_drew1) | exact HB.out)⟩⟩
            · rw [if_neg c6] at H
              exact absurd H (by simp)
          · rw [if_neg c4] at H
            exact absurd H (by simp)
        · rw [if_neg c3] at H
          exact absurd H (by simp)
      · rw [if_neg c2] at H
        have c2b0 : decide (x8_1 < (l0.length : Int)) = false := decide_eq_false c2
        clear c2
        obtain rfl := Option.some.inj H
        go_wp2
        go_ret
        exact ⟨_, by first | rfl | (simp [errW_none, errW_some] <;> rfl) | (simp [*, errW_none, errW_some] <;> rfl), by (with_reducible repeat (first | apply Kd.S_alloc | apply Kd.S_drewN | apply Kd.S_drew)); exact HO_3.out, by repeat (first | (with_reducible first | exact HB.out | apply below_alloc | apply pw_below_drewN | apply below_drew1) | exact HB.out)⟩

-- NOT PRINTED: function 38 (impl_system)

/-! ### impl_FirstSystem: function 22 -/
/-- The pairs a, 0 .. a, b - 1 are taken for together. -/
def impl_FirstSystem.setR (V a : Nat) (m : List Bool) : Nat → List Bool
  | 0 => m
  | b + 1 => (impl_FirstSystem.setR V a m b).set (a * V + b) true
def impl_FirstSystem.setA (V : Nat) : Nat → List Bool
  | 0 => List.replicate (V * V) false
  | a + 1 => impl_FirstSystem.setR V a (impl_FirstSystem.setA V a) (a + 1)
theorem impl_FirstSystem.setR_len (V a : Nat) (m : List Bool) : ∀ b, (impl_FirstSystem.setR V a m b).length = m.length
  | 0 => rfl
  | b + 1 => by rw [impl_FirstSystem.setR, List.length_set, impl_FirstSystem.setR_len V a m b]
theorem impl_FirstSystem.setA_len (V : Nat) : ∀ a, (impl_FirstSystem.setA V a).length = V * V
  | 0 => by rw [impl_FirstSystem.setA, List.length_replicate]
  | a + 1 => by rw [impl_FirstSystem.setA, impl_FirstSystem.setR_len, impl_FirstSystem.setA_len V a]
def impl_FirstSystem.f (a0 : Int) : Option (List (List Int) × Bool) := if 3 ≤ a0 ∧ a0 ≤ 9 then (Search.sysF a0.toNat 40 (impl_FirstSystem.setA a0.toNat a0.toNat) []).map (fun r => match r with | some o => (o, true) | none => ([], false)) else some ([], false)
theorem impl_FirstSystem.new (w : World) (n : Nat) : Search.BlkB (w.alloc (.cells (Array.replicate n (Value.bool false)) 4 (0, 0))) w.heap.size (List.replicate n false) := by
  unfold Search.BlkB
  rw [heap_alloc_new, List.map_replicate]
  simp
set_option maxHeartbeats 8000000 in
set_option maxRecDepth 100000 in
theorem impl_FirstSystem.calls (a0 : Int) (r1 : List (List Int)) (r2 : Bool) (w : World) (h : impl_FirstSystem.f a0 = some (r1, r2)) :
    Calls Try.prog 22 #[.int .i64 a0] w fun e w' => ∃ v0_ : Value, e = .returned (.tuple #[v0_, .bool r2]) ∧ Kd.S (Kd.slice 3 (Kd.int .i64)) 29 w' w.heap.size (fun _ => True) v0_ r1 ∧ Below w.heap.size w w' := by
  unfold impl_FirstSystem.f at h
  by_cases hm : 3 ≤ a0 ∧ a0 ≤ 9
  · rw [if_pos hm] at h
    obtain ⟨r, hc, he⟩ := Option.map_eq_some_iff.1 h
    obtain ⟨V, hV⟩ : ∃ V, V = a0.toNat := ⟨_, rfl⟩
    rw [← hV] at hc
    obtain rfl : a0 = (V : Int) := by omega
    obtain ⟨len, hlen⟩ : ∃ len, len = V * V := ⟨_, rfl⟩
    have hVV : V * V ≤ 81 := Nat.mul_le_mul (show V ≤ 9 by omega) (show V ≤ 9 by omega)
    have hmk := Search.mk_bools len (by omega)
    have hcv : ((V * V : Nat) : Int) = (V : Int) * (V : Int) := Int.natCast_mul _ _
    have hw : wrap64 ((V : Int) * (V : Int)) = (len : Int) := by rw [← hcv, ← hlen]; unfold wrap64; omega
    have HL := Aside0.mk (show 3 ≤ V ∧ V ≤ 9 ∧ len = V * V ∧ len ≤ 81 from ⟨by omega, by omega, hlen, by omega⟩)
    have HB0 := Aside0.mk (show Search.BlkB (w.alloc (.cells (Array.replicate len (Value.bool false)) 4 (0, 0))) w.heap.size (impl_FirstSystem.setA V 0) by rw [impl_FirstSystem.setA, ← hlen]; exact impl_FirstSystem.new w len)
    have HW0 := Aside0.mk (show Below w.heap.size w (w.alloc (.cells (Array.replicate len (Value.bool false)) 4 (0, 0))) from below_alloc (Below.refl _ _) _)
    have HC := Aside0.mk hc
    have HE := Aside0.mk he
    have b1 : decide ((V : Int) < 3) = false := decide_eq_false (by omega)
    have b2 : decide (9 < (V : Int)) = false := decide_eq_false (by omega)
    have b3 : decide (V < 3) = false := decide_eq_false (by omega)
    have b4 : decide (9 < V) = false := decide_eq_false (by omega)
    clear hm h hc he hV hlen hVV hcv
    go_enter Try.func22, Try.ntmps22
    go_wp2
    go_loopg [18] (V + 1) (fun kq v18 w' => ∃ x : Int, v18 = .int .i64 x ∧ Aside0 (0 ≤ x ∧ x ≤ (V : Int) ∧ kq + x.toNat = V + 1) ∧ Aside0 (Search.BlkB w' w.heap.size (impl_FirstSystem.setA V x.toNat)) ∧ Aside0 (Below w.heap.size w w'))
    case atStart => exact ⟨0, rfl, ⟨by omega⟩, HB0, HW0⟩
    case round =>
      obtain ⟨x, rfl, HX, HB1, HW1⟩ := hrel
      cases gk with
      | zero => exact absurd HX.out (by omega)
      | succ k1 =>
        obtain ⟨x1, hx1⟩ : ∃ x1 : Int, wrap64 (x + 1) = x1 := ⟨_, rfl⟩
        have HX1 := Aside0.mk (show x1 = x + 1 by rw [← hx1]; have := HX.out; have := HL.out; unfold wrap64; omega)
        by_cases hx : x < (V : Int)
        · have cx : decide (x < (V : Int)) = true := decide_eq_true hx
          have HXM := Aside0.mk hx
          have HPA := Aside0.mk (show x.toNat * V + V ≤ V * V by
            have h1 : (x.toNat + 1) * V ≤ V * V := Nat.mul_le_mul_right _ (by have := HX.out; omega)
            rwa [Nat.succ_mul] at h1)
          have HPC := Aside0.mk (show ((x.toNat * V : Nat) : Int) = x * (V : Int) by rw [Int.natCast_mul, Int.toNat_of_nonneg HX.out.1])
          clear hx
          go_wp2
          go_loopg [6] (x.toNat + 2) (fun kq v6 w' => ∃ y : Int, v6 = .int .i64 y ∧ Aside0 (0 ≤ y ∧ y ≤ x + 1 ∧ kq + y.toNat = x.toNat + 2) ∧ Aside0 (Search.BlkB w' w.heap.size (impl_FirstSystem.setR V x.toNat (impl_FirstSystem.setA V x.toNat) y.toNat)) ∧ Aside0 (Below w.heap.size w w'))
          case atStart => exact ⟨0, rfl, ⟨by have := HX.out; omega⟩, HB1, HW1⟩
          case round =>
            obtain ⟨y, rfl, HY, HB2, HW2⟩ := hrel
            cases gk with
            | zero => exact absurd HY.out (by omega)
            | succ k2 =>
              obtain ⟨y1, hy1⟩ : ∃ y1 : Int, wrap64 (y + 1) = y1 := ⟨_, rfl⟩
              have HY1 := Aside0.mk (show y1 = y + 1 by rw [← hy1]; have := HY.out; have := HX.out; have := HL.out; unfold wrap64; omega)
              by_cases hy : y ≤ x
              · have cy : decide (y ≤ x) = true := decide_eq_true hy
                obtain ⟨z, hz⟩ : ∃ z : Int, wrap64 (wrap64 (x * (V : Int)) + y) = z := ⟨_, rfl⟩
                have HZ := Aside0.mk (show z = ((x.toNat * V : Nat) : Int) + y by
                  rw [← hz, ← HPC.out]
                  have := HX.out; have := HXM.out; have := HPA.out; have := HL.out; have := HY.out
                  rw [Search.wsame (n := ((x.toNat * V : Nat) : Int)) (by omega) (by omega), Search.wsame (by omega) (by omega)])
                have HZN := Aside0.mk (show z.toNat = x.toNat * V + y.toNat ∧ z.toNat < len by have := HZ.out; have := HY.out; have := HX.out; have := HXM.out; have := HPA.out; have := HL.out; omega)
                have p1 : (0 ≤ z) = True := eq_true (by have := HZ.out; have := HY.out; omega)
                have q1 : (z < (len : Int)) = True := eq_true (by have := HZN.out; have := HZ.out; have := HY.out; omega)
                have f1 := HB2.out.free z.toNat
                have g1 := HB2.out.cell (i := z.toNat) (by rw [impl_FirstSystem.setR_len, impl_FirstSystem.setA_len]; have := HZN.out; have := HL.out; omega)
                have R2 := HB2.out.set z.toNat true
                rw [HZN.out.1] at R2
                have HB3 := Aside0.mk (show Search.BlkB (wr.setCell ⟨w.heap.size, z.toNat, none⟩ (.bool true)) w.heap.size (impl_FirstSystem.setR V x.toNat (impl_FirstSystem.setA V x.toNat) (y.toNat + 1)) by rw [HZN.out.1]; exact R2)
                have HW3 := Aside0.mk (HW2.out.setCell (p := ⟨w.heap.size, z.toNat, none⟩) (Nat.le_refl _) (.bool true))
                have HYM := Aside0.mk hy
                clear R2 hy
                go_wp2
                go_roundg k2
                case measure => have := HY.out; omega
                case rel => exact ⟨y1, (by first | rfl | rw [hy1]), ⟨by have := HY1.out; have := HY.out; have := HYM.out; omega⟩, by rw [show y1.toNat = y.toNat + 1 by have := HY1.out; have := HY.out; omega]; exact HB3, HW3⟩
              · have cy : decide (y ≤ x) = false := decide_eq_false hy
                have R2 := HB2.out
                rw [show y.toNat = x.toNat + 1 by have := HY.out; have := HX.out; omega] at R2
                have HB3 := Aside0.mk (show Search.BlkB wr w.heap.size (impl_FirstSystem.setA V (x.toNat + 1)) from R2)
                clear R2 hy
                go_wp2
                go_roundg k1
                case measure => have := HX.out; omega
                case rel => exact ⟨x1, (by first | rfl | rw [hx1]), ⟨by have := HX1.out; have := HX.out; have := HXM.out; omega⟩, by rw [show x1.toNat = x.toNat + 1 by have := HX1.out; have := HX.out; omega]; exact HB3, HW2⟩
        · have cx : decide (x < (V : Int)) = false := decide_eq_false hx
          have R2 := HB1.out
          rw [show x.toNat = V by have := HX.out; omega] at R2
          have SC := Search.sys_calls (B := w.heap.size) (U := w.heap.size) (V := V) (Nat.le_refl _) (by have := HL.out; omega) 40 (impl_FirstSystem.setA V V) [] (.slice none 0 0) r wr (impl_FirstSystem.setA_len V V) R2 (Search.LV.nil _ _) HW1.out.size HC.out
          rw [impl_FirstSystem.setA_len, ← HL.out.2.2.1] at SC
          have HSC := Aside0.mk SC
          clear R2 SC hx
          cases r with
          | some out =>
            have he := HE.out
            obtain ⟨rfl, rfl⟩ := Prod.mk.inj he
            clear he
            go_wp2_with (first | ((with_reducible refine gate_callee (f := 38) rfl ?_); refine goesL_ (some 36) rfl rfl Try.func38 (by kernel_rfl) rfl #[.int .i64 (V : Int), .slice (some ⟨w.heap.size, 0, none⟩) len len, .slice none 0 0] rfl (by (try simp only [List.map_toArray, List.map_cons, List.map_nil]); first | done | rfl) ?_; refine (HSC.out).mono ?_; rintro e w4 ⟨v0, rfl, hs4, hb4⟩; refine ⟨_, rfl, ?_⟩; have HS4 := Aside0.mk hs4; have HB4 := Aside0.mk hb4; clear hs4 hb4))
            go_ret2
            exact ⟨_, rfl, Kd.S_lower HS4.out HW1.out.size, HW1.out.trans HB4.out⟩
          | none =>
            have he := HE.out
            obtain ⟨rfl, rfl⟩ := Prod.mk.inj he
            clear he
            go_wp2_with (first | ((with_reducible refine gate_callee (f := 38) rfl ?_); refine goesL_ (some 36) rfl rfl Try.func38 (by kernel_rfl) rfl #[.int .i64 (V : Int), .slice (some ⟨w.heap.size, 0, none⟩) len len, .slice none 0 0] rfl (by (try simp only [List.map_toArray, List.map_cons, List.map_nil]); first | done | rfl) ?_; refine (HSC.out).mono ?_; rintro e w4 ⟨rfl, hs4⟩; refine ⟨_, rfl, ?_⟩; have HB4 := Aside0.mk hs4.below; clear hs4))
            go_ret2
            exact ⟨_, rfl, Kd.S_nil _ _ _ _ _, HW1.out.trans HB4.out⟩
  · rw [if_neg hm] at h
    obtain ⟨rfl, rfl⟩ := Prod.mk.inj (Option.some.inj h)
    clear h
    by_cases c1 : a0 < 3
    · have b1 : decide (a0 < 3) = true := decide_eq_true c1
      clear hm c1
      go_enter Try.func22, Try.ntmps22
      go_wp2
      go_ret2
      exact ⟨_, rfl, Kd.S_nil _ _ _ _ _, Below.refl _ _⟩
    · have b1 : decide (a0 < 3) = false := decide_eq_false c1
      have b2 : decide (9 < a0) = true := decide_eq_true (by omega)
      clear hm c1
      go_enter Try.func22, Try.ntmps22
      go_wp2
      go_ret2
      exact ⟨_, rfl, Kd.S_nil _ _ _ _ _, Below.refl _ _⟩

/-! ### laws_heldIntS: function 18 -/
def laws_heldIntS.l0 : Nat → List Int → Int → Int → Option (Int)
  | 0, _, _, _ => none
  | k + 1, x0, x1, x5 => if x5 < (x0.length : Int) then (if 0 ≤ x5 then (if (rd x0 x5) = x1 then (laws_heldIntS.l0 k x0 (wrap64 (x1 + 1)) (wrap64 (x5 + 1))) else (some (-1))) else (none)) else (some x1)
def laws_heldIntS.f (k : Nat) (l0 : List Int) (a1 : Int) : Option (Int) := laws_heldIntS.l0 k l0 a1 0
theorem laws_heldIntS.mono_l : ∀ k, (∀ y0 y1 y2, LeO (laws_heldIntS.l0 k y0 y1 y2) (laws_heldIntS.l0 (k + 1) y0 y1 y2))
  | 0 => fun _ _ _ r h => by simp [laws_heldIntS.l0] at h
  | k + 1 => by
    have ih0 := laws_heldIntS.mono_l k
    · intro y0 y1 y2
      unfold laws_heldIntS.l0
      repeat' first
      | (with_reducible exact ih0 _ _ _)
      | (with_reducible exact LeO.refl _)
      | (with_reducible exact LeO.none _)
      | (with_reducible refine LeO.ite ?_ ?_)
      | (with_reducible refine LeO.bind ?_ (fun _ => ?_))
      | exact ih0 _ _ _
      | exact LeO.none _
      | refine LeO.ite ?_ ?_
      | refine LeO.bind ?_ (fun _ => ?_)
theorem laws_heldIntS.mono : ∀ a0 a1 k, LeO (laws_heldIntS.f k a0 a1) (laws_heldIntS.f (k + 1) a0 a1) := by
  intro a0 a1 k
  have ih0 := laws_heldIntS.mono_l k
  unfold laws_heldIntS.f
  repeat' first
      | (with_reducible exact ih0 _ _ _)
      | (with_reducible exact LeO.refl _)
      | (with_reducible exact LeO.none _)
      | (with_reducible refine LeO.ite ?_ ?_)
      | (with_reducible refine LeO.bind ?_ (fun _ => ?_))
      | exact ih0 _ _ _
      | exact LeO.none _
      | refine LeO.ite ?_ ?_
      | refine LeO.bind ?_ (fun _ => ?_)
set_option maxHeartbeats 8000000 in
set_option maxRecDepth 100000 in
theorem laws_heldIntS.calls (k : Nat) (A0 : Option Addr) (c0 : Nat) (l0 : List Int) (a1 : Int) (r : Int) (w : World) (hr0 : Kd.C (Kd.int .i64) w A0 l0.length l0) (hc0 : l0.length ≤ c0) (h : laws_heldIntS.f k l0 a1 = some r) :
    Calls Try.prog 18 #[.slice A0 l0.length c0, .int .i64 a1] w fun e w' => e = .returned (.int .i64 r) ∧ Drawn0 w w' := by
  have HR0 := Aside0.mk hr0
  have HC0 := Aside0.mk hc0
  clear hr0 hc0
  have H : (laws_heldIntS.l0 k l0 a1 0) = some r := h
  clear h
  have H' := Aside0.mk H
  clear H
  go_enter Try.func18, Try.ntmps18
  go_wp2
  go_loopg [1, 5] k (fun kq v1 v5 w' => ∃ (x1_1 : Int) (x5_1 : Int), v1 = .int .i64 x1_1 ∧ v5 = .int .i64 x5_1 ∧ Aside0 (laws_heldIntS.l0 kq l0 x1_1 x5_1 = some r) ∧ Aside0 (kq ≤ k) ∧ Drawn0 w w')
  case atStart => exact ⟨(a1), (0), (by first | rfl | (simp; done) | (simp [*]; done)), (by first | rfl | (simp; done) | (simp [*]; done)), H', ⟨Nat.le_refl _⟩, by repeat (first | exact Drawn0.refl _ | apply Drawn0.step)⟩
  case round =>
    clear H'
    try clear c1
    try clear p2
    obtain ⟨x1_1, x5_1, rfl, rfl, HA, HK1, ⟨m1, rfl⟩⟩ := hrel
    cases gk with
    | zero => exact absurd HA.out (by simp [laws_heldIntS.l0])
    | succ k1 =>
      have H := HA.out
      clear HA
      simp only [laws_heldIntS.l0] at H
      by_cases c3 : x5_1 < (l0.length : Int)
      · rw [if_pos c3] at H
        have c3b0 : decide (x5_1 < (l0.length : Int)) = true := decide_eq_true c3
        clear c3
        by_cases c4 : 0 ≤ x5_1
        · rw [if_pos c4] at H
          have c4b0 : decide (0 ≤ x5_1) = true := decide_eq_true c4
          clear c4
          by_cases c5 : (rd l0 x5_1) = x1_1
          · rw [if_pos c5] at H
            have c5b0 : ((rd l0 x5_1) == x1_1) = true := beq_iff_eq.mpr c5
            have c5b1 : ((rd l0 x5_1) != x1_1) = false := bne_eq_false_iff_eq.mpr c5
            clear c5
            have H' := Aside0.mk H
            clear H
            have p127 : 0 ≤ (x5_1 : Int) := of_decide_eq_true (by first | (with_reducible assumption) | assumption)
            have q127 : x5_1 < (l0.length : Int) := of_decide_eq_true (by first | (with_reducible assumption) | assumption)
            obtain ⟨ad127, e127, hx127_0⟩ := Kd.at_int HR0.out x5_1 p127 q127
            cases e127
            replace p127 := eq_true p127
            replace q127 := eq_true q127
            go_wp2
            go_roundg k1
            case measure => have := HK1.out; omega
            case rel => exact ⟨(wrap64 (x1_1 + 1)), (wrap64 (x5_1 + 1)), (by first | rfl | (simp; done) | (simp [*]; done)), (by first | rfl | (simp; done) | (simp [*]; done)), H', ⟨by have := HK1.out; omega⟩, by repeat (first | exact Drawn0.refl _ | apply Drawn0.step)⟩
          · rw [if_neg c5] at H
            have c5b0 : ((rd l0 x5_1) == x1_1) = false := beq_eq_false_iff_ne.mpr c5
            have c5b1 : ((rd l0 x5_1) != x1_1) = true := bne_iff_ne.mpr c5
            obtain rfl := Option.some.inj H
            have p127 : 0 ≤ (x5_1 : Int) := of_decide_eq_true (by first | (with_reducible assumption) | assumption)
            have q127 : x5_1 < (l0.length : Int) := of_decide_eq_true (by first | (with_reducible assumption) | assumption)
            obtain ⟨ad127, e127, hx127_0⟩ := Kd.at_int HR0.out x5_1 p127 q127
            cases e127
            replace p127 := eq_true p127
            replace q127 := eq_true q127
            go_wp2
            go_ret
            exact ⟨by first | rfl | (simp; done) | (simp [*]; done), by repeat (first | exact Drawn0.refl _ | apply Drawn0.step)⟩
        · rw [if_neg c4] at H
          exact absurd H (by simp)
      · rw [if_neg c3] at H
        have c3b0 : decide (x5_1 < (l0.length : Int)) = false := decide_eq_false c3
        clear c3
        obtain rfl := Option.some.inj H
        go_wp2
        go_ret
        exact ⟨by first | rfl | (simp; done) | (simp [*]; done), by repeat (first | exact Drawn0.refl _ | apply Drawn0.step)⟩

/-! ### laws_heldIntSS: function 23 -/
def laws_heldIntSS.l0 : Nat → List (List Int) → Int → Int → Option (Int)
  | 0, _, _, _ => none
  | k + 1, x0, x1, x5 => if x5 < (x0.length : Int) then (if 0 ≤ x5 then ((laws_heldIntS.f k (rd_L1 x0 x5) x1).bind fun t129 => (if t129 < 0 then (some (-1)) else (laws_heldIntSS.l0 k x0 t129 (wrap64 (x5 + 1))))) else (none)) else (some x1)
def laws_heldIntSS.f (k : Nat) (l0 : List (List Int)) (a1 : Int) : Option (Int) := laws_heldIntSS.l0 k l0 a1 0
theorem laws_heldIntSS.mono_l : ∀ k, (∀ y0 y1 y2, LeO (laws_heldIntSS.l0 k y0 y1 y2) (laws_heldIntSS.l0 (k + 1) y0 y1 y2))
  | 0 => fun _ _ _ r h => by simp [laws_heldIntSS.l0] at h
  | k + 1 => by
    have ih0 := laws_heldIntSS.mono_l k
    · intro y0 y1 y2
      unfold laws_heldIntSS.l0
      repeat' first
      | (with_reducible exact ih0 _ _ _)
      | (with_reducible exact laws_heldIntS.mono _ _ _)
      | (with_reducible exact LeO.refl _)
      | (with_reducible exact LeO.none _)
      | (with_reducible refine LeO.ite ?_ ?_)
      | (with_reducible refine LeO.bind ?_ (fun _ => ?_))
      | exact ih0 _ _ _
      | exact laws_heldIntS.mono _ _ _
      | exact LeO.none _
      | refine LeO.ite ?_ ?_
      | refine LeO.bind ?_ (fun _ => ?_)
theorem laws_heldIntSS.mono : ∀ a0 a1 k, LeO (laws_heldIntSS.f k a0 a1) (laws_heldIntSS.f (k + 1) a0 a1) := by
  intro a0 a1 k
  have ih0 := laws_heldIntSS.mono_l k
  unfold laws_heldIntSS.f
  repeat' first
      | (with_reducible exact ih0 _ _ _)
      | (with_reducible exact laws_heldIntS.mono _ _ _)
      | (with_reducible exact LeO.refl _)
      | (with_reducible exact LeO.none _)
      | (with_reducible refine LeO.ite ?_ ?_)
      | (with_reducible refine LeO.bind ?_ (fun _ => ?_))
      | exact ih0 _ _ _
      | exact laws_heldIntS.mono _ _ _
      | exact LeO.none _
      | refine LeO.ite ?_ ?_
      | refine LeO.bind ?_ (fun _ => ?_)
set_option maxHeartbeats 8000000 in
set_option maxRecDepth 100000 in
theorem laws_heldIntSS.calls (k : Nat) (A0 : Option Addr) (c0 : Nat) (l0 : List (List Int)) (a1 : Int) (r : Int) (w : World) (hr0 : Kd.C (Kd.slice 3 (Kd.int .i64)) w A0 l0.length l0) (hc0 : l0.length ≤ c0) (h : laws_heldIntSS.f k l0 a1 = some r) :
    Calls Try.prog 23 #[.slice A0 l0.length c0, .int .i64 a1] w fun e w' => e = .returned (.int .i64 r) ∧ Drawn0 w w' := by
  have HR0 := Aside0.mk hr0
  have HC0 := Aside0.mk hc0
  clear hr0 hc0
  have H : (laws_heldIntSS.l0 k l0 a1 0) = some r := h
  clear h
  have H' := Aside0.mk H
  clear H
  go_enter Try.func23, Try.ntmps23
  go_wp2
  go_loopg [1, 5] k (fun kq v1 v5 w' => ∃ (x1_1 : Int) (x5_1 : Int), v1 = .int .i64 x1_1 ∧ v5 = .int .i64 x5_1 ∧ Aside0 (laws_heldIntSS.l0 kq l0 x1_1 x5_1 = some r) ∧ Aside0 (kq ≤ k) ∧ Drawn0 w w')
  case atStart => exact ⟨(a1), (0), (by first | rfl | (simp; done) | (simp [*]; done)), (by first | rfl | (simp; done) | (simp [*]; done)), H', ⟨Nat.le_refl _⟩, by repeat (first | exact Drawn0.refl _ | apply Drawn0.step)⟩
  case round =>
    clear H'
    try clear c2
    try clear p2
    obtain ⟨x1_1, x5_1, rfl, rfl, HA, HK1, ⟨m1, rfl⟩⟩ := hrel
    cases gk with
    | zero => exact absurd HA.out (by simp [laws_heldIntSS.l0])
    | succ k1 =>
      have H := HA.out
      clear HA
      simp only [laws_heldIntSS.l0] at H
      by_cases c3 : x5_1 < (l0.length : Int)
      · rw [if_pos c3] at H
        have c3b0 : decide (x5_1 < (l0.length : Int)) = true := decide_eq_true c3
        clear c3
        by_cases c4 : 0 ≤ x5_1
        · rw [if_pos c4] at H
          have c4b0 : decide (0 ≤ x5_1) = true := decide_eq_true c4
          clear c4
          replace H := Option.bind_eq_some_iff.mp H
          obtain ⟨t129, A50, H⟩ := H
          replace H : (if t129 < 0 then (some (-1)) else (laws_heldIntSS.l0 k1 l0 t129 (wrap64 (x5_1 + 1)))) = some r := H
          have A5 := Aside0.mk A50
          clear A50
          by_cases c6 : t129 < 0
          · rw [if_pos c6] at H
            have c6b0 : decide (t129 < 0) = true := decide_eq_true c6
            clear c6
            obtain rfl := Option.some.inj H
            have p128 : 0 ≤ (x5_1 : Int) := of_decide_eq_true (by first | (with_reducible assumption) | assumption)
            have q128 : x5_1 < (l0.length : Int) := of_decide_eq_true (by first | (with_reducible assumption) | assumption)
            obtain ⟨ad128, A128_0, c128_0, e128, hx128_0, hl128_0, hi128_0⟩ := at_L1 HR0.out x5_1 p128 q128
            cases e128
            have HR128_0 := Aside0.mk hi128_0
            have HC128_0 := Aside0.mk hl128_0
            clear hi128_0 hl128_0
            replace p128 := eq_true p128
            replace q128 := eq_true q128
            go_wp2_with (first | ((with_reducible refine gate_callee (f := 18) rfl ?_); refine goesL_ (some 17) rfl rfl Try.func18 (by kernel_rfl) rfl #[.slice A128_0 (rd_L1 l0 x5_1).length c128_0, .int .i64 x1_1] rfl (by (try simp only [List.map_toArray, List.map_cons, List.map_nil]); first | done | rfl | (simp only [List.length_drop, List.length_take]; rfl)) ?_; (with_reducible refine (laws_heldIntS.calls k1 _ _ (rd_L1 l0 x5_1) x1_1 t129 _ ?side1 ?side2 A5.out).mono ?_); (case side1 => repeat (first | exact HR128_0.out | (with_reducible refine Kd.C_alloc ?_ _) | (with_reducible refine Kd.C_drewN ?_ _) | (with_reducible refine Kd.C_drew ?_))); (case side2 => exact HC128_0.out); rintro e w' ⟨rfl, ⟨nd, rfl⟩⟩; refine ⟨_, rfl, ?_⟩))
            go_ret
            exact ⟨by first | rfl | (simp; done) | (simp [*]; done), by repeat (first | exact Drawn0.refl _ | apply Drawn0.step)⟩
          · rw [if_neg c6] at H
            have c6b0 : decide (t129 < 0) = false := decide_eq_false c6
            clear c6
            have H' := Aside0.mk H
            clear H
            have p128 : 0 ≤ (x5_1 : Int) := of_decide_eq_true (by first | (with_reducible assumption) | assumption)
            have q128 : x5_1 < (l0.length : Int) := of_decide_eq_true (by first | (with_reducible assumption) | assumption)
            obtain ⟨ad128, A128_0, c128_0, e128, hx128_0, hl128_0, hi128_0⟩ := at_L1 HR0.out x5_1 p128 q128
            cases e128
            have HR128_0 := Aside0.mk hi128_0
            have HC128_0 := Aside0.mk hl128_0
            clear hi128_0 hl128_0
            replace p128 := eq_true p128
            replace q128 := eq_true q128
            go_wp2_with (first | ((with_reducible refine gate_callee (f := 18) rfl ?_); refine goesL_ (some 17) rfl rfl Try.func18 (by kernel_rfl) rfl #[.slice A128_0 (rd_L1 l0 x5_1).length c128_0, .int .i64 x1_1] rfl (by (try simp only [List.map_toArray, List.map_cons, List.map_nil]); first | done | rfl | (simp only [List.length_drop, List.length_take]; rfl)) ?_; (with_reducible refine (laws_heldIntS.calls k1 _ _ (rd_L1 l0 x5_1) x1_1 t129 _ ?side1 ?side2 A5.out).mono ?_); (case side1 => repeat (first | exact HR128_0.out | (with_reducible refine Kd.C_alloc ?_ _) | (with_reducible refine Kd.C_drewN ?_ _) | (with_reducible refine Kd.C_drew ?_))); (case side2 => exact HC128_0.out); rintro e w' ⟨rfl, ⟨nd, rfl⟩⟩; refine ⟨_, rfl, ?_⟩))
            go_roundg k1
            case measure => have := HK1.out; omega
            case rel => exact ⟨(t129), (wrap64 (x5_1 + 1)), (by first | rfl | (simp; done) | (simp [*]; done)), (by first | rfl | (simp; done) | (simp [*]; done)), H', ⟨by have := HK1.out; omega⟩, by repeat (first | exact Drawn0.refl _ | apply Drawn0.step)⟩
        · rw [if_neg c4] at H
          exact absurd H (by simp)
      · rw [if_neg c3] at H
        have c3b0 : decide (x5_1 < (l0.length : Int)) = false := decide_eq_false c3
        clear c3
        obtain rfl := Option.some.inj H
        go_wp2
        go_ret
        exact ⟨by first | rfl | (simp; done) | (simp [*]; done), by repeat (first | exact Drawn0.refl _ | apply Drawn0.step)⟩

/-! ### laws_FnExactFirstSystem: function 6 -/
section
open Go.Proofs.Yteepinopcmcklaa.Aid
theorem eqIntS_l0 (xs ys : List Int) (hx : xs.length ≤ 1048576) (hl : xs.length = ys.length) : ∀ (s t : List Int) (i : Nat), xs.drop i = s → ys.drop i = t → Ev (fun k => laws_eqIntS.l0 k xs ys (i : Int)) (decide (s = t))
  | [], t, i, h, h' => by
    have h1 := dropNil h
    have h2 : t = [] := by rw [← h']; simp; omega
    subst h2
    refine Ev.of1 (fun k => ?_)
    simp (disch := omega) only [if_true, if_false, Bool.false_eq_true, laws_eqIntS.l0, if_neg]
    simp
  | x :: s, [], i, h, h' => by
    have h1 := dropLt h
    have h2 := dropNil h'
    omega
  | x :: s, y :: t, i, h, h' => by
    obtain ⟨h1, h2, h3⟩ := dropCons h
    obtain ⟨h1', h2', h3'⟩ := dropCons h'
    by_cases c : x = y
    · refine Ev.step (f := fun k => laws_eqIntS.l0 k xs ys ((i + 1 : Nat) : Int)) (fun k => ?_) ((eqIntS_l0 xs ys hx hl s t (i + 1) h3 h3').cast (by simp [c]))
      simp (disch := omega) only [if_true, if_false, Bool.false_eq_true, laws_eqIntS.l0, if_pos, w64s, h2, h2']
    · refine Ev.of1 (fun k => ?_)
      simp (disch := omega) only [if_true, if_false, Bool.false_eq_true, laws_eqIntS.l0, if_pos, if_neg, h2, h2']
      simp [c]
theorem eqIntS_ev (xs ys : List Int) (hx : xs.length ≤ 1048576) : Ev (fun k => laws_eqIntS.f k xs ys) (decide (xs = ys)) := by
  by_cases c : xs.length = ys.length
  · refine Ev.congr (fun k => ?_) (eqIntS_l0 xs ys hx c xs ys 0 rfl rfl)
    unfold laws_eqIntS.f
    rw [if_pos (by omega)]
    rfl
  · refine Ev.all (fun k => ?_)
    unfold laws_eqIntS.f
    rw [if_neg (by omega)]
    have : xs ≠ ys := fun e => c (by rw [e])
    simp [this]
theorem eqIntS_same (xs : List Int) (hx : xs.length ≤ 1048576) : Ev (fun k => laws_eqIntS.f k xs xs) true := (eqIntS_ev xs xs hx).cast (by simp)
theorem dropConsL {xs : List (List Int)} {i : Nat} {x : List Int} {t : List (List Int)} (h : xs.drop i = x :: t) : i < xs.length ∧ rd_L1 xs (i : Int) = x ∧ xs.drop (i + 1) = t :=
  ⟨dropLt h, by simp [rd_L1, List.getD_eq_getElem?_getD, dropGet h], dropSucc h⟩
theorem memDrop {α : Type} {xs : List α} {i : Nat} {x : α} {t : List α} (h : xs.drop i = x :: t) : x ∈ xs := by
  rw [← List.take_append_drop i xs, h]
  simp
theorem eqIntSS_l0 (xs ys : List (List Int)) (hx : xs.length ≤ 1048576) (hm : ∀ x ∈ xs, x.length ≤ 1048576) (hl : xs.length = ys.length) : ∀ (s t : List (List Int)) (i : Nat), xs.drop i = s → ys.drop i = t → Ev (fun k => laws_eqIntSS.l0 k xs ys (i : Int)) (decide (s = t))
  | [], t, i, h, h' => by
    have h1 := dropNil h
    have h2 : t = [] := by rw [← h']; simp; omega
    subst h2
    refine Ev.of1 (fun k => ?_)
    simp (disch := omega) only [if_true, if_false, Bool.false_eq_true, laws_eqIntSS.l0, if_neg]
    simp
  | x :: s, [], i, h, h' => by
    have h1 := dropLt h
    have h2 := dropNil h'
    omega
  | x :: s, y :: t, i, h, h' => by
    obtain ⟨h1, h2, h3⟩ := dropConsL h
    obtain ⟨h1', h2', h3'⟩ := dropConsL h'
    refine Ev.step (f := fun k => (laws_eqIntS.f k x y).bind fun t120 => (if t120 = true then (laws_eqIntSS.l0 k xs ys ((i + 1 : Nat) : Int)) else (some false))) (fun k => ?_) (Ev.bind (eqIntS_ev x y (hm x (memDrop h))) ?_)
    · simp (disch := omega) only [if_true, if_false, Bool.false_eq_true, laws_eqIntSS.l0, if_pos, w64s, h2, h2']
    · by_cases c : x = y
      · simp only [c, decide_true, if_true]
        exact (eqIntSS_l0 xs ys hx hm hl s t (i + 1) h3 h3').cast (by simp)
      · simp only [c, decide_false, Bool.false_eq_true, if_false]
        exact (Ev.now _).cast (by simp [c])
theorem eqIntSS_ev (xs ys : List (List Int)) (hx : xs.length ≤ 1048576) (hm : ∀ x ∈ xs, x.length ≤ 1048576) : Ev (fun k => laws_eqIntSS.f k xs ys) (decide (xs = ys)) := by
  by_cases c : xs.length = ys.length
  · refine Ev.congr (fun k => ?_) (eqIntSS_l0 xs ys hx hm c xs ys 0 rfl rfl)
    unfold laws_eqIntSS.f
    rw [if_pos (by omega)]
    rfl
  · refine Ev.all (fun k => ?_)
    unfold laws_eqIntSS.f
    rw [if_neg (by omega)]
    have : xs ≠ ys := fun e => c (by rw [e])
    simp [this]
theorem eqIntSS_same (xs : List (List Int)) (hx : xs.length ≤ 1048576) (hm : ∀ x ∈ xs, x.length ≤ 1048576) : Ev (fun k => laws_eqIntSS.f k xs xs) true := (eqIntSS_ev xs xs hx hm).cast (by simp)
theorem heldIntS_l0 (xs : List Int) (hx : xs.length ≤ 1048576) : ∀ (n : Nat) (i : Nat) (m : Int), xs.drop i = upFrom n m → 0 ≤ m → m + n ≤ 9223372036854775807 → Ev (fun k => laws_heldIntS.l0 k xs m (i : Int)) (m + n)
  | 0, i, m, h, hm, hb => by
    have h1 := dropNil h
    refine Ev.of1 (fun k => ?_)
    simp (disch := omega) only [if_true, if_false, Bool.false_eq_true, laws_heldIntS.l0, if_neg]
    simp
  | n + 1, i, m, h, hm, hb => by
    obtain ⟨h1, h2, h3⟩ := dropCons (x := m) (t := upFrom n (m + 1)) h
    refine Ev.step (f := fun k => laws_heldIntS.l0 k xs (m + 1) ((i + 1 : Nat) : Int)) (fun k => ?_) ((heldIntS_l0 xs hx n (i + 1) (m + 1) h3 (by omega) (by omega)).cast (by omega))
    have e1 : wrap64 (m + 1) = m + 1 := w64 (by omega) (by omega)
    simp (disch := omega) only [if_true, if_false, Bool.false_eq_true, laws_heldIntS.l0, if_pos, w64s, e1, h2]
theorem heldIntS_ev (n : Nat) (hx : n ≤ 1048576) : Ev (fun k => laws_heldIntS.f k (upFrom n 1) 1) (1 + n) :=
  Ev.congr (fun k => rfl) (heldIntS_l0 (upFrom n 1) (by rw [upFrom_length]; exact hx) n 0 1 rfl (by omega) (by omega))
theorem heldIntS_from (xs : List Int) (n : Nat) (m : Int) (hx : xs = upFrom n m) (hn : n ≤ 1048576) (hm : 0 ≤ m) (hb : m + n ≤ 9223372036854775807) : Ev (fun k => laws_heldIntS.f k xs m) (m + n) := by
  subst hx
  exact Ev.congr (fun k => rfl) (heldIntS_l0 (upFrom n m) (by rw [upFrom_length]; exact hn) n 0 m rfl hm hb)
theorem heldIntSS_l0 (xs : List (List Int)) (hx : xs.length ≤ 1048576) : ∀ (t : List (List Int)) (i : Nat) (m : Int), xs.drop i = marksL m t → 0 ≤ m → m + (totalL t : Nat) ≤ 9223372036854775807 → (∀ x ∈ t, x.length ≤ 1048576) → Ev (fun k => laws_heldIntSS.l0 k xs m (i : Int)) (m + (totalL t : Nat))
  | [], i, m, h, hm, hb, ht => by
    have h1 := dropNil h
    refine Ev.of1 (fun k => ?_)
    simp (disch := omega) only [if_true, if_false, Bool.false_eq_true, laws_heldIntSS.l0, if_neg]
    simp [totalL]
  | x :: t, i, m, h, hm, hb, ht => by
    obtain ⟨h1, h2, h3⟩ := dropConsL (x := upFrom x.length m) (t := marksL (m + x.length) t) h
    simp only [totalL, Int.natCast_add] at hb ⊢
    refine Ev.step (f := fun k => (laws_heldIntS.f k (upFrom x.length m) m).bind fun y => (if y < 0 then (some (-1)) else (laws_heldIntSS.l0 k xs y ((i + 1 : Nat) : Int)))) (fun k => ?_) (Ev.bind (heldIntS_from _ x.length m rfl (ht x List.mem_cons_self) hm (by omega)) ?_)
    · simp (disch := omega) only [if_true, if_false, Bool.false_eq_true, laws_heldIntSS.l0, if_pos, w64s, h2]
    · refine Ev.congr (fun k => by rw [if_neg (by omega)]) ((heldIntSS_l0 xs hx t (i + 1) (m + x.length) h3 (by omega) (by omega) (fun y hy => ht y (List.mem_cons_of_mem _ hy))).cast (by omega))
theorem heldIntSS_ev (xs : List (List Int)) (hx : xs.length ≤ 1048576) (ht : totalL xs ≤ 1048576) : Ev (fun k => laws_heldIntSS.f k (marksL 1 xs) 1) (1 + (totalL xs : Nat)) :=
  Ev.congr (fun k => rfl) (heldIntSS_l0 (marksL 1 xs) (by rw [marksL_len]; exact hx) xs 0 1 rfl (by omega) (by omega) (fun x h => Nat.le_trans (totalL_mem xs x h) ht))
theorem held_at (K : Nat) (A : Option Addr) (c : Nat) (r : List (List Int)) (w : World) {b : Nat} {ok : Nat → Prop} (h : Kd.S (Kd.slice 3 (Kd.int .i64)) 29 w b ok (.slice A r.length c) (marksL 1 r)) (hh : laws_heldIntSS.f K (marksL 1 r) 1 = some (1 + (totalL r : Nat))) :
    Calls Try.prog 23 #[.slice A r.length c, .int .i64 1] w fun e w' => e = .returned (.int .i64 (1 + ((totalL r : Nat) : Int))) ∧ Drawn0 w w' := by
  have hr := Kd.R_reads' (Kd.S_R h)
  have hc := laws_heldIntSS.calls K A c (marksL 1 r) 1 _ w hr.2.2 (by rw [marksL_len]; exact hr.2.1) hh
  rw [marksL_len] at hc
  exact hc
end
/-- THE ONE PURE STATEMENT that is left: both come to one answer. -/
def laws_FnExactFirstSystem.Pure : Prop := ∀ (a0 : Int), (Lit.int .i64 a0).wf = true → ∃ (k : Nat) (r : List (List Int)) (rb : Bool), spec_FirstSystem.f a0 = some (r, rb) ∧ impl_FirstSystem.f a0 = some (r, rb) ∧ r.length ≤ 1048576 ∧ totalL r ≤ 1048576
set_option maxHeartbeats 8000000 in
set_option maxRecDepth 100000 in
theorem laws_FnExactFirstSystem.walk (P : laws_FnExactFirstSystem.Pure) (a0 : Int) (w : World) (w0 : (Lit.int .i64 a0).wf = true) :
    Calls Try.prog 6 #[.int .i64 a0] w fun e w' => e = .returned (.bool true) ∧ Below w.heap.size w w' := by
  have HBw := Aside0.mk (Below.refl w.heap.size w)
  obtain ⟨K5, r, rb, hsp, him, hrl, hrt⟩ := P a0 w0
  have HSP := Aside0.mk hsp
  have HIM := Aside0.mk him
  have HRL := Aside0.mk (show r.length ≤ 1048576 ∧ totalL r ≤ 1048576 from ⟨hrl, hrt⟩)
  obtain ⟨K2, h2⟩ := eqIntSS_same r hrl (fun x hx => Nat.le_trans (totalL_mem r x hx) hrt)
  obtain ⟨K4, h4⟩ := heldIntSS_ev r hrl hrt
  have bm : decide (1 + ((totalL r : Nat) : Int) < 0) = false := decide_eq_false (by omega)
  have be : (rb != rb) = false := by cases rb <;> rfl
  have H2 := Aside0.mk (h2 K2 (Nat.le_refl _))
  have H4 := Aside0.mk (h4 K4 (Nat.le_refl _))
  clear hsp him hrl h2 h4 hrt w0
  go_enter Try.func6, Try.ntmps6
  go_wp2_with (first | ((with_reducible refine gate_dst (N := 13) rfl ?_); refine goesL_ (some 13) rfl rfl Try.func21 (by kernel_rfl) rfl #[.int .i64 a0] rfl (by (try simp only [List.map_toArray, List.map_cons, List.map_nil]); first | done | rfl) ?_; refine (spec_FirstSystem.calls  a0 r rb _  HSP.out).mono ?_; rintro e_ w1 ⟨v_, rfl, ho_, hb_⟩; refine ⟨_, rfl, ?_⟩; obtain ⟨Aw, cw, rfl⟩ := Kd.V_slice ho_; have n_HBw := Aside0.mk (below_step HBw.out hb_); clear HBw; have HBw := n_HBw; clear n_HBw; have HW := Aside0.mk (ho_); have HBw3 := Aside0.mk HBw.out; have HB3 := Aside0.mk (Below.refl w1.heap.size w1); clear ho_ hb_; have HB4 := Aside0.mk HB3.out; have HWC := Aside0.mk (Kd.V_reads' HW.out).2.2; have HWN := Aside0.mk (Kd.V_reads' HW.out).2.1; clear HW) | ((with_reducible refine gate_dst (N := 18) rfl ?_); refine goesL_ (some 18) rfl rfl Try.func22 (by kernel_rfl) rfl #[.int .i64 a0] rfl (by (try simp only [List.map_toArray, List.map_cons, List.map_nil]); first | done | rfl) ?_; refine (impl_FirstSystem.calls  a0 r rb _  HIM.out).mono ?_; rintro e_ w2 ⟨v_, rfl, ho_, hb_⟩; refine ⟨_, rfl, ?_⟩; obtain ⟨Ag, cg, rfl⟩ := Kd.R_slice (Kd.S_R ho_); have n_HBw := Aside0.mk (below_step HBw.out hb_); have n_HB3 := Aside0.mk (below_step HB3.out hb_); clear HBw; clear HB3; have HBw := n_HBw; have HB3 := n_HB3; clear n_HBw; clear n_HB3; have HG := Aside0.mk (show Kd.S (Kd.slice 3 (Kd.int .i64)) 29 w2 w1.heap.size (fun q_ => w1.heap.size ≤ q_) (.slice Ag r.length cg) r from Kd.S_lower (Kd.S_mono (Kd.S_bound ho_) (fun q_ hq_ => hq_.2.1)) HB4.out.size); clear ho_ hb_) | ((with_reducible refine gate_dst (N := 23) rfl ?_); refine goesL_ (some 23) rfl rfl Try.func12 (by kernel_rfl) rfl #[.slice Ag r.length cg, .slice Aw r.length cw] rfl (by (try simp only [List.map_toArray, List.map_cons, List.map_nil]); first | done | rfl) ?_; refine (laws_eqIntSS.calls K2 Ag cg r Aw cw r true _ (Kd.R_reads' (Kd.S_R HG.out)).2.2 (Kd.R_reads' (Kd.S_R HG.out)).2.1 (Kd.C_below HWC.out HB3.out) HWN.out H2.out).mono ?_; rintro e_ w_ ⟨rfl, ⟨nd_, rfl⟩⟩; refine ⟨_, rfl, ?_⟩; have hb_ := pw_below_drewN (Below.refl w2.heap.size w2) nd_; generalize w2.drewN nd_ = w3 at hb_ ⊢; have n_HBw := Aside0.mk (below_step HBw.out hb_); have n_HB3 := Aside0.mk (below_step HB3.out hb_); have n_HG := Aside0.mk (Kd.S_below HG.out hb_); clear HBw; clear HB3; clear HG; have HBw := n_HBw; have HB3 := n_HB3; have HG := n_HG; clear n_HBw; clear n_HB3; clear n_HG; clear hb_) | ((with_reducible refine gate_dst (N := 32) rfl ?_); refine goesL_ (some 32) rfl rfl Try.func16 (by kernel_rfl) rfl #[.slice Ag r.length cg, .int .i64 1] rfl (by (try simp only [List.map_toArray, List.map_cons, List.map_nil]); first | done | rfl) ?_; refine (laws_markIntSS.calls (w0 := w1) (m := 1) (xs := r) HRL.out.1 HRL.out.2 (by omega) (by omega) _ HB3.out HG.out).mono ?_; rintro e_ w4 ⟨rfl, hs_, hb_, hk_⟩; refine ⟨_, rfl, ?_⟩; have n_HBw := Aside0.mk (below_step HBw3.out hb_); have n_HB3 := Aside0.mk (hb_); clear HBw; clear HB3; clear HG; have HBw := n_HBw; have HB3 := n_HB3; clear n_HBw; clear n_HB3; have HG := Aside0.mk hs_; clear hs_ hb_ hk_) | ((with_reducible refine gate_dst (N := 35) rfl ?_); refine goesL_ (some 35) rfl rfl Try.func23 (by kernel_rfl) rfl #[.slice Ag r.length cg, .int .i64 1] rfl (by (try simp only [List.map_toArray, List.map_cons, List.map_nil]); first | done | rfl) ?_; refine (held_at K4 Ag cg r _ HG.out H4.out).mono ?_; rintro e_ w_ ⟨rfl, ⟨nd_, rfl⟩⟩; refine ⟨_, rfl, ?_⟩; have hb_ := pw_below_drewN (Below.refl w4.heap.size w4) nd_; generalize w4.drewN nd_ = w5 at hb_ ⊢; have n_HBw := Aside0.mk (below_step HBw.out hb_); have n_HB3 := Aside0.mk (below_step HB3.out hb_); have n_HG := Aside0.mk (Kd.S_below HG.out hb_); clear HBw; clear HB3; clear HG; have HBw := n_HBw; have HB3 := n_HB3; have HG := n_HG; clear n_HBw; clear n_HB3; clear n_HG; clear hb_) | ((with_reducible refine gate_dst (N := 43) rfl ?_); refine goesL_ (some 43) rfl rfl Try.func22 (by kernel_rfl) rfl #[.int .i64 a0] rfl (by (try simp only [List.map_toArray, List.map_cons, List.map_nil]); first | done | rfl) ?_; refine (impl_FirstSystem.calls  a0 r rb _  HIM.out).mono ?_; rintro e_ w6 ⟨v_, rfl, ho_, hb_⟩; refine ⟨_, rfl, ?_⟩; obtain ⟨Ah, ch, rfl⟩ := Kd.R_slice (Kd.S_R ho_); have n_HBw := Aside0.mk (below_step HBw.out hb_); have n_HB3 := Aside0.mk (below_step HB3.out hb_); have n_HG := Aside0.mk (Kd.S_below HG.out hb_); clear HBw; clear HB3; clear HG; have HBw := n_HBw; have HB3 := n_HB3; have HG := n_HG; clear n_HBw; clear n_HB3; clear n_HG; have HH := Aside0.mk ho_; clear ho_ hb_) | ((with_reducible refine gate_dst (N := 48) rfl ?_); refine goesL_ (some 48) rfl rfl Try.func12 (by kernel_rfl) rfl #[.slice Ah r.length ch, .slice Aw r.length cw] rfl (by (try simp only [List.map_toArray, List.map_cons, List.map_nil]); first | done | rfl) ?_; refine (laws_eqIntSS.calls K2 Ah ch r Aw cw r true _ (Kd.R_reads' (Kd.S_R HH.out)).2.2 (Kd.R_reads' (Kd.S_R HH.out)).2.1 (Kd.C_below HWC.out HB3.out) HWN.out H2.out).mono ?_; rintro e_ w_ ⟨rfl, ⟨nd_, rfl⟩⟩; refine ⟨_, rfl, ?_⟩; have hb_ := pw_below_drewN (Below.refl w6.heap.size w6) nd_; generalize w6.drewN nd_ = w7 at hb_ ⊢; have n_HBw := Aside0.mk (below_step HBw.out hb_); have n_HB3 := Aside0.mk (below_step HB3.out hb_); have n_HG := Aside0.mk (Kd.S_below HG.out hb_); clear HBw; clear HB3; clear HG; have HBw := n_HBw; have HB3 := n_HB3; have HG := n_HG; clear n_HBw; clear n_HB3; clear n_HG; clear hb_) | ((with_reducible refine gate_dst (N := 57) rfl ?_); refine goesL_ (some 57) rfl rfl Try.func23 (by kernel_rfl) rfl #[.slice Ag r.length cg, .int .i64 1] rfl (by (try simp only [List.map_toArray, List.map_cons, List.map_nil]); first | done | rfl) ?_; refine (held_at K4 Ag cg r _ HG.out H4.out).mono ?_; rintro e_ w_ ⟨rfl, ⟨nd_, rfl⟩⟩; refine ⟨_, rfl, ?_⟩; have hb_ := pw_below_drewN (Below.refl w7.heap.size w7) nd_; generalize w7.drewN nd_ = w8 at hb_ ⊢; have n_HBw := Aside0.mk (below_step HBw.out hb_); have n_HB3 := Aside0.mk (below_step HB3.out hb_); have n_HG := Aside0.mk (Kd.S_below HG.out hb_); clear HBw; clear HB3; clear HG; have HBw := n_HBw; have HB3 := n_HB3; have HG := n_HG; clear n_HBw; clear n_HB3; clear n_HG; clear hb_))
  go_ret
  exact ⟨rfl, HBw.out⟩

end Go.Proofs.Yteepinopcmcklaa.PFnExactFirstSystem
