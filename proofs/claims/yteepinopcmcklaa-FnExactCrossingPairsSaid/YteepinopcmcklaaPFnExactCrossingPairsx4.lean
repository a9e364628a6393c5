-- Written by plug.py, a program of this session, over the kit's print of the function: checked by Lean alone.
import Derived.Test.YteepinopcmcklaaPFnExactCrossingPairsx0
import Derived.Test.YteepinopcmcklaaPFnExactCrossingPairsx3
namespace Go.Proofs.Yteepinopcmcklaa.PFnExactCrossingPairs
open Go.RowKit Go.Proofs.YteepinopcmcklaaW.PrintWords Go.Proofs.YteepinopcmcklaaW.PrintLast Go.Proofs.YteepinopcmcklaaW.PrintMore
attribute [local go_sem] max2_int min2_int max_two min_two max_three min_three max_four min_four   -- for this text's walks alone
set_option linter.unusedVariables false
set_option linter.unusedSimpArgs false

/-! ### impl_PairsOfRow: function 42 -/
/-- A number's list: it and its places. -/
def impl_PairsOfRow.one (l : List Int) (n : Int) : List Int := [n, rd ((impl_pairs.st l l.length).getD n.toNat []) 0, rd ((impl_pairs.st l l.length).getD n.toNat []) 1]
def impl_PairsOfRow.ok (l : List Int) (n : Int) : Bool := decide (1 ≤ n ∧ n ≤ 20) && decide (((impl_pairs.st l l.length).getD n.toNat []).length = 2)
def impl_PairsOfRow.f (k : Nat) (l0 : List Int) : Option (List (List Int) × Bool) := (impl_isPairs.f k l0).bind fun t => if t = true then (impl_numbers.f k l0).bind (fun ns => if ns.length ≤ 1000 ∧ ns.all (impl_PairsOfRow.ok l0) = true then some (ns.map (impl_PairsOfRow.one l0), true) else none) else some ([], false)
theorem impl_PairsOfRow.mono : ∀ a0 k, LeO (impl_PairsOfRow.f k a0) (impl_PairsOfRow.f (k + 1) a0) := by
  intro a0 k
  unfold impl_PairsOfRow.f
  refine LeO.bind (impl_isPairs.mono _ _) (fun t => LeO.ite ?_ (LeO.refl _))
  exact LeO.bind (impl_numbers.mono _ _) (fun _ => LeO.refl _)
theorem impl_PairsOfRow.lit (w : World) {base : Nat} (hb : base ≤ w.heap.size) (x y z : Int) : Kd.R (Kd.int .i64) 3 (w.alloc (.cells #[.int .i64 x, .int .i64 y, .int .i64 z] 3 (0, 0))) base (fun k => k = w.heap.size) (.slice (some ⟨w.heap.size, 0, none⟩) 3 3) [x, y, z] :=
  Kd.R_of_own ⟨rfl, .inr ⟨w.heap.size, 3, _, rfl, hb, heap_alloc_new _ _, Nat.le_refl _, by unfold maxLen; omega, rfl, rfl⟩⟩ (fun k hk => by
    have : some w.heap.size = some k := hk
    exact (Option.some.inj this).symm)
theorem impl_PairsOfRow.new {w : World} {o : Obj} {a : Addr} {u : Value} (h : w.cell? a = some u) : (w.alloc o).cell? a = some u := (World.cell?_alloc_lt _ _ _ (World.block_lt_of_cell? _ _ h)).trans h
/-- What is held from a loop's beginning on. -/
theorem impl_PairsOfRow.held {wl wr w' : World} {a b c : Addr} {u v x : Value} (h : Below wl.heap.size wl w') (h1 : Below wl.heap.size wl wr) (hd : wr.cell? a = some u ∧ wr.cell? b = some v ∧ wr.cell? c = some x) (hl : a.block < wl.heap.size ∧ b.block < wl.heap.size ∧ c.block < wl.heap.size) : w'.cell? a = some u ∧ w'.cell? b = some v ∧ w'.cell? c = some x :=
  ⟨(h.cell hl.1).trans ((h1.cell hl.1).symm.trans hd.1), (h.cell hl.2.1).trans ((h1.cell hl.2.1).symm.trans hd.2.1), (h.cell hl.2.2).trans ((h1.cell hl.2.2).symm.trans hd.2.2)⟩
set_option maxHeartbeats 8000000 in
set_option maxRecDepth 100000 in
theorem impl_PairsOfRow.calls (k : Nat) (A0 : Option Addr) (c0 : Nat) (l0 : List Int) (r1 : List (List Int)) (r2 : Bool) (w : World) (hr0 : Kd.C (Kd.int .i64) w A0 l0.length l0) (hc0 : l0.length ≤ c0) (h : impl_PairsOfRow.f k l0 = some (r1, r2)) :
    Calls Try.prog 42 #[.slice A0 l0.length c0] w fun e w' => ∃ v0_ : Value, e = .returned (.tuple #[v0_, .bool r2]) ∧ Kd.S (Kd.slice 3 (Kd.int .i64)) 29 w' w.heap.size (fun _ => True) v0_ r1 ∧ Below w.heap.size w w' := by
  have HR0 := Aside0.mk hr0
  have HC0 := Aside0.mk hc0
  clear hr0 hc0
  have HB := Aside0.mk (Below.refl w.heap.size w)
  obtain ⟨t, ht, H⟩ := Option.bind_eq_some_iff.mp h
  clear h
  have A2 := Aside0.mk ht
  clear ht
  cases t with
  | false =>
    rw [if_neg (by decide)] at H
    obtain ⟨rfl, rfl⟩ := Prod.mk.inj (Option.some.inj H)
    clear H
    go_enter Try.func42, Try.ntmps42
    go_wp2_with (first | ((with_reducible refine gate_callee (f := 53) rfl ?_); refine goesL_ (some 10) rfl rfl Try.func53 (by kernel_rfl) rfl #[.slice A0 l0.length c0] rfl (by (try simp only [List.map_toArray, List.map_cons, List.map_nil]); first | done | rfl) ?_; refine (impl_isPairs.calls k _ _ l0 _ _ (Kd.C_below HR0.out HB.out) HC0.out A2.out).mono ?_; rintro e w4 ⟨rfl, hb⟩; refine ⟨_, rfl, ?_⟩; have n0_ := Aside0.mk (below_step HB.out hb); clear HB; have HB := n0_; clear n0_ hb))
    go_ret2
    exact ⟨_, rfl, Kd.S_nil _ _ _ _ _, HB.out⟩
  | true =>
    rw [if_pos rfl] at H
    obtain ⟨ns, hns, H⟩ := Option.bind_eq_some_iff.mp H
    by_cases hok : ns.length ≤ 1000 ∧ ns.all (impl_PairsOfRow.ok l0) = true
    · rw [if_pos hok] at H
      obtain ⟨rfl, rfl⟩ := Prod.mk.inj (Option.some.inj H)
      clear H
      have NS := Aside0.mk hns
      have OK := Aside0.mk hok
      have TT := Aside0.mk (impl_isPairs.tt A2.out)
      have ROW := Aside0.mk (impl_isPairs.row TT.out.1)
      clear hns hok
      go_enter Try.func42, Try.ntmps42
      go_wp2_with (first | ((with_reducible refine gate_callee (f := 53) rfl ?_); refine goesL_ (some 10) rfl rfl Try.func53 (by kernel_rfl) rfl #[.slice A0 l0.length c0] rfl (by (try simp only [List.map_toArray, List.map_cons, List.map_nil]); first | done | rfl) ?_; refine (impl_isPairs.calls k _ _ l0 _ _ (Kd.C_below HR0.out HB.out) HC0.out A2.out).mono ?_; rintro e w4 ⟨rfl, hb⟩; refine ⟨_, rfl, ?_⟩; have n0_ := Aside0.mk (below_step HB.out hb); clear HB; have HB := n0_; clear n0_ hb) | ((with_reducible refine gate_callee (f := 54) rfl ?_); refine goesL_ (some 14) rfl rfl Try.func54 (by kernel_rfl) rfl #[.slice A0 l0.length c0] rfl (by (try simp only [List.map_toArray, List.map_cons, List.map_nil]); first | done | rfl) ?_; refine (impl_pairs.calls _ _ l0 _ (Kd.C_below HR0.out HB.out) HC0.out ROW.out.2 ROW.out.1).mono ?_; rintro e w5 ⟨vs, rfl, hsz, hrows, hb⟩; refine ⟨_, rfl, ?_⟩; have HSZ := Aside0.mk hsz; have HROWS := Aside0.mk hrows; have HONE := Aside0.mk (impl_pairs.oneR hrows); have HB4 := HB; have n0_ := Aside0.mk (below_step HB.out hb); clear HB; have HB := n0_; clear n0_ hsz hrows hb) | (refine impl_pairs.stored (w5 := w5) rfl (.tmp 4) (.tmp 15) rfl _ rfl rfl rfl HSZ.out HONE.out HROWS.out ?_; intro W6 hb6 hg6 hr6; have n0_ := Aside0.mk (below_step HB.out hb6); clear HB; have HB := n0_; clear n0_ hb6; have HG6 := Aside0.mk hg6; have HR6 := Aside0.mk hr6; clear hg6 hr6) | ((with_reducible refine gate_callee (f := 55) rfl ?_); refine goesL_ (some 18) rfl rfl Try.func55 (by kernel_rfl) rfl #[.slice A0 l0.length c0] rfl (by (try simp only [List.map_toArray, List.map_cons, List.map_nil]); first | done | rfl) ?_; refine (impl_numbers.calls k _ _ l0 ns _ (Kd.C_below HR0.out HB.out) HC0.out NS.out).mono ?_; rintro e w7 ⟨v7, rfl, ho7, hb7⟩; refine ⟨_, rfl, ?_⟩; obtain ⟨A7, c7, rfl⟩ := Kd.R_slice ho7; have HN7 := Aside0.mk (Kd.R_reads' ho7).2.2; have HG7 := Aside0.mk ((hb7.block _ (blk_lt HG6.out)).trans HG6.out); have HR7 := Aside0.mk (fun (n : Nat) (v : Value) (hv : vs[n]? = some v) => Kd.R_below (HR6.out n v hv) hb7); have n0_ := Aside0.mk (below_step HB.out hb7); clear HB; have HB := n0_; clear n0_ ho7 hb7))
      obtain ⟨wl, hwl⟩ : ∃ wl : World, wl = w7 := ⟨_, rfl⟩
      subst hwl
      go_loopg [6, 20] (ns.length + 1) (fun kq v6 v20 w' => ∃ x : Int, v20 = .int .i64 x ∧ Aside0 (0 ≤ x ∧ x ≤ (ns.length : Int) ∧ kq + x.toNat = ns.length + 1) ∧ Aside0 (Kd.S (Kd.slice 3 (Kd.int .i64)) 29 w' wl.heap.size (fun _ => True) v6 ((ns.take x.toNat).map (impl_PairsOfRow.one l0))) ∧ Aside0 (Below wl.heap.size wl w'))
      case atStart => exact ⟨0, rfl, ⟨by omega⟩, ⟨Kd.S_nil _ _ _ _ _⟩, ⟨Below.refl _ _⟩⟩
      case round =>
        obtain ⟨x, rfl, HX, HS, HBL⟩ := hrel
        cases gk with
        | zero => exact absurd HX.out (by omega)
        | succ k1 =>
          by_cases hx : x < (ns.length : Int)
          · have cx : decide (x < (ns.length : Int)) = true := decide_eq_true hx
            obtain ⟨n, hn⟩ : ∃ n, n = rd ns x := ⟨_, rfl⟩
            have hxt : x.toNat < ns.length := by have := HX.out; omega
            have hnm : ns[x.toNat]? = some n := by rw [hn, List.getElem?_eq_getElem hxt]; simp [rd, List.getD_eq_getElem?_getD, hxt]
            have hnok := List.all_eq_true.1 OK.out.2 n (List.mem_of_getElem? hnm)
            unfold impl_PairsOfRow.ok at hnok
            rw [Bool.and_eq_true, decide_eq_true_eq, decide_eq_true_eq] at hnok
            obtain ⟨hn20, hy2⟩ := hnok
            obtain ⟨y, hy⟩ : ∃ y, y = (impl_pairs.st l0 l0.length).getD n.toNat [] := ⟨_, rfl⟩
            rw [← hy] at hy2
            have hone : impl_PairsOfRow.one l0 n = [n, rd y 0, rd y 1] := by unfold impl_PairsOfRow.one; rw [← hy]
            have hv := List.getElem?_eq_getElem (l := vs) (i := n.toNat) (by rw [HSZ.out]; omega)
            generalize vs[n.toNat]'(by rw [HSZ.out]; omega) = v at hv
            have hr := HR7.out _ _ hv
            rw [← hy] at hr
            obtain ⟨A, c, rfl⟩ := Kd.R_slice hr
            have hrw := Kd.R_below hr HBL.out
            obtain ⟨ad, e_, hc0_⟩ := Kd.at_int (Kd.R_reads' hrw).2.2 0 (Int.le_refl _) (by omega)
            subst e_
            obtain ⟨ad', e_, hc1_⟩ := Kd.at_int (Kd.R_reads' hrw).2.2 1 (by omega) (by omega)
            obtain rfl : ad = ad' := by injection e_
            obtain ⟨gy, rfl⟩ := Kd.R_head hr
            have hcv : wr.cell? ⟨w5.heap.size, n.toNat, none⟩ = some (.slice (some ⟨gy, 0, none⟩) y.length c) := by
              rw [cell_of_row wr _ _ _ _ (0, 0) ((HBL.out.block _ (blk_lt HG7.out)).trans HG7.out)]
              simpa using hv
            obtain ⟨an, en, hcn⟩ := Kd.at_int HN7.out x HX.out.1 hx
            subst en
            have hcn' := (HBL.out.cell (World.block_lt_of_cell? _ _ hcn)).trans hcn
            rw [← hn] at hcn'
            have d0 : wr.cell? ⟨gy, 0, none⟩ = some (.int .i64 (rd y 0)) := by simpa [Addr.add] using hc0_
            have d1 : wr.cell? ⟨gy, 1, none⟩ = some (.int .i64 (rd y 1)) := by simpa [Addr.add] using hc1_
            obtain ⟨acc, hacc⟩ : ∃ acc, acc = (ns.take x.toNat).map (impl_PairsOfRow.one l0) := ⟨_, rfl⟩
            rw [← hacc] at HS
            have HL6 := Aside0.mk (show acc.length = x.toNat by rw [hacc]; simp; omega)
            have HACC := Aside0.mk hacc
            clear hacc
            obtain ⟨A6, c6, rfl⟩ := Kd.R_slice (Kd.S_R HS.out)
            have HD := Aside0.mk (show wr.cell? ⟨w5.heap.size, n.toNat, none⟩ = some (.slice (some ⟨gy, 0, none⟩) y.length c) ∧ wr.cell? ⟨gy, 0, none⟩ = some (.int .i64 (rd y 0)) ∧ wr.cell? ⟨gy, 1, none⟩ = some (.int .i64 (rd y 1)) from ⟨hcv, d0, d1⟩)
            have HLT := Aside0.mk (show (⟨w5.heap.size, n.toNat, none⟩ : Addr).block < wl.heap.size ∧ (⟨gy, 0, none⟩ : Addr).block < wl.heap.size ∧ (⟨gy, 1, none⟩ : Addr).block < wl.heap.size from ⟨blk_lt HG7.out, Kd.R_lt hr gy rfl, Kd.R_lt hr gy rfl⟩)
            have HNN := Aside0.mk hnm
            have HO := Aside0.mk hone
            have HY2 := Aside0.mk hy2
            have HXX := Aside0.mk hx
            have p1 : (0 ≤ x) = True := eq_true HX.out.1
            have q1 : (x < (ns.length : Int)) = True := eq_true hx
            have p2 : (0 ≤ n) = True := eq_true (by omega)
            have q2 : (n < 21) = True := eq_true (by omega)
            have q3 : (0 < (y.length : Int)) = True := eq_true (by omega)
            have q3' : (0 < y.length) = True := eq_true (by omega)
            have q4 : (1 < (y.length : Int)) = True := eq_true (by omega)
            have q4' : (1 < y.length) = True := eq_true (by omega)
            clear hx hn hnm hn20 hy2 hy hone hv hr hrw hc0_ hc1_ e_ hcv hcn hxt d0 d1
            go_wp2
            have HS8 := Aside0.mk (Kd.S_drew HS.out)
            have HB8 := Aside0.mk (below_drew HBL.out)
            refine start_ (n := 16) (S := fun w' => w'.cell? ⟨w5.heap.size, n.toNat, none⟩ = some (.slice (some ⟨gy, 0, none⟩) y.length c) ∧ w'.cell? ⟨gy, 0, none⟩ = some (.int .i64 (rd y 0)) ∧ w'.cell? ⟨gy, 1, none⟩ = some (.int .i64 (rd y 1))) (ds := []) #[false, false, false, false, false, false, false, false, false, false, false, false, false, false, false, false] (by kernel_rfl) rfl rfl HD.out (fun hHeld => ?_)
            generalize wr.drew = w8 at HS8 HB8 hHeld ⊢
            refine pure_ (i := 0) (N := some 24) (v := ?_) (a' := ?_) #[true, false, false, false, false, false, false, false, false, false, false, false, false, false, false, false] rfl rfl (by kernel_rfl) (fun _ _ _ h => h) (Or.inl ⟨by rfl, ?_⟩) ?_ ?_
            rotate_left
            · intro w'
              go_simp
              with_reducible rfl
            rotate_left
            · simp only [Act.put, List.setIfInBounds_toArray, List.set_cons_zero, List.set_cons_succ, i64_w, i32_w]
              rfl
            refine pure_ (i := 1) (N := some 25) (v := ?_) (a' := ?_) #[true, true, false, false, false, false, false, false, false, false, false, false, false, false, false, false] rfl rfl (by kernel_rfl) (fun _ _ _ h => h) (Or.inl ⟨by rfl, ?_⟩) ?_ ?_
            rotate_left
            · intro w'
              go_simp
              with_reducible rfl
            rotate_left
            · simp only [Act.put, List.setIfInBounds_toArray, List.set_cons_zero, List.set_cons_succ, i64_w, i32_w]
              rfl
            refine pure_ (i := 2) (N := some 26) (v := ?_) (a' := ?_) #[true, true, true, false, false, false, false, false, false, false, false, false, false, false, false, false] rfl rfl (by kernel_rfl) (fun _ _ _ h => h) (Or.inl ⟨by rfl, ?_⟩) ?_ ?_
            rotate_left
            · intro w'
              go_simp
              with_reducible rfl
            rotate_left
            · simp only [Act.put, List.setIfInBounds_toArray, List.set_cons_zero, List.set_cons_succ, i64_w, i32_w]
              rfl
            refine pure_ (i := 3) (N := some 27) (v := ?_) (a' := ?_) #[true, true, true, true, false, false, false, false, false, false, false, false, false, false, false, false] rfl rfl (by kernel_rfl) (fun _ _ _ h => h) (Or.inl ⟨by rfl, ?_⟩) ?_ ?_
            rotate_left
            · intro w'
              go_simp
              with_reducible rfl
            rotate_left
            · simp only [Act.put, List.setIfInBounds_toArray, List.set_cons_zero, List.set_cons_succ, i64_w, i32_w]
              rfl
            refine pure_ (i := 7) (N := some 31) (v := ?_) (a' := ?_) #[true, true, true, true, false, false, false, true, false, false, false, false, false, false, false, false] rfl rfl (by kernel_rfl) (fun _ _ _ h => h) (Or.inl ⟨by rfl, ?_⟩) ?_ ?_
            rotate_left
            · intro w'
              go_simp
              with_reducible rfl
            rotate_left
            · simp only [Act.put, List.setIfInBounds_toArray, List.set_cons_zero, List.set_cons_succ, i64_w, i32_w]
              rfl
            refine pure_ (i := 8) (N := some 32) (v := ?_) (a' := ?_) #[true, true, true, true, false, false, false, true, true, false, false, false, false, false, false, false] rfl rfl (by kernel_rfl) (fun _ _ _ h => h) (Or.inl ⟨by rfl, ?_⟩) ?_ ?_
            rotate_left
            · intro w'
              go_simp
              with_reducible rfl
            rotate_left
            · simp only [Act.put, List.setIfInBounds_toArray, List.set_cons_zero, List.set_cons_succ, i64_w, i32_w]
              rfl
            refine take_ (i := 4) (N := some 28) (v := ?_) (a' := ?_) #[true, true, true, true, true, false, false, true, true, false, false, false, false, false, false, false] rfl rfl (by kernel_rfl) (fun _ _ _ h => h) (Or.inl ⟨by rfl, ?_⟩) hHeld ?_ ?_
            rotate_left
            · rintro w' ⟨s0, s1, s2⟩
              go_simp
              with_reducible rfl
            rotate_left
            · simp only [Act.put, List.setIfInBounds_toArray, List.set_cons_zero, List.set_cons_succ, i64_w, i32_w]
              rfl
            refine pure_ (i := 5) (N := some 29) (v := ?_) (a' := ?_) #[true, true, true, true, true, true, false, true, true, false, false, false, false, false, false, false] rfl rfl (by kernel_rfl) (fun _ _ _ h => h) (Or.inl ⟨by rfl, ?_⟩) ?_ ?_
            rotate_left
            · intro w'
              go_simp
              with_reducible rfl
            rotate_left
            · simp only [Act.put, List.setIfInBounds_toArray, List.set_cons_zero, List.set_cons_succ, i64_w, i32_w]
              rfl
            refine take_ (i := 6) (N := some 30) (v := ?_) (a' := ?_) #[true, true, true, true, true, true, true, true, true, false, false, false, false, false, false, false] rfl rfl (by kernel_rfl) (fun _ _ _ h => h) (Or.inl ⟨by rfl, ?_⟩) hHeld ?_ ?_
            rotate_left
            · rintro w' ⟨s0, s1, s2⟩
              go_simp
              with_reducible rfl
            rotate_left
            · simp only [Act.put, List.setIfInBounds_toArray, List.set_cons_zero, List.set_cons_succ, i64_w, i32_w]
              rfl
            refine take_ (i := 9) (N := some 33) (v := ?_) (a' := ?_) #[true, true, true, true, true, true, true, true, true, true, false, false, false, false, false, false] rfl rfl (by kernel_rfl) (fun _ _ _ h => h) (Or.inl ⟨by rfl, ?_⟩) hHeld ?_ ?_
            rotate_left
            · rintro w' ⟨s0, s1, s2⟩
              go_simp
              with_reducible rfl
            rotate_left
            · simp only [Act.put, List.setIfInBounds_toArray, List.set_cons_zero, List.set_cons_succ, i64_w, i32_w]
              rfl
            refine pure_ (i := 10) (N := some 34) (v := ?_) (a' := ?_) #[true, true, true, true, true, true, true, true, true, true, true, false, false, false, false, false] rfl rfl (by kernel_rfl) (fun _ _ _ h => h) (Or.inl ⟨by rfl, ?_⟩) ?_ ?_
            rotate_left
            · intro w'
              go_simp
              with_reducible rfl
            rotate_left
            · simp only [Act.put, List.setIfInBounds_toArray, List.set_cons_zero, List.set_cons_succ, i64_w, i32_w]
              rfl
            refine take_ (i := 11) (N := some 35) (v := ?_) (a' := ?_) #[true, true, true, true, true, true, true, true, true, true, true, true, false, false, false, false] rfl rfl (by kernel_rfl) (fun _ _ _ h => h) (Or.inl ⟨by rfl, ?_⟩) hHeld ?_ ?_
            rotate_left
            · rintro w' ⟨s0, s1, s2⟩
              go_simp
              with_reducible rfl
            rotate_left
            · simp only [Act.put, List.setIfInBounds_toArray, List.set_cons_zero, List.set_cons_succ, i64_w, i32_w]
              rfl
            refine one_ (i := 12) (N := some 36) #[true, true, true, true, true, true, true, true, true, true, true, true, true, false, false, false] rfl rfl (by kernel_rfl) (by decide) (fun K hK => ?_)
            refine value_ (w1 := ?_) (v := ?_) (by rfl) rfl ?_ ?_
            rotate_left 2
            · go_simp
              constructor
              · rfl
              · rfl
            refine hK.out _ _ ⟨impl_PairsOfRow.new hHeld.1, impl_PairsOfRow.new hHeld.2.1, impl_PairsOfRow.new hHeld.2.2⟩ (fun hHeld => ?_)
            clear hK K
            refine norm_ (a' := ?_) ?_ ?_
            rotate_left
            · show Act.put _ (some 36) _ = _
              simp only [Act.put, List.setIfInBounds_toArray, List.set_cons_zero, List.set_cons_succ, i64_w, i32_w]
              rfl
            have HO9 := Aside0.mk (impl_PairsOfRow.lit w8 HB8.out.size n (rd y 0) (rd y 1))
            have HS9 := Aside0.mk (Kd.S_mono (ok' := fun k => True ∧ ¬ k = w8.heap.size) (Kd.S_alloc (Kd.S_bound HS8.out) (.cells #[.int .i64 n, .int .i64 (rd y 0), .int .i64 (rd y 1)] 3 (0, 0))) (fun k hk => ⟨trivial, by have := hk.2.2.1; omega⟩))
            have HB9 := Aside0.mk (below_alloc HB8.out (.cells #[.int .i64 n, .int .i64 (rd y 0), .int .i64 (rd y 1)] 3 (0, 0)))
            generalize hw9 : w8.alloc (.cells #[.int .i64 n, .int .i64 (rd y 0), .int .i64 (rd y 1)] 3 (0, 0)) = w9 at HO9 HS9 HB9 hHeld ⊢
            have HZ9 := Aside0.mk (show w9.heap.size = w8.heap.size + 1 by rw [← hw9]; show (w8.heap.push _).size = _; simp)
            clear hw9
            refine one_ (i := 13) (N := some 37) #[true, true, true, true, true, true, true, true, true, true, true, true, true, true, false, false] rfl rfl (by kernel_rfl) (by decide) (fun K hK => ?_)
            refine value_ (w1 := ?_) (v := ?_) (by rfl) rfl ?_ ?_
            rotate_left 2
            · go_simp
              constructor
              · rfl
              · rfl
            refine hK.out _ _ ⟨impl_PairsOfRow.new hHeld.1, impl_PairsOfRow.new hHeld.2.1, impl_PairsOfRow.new hHeld.2.2⟩ (fun hHeld => ?_)
            clear hK K
            refine norm_ (a' := ?_) ?_ ?_
            rotate_left
            · show Act.put _ (some 37) _ = _
              simp only [Act.put, List.setIfInBounds_toArray, List.set_cons_zero, List.set_cons_succ, i64_w, i32_w]
              rfl
            refine one_ (i := 14) (N := some 38) #[true, true, true, true, true, true, true, true, true, true, true, true, true, true, true, false] rfl rfl (by kernel_rfl) (by decide) (fun K hK => ?_)
            refine Kd.S_append_step (Kd.slice 3 (Kd.int .i64)) (w0 := wl) (W := w9) wl.heap.size (by rfl) (.tmp 24) (.tmp 37) 22 29 (.slice none 0 0) 24 rfl Try.underlying22 impl_pairs.info22 rfl (by decide) (by omega) (.slice A6 acc.length c6) acc [n, rd y 0, rd y 1] [.slice (some ⟨w8.heap.size, 0, none⟩) 3 3] (fun _ => True) (fun k => k = w8.heap.size) rfl rfl ?aP ?aK ?aF ?aO ?aB ?aS ?aL ?_
            (case aP => exact Kd.M_row HO9.out)
            (case aK => exact fun k hk => ⟨trivial, fun e => by have := Kd.S_lt HS8.out k e.symm; omega⟩)
            (case aF => exact fun _ _ => trivial)
            (case aO => exact HS9.out)
            (case aB => exact HB9.out)
            (case aS => exact HB9.out.size)
            (case aL => have := HL6.out; have := OK.out.1; have := HX.out; have := HXX.out; omega)
            intro v10 w10 ho10 hb10 hg10 hat10
            have HS10 := Aside0.mk ho10
            have HB10 := Aside0.mk hb10
            clear ho10 hg10 hat10
            have HDX := impl_PairsOfRow.held hb10 HBL.out HD.out HLT.out
            refine hK.out _ _ ⟨HDX.1, HDX.2.1, HDX.2.2⟩ (fun hHeld => ?_)
            clear hK K
            refine norm_ (a' := ?_) ?_ ?_
            rotate_left
            · show Act.put _ (some 38) _ = _
              simp only [Act.put, List.setIfInBounds_toArray, List.set_cons_zero, List.set_cons_succ, i64_w, i32_w]
              rfl
            refine pure_ (i := 15) (N := some 6) (v := ?_) (a' := ?_) #[true, true, true, true, true, true, true, true, true, true, true, true, true, true, true, true] rfl rfl (by kernel_rfl) (fun _ _ _ h => h) (Or.inl ⟨by rfl, ?_⟩) ?_ ?_
            rotate_left
            · intro w'
              go_simp
              with_reducible rfl
            rotate_left
            · simp only [Act.put, List.setIfInBounds_toArray, List.set_cons_zero, List.set_cons_succ, i64_w, i32_w]
              rfl
            refine done_ (by kernel_rfl) ?_
            (try simp only [Exit.inBlock, Exit.then])
            try go_wp2
            go_roundg k1
            case measure => have := HX.out; omega
            case rel =>
              refine ⟨x + 1, by rw [show wrap64 (x + 1) = x + 1 by have := HX.out; have := HXX.out; have := OK.out.1; unfold wrap64; omega], ⟨by have := HX.out; have := HXX.out; omega⟩, ⟨?_⟩, HB10⟩
              rw [show (x + 1).toNat = x.toNat + 1 by have := HX.out; omega, List.take_add_one, HNN.out, List.map_append, Option.toList_some, List.map_singleton, HO.out, ← HACC.out]
              exact HS10.out
          · have cx : decide (x < (ns.length : Int)) = false := decide_eq_false hx
            have HSX := Aside0.mk (show Kd.S (Kd.slice 3 (Kd.int .i64)) 29 wr w.heap.size (fun _ => True) _ (ns.map (impl_PairsOfRow.one l0)) from by
              have h := HS.out
              rw [List.take_of_length_le (by have := HX.out; omega)] at h
              exact Kd.S_lower h HB.out.size)
            clear hx
            go_wp2
            go_ret2
            exact ⟨_, rfl, HSX.out, below_step HB.out HBL.out⟩
    · rw [if_neg hok] at H
      cases H

/-! ### impl_CrossingPairs: function 26 -/
mutual
def impl_CrossingPairs.l0 : Nat → List (List Int) → Int → List (List Int) → Int → Int → Option (Int × Bool)
  | 0, _, _, _, _, _ => none
  | k + 1, x4, x6, x18, x19, x20 => if x20 < x19 then (if 0 ≤ x20 then (if x20 < (x18.length : Int) then (impl_CrossingPairs.l1 k x4 x6 (rd_L1 x18 x20) x18 x19 x20 x4 (x4.length : Int) 0) else (none)) else (none)) else (some (x6, true))
def impl_CrossingPairs.l1 : Nat → List (List Int) → Int → List Int → List (List Int) → Int → Int → List (List Int) → Int → Int → Option (Int × Bool)
  | 0, _, _, _, _, _, _, _, _, _ => none
  | k + 1, x4, x6, x8, x18, x19, x20, x24, x25, x26 => if x26 < x25 then (if 0 ≤ x26 then (if x26 < (x24.length : Int) then (if 1 < (x8.length : Int) then (if 1 < ((rd_L1 x24 x26).length : Int) then (if (rd x8 1) < (rd (rd_L1 x24 x26) 1) then (if 2 < (x8.length : Int) then (if (rd (rd_L1 x24 x26) 1) < (rd x8 2) then (if 2 < ((rd_L1 x24 x26).length : Int) then (if (rd x8 2) < (rd (rd_L1 x24 x26) 2) then (impl_CrossingPairs.l1 k x4 (wrap64 (x6 + 1)) x8 x18 x19 x20 x24 x25 (wrap64 (x26 + 1))) else (impl_CrossingPairs.l1 k x4 x6 x8 x18 x19 x20 x24 x25 (wrap64 (x26 + 1)))) else (none)) else (impl_CrossingPairs.l1 k x4 x6 x8 x18 x19 x20 x24 x25 (wrap64 (x26 + 1)))) else (none)) else (impl_CrossingPairs.l1 k x4 x6 x8 x18 x19 x20 x24 x25 (wrap64 (x26 + 1)))) else (none)) else (none)) else (none)) else (none)) else (impl_CrossingPairs.l0 k x4 x6 x18 x19 (wrap64 (x20 + 1)))
end
def impl_CrossingPairs.f (k : Nat) (l0 : List Int) : Option (Int × Bool) := (impl_PairsOfRow.f k l0).bind fun bt150 => (if bt150.2 = true then (impl_CrossingPairs.l0 k bt150.1 0 bt150.1 (bt150.1.length : Int) 0) else (some (0, false)))
theorem impl_CrossingPairs.mono_l : ∀ k, (∀ y0 y1 y2 y3 y4, LeO (impl_CrossingPairs.l0 k y0 y1 y2 y3 y4) (impl_CrossingPairs.l0 (k + 1) y0 y1 y2 y3 y4)) ∧ (∀ y0 y1 y2 y3 y4 y5 y6 y7 y8, LeO (impl_CrossingPairs.l1 k y0 y1 y2 y3 y4 y5 y6 y7 y8) (impl_CrossingPairs.l1 (k + 1) y0 y1 y2 y3 y4 y5 y6 y7 y8))
  | 0 => ⟨fun _ _ _ _ _ r h => by simp [impl_CrossingPairs.l0] at h, fun _ _ _ _ _ _ _ _ _ r h => by simp [impl_CrossingPairs.l1] at h⟩
  | k + 1 => by
    obtain ⟨ih0, ih1⟩ := impl_CrossingPairs.mono_l k
    refine ⟨?_, ?_⟩
    · intro y0 y1 y2 y3 y4
      unfold impl_CrossingPairs.l0
      repeat' first
      | (with_reducible exact ih0 _ _ _ _ _)
      | (with_reducible exact ih1 _ _ _ _ _ _ _ _ _)
      | (with_reducible exact impl_PairsOfRow.mono _ _)
      | (with_reducible exact LeO.refl _)
      | (with_reducible exact LeO.none _)
      | (with_reducible refine LeO.ite ?_ ?_)
      | (with_reducible refine LeO.bind ?_ (fun _ => ?_))
      | exact ih0 _ _ _ _ _
      | exact ih1 _ _ _ _ _ _ _ _ _
      | exact impl_PairsOfRow.mono _ _
      | exact LeO.none _
      | refine LeO.ite ?_ ?_
      | refine LeO.bind ?_ (fun _ => ?_)
    · intro y0 y1 y2 y3 y4 y5 y6 y7 y8
      unfold impl_CrossingPairs.l1
      repeat' first
      | (with_reducible exact ih0 _ _ _ _ _)
      | (with_reducible exact ih1 _ _ _ _ _ _ _ _ _)
      | (with_reducible exact impl_PairsOfRow.mono _ _)
      | (with_reducible exact LeO.refl _)
      | (with_reducible exact LeO.none _)
      | (with_reducible refine LeO.ite ?_ ?_)
      | (with_reducible refine LeO.bind ?_ (fun _ => ?_))
      | exact ih0 _ _ _ _ _
      | exact ih1 _ _ _ _ _ _ _ _ _
      | exact impl_PairsOfRow.mono _ _
      | exact LeO.none _
      | refine LeO.ite ?_ ?_
      | refine LeO.bind ?_ (fun _ => ?_)
theorem impl_CrossingPairs.mono : ∀ a0 k, LeO (impl_CrossingPairs.f k a0) (impl_CrossingPairs.f (k + 1) a0) := by
  intro a0 k
  obtain ⟨ih0, ih1⟩ := impl_CrossingPairs.mono_l k
  unfold impl_CrossingPairs.f
  repeat' first
      | (with_reducible exact ih0 _ _ _ _ _)
      | (with_reducible exact ih1 _ _ _ _ _ _ _ _ _)
      | (with_reducible exact impl_PairsOfRow.mono _ _)
      | (with_reducible exact LeO.refl _)
      | (with_reducible exact LeO.none _)
      | (with_reducible refine LeO.ite ?_ ?_)
      | (with_reducible refine LeO.bind ?_ (fun _ => ?_))
      | exact ih0 _ _ _ _ _
      | exact ih1 _ _ _ _ _ _ _ _ _
      | exact impl_PairsOfRow.mono _ _
      | exact LeO.none _
      | refine LeO.ite ?_ ?_
      | refine LeO.bind ?_ (fun _ => ?_)
set_option maxHeartbeats 8000000 in
set_option maxRecDepth 100000 in
theorem impl_CrossingPairs.calls (k : Nat) (A0 : Option Addr) (c0 : Nat) (l0 : List Int) (r1 : Int) (r2 : Bool) (w : World) (hr0 : Kd.C (Kd.int .i64) w A0 l0.length l0) (hc0 : l0.length ≤ c0) (h : impl_CrossingPairs.f k l0 = some (r1, r2)) :
    Calls Try.prog 26 #[.slice A0 l0.length c0] w fun e w' => e = .returned (.tuple #[.int .i64 r1, .bool r2]) ∧ Below w.heap.size w w' := by
  have HR0 := Aside0.mk hr0
  have HC0 := Aside0.mk hc0
  clear hr0 hc0
  have HB := Aside0.mk (Below.refl w.heap.size w)
  have H : ((impl_PairsOfRow.f k l0).bind fun bt150 => (if bt150.2 = true then (impl_CrossingPairs.l0 k bt150.1 0 bt150.1 (bt150.1.length : Int) 0) else (some (0, false)))) = some (r1, r2) := h
  clear h
  replace H := Option.bind_eq_some_iff.mp H
  obtain ⟨⟨t150, t151⟩, A20, H⟩ := H
  replace H : (if t151 = true then (impl_CrossingPairs.l0 k t150 0 t150 (t150.length : Int) 0) else (some (0, false))) = some (r1, r2) := H
  have A2 := Aside0.mk A20
  clear A20
  by_cases c3 : t151 = true
  · subst c3
    have H1 : (impl_CrossingPairs.l0 k t150 0 t150 (t150.length : Int) 0) = some (r1, r2) := by rw [if_pos rfl] at H; exact H
    clear H
    have H := H1
    clear H1
    have H' := Aside0.mk H
    clear H
    go_enter Try.func26, Try.ntmps26
    go_wp2_with (first | (go_at_call 42; (with_reducible refine (impl_PairsOfRow.calls k _ _ l0 t150 true _ ?side1 ?side2 A2.out).mono ?_); (case side1 => repeat (first | exact HR0.out | (with_reducible refine Kd.C_alloc ?_ _) | (with_reducible refine Kd.C_drewN ?_ _) | (with_reducible refine Kd.C_drew ?_))); (case side2 => exact HC0.out); rintro e w4 ⟨v152, rfl, ho0, hb⟩; have n0_ := Aside0.mk (Kd.S_lower ho0 (below_size (by repeat (first | (with_reducible first | exact HB.out | apply below_alloc | apply pw_below_drewN | apply below_drew1) | exact HB.out)))); have n1_ := Aside0.mk (below_step (by repeat (first | (with_reducible first | exact HB.out | apply below_alloc | apply pw_below_drewN | apply below_drew1) | exact HB.out)) hb); clear HB; have HO153 := n0_; have HB := n1_; clear n0_ n1_; (try clear hb); (try clear hb2); (try clear hk); (try clear hi); (try clear ho0); obtain ⟨Ao5, co5, eo5⟩ := Kd.S_slice HO153.out; subst eo5))
    repeat (go_quiet (first | (go_at_call 42; (with_reducible refine (impl_PairsOfRow.calls k _ _ l0 t150 true _ ?side1 ?side2 A2.out).mono ?_); (case side1 => repeat (first | exact HR0.out | (with_reducible refine Kd.C_alloc ?_ _) | (with_reducible refine Kd.C_drewN ?_ _) | (with_reducible refine Kd.C_drew ?_))); (case side2 => exact HC0.out); rintro e w4 ⟨v152, rfl, ho0, hb⟩; have n0_ := Aside0.mk (Kd.S_lower ho0 (below_size (by repeat (first | (with_reducible first | exact HB.out | apply below_alloc | apply pw_below_drewN | apply below_drew1) | exact HB.out)))); have n1_ := Aside0.mk (below_step (by repeat (first | (with_reducible first | exact HB.out | apply below_alloc | apply pw_below_drewN | apply below_drew1) | exact HB.out)) hb); clear HB; have HO153 := n0_; have HB := n1_; clear n0_ n1_; (try clear hb); (try clear hb2); (try clear hk); (try clear hi); (try clear ho0); obtain ⟨Ao5, co5, eo5⟩ := Kd.S_slice HO153.out; subst eo5)); try go_wp2_with (first | (go_at_call 42; (with_reducible refine (impl_PairsOfRow.calls k _ _ l0 t150 true _ ?side1 ?side2 A2.out).mono ?_); (case side1 => repeat (first | exact HR0.out | (with_reducible refine Kd.C_alloc ?_ _) | (with_reducible refine Kd.C_drewN ?_ _) | (with_reducible refine Kd.C_drew ?_))); (case side2 => exact HC0.out); rintro e w4 ⟨v152, rfl, ho0, hb⟩; have n0_ := Aside0.mk (Kd.S_lower ho0 (below_size (by repeat (first | (with_reducible first | exact HB.out | apply below_alloc | apply pw_below_drewN | apply below_drew1) | exact HB.out)))); have n1_ := Aside0.mk (below_step (by repeat (first | (with_reducible first | exact HB.out | apply below_alloc | apply pw_below_drewN | apply below_drew1) | exact HB.out)) hb); clear HB; have HO153 := n0_; have HB := n1_; clear n0_ n1_; (try clear hb); (try clear hb2); (try clear hk); (try clear hi); (try clear ho0); obtain ⟨Ao5, co5, eo5⟩ := Kd.S_slice HO153.out; subst eo5)))
    go_loopg [6, 20] k (fun kq v6 v20 w' => ∃ (x6_1 : Int) (x20_1 : Int), v6 = .int .i64 x6_1 ∧ v20 = .int .i64 x20_1 ∧ Aside0 (impl_CrossingPairs.l0 kq t150 x6_1 t150 (t150.length : Int) x20_1 = some (r1, r2)) ∧ Aside0 (kq ≤ k) ∧ Aside0 (Kd.S (Kd.slice 3 (Kd.int .i64)) 29 w' w.heap.size (fun _ => True) (.slice Ao5 t150.length co5) t150) ∧ Aside0 (Kd.S (Kd.slice 3 (Kd.int .i64)) 29 w' w.heap.size (fun _ => True) (.slice Ao5 t150.length co5) t150) ∧ Aside0 (Below w.heap.size w w'))
    case atStart => exact ⟨(0), (0), (by first | rfl | (simp; done) | (simp [*]; done)), (by first | rfl | (simp; done) | (simp [*]; done)), H', ⟨Nat.le_refl _⟩, ⟨by (with_reducible repeat (first | apply Kd.S_alloc | apply Kd.S_drewN | apply Kd.S_drew)); exact HO153.out⟩, ⟨by (with_reducible repeat (first | apply Kd.S_alloc | apply Kd.S_drewN | apply Kd.S_drew)); exact HO153.out⟩, ⟨by repeat (first | (with_reducible first | exact HB.out | apply below_alloc | apply pw_below_drewN | apply below_drew1) | exact HB.out)⟩⟩
    case round =>
      clear H'
      try clear c2
      try clear p2
      try clear c3
      obtain ⟨x6_1, x20_1, rfl, rfl, HA, HK1, HO_4, HO_18, HB⟩ := hrel
      cases gk with
      | zero => exact absurd HA.out (by simp [impl_CrossingPairs.l0])
      | succ k1 =>
        have H := HA.out
        clear HA
        simp only [impl_CrossingPairs.l0] at H
        by_cases c6 : x20_1 < (t150.length : Int)
        · rw [if_pos c6] at H
          have c6b0 : decide (x20_1 < (t150.length : Int)) = true := decide_eq_true c6
          clear c6
          by_cases c7 : 0 ≤ x20_1
          · rw [if_pos c7] at H
            have c7b0 : decide (0 ≤ x20_1) = true := decide_eq_true c7
            clear c7
            by_cases c8 : x20_1 < (t150.length : Int)
            · rw [if_pos c8] at H
              have c8b0 : decide (x20_1 < (t150.length : Int)) = true := decide_eq_true c8
              clear c8
              have H' := Aside0.mk H
              clear H
              have p154 : 0 ≤ (x20_1 : Int) := of_decide_eq_true (by first | (with_reducible assumption) | assumption)
              have q154 : x20_1 < (t150.length : Int) := of_decide_eq_true (by first | (with_reducible assumption) | assumption)
              obtain ⟨ad154, A154_0, c154_0, e154, hx154_0, hl154_0, hi154_0⟩ := at_L1 (Kd.S_reads' HO_18.out).2.2 x20_1 p154 q154
              cases e154
              obtain ⟨ce154, hce154, hMe154, hcc154⟩ := Kd.S_get HO_18.out [] x20_1 p154 (by first | exact q154 | exact of_decide_eq_true (by first | (with_reducible assumption) | assumption) | (have e_ := (Kd.S_reads' HO_18.out).1; omega))
              obtain ⟨ve154_0, rfl, ge154_0⟩ := hMe154
              have hv154_0 := hcc154 0 _ rfl
              rw [Nat.add_zero, show ((Kd.slice 3 (Kd.int .i64))).sz = 1 from rfl, Nat.mul_one] at hv154_0
              replace hv154_0 := Option.some.inj (hv154_0.symm.trans hx154_0)
              rw [hv154_0] at ge154_0
              have HL154_0 := Aside0.mk (show Kd.R (Kd.int .i64) 3 _ _ _ _ (rd_L1 t150 x20_1) from ge154_0)
              clear hv154_0 ge154_0
              clear hcc154 hce154
              have HR154_0 := Aside0.mk hi154_0
              have HC154_0 := Aside0.mk hl154_0
              clear hi154_0 hl154_0
              replace p154 := eq_true p154
              replace q154 := eq_true q154
              go_wp2
              repeat (go_quiet (fail); try go_wp2)
              go_loopg [6, 26] k1 (fun kq v6 v26 w' => ∃ (x6_2 : Int) (x26_2 : Int), v6 = .int .i64 x6_2 ∧ v26 = .int .i64 x26_2 ∧ Aside0 (impl_CrossingPairs.l1 kq t150 x6_2 (rd_L1 t150 x20_1) t150 (t150.length : Int) x20_1 t150 (t150.length : Int) x26_2 = some (r1, r2)) ∧ Aside0 (kq ≤ k1) ∧ Aside0 (Kd.S (Kd.slice 3 (Kd.int .i64)) 29 w' w.heap.size (fun _ => True) (.slice (some ad154) t150.length co5) t150) ∧ Aside0 (Kd.S (Kd.slice 3 (Kd.int .i64)) 29 w' w.heap.size (fun _ => True) (.slice (some ad154) t150.length co5) t150) ∧ Aside0 (Kd.S (Kd.slice 3 (Kd.int .i64)) 29 w' w.heap.size (fun _ => True) (.slice (some ad154) t150.length co5) t150) ∧ Aside0 (Kd.C (Kd.int .i64) w' A154_0 (rd_L1 t150 x20_1).length (rd_L1 t150 x20_1)) ∧ Aside0 (Below w.heap.size w w'))
              case atStart => exact ⟨(x6_1), (0), (by first | rfl | (simp; done) | (simp [*]; done)), (by first | rfl | (simp; done) | (simp [*]; done)), H', ⟨Nat.le_refl _⟩, ⟨by (with_reducible repeat (first | apply Kd.S_alloc | apply Kd.S_drewN | apply Kd.S_drew)); exact HO_4.out⟩, ⟨by (with_reducible repeat (first | apply Kd.S_alloc | apply Kd.S_drewN | apply Kd.S_drew)); exact HO_18.out⟩, ⟨by (with_reducible repeat (first | apply Kd.S_alloc | apply Kd.S_drewN | apply Kd.S_drew)); exact HO_4.out⟩, ⟨by repeat (first | (with_reducible exact HR154_0.out) | (with_reducible refine Kd.C_alloc ?_ _) | (with_reducible refine Kd.C_drewN ?_ _) | (with_reducible refine Kd.C_drew ?_) | exact HR154_0.out)⟩, ⟨by repeat (first | (with_reducible first | exact HB.out | apply below_alloc | apply pw_below_drewN | apply below_drew1) | exact HB.out)⟩⟩
              case round =>
                clear H'
                try clear c1
                try clear p1
                try clear q1
                try clear hx1
                try clear c2
                try clear p2
                try clear c3
                try clear c6
                try clear c6b0
                try clear c7
                try clear c7b0
                try clear c8
                try clear c8b0
                try clear hx154_0
                try clear p154
                try clear p2
                try clear q154
                obtain ⟨x6_2, x26_2, rfl, rfl, HA, HK2, HO_4, HO_18, HO_24, HR154_0, HB⟩ := hrel
                cases gk with
                | zero => exact absurd HA.out (by simp [impl_CrossingPairs.l1])
                | succ k2 =>
                  have H := HA.out
                  clear HA
                  simp only [impl_CrossingPairs.l1] at H
                  by_cases c9 : x26_2 < (t150.length : Int)
                  · rw [if_pos c9] at H
                    have c9b0 : decide (x26_2 < (t150.length : Int)) = true := decide_eq_true c9
                    clear c9
                    by_cases c10 : 0 ≤ x26_2
                    · rw [if_pos c10] at H
                      have c10b0 : decide (0 ≤ x26_2) = true := decide_eq_true c10
                      clear c10
                      by_cases c11 : x26_2 < (t150.length : Int)
                      · rw [if_pos c11] at H
                        have c11b0 : decide (x26_2 < (t150.length : Int)) = true := decide_eq_true c11
                        clear c11
                        by_cases c12 : 1 < ((rd_L1 t150 x20_1).length : Int)
                        · rw [if_pos c12] at H
                          have c12b0 : decide (1 < ((rd_L1 t150 x20_1).length : Int)) = true := decide_eq_true c12
                          have c12b1 : decide (1 < (rd_L1 t150 x20_1).length) = true := decide_eq_true (by omega)
                          clear c12
                          by_cases c13 : 1 < ((rd_L1 t150 x26_2).length : Int)
                          · rw [if_pos c13] at H
                            have c13b0 : decide (1 < ((rd_L1 t150 x26_2).length : Int)) = true := decide_eq_true c13
                            have c13b1 : decide (1 < (rd_L1 t150 x26_2).length) = true := decide_eq_true (by omega)
                            clear c13
                            by_cases c14 : (rd (rd_L1 t150 x20_1) 1) < (rd (rd_L1 t150 x26_2) 1)
                            · rw [if_pos c14] at H
                              have c14b0 : decide ((rd (rd_L1 t150 x20_1) 1) < (rd (rd_L1 t150 x26_2) 1)) = true := decide_eq_true c14
                              clear c14
                              by_cases c15 : 2 < ((rd_L1 t150 x20_1).length : Int)
                              · rw [if_pos c15] at H
                                have c15b0 : decide (2 < ((rd_L1 t150 x20_1).length : Int)) = true := decide_eq_true c15
                                have c15b1 : decide (2 < (rd_L1 t150 x20_1).length) = true := decide_eq_true (by omega)
                                clear c15
                                by_cases c16 : (rd (rd_L1 t150 x26_2) 1) < (rd (rd_L1 t150 x20_1) 2)
                                · rw [if_pos c16] at H
                                  have c16b0 : decide ((rd (rd_L1 t150 x26_2) 1) < (rd (rd_L1 t150 x20_1) 2)) = true := decide_eq_true c16
                                  clear c16
                                  by_cases c17 : 2 < ((rd_L1 t150 x26_2).length : Int)
                                  · rw [if_pos c17] at H
                                    have c17b0 : decide (2 < ((rd_L1 t150 x26_2).length : Int)) = true := decide_eq_true c17
                                    have c17b1 : decide (2 < (rd_L1 t150 x26_2).length) = true := decide_eq_true (by omega)
                                    clear c17
                                    by_cases c18 : (rd (rd_L1 t150 x20_1) 2) < (rd (rd_L1 t150 x26_2) 2)
                                    · rw [if_pos c18] at H
                                      have c18b0 : decide ((rd (rd_L1 t150 x20_1) 2) < (rd (rd_L1 t150 x26_2) 2)) = true := decide_eq_true c18
                                      clear c18
                                      have H' := Aside0.mk H
                                      clear H
                                      have p155 : 0 ≤ (x26_2 : Int) := of_decide_eq_true (by first | (with_reducible assumption) | assumption)
                                      have q155 : x26_2 < (t150.length : Int) := of_decide_eq_true (by first | (with_reducible assumption) | assumption)
                                      obtain ⟨ad155, A155_0, c155_0, e155, hx155_0, hl155_0, hi155_0⟩ := at_L1 (Kd.S_reads' HO_24.out).2.2 x26_2 p155 q155
                                      obtain rfl : ad154 = ad155 := (by injection e155)
                                      obtain ⟨ce155, hce155, hMe155, hcc155⟩ := Kd.S_get HO_24.out [] x26_2 p155 (by first | exact q155 | exact of_decide_eq_true (by first | (with_reducible assumption) | assumption) | (have e_ := (Kd.S_reads' HO_24.out).1; omega))
                                      obtain ⟨ve155_0, rfl, ge155_0⟩ := hMe155
                                      have hv155_0 := hcc155 0 _ rfl
                                      rw [Nat.add_zero, show ((Kd.slice 3 (Kd.int .i64))).sz = 1 from rfl, Nat.mul_one] at hv155_0
                                      replace hv155_0 := Option.some.inj (hv155_0.symm.trans hx155_0)
                                      rw [hv155_0] at ge155_0
                                      have HL155_0 := Aside0.mk (show Kd.R (Kd.int .i64) 3 _ _ _ _ (rd_L1 t150 x26_2) from ge155_0)
                                      clear hv155_0 ge155_0
                                      clear hcc155 hce155
                                      have HR155_0 := Aside0.mk hi155_0
                                      have HC155_0 := Aside0.mk hl155_0
                                      clear hi155_0 hl155_0
                                      replace p155 := eq_true p155
                                      replace q155 := eq_true q155
                                      have p156 : 0 ≤ (1 : Int) := (by omega)
                                      have q156 : 1 < ((rd_L1 t150 x20_1).length : Int) := of_decide_eq_true (by first | (with_reducible assumption) | assumption)
                                      obtain ⟨ad156, e156, hx156_0⟩ := Kd.at_int HR154_0.out 1 p156 q156
                                      cases e156
                                      (try simp only [show (1 : Int).toNat = 1 from rfl, Nat.reduceMul, Nat.reduceEqDiff, Go.Addr.add, ↓reduceIte] at hx156_0)
                                      have qi156 : (1 < (rd_L1 t150 x20_1).length) = True := eq_true (by omega)
                                      (try rw [show ((1 : Int)).toNat = 1 from rfl] at hx156_0)
                                      (try replace hx156_0 := (HB.out.cell (World.block_lt_of_cell? w _ hx156_0)).trans hx156_0)
                                      replace p156 := eq_true p156
                                      replace q156 := eq_true q156
                                      have p157 : 0 ≤ (1 : Int) := (by omega)
                                      have q157 : 1 < ((rd_L1 t150 x26_2).length : Int) := of_decide_eq_true (by first | (with_reducible assumption) | assumption)
                                      obtain ⟨ad157, e157, hx157_0⟩ := Kd.at_int (by repeat (first | (with_reducible exact HR155_0.out) | (with_reducible refine Kd.C_alloc ?_ _) | (with_reducible refine Kd.C_drewN ?_ _) | (with_reducible refine Kd.C_drew ?_) | exact HR155_0.out)) 1 p157 q157
                                      cases e157
                                      (try simp only [show (1 : Int).toNat = 1 from rfl, Nat.reduceMul, Nat.reduceEqDiff, Go.Addr.add, ↓reduceIte] at hx157_0)
                                      have qi157 : (1 < (rd_L1 t150 x26_2).length) = True := eq_true (by omega)
                                      (try rw [show ((1 : Int)).toNat = 1 from rfl] at hx157_0)
                                      replace p157 := eq_true p157
                                      replace q157 := eq_true q157
                                      have p158 : 0 ≤ (1 : Int) := (by omega)
                                      have q158 : 1 < ((rd_L1 t150 x26_2).length : Int) := of_decide_eq_true (by first | (with_reducible assumption) | assumption)
                                      obtain ⟨ad158, e158, hx158_0⟩ := Kd.at_int (by repeat (first | (with_reducible exact HR155_0.out) | (with_reducible refine Kd.C_alloc ?_ _) | (with_reducible refine Kd.C_drewN ?_ _) | (with_reducible refine Kd.C_drew ?_) | exact HR155_0.out)) 1 p158 q158
                                      obtain rfl : ad157 = ad158 := (by injection e158)
                                      (try simp only [show (1 : Int).toNat = 1 from rfl, Nat.reduceMul, Nat.reduceEqDiff, Go.Addr.add, ↓reduceIte] at hx158_0)
                                      have qi158 : (1 < (rd_L1 t150 x26_2).length) = True := eq_true (by omega)
                                      (try rw [show ((1 : Int)).toNat = 1 from rfl] at hx158_0)
                                      replace p158 := eq_true p158
                                      replace q158 := eq_true q158
                                      have p159 : 0 ≤ (2 : Int) := (by omega)
                                      have q159 : 2 < ((rd_L1 t150 x20_1).length : Int) := of_decide_eq_true (by first | (with_reducible assumption) | assumption)
                                      obtain ⟨ad159, e159, hx159_0⟩ := Kd.at_int HR154_0.out 2 p159 q159
                                      obtain rfl : ad156 = ad159 := (by injection e159)
                                      (try simp only [show (2 : Int).toNat = 2 from rfl, Nat.reduceMul, Nat.reduceEqDiff, Go.Addr.add, ↓reduceIte] at hx159_0)
                                      have qi159 : (2 < (rd_L1 t150 x20_1).length) = True := eq_true (by omega)
                                      (try rw [show ((2 : Int)).toNat = 2 from rfl] at hx159_0)
                                      (try replace hx159_0 := (HB.out.cell (World.block_lt_of_cell? w _ hx159_0)).trans hx159_0)
                                      replace p159 := eq_true p159
                                      replace q159 := eq_true q159
                                      have p160 : 0 ≤ (2 : Int) := (by omega)
                                      have q160 : 2 < ((rd_L1 t150 x20_1).length : Int) := of_decide_eq_true (by first | (with_reducible assumption) | assumption)
                                      obtain ⟨ad160, e160, hx160_0⟩ := Kd.at_int HR154_0.out 2 p160 q160
                                      obtain rfl : ad156 = ad160 := (by injection e160)
                                      (try simp only [show (2 : Int).toNat = 2 from rfl, Nat.reduceMul, Nat.reduceEqDiff, Go.Addr.add, ↓reduceIte] at hx160_0)
                                      have qi160 : (2 < (rd_L1 t150 x20_1).length) = True := eq_true (by omega)
                                      (try rw [show ((2 : Int)).toNat = 2 from rfl] at hx160_0)
                                      (try replace hx160_0 := (HB.out.cell (World.block_lt_of_cell? w _ hx160_0)).trans hx160_0)
                                      replace p160 := eq_true p160
                                      replace q160 := eq_true q160
                                      have p161 : 0 ≤ (2 : Int) := (by omega)
                                      have q161 : 2 < ((rd_L1 t150 x26_2).length : Int) := of_decide_eq_true (by first | (with_reducible assumption) | assumption)
                                      obtain ⟨ad161, e161, hx161_0⟩ := Kd.at_int (by repeat (first | (with_reducible exact HR155_0.out) | (with_reducible refine Kd.C_alloc ?_ _) | (with_reducible refine Kd.C_drewN ?_ _) | (with_reducible refine Kd.C_drew ?_) | exact HR155_0.out)) 2 p161 q161
                                      obtain rfl : ad157 = ad161 := (by injection e161)
                                      (try simp only [show (2 : Int).toNat = 2 from rfl, Nat.reduceMul, Nat.reduceEqDiff, Go.Addr.add, ↓reduceIte] at hx161_0)
                                      have qi161 : (2 < (rd_L1 t150 x26_2).length) = True := eq_true (by omega)
                                      (try rw [show ((2 : Int)).toNat = 2 from rfl] at hx161_0)
                                      replace p161 := eq_true p161
                                      replace q161 := eq_true q161
                                      go_wp2
                                      repeat (go_quiet (fail); try go_wp2)
                                      go_roundg k2
                                      case measure => have := HK1.out; have := HK2.out; omega
                                      case rel => exact ⟨(wrap64 (x6_2 + 1)), (wrap64 (x26_2 + 1)), (by first | rfl | (simp; done) | (simp [*]; done)), (by first | rfl | (simp; done) | (simp [*]; done)), H', ⟨by have := HK1.out; have := HK2.out; omega⟩, ⟨by (with_reducible repeat (first | apply Kd.S_alloc | apply Kd.S_drewN | apply Kd.S_drew)); exact HO_4.out⟩, ⟨by (with_reducible repeat (first | apply Kd.S_alloc | apply Kd.S_drewN | apply Kd.S_drew)); exact HO_18.out⟩, ⟨by (with_reducible repeat (first | apply Kd.S_alloc | apply Kd.S_drewN | apply Kd.S_drew)); exact HO_24.out⟩, ⟨by repeat (first | (with_reducible exact HR154_0.out) | (with_reducible refine Kd.C_alloc ?_ _) | (with_reducible refine Kd.C_drewN ?_ _) | (with_reducible refine Kd.C_drew ?_) | exact HR154_0.out)⟩, ⟨by repeat (first | (with_reducible first | exact HB.out | apply below_alloc | apply pw_below_drewN | apply below_drew1) | exact HB.out)⟩⟩
                                    · rw [if_neg c18] at H
                                      have c18b0 : decide ((rd (rd_L1 t150 x20_1) 2) < (rd (rd_L1 t150 x26_2) 2)) = false := decide_eq_false c18
                                      clear c18
                                      have H' := Aside0.mk H
                                      clear H
                                      have p155 : 0 ≤ (x26_2 : Int) := of_decide_eq_true (by first | (with_reducible assumption) | assumption)
                                      have q155 : x26_2 < (t150.length : Int) := of_decide_eq_true (by first | (with_reducible assumption) | assumption)
                                      obtain ⟨ad155, A155_0, c155_0, e155, hx155_0, hl155_0, hi155_0⟩ := at_L1 (Kd.S_reads' HO_24.out).2.2 x26_2 p155 q155
                                      obtain rfl : ad154 = ad155 := (by injection e155)
                                      obtain ⟨ce155, hce155, hMe155, hcc155⟩ := Kd.S_get HO_24.out [] x26_2 p155 (by first | exact q155 | exact of_decide_eq_true (by first | (with_reducible assumption) | assumption) | (have e_ := (Kd.S_reads' HO_24.out).1; omega))
                                      obtain ⟨ve155_0, rfl, ge155_0⟩ := hMe155
                                      have hv155_0 := hcc155 0 _ rfl
                                      rw [Nat.add_zero, show ((Kd.slice 3 (Kd.int .i64))).sz = 1 from rfl, Nat.mul_one] at hv155_0
                                      replace hv155_0 := Option.some.inj (hv155_0.symm.trans hx155_0)
                                      rw [hv155_0] at ge155_0
                                      have HL155_0 := Aside0.mk (show Kd.R (Kd.int .i64) 3 _ _ _ _ (rd_L1 t150 x26_2) from ge155_0)
                                      clear hv155_0 ge155_0
                                      clear hcc155 hce155
                                      have HR155_0 := Aside0.mk hi155_0
                                      have HC155_0 := Aside0.mk hl155_0
                                      clear hi155_0 hl155_0
                                      replace p155 := eq_true p155
                                      replace q155 := eq_true q155
                                      have p156 : 0 ≤ (1 : Int) := (by omega)
                                      have q156 : 1 < ((rd_L1 t150 x20_1).length : Int) := of_decide_eq_true (by first | (with_reducible assumption) | assumption)
                                      obtain ⟨ad156, e156, hx156_0⟩ := Kd.at_int HR154_0.out 1 p156 q156
                                      cases e156
                                      (try simp only [show (1 : Int).toNat = 1 from rfl, Nat.reduceMul, Nat.reduceEqDiff, Go.Addr.add, ↓reduceIte] at hx156_0)
                                      have qi156 : (1 < (rd_L1 t150 x20_1).length) = True := eq_true (by omega)
                                      (try rw [show ((1 : Int)).toNat = 1 from rfl] at hx156_0)
                                      (try replace hx156_0 := (HB.out.cell (World.block_lt_of_cell? w _ hx156_0)).trans hx156_0)
                                      replace p156 := eq_true p156
                                      replace q156 := eq_true q156
                                      have p157 : 0 ≤ (1 : Int) := (by omega)
                                      have q157 : 1 < ((rd_L1 t150 x26_2).length : Int) := of_decide_eq_true (by first | (with_reducible assumption) | assumption)
                                      obtain ⟨ad157, e157, hx157_0⟩ := Kd.at_int (by repeat (first | (with_reducible exact HR155_0.out) | (with_reducible refine Kd.C_alloc ?_ _) | (with_reducible refine Kd.C_drewN ?_ _) | (with_reducible refine Kd.C_drew ?_) | exact HR155_0.out)) 1 p157 q157
                                      cases e157
                                      (try simp only [show (1 : Int).toNat = 1 from rfl, Nat.reduceMul, Nat.reduceEqDiff, Go.Addr.add, ↓reduceIte] at hx157_0)
                                      have qi157 : (1 < (rd_L1 t150 x26_2).length) = True := eq_true (by omega)
                                      (try rw [show ((1 : Int)).toNat = 1 from rfl] at hx157_0)
                                      replace p157 := eq_true p157
                                      replace q157 := eq_true q157
                                      have p158 : 0 ≤ (1 : Int) := (by omega)
                                      have q158 : 1 < ((rd_L1 t150 x26_2).length : Int) := of_decide_eq_true (by first | (with_reducible assumption) | assumption)
                                      obtain ⟨ad158, e158, hx158_0⟩ := Kd.at_int (by repeat (first | (with_reducible exact HR155_0.out) | (with_reducible refine Kd.C_alloc ?_ _) | (with_reducible refine Kd.C_drewN ?_ _) | (with_reducible refine Kd.C_drew ?_) | exact HR155_0.out)) 1 p158 q158
                                      obtain rfl : ad157 = ad158 := (by injection e158)
                                      (try simp only [show (1 : Int).toNat = 1 from rfl, Nat.reduceMul, Nat.reduceEqDiff, Go.Addr.add, ↓reduceIte] at hx158_0)
                                      have qi158 : (1 < (rd_L1 t150 x26_2).length) = True := eq_true (by omega)
                                      (try rw [show ((1 : Int)).toNat = 1 from rfl] at hx158_0)
                                      replace p158 := eq_true p158
                                      replace q158 := eq_true q158
                                      have p159 : 0 ≤ (2 : Int) := (by omega)
                                      have q159 : 2 < ((rd_L1 t150 x20_1).length : Int) := of_decide_eq_true (by first | (with_reducible assumption) | assumption)
                                      obtain ⟨ad159, e159, hx159_0⟩ := Kd.at_int HR154_0.out 2 p159 q159
                                      obtain rfl : ad156 = ad159 := (by injection e159)
                                      (try simp only [show (2 : Int).toNat = 2 from rfl, Nat.reduceMul, Nat.reduceEqDiff, Go.Addr.add, ↓reduceIte] at hx159_0)
                                      have qi159 : (2 < (rd_L1 t150 x20_1).length) = True := eq_true (by omega)
                                      (try rw [show ((2 : Int)).toNat = 2 from rfl] at hx159_0)
                                      (try replace hx159_0 := (HB.out.cell (World.block_lt_of_cell? w _ hx159_0)).trans hx159_0)
                                      replace p159 := eq_true p159
                                      replace q159 := eq_true q159
                                      have p160 : 0 ≤ (2 : Int) := (by omega)
                                      have q160 : 2 < ((rd_L1 t150 x20_1).length : Int) := of_decide_eq_true (by first | (with_reducible assumption) | assumption)
                                      obtain ⟨ad160, e160, hx160_0⟩ := Kd.at_int HR154_0.out 2 p160 q160
                                      obtain rfl : ad156 = ad160 := (by injection e160)
                                      (try simp only [show (2 : Int).toNat = 2 from rfl, Nat.reduceMul, Nat.reduceEqDiff, Go.Addr.add, ↓reduceIte] at hx160_0)
                                      have qi160 : (2 < (rd_L1 t150 x20_1).length) = True := eq_true (by omega)
                                      (try rw [show ((2 : Int)).toNat = 2 from rfl] at hx160_0)
                                      (try replace hx160_0 := (HB.out.cell (World.block_lt_of_cell? w _ hx160_0)).trans hx160_0)
                                      replace p160 := eq_true p160
                                      replace q160 := eq_true q160
                                      have p161 : 0 ≤ (2 : Int) := (by omega)
                                      have q161 : 2 < ((rd_L1 t150 x26_2).length : Int) := of_decide_eq_true (by first | (with_reducible assumption) | assumption)
                                      obtain ⟨ad161, e161, hx161_0⟩ := Kd.at_int (by repeat (first | (with_reducible exact HR155_0.out) | (with_reducible refine Kd.C_alloc ?_ _) | (with_reducible refine Kd.C_drewN ?_ _) | (with_reducible refine Kd.C_drew ?_) | exact HR155_0.out)) 2 p161 q161
                                      obtain rfl : ad157 = ad161 := (by injection e161)
                                      (try simp only [show (2 : Int).toNat = 2 from rfl, Nat.reduceMul, Nat.reduceEqDiff, Go.Addr.add, ↓reduceIte] at hx161_0)
                                      have qi161 : (2 < (rd_L1 t150 x26_2).length) = True := eq_true (by omega)
                                      (try rw [show ((2 : Int)).toNat = 2 from rfl] at hx161_0)
                                      replace p161 := eq_true p161
                                      replace q161 := eq_true q161
                                      go_wp2
                                      repeat (go_quiet (fail); try go_wp2)
                                      go_roundg k2
                                      case measure => have := HK1.out; have := HK2.out; omega
                                      case rel => exact ⟨(x6_2), (wrap64 (x26_2 + 1)), (by first | rfl | (simp; done) | (simp [*]; done)), (by first | rfl | (simp; done) | (simp [*]; done)), H', ⟨by have := HK1.out; have := HK2.out; omega⟩, ⟨by (with_reducible repeat (first | apply Kd.S_alloc | apply Kd.S_drewN | apply Kd.S_drew)); exact HO_4.out⟩, ⟨by (with_reducible repeat (first | apply Kd.S_alloc | apply Kd.S_drewN | apply Kd.S_drew)); exact HO_18.out⟩, ⟨by (with_reducible repeat (first | apply Kd.S_alloc | apply Kd.S_drewN | apply Kd.S_drew)); exact HO_24.out⟩, ⟨by repeat (first | (with_reducible exact HR154_0.out) | (with_reducible refine Kd.C_alloc ?_ _) | (with_reducible refine Kd.C_drewN ?_ _) | (with_reducible refine Kd.C_drew ?_) | exact HR154_0.out)⟩, ⟨by repeat (first | (with_reducible first | exact HB.out | apply below_alloc | apply pw_below_drewN | apply below_drew1) | exact HB.out)⟩⟩
                                  · rw [if_neg c17] at H
                                    exact absurd H (by simp)
                                · rw [if_neg c16] at H
                                  have c16b0 : decide ((rd (rd_L1 t150 x26_2) 1) < (rd (rd_L1 t150 x20_1) 2)) = false := decide_eq_false c16
                                  clear c16
                                  have H' := Aside0.mk H
                                  clear H
                                  have p155 : 0 ≤ (x26_2 : Int) := of_decide_eq_true (by first | (with_reducible assumption) | assumption)
                                  have q155 : x26_2 < (t150.length : Int) := of_decide_eq_true (by first | (with_reducible assumption) | assumption)
                                  obtain ⟨ad155, A155_0, c155_0, e155, hx155_0, hl155_0, hi155_0⟩ := at_L1 (Kd.S_reads' HO_24.out).2.2 x26_2 p155 q155
                                  obtain rfl : ad154 = ad155 := (by injection e155)
                                  obtain ⟨ce155, hce155, hMe155, hcc155⟩ := Kd.S_get HO_24.out [] x26_2 p155 (by first | exact q155 | exact of_decide_eq_true (by first | (with_reducible assumption) | assumption) | (have e_ := (Kd.S_reads' HO_24.out).1; omega))
                                  obtain ⟨ve155_0, rfl, ge155_0⟩ := hMe155
                                  have hv155_0 := hcc155 0 _ rfl
                                  rw [Nat.add_zero, show ((Kd.slice 3 (Kd.int .i64))).sz = 1 from rfl, Nat.mul_one] at hv155_0
                                  replace hv155_0 := Option.some.inj (hv155_0.symm.trans hx155_0)
                                  rw [hv155_0] at ge155_0
                                  have HL155_0 := Aside0.mk (show Kd.R (Kd.int .i64) 3 _ _ _ _ (rd_L1 t150 x26_2) from ge155_0)
                                  clear hv155_0 ge155_0
                                  clear hcc155 hce155
                                  have HR155_0 := Aside0.mk hi155_0
                                  have HC155_0 := Aside0.mk hl155_0
                                  clear hi155_0 hl155_0
                                  replace p155 := eq_true p155
                                  replace q155 := eq_true q155
                                  have p156 : 0 ≤ (1 : Int) := (by omega)
                                  have q156 : 1 < ((rd_L1 t150 x20_1).length : Int) := of_decide_eq_true (by first | (with_reducible assumption) | assumption)
                                  obtain ⟨ad156, e156, hx156_0⟩ := Kd.at_int HR154_0.out 1 p156 q156
                                  cases e156
                                  (try simp only [show (1 : Int).toNat = 1 from rfl, Nat.reduceMul, Nat.reduceEqDiff, Go.Addr.add, ↓reduceIte] at hx156_0)
                                  have qi156 : (1 < (rd_L1 t150 x20_1).length) = True := eq_true (by omega)
                                  (try rw [show ((1 : Int)).toNat = 1 from rfl] at hx156_0)
                                  (try replace hx156_0 := (HB.out.cell (World.block_lt_of_cell? w _ hx156_0)).trans hx156_0)
                                  replace p156 := eq_true p156
                                  replace q156 := eq_true q156
                                  have p157 : 0 ≤ (1 : Int) := (by omega)
                                  have q157 : 1 < ((rd_L1 t150 x26_2).length : Int) := of_decide_eq_true (by first | (with_reducible assumption) | assumption)
                                  obtain ⟨ad157, e157, hx157_0⟩ := Kd.at_int (by repeat (first | (with_reducible exact HR155_0.out) | (with_reducible refine Kd.C_alloc ?_ _) | (with_reducible refine Kd.C_drewN ?_ _) | (with_reducible refine Kd.C_drew ?_) | exact HR155_0.out)) 1 p157 q157
                                  cases e157
                                  (try simp only [show (1 : Int).toNat = 1 from rfl, Nat.reduceMul, Nat.reduceEqDiff, Go.Addr.add, ↓reduceIte] at hx157_0)
                                  have qi157 : (1 < (rd_L1 t150 x26_2).length) = True := eq_true (by omega)
                                  (try rw [show ((1 : Int)).toNat = 1 from rfl] at hx157_0)
                                  replace p157 := eq_true p157
                                  replace q157 := eq_true q157
                                  have p158 : 0 ≤ (1 : Int) := (by omega)
                                  have q158 : 1 < ((rd_L1 t150 x26_2).length : Int) := of_decide_eq_true (by first | (with_reducible assumption) | assumption)
                                  obtain ⟨ad158, e158, hx158_0⟩ := Kd.at_int (by repeat (first | (with_reducible exact HR155_0.out) | (with_reducible refine Kd.C_alloc ?_ _) | (with_reducible refine Kd.C_drewN ?_ _) | (with_reducible refine Kd.C_drew ?_) | exact HR155_0.out)) 1 p158 q158
                                  obtain rfl : ad157 = ad158 := (by injection e158)
                                  (try simp only [show (1 : Int).toNat = 1 from rfl, Nat.reduceMul, Nat.reduceEqDiff, Go.Addr.add, ↓reduceIte] at hx158_0)
                                  have qi158 : (1 < (rd_L1 t150 x26_2).length) = True := eq_true (by omega)
                                  (try rw [show ((1 : Int)).toNat = 1 from rfl] at hx158_0)
                                  replace p158 := eq_true p158
                                  replace q158 := eq_true q158
                                  have p159 : 0 ≤ (2 : Int) := (by omega)
                                  have q159 : 2 < ((rd_L1 t150 x20_1).length : Int) := of_decide_eq_true (by first | (with_reducible assumption) | assumption)
                                  obtain ⟨ad159, e159, hx159_0⟩ := Kd.at_int HR154_0.out 2 p159 q159
                                  obtain rfl : ad156 = ad159 := (by injection e159)
                                  (try simp only [show (2 : Int).toNat = 2 from rfl, Nat.reduceMul, Nat.reduceEqDiff, Go.Addr.add, ↓reduceIte] at hx159_0)
                                  have qi159 : (2 < (rd_L1 t150 x20_1).length) = True := eq_true (by omega)
                                  (try rw [show ((2 : Int)).toNat = 2 from rfl] at hx159_0)
                                  (try replace hx159_0 := (HB.out.cell (World.block_lt_of_cell? w _ hx159_0)).trans hx159_0)
                                  replace p159 := eq_true p159
                                  replace q159 := eq_true q159
                                  go_wp2
                                  repeat (go_quiet (fail); try go_wp2)
                                  go_roundg k2
                                  case measure => have := HK1.out; have := HK2.out; omega
                                  case rel => exact ⟨(x6_2), (wrap64 (x26_2 + 1)), (by first | rfl | (simp; done) | (simp [*]; done)), (by first | rfl | (simp; done) | (simp [*]; done)), H', ⟨by have := HK1.out; have := HK2.out; omega⟩, ⟨by (with_reducible repeat (first | apply Kd.S_alloc | apply Kd.S_drewN | apply Kd.S_drew)); exact HO_4.out⟩, ⟨by (with_reducible repeat (first | apply Kd.S_alloc | apply Kd.S_drewN | apply Kd.S_drew)); exact HO_18.out⟩, ⟨by (with_reducible repeat (first | apply Kd.S_alloc | apply Kd.S_drewN | apply Kd.S_drew)); exact HO_24.out⟩, ⟨by repeat (first | (with_reducible exact HR154_0.out) | (with_reducible refine Kd.C_alloc ?_ _) | (with_reducible refine Kd.C_drewN ?_ _) | (with_reducible refine Kd.C_drew ?_) | exact HR154_0.out)⟩, ⟨by repeat (first | (with_reducible first | exact HB.out | apply below_alloc | apply pw_below_drewN | apply below_drew1) | exact HB.out)⟩⟩
                              · rw [if_neg c15] at H
                                exact absurd H (by simp)
                            · rw [if_neg c14] at H
                              have c14b0 : decide ((rd (rd_L1 t150 x20_1) 1) < (rd (rd_L1 t150 x26_2) 1)) = false := decide_eq_false c14
                              clear c14
                              have H' := Aside0.mk H
                              clear H
                              have p155 : 0 ≤ (x26_2 : Int) := of_decide_eq_true (by first | (with_reducible assumption) | assumption)
                              have q155 : x26_2 < (t150.length : Int) := of_decide_eq_true (by first | (with_reducible assumption) | assumption)
                              obtain ⟨ad155, A155_0, c155_0, e155, hx155_0, hl155_0, hi155_0⟩ := at_L1 (Kd.S_reads' HO_24.out).2.2 x26_2 p155 q155
                              obtain rfl : ad154 = ad155 := (by injection e155)
                              obtain ⟨ce155, hce155, hMe155, hcc155⟩ := Kd.S_get HO_24.out [] x26_2 p155 (by first | exact q155 | exact of_decide_eq_true (by first | (with_reducible assumption) | assumption) | (have e_ := (Kd.S_reads' HO_24.out).1; omega))
                              obtain ⟨ve155_0, rfl, ge155_0⟩ := hMe155
                              have hv155_0 := hcc155 0 _ rfl
                              rw [Nat.add_zero, show ((Kd.slice 3 (Kd.int .i64))).sz = 1 from rfl, Nat.mul_one] at hv155_0
                              replace hv155_0 := Option.some.inj (hv155_0.symm.trans hx155_0)
                              rw [hv155_0] at ge155_0
                              have HL155_0 := Aside0.mk (show Kd.R (Kd.int .i64) 3 _ _ _ _ (rd_L1 t150 x26_2) from ge155_0)
                              clear hv155_0 ge155_0
                              clear hcc155 hce155
                              have HR155_0 := Aside0.mk hi155_0
                              have HC155_0 := Aside0.mk hl155_0
                              clear hi155_0 hl155_0
                              replace p155 := eq_true p155
                              replace q155 := eq_true q155
                              have p156 : 0 ≤ (1 : Int) := (by omega)
                              have q156 : 1 < ((rd_L1 t150 x20_1).length : Int) := of_decide_eq_true (by first | (with_reducible assumption) | assumption)
                              obtain ⟨ad156, e156, hx156_0⟩ := Kd.at_int HR154_0.out 1 p156 q156
                              cases e156
                              (try simp only [show (1 : Int).toNat = 1 from rfl, Nat.reduceMul, Nat.reduceEqDiff, Go.Addr.add, ↓reduceIte] at hx156_0)
                              have qi156 : (1 < (rd_L1 t150 x20_1).length) = True := eq_true (by omega)
                              (try rw [show ((1 : Int)).toNat = 1 from rfl] at hx156_0)
                              (try replace hx156_0 := (HB.out.cell (World.block_lt_of_cell? w _ hx156_0)).trans hx156_0)
                              replace p156 := eq_true p156
                              replace q156 := eq_true q156
                              have p157 : 0 ≤ (1 : Int) := (by omega)
                              have q157 : 1 < ((rd_L1 t150 x26_2).length : Int) := of_decide_eq_true (by first | (with_reducible assumption) | assumption)
                              obtain ⟨ad157, e157, hx157_0⟩ := Kd.at_int (by repeat (first | (with_reducible exact HR155_0.out) | (with_reducible refine Kd.C_alloc ?_ _) | (with_reducible refine Kd.C_drewN ?_ _) | (with_reducible refine Kd.C_drew ?_) | exact HR155_0.out)) 1 p157 q157
                              cases e157
                              (try simp only [show (1 : Int).toNat = 1 from rfl, Nat.reduceMul, Nat.reduceEqDiff, Go.Addr.add, ↓reduceIte] at hx157_0)
                              have qi157 : (1 < (rd_L1 t150 x26_2).length) = True := eq_true (by omega)
                              (try rw [show ((1 : Int)).toNat = 1 from rfl] at hx157_0)
                              replace p157 := eq_true p157
                              replace q157 := eq_true q157
                              go_wp2
                              repeat (go_quiet (fail); try go_wp2)
                              go_roundg k2
                              case measure => have := HK1.out; have := HK2.out; omega
                              case rel => exact ⟨(x6_2), (wrap64 (x26_2 + 1)), (by first | rfl | (simp; done) | (simp [*]; done)), (by first | rfl | (simp; done) | (simp [*]; done)), H', ⟨by have := HK1.out; have := HK2.out; omega⟩, ⟨by (with_reducible repeat (first | apply Kd.S_alloc | apply Kd.S_drewN | apply Kd.S_drew)); exact HO_4.out⟩, ⟨by (with_reducible repeat (first | apply Kd.S_alloc | apply Kd.S_drewN | apply Kd.S_drew)); exact HO_18.out⟩, ⟨by (with_reducible repeat (first | apply Kd.S_alloc | apply Kd.S_drewN | apply Kd.S_drew)); exact HO_24.out⟩, ⟨by repeat (first | (with_reducible exact HR154_0.out) | (with_reducible refine Kd.C_alloc ?_ _) | (with_reducible refine Kd.C_drewN ?_ _) | (with_reducible refine Kd.C_drew ?_) | exact HR154_0.out)⟩, ⟨by repeat (first | (with_reducible first | exact HB.out | apply below_alloc | apply pw_below_drewN | apply below_drew1) | exact HB.out)⟩⟩
                          · rw [if_neg c13] at H
                            exact absurd H (by simp)
                        · rw [if_neg c12] at H
                          exact absurd H (by simp)
                      · rw [if_neg c11] at H
                        exact absurd H (by simp)
                    · rw [if_neg c10] at H
                      exact absurd H (by simp)
                  · rw [if_neg c9] at H
                    have c9b0 : decide (x26_2 < (t150.length : Int)) = false := decide_eq_false c9
                    clear c9
                    have H' := Aside0.mk H
                    clear H
                    go_wp2
                    repeat (go_quiet (fail); try go_wp2)
                    go_roundg k2
                    case measure => have := HK1.out; have := HK2.out; omega
                    case rel => exact ⟨(x6_2), (wrap64 (x20_1 + 1)), (by first | rfl | (simp; done) | (simp [*]; done)), (by first | rfl | (simp; done) | (simp [*]; done)), H', ⟨by have := HK1.out; have := HK2.out; omega⟩, ⟨by (with_reducible repeat (first | apply Kd.S_alloc | apply Kd.S_drewN | apply Kd.S_drew)); exact HO_4.out⟩, ⟨by (with_reducible repeat (first | apply Kd.S_alloc | apply Kd.S_drewN | apply Kd.S_drew)); exact HO_18.out⟩, ⟨by repeat (first | (with_reducible first | exact HB.out | apply below_alloc | apply pw_below_drewN | apply below_drew1) | exact HB.out)⟩⟩
            · rw [if_neg c8] at H
              exact absurd H (by simp)
          · rw [if_neg c7] at H
            exact absurd H (by simp)
        · rw [if_neg c6] at H
          have c6b0 : decide (x20_1 < (t150.length : Int)) = false := decide_eq_false c6
          clear c6
          simp only [Option.some.injEq, Prod.mk.injEq] at H
          obtain ⟨rfl, rfl⟩ := H
          go_wp2
          repeat (go_quiet (fail); try go_wp2)
          go_ret2
          exact ⟨by first | rfl | (simp [errW_none, errW_some] <;> rfl) | (simp [*, errW_none, errW_some] <;> rfl), by repeat (first | (with_reducible first | exact HB.out | apply below_alloc | apply pw_below_drewN | apply below_drew1) | exact HB.out)⟩
  · replace c3 := Bool.eq_false_iff.mpr c3
    subst c3
    have H1 : (some (0, false)) = some (r1, r2) := by rw [if_neg (show ¬ (false = true) by decide)] at H; exact H
    clear H
    have H := H1
    clear H1
    simp only [Option.some.injEq, Prod.mk.injEq] at H
    obtain ⟨rfl, rfl⟩ := H
    go_enter Try.func26, Try.ntmps26
    go_wp2_with (first | (go_at_call 42; (with_reducible refine (impl_PairsOfRow.calls k _ _ l0 t150 false _ ?side1 ?side2 A2.out).mono ?_); (case side1 => repeat (first | exact HR0.out | (with_reducible refine Kd.C_alloc ?_ _) | (with_reducible refine Kd.C_drewN ?_ _) | (with_reducible refine Kd.C_drew ?_))); (case side2 => exact HC0.out); rintro e w19 ⟨v152, rfl, ho0, hb⟩; have n0_ := Aside0.mk (Kd.S_lower ho0 (below_size (by repeat (first | (with_reducible first | exact HB.out | apply below_alloc | apply pw_below_drewN | apply below_drew1) | exact HB.out)))); have n1_ := Aside0.mk (below_step (by repeat (first | (with_reducible first | exact HB.out | apply below_alloc | apply pw_below_drewN | apply below_drew1) | exact HB.out)) hb); clear HB; have HO153 := n0_; have HB := n1_; clear n0_ n1_; (try clear hb); (try clear hb2); (try clear hk); (try clear hi); (try clear ho0)))
    repeat (go_quiet (first | (go_at_call 42; (with_reducible refine (impl_PairsOfRow.calls k _ _ l0 t150 false _ ?side1 ?side2 A2.out).mono ?_); (case side1 => repeat (first | exact HR0.out | (with_reducible refine Kd.C_alloc ?_ _) | (with_reducible refine Kd.C_drewN ?_ _) | (with_reducible refine Kd.C_drew ?_))); (case side2 => exact HC0.out); rintro e w19 ⟨v152, rfl, ho0, hb⟩; have n0_ := Aside0.mk (Kd.S_lower ho0 (below_size (by repeat (first | (with_reducible first | exact HB.out | apply below_alloc | apply pw_below_drewN | apply below_drew1) | exact HB.out)))); have n1_ := Aside0.mk (below_step (by repeat (first | (with_reducible first | exact HB.out | apply below_alloc | apply pw_below_drewN | apply below_drew1) | exact HB.out)) hb); clear HB; have HO153 := n0_; have HB := n1_; clear n0_ n1_; (try clear hb); (try clear hb2); (try clear hk); (try clear hi); (try clear ho0))); try go_wp2_with (first | (go_at_call 42; (with_reducible refine (impl_PairsOfRow.calls k _ _ l0 t150 false _ ?side1 ?side2 A2.out).mono ?_); (case side1 => repeat (first | exact HR0.out | (with_reducible refine Kd.C_alloc ?_ _) | (with_reducible refine Kd.C_drewN ?_ _) | (with_reducible refine Kd.C_drew ?_))); (case side2 => exact HC0.out); rintro e w19 ⟨v152, rfl, ho0, hb⟩; have n0_ := Aside0.mk (Kd.S_lower ho0 (below_size (by repeat (first | (with_reducible first | exact HB.out | apply below_alloc | apply pw_below_drewN | apply below_drew1) | exact HB.out)))); have n1_ := Aside0.mk (below_step (by repeat (first | (with_reducible first | exact HB.out | apply below_alloc | apply pw_below_drewN | apply below_drew1) | exact HB.out)) hb); clear HB; have HO153 := n0_; have HB := n1_; clear n0_ n1_; (try clear hb); (try clear hb2); (try clear hk); (try clear hi); (try clear ho0))))
    go_ret2
    exact ⟨by first | rfl | (simp [errW_none, errW_some] <;> rfl) | (simp [*, errW_none, errW_some] <;> rfl), by repeat (first | (with_reducible first | exact HB.out | apply below_alloc | apply pw_below_drewN | apply below_drew1) | exact HB.out)⟩

end Go.Proofs.Yteepinopcmcklaa.PFnExactCrossingPairs
