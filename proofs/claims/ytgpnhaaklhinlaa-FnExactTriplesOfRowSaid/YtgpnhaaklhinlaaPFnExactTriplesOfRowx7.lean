-- Written by plug.py, a program of this session, over the kit's print of the function: checked by Lean alone.
import Derived.Test.YtgpnhaaklhinlaaPFnExactTriplesOfRowx0
import Derived.Test.YtgpnhaaklhinlaaPFnExactTriplesOfRowx1
import Derived.Test.YtgpnhaaklhinlaaPFnExactTriplesOfRowx2
import Derived.Test.YtgpnhaaklhinlaaPFnExactTriplesOfRowx4
import Derived.Test.YtgpnhaaklhinlaaPFnExactTriplesOfRowx5
import Derived.Test.YtgpnhaaklhinlaaPFnExactTriplesOfRowx6
namespace Go.Proofs.Ytgpnhaaklhinlaa.PFnExactTriplesOfRow
open Go.RowKit Go.Proofs.YtgpnhaaklhinlaaW.PrintWords Go.Proofs.YtgpnhaaklhinlaaW.PrintLast Go.Proofs.YtgpnhaaklhinlaaW.PrintMore
attribute [local go_sem] max2_int min2_int max_two min_two max_three min_three max_four min_four   -- for this text's walks alone
set_option linter.unusedVariables false
set_option linter.unusedSimpArgs false

/-! ### impl_TriplesOfRow: function 21 -/
/-- A number's triple. -/
def impl_TriplesOfRow.one (l : List Int) (n x : Int) : List Int := [x, wrap64 (wrap64 (rd ((impl_pairs.st l l.length).getD x.toNat []) 0 + n) + 1), wrap64 (wrap64 (rd ((impl_pairs.st l l.length).getD x.toNat []) 1 + n) + 1)]
def impl_TriplesOfRow.L (l : List Int) (n : Int) (m : Nat) : List (List Int) := (List.range m).map (fun (i : Nat) => impl_TriplesOfRow.one l n ((i : Int) + 1))
def impl_TriplesOfRow.ok (l : List Int) (m : Nat) : Bool := decide (l.length ≤ 40) && l.all (fun x => decide (x ≤ 20)) && (List.range m).all (fun i => decide (((impl_pairs.st l l.length).getD (i + 1) []).length = 2))
def impl_TriplesOfRow.rest (l : List Int) (n : Int) : Option (List (List Int) × Bool) := (impl_isMany.f n).bind fun t => if t = true then (if impl_TriplesOfRow.ok l n.toNat = true then some (impl_TriplesOfRow.L l n n.toNat, true) else none) else some ([], false)
def impl_TriplesOfRow.f (k : Nat) (l0 : List Int) : Option (List (List Int) × Bool) := (impl_skolem.f k l0).bind fun a => (impl_hooked.f k l0).bind fun b => impl_TriplesOfRow.rest l0 (if a < b then b else a)
theorem impl_TriplesOfRow.mono : ∀ a0 k, LeO (impl_TriplesOfRow.f k a0) (impl_TriplesOfRow.f (k + 1) a0) := by
  intro a0 k
  unfold impl_TriplesOfRow.f
  refine LeO.bind (impl_skolem.mono _ _) (fun t => ?_)
  exact LeO.bind (impl_hooked.mono _ _) (fun _ => LeO.refl _)
theorem impl_TriplesOfRow.many {n : Int} (h : impl_isMany.f n = some true) : 1 ≤ n ∧ n ≤ 10 := by
  unfold impl_isMany.f at h
  split at h
  · simp at h
    omega
  · simp at h
theorem impl_TriplesOfRow.okd {l : List Int} {m : Nat} (h : impl_TriplesOfRow.ok l m = true) : (l.length ≤ 40 ∧ ∀ j : Nat, j < l.length → rd l j ≤ 20) ∧ ∀ i, i < m → ((impl_pairs.st l l.length).getD (i + 1) []).length = 2 := by
  unfold impl_TriplesOfRow.ok at h
  rw [Bool.and_eq_true, Bool.and_eq_true, decide_eq_true_eq] at h
  refine ⟨⟨h.1.1, fun j hj => ?_⟩, fun i hi => of_decide_eq_true (List.all_eq_true.1 h.2 i (List.mem_range.2 hi))⟩
  have e := of_decide_eq_true (List.all_eq_true.1 h.1.2 (l[j]'hj) (List.getElem_mem hj))
  have : rd l (j : Int) = l[j]'hj := by simp [rd, List.getD_eq_getElem?_getD, hj]
  rw [this]
  exact e
theorem impl_TriplesOfRow.lit (w : World) {base : Nat} (hb : base ≤ w.heap.size) (x y z : Int) : Kd.R (Kd.int .i64) 3 (w.alloc (.cells #[.int .i64 x, .int .i64 y, .int .i64 z] 3 (0, 0))) base (fun k => k = w.heap.size) (.slice (some ⟨w.heap.size, 0, none⟩) 3 3) [x, y, z] :=
  Kd.R_of_own ⟨rfl, .inr ⟨w.heap.size, 3, _, rfl, hb, heap_alloc_new _ _, Nat.le_refl _, by unfold maxLen; omega, rfl, rfl⟩⟩ (fun k hk => by
    have : some w.heap.size = some k := hk
    exact (Option.some.inj this).symm)
theorem impl_TriplesOfRow.new {w : World} {o : Obj} {a : Addr} {u : Value} (h : w.cell? a = some u) : (w.alloc o).cell? a = some u := (World.cell?_alloc_lt _ _ _ (World.block_lt_of_cell? _ _ h)).trans h
/-- What is held from a loop's beginning on. -/
theorem impl_TriplesOfRow.held {wl wr w' : World} {a b c : Addr} {u v x : Value} (h : Below wl.heap.size wl w') (h1 : Below wl.heap.size wl wr) (hd : wr.cell? a = some u ∧ wr.cell? b = some v ∧ wr.cell? c = some x) (hl : a.block < wl.heap.size ∧ b.block < wl.heap.size ∧ c.block < wl.heap.size) : w'.cell? a = some u ∧ w'.cell? b = some v ∧ w'.cell? c = some x :=
  ⟨(h.cell hl.1).trans ((h1.cell hl.1).symm.trans hd.1), (h.cell hl.2.1).trans ((h1.cell hl.2.1).symm.trans hd.2.1), (h.cell hl.2.2).trans ((h1.cell hl.2.2).symm.trans hd.2.2)⟩
set_option maxHeartbeats 8000000 in
set_option maxRecDepth 100000 in
theorem impl_TriplesOfRow.calls (k : Nat) (A0 : Option Addr) (c0 : Nat) (l0 : List Int) (r1 : List (List Int)) (r2 : Bool) (w : World) (hr0 : Kd.C (Kd.int .i64) w A0 l0.length l0) (hc0 : l0.length ≤ c0) (h : impl_TriplesOfRow.f k l0 = some (r1, r2)) :
    Calls Try.prog 21 #[.slice A0 l0.length c0] w fun e w' => ∃ v0_ : Value, e = .returned (.tuple #[v0_, .bool r2]) ∧ Kd.S (Kd.slice 3 (Kd.int .i64)) 22 w' w.heap.size (fun _ => True) v0_ r1 ∧ Below w.heap.size w w' := by
  have HR0 := Aside0.mk hr0
  have HC0 := Aside0.mk hc0
  clear hr0 hc0
  have HB := Aside0.mk (Below.refl w.heap.size w)
  obtain ⟨a, ha, H⟩ := Option.bind_eq_some_iff.mp h
  clear h
  obtain ⟨b, hb, H⟩ := Option.bind_eq_some_iff.mp H
  have SA := Aside0.mk ha
  have SB := Aside0.mk hb
  clear ha hb
  by_cases hab : a < b
  · rw [if_pos hab] at H
    have eab : (a < b) = True := eq_true hab
    clear hab
    obtain ⟨t, ht, H⟩ := Option.bind_eq_some_iff.mp H
    have A2 := Aside0.mk ht
    clear ht
    cases t with
    | false =>
      rw [if_neg (by decide)] at H
      obtain ⟨rfl, rfl⟩ := Prod.mk.inj (Option.some.inj H)
      clear H
      go_enter Try.func21, Try.ntmps21
      go_wp2_with (first | ((with_reducible refine gate_callee (f := 50) rfl ?_); refine goesL_ (some 10) rfl rfl Try.func50 (by kernel_rfl) rfl #[.slice A0 l0.length c0] rfl (by (try simp only [List.map_toArray, List.map_cons, List.map_nil]); first | done | rfl) ?_; refine (impl_skolem.calls k _ _ l0 _ _ (Kd.C_below HR0.out HB.out) HC0.out SA.out).mono ?_; rintro e w2 ⟨rfl, hb⟩; refine ⟨_, rfl, ?_⟩; have n0_ := Aside0.mk (below_step HB.out hb); clear HB; have HB := n0_; clear n0_ hb) | ((with_reducible refine gate_callee (f := 51) rfl ?_); refine goesL_ (some 12) rfl rfl Try.func51 (by kernel_rfl) rfl #[.slice A0 l0.length c0] rfl (by (try simp only [List.map_toArray, List.map_cons, List.map_nil]); first | done | rfl) ?_; refine (impl_hooked.calls k _ _ l0 _ _ (Kd.C_below HR0.out HB.out) HC0.out SB.out).mono ?_; rintro e w3 ⟨rfl, hb⟩; refine ⟨_, rfl, ?_⟩; have n0_ := Aside0.mk (below_step HB.out hb); clear HB; have HB := n0_; clear n0_ hb) | ((with_reducible refine gate_callee (f := 52) rfl ?_); refine goesL_ (some 15) rfl rfl Try.func52 (by kernel_rfl) rfl #[.int .i64 b] rfl (by (try simp only [List.map_toArray, List.map_cons, List.map_nil]); first | done | rfl) ?_; refine (impl_isMany.calls _ _ _ A2.out).mono ?_; rintro e w4 ⟨rfl, hq⟩; refine ⟨_, rfl, ?_⟩; have hb := Drawn0.below hq; clear hq; have n0_ := Aside0.mk (below_step HB.out hb); clear HB; have HB := n0_; clear n0_ hb))
      go_ret2
      exact ⟨_, rfl, Kd.S_nil _ _ _ _ _, HB.out⟩
    | true =>
      rw [if_pos rfl] at H
      by_cases hok : impl_TriplesOfRow.ok l0 b.toNat = true
      · rw [if_pos hok] at H
        obtain ⟨rfl, rfl⟩ := Prod.mk.inj (Option.some.inj H)
        clear H
        have OK := Aside0.mk (impl_TriplesOfRow.okd hok)
        have MANY := Aside0.mk (impl_TriplesOfRow.many A2.out)
        clear hok
        go_enter Try.func21, Try.ntmps21
        go_wp2_with (first | ((with_reducible refine gate_callee (f := 50) rfl ?_); refine goesL_ (some 10) rfl rfl Try.func50 (by kernel_rfl) rfl #[.slice A0 l0.length c0] rfl (by (try simp only [List.map_toArray, List.map_cons, List.map_nil]); first | done | rfl) ?_; refine (impl_skolem.calls k _ _ l0 _ _ (Kd.C_below HR0.out HB.out) HC0.out SA.out).mono ?_; rintro e w2 ⟨rfl, hb⟩; refine ⟨_, rfl, ?_⟩; have n0_ := Aside0.mk (below_step HB.out hb); clear HB; have HB := n0_; clear n0_ hb) | ((with_reducible refine gate_callee (f := 51) rfl ?_); refine goesL_ (some 12) rfl rfl Try.func51 (by kernel_rfl) rfl #[.slice A0 l0.length c0] rfl (by (try simp only [List.map_toArray, List.map_cons, List.map_nil]); first | done | rfl) ?_; refine (impl_hooked.calls k _ _ l0 _ _ (Kd.C_below HR0.out HB.out) HC0.out SB.out).mono ?_; rintro e w3 ⟨rfl, hb⟩; refine ⟨_, rfl, ?_⟩; have n0_ := Aside0.mk (below_step HB.out hb); clear HB; have HB := n0_; clear n0_ hb) | ((with_reducible refine gate_callee (f := 52) rfl ?_); refine goesL_ (some 15) rfl rfl Try.func52 (by kernel_rfl) rfl #[.int .i64 b] rfl (by (try simp only [List.map_toArray, List.map_cons, List.map_nil]); first | done | rfl) ?_; refine (impl_isMany.calls _ _ _ A2.out).mono ?_; rintro e w4 ⟨rfl, hq⟩; refine ⟨_, rfl, ?_⟩; have hb := Drawn0.below hq; clear hq; have n0_ := Aside0.mk (below_step HB.out hb); clear HB; have HB := n0_; clear n0_ hb) | ((with_reducible refine gate_callee (f := 46) rfl ?_); refine goesL_ (some 19) rfl rfl Try.func46 (by kernel_rfl) rfl #[.slice A0 l0.length c0] rfl (by (try simp only [List.map_toArray, List.map_cons, List.map_nil]); first | done | rfl) ?_; refine (impl_pairs.calls _ _ l0 _ (Kd.C_below HR0.out HB.out) HC0.out OK.out.1.2 OK.out.1.1).mono ?_; rintro e w5 ⟨vs, rfl, hsz, hrows, hb⟩; refine ⟨_, rfl, ?_⟩; have HSZ := Aside0.mk hsz; have HROWS := Aside0.mk hrows; have HONE := Aside0.mk (impl_pairs.oneR hrows); have HB4 := HB; have n0_ := Aside0.mk (below_step HB.out hb); clear HB; have HB := n0_; clear n0_ hsz hrows hb) | (refine impl_pairs.stored (w5 := w5) rfl (.tmp 5) (.tmp 20) rfl _ rfl rfl rfl HSZ.out HONE.out HROWS.out ?_; intro W6 hb6 hg6 hr6; have n0_ := Aside0.mk (below_step HB.out hb6); clear HB; have HB := n0_; clear n0_ hb6; have HG7 := Aside0.mk hg6; have HR7 := Aside0.mk hr6; clear hg6 hr6))
        obtain ⟨wl, hwl⟩ : ∃ wl : World, wl = W6 := ⟨_, rfl⟩
        subst hwl
        generalize hgn : b = n at OK MANY ⊢
        have HGN := Aside0.mk hgn
        clear hgn
        go_loopg [7, 8] (n.toNat + 1) (fun kq v7 v8 w' => ∃ x : Int, v8 = .int .i64 x ∧ Aside0 (1 ≤ x ∧ x ≤ n + 1 ∧ kq + x.toNat = n.toNat + 2) ∧ Aside0 (Kd.S (Kd.slice 3 (Kd.int .i64)) 22 w' wl.heap.size (fun _ => True) v7 (impl_TriplesOfRow.L l0 n (x.toNat - 1))) ∧ Aside0 (Below wl.heap.size wl w'))
        case atStart => exact ⟨1, rfl, ⟨by have := MANY.out; omega⟩, ⟨Kd.S_nil _ _ _ _ _⟩, ⟨Below.refl _ _⟩⟩
        case round =>
          obtain ⟨x, rfl, HX, HS, HBL⟩ := hrel
          cases gk with
          | zero => exact absurd HX.out (by omega)
          | succ k1 =>
            by_cases hx : x ≤ n
            · have cx : decide (x ≤ n) = true := decide_eq_true hx
              have hn20 : 1 ≤ x ∧ x ≤ 10 := by have := HX.out; have := MANY.out; omega
              have hy2 := OK.out.2 (x.toNat - 1) (by have := HX.out; omega)
              rw [show x.toNat - 1 + 1 = x.toNat by omega] at hy2
              obtain ⟨y, hy⟩ : ∃ y, y = (impl_pairs.st l0 l0.length).getD x.toNat [] := ⟨_, rfl⟩
              rw [← hy] at hy2
              have hone : impl_TriplesOfRow.one l0 n x = [x, wrap64 (wrap64 (rd y 0 + n) + 1), wrap64 (wrap64 (rd y 1 + n) + 1)] := by unfold impl_TriplesOfRow.one; rw [← hy]
              have hv := List.getElem?_eq_getElem (l := vs) (i := x.toNat) (by rw [HSZ.out]; omega)
              generalize vs[x.toNat]'(by rw [HSZ.out]; omega) = v at hv
              have hr := HR7.out _ _ hv
              rw [← hy] at hr
              obtain ⟨A, c, rfl⟩ := Kd.R_slice hr
              have hrw := Kd.R_below hr HBL.out
              obtain ⟨ad, e_, hc0_⟩ := Kd.at_int (Kd.R_reads' hrw).2.2 0 (Int.le_refl _) (by omega)
              subst e_
              obtain ⟨ad', e_, hc1_⟩ := Kd.at_int (Kd.R_reads' hrw).2.2 1 (by omega) (by omega)
              obtain rfl : ad = ad' := by injection e_
              obtain ⟨gy, rfl⟩ := Kd.R_head hr
              have hcv : wr.cell? ⟨w5.heap.size, x.toNat, none⟩ = some (.slice (some ⟨gy, 0, none⟩) y.length c) := by
                rw [cell_of_row wr _ _ _ _ (0, 0) ((HBL.out.block _ (blk_lt HG7.out)).trans HG7.out)]
                simpa using hv
              have d0 : wr.cell? ⟨gy, 0, none⟩ = some (.int .i64 (rd y 0)) := by simpa [Addr.add] using hc0_
              have d1 : wr.cell? ⟨gy, 1, none⟩ = some (.int .i64 (rd y 1)) := by simpa [Addr.add] using hc1_
              obtain ⟨acc, hacc⟩ : ∃ acc, acc = impl_TriplesOfRow.L l0 n (x.toNat - 1) := ⟨_, rfl⟩
              rw [← hacc] at HS
              have HL6 := Aside0.mk (show acc.length = x.toNat - 1 by rw [hacc]; unfold impl_TriplesOfRow.L; simp)
              have HACC := Aside0.mk hacc
              clear hacc
              obtain ⟨A6, c6, rfl⟩ := Kd.R_slice (Kd.S_R HS.out)
              have HD := Aside0.mk (show wr.cell? ⟨w5.heap.size, x.toNat, none⟩ = some (.slice (some ⟨gy, 0, none⟩) y.length c) ∧ wr.cell? ⟨gy, 0, none⟩ = some (.int .i64 (rd y 0)) ∧ wr.cell? ⟨gy, 1, none⟩ = some (.int .i64 (rd y 1)) from ⟨hcv, d0, d1⟩)
              have HLT := Aside0.mk (show (⟨w5.heap.size, x.toNat, none⟩ : Addr).block < wl.heap.size ∧ (⟨gy, 0, none⟩ : Addr).block < wl.heap.size ∧ (⟨gy, 1, none⟩ : Addr).block < wl.heap.size from ⟨blk_lt HG7.out, Kd.R_lt hr gy rfl, Kd.R_lt hr gy rfl⟩)
              have HO := Aside0.mk hone
              have HY2 := Aside0.mk hy2
              have HXX := Aside0.mk hx
              have p2 : (0 ≤ x) = True := eq_true (by omega)
              have q2 : (x < 21) = True := eq_true (by omega)
              have q3 : (0 < (y.length : Int)) = True := eq_true (by omega)
              have q3' : (0 < y.length) = True := eq_true (by omega)
              have q4 : (1 < (y.length : Int)) = True := eq_true (by omega)
              have q4' : (1 < y.length) = True := eq_true (by omega)
              clear hx hn20 hy2 hy hone hv hr hrw hc0_ hc1_ e_ hcv d0 d1
              go_wp2
              have HS8 := Aside0.mk (Kd.S_drew HS.out)
              have HB8 := Aside0.mk (below_drew HBL.out)
              refine start_ (n := 22) (S := fun w' => w'.cell? ⟨w5.heap.size, x.toNat, none⟩ = some (.slice (some ⟨gy, 0, none⟩) y.length c) ∧ w'.cell? ⟨gy, 0, none⟩ = some (.int .i64 (rd y 0)) ∧ w'.cell? ⟨gy, 1, none⟩ = some (.int .i64 (rd y 1))) (ds := []) #[false, false, false, false, false, false, false, false, false, false, false, false, false, false, false, false, false, false, false, false, false, false] (by kernel_rfl) rfl rfl HD.out (fun hHeld => ?_)
              generalize wr.drew = w8 at HS8 HB8 hHeld ⊢
              refine pure_ (i := 0) (N := some 27) (v := ?_) (a' := ?_) #[true, false, false, false, false, false, false, false, false, false, false, false, false, false, false, false, false, false, false, false, false, false] rfl rfl (by kernel_rfl) (fun _ _ _ h => h) (Or.inl ⟨by rfl, ?_⟩) ?_ ?_
              rotate_left
              · intro w'
                go_simp
                with_reducible rfl
              rotate_left
              · simp only [Act.put, List.setIfInBounds_toArray, List.set_cons_zero, List.set_cons_succ, i64_w, i32_w]
                rfl
              refine pure_ (i := 1) (N := some 28) (v := ?_) (a' := ?_) #[true, true, false, false, false, false, false, false, false, false, false, false, false, false, false, false, false, false, false, false, false, false] rfl rfl (by kernel_rfl) (fun _ _ _ h => h) (Or.inl ⟨by rfl, ?_⟩) ?_ ?_
              rotate_left
              · intro w'
                go_simp
                with_reducible rfl
              rotate_left
              · simp only [Act.put, List.setIfInBounds_toArray, List.set_cons_zero, List.set_cons_succ, i64_w, i32_w]
                rfl
              refine pure_ (i := 2) (N := some 29) (v := ?_) (a' := ?_) #[true, true, true, false, false, false, false, false, false, false, false, false, false, false, false, false, false, false, false, false, false, false] rfl rfl (by kernel_rfl) (fun _ _ _ h => h) (Or.inl ⟨by rfl, ?_⟩) ?_ ?_
              rotate_left
              · intro w'
                go_simp
                with_reducible rfl
              rotate_left
              · simp only [Act.put, List.setIfInBounds_toArray, List.set_cons_zero, List.set_cons_succ, i64_w, i32_w]
                rfl
              refine pure_ (i := 3) (N := some 30) (v := ?_) (a' := ?_) #[true, true, true, true, false, false, false, false, false, false, false, false, false, false, false, false, false, false, false, false, false, false] rfl rfl (by kernel_rfl) (fun _ _ _ h => h) (Or.inl ⟨by rfl, ?_⟩) ?_ ?_
              rotate_left
              · intro w'
                go_simp
                with_reducible rfl
              rotate_left
              · simp only [Act.put, List.setIfInBounds_toArray, List.set_cons_zero, List.set_cons_succ, i64_w, i32_w]
                rfl
              refine pure_ (i := 7) (N := some 34) (v := ?_) (a' := ?_) #[true, true, true, true, false, false, false, true, false, false, false, false, false, false, false, false, false, false, false, false, false, false] rfl rfl (by kernel_rfl) (fun _ _ _ h => h) (Or.inl ⟨by rfl, ?_⟩) ?_ ?_
              rotate_left
              · intro w'
                go_simp
                with_reducible rfl
              rotate_left
              · simp only [Act.put, List.setIfInBounds_toArray, List.set_cons_zero, List.set_cons_succ, i64_w, i32_w]
                rfl
              refine pure_ (i := 10) (N := some 37) (v := ?_) (a' := ?_) #[true, true, true, true, false, false, false, true, false, false, true, false, false, false, false, false, false, false, false, false, false, false] rfl rfl (by kernel_rfl) (fun _ _ _ h => h) (Or.inl ⟨by rfl, ?_⟩) ?_ ?_
              rotate_left
              · intro w'
                go_simp
                with_reducible rfl
              rotate_left
              · simp only [Act.put, List.setIfInBounds_toArray, List.set_cons_zero, List.set_cons_succ, i64_w, i32_w]
                rfl
              refine pure_ (i := 11) (N := some 38) (v := ?_) (a' := ?_) #[true, true, true, true, false, false, false, true, false, false, true, true, false, false, false, false, false, false, false, false, false, false] rfl rfl (by kernel_rfl) (fun _ _ _ h => h) (Or.inl ⟨by rfl, ?_⟩) ?_ ?_
              rotate_left
              · intro w'
                go_simp
                with_reducible rfl
              rotate_left
              · simp only [Act.put, List.setIfInBounds_toArray, List.set_cons_zero, List.set_cons_succ, i64_w, i32_w]
                rfl
              refine pure_ (i := 15) (N := some 42) (v := ?_) (a' := ?_) #[true, true, true, true, false, false, false, true, false, false, true, true, false, false, false, true, false, false, false, false, false, false] rfl rfl (by kernel_rfl) (fun _ _ _ h => h) (Or.inl ⟨by rfl, ?_⟩) ?_ ?_
              rotate_left
              · intro w'
                go_simp
                with_reducible rfl
              rotate_left
              · simp only [Act.put, List.setIfInBounds_toArray, List.set_cons_zero, List.set_cons_succ, i64_w, i32_w]
                rfl
              refine take_ (i := 4) (N := some 31) (v := ?_) (a' := ?_) #[true, true, true, true, true, false, false, true, false, false, true, true, false, false, false, true, false, false, false, false, false, false] rfl rfl (by kernel_rfl) (fun _ _ _ h => h) (Or.inl ⟨by rfl, ?_⟩) hHeld ?_ ?_
              rotate_left
              · rintro w' ⟨s0, s1, s2⟩
                go_simp
                with_reducible rfl
              rotate_left
              · simp only [Act.put, List.setIfInBounds_toArray, List.set_cons_zero, List.set_cons_succ, i64_w, i32_w]
                rfl
              refine pure_ (i := 5) (N := some 32) (v := ?_) (a' := ?_) #[true, true, true, true, true, true, false, true, false, false, true, true, false, false, false, true, false, false, false, false, false, false] rfl rfl (by kernel_rfl) (fun _ _ _ h => h) (Or.inl ⟨by rfl, ?_⟩) ?_ ?_
              rotate_left
              · intro w'
                go_simp
                with_reducible rfl
              rotate_left
              · simp only [Act.put, List.setIfInBounds_toArray, List.set_cons_zero, List.set_cons_succ, i64_w, i32_w]
                rfl
              refine take_ (i := 6) (N := some 33) (v := ?_) (a' := ?_) #[true, true, true, true, true, true, true, true, false, false, true, true, false, false, false, true, false, false, false, false, false, false] rfl rfl (by kernel_rfl) (fun _ _ _ h => h) (Or.inl ⟨by rfl, ?_⟩) hHeld ?_ ?_
              rotate_left
              · rintro w' ⟨s0, s1, s2⟩
                go_simp
                with_reducible rfl
              rotate_left
              · simp only [Act.put, List.setIfInBounds_toArray, List.set_cons_zero, List.set_cons_succ, i64_w, i32_w]
                rfl
              refine pure_ (i := 8) (N := some 35) (v := ?_) (a' := ?_) #[true, true, true, true, true, true, true, true, true, false, true, true, false, false, false, true, false, false, false, false, false, false] rfl rfl (by kernel_rfl) (fun _ _ _ h => h) (Or.inl ⟨by rfl, ?_⟩) ?_ ?_
              rotate_left
              · intro w'
                go_simp
                with_reducible rfl
              rotate_left
              · simp only [Act.put, List.setIfInBounds_toArray, List.set_cons_zero, List.set_cons_succ, i64_w, i32_w]
                rfl
              refine pure_ (i := 9) (N := some 36) (v := ?_) (a' := ?_) #[true, true, true, true, true, true, true, true, true, true, true, true, false, false, false, true, false, false, false, false, false, false] rfl rfl (by kernel_rfl) (fun _ _ _ h => h) (Or.inl ⟨by rfl, ?_⟩) ?_ ?_
              rotate_left
              · intro w'
                go_simp
                with_reducible rfl
              rotate_left
              · simp only [Act.put, List.setIfInBounds_toArray, List.set_cons_zero, List.set_cons_succ, i64_w, i32_w]
                rfl
              refine take_ (i := 12) (N := some 39) (v := ?_) (a' := ?_) #[true, true, true, true, true, true, true, true, true, true, true, true, true, false, false, true, false, false, false, false, false, false] rfl rfl (by kernel_rfl) (fun _ _ _ h => h) (Or.inl ⟨by rfl, ?_⟩) hHeld ?_ ?_
              rotate_left
              · rintro w' ⟨s0, s1, s2⟩
                go_simp
                with_reducible rfl
              rotate_left
              · simp only [Act.put, List.setIfInBounds_toArray, List.set_cons_zero, List.set_cons_succ, i64_w, i32_w]
                rfl
              refine pure_ (i := 13) (N := some 40) (v := ?_) (a' := ?_) #[true, true, true, true, true, true, true, true, true, true, true, true, true, true, false, true, false, false, false, false, false, false] rfl rfl (by kernel_rfl) (fun _ _ _ h => h) (Or.inl ⟨by rfl, ?_⟩) ?_ ?_
              rotate_left
              · intro w'
                go_simp
                with_reducible rfl
              rotate_left
              · simp only [Act.put, List.setIfInBounds_toArray, List.set_cons_zero, List.set_cons_succ, i64_w, i32_w]
                rfl
              refine take_ (i := 14) (N := some 41) (v := ?_) (a' := ?_) #[true, true, true, true, true, true, true, true, true, true, true, true, true, true, true, true, false, false, false, false, false, false] rfl rfl (by kernel_rfl) (fun _ _ _ h => h) (Or.inl ⟨by rfl, ?_⟩) hHeld ?_ ?_
              rotate_left
              · rintro w' ⟨s0, s1, s2⟩
                go_simp
                with_reducible rfl
              rotate_left
              · simp only [Act.put, List.setIfInBounds_toArray, List.set_cons_zero, List.set_cons_succ, i64_w, i32_w]
                rfl
              refine pure_ (i := 16) (N := some 43) (v := ?_) (a' := ?_) #[true, true, true, true, true, true, true, true, true, true, true, true, true, true, true, true, true, false, false, false, false, false] rfl rfl (by kernel_rfl) (fun _ _ _ h => h) (Or.inl ⟨by rfl, ?_⟩) ?_ ?_
              rotate_left
              · intro w'
                go_simp
                with_reducible rfl
              rotate_left
              · simp only [Act.put, List.setIfInBounds_toArray, List.set_cons_zero, List.set_cons_succ, i64_w, i32_w]
                rfl
              refine pure_ (i := 17) (N := some 44) (v := ?_) (a' := ?_) #[true, true, true, true, true, true, true, true, true, true, true, true, true, true, true, true, true, true, false, false, false, false] rfl rfl (by kernel_rfl) (fun _ _ _ h => h) (Or.inl ⟨by rfl, ?_⟩) ?_ ?_
              rotate_left
              · intro w'
                go_simp
                with_reducible rfl
              rotate_left
              · simp only [Act.put, List.setIfInBounds_toArray, List.set_cons_zero, List.set_cons_succ, i64_w, i32_w]
                rfl
              refine one_ (i := 18) (N := some 45) #[true, true, true, true, true, true, true, true, true, true, true, true, true, true, true, true, true, true, true, false, false, false] rfl rfl (by kernel_rfl) (by decide) (fun K hK => ?_)
              refine value_ (w1 := ?_) (v := ?_) (by rfl) rfl ?_ ?_
              rotate_left 2
              · go_simp
                constructor
                · rfl
                · rfl
              refine hK.out _ _ ⟨impl_TriplesOfRow.new hHeld.1, impl_TriplesOfRow.new hHeld.2.1, impl_TriplesOfRow.new hHeld.2.2⟩ (fun hHeld => ?_)
              clear hK K
              refine norm_ (a' := ?_) ?_ ?_
              rotate_left
              · show Act.put _ (some 45) _ = _
                simp only [Act.put, List.setIfInBounds_toArray, List.set_cons_zero, List.set_cons_succ, i64_w, i32_w]
                rfl
              have HO9 := Aside0.mk (impl_TriplesOfRow.lit w8 HB8.out.size x (wrap64 (wrap64 (rd y 0 + n) + 1)) (wrap64 (wrap64 (rd y 1 + n) + 1)))
              have HS9 := Aside0.mk (Kd.S_mono (ok' := fun k => True ∧ ¬ k = w8.heap.size) (Kd.S_alloc (Kd.S_bound HS8.out) (.cells #[.int .i64 x, .int .i64 (wrap64 (wrap64 (rd y 0 + n) + 1)), .int .i64 (wrap64 (wrap64 (rd y 1 + n) + 1))] 3 (0, 0))) (fun k hk => ⟨trivial, by have := hk.2.2.1; omega⟩))
              have HB9 := Aside0.mk (below_alloc HB8.out (.cells #[.int .i64 x, .int .i64 (wrap64 (wrap64 (rd y 0 + n) + 1)), .int .i64 (wrap64 (wrap64 (rd y 1 + n) + 1))] 3 (0, 0)))
              generalize hw9 : w8.alloc (.cells #[.int .i64 x, .int .i64 (wrap64 (wrap64 (rd y 0 + n) + 1)), .int .i64 (wrap64 (wrap64 (rd y 1 + n) + 1))] 3 (0, 0)) = w9 at HO9 HS9 HB9 hHeld ⊢
              have HZ9 := Aside0.mk (show w9.heap.size = w8.heap.size + 1 by rw [← hw9]; show (w8.heap.push _).size = _; simp)
              clear hw9
              refine one_ (i := 19) (N := some 46) #[true, true, true, true, true, true, true, true, true, true, true, true, true, true, true, true, true, true, true, true, false, false] rfl rfl (by kernel_rfl) (by decide) (fun K hK => ?_)
              refine value_ (w1 := ?_) (v := ?_) (by rfl) rfl ?_ ?_
              rotate_left 2
              · go_simp
                constructor
                · rfl
                · rfl
              refine hK.out _ _ ⟨impl_TriplesOfRow.new hHeld.1, impl_TriplesOfRow.new hHeld.2.1, impl_TriplesOfRow.new hHeld.2.2⟩ (fun hHeld => ?_)
              clear hK K
              refine norm_ (a' := ?_) ?_ ?_
              rotate_left
              · show Act.put _ (some 46) _ = _
                simp only [Act.put, List.setIfInBounds_toArray, List.set_cons_zero, List.set_cons_succ, i64_w, i32_w]
                rfl
              refine one_ (i := 20) (N := some 47) #[true, true, true, true, true, true, true, true, true, true, true, true, true, true, true, true, true, true, true, true, true, false] rfl rfl (by kernel_rfl) (by decide) (fun K hK => ?_)
              refine Kd.S_append_step (Kd.slice 3 (Kd.int .i64)) (w0 := wl) (W := w9) wl.heap.size (by rfl) (.tmp 27) (.tmp 46) 23 22 (.slice none 0 0) 24 rfl Try.underlying23 impl_pairs.info22 rfl (by decide) (by omega) (.slice A6 acc.length c6) acc [x, (wrap64 (wrap64 (rd y 0 + n) + 1)), (wrap64 (wrap64 (rd y 1 + n) + 1))] [.slice (some ⟨w8.heap.size, 0, none⟩) 3 3] (fun _ => True) (fun k => k = w8.heap.size) rfl rfl ?aP ?aK ?aF ?aO ?aB ?aS ?aL ?_
              (case aP => exact Kd.M_row HO9.out)
              (case aK => exact fun k hk => ⟨trivial, fun e => by have := Kd.S_lt HS8.out k e.symm; omega⟩)
              (case aF => exact fun _ _ => trivial)
              (case aO => exact HS9.out)
              (case aB => exact HB9.out)
              (case aS => exact HB9.out.size)
              (case aL => have := HL6.out; have := HX.out; have := HXX.out; have := MANY.out; omega)
              intro v10 w10 ho10 hb10 hg10 hat10
              have HS10 := Aside0.mk ho10
              have HB10 := Aside0.mk hb10
              clear ho10 hg10 hat10
              have HDX := impl_TriplesOfRow.held hb10 HBL.out HD.out HLT.out
              refine hK.out _ _ ⟨HDX.1, HDX.2.1, HDX.2.2⟩ (fun hHeld => ?_)
              clear hK K
              refine norm_ (a' := ?_) ?_ ?_
              rotate_left
              · show Act.put _ (some 47) _ = _
                simp only [Act.put, List.setIfInBounds_toArray, List.set_cons_zero, List.set_cons_succ, i64_w, i32_w]
                rfl
              refine pure_ (i := 21) (N := some 7) (v := ?_) (a' := ?_) #[true, true, true, true, true, true, true, true, true, true, true, true, true, true, true, true, true, true, true, true, true, true] rfl rfl (by kernel_rfl) (fun _ _ _ h => h) (Or.inl ⟨by rfl, ?_⟩) ?_ ?_
              rotate_left
              · intro w'
                go_simp
                with_reducible rfl
              rotate_left
              · simp only [Act.put, List.setIfInBounds_toArray, List.set_cons_zero, List.set_cons_succ, i64_w, i32_w]
                rfl
              refine done_ (by kernel_rfl) ?_
              (try simp only [Exit.inBlock, Exit.then])
              try go_wp2
              go_roundg k1
              case measure => have := HX.out; omega
              case rel =>
                refine ⟨x + 1, by rw [show wrap64 (x + 1) = x + 1 by have := HX.out; have := HXX.out; have := MANY.out; unfold wrap64; omega], ⟨by have := HX.out; have := HXX.out; omega⟩, ⟨?_⟩, HB10⟩
                have e : impl_TriplesOfRow.L l0 n ((x + 1).toNat - 1) = acc ++ [[x, wrap64 (wrap64 (rd y 0 + n) + 1), wrap64 (wrap64 (rd y 1 + n) + 1)]] := by
                  rw [show (x + 1).toNat - 1 = (x.toNat - 1) + 1 by have := HX.out; omega, HACC.out, ← HO.out]
                  unfold impl_TriplesOfRow.L
                  rw [List.range_succ, List.map_append, List.map_singleton, show ((x.toNat - 1 : Nat) : Int) + 1 = x by have := HX.out; omega]
                rw [e]
                exact HS10.out
            · have cx : decide (x ≤ n) = false := decide_eq_false hx
              have HSX := Aside0.mk (show Kd.S (Kd.slice 3 (Kd.int .i64)) 22 wr w.heap.size (fun _ => True) _ (impl_TriplesOfRow.L l0 b b.toNat) from by
                rw [HGN.out]
                have h := HS.out
                rw [show x.toNat - 1 = n.toNat by have := HX.out; omega] at h
                exact Kd.S_lower h HB.out.size)
              clear hx
              go_wp2
              go_ret2
              exact ⟨_, rfl, HSX.out, below_step HB.out HBL.out⟩
      · rw [if_neg hok] at H
        cases H
  · rw [if_neg hab] at H
    have eab : (a < b) = False := eq_false hab
    clear hab
    obtain ⟨t, ht, H⟩ := Option.bind_eq_some_iff.mp H
    have A2 := Aside0.mk ht
    clear ht
    cases t with
    | false =>
      rw [if_neg (by decide)] at H
      obtain ⟨rfl, rfl⟩ := Prod.mk.inj (Option.some.inj H)
      clear H
      go_enter Try.func21, Try.ntmps21
      go_wp2_with (first | ((with_reducible refine gate_callee (f := 50) rfl ?_); refine goesL_ (some 10) rfl rfl Try.func50 (by kernel_rfl) rfl #[.slice A0 l0.length c0] rfl (by (try simp only [List.map_toArray, List.map_cons, List.map_nil]); first | done | rfl) ?_; refine (impl_skolem.calls k _ _ l0 _ _ (Kd.C_below HR0.out HB.out) HC0.out SA.out).mono ?_; rintro e w2 ⟨rfl, hb⟩; refine ⟨_, rfl, ?_⟩; have n0_ := Aside0.mk (below_step HB.out hb); clear HB; have HB := n0_; clear n0_ hb) | ((with_reducible refine gate_callee (f := 51) rfl ?_); refine goesL_ (some 12) rfl rfl Try.func51 (by kernel_rfl) rfl #[.slice A0 l0.length c0] rfl (by (try simp only [List.map_toArray, List.map_cons, List.map_nil]); first | done | rfl) ?_; refine (impl_hooked.calls k _ _ l0 _ _ (Kd.C_below HR0.out HB.out) HC0.out SB.out).mono ?_; rintro e w3 ⟨rfl, hb⟩; refine ⟨_, rfl, ?_⟩; have n0_ := Aside0.mk (below_step HB.out hb); clear HB; have HB := n0_; clear n0_ hb) | ((with_reducible refine gate_callee (f := 52) rfl ?_); refine goesL_ (some 15) rfl rfl Try.func52 (by kernel_rfl) rfl #[.int .i64 a] rfl (by (try simp only [List.map_toArray, List.map_cons, List.map_nil]); first | done | rfl) ?_; refine (impl_isMany.calls _ _ _ A2.out).mono ?_; rintro e w4 ⟨rfl, hq⟩; refine ⟨_, rfl, ?_⟩; have hb := Drawn0.below hq; clear hq; have n0_ := Aside0.mk (below_step HB.out hb); clear HB; have HB := n0_; clear n0_ hb))
      go_ret2
      exact ⟨_, rfl, Kd.S_nil _ _ _ _ _, HB.out⟩
    | true =>
      rw [if_pos rfl] at H
      by_cases hok : impl_TriplesOfRow.ok l0 a.toNat = true
      · rw [if_pos hok] at H
        obtain ⟨rfl, rfl⟩ := Prod.mk.inj (Option.some.inj H)
        clear H
        have OK := Aside0.mk (impl_TriplesOfRow.okd hok)
        have MANY := Aside0.mk (impl_TriplesOfRow.many A2.out)
        clear hok
        go_enter Try.func21, Try.ntmps21
        go_wp2_with (first | ((with_reducible refine gate_callee (f := 50) rfl ?_); refine goesL_ (some 10) rfl rfl Try.func50 (by kernel_rfl) rfl #[.slice A0 l0.length c0] rfl (by (try simp only [List.map_toArray, List.map_cons, List.map_nil]); first | done | rfl) ?_; refine (impl_skolem.calls k _ _ l0 _ _ (Kd.C_below HR0.out HB.out) HC0.out SA.out).mono ?_; rintro e w2 ⟨rfl, hb⟩; refine ⟨_, rfl, ?_⟩; have n0_ := Aside0.mk (below_step HB.out hb); clear HB; have HB := n0_; clear n0_ hb) | ((with_reducible refine gate_callee (f := 51) rfl ?_); refine goesL_ (some 12) rfl rfl Try.func51 (by kernel_rfl) rfl #[.slice A0 l0.length c0] rfl (by (try simp only [List.map_toArray, List.map_cons, List.map_nil]); first | done | rfl) ?_; refine (impl_hooked.calls k _ _ l0 _ _ (Kd.C_below HR0.out HB.out) HC0.out SB.out).mono ?_; rintro e w3 ⟨rfl, hb⟩; refine ⟨_, rfl, ?_⟩; have n0_ := Aside0.mk (below_step HB.out hb); clear HB; have HB := n0_; clear n0_ hb) | ((with_reducible refine gate_callee (f := 52) rfl ?_); refine goesL_ (some 15) rfl rfl Try.func52 (by kernel_rfl) rfl #[.int .i64 a] rfl (by (try simp only [List.map_toArray, List.map_cons, List.map_nil]); first | done | rfl) ?_; refine (impl_isMany.calls _ _ _ A2.out).mono ?_; rintro e w4 ⟨rfl, hq⟩; refine ⟨_, rfl, ?_⟩; have hb := Drawn0.below hq; clear hq; have n0_ := Aside0.mk (below_step HB.out hb); clear HB; have HB := n0_; clear n0_ hb) | ((with_reducible refine gate_callee (f := 46) rfl ?_); refine goesL_ (some 19) rfl rfl Try.func46 (by kernel_rfl) rfl #[.slice A0 l0.length c0] rfl (by (try simp only [List.map_toArray, List.map_cons, List.map_nil]); first | done | rfl) ?_; refine (impl_pairs.calls _ _ l0 _ (Kd.C_below HR0.out HB.out) HC0.out OK.out.1.2 OK.out.1.1).mono ?_; rintro e w5 ⟨vs, rfl, hsz, hrows, hb⟩; refine ⟨_, rfl, ?_⟩; have HSZ := Aside0.mk hsz; have HROWS := Aside0.mk hrows; have HONE := Aside0.mk (impl_pairs.oneR hrows); have HB4 := HB; have n0_ := Aside0.mk (below_step HB.out hb); clear HB; have HB := n0_; clear n0_ hsz hrows hb) | (refine impl_pairs.stored (w5 := w5) rfl (.tmp 5) (.tmp 20) rfl _ rfl rfl rfl HSZ.out HONE.out HROWS.out ?_; intro W6 hb6 hg6 hr6; have n0_ := Aside0.mk (below_step HB.out hb6); clear HB; have HB := n0_; clear n0_ hb6; have HG7 := Aside0.mk hg6; have HR7 := Aside0.mk hr6; clear hg6 hr6))
        obtain ⟨wl, hwl⟩ : ∃ wl : World, wl = W6 := ⟨_, rfl⟩
        subst hwl
        generalize hgn : a = n at OK MANY ⊢
        have HGN := Aside0.mk hgn
        clear hgn
        go_loopg [7, 8] (n.toNat + 1) (fun kq v7 v8 w' => ∃ x : Int, v8 = .int .i64 x ∧ Aside0 (1 ≤ x ∧ x ≤ n + 1 ∧ kq + x.toNat = n.toNat + 2) ∧ Aside0 (Kd.S (Kd.slice 3 (Kd.int .i64)) 22 w' wl.heap.size (fun _ => True) v7 (impl_TriplesOfRow.L l0 n (x.toNat - 1))) ∧ Aside0 (Below wl.heap.size wl w'))
        case atStart => exact ⟨1, rfl, ⟨by have := MANY.out; omega⟩, ⟨Kd.S_nil _ _ _ _ _⟩, ⟨Below.refl _ _⟩⟩
        case round =>
          obtain ⟨x, rfl, HX, HS, HBL⟩ := hrel
          cases gk with
          | zero => exact absurd HX.out (by omega)
          | succ k1 =>
            by_cases hx : x ≤ n
            · have cx : decide (x ≤ n) = true := decide_eq_true hx
              have hn20 : 1 ≤ x ∧ x ≤ 10 := by have := HX.out; have := MANY.out; omega
              have hy2 := OK.out.2 (x.toNat - 1) (by have := HX.out; omega)
              rw [show x.toNat - 1 + 1 = x.toNat by omega] at hy2
              obtain ⟨y, hy⟩ : ∃ y, y = (impl_pairs.st l0 l0.length).getD x.toNat [] := ⟨_, rfl⟩
              rw [← hy] at hy2
              have hone : impl_TriplesOfRow.one l0 n x = [x, wrap64 (wrap64 (rd y 0 + n) + 1), wrap64 (wrap64 (rd y 1 + n) + 1)] := by unfold impl_TriplesOfRow.one; rw [← hy]
              have hv := List.getElem?_eq_getElem (l := vs) (i := x.toNat) (by rw [HSZ.out]; omega)
              generalize vs[x.toNat]'(by rw [HSZ.out]; omega) = v at hv
              have hr := HR7.out _ _ hv
              rw [← hy] at hr
              obtain ⟨A, c, rfl⟩ := Kd.R_slice hr
              have hrw := Kd.R_below hr HBL.out
              obtain ⟨ad, e_, hc0_⟩ := Kd.at_int (Kd.R_reads' hrw).2.2 0 (Int.le_refl _) (by omega)
              subst e_
              obtain ⟨ad', e_, hc1_⟩ := Kd.at_int (Kd.R_reads' hrw).2.2 1 (by omega) (by omega)
              obtain rfl : ad = ad' := by injection e_
              obtain ⟨gy, rfl⟩ := Kd.R_head hr
              have hcv : wr.cell? ⟨w5.heap.size, x.toNat, none⟩ = some (.slice (some ⟨gy, 0, none⟩) y.length c) := by
                rw [cell_of_row wr _ _ _ _ (0, 0) ((HBL.out.block _ (blk_lt HG7.out)).trans HG7.out)]
                simpa using hv
              have d0 : wr.cell? ⟨gy, 0, none⟩ = some (.int .i64 (rd y 0)) := by simpa [Addr.add] using hc0_
              have d1 : wr.cell? ⟨gy, 1, none⟩ = some (.int .i64 (rd y 1)) := by simpa [Addr.add] using hc1_
              obtain ⟨acc, hacc⟩ : ∃ acc, acc = impl_TriplesOfRow.L l0 n (x.toNat - 1) := ⟨_, rfl⟩
              rw [← hacc] at HS
              have HL6 := Aside0.mk (show acc.length = x.toNat - 1 by rw [hacc]; unfold impl_TriplesOfRow.L; simp)
              have HACC := Aside0.mk hacc
              clear hacc
              obtain ⟨A6, c6, rfl⟩ := Kd.R_slice (Kd.S_R HS.out)
              have HD := Aside0.mk (show wr.cell? ⟨w5.heap.size, x.toNat, none⟩ = some (.slice (some ⟨gy, 0, none⟩) y.length c) ∧ wr.cell? ⟨gy, 0, none⟩ = some (.int .i64 (rd y 0)) ∧ wr.cell? ⟨gy, 1, none⟩ = some (.int .i64 (rd y 1)) from ⟨hcv, d0, d1⟩)
              have HLT := Aside0.mk (show (⟨w5.heap.size, x.toNat, none⟩ : Addr).block < wl.heap.size ∧ (⟨gy, 0, none⟩ : Addr).block < wl.heap.size ∧ (⟨gy, 1, none⟩ : Addr).block < wl.heap.size from ⟨blk_lt HG7.out, Kd.R_lt hr gy rfl, Kd.R_lt hr gy rfl⟩)
              have HO := Aside0.mk hone
              have HY2 := Aside0.mk hy2
              have HXX := Aside0.mk hx
              have p2 : (0 ≤ x) = True := eq_true (by omega)
              have q2 : (x < 21) = True := eq_true (by omega)
              have q3 : (0 < (y.length : Int)) = True := eq_true (by omega)
              have q3' : (0 < y.length) = True := eq_true (by omega)
              have q4 : (1 < (y.length : Int)) = True := eq_true (by omega)
              have q4' : (1 < y.length) = True := eq_true (by omega)
              clear hx hn20 hy2 hy hone hv hr hrw hc0_ hc1_ e_ hcv d0 d1
              go_wp2
              have HS8 := Aside0.mk (Kd.S_drew HS.out)
              have HB8 := Aside0.mk (below_drew HBL.out)
              refine start_ (n := 22) (S := fun w' => w'.cell? ⟨w5.heap.size, x.toNat, none⟩ = some (.slice (some ⟨gy, 0, none⟩) y.length c) ∧ w'.cell? ⟨gy, 0, none⟩ = some (.int .i64 (rd y 0)) ∧ w'.cell? ⟨gy, 1, none⟩ = some (.int .i64 (rd y 1))) (ds := []) #[false, false, false, false, false, false, false, false, false, false, false, false, false, false, false, false, false, false, false, false, false, false] (by kernel_rfl) rfl rfl HD.out (fun hHeld => ?_)
              generalize wr.drew = w8 at HS8 HB8 hHeld ⊢
              refine pure_ (i := 0) (N := some 27) (v := ?_) (a' := ?_) #[true, false, false, false, false, false, false, false, false, false, false, false, false, false, false, false, false, false, false, false, false, false] rfl rfl (by kernel_rfl) (fun _ _ _ h => h) (Or.inl ⟨by rfl, ?_⟩) ?_ ?_
              rotate_left
              · intro w'
                go_simp
                with_reducible rfl
              rotate_left
              · simp only [Act.put, List.setIfInBounds_toArray, List.set_cons_zero, List.set_cons_succ, i64_w, i32_w]
                rfl
              refine pure_ (i := 1) (N := some 28) (v := ?_) (a' := ?_) #[true, true, false, false, false, false, false, false, false, false, false, false, false, false, false, false, false, false, false, false, false, false] rfl rfl (by kernel_rfl) (fun _ _ _ h => h) (Or.inl ⟨by rfl, ?_⟩) ?_ ?_
              rotate_left
              · intro w'
                go_simp
                with_reducible rfl
              rotate_left
              · simp only [Act.put, List.setIfInBounds_toArray, List.set_cons_zero, List.set_cons_succ, i64_w, i32_w]
                rfl
              refine pure_ (i := 2) (N := some 29) (v := ?_) (a' := ?_) #[true, true, true, false, false, false, false, false, false, false, false, false, false, false, false, false, false, false, false, false, false, false] rfl rfl (by kernel_rfl) (fun _ _ _ h => h) (Or.inl ⟨by rfl, ?_⟩) ?_ ?_
              rotate_left
              · intro w'
                go_simp
                with_reducible rfl
              rotate_left
              · simp only [Act.put, List.setIfInBounds_toArray, List.set_cons_zero, List.set_cons_succ, i64_w, i32_w]
                rfl
              refine pure_ (i := 3) (N := some 30) (v := ?_) (a' := ?_) #[true, true, true, true, false, false, false, false, false, false, false, false, false, false, false, false, false, false, false, false, false, false] rfl rfl (by kernel_rfl) (fun _ _ _ h => h) (Or.inl ⟨by rfl, ?_⟩) ?_ ?_
              rotate_left
              · intro w'
                go_simp
                with_reducible rfl
              rotate_left
              · simp only [Act.put, List.setIfInBounds_toArray, List.set_cons_zero, List.set_cons_succ, i64_w, i32_w]
                rfl
              refine pure_ (i := 7) (N := some 34) (v := ?_) (a' := ?_) #[true, true, true, true, false, false, false, true, false, false, false, false, false, false, false, false, false, false, false, false, false, false] rfl rfl (by kernel_rfl) (fun _ _ _ h => h) (Or.inl ⟨by rfl, ?_⟩) ?_ ?_
              rotate_left
              · intro w'
                go_simp
                with_reducible rfl
              rotate_left
              · simp only [Act.put, List.setIfInBounds_toArray, List.set_cons_zero, List.set_cons_succ, i64_w, i32_w]
                rfl
              refine pure_ (i := 10) (N := some 37) (v := ?_) (a' := ?_) #[true, true, true, true, false, false, false, true, false, false, true, false, false, false, false, false, false, false, false, false, false, false] rfl rfl (by kernel_rfl) (fun _ _ _ h => h) (Or.inl ⟨by rfl, ?_⟩) ?_ ?_
              rotate_left
              · intro w'
                go_simp
                with_reducible rfl
              rotate_left
              · simp only [Act.put, List.setIfInBounds_toArray, List.set_cons_zero, List.set_cons_succ, i64_w, i32_w]
                rfl
              refine pure_ (i := 11) (N := some 38) (v := ?_) (a' := ?_) #[true, true, true, true, false, false, false, true, false, false, true, true, false, false, false, false, false, false, false, false, false, false] rfl rfl (by kernel_rfl) (fun _ _ _ h => h) (Or.inl ⟨by rfl, ?_⟩) ?_ ?_
              rotate_left
              · intro w'
                go_simp
                with_reducible rfl
              rotate_left
              · simp only [Act.put, List.setIfInBounds_toArray, List.set_cons_zero, List.set_cons_succ, i64_w, i32_w]
                rfl
              refine pure_ (i := 15) (N := some 42) (v := ?_) (a' := ?_) #[true, true, true, true, false, false, false, true, false, false, true, true, false, false, false, true, false, false, false, false, false, false] rfl rfl (by kernel_rfl) (fun _ _ _ h => h) (Or.inl ⟨by rfl, ?_⟩) ?_ ?_
              rotate_left
              · intro w'
                go_simp
                with_reducible rfl
              rotate_left
              · simp only [Act.put, List.setIfInBounds_toArray, List.set_cons_zero, List.set_cons_succ, i64_w, i32_w]
                rfl
              refine take_ (i := 4) (N := some 31) (v := ?_) (a' := ?_) #[true, true, true, true, true, false, false, true, false, false, true, true, false, false, false, true, false, false, false, false, false, false] rfl rfl (by kernel_rfl) (fun _ _ _ h => h) (Or.inl ⟨by rfl, ?_⟩) hHeld ?_ ?_
              rotate_left
              · rintro w' ⟨s0, s1, s2⟩
                go_simp
                with_reducible rfl
              rotate_left
              · simp only [Act.put, List.setIfInBounds_toArray, List.set_cons_zero, List.set_cons_succ, i64_w, i32_w]
                rfl
              refine pure_ (i := 5) (N := some 32) (v := ?_) (a' := ?_) #[true, true, true, true, true, true, false, true, false, false, true, true, false, false, false, true, false, false, false, false, false, false] rfl rfl (by kernel_rfl) (fun _ _ _ h => h) (Or.inl ⟨by rfl, ?_⟩) ?_ ?_
              rotate_left
              · intro w'
                go_simp
                with_reducible rfl
              rotate_left
              · simp only [Act.put, List.setIfInBounds_toArray, List.set_cons_zero, List.set_cons_succ, i64_w, i32_w]
                rfl
              refine take_ (i := 6) (N := some 33) (v := ?_) (a' := ?_) #[true, true, true, true, true, true, true, true, false, false, true, true, false, false, false, true, false, false, false, false, false, false] rfl rfl (by kernel_rfl) (fun _ _ _ h => h) (Or.inl ⟨by rfl, ?_⟩) hHeld ?_ ?_
              rotate_left
              · rintro w' ⟨s0, s1, s2⟩
                go_simp
                with_reducible rfl
              rotate_left
              · simp only [Act.put, List.setIfInBounds_toArray, List.set_cons_zero, List.set_cons_succ, i64_w, i32_w]
                rfl
              refine pure_ (i := 8) (N := some 35) (v := ?_) (a' := ?_) #[true, true, true, true, true, true, true, true, true, false, true, true, false, false, false, true, false, false, false, false, false, false] rfl rfl (by kernel_rfl) (fun _ _ _ h => h) (Or.inl ⟨by rfl, ?_⟩) ?_ ?_
              rotate_left
              · intro w'
                go_simp
                with_reducible rfl
              rotate_left
              · simp only [Act.put, List.setIfInBounds_toArray, List.set_cons_zero, List.set_cons_succ, i64_w, i32_w]
                rfl
              refine pure_ (i := 9) (N := some 36) (v := ?_) (a' := ?_) #[true, true, true, true, true, true, true, true, true, true, true, true, false, false, false, true, false, false, false, false, false, false] rfl rfl (by kernel_rfl) (fun _ _ _ h => h) (Or.inl ⟨by rfl, ?_⟩) ?_ ?_
              rotate_left
              · intro w'
                go_simp
                with_reducible rfl
              rotate_left
              · simp only [Act.put, List.setIfInBounds_toArray, List.set_cons_zero, List.set_cons_succ, i64_w, i32_w]
                rfl
              refine take_ (i := 12) (N := some 39) (v := ?_) (a' := ?_) #[true, true, true, true, true, true, true, true, true, true, true, true, true, false, false, true, false, false, false, false, false, false] rfl rfl (by kernel_rfl) (fun _ _ _ h => h) (Or.inl ⟨by rfl, ?_⟩) hHeld ?_ ?_
              rotate_left
              · rintro w' ⟨s0, s1, s2⟩
                go_simp
                with_reducible rfl
              rotate_left
              · simp only [Act.put, List.setIfInBounds_toArray, List.set_cons_zero, List.set_cons_succ, i64_w, i32_w]
                rfl
              refine pure_ (i := 13) (N := some 40) (v := ?_) (a' := ?_) #[true, true, true, true, true, true, true, true, true, true, true, true, true, true, false, true, false, false, false, false, false, false] rfl rfl (by kernel_rfl) (fun _ _ _ h => h) (Or.inl ⟨by rfl, ?_⟩) ?_ ?_
              rotate_left
              · intro w'
                go_simp
                with_reducible rfl
              rotate_left
              · simp only [Act.put, List.setIfInBounds_toArray, List.set_cons_zero, List.set_cons_succ, i64_w, i32_w]
                rfl
              refine take_ (i := 14) (N := some 41) (v := ?_) (a' := ?_) #[true, true, true, true, true, true, true, true, true, true, true, true, true, true, true, true, false, false, false, false, false, false] rfl rfl (by kernel_rfl) (fun _ _ _ h => h) (Or.inl ⟨by rfl, ?_⟩) hHeld ?_ ?_
              rotate_left
              · rintro w' ⟨s0, s1, s2⟩
                go_simp
                with_reducible rfl
              rotate_left
              · simp only [Act.put, List.setIfInBounds_toArray, List.set_cons_zero, List.set_cons_succ, i64_w, i32_w]
                rfl
              refine pure_ (i := 16) (N := some 43) (v := ?_) (a' := ?_) #[true, true, true, true, true, true, true, true, true, true, true, true, true, true, true, true, true, false, false, false, false, false] rfl rfl (by kernel_rfl) (fun _ _ _ h => h) (Or.inl ⟨by rfl, ?_⟩) ?_ ?_
              rotate_left
              · intro w'
                go_simp
                with_reducible rfl
              rotate_left
              · simp only [Act.put, List.setIfInBounds_toArray, List.set_cons_zero, List.set_cons_succ, i64_w, i32_w]
                rfl
              refine pure_ (i := 17) (N := some 44) (v := ?_) (a' := ?_) #[true, true, true, true, true, true, true, true, true, true, true, true, true, true, true, true, true, true, false, false, false, false] rfl rfl (by kernel_rfl) (fun _ _ _ h => h) (Or.inl ⟨by rfl, ?_⟩) ?_ ?_
              rotate_left
              · intro w'
                go_simp
                with_reducible rfl
              rotate_left
              · simp only [Act.put, List.setIfInBounds_toArray, List.set_cons_zero, List.set_cons_succ, i64_w, i32_w]
                rfl
              refine one_ (i := 18) (N := some 45) #[true, true, true, true, true, true, true, true, true, true, true, true, true, true, true, true, true, true, true, false, false, false] rfl rfl (by kernel_rfl) (by decide) (fun K hK => ?_)
              refine value_ (w1 := ?_) (v := ?_) (by rfl) rfl ?_ ?_
              rotate_left 2
              · go_simp
                constructor
                · rfl
                · rfl
              refine hK.out _ _ ⟨impl_TriplesOfRow.new hHeld.1, impl_TriplesOfRow.new hHeld.2.1, impl_TriplesOfRow.new hHeld.2.2⟩ (fun hHeld => ?_)
              clear hK K
              refine norm_ (a' := ?_) ?_ ?_
              rotate_left
              · show Act.put _ (some 45) _ = _
                simp only [Act.put, List.setIfInBounds_toArray, List.set_cons_zero, List.set_cons_succ, i64_w, i32_w]
                rfl
              have HO9 := Aside0.mk (impl_TriplesOfRow.lit w8 HB8.out.size x (wrap64 (wrap64 (rd y 0 + n) + 1)) (wrap64 (wrap64 (rd y 1 + n) + 1)))
              have HS9 := Aside0.mk (Kd.S_mono (ok' := fun k => True ∧ ¬ k = w8.heap.size) (Kd.S_alloc (Kd.S_bound HS8.out) (.cells #[.int .i64 x, .int .i64 (wrap64 (wrap64 (rd y 0 + n) + 1)), .int .i64 (wrap64 (wrap64 (rd y 1 + n) + 1))] 3 (0, 0))) (fun k hk => ⟨trivial, by have := hk.2.2.1; omega⟩))
              have HB9 := Aside0.mk (below_alloc HB8.out (.cells #[.int .i64 x, .int .i64 (wrap64 (wrap64 (rd y 0 + n) + 1)), .int .i64 (wrap64 (wrap64 (rd y 1 + n) + 1))] 3 (0, 0)))
              generalize hw9 : w8.alloc (.cells #[.int .i64 x, .int .i64 (wrap64 (wrap64 (rd y 0 + n) + 1)), .int .i64 (wrap64 (wrap64 (rd y 1 + n) + 1))] 3 (0, 0)) = w9 at HO9 HS9 HB9 hHeld ⊢
              have HZ9 := Aside0.mk (show w9.heap.size = w8.heap.size + 1 by rw [← hw9]; show (w8.heap.push _).size = _; simp)
              clear hw9
              refine one_ (i := 19) (N := some 46) #[true, true, true, true, true, true, true, true, true, true, true, true, true, true, true, true, true, true, true, true, false, false] rfl rfl (by kernel_rfl) (by decide) (fun K hK => ?_)
              refine value_ (w1 := ?_) (v := ?_) (by rfl) rfl ?_ ?_
              rotate_left 2
              · go_simp
                constructor
                · rfl
                · rfl
              refine hK.out _ _ ⟨impl_TriplesOfRow.new hHeld.1, impl_TriplesOfRow.new hHeld.2.1, impl_TriplesOfRow.new hHeld.2.2⟩ (fun hHeld => ?_)
              clear hK K
              refine norm_ (a' := ?_) ?_ ?_
              rotate_left
              · show Act.put _ (some 46) _ = _
                simp only [Act.put, List.setIfInBounds_toArray, List.set_cons_zero, List.set_cons_succ, i64_w, i32_w]
                rfl
              refine one_ (i := 20) (N := some 47) #[true, true, true, true, true, true, true, true, true, true, true, true, true, true, true, true, true, true, true, true, true, false] rfl rfl (by kernel_rfl) (by decide) (fun K hK => ?_)
              refine Kd.S_append_step (Kd.slice 3 (Kd.int .i64)) (w0 := wl) (W := w9) wl.heap.size (by rfl) (.tmp 27) (.tmp 46) 23 22 (.slice none 0 0) 24 rfl Try.underlying23 impl_pairs.info22 rfl (by decide) (by omega) (.slice A6 acc.length c6) acc [x, (wrap64 (wrap64 (rd y 0 + n) + 1)), (wrap64 (wrap64 (rd y 1 + n) + 1))] [.slice (some ⟨w8.heap.size, 0, none⟩) 3 3] (fun _ => True) (fun k => k = w8.heap.size) rfl rfl ?aP ?aK ?aF ?aO ?aB ?aS ?aL ?_
              (case aP => exact Kd.M_row HO9.out)
              (case aK => exact fun k hk => ⟨trivial, fun e => by have := Kd.S_lt HS8.out k e.symm; omega⟩)
              (case aF => exact fun _ _ => trivial)
              (case aO => exact HS9.out)
              (case aB => exact HB9.out)
              (case aS => exact HB9.out.size)
              (case aL => have := HL6.out; have := HX.out; have := HXX.out; have := MANY.out; omega)
              intro v10 w10 ho10 hb10 hg10 hat10
              have HS10 := Aside0.mk ho10
              have HB10 := Aside0.mk hb10
              clear ho10 hg10 hat10
              have HDX := impl_TriplesOfRow.held hb10 HBL.out HD.out HLT.out
              refine hK.out _ _ ⟨HDX.1, HDX.2.1, HDX.2.2⟩ (fun hHeld => ?_)
              clear hK K
              refine norm_ (a' := ?_) ?_ ?_
              rotate_left
              · show Act.put _ (some 47) _ = _
                simp only [Act.put, List.setIfInBounds_toArray, List.set_cons_zero, List.set_cons_succ, i64_w, i32_w]
                rfl
              refine pure_ (i := 21) (N := some 7) (v := ?_) (a' := ?_) #[true, true, true, true, true, true, true, true, true, true, true, true, true, true, true, true, true, true, true, true, true, true] rfl rfl (by kernel_rfl) (fun _ _ _ h => h) (Or.inl ⟨by rfl, ?_⟩) ?_ ?_
              rotate_left
              · intro w'
                go_simp
                with_reducible rfl
              rotate_left
              · simp only [Act.put, List.setIfInBounds_toArray, List.set_cons_zero, List.set_cons_succ, i64_w, i32_w]
                rfl
              refine done_ (by kernel_rfl) ?_
              (try simp only [Exit.inBlock, Exit.then])
              try go_wp2
              go_roundg k1
              case measure => have := HX.out; omega
              case rel =>
                refine ⟨x + 1, by rw [show wrap64 (x + 1) = x + 1 by have := HX.out; have := HXX.out; have := MANY.out; unfold wrap64; omega], ⟨by have := HX.out; have := HXX.out; omega⟩, ⟨?_⟩, HB10⟩
                have e : impl_TriplesOfRow.L l0 n ((x + 1).toNat - 1) = acc ++ [[x, wrap64 (wrap64 (rd y 0 + n) + 1), wrap64 (wrap64 (rd y 1 + n) + 1)]] := by
                  rw [show (x + 1).toNat - 1 = (x.toNat - 1) + 1 by have := HX.out; omega, HACC.out, ← HO.out]
                  unfold impl_TriplesOfRow.L
                  rw [List.range_succ, List.map_append, List.map_singleton, show ((x.toNat - 1 : Nat) : Int) + 1 = x by have := HX.out; omega]
                rw [e]
                exact HS10.out
            · have cx : decide (x ≤ n) = false := decide_eq_false hx
              have HSX := Aside0.mk (show Kd.S (Kd.slice 3 (Kd.int .i64)) 22 wr w.heap.size (fun _ => True) _ (impl_TriplesOfRow.L l0 a a.toNat) from by
                rw [HGN.out]
                have h := HS.out
                rw [show x.toNat - 1 = n.toNat by have := HX.out; omega] at h
                exact Kd.S_lower h HB.out.size)
              clear hx
              go_wp2
              go_ret2
              exact ⟨_, rfl, HSX.out, below_step HB.out HBL.out⟩
      · rw [if_neg hok] at H
        cases H

/-! ### laws_FnExactTriplesOfRow: function 4 -/
section
open Go.Proofs.Ytgpnhaaklhinlaa.Aid
theorem toIntS_l0 (xs : List Int) (hx : xs.length ≤ 1048576) : ∀ (t : List Int) (i : Nat) (ys : List Int), xs.drop i = t → i ≤ xs.length → ys.length = xs.length → ys.take i = xs.take i → Ev (fun k => laws_toIntS.l0 k xs ys (i : Int)) xs
  | [], i, ys, h, hi, hl, he => by
    have h1 := dropNil h
    obtain rfl : ys = xs := by
      have : i = xs.length := by omega
      subst this
      rw [List.take_of_length_le (by omega), List.take_of_length_le (by omega)] at he
      exact he
    refine Ev.of1 (fun k => ?_)
    simp (disch := omega) only [if_true, if_false, Bool.false_eq_true, laws_toIntS.l0, if_neg]
  | x :: t, i, ys, h, hi, hl, he => by
    obtain ⟨h1, h2, h3⟩ := dropCons h
    refine Ev.step (f := fun k => laws_toIntS.l0 k xs (ys.set i x) ((i + 1 : Nat) : Int)) (fun k => ?_) (toIntS_l0 xs hx t (i + 1) _ h3 (by omega) (by simpa using hl) ?_)
    · simp (disch := omega) only [if_true, if_false, Bool.false_eq_true, laws_toIntS.l0, if_pos, w64s, h2, toNat_cast]
    · rw [take_succ_at h, List.take_add_one, List.take_set_of_le (by omega), he]
      simp [hl, h1]
theorem toIntS_ev (xs : List Int) (hx : xs.length ≤ 1048576) : Ev (fun k => laws_toIntS.f k xs) xs := by
  refine Ev.congr (fun k => ?_) (toIntS_l0 xs hx xs 0 (List.replicate xs.length 0) rfl (by omega) (by simp) rfl)
  unfold laws_toIntS.f
  rw [if_pos (by omega), if_pos (by omega)]
  rfl
theorem eqIntS_l0 (xs ys : List Int) (hx : xs.length ≤ 1048576) (hl : xs.length = ys.length) : ∀ (s t : List Int) (i : Nat), xs.drop i = s → ys.drop i = t → Ev (fun k => laws_eqIntS.l0 k xs ys (i : Int)) (decide (s = t))
  | [], t, i, h, h' => by
    have h1 := dropNil h
    have h2 : t = [] := by rw [← h']; simp; omega
    subst h2
    refine Ev.of1 (fun k => ?_)
    simp (disch := omega) only [if_true, if_false, Bool.false_eq_true, laws_eqIntS.l0, if_neg]
    simp
  | x :: s, [], i, h, h' => by
    have h1 := dropLt h
    have h2 := dropNil h'
    omega
  | x :: s, y :: t, i, h, h' => by
    obtain ⟨h1, h2, h3⟩ := dropCons h
    obtain ⟨h1', h2', h3'⟩ := dropCons h'
    by_cases c : x = y
    · refine Ev.step (f := fun k => laws_eqIntS.l0 k xs ys ((i + 1 : Nat) : Int)) (fun k => ?_) ((eqIntS_l0 xs ys hx hl s t (i + 1) h3 h3').cast (by simp [c]))
      simp (disch := omega) only [if_true, if_false, Bool.false_eq_true, laws_eqIntS.l0, if_pos, w64s, h2, h2']
    · refine Ev.of1 (fun k => ?_)
      simp (disch := omega) only [if_true, if_false, Bool.false_eq_true, laws_eqIntS.l0, if_pos, if_neg, h2, h2']
      simp [c]
theorem eqIntS_ev (xs ys : List Int) (hx : xs.length ≤ 1048576) : Ev (fun k => laws_eqIntS.f k xs ys) (decide (xs = ys)) := by
  by_cases c : xs.length = ys.length
  · refine Ev.congr (fun k => ?_) (eqIntS_l0 xs ys hx c xs ys 0 rfl rfl)
    unfold laws_eqIntS.f
    rw [if_pos (by omega)]
    rfl
  · refine Ev.all (fun k => ?_)
    unfold laws_eqIntS.f
    rw [if_neg (by omega)]
    have : xs ≠ ys := fun e => c (by rw [e])
    simp [this]
theorem eqIntS_same (xs : List Int) (hx : xs.length ≤ 1048576) : Ev (fun k => laws_eqIntS.f k xs xs) true := (eqIntS_ev xs xs hx).cast (by simp)
theorem dropConsL {xs : List (List Int)} {i : Nat} {x : List Int} {t : List (List Int)} (h : xs.drop i = x :: t) : i < xs.length ∧ rd_L1 xs (i : Int) = x ∧ xs.drop (i + 1) = t :=
  ⟨dropLt h, by simp [rd_L1, List.getD_eq_getElem?_getD, dropGet h], dropSucc h⟩
theorem memDrop {α : Type} {xs : List α} {i : Nat} {x : α} {t : List α} (h : xs.drop i = x :: t) : x ∈ xs := by
  rw [← List.take_append_drop i xs, h]
  simp
theorem eqIntSS_l0 (xs ys : List (List Int)) (hx : xs.length ≤ 1048576) (hm : ∀ x ∈ xs, x.length ≤ 1048576) (hl : xs.length = ys.length) : ∀ (s t : List (List Int)) (i : Nat), xs.drop i = s → ys.drop i = t → Ev (fun k => laws_eqIntSS.l0 k xs ys (i : Int)) (decide (s = t))
  | [], t, i, h, h' => by
    have h1 := dropNil h
    have h2 : t = [] := by rw [← h']; simp; omega
    subst h2
    refine Ev.of1 (fun k => ?_)
    simp (disch := omega) only [if_true, if_false, Bool.false_eq_true, laws_eqIntSS.l0, if_neg]
    simp
  | x :: s, [], i, h, h' => by
    have h1 := dropLt h
    have h2 := dropNil h'
    omega
  | x :: s, y :: t, i, h, h' => by
    obtain ⟨h1, h2, h3⟩ := dropConsL h
    obtain ⟨h1', h2', h3'⟩ := dropConsL h'
    refine Ev.step (f := fun k => (laws_eqIntS.f k x y).bind fun t120 => (if t120 = true then (laws_eqIntSS.l0 k xs ys ((i + 1 : Nat) : Int)) else (some false))) (fun k => ?_) (Ev.bind (eqIntS_ev x y (hm x (memDrop h))) ?_)
    · simp (disch := omega) only [if_true, if_false, Bool.false_eq_true, laws_eqIntSS.l0, if_pos, w64s, h2, h2']
    · by_cases c : x = y
      · simp only [c, decide_true, if_true]
        exact (eqIntSS_l0 xs ys hx hm hl s t (i + 1) h3 h3').cast (by simp)
      · simp only [c, decide_false, Bool.false_eq_true, if_false]
        exact (Ev.now _).cast (by simp [c])
theorem eqIntSS_ev (xs ys : List (List Int)) (hx : xs.length ≤ 1048576) (hm : ∀ x ∈ xs, x.length ≤ 1048576) : Ev (fun k => laws_eqIntSS.f k xs ys) (decide (xs = ys)) := by
  by_cases c : xs.length = ys.length
  · refine Ev.congr (fun k => ?_) (eqIntSS_l0 xs ys hx hm c xs ys 0 rfl rfl)
    unfold laws_eqIntSS.f
    rw [if_pos (by omega)]
    rfl
  · refine Ev.all (fun k => ?_)
    unfold laws_eqIntSS.f
    rw [if_neg (by omega)]
    have : xs ≠ ys := fun e => c (by rw [e])
    simp [this]
theorem eqIntSS_same (xs : List (List Int)) (hx : xs.length ≤ 1048576) (hm : ∀ x ∈ xs, x.length ≤ 1048576) : Ev (fun k => laws_eqIntSS.f k xs xs) true := (eqIntSS_ev xs xs hx hm).cast (by simp)
theorem heldIntS_l0 (xs : List Int) (hx : xs.length ≤ 1048576) : ∀ (n : Nat) (i : Nat) (m : Int), xs.drop i = upFrom n m → 0 ≤ m → m + n ≤ 9223372036854775807 → Ev (fun k => laws_heldIntS.l0 k xs m (i : Int)) (m + n)
  | 0, i, m, h, hm, hb => by
    have h1 := dropNil h
    refine Ev.of1 (fun k => ?_)
    simp (disch := omega) only [if_true, if_false, Bool.false_eq_true, laws_heldIntS.l0, if_neg]
    simp
  | n + 1, i, m, h, hm, hb => by
    obtain ⟨h1, h2, h3⟩ := dropCons (x := m) (t := upFrom n (m + 1)) h
    refine Ev.step (f := fun k => laws_heldIntS.l0 k xs (m + 1) ((i + 1 : Nat) : Int)) (fun k => ?_) ((heldIntS_l0 xs hx n (i + 1) (m + 1) h3 (by omega) (by omega)).cast (by omega))
    have e1 : wrap64 (m + 1) = m + 1 := w64 (by omega) (by omega)
    simp (disch := omega) only [if_true, if_false, Bool.false_eq_true, laws_heldIntS.l0, if_pos, w64s, e1, h2]
theorem heldIntS_ev (n : Nat) (hx : n ≤ 1048576) : Ev (fun k => laws_heldIntS.f k (upFrom n 1) 1) (1 + n) :=
  Ev.congr (fun k => rfl) (heldIntS_l0 (upFrom n 1) (by rw [upFrom_length]; exact hx) n 0 1 rfl (by omega) (by omega))
theorem heldIntS_from (xs : List Int) (n : Nat) (m : Int) (hx : xs = upFrom n m) (hn : n ≤ 1048576) (hm : 0 ≤ m) (hb : m + n ≤ 9223372036854775807) : Ev (fun k => laws_heldIntS.f k xs m) (m + n) := by
  subst hx
  exact Ev.congr (fun k => rfl) (heldIntS_l0 (upFrom n m) (by rw [upFrom_length]; exact hn) n 0 m rfl hm hb)
theorem heldIntSS_l0 (xs : List (List Int)) (hx : xs.length ≤ 1048576) : ∀ (t : List (List Int)) (i : Nat) (m : Int), xs.drop i = marksL m t → 0 ≤ m → m + (totalL t : Nat) ≤ 9223372036854775807 → (∀ x ∈ t, x.length ≤ 1048576) → Ev (fun k => laws_heldIntSS.l0 k xs m (i : Int)) (m + (totalL t : Nat))
  | [], i, m, h, hm, hb, ht => by
    have h1 := dropNil h
    refine Ev.of1 (fun k => ?_)
    simp (disch := omega) only [if_true, if_false, Bool.false_eq_true, laws_heldIntSS.l0, if_neg]
    simp [totalL]
  | x :: t, i, m, h, hm, hb, ht => by
    obtain ⟨h1, h2, h3⟩ := dropConsL (x := upFrom x.length m) (t := marksL (m + x.length) t) h
    simp only [totalL, Int.natCast_add] at hb ⊢
    refine Ev.step (f := fun k => (laws_heldIntS.f k (upFrom x.length m) m).bind fun y => (if y < 0 then (some (-1)) else (laws_heldIntSS.l0 k xs y ((i + 1 : Nat) : Int)))) (fun k => ?_) (Ev.bind (heldIntS_from _ x.length m rfl (ht x List.mem_cons_self) hm (by omega)) ?_)
    · simp (disch := omega) only [if_true, if_false, Bool.false_eq_true, laws_heldIntSS.l0, if_pos, w64s, h2]
    · refine Ev.congr (fun k => by rw [if_neg (by omega)]) ((heldIntSS_l0 xs hx t (i + 1) (m + x.length) h3 (by omega) (by omega) (fun y hy => ht y (List.mem_cons_of_mem _ hy))).cast (by omega))
theorem heldIntSS_ev (xs : List (List Int)) (hx : xs.length ≤ 1048576) (ht : totalL xs ≤ 1048576) : Ev (fun k => laws_heldIntSS.f k (marksL 1 xs) 1) (1 + (totalL xs : Nat)) :=
  Ev.congr (fun k => rfl) (heldIntSS_l0 (marksL 1 xs) (by rw [marksL_len]; exact hx) xs 0 1 rfl (by omega) (by omega) (fun x h => Nat.le_trans (totalL_mem xs x h) ht))
theorem held_at (K : Nat) (A : Option Addr) (c : Nat) (r : List (List Int)) (w : World) {b : Nat} {ok : Nat → Prop} (h : Kd.S (Kd.slice 3 (Kd.int .i64)) 22 w b ok (.slice A r.length c) (marksL 1 r)) (hh : laws_heldIntSS.f K (marksL 1 r) 1 = some (1 + (totalL r : Nat))) :
    Calls Try.prog 19 #[.slice A r.length c, .int .i64 1] w fun e w' => e = .returned (.int .i64 (1 + ((totalL r : Nat) : Int))) ∧ Drawn0 w w' := by
  have hr := Kd.R_reads' (Kd.S_R h)
  have hc := laws_heldIntSS.calls K A c (marksL 1 r) 1 _ w hr.2.2 (by rw [marksL_len]; exact hr.2.1) hh
  rw [marksL_len] at hc
  exact hc
end
/-- THE ONE PURE STATEMENT that is left: both come to one answer. -/
def laws_FnExactTriplesOfRow.Pure : Prop := ∀ (l0 : List Int), l0.length ≤ 1048576 → (∀ x ∈ l0, (Lit.int .i64 x).wf = true) → ∃ (k : Nat) (r : List (List Int)) (rb : Bool), spec_TriplesOfRow.f k l0 = some (r, rb) ∧ impl_TriplesOfRow.f k l0 = some (r, rb) ∧ r.length ≤ 1048576 ∧ totalL r ≤ 1048576
set_option maxHeartbeats 8000000 in
set_option maxRecDepth 100000 in
theorem laws_FnExactTriplesOfRow.walk (P : laws_FnExactTriplesOfRow.Pure) (a0 : Option Addr) (len0 cap0 : Nat) (z0 : List Int) (w : World) (w0 : (a0 = none ∧ len0 = 0 ∧ cap0 = 0 ∧ z0 = []) ∨ ∃ x, a0 = some x ∧ len0 ≤ cap0 ∧ cap0 ≤ maxLen ∧ z0.length = cap0 ∧ (∀ i, i < z0.length → w.cell? (x.add i) = some (.int .i64 (z0.getD i 0))) ∧ ∀ n ∈ z0, (Lit.int .i64 n).wf = true) (y0 : len0 * 8 ≤ 140737488351232) :
    Calls Try.prog 4 #[.slice a0 len0 cap0] w fun e w' => e = .returned (.bool true) ∧ Below w.heap.size w w' := by
  obtain ⟨l0, rfl, hr0', hm0, hw0, hc0⟩ := ReadsInt.ofRowC w0
  have hr0 := Kd.C_of_reads (d := (0 : Int)) (h1 := fun _ => rfl) hr0'
  clear hr0'
  obtain ⟨A0, hA0⟩ : ∃ A, A = a0 := ⟨_, rfl⟩
  subst hA0
  obtain ⟨c0, hcc0⟩ : ∃ c, c = cap0 := ⟨_, rfl⟩
  subst hcc0
  have HR0 := Aside0.mk hr0
  have HC0 := Aside0.mk hc0
  have HBw := Aside0.mk (Below.refl w.heap.size w)
  by_cases cz : (l0.length : Int) > 1048576
  · have bz : decide (1048576 < (l0.length : Int)) = true := decide_eq_true cz
    have bz1 : decide (1048576 < l0.length) = true := decide_eq_true (by omega)
    clear cz hr0 hc0
    go_enter Try.func4, Try.ntmps4
    go_wp2
    go_ret
    exact ⟨rfl, HBw.out⟩
  have bz : decide (1048576 < (l0.length : Int)) = false := decide_eq_false cz
  have bz1 : decide (1048576 < l0.length) = false := decide_eq_false (by omega)
  have hl0 : l0.length ≤ 1048576 := by omega
  have HLL := Aside0.mk hl0
  obtain ⟨K1, h1⟩ := toIntS_ev l0 hl0
  obtain ⟨K3, h3⟩ := eqIntS_same l0 hl0
  have H1 := Aside0.mk (h1 K1 (Nat.le_refl _))
  have H3 := Aside0.mk (h3 K3 (Nat.le_refl _))
  obtain ⟨K5, r, rb, hsp, him, hrl, hrt⟩ := P l0 hl0 hw0
  have HSP := Aside0.mk hsp
  have HIM := Aside0.mk him
  have HRL := Aside0.mk (show r.length ≤ 1048576 ∧ totalL r ≤ 1048576 from ⟨hrl, hrt⟩)
  obtain ⟨K2, h2⟩ := eqIntSS_same r hrl (fun x hx => Nat.le_trans (totalL_mem r x hx) hrt)
  obtain ⟨K4, h4⟩ := heldIntSS_ev r hrl hrt
  have bm : decide (1 + ((totalL r : Nat) : Int) < 0) = false := decide_eq_false (by omega)
  have bx : decide (1 + ((l0.length : Int) : Int) < 0) = false := decide_eq_false (by omega)
  have be : (rb != rb) = false := by cases rb <;> rfl
  have H2 := Aside0.mk (h2 K2 (Nat.le_refl _))
  have H4 := Aside0.mk (h4 K4 (Nat.le_refl _))
  clear hsp him hrl h2 h4 hrt h1 h3 cz hr0 hc0 hl0 hm0 hw0
  go_enter Try.func4, Try.ntmps4
  go_wp2_with (first | ((with_reducible refine gate_dst (N := 18) rfl ?_); refine goesL_ (some 18) rfl rfl Try.func13 (by kernel_rfl) rfl #[.slice A0 l0.length c0] rfl (by (try simp only [List.map_toArray, List.map_cons, List.map_nil]); first | done | rfl) ?_; refine (laws_toIntS.calls K1 A0 c0 l0 l0 _ (Kd.C_below HR0.out HBw.out) HC0.out H1.out).mono ?_; rintro e_ w1 ⟨v_, rfl, ho_, hb_⟩; refine ⟨_, rfl, ?_⟩; obtain ⟨As0, cs0, rfl⟩ := Kd.R_slice ho_; have n_HBw := Aside0.mk (below_step HBw.out hb_); clear HBw; have HBw := n_HBw; clear n_HBw; have Hs0 := Aside0.mk (ho_); have Hbs0 := Aside0.mk hb_; clear ho_ hb_) | ((with_reducible refine gate_dst (N := 19) rfl ?_); refine goesL_ (some 19) rfl rfl Try.func20 (by kernel_rfl) rfl #[.slice As0 l0.length cs0] rfl (by (try simp only [List.map_toArray, List.map_cons, List.map_nil]); first | done | rfl) ?_; refine (spec_TriplesOfRow.calls K5 As0 cs0 l0 r rb _ (Kd.R_reads' Hs0.out).2.2 (Kd.R_reads' Hs0.out).2.1 HSP.out).mono ?_; rintro e_ w2 ⟨v_, rfl, ho_, hb_⟩; refine ⟨_, rfl, ?_⟩; obtain ⟨Aw, cw, rfl⟩ := Kd.R_slice (Kd.S_R ho_); have n_HBw := Aside0.mk (below_step HBw.out hb_); clear HBw; have HBw := n_HBw; clear n_HBw; have HW := Aside0.mk ((Kd.S_R ho_)); have HBw3 := Aside0.mk HBw.out; have HB3 := Aside0.mk (Below.refl w2.heap.size w2); clear ho_ hb_; have HWC := Aside0.mk (Kd.R_reads' HW.out).2.2; have HWN := Aside0.mk (Kd.R_reads' HW.out).2.1; clear HW) | ((with_reducible refine gate_dst (N := 23) rfl ?_); refine goesL_ (some 23) rfl rfl Try.func13 (by kernel_rfl) rfl #[.slice A0 l0.length c0] rfl (by (try simp only [List.map_toArray, List.map_cons, List.map_nil]); first | done | rfl) ?_; refine (laws_toIntS.calls K1 A0 c0 l0 l0 _ (Kd.C_below HR0.out HBw.out) HC0.out H1.out).mono ?_; rintro e_ w3 ⟨v_, rfl, ho_, hb_⟩; refine ⟨_, rfl, ?_⟩; obtain ⟨Ax, cx, rfl⟩ := Kd.R_slice ho_; have n_HBw := Aside0.mk (below_step HBw.out hb_); have n_HB3 := Aside0.mk (below_step HB3.out hb_); clear HBw; clear HB3; have HBw := n_HBw; have HB3 := n_HB3; clear n_HBw; clear n_HB3; have Hx := Aside0.mk (ho_); have Hbx := Aside0.mk hb_; clear ho_ hb_; have HX := Aside0.mk (show Kd.R (Kd.int .i64) 3  w3 w2.heap.size (fun q_ => w2.heap.size ≤ q_ ∧ q_ < w3.heap.size) (.slice Ax l0.length cx) l0 from Kd.R_mono (Kd.R_bound Hx.out) (fun q_ hq_ => ⟨hq_.2.1, hq_.2.2.1⟩)); clear Hx; have HB4 := Aside0.mk HB3.out) | ((with_reducible refine gate_dst (N := 26) rfl ?_); refine goesL_ (some 26) rfl rfl Try.func21 (by kernel_rfl) rfl #[.slice Ax l0.length cx] rfl (by (try simp only [List.map_toArray, List.map_cons, List.map_nil]); first | done | rfl) ?_; refine (impl_TriplesOfRow.calls K5 Ax cx l0 r rb _ (Kd.R_reads' HX.out).2.2 (Kd.R_reads' HX.out).2.1 HIM.out).mono ?_; rintro e_ w4 ⟨v_, rfl, ho_, hb_⟩; refine ⟨_, rfl, ?_⟩; obtain ⟨Ag, cg, rfl⟩ := Kd.R_slice (Kd.S_R ho_); have n_HBw := Aside0.mk (below_step HBw.out hb_); have n_HB3 := Aside0.mk (below_step HB3.out hb_); have n_HX := Aside0.mk (Kd.R_below HX.out hb_); clear HBw; clear HB3; clear HX; have HBw := n_HBw; have HB3 := n_HB3; have HX := n_HX; clear n_HBw; clear n_HB3; clear n_HX; have HG := Aside0.mk (show Kd.S (Kd.slice 3 (Kd.int .i64)) 22 w4 w2.heap.size (fun q_ => w3.heap.size ≤ q_) (.slice Ag r.length cg) r from Kd.S_lower (Kd.S_mono (Kd.S_bound ho_) (fun q_ hq_ => hq_.2.1)) HB4.out.size); clear ho_ hb_) | ((with_reducible refine gate_dst (N := 31) rfl ?_); refine goesL_ (some 31) rfl rfl Try.func15 (by kernel_rfl) rfl #[.slice Ag r.length cg, .slice Aw r.length cw] rfl (by (try simp only [List.map_toArray, List.map_cons, List.map_nil]); first | done | rfl) ?_; refine (laws_eqIntSS.calls K2 Ag cg r Aw cw r true _ (Kd.R_reads' (Kd.S_R HG.out)).2.2 (Kd.R_reads' (Kd.S_R HG.out)).2.1 (Kd.C_below HWC.out HB3.out) HWN.out H2.out).mono ?_; rintro e_ w_ ⟨rfl, ⟨nd_, rfl⟩⟩; refine ⟨_, rfl, ?_⟩; have hb_ := pw_below_drewN (Below.refl w4.heap.size w4) nd_; generalize w4.drewN nd_ = w5 at hb_ ⊢; have n_HBw := Aside0.mk (below_step HBw.out hb_); have n_HB3 := Aside0.mk (below_step HB3.out hb_); have n_HX := Aside0.mk (Kd.R_below HX.out hb_); have n_HG := Aside0.mk (Kd.S_below HG.out hb_); clear HBw; clear HB3; clear HX; clear HG; have HBw := n_HBw; have HB3 := n_HB3; have HX := n_HX; have HG := n_HG; clear n_HBw; clear n_HB3; clear n_HX; clear n_HG; clear hb_) | ((with_reducible refine gate_dst (N := 40) rfl ?_); refine goesL_ (some 40) rfl rfl Try.func13 (by kernel_rfl) rfl #[.slice A0 l0.length c0] rfl (by (try simp only [List.map_toArray, List.map_cons, List.map_nil]); first | done | rfl) ?_; refine (laws_toIntS.calls K1 A0 c0 l0 l0 _ (Kd.C_below HR0.out HBw.out) HC0.out H1.out).mono ?_; rintro e_ w6 ⟨v_, rfl, ho_, hb_⟩; refine ⟨_, rfl, ?_⟩; obtain ⟨Ay, cy, rfl⟩ := Kd.R_slice ho_; have n_HBw := Aside0.mk (below_step HBw.out hb_); have n_HB3 := Aside0.mk (below_step HB3.out hb_); have n_HX := Aside0.mk (Kd.R_below HX.out hb_); have n_HG := Aside0.mk (Kd.S_below HG.out hb_); clear HBw; clear HB3; clear HX; clear HG; have HBw := n_HBw; have HB3 := n_HB3; have HX := n_HX; have HG := n_HG; clear n_HBw; clear n_HB3; clear n_HX; clear n_HG; have Hy := Aside0.mk (ho_); have Hby := Aside0.mk hb_; clear ho_ hb_) | ((with_reducible refine gate_dst (N := 41) rfl ?_); refine goesL_ (some 41) rfl rfl Try.func16 (by kernel_rfl) rfl #[.slice Ax l0.length cx, .slice Ay l0.length cy] rfl (by (try simp only [List.map_toArray, List.map_cons, List.map_nil]); first | done | rfl) ?_; refine (laws_eqIntS.calls K3 Ax cx l0 Ay cy l0 true _ (Kd.R_reads' HX.out).2.2 (Kd.R_reads' HX.out).2.1 (Kd.R_reads' Hy.out).2.2 (Kd.R_reads' Hy.out).2.1 H3.out).mono ?_; rintro e_ w_ ⟨rfl, ⟨nd_, rfl⟩⟩; refine ⟨_, rfl, ?_⟩; have hb_ := pw_below_drewN (Below.refl w6.heap.size w6) nd_; generalize w6.drewN nd_ = w7 at hb_ ⊢; have n_HBw := Aside0.mk (below_step HBw.out hb_); have n_HB3 := Aside0.mk (below_step HB3.out hb_); have n_HX := Aside0.mk (Kd.R_below HX.out hb_); have n_HG := Aside0.mk (Kd.S_below HG.out hb_); clear HBw; clear HB3; clear HX; clear HG; have HBw := n_HBw; have HB3 := n_HB3; have HX := n_HX; have HG := n_HG; clear n_HBw; clear n_HB3; clear n_HX; clear n_HG; clear hb_) | ((with_reducible refine gate_dst (N := 45) rfl ?_); refine goesL_ (some 45) rfl rfl Try.func17 (by kernel_rfl) rfl #[.slice Ax l0.length cx, .int .i64 1] rfl (by (try simp only [List.map_toArray, List.map_cons, List.map_nil]); first | done | rfl) ?_; refine (laws_markIntS.calls (l0.length + 1) (fun q_ => w2.heap.size ≤ q_ ∧ q_ < w3.heap.size) (.slice Ax l0.length cx) l0 1 _ _ w2 _ HB3.out HX.out (laws_markIntS.run0 l0 1 HLL.out (by omega) (by have := HLL.out; omega))).mono ?_; rintro e_ w8 ⟨rfl, hs_, hb_, hk_⟩; refine ⟨_, rfl, ?_⟩; have n_HBw := Aside0.mk (below_step HBw3.out hb_); have n_HB3 := Aside0.mk (hb_); have n_HG := Aside0.mk (Kd.S_kept HG.out hk_ (fun q_ h1_ h2_ => by have h3_ := h2_.2; have h4_ := h1_; omega)); clear HBw; clear HB3; clear HX; clear HG; have HBw := n_HBw; have HB3 := n_HB3; have HG := n_HG; clear n_HBw; clear n_HB3; clear n_HG; clear hs_ hb_ hk_) | (go_at_call 15; refine (laws_eqIntSS.calls K2 Ag cg r Aw cw r true _ (Kd.R_reads' (Kd.S_R HG.out)).2.2 (Kd.R_reads' (Kd.S_R HG.out)).2.1 (Kd.C_below HWC.out HB3.out) HWN.out H2.out).mono ?_; rintro e_ w_ ⟨rfl, ⟨nd_, rfl⟩⟩; have hb_ := pw_below_drewN (Below.refl w8.heap.size w8) nd_; generalize w8.drewN nd_ = w9 at hb_ ⊢; have n_HBw := Aside0.mk (below_step HBw.out hb_); have n_HB3 := Aside0.mk (below_step HB3.out hb_); have n_HG := Aside0.mk (Kd.S_below HG.out hb_); clear HBw; clear HB3; clear HG; have HBw := n_HBw; have HB3 := n_HB3; have HG := n_HG; clear n_HBw; clear n_HB3; clear n_HG; clear hb_) | ((with_reducible refine gate_dst (N := 61) rfl ?_); refine goesL_ (some 61) rfl rfl Try.func18 (by kernel_rfl) rfl #[.slice Ag r.length cg, .int .i64 1] rfl (by (try simp only [List.map_toArray, List.map_cons, List.map_nil]); first | done | rfl) ?_; refine (laws_markIntSS.calls (w0 := w2) (m := 1) (xs := r) HRL.out.1 HRL.out.2 (by omega) (by omega) _ HB3.out HG.out).mono ?_; rintro e_ w10 ⟨rfl, hs_, hb_, hk_⟩; refine ⟨_, rfl, ?_⟩; have n_HBw := Aside0.mk (below_step HBw3.out hb_); have n_HB3 := Aside0.mk (hb_); clear HBw; clear HB3; clear HG; have HBw := n_HBw; have HB3 := n_HB3; clear n_HBw; clear n_HB3; have HG := Aside0.mk hs_; clear hs_ hb_ hk_) | ((with_reducible refine gate_dst (N := 64) rfl ?_); refine goesL_ (some 64) rfl rfl Try.func19 (by kernel_rfl) rfl #[.slice Ag r.length cg, .int .i64 1] rfl (by (try simp only [List.map_toArray, List.map_cons, List.map_nil]); first | done | rfl) ?_; refine (held_at K4 Ag cg r _ HG.out H4.out).mono ?_; rintro e_ w_ ⟨rfl, ⟨nd_, rfl⟩⟩; refine ⟨_, rfl, ?_⟩; have hb_ := pw_below_drewN (Below.refl w10.heap.size w10) nd_; generalize w10.drewN nd_ = w11 at hb_ ⊢; have n_HBw := Aside0.mk (below_step HBw.out hb_); have n_HB3 := Aside0.mk (below_step HB3.out hb_); have n_HG := Aside0.mk (Kd.S_below HG.out hb_); clear HBw; clear HB3; clear HG; have HBw := n_HBw; have HB3 := n_HB3; have HG := n_HG; clear n_HBw; clear n_HB3; clear n_HG; clear hb_) | ((with_reducible refine gate_dst (N := 72) rfl ?_); refine goesL_ (some 72) rfl rfl Try.func13 (by kernel_rfl) rfl #[.slice A0 l0.length c0] rfl (by (try simp only [List.map_toArray, List.map_cons, List.map_nil]); first | done | rfl) ?_; refine (laws_toIntS.calls K1 A0 c0 l0 l0 _ (Kd.C_below HR0.out HBw.out) HC0.out H1.out).mono ?_; rintro e_ w12 ⟨v_, rfl, ho_, hb_⟩; refine ⟨_, rfl, ?_⟩; obtain ⟨Az, cz, rfl⟩ := Kd.R_slice ho_; have n_HBw := Aside0.mk (below_step HBw.out hb_); have n_HB3 := Aside0.mk (below_step HB3.out hb_); have n_HG := Aside0.mk (Kd.S_below HG.out hb_); clear HBw; clear HB3; clear HG; have HBw := n_HBw; have HB3 := n_HB3; have HG := n_HG; clear n_HBw; clear n_HB3; clear n_HG; have Hz := Aside0.mk (ho_); have Hbz := Aside0.mk hb_; clear ho_ hb_) | ((with_reducible refine gate_dst (N := 73) rfl ?_); refine goesL_ (some 73) rfl rfl Try.func21 (by kernel_rfl) rfl #[.slice Az l0.length cz] rfl (by (try simp only [List.map_toArray, List.map_cons, List.map_nil]); first | done | rfl) ?_; refine (impl_TriplesOfRow.calls K5 Az cz l0 r rb _ (Kd.R_reads' Hz.out).2.2 (Kd.R_reads' Hz.out).2.1 HIM.out).mono ?_; rintro e_ w13 ⟨v_, rfl, ho_, hb_⟩; refine ⟨_, rfl, ?_⟩; obtain ⟨Ah, ch, rfl⟩ := Kd.R_slice (Kd.S_R ho_); have n_HBw := Aside0.mk (below_step HBw.out hb_); have n_HB3 := Aside0.mk (below_step HB3.out hb_); have n_HG := Aside0.mk (Kd.S_below HG.out hb_); clear HBw; clear HB3; clear HG; have HBw := n_HBw; have HB3 := n_HB3; have HG := n_HG; clear n_HBw; clear n_HB3; clear n_HG; have HH := Aside0.mk ho_; clear ho_ hb_) | ((with_reducible refine gate_dst (N := 78) rfl ?_); refine goesL_ (some 78) rfl rfl Try.func15 (by kernel_rfl) rfl #[.slice Ah r.length ch, .slice Aw r.length cw] rfl (by (try simp only [List.map_toArray, List.map_cons, List.map_nil]); first | done | rfl) ?_; refine (laws_eqIntSS.calls K2 Ah ch r Aw cw r true _ (Kd.R_reads' (Kd.S_R HH.out)).2.2 (Kd.R_reads' (Kd.S_R HH.out)).2.1 (Kd.C_below HWC.out HB3.out) HWN.out H2.out).mono ?_; rintro e_ w_ ⟨rfl, ⟨nd_, rfl⟩⟩; refine ⟨_, rfl, ?_⟩; have hb_ := pw_below_drewN (Below.refl w13.heap.size w13) nd_; generalize w13.drewN nd_ = w14 at hb_ ⊢; have n_HBw := Aside0.mk (below_step HBw.out hb_); have n_HB3 := Aside0.mk (below_step HB3.out hb_); have n_HG := Aside0.mk (Kd.S_below HG.out hb_); clear HBw; clear HB3; clear HG; have HBw := n_HBw; have HB3 := n_HB3; have HG := n_HG; clear n_HBw; clear n_HB3; clear n_HG; clear hb_) | ((with_reducible refine gate_dst (N := 87) rfl ?_); refine goesL_ (some 87) rfl rfl Try.func19 (by kernel_rfl) rfl #[.slice Ag r.length cg, .int .i64 1] rfl (by (try simp only [List.map_toArray, List.map_cons, List.map_nil]); first | done | rfl) ?_; refine (held_at K4 Ag cg r _ HG.out H4.out).mono ?_; rintro e_ w_ ⟨rfl, ⟨nd_, rfl⟩⟩; refine ⟨_, rfl, ?_⟩; have hb_ := pw_below_drewN (Below.refl w14.heap.size w14) nd_; generalize w14.drewN nd_ = w15 at hb_ ⊢; have n_HBw := Aside0.mk (below_step HBw.out hb_); have n_HB3 := Aside0.mk (below_step HB3.out hb_); have n_HG := Aside0.mk (Kd.S_below HG.out hb_); clear HBw; clear HB3; clear HG; have HBw := n_HBw; have HB3 := n_HB3; have HG := n_HG; clear n_HBw; clear n_HB3; clear n_HG; clear hb_))
  go_ret
  exact ⟨rfl, HBw.out⟩

end Go.Proofs.Ytgpnhaaklhinlaa.PFnExactTriplesOfRow
