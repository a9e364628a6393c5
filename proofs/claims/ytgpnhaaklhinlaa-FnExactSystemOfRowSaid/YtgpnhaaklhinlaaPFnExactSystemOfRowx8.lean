-- Written by plug.py, a program of this session, over the kit's print of the function: checked by Lean alone.
import Derived.Test.YtgpnhaaklhinlaaPFnExactSystemOfRowx0
import Derived.Test.YtgpnhaaklhinlaaPFnExactSystemOfRowx6
import Derived.Test.YtgpnhaaklhinlaaPFnExactSystemOfRowx7
namespace Go.Proofs.Ytgpnhaaklhinlaa.PFnExactSystemOfRow
open Go.RowKit Go.Proofs.YtgpnhaaklhinlaaW.PrintWords Go.Proofs.YtgpnhaaklhinlaaW.PrintLast Go.Proofs.YtgpnhaaklhinlaaW.PrintMore
attribute [local go_sem] max2_int min2_int max_two min_two max_three min_three max_four min_four   -- for this text's walks alone
set_option linter.unusedVariables false
set_option linter.unusedSimpArgs false

/-! ### impl_TriplesOfRow: function 21 -/
/-- A number's triple. -/
def impl_TriplesOfRow.one (l : List Int) (n x : Int) : List Int := [x, wrap64 (wrap64 (rd ((impl_pairs.st l l.length).getD x.toNat []) 0 + n) + 1), wrap64 (wrap64 (rd ((impl_pairs.st l l.length).getD x.toNat []) 1 + n) + 1)]
def impl_TriplesOfRow.L (l : List Int) (n : Int) (m : Nat) : List (List Int) := (List.range m).map (fun (i : Nat) => impl_TriplesOfRow.one l n ((i : Int) + 1))
def impl_TriplesOfRow.ok (l : List Int) (m : Nat) : Bool := decide (l.length ≤ 40) && l.all (fun x => decide (x ≤ 20)) && (List.range m).all (fun i => decide (((impl_pairs.st l l.length).getD (i + 1) []).length = 2))
def impl_TriplesOfRow.rest (l : List Int) (n : Int) : Option (List (List Int) × Bool) := (impl_isMany.f n).bind fun t => if t = true then (if impl_TriplesOfRow.ok l n.toNat = true then some (impl_TriplesOfRow.L l n n.toNat, true) else none) else some ([], false)
def impl_TriplesOfRow.f (k : Nat) (l0 : List Int) : Option (List (List Int) × Bool) := (impl_skolem.f k l0).bind fun a => (impl_hooked.f k l0).bind fun b => impl_TriplesOfRow.rest l0 (if a < b then b else a)
theorem impl_TriplesOfRow.mono : ∀ a0 k, LeO (impl_TriplesOfRow.f k a0) (impl_TriplesOfRow.f (k + 1) a0) := by
 intro a0 k
 unfold impl_TriplesOfRow.f
 refine LeO.bind (impl_skolem.mono _ _) (fun t => ?_)
 exact LeO.bind (impl_hooked.mono _ _) (fun _ => LeO.refl _)
theorem impl_TriplesOfRow.many {n : Int} (h : impl_isMany.f n = some true) : 1 ≤ n ∧ n ≤ 10 := by
 unfold impl_isMany.f at h
 split at h
 ·simp at h
  omega
 ·simp at h
theorem impl_TriplesOfRow.okd {l : List Int} {m : Nat} (h : impl_TriplesOfRow.ok l m = true) : (l.length ≤ 40 ∧ ∀ j : Nat, j < l.length → rd l j ≤ 20) ∧ ∀ i, i < m → ((impl_pairs.st l l.length).getD (i + 1) []).length = 2 := by
 unfold impl_TriplesOfRow.ok at h
 rw [Bool.and_eq_true, Bool.and_eq_true, decide_eq_true_eq] at h
 refine ⟨⟨h.1.1, fun j hj => ?_⟩, fun i hi => of_decide_eq_true (List.all_eq_true.1 h.2 i (List.mem_range.2 hi))⟩
 have e := of_decide_eq_true (List.all_eq_true.1 h.1.2 (l[j]'hj) (List.getElem_mem hj))
 have : rd l (j : Int) = l[j]'hj := by simp [rd, List.getD_eq_getElem?_getD, hj]
 rw [this]
 exact e
theorem impl_TriplesOfRow.lit (w : World) {base : Nat} (hb : base ≤ w.heap.size) (x y z : Int) : Kd.R (Kd.int .i64) 3 (w.alloc (.cells #[.int .i64 x, .int .i64 y, .int .i64 z] 3 (0, 0))) base (fun k => k = w.heap.size) (.slice (some ⟨w.heap.size, 0, none⟩) 3 3) [x, y, z] :=
 Kd.R_of_own ⟨rfl, .inr ⟨w.heap.size, 3, _, rfl, hb, heap_alloc_new _ _, Nat.le_refl _, by unfold maxLen; omega, rfl, rfl⟩⟩ (fun k hk => by
  have : some w.heap.size = some k := hk
  exact (Option.some.inj this).symm)
theorem impl_TriplesOfRow.new {w : World} {o : Obj} {a : Addr} {u : Value} (h : w.cell? a = some u) : (w.alloc o).cell? a = some u := (World.cell?_alloc_lt _ _ _ (World.block_lt_of_cell? _ _ h)).trans h
/-- What is held from a loop's beginning on. -/
theorem impl_TriplesOfRow.held {wl wr w' : World} {a b c : Addr} {u v x : Value} (h : Below wl.heap.size wl w') (h1 : Below wl.heap.size wl wr) (hd : wr.cell? a = some u ∧ wr.cell? b = some v ∧ wr.cell? c = some x) (hl : a.block < wl.heap.size ∧ b.block < wl.heap.size ∧ c.block < wl.heap.size) : w'.cell? a = some u ∧ w'.cell? b = some v ∧ w'.cell? c = some x :=
 ⟨(h.cell hl.1).trans ((h1.cell hl.1).symm.trans hd.1), (h.cell hl.2.1).trans ((h1.cell hl.2.1).symm.trans hd.2.1), (h.cell hl.2.2).trans ((h1.cell hl.2.2).symm.trans hd.2.2)⟩
set_option maxHeartbeats 8000000 in
set_option maxRecDepth 100000 in
theorem impl_TriplesOfRow.calls (k : Nat) (A0 : Option Addr) (c0 : Nat) (l0 : List Int) (r1 : List (List Int)) (r2 : Bool) (w : World) (hr0 : Kd.C (Kd.int .i64) w A0 l0.length l0) (hc0 : l0.length ≤ c0) (h : impl_TriplesOfRow.f k l0 = some (r1, r2)) :
  Calls Try.prog 21 #[.slice A0 l0.length c0] w fun e w' => ∃ v0_ : Value, e = .returned (.tuple #[v0_, .bool r2]) ∧ Kd.S (Kd.slice 3 (Kd.int .i64)) 22 w' w.heap.size (fun _ => True) v0_ r1 ∧ Below w.heap.size w w' := by
 have HR0 := Aside0.mk hr0
 have HC0 := Aside0.mk hc0
 clear hr0 hc0
 have HB := Aside0.mk (Below.refl w.heap.size w)
 obtain ⟨a, ha, H⟩ := Option.bind_eq_some_iff.mp h
 clear h
 obtain ⟨b, hb, H⟩ := Option.bind_eq_some_iff.mp H
 have SA := Aside0.mk ha
 have SB := Aside0.mk hb
 clear ha hb
 by_cases hab : a < b
 ·rw [if_pos hab] at H
  have eab : (a < b) = True := eq_true hab
  clear hab
  obtain ⟨t, ht, H⟩ := Option.bind_eq_some_iff.mp H
  have A2 := Aside0.mk ht
  clear ht
  cases t with
  | false =>
   rw [if_neg (by decide)] at H
   obtain ⟨rfl, rfl⟩ := Prod.mk.inj (Option.some.inj H)
   clear H
   go_enter Try.func21, Try.ntmps21
   go_wp2_with (first | ((with_reducible refine gate_callee (f := 50) rfl ?_); refine goesL_ (some 10) rfl rfl Try.func50 (by kernel_rfl) rfl #[.slice A0 l0.length c0] rfl (by (try simp only [List.map_toArray, List.map_cons, List.map_nil]); first | done | rfl) ?_; refine (impl_skolem.calls k _ _ l0 _ _ (Kd.C_below HR0.out HB.out) HC0.out SA.out).mono ?_; rintro e w2 ⟨rfl, hb⟩; refine ⟨_, rfl, ?_⟩; have n0_ := Aside0.mk (below_step HB.out hb); clear HB; have HB := n0_; clear n0_ hb) | ((with_reducible refine gate_callee (f := 51) rfl ?_); refine goesL_ (some 12) rfl rfl Try.func51 (by kernel_rfl) rfl #[.slice A0 l0.length c0] rfl (by (try simp only [List.map_toArray, List.map_cons, List.map_nil]); first | done | rfl) ?_; refine (impl_hooked.calls k _ _ l0 _ _ (Kd.C_below HR0.out HB.out) HC0.out SB.out).mono ?_; rintro e w3 ⟨rfl, hb⟩; refine ⟨_, rfl, ?_⟩; have n0_ := Aside0.mk (below_step HB.out hb); clear HB; have HB := n0_; clear n0_ hb) | ((with_reducible refine gate_callee (f := 52) rfl ?_); refine goesL_ (some 15) rfl rfl Try.func52 (by kernel_rfl) rfl #[.int .i64 b] rfl (by (try simp only [List.map_toArray, List.map_cons, List.map_nil]); first | done | rfl) ?_; refine (impl_isMany.calls _ _ _ A2.out).mono ?_; rintro e w4 ⟨rfl, hq⟩; refine ⟨_, rfl, ?_⟩; have hb := Drawn0.below hq; clear hq; have n0_ := Aside0.mk (below_step HB.out hb); clear HB; have HB := n0_; clear n0_ hb))
   go_ret2
   exact ⟨_, rfl, Kd.S_nil _ _ _ _ _, HB.out⟩
  | true =>
   rw [if_pos rfl] at H
   by_cases hok : impl_TriplesOfRow.ok l0 b.toNat = true
   ·rw [if_pos hok] at H
    obtain ⟨rfl, rfl⟩ := Prod.mk.inj (Option.some.inj H)
    clear H
    have OK := Aside0.mk (impl_TriplesOfRow.okd hok)
    have MANY := Aside0.mk (impl_TriplesOfRow.many A2.out)
    clear hok
    go_enter Try.func21, Try.ntmps21
    go_wp2_with (first | ((with_reducible refine gate_callee (f := 50) rfl ?_); refine goesL_ (some 10) rfl rfl Try.func50 (by kernel_rfl) rfl #[.slice A0 l0.length c0] rfl (by (try simp only [List.map_toArray, List.map_cons, List.map_nil]); first | done | rfl) ?_; refine (impl_skolem.calls k _ _ l0 _ _ (Kd.C_below HR0.out HB.out) HC0.out SA.out).mono ?_; rintro e w2 ⟨rfl, hb⟩; refine ⟨_, rfl, ?_⟩; have n0_ := Aside0.mk (below_step HB.out hb); clear HB; have HB := n0_; clear n0_ hb) | ((with_reducible refine gate_callee (f := 51) rfl ?_); refine goesL_ (some 12) rfl rfl Try.func51 (by kernel_rfl) rfl #[.slice A0 l0.length c0] rfl (by (try simp only [List.map_toArray, List.map_cons, List.map_nil]); first | done | rfl) ?_; refine (impl_hooked.calls k _ _ l0 _ _ (Kd.C_below HR0.out HB.out) HC0.out SB.out).mono ?_; rintro e w3 ⟨rfl, hb⟩; refine ⟨_, rfl, ?_⟩; have n0_ := Aside0.mk (below_step HB.out hb); clear HB; have HB := n0_; clear n0_ hb) | ((with_reducible refine gate_callee (f := 52) rfl ?_); refine goesL_ (some 15) rfl rfl Try.func52 (by kernel_rfl) rfl #[.int .i64 b] rfl (by (try simp only [List.map_toArray, List.map_cons, List.map_nil]); first | done | rfl) ?_; refine (impl_isMany.calls _ _ _ A2.out).mono ?_; rintro e w4 ⟨rfl, hq⟩; refine ⟨_, rfl, ?_⟩; have hb := Drawn0.below hq; clear hq; have n0_ := Aside0.mk (below_step HB.out hb); clear HB; have HB := n0_; clear n0_ hb) | ((with_reducible refine gate_callee (f := 46) rfl ?_); refine goesL_ (some 19) rfl rfl Try.func46 (by kernel_rfl) rfl #[.slice A0 l0.length c0] rfl (by (try simp only [List.map_toArray, List.map_cons, List.map_nil]); first | done | rfl) ?_; refine (impl_pairs.calls _ _ l0 _ (Kd.C_below HR0.out HB.out) HC0.out OK.out.1.2 OK.out.1.1).mono ?_; rintro e w5 ⟨vs, rfl, hsz, hrows, hb⟩; refine ⟨_, rfl, ?_⟩; have HSZ := Aside0.mk hsz; have HROWS := Aside0.mk hrows; have HONE := Aside0.mk (impl_pairs.oneR hrows); have HB4 := HB; have n0_ := Aside0.mk (below_step HB.out hb); clear HB; have HB := n0_; clear n0_ hsz hrows hb) | (refine impl_pairs.stored (w5 := w5) rfl (.tmp 5) (.tmp 20) rfl _ rfl rfl rfl HSZ.out HONE.out HROWS.out ?_; intro W6 hb6 hg6 hr6; have n0_ := Aside0.mk (below_step HB.out hb6); clear HB; have HB := n0_; clear n0_ hb6; have HG7 := Aside0.mk hg6; have HR7 := Aside0.mk hr6; clear hg6 hr6))
    obtain ⟨wl, hwl⟩ : ∃ wl : World, wl = W6 := ⟨_, rfl⟩
    subst hwl
    generalize hgn : b = n at OK MANY ⊢
    have HGN := Aside0.mk hgn
    clear hgn
    go_loopg [7, 8] (n.toNat + 1) (fun kq v7 v8 w' => ∃ x : Int, v8 = .int .i64 x ∧ Aside0 (1 ≤ x ∧ x ≤ n + 1 ∧ kq + x.toNat = n.toNat + 2) ∧ Aside0 (Kd.S (Kd.slice 3 (Kd.int .i64)) 22 w' wl.heap.size (fun _ => True) v7 (impl_TriplesOfRow.L l0 n (x.toNat - 1))) ∧ Aside0 (Below wl.heap.size wl w'))
    case atStart => exact ⟨1, rfl, ⟨by have := MANY.out; omega⟩, ⟨Kd.S_nil _ _ _ _ _⟩, ⟨Below.refl _ _⟩⟩
    case round =>
     obtain ⟨x, rfl, HX, HS, HBL⟩ := hrel
     cases gk with
     | zero => exact absurd HX.out (by omega)
     | succ k1 =>
      by_cases hx : x ≤ n
      ·have cx : decide (x ≤ n) = true := decide_eq_true hx
       have hn20 : 1 ≤ x ∧ x ≤ 10 := by have := HX.out; have := MANY.out; omega
       have hy2 := OK.out.2 (x.toNat - 1) (by have := HX.out; omega)
       rw [show x.toNat - 1 + 1 = x.toNat by omega] at hy2
       obtain ⟨y, hy⟩ : ∃ y, y = (impl_pairs.st l0 l0.length).getD x.toNat [] := ⟨_, rfl⟩
       rw [← hy] at hy2
       have hone : impl_TriplesOfRow.one l0 n x = [x, wrap64 (wrap64 (rd y 0 + n) + 1), wrap64 (wrap64 (rd y 1 + n) + 1)] := by unfold impl_TriplesOfRow.one; rw [← hy]
       have hv := List.getElem?_eq_getElem (l := vs) (i := x.toNat) (by rw [HSZ.out]; omega)
       generalize vs[x.toNat]'(by rw [HSZ.out]; omega) = v at hv
       have hr := HR7.out _ _ hv
       rw [← hy] at hr
       obtain ⟨A, c, rfl⟩ := Kd.R_slice hr
       have hrw := Kd.R_below hr HBL.out
       obtain ⟨ad, e_, hc0_⟩ := Kd.at_int (Kd.R_reads' hrw).2.2 0 (Int.le_refl _) (by omega)
       subst e_
       obtain ⟨ad', e_, hc1_⟩ := Kd.at_int (Kd.R_reads' hrw).2.2 1 (by omega) (by omega)
       obtain rfl : ad = ad' := by injection e_
       obtain ⟨gy, rfl⟩ := Kd.R_head hr
       have hcv : wr.cell? ⟨w5.heap.size, x.toNat, none⟩ = some (.slice (some ⟨gy, 0, none⟩) y.length c) := by
        rw [cell_of_row wr _ _ _ _ (0, 0) ((HBL.out.block _ (blk_lt HG7.out)).trans HG7.out)]
        simpa using hv
       have d0 : wr.cell? ⟨gy, 0, none⟩ = some (.int .i64 (rd y 0)) := by simpa [Addr.add] using hc0_
       have d1 : wr.cell? ⟨gy, 1, none⟩ = some (.int .i64 (rd y 1)) := by simpa [Addr.add] using hc1_
       obtain ⟨acc, hacc⟩ : ∃ acc, acc = impl_TriplesOfRow.L l0 n (x.toNat - 1) := ⟨_, rfl⟩
       rw [← hacc] at HS
       have HL6 := Aside0.mk (show acc.length = x.toNat - 1 by rw [hacc]; unfold impl_TriplesOfRow.L; simp)
       have HACC := Aside0.mk hacc
       clear hacc
       obtain ⟨A6, c6, rfl⟩ := Kd.R_slice (Kd.S_R HS.out)
       have HD := Aside0.mk (show wr.cell? ⟨w5.heap.size, x.toNat, none⟩ = some (.slice (some ⟨gy, 0, none⟩) y.length c) ∧ wr.cell? ⟨gy, 0, none⟩ = some (.int .i64 (rd y 0)) ∧ wr.cell? ⟨gy, 1, none⟩ = some (.int .i64 (rd y 1)) from ⟨hcv, d0, d1⟩)
       have HLT := Aside0.mk (show (⟨w5.heap.size, x.toNat, none⟩ : Addr).block < wl.heap.size ∧ (⟨gy, 0, none⟩ : Addr).block < wl.heap.size ∧ (⟨gy, 1, none⟩ : Addr).block < wl.heap.size from ⟨blk_lt HG7.out, Kd.R_lt hr gy rfl, Kd.R_lt hr gy rfl⟩)
       have HO := Aside0.mk hone
       have HY2 := Aside0.mk hy2
       have HXX := Aside0.mk hx
       have p2 : (0 ≤ x) = True := eq_true (by omega)
       have q2 : (x < 21) = True := eq_true (by omega)
       have q3 : (0 < (y.length : Int)) = True := eq_true (by omega)
       have q3' : (0 < y.length) = True := eq_true (by omega)
       have q4 : (1 < (y.length : Int)) = True := eq_true (by omega)
       have q4' : (1 < y.length) = True := eq_true (by omega)
       clear hx hn20 hy2 hy hone hv hr hrw hc0_ hc1_ e_ hcv d0 d1
       go_wp2
       have HS8 := Aside0.mk (Kd.S_drew HS.out)
       have HB8 := Aside0.mk (below_drew HBL.out)
       refine start_ (n := 22) (S := fun w' => w'.cell? ⟨w5.heap.size, x.toNat, none⟩ = some (.slice (some ⟨gy, 0, none⟩) y.length c) ∧ w'.cell? ⟨gy, 0, none⟩ = some (.int .i64 (rd y 0)) ∧ w'.cell? ⟨gy, 1, none⟩ = some (.int .i64 (rd y 1))) (ds := []) (mb 22 0) (by kernel_rfl) rfl rfl HD.out (fun hHeld => ?_)
       generalize wr.drew = w8 at HS8 HB8 hHeld ⊢
       refine pure_ (i := 0) (N := some 27) (v := ?_) (a' := ?_) (mb 22 1) rfl rfl (by kernel_rfl) (fun _ _ _ h => h) (Or.inl ⟨by rfl, ?_⟩) ?_ ?_
       rotate_left
       ·intro w'
        go_simp
        with_reducible rfl
       rotate_left
       ·simp only [Act.put, List.setIfInBounds_toArray, List.set_cons_zero, List.set_cons_succ, i64_w, i32_w]
        rfl
       refine pure_ (i := 1) (N := some 28) (v := ?_) (a' := ?_) (mb 22 3) rfl rfl (by kernel_rfl) (fun _ _ _ h => h) (Or.inl ⟨by rfl, ?_⟩) ?_ ?_
       rotate_left
       ·intro w'
        go_simp
        with_reducible rfl
       rotate_left
       ·simp only [Act.put, List.setIfInBounds_toArray, List.set_cons_zero, List.set_cons_succ, i64_w, i32_w]
        rfl
       refine pure_ (i := 2) (N := some 29) (v := ?_) (a' := ?_) (mb 22 7) rfl rfl (by kernel_rfl) (fun _ _ _ h => h) (Or.inl ⟨by rfl, ?_⟩) ?_ ?_
       rotate_left
       ·intro w'
        go_simp
        with_reducible rfl
       rotate_left
       ·simp only [Act.put, List.setIfInBounds_toArray, List.set_cons_zero, List.set_cons_succ, i64_w, i32_w]
        rfl
       refine pure_ (i := 3) (N := some 30) (v := ?_) (a' := ?_) (mb 22 15) rfl rfl (by kernel_rfl) (fun _ _ _ h => h) (Or.inl ⟨by rfl, ?_⟩) ?_ ?_
       rotate_left
       ·intro w'
        go_simp
        with_reducible rfl
       rotate_left
       ·simp only [Act.put, List.setIfInBounds_toArray, List.set_cons_zero, List.set_cons_succ, i64_w, i32_w]
        rfl
       refine pure_ (i := 7) (N := some 34) (v := ?_) (a' := ?_) (mb 22 143) rfl rfl (by kernel_rfl) (fun _ _ _ h => h) (Or.inl ⟨by rfl, ?_⟩) ?_ ?_
       rotate_left
       ·intro w'
        go_simp
        with_reducible rfl
       rotate_left
       ·simp only [Act.put, List.setIfInBounds_toArray, List.set_cons_zero, List.set_cons_succ, i64_w, i32_w]
        rfl
       refine pure_ (i := 10) (N := some 37) (v := ?_) (a' := ?_) (mb 22 1167) rfl rfl (by kernel_rfl) (fun _ _ _ h => h) (Or.inl ⟨by rfl, ?_⟩) ?_ ?_
       rotate_left
       ·intro w'
        go_simp
        with_reducible rfl
       rotate_left
       ·simp only [Act.put, List.setIfInBounds_toArray, List.set_cons_zero, List.set_cons_succ, i64_w, i32_w]
        rfl
       refine pure_ (i := 11) (N := some 38) (v := ?_) (a' := ?_) (mb 22 3215) rfl rfl (by kernel_rfl) (fun _ _ _ h => h) (Or.inl ⟨by rfl, ?_⟩) ?_ ?_
       rotate_left
       ·intro w'
        go_simp
        with_reducible rfl
       rotate_left
       ·simp only [Act.put, List.setIfInBounds_toArray, List.set_cons_zero, List.set_cons_succ, i64_w, i32_w]
        rfl
       refine pure_ (i := 15) (N := some 42) (v := ?_) (a' := ?_) (mb 22 35983) rfl rfl (by kernel_rfl) (fun _ _ _ h => h) (Or.inl ⟨by rfl, ?_⟩) ?_ ?_
       rotate_left
       ·intro w'
        go_simp
        with_reducible rfl
       rotate_left
       ·simp only [Act.put, List.setIfInBounds_toArray, List.set_cons_zero, List.set_cons_succ, i64_w, i32_w]
        rfl
       refine take_ (i := 4) (N := some 31) (v := ?_) (a' := ?_) (mb 22 35999) rfl rfl (by kernel_rfl) (fun _ _ _ h => h) (Or.inl ⟨by rfl, ?_⟩) hHeld ?_ ?_
       rotate_left
       ·rintro w' ⟨s0, s1, s2⟩
        go_simp
        with_reducible rfl
       rotate_left
       ·simp only [Act.put, List.setIfInBounds_toArray, List.set_cons_zero, List.set_cons_succ, i64_w, i32_w]
        rfl
       refine pure_ (i := 5) (N := some 32) (v := ?_) (a' := ?_) (mb 22 36031) rfl rfl (by kernel_rfl) (fun _ _ _ h => h) (Or.inl ⟨by rfl, ?_⟩) ?_ ?_
       rotate_left
       ·intro w'
        go_simp
        with_reducible rfl
       rotate_left
       ·simp only [Act.put, List.setIfInBounds_toArray, List.set_cons_zero, List.set_cons_succ, i64_w, i32_w]
        rfl
       refine take_ (i := 6) (N := some 33) (v := ?_) (a' := ?_) (mb 22 36095) rfl rfl (by kernel_rfl) (fun _ _ _ h => h) (Or.inl ⟨by rfl, ?_⟩) hHeld ?_ ?_
       rotate_left
       ·rintro w' ⟨s0, s1, s2⟩
        go_simp
        with_reducible rfl
       rotate_left
       ·simp only [Act.put, List.setIfInBounds_toArray, List.set_cons_zero, List.set_cons_succ, i64_w, i32_w]
        rfl
       refine pure_ (i := 8) (N := some 35) (v := ?_) (a' := ?_) (mb 22 36351) rfl rfl (by kernel_rfl) (fun _ _ _ h => h) (Or.inl ⟨by rfl, ?_⟩) ?_ ?_
       rotate_left
       ·intro w'
        go_simp
        with_reducible rfl
       rotate_left
       ·simp only [Act.put, List.setIfInBounds_toArray, List.set_cons_zero, List.set_cons_succ, i64_w, i32_w]
        rfl
       refine pure_ (i := 9) (N := some 36) (v := ?_) (a' := ?_) (mb 22 36863) rfl rfl (by kernel_rfl) (fun _ _ _ h => h) (Or.inl ⟨by rfl, ?_⟩) ?_ ?_
       rotate_left
       ·intro w'
        go_simp
        with_reducible rfl
       rotate_left
       ·simp only [Act.put, List.setIfInBounds_toArray, List.set_cons_zero, List.set_cons_succ, i64_w, i32_w]
        rfl
       refine take_ (i := 12) (N := some 39) (v := ?_) (a' := ?_) (mb 22 40959) rfl rfl (by kernel_rfl) (fun _ _ _ h => h) (Or.inl ⟨by rfl, ?_⟩) hHeld ?_ ?_
       rotate_left
       ·rintro w' ⟨s0, s1, s2⟩
        go_simp
        with_reducible rfl
       rotate_left
       ·simp only [Act.put, List.setIfInBounds_toArray, List.set_cons_zero, List.set_cons_succ, i64_w, i32_w]
        rfl
       refine pure_ (i := 13) (N := some 40) (v := ?_) (a' := ?_) (mb 22 49151) rfl rfl (by kernel_rfl) (fun _ _ _ h => h) (Or.inl ⟨by rfl, ?_⟩) ?_ ?_
       rotate_left
       ·intro w'
        go_simp
        with_reducible rfl
       rotate_left
       ·simp only [Act.put, List.setIfInBounds_toArray, List.set_cons_zero, List.set_cons_succ, i64_w, i32_w]
        rfl
       refine take_ (i := 14) (N := some 41) (v := ?_) (a' := ?_) (mb 22 65535) rfl rfl (by kernel_rfl) (fun _ _ _ h => h) (Or.inl ⟨by rfl, ?_⟩) hHeld ?_ ?_
       rotate_left
       ·rintro w' ⟨s0, s1, s2⟩
        go_simp
        with_reducible rfl
       rotate_left
       ·simp only [Act.put, List.setIfInBounds_toArray, List.set_cons_zero, List.set_cons_succ, i64_w, i32_w]
        rfl
       refine pure_ (i := 16) (N := some 43) (v := ?_) (a' := ?_) (mb 22 131071) rfl rfl (by kernel_rfl) (fun _ _ _ h => h) (Or.inl ⟨by rfl, ?_⟩) ?_ ?_
       rotate_left
       ·intro w'
        go_simp
        with_reducible rfl
       rotate_left
       ·simp only [Act.put, List.setIfInBounds_toArray, List.set_cons_zero, List.set_cons_succ, i64_w, i32_w]
        rfl
       refine pure_ (i := 17) (N := some 44) (v := ?_) (a' := ?_) (mb 22 262143) rfl rfl (by kernel_rfl) (fun _ _ _ h => h) (Or.inl ⟨by rfl, ?_⟩) ?_ ?_
       rotate_left
       ·intro w'
        go_simp
        with_reducible rfl
       rotate_left
       ·simp only [Act.put, List.setIfInBounds_toArray, List.set_cons_zero, List.set_cons_succ, i64_w, i32_w]
        rfl
       refine one_ (i := 18) (N := some 45) (mb 22 524287) rfl rfl (by kernel_rfl) (by decide) (fun K hK => ?_)
       refine value_ (w1 := ?_) (v := ?_) (by rfl) rfl ?_ ?_
       rotate_left 2
       ·go_simp
        constructor
        ·rfl
        ·rfl
       refine hK.out _ _ ⟨impl_TriplesOfRow.new hHeld.1, impl_TriplesOfRow.new hHeld.2.1, impl_TriplesOfRow.new hHeld.2.2⟩ (fun hHeld => ?_)
       clear hK K
       refine norm_ (a' := ?_) ?_ ?_
       rotate_left
       ·show Act.put _ (some 45) _ = _
        simp only [Act.put, List.setIfInBounds_toArray, List.set_cons_zero, List.set_cons_succ, i64_w, i32_w]
        rfl
       have HO9 := Aside0.mk (impl_TriplesOfRow.lit w8 HB8.out.size x (wrap64 (wrap64 (rd y 0 + n) + 1)) (wrap64 (wrap64 (rd y 1 + n) + 1)))
       have HS9 := Aside0.mk (Kd.S_mono (ok' := fun k => True ∧ ¬ k = w8.heap.size) (Kd.S_alloc (Kd.S_bound HS8.out) (.cells #[.int .i64 x, .int .i64 (wrap64 (wrap64 (rd y 0 + n) + 1)), .int .i64 (wrap64 (wrap64 (rd y 1 + n) + 1))] 3 (0, 0))) (fun k hk => ⟨trivial, by have := hk.2.2.1; omega⟩))
       have HB9 := Aside0.mk (below_alloc HB8.out (.cells #[.int .i64 x, .int .i64 (wrap64 (wrap64 (rd y 0 + n) + 1)), .int .i64 (wrap64 (wrap64 (rd y 1 + n) + 1))] 3 (0, 0)))
       generalize hw9 : w8.alloc (.cells #[.int .i64 x, .int .i64 (wrap64 (wrap64 (rd y 0 + n) + 1)), .int .i64 (wrap64 (wrap64 (rd y 1 + n) + 1))] 3 (0, 0)) = w9 at HO9 HS9 HB9 hHeld ⊢
       have HZ9 := Aside0.mk (show w9.heap.size = w8.heap.size + 1 by rw [← hw9]; show (w8.heap.push _).size = _; simp)
       clear hw9
       refine one_ (i := 19) (N := some 46) (mb 22 1048575) rfl rfl (by kernel_rfl) (by decide) (fun K hK => ?_)
       refine value_ (w1 := ?_) (v := ?_) (by rfl) rfl ?_ ?_
       rotate_left 2
       ·go_simp
        constructor
        ·rfl
        ·rfl
       refine hK.out _ _ ⟨impl_TriplesOfRow.new hHeld.1, impl_TriplesOfRow.new hHeld.2.1, impl_TriplesOfRow.new hHeld.2.2⟩ (fun hHeld => ?_)
       clear hK K
       refine norm_ (a' := ?_) ?_ ?_
       rotate_left
       ·show Act.put _ (some 46) _ = _
        simp only [Act.put, List.setIfInBounds_toArray, List.set_cons_zero, List.set_cons_succ, i64_w, i32_w]
        rfl
       refine one_ (i := 20) (N := some 47) (mb 22 2097151) rfl rfl (by kernel_rfl) (by decide) (fun K hK => ?_)
       refine Kd.S_append_step (Kd.slice 3 (Kd.int .i64)) (w0 := wl) (W := w9) wl.heap.size (by rfl) (.tmp 27) (.tmp 46) 23 22 (.slice none 0 0) 24 rfl Try.underlying23 impl_pairs.info22 rfl (by decide) (by omega) (.slice A6 acc.length c6) acc [x, (wrap64 (wrap64 (rd y 0 + n) + 1)), (wrap64 (wrap64 (rd y 1 + n) + 1))] [.slice (some ⟨w8.heap.size, 0, none⟩) 3 3] (fun _ => True) (fun k => k = w8.heap.size) rfl rfl ?aP ?aK ?aF ?aO ?aB ?aS ?aL ?_
       (case aP => exact Kd.M_row HO9.out)
       (case aK => exact fun k hk => ⟨trivial, fun e => by have := Kd.S_lt HS8.out k e.symm; omega⟩)
       (case aF => exact fun _ _ => trivial)
       (case aO => exact HS9.out)
       (case aB => exact HB9.out)
       (case aS => exact HB9.out.size)
       (case aL => have := HL6.out; have := HX.out; have := HXX.out; have := MANY.out; omega)
       intro v10 w10 ho10 hb10 hg10 hat10
       have HS10 := Aside0.mk ho10
       have HB10 := Aside0.mk hb10
       clear ho10 hg10 hat10
       have HDX := impl_TriplesOfRow.held hb10 HBL.out HD.out HLT.out
       refine hK.out _ _ ⟨HDX.1, HDX.2.1, HDX.2.2⟩ (fun hHeld => ?_)
       clear hK K
       refine norm_ (a' := ?_) ?_ ?_
       rotate_left
       ·show Act.put _ (some 47) _ = _
        simp only [Act.put, List.setIfInBounds_toArray, List.set_cons_zero, List.set_cons_succ, i64_w, i32_w]
        rfl
       refine pure_ (i := 21) (N := some 7) (v := ?_) (a' := ?_) (mb 22 4194303) rfl rfl (by kernel_rfl) (fun _ _ _ h => h) (Or.inl ⟨by rfl, ?_⟩) ?_ ?_
       rotate_left
       ·intro w'
        go_simp
        with_reducible rfl
       rotate_left
       ·simp only [Act.put, List.setIfInBounds_toArray, List.set_cons_zero, List.set_cons_succ, i64_w, i32_w]
        rfl
       refine done_ (by kernel_rfl) ?_
       (try simp only [Exit.inBlock, Exit.then])
       try go_wp2
       go_roundg k1
       case measure => have := HX.out; omega
       case rel =>
        refine ⟨x + 1, by rw [show wrap64 (x + 1) = x + 1 by have := HX.out; have := HXX.out; have := MANY.out; unfold wrap64; omega], ⟨by have := HX.out; have := HXX.out; omega⟩, ⟨?_⟩, HB10⟩
        have e : impl_TriplesOfRow.L l0 n ((x + 1).toNat - 1) = acc ++ [[x, wrap64 (wrap64 (rd y 0 + n) + 1), wrap64 (wrap64 (rd y 1 + n) + 1)]] := by
         rw [show (x + 1).toNat - 1 = (x.toNat - 1) + 1 by have := HX.out; omega, HACC.out, ← HO.out]
         unfold impl_TriplesOfRow.L
         rw [List.range_succ, List.map_append, List.map_singleton, show ((x.toNat - 1 : Nat) : Int) + 1 = x by have := HX.out; omega]
        rw [e]
        exact HS10.out
      ·have cx : decide (x ≤ n) = false := decide_eq_false hx
       have HSX := Aside0.mk (show Kd.S (Kd.slice 3 (Kd.int .i64)) 22 wr w.heap.size (fun _ => True) _ (impl_TriplesOfRow.L l0 b b.toNat) from by
        rw [HGN.out]
        have h := HS.out
        rw [show x.toNat - 1 = n.toNat by have := HX.out; omega] at h
        exact Kd.S_lower h HB.out.size)
       clear hx
       go_wp2
       go_ret2
       exact ⟨_, rfl, HSX.out, below_step HB.out HBL.out⟩
   ·rw [if_neg hok] at H
    cases H
 ·rw [if_neg hab] at H
  have eab : (a < b) = False := eq_false hab
  clear hab
  obtain ⟨t, ht, H⟩ := Option.bind_eq_some_iff.mp H
  have A2 := Aside0.mk ht
  clear ht
  cases t with
  | false =>
   rw [if_neg (by decide)] at H
   obtain ⟨rfl, rfl⟩ := Prod.mk.inj (Option.some.inj H)
   clear H
   go_enter Try.func21, Try.ntmps21
   go_wp2_with (first | ((with_reducible refine gate_callee (f := 50) rfl ?_); refine goesL_ (some 10) rfl rfl Try.func50 (by kernel_rfl) rfl #[.slice A0 l0.length c0] rfl (by (try simp only [List.map_toArray, List.map_cons, List.map_nil]); first | done | rfl) ?_; refine (impl_skolem.calls k _ _ l0 _ _ (Kd.C_below HR0.out HB.out) HC0.out SA.out).mono ?_; rintro e w2 ⟨rfl, hb⟩; refine ⟨_, rfl, ?_⟩; have n0_ := Aside0.mk (below_step HB.out hb); clear HB; have HB := n0_; clear n0_ hb) | ((with_reducible refine gate_callee (f := 51) rfl ?_); refine goesL_ (some 12) rfl rfl Try.func51 (by kernel_rfl) rfl #[.slice A0 l0.length c0] rfl (by (try simp only [List.map_toArray, List.map_cons, List.map_nil]); first | done | rfl) ?_; refine (impl_hooked.calls k _ _ l0 _ _ (Kd.C_below HR0.out HB.out) HC0.out SB.out).mono ?_; rintro e w3 ⟨rfl, hb⟩; refine ⟨_, rfl, ?_⟩; have n0_ := Aside0.mk (below_step HB.out hb); clear HB; have HB := n0_; clear n0_ hb) | ((with_reducible refine gate_callee (f := 52) rfl ?_); refine goesL_ (some 15) rfl rfl Try.func52 (by kernel_rfl) rfl #[.int .i64 a] rfl (by (try simp only [List.map_toArray, List.map_cons, List.map_nil]); first | done | rfl) ?_; refine (impl_isMany.calls _ _ _ A2.out).mono ?_; rintro e w4 ⟨rfl, hq⟩; refine ⟨_, rfl, ?_⟩; have hb := Drawn0.below hq; clear hq; have n0_ := Aside0.mk (below_step HB.out hb); clear HB; have HB := n0_; clear n0_ hb))
   go_ret2
   exact ⟨_, rfl, Kd.S_nil _ _ _ _ _, HB.out⟩
  | true =>
   rw [if_pos rfl] at H
   by_cases hok : impl_TriplesOfRow.ok l0 a.toNat = true
   ·rw [if_pos hok] at H
    obtain ⟨rfl, rfl⟩ := Prod.mk.inj (Option.some.inj H)
    clear H
    have OK := Aside0.mk (impl_TriplesOfRow.okd hok)
    have MANY := Aside0.mk (impl_TriplesOfRow.many A2.out)
    clear hok
    go_enter Try.func21, Try.ntmps21
    go_wp2_with (first | ((with_reducible refine gate_callee (f := 50) rfl ?_); refine goesL_ (some 10) rfl rfl Try.func50 (by kernel_rfl) rfl #[.slice A0 l0.length c0] rfl (by (try simp only [List.map_toArray, List.map_cons, List.map_nil]); first | done | rfl) ?_; refine (impl_skolem.calls k _ _ l0 _ _ (Kd.C_below HR0.out HB.out) HC0.out SA.out).mono ?_; rintro e w2 ⟨rfl, hb⟩; refine ⟨_, rfl, ?_⟩; have n0_ := Aside0.mk (below_step HB.out hb); clear HB; have HB := n0_; clear n0_ hb) | ((with_reducible refine gate_callee (f := 51) rfl ?_); refine goesL_ (some 12) rfl rfl Try.func51 (by kernel_rfl) rfl #[.slice A0 l0.length c0] rfl (by (try simp only [List.map_toArray, List.map_cons, List.map_nil]); first | done | rfl) ?_; refine (impl_hooked.calls k _ _ l0 _ _ (Kd.C_below HR0.out HB.out) HC0.out SB.out).mono ?_; rintro e w3 ⟨rfl, hb⟩; refine ⟨_, rfl, ?_⟩; have n0_ := Aside0.mk (below_step HB.out hb); clear HB; have HB := n0_; clear n0_ hb) | ((with_reducible refine gate_callee (f := 52) rfl ?_); refine goesL_ (some 15) rfl rfl Try.func52 (by kernel_rfl) rfl #[.int .i64 a] rfl (by (try simp only [List.map_toArray, List.map_cons, List.map_nil]); first | done | rfl) ?_; refine (impl_isMany.calls _ _ _ A2.out).mono ?_; rintro e w4 ⟨rfl, hq⟩; refine ⟨_, rfl, ?_⟩; have hb := Drawn0.below hq; clear hq; have n0_ := Aside0.mk (below_step HB.out hb); clear HB; have HB := n0_; clear n0_ hb) | ((with_reducible refine gate_callee (f := 46) rfl ?_); refine goesL_ (some 19) rfl rfl Try.func46 (by kernel_rfl) rfl #[.slice A0 l0.length c0] rfl (by (try simp only [List.map_toArray, List.map_cons, List.map_nil]); first | done | rfl) ?_; refine (impl_pairs.calls _ _ l0 _ (Kd.C_below HR0.out HB.out) HC0.out OK.out.1.2 OK.out.1.1).mono ?_; rintro e w5 ⟨vs, rfl, hsz, hrows, hb⟩; refine ⟨_, rfl, ?_⟩; have HSZ := Aside0.mk hsz; have HROWS := Aside0.mk hrows; have HONE := Aside0.mk (impl_pairs.oneR hrows); have HB4 := HB; have n0_ := Aside0.mk (below_step HB.out hb); clear HB; have HB := n0_; clear n0_ hsz hrows hb) | (refine impl_pairs.stored (w5 := w5) rfl (.tmp 5) (.tmp 20) rfl _ rfl rfl rfl HSZ.out HONE.out HROWS.out ?_; intro W6 hb6 hg6 hr6; have n0_ := Aside0.mk (below_step HB.out hb6); clear HB; have HB := n0_; clear n0_ hb6; have HG7 := Aside0.mk hg6; have HR7 := Aside0.mk hr6; clear hg6 hr6))
    obtain ⟨wl, hwl⟩ : ∃ wl : World, wl = W6 := ⟨_, rfl⟩
    subst hwl
    generalize hgn : a = n at OK MANY ⊢
    have HGN := Aside0.mk hgn
    clear hgn
    go_loopg [7, 8] (n.toNat + 1) (fun kq v7 v8 w' => ∃ x : Int, v8 = .int .i64 x ∧ Aside0 (1 ≤ x ∧ x ≤ n + 1 ∧ kq + x.toNat = n.toNat + 2) ∧ Aside0 (Kd.S (Kd.slice 3 (Kd.int .i64)) 22 w' wl.heap.size (fun _ => True) v7 (impl_TriplesOfRow.L l0 n (x.toNat - 1))) ∧ Aside0 (Below wl.heap.size wl w'))
    case atStart => exact ⟨1, rfl, ⟨by have := MANY.out; omega⟩, ⟨Kd.S_nil _ _ _ _ _⟩, ⟨Below.refl _ _⟩⟩
    case round =>
     obtain ⟨x, rfl, HX, HS, HBL⟩ := hrel
     cases gk with
     | zero => exact absurd HX.out (by omega)
     | succ k1 =>
      by_cases hx : x ≤ n
      ·have cx : decide (x ≤ n) = true := decide_eq_true hx
       have hn20 : 1 ≤ x ∧ x ≤ 10 := by have := HX.out; have := MANY.out; omega
       have hy2 := OK.out.2 (x.toNat - 1) (by have := HX.out; omega)
       rw [show x.toNat - 1 + 1 = x.toNat by omega] at hy2
       obtain ⟨y, hy⟩ : ∃ y, y = (impl_pairs.st l0 l0.length).getD x.toNat [] := ⟨_, rfl⟩
       rw [← hy] at hy2
       have hone : impl_TriplesOfRow.one l0 n x = [x, wrap64 (wrap64 (rd y 0 + n) + 1), wrap64 (wrap64 (rd y 1 + n) + 1)] := by unfold impl_TriplesOfRow.one; rw [← hy]
       have hv := List.getElem?_eq_getElem (l := vs) (i := x.toNat) (by rw [HSZ.out]; omega)
       generalize vs[x.toNat]'(by rw [HSZ.out]; omega) = v at hv
       have hr := HR7.out _ _ hv
       rw [← hy] at hr
       obtain ⟨A, c, rfl⟩ := Kd.R_slice hr
       have hrw := Kd.R_below hr HBL.out
       obtain ⟨ad, e_, hc0_⟩ := Kd.at_int (Kd.R_reads' hrw).2.2 0 (Int.le_refl _) (by omega)
       subst e_
       obtain ⟨ad', e_, hc1_⟩ := Kd.at_int (Kd.R_reads' hrw).2.2 1 (by omega) (by omega)
       obtain rfl : ad = ad' := by injection e_
       obtain ⟨gy, rfl⟩ := Kd.R_head hr
       have hcv : wr.cell? ⟨w5.heap.size, x.toNat, none⟩ = some (.slice (some ⟨gy, 0, none⟩) y.length c) := by
        rw [cell_of_row wr _ _ _ _ (0, 0) ((HBL.out.block _ (blk_lt HG7.out)).trans HG7.out)]
        simpa using hv
       have d0 : wr.cell? ⟨gy, 0, none⟩ = some (.int .i64 (rd y 0)) := by simpa [Addr.add] using hc0_
       have d1 : wr.cell? ⟨gy, 1, none⟩ = some (.int .i64 (rd y 1)) := by simpa [Addr.add] using hc1_
       obtain ⟨acc, hacc⟩ : ∃ acc, acc = impl_TriplesOfRow.L l0 n (x.toNat - 1) := ⟨_, rfl⟩
       rw [← hacc] at HS
       have HL6 := Aside0.mk (show acc.length = x.toNat - 1 by rw [hacc]; unfold impl_TriplesOfRow.L; simp)
       have HACC := Aside0.mk hacc
       clear hacc
       obtain ⟨A6, c6, rfl⟩ := Kd.R_slice (Kd.S_R HS.out)
       have HD := Aside0.mk (show wr.cell? ⟨w5.heap.size, x.toNat, none⟩ = some (.slice (some ⟨gy, 0, none⟩) y.length c) ∧ wr.cell? ⟨gy, 0, none⟩ = some (.int .i64 (rd y 0)) ∧ wr.cell? ⟨gy, 1, none⟩ = some (.int .i64 (rd y 1)) from ⟨hcv, d0, d1⟩)
       have HLT := Aside0.mk (show (⟨w5.heap.size, x.toNat, none⟩ : Addr).block < wl.heap.size ∧ (⟨gy, 0, none⟩ : Addr).block < wl.heap.size ∧ (⟨gy, 1, none⟩ : Addr).block < wl.heap.size from ⟨blk_lt HG7.out, Kd.R_lt hr gy rfl, Kd.R_lt hr gy rfl⟩)
       have HO := Aside0.mk hone
       have HY2 := Aside0.mk hy2
       have HXX := Aside0.mk hx
       have p2 : (0 ≤ x) = True := eq_true (by omega)
       have q2 : (x < 21) = True := eq_true (by omega)
       have q3 : (0 < (y.length : Int)) = True := eq_true (by omega)
       have q3' : (0 < y.length) = True := eq_true (by omega)
       have q4 : (1 < (y.length : Int)) = True := eq_true (by omega)
       have q4' : (1 < y.length) = True := eq_true (by omega)
       clear hx hn20 hy2 hy hone hv hr hrw hc0_ hc1_ e_ hcv d0 d1
       go_wp2
       have HS8 := Aside0.mk (Kd.S_drew HS.out)
       have HB8 := Aside0.mk (below_drew HBL.out)
       refine start_ (n := 22) (S := fun w' => w'.cell? ⟨w5.heap.size, x.toNat, none⟩ = some (.slice (some ⟨gy, 0, none⟩) y.length c) ∧ w'.cell? ⟨gy, 0, none⟩ = some (.int .i64 (rd y 0)) ∧ w'.cell? ⟨gy, 1, none⟩ = some (.int .i64 (rd y 1))) (ds := []) (mb 22 0) (by kernel_rfl) rfl rfl HD.out (fun hHeld => ?_)
       generalize wr.drew = w8 at HS8 HB8 hHeld ⊢
       refine pure_ (i := 0) (N := some 27) (v := ?_) (a' := ?_) (mb 22 1) rfl rfl (by kernel_rfl) (fun _ _ _ h => h) (Or.inl ⟨by rfl, ?_⟩) ?_ ?_
       rotate_left
       ·intro w'
        go_simp
        with_reducible rfl
       rotate_left
       ·simp only [Act.put, List.setIfInBounds_toArray, List.set_cons_zero, List.set_cons_succ, i64_w, i32_w]
        rfl
       refine pure_ (i := 1) (N := some 28) (v := ?_) (a' := ?_) (mb 22 3) rfl rfl (by kernel_rfl) (fun _ _ _ h => h) (Or.inl ⟨by rfl, ?_⟩) ?_ ?_
       rotate_left
       ·intro w'
        go_simp
        with_reducible rfl
       rotate_left
       ·simp only [Act.put, List.setIfInBounds_toArray, List.set_cons_zero, List.set_cons_succ, i64_w, i32_w]
        rfl
       refine pure_ (i := 2) (N := some 29) (v := ?_) (a' := ?_) (mb 22 7) rfl rfl (by kernel_rfl) (fun _ _ _ h => h) (Or.inl ⟨by rfl, ?_⟩) ?_ ?_
       rotate_left
       ·intro w'
        go_simp
        with_reducible rfl
       rotate_left
       ·simp only [Act.put, List.setIfInBounds_toArray, List.set_cons_zero, List.set_cons_succ, i64_w, i32_w]
        rfl
       refine pure_ (i := 3) (N := some 30) (v := ?_) (a' := ?_) (mb 22 15) rfl rfl (by kernel_rfl) (fun _ _ _ h => h) (Or.inl ⟨by rfl, ?_⟩) ?_ ?_
       rotate_left
       ·intro w'
        go_simp
        with_reducible rfl
       rotate_left
       ·simp only [Act.put, List.setIfInBounds_toArray, List.set_cons_zero, List.set_cons_succ, i64_w, i32_w]
        rfl
       refine pure_ (i := 7) (N := some 34) (v := ?_) (a' := ?_) (mb 22 143) rfl rfl (by kernel_rfl) (fun _ _ _ h => h) (Or.inl ⟨by rfl, ?_⟩) ?_ ?_
       rotate_left
       ·intro w'
        go_simp
        with_reducible rfl
       rotate_left
       ·simp only [Act.put, List.setIfInBounds_toArray, List.set_cons_zero, List.set_cons_succ, i64_w, i32_w]
        rfl
       refine pure_ (i := 10) (N := some 37) (v := ?_) (a' := ?_) (mb 22 1167) rfl rfl (by kernel_rfl) (fun _ _ _ h => h) (Or.inl ⟨by rfl, ?_⟩) ?_ ?_
       rotate_left
       ·intro w'
        go_simp
        with_reducible rfl
       rotate_left
       ·simp only [Act.put, List.setIfInBounds_toArray, List.set_cons_zero, List.set_cons_succ, i64_w, i32_w]
        rfl
       refine pure_ (i := 11) (N := some 38) (v := ?_) (a' := ?_) (mb 22 3215) rfl rfl (by kernel_rfl) (fun _ _ _ h => h) (Or.inl ⟨by rfl, ?_⟩) ?_ ?_
       rotate_left
       ·intro w'
        go_simp
        with_reducible rfl
       rotate_left
       ·simp only [Act.put, List.setIfInBounds_toArray, List.set_cons_zero, List.set_cons_succ, i64_w, i32_w]
        rfl
       refine pure_ (i := 15) (N := some 42) (v := ?_) (a' := ?_) (mb 22 35983) rfl rfl (by kernel_rfl) (fun _ _ _ h => h) (Or.inl ⟨by rfl, ?_⟩) ?_ ?_
       rotate_left
       ·intro w'
        go_simp
        with_reducible rfl
       rotate_left
       ·simp only [Act.put, List.setIfInBounds_toArray, List.set_cons_zero, List.set_cons_succ, i64_w, i32_w]
        rfl
       refine take_ (i := 4) (N := some 31) (v := ?_) (a' := ?_) (mb 22 35999) rfl rfl (by kernel_rfl) (fun _ _ _ h => h) (Or.inl ⟨by rfl, ?_⟩) hHeld ?_ ?_
       rotate_left
       ·rintro w' ⟨s0, s1, s2⟩
        go_simp
        with_reducible rfl
       rotate_left
       ·simp only [Act.put, List.setIfInBounds_toArray, List.set_cons_zero, List.set_cons_succ, i64_w, i32_w]
        rfl
       refine pure_ (i := 5) (N := some 32) (v := ?_) (a' := ?_) (mb 22 36031) rfl rfl (by kernel_rfl) (fun _ _ _ h => h) (Or.inl ⟨by rfl, ?_⟩) ?_ ?_
       rotate_left
       ·intro w'
        go_simp
        with_reducible rfl
       rotate_left
       ·simp only [Act.put, List.setIfInBounds_toArray, List.set_cons_zero, List.set_cons_succ, i64_w, i32_w]
        rfl
       refine take_ (i := 6) (N := some 33) (v := ?_) (a' := ?_) (mb 22 36095) rfl rfl (by kernel_rfl) (fun _ _ _ h => h) (Or.inl ⟨by rfl, ?_⟩) hHeld ?_ ?_
       rotate_left
       ·rintro w' ⟨s0, s1, s2⟩
        go_simp
        with_reducible rfl
       rotate_left
       ·simp only [Act.put, List.setIfInBounds_toArray, List.set_cons_zero, List.set_cons_succ, i64_w, i32_w]
        rfl
       refine pure_ (i := 8) (N := some 35) (v := ?_) (a' := ?_) (mb 22 36351) rfl rfl (by kernel_rfl) (fun _ _ _ h => h) (Or.inl ⟨by rfl, ?_⟩) ?_ ?_
       rotate_left
       ·intro w'
        go_simp
        with_reducible rfl
       rotate_left
       ·simp only [Act.put, List.setIfInBounds_toArray, List.set_cons_zero, List.set_cons_succ, i64_w, i32_w]
        rfl
       refine pure_ (i := 9) (N := some 36) (v := ?_) (a' := ?_) (mb 22 36863) rfl rfl (by kernel_rfl) (fun _ _ _ h => h) (Or.inl ⟨by rfl, ?_⟩) ?_ ?_
       rotate_left
       ·intro w'
        go_simp
        with_reducible rfl
       rotate_left
       ·simp only [Act.put, List.setIfInBounds_toArray, List.set_cons_zero, List.set_cons_succ, i64_w, i32_w]
        rfl
       refine take_ (i := 12) (N := some 39) (v := ?_) (a' := ?_) (mb 22 40959) rfl rfl (by kernel_rfl) (fun _ _ _ h => h) (Or.inl ⟨by rfl, ?_⟩) hHeld ?_ ?_
       rotate_left
       ·rintro w' ⟨s0, s1, s2⟩
        go_simp
        with_reducible rfl
       rotate_left
       ·simp only [Act.put, List.setIfInBounds_toArray, List.set_cons_zero, List.set_cons_succ, i64_w, i32_w]
        rfl
       refine pure_ (i := 13) (N := some 40) (v := ?_) (a' := ?_) (mb 22 49151) rfl rfl (by kernel_rfl) (fun _ _ _ h => h) (Or.inl ⟨by rfl, ?_⟩) ?_ ?_
       rotate_left
       ·intro w'
        go_simp
        with_reducible rfl
       rotate_left
       ·simp only [Act.put, List.setIfInBounds_toArray, List.set_cons_zero, List.set_cons_succ, i64_w, i32_w]
        rfl
       refine take_ (i := 14) (N := some 41) (v := ?_) (a' := ?_) (mb 22 65535) rfl rfl (by kernel_rfl) (fun _ _ _ h => h) (Or.inl ⟨by rfl, ?_⟩) hHeld ?_ ?_
       rotate_left
       ·rintro w' ⟨s0, s1, s2⟩
        go_simp
        with_reducible rfl
       rotate_left
       ·simp only [Act.put, List.setIfInBounds_toArray, List.set_cons_zero, List.set_cons_succ, i64_w, i32_w]
        rfl
       refine pure_ (i := 16) (N := some 43) (v := ?_) (a' := ?_) (mb 22 131071) rfl rfl (by kernel_rfl) (fun _ _ _ h => h) (Or.inl ⟨by rfl, ?_⟩) ?_ ?_
       rotate_left
       ·intro w'
        go_simp
        with_reducible rfl
       rotate_left
       ·simp only [Act.put, List.setIfInBounds_toArray, List.set_cons_zero, List.set_cons_succ, i64_w, i32_w]
        rfl
       refine pure_ (i := 17) (N := some 44) (v := ?_) (a' := ?_) (mb 22 262143) rfl rfl (by kernel_rfl) (fun _ _ _ h => h) (Or.inl ⟨by rfl, ?_⟩) ?_ ?_
       rotate_left
       ·intro w'
        go_simp
        with_reducible rfl
       rotate_left
       ·simp only [Act.put, List.setIfInBounds_toArray, List.set_cons_zero, List.set_cons_succ, i64_w, i32_w]
        rfl
       refine one_ (i := 18) (N := some 45) (mb 22 524287) rfl rfl (by kernel_rfl) (by decide) (fun K hK => ?_)
       refine value_ (w1 := ?_) (v := ?_) (by rfl) rfl ?_ ?_
       rotate_left 2
       ·go_simp
        constructor
        ·rfl
        ·rfl
       refine hK.out _ _ ⟨impl_TriplesOfRow.new hHeld.1, impl_TriplesOfRow.new hHeld.2.1, impl_TriplesOfRow.new hHeld.2.2⟩ (fun hHeld => ?_)
       clear hK K
       refine norm_ (a' := ?_) ?_ ?_
       rotate_left
       ·show Act.put _ (some 45) _ = _
        simp only [Act.put, List.setIfInBounds_toArray, List.set_cons_zero, List.set_cons_succ, i64_w, i32_w]
        rfl
       have HO9 := Aside0.mk (impl_TriplesOfRow.lit w8 HB8.out.size x (wrap64 (wrap64 (rd y 0 + n) + 1)) (wrap64 (wrap64 (rd y 1 + n) + 1)))
       have HS9 := Aside0.mk (Kd.S_mono (ok' := fun k => True ∧ ¬ k = w8.heap.size) (Kd.S_alloc (Kd.S_bound HS8.out) (.cells #[.int .i64 x, .int .i64 (wrap64 (wrap64 (rd y 0 + n) + 1)), .int .i64 (wrap64 (wrap64 (rd y 1 + n) + 1))] 3 (0, 0))) (fun k hk => ⟨trivial, by have := hk.2.2.1; omega⟩))
       have HB9 := Aside0.mk (below_alloc HB8.out (.cells #[.int .i64 x, .int .i64 (wrap64 (wrap64 (rd y 0 + n) + 1)), .int .i64 (wrap64 (wrap64 (rd y 1 + n) + 1))] 3 (0, 0)))
       generalize hw9 : w8.alloc (.cells #[.int .i64 x, .int .i64 (wrap64 (wrap64 (rd y 0 + n) + 1)), .int .i64 (wrap64 (wrap64 (rd y 1 + n) + 1))] 3 (0, 0)) = w9 at HO9 HS9 HB9 hHeld ⊢
       have HZ9 := Aside0.mk (show w9.heap.size = w8.heap.size + 1 by rw [← hw9]; show (w8.heap.push _).size = _; simp)
       clear hw9
       refine one_ (i := 19) (N := some 46) (mb 22 1048575) rfl rfl (by kernel_rfl) (by decide) (fun K hK => ?_)
       refine value_ (w1 := ?_) (v := ?_) (by rfl) rfl ?_ ?_
       rotate_left 2
       ·go_simp
        constructor
        ·rfl
        ·rfl
       refine hK.out _ _ ⟨impl_TriplesOfRow.new hHeld.1, impl_TriplesOfRow.new hHeld.2.1, impl_TriplesOfRow.new hHeld.2.2⟩ (fun hHeld => ?_)
       clear hK K
       refine norm_ (a' := ?_) ?_ ?_
       rotate_left
       ·show Act.put _ (some 46) _ = _
        simp only [Act.put, List.setIfInBounds_toArray, List.set_cons_zero, List.set_cons_succ, i64_w, i32_w]
        rfl
       refine one_ (i := 20) (N := some 47) (mb 22 2097151) rfl rfl (by kernel_rfl) (by decide) (fun K hK => ?_)
       refine Kd.S_append_step (Kd.slice 3 (Kd.int .i64)) (w0 := wl) (W := w9) wl.heap.size (by rfl) (.tmp 27) (.tmp 46) 23 22 (.slice none 0 0) 24 rfl Try.underlying23 impl_pairs.info22 rfl (by decide) (by omega) (.slice A6 acc.length c6) acc [x, (wrap64 (wrap64 (rd y 0 + n) + 1)), (wrap64 (wrap64 (rd y 1 + n) + 1))] [.slice (some ⟨w8.heap.size, 0, none⟩) 3 3] (fun _ => True) (fun k => k = w8.heap.size) rfl rfl ?aP ?aK ?aF ?aO ?aB ?aS ?aL ?_
       (case aP => exact Kd.M_row HO9.out)
       (case aK => exact fun k hk => ⟨trivial, fun e => by have := Kd.S_lt HS8.out k e.symm; omega⟩)
       (case aF => exact fun _ _ => trivial)
       (case aO => exact HS9.out)
       (case aB => exact HB9.out)
       (case aS => exact HB9.out.size)
       (case aL => have := HL6.out; have := HX.out; have := HXX.out; have := MANY.out; omega)
       intro v10 w10 ho10 hb10 hg10 hat10
       have HS10 := Aside0.mk ho10
       have HB10 := Aside0.mk hb10
       clear ho10 hg10 hat10
       have HDX := impl_TriplesOfRow.held hb10 HBL.out HD.out HLT.out
       refine hK.out _ _ ⟨HDX.1, HDX.2.1, HDX.2.2⟩ (fun hHeld => ?_)
       clear hK K
       refine norm_ (a' := ?_) ?_ ?_
       rotate_left
       ·show Act.put _ (some 47) _ = _
        simp only [Act.put, List.setIfInBounds_toArray, List.set_cons_zero, List.set_cons_succ, i64_w, i32_w]
        rfl
       refine pure_ (i := 21) (N := some 7) (v := ?_) (a' := ?_) (mb 22 4194303) rfl rfl (by kernel_rfl) (fun _ _ _ h => h) (Or.inl ⟨by rfl, ?_⟩) ?_ ?_
       rotate_left
       ·intro w'
        go_simp
        with_reducible rfl
       rotate_left
       ·simp only [Act.put, List.setIfInBounds_toArray, List.set_cons_zero, List.set_cons_succ, i64_w, i32_w]
        rfl
       refine done_ (by kernel_rfl) ?_
       (try simp only [Exit.inBlock, Exit.then])
       try go_wp2
       go_roundg k1
       case measure => have := HX.out; omega
       case rel =>
        refine ⟨x + 1, by rw [show wrap64 (x + 1) = x + 1 by have := HX.out; have := HXX.out; have := MANY.out; unfold wrap64; omega], ⟨by have := HX.out; have := HXX.out; omega⟩, ⟨?_⟩, HB10⟩
        have e : impl_TriplesOfRow.L l0 n ((x + 1).toNat - 1) = acc ++ [[x, wrap64 (wrap64 (rd y 0 + n) + 1), wrap64 (wrap64 (rd y 1 + n) + 1)]] := by
         rw [show (x + 1).toNat - 1 = (x.toNat - 1) + 1 by have := HX.out; omega, HACC.out, ← HO.out]
         unfold impl_TriplesOfRow.L
         rw [List.range_succ, List.map_append, List.map_singleton, show ((x.toNat - 1 : Nat) : Int) + 1 = x by have := HX.out; omega]
        rw [e]
        exact HS10.out
      ·have cx : decide (x ≤ n) = false := decide_eq_false hx
       have HSX := Aside0.mk (show Kd.S (Kd.slice 3 (Kd.int .i64)) 22 wr w.heap.size (fun _ => True) _ (impl_TriplesOfRow.L l0 a a.toNat) from by
        rw [HGN.out]
        have h := HS.out
        rw [show x.toNat - 1 = n.toNat by have := HX.out; omega] at h
        exact Kd.S_lower h HB.out.size)
       clear hx
       go_wp2
       go_ret2
       exact ⟨_, rfl, HSX.out, below_step HB.out HBL.out⟩
   ·rw [if_neg hok] at H
    cases H

/-! ### cmp_isNaN_int: function 142 -/
def cmp_isNaN_int.f (a0 : Int) : Option (Bool) := some (a0 != a0)
set_option maxHeartbeats 8000000 in
set_option maxRecDepth 100000 in
theorem cmp_isNaN_int.calls (a0 : Int) (r : Bool) (w : World) (h : cmp_isNaN_int.f a0 = some r) :
  Calls Try.prog 142 #[.int .i64 a0] w fun e w' => e = .returned (.bool r) ∧ Drawn0 w w' := by
 have H : (some (a0 != a0)) = some r := h
 clear h
 obtain rfl := Option.some.inj H
 go_enter Try.func142, Try.ntmps142
 go_wp2
 go_ret
 exact ⟨by first | rfl | (simp; done) | (simp [*]; done), by repeat (first | exact Drawn0.refl _ | apply Drawn0.step)⟩

/-! ### cmp_Less_int: function 129 -/
def cmp_Less_int.f (a0 : Int) (a1 : Int) : Option (Bool) := (cmp_isNaN_int.f a0).bind fun t275 => (if t275 = true then ((cmp_isNaN_int.f a1).bind fun t276 => (if t276 = true then (some (decide (a0 < a1))) else (some true))) else (some (decide (a0 < a1))))
set_option maxHeartbeats 8000000 in
set_option maxRecDepth 100000 in
theorem cmp_Less_int.calls (a0 : Int) (a1 : Int) (r : Bool) (w : World) (h : cmp_Less_int.f a0 a1 = some r) :
  Calls Try.prog 129 #[.int .i64 a0, .int .i64 a1] w fun e w' => e = .returned (.bool r) ∧ Drawn0 w w' := by
 have H : ((cmp_isNaN_int.f a0).bind fun t275 => (if t275 = true then ((cmp_isNaN_int.f a1).bind fun t276 => (if t276 = true then (some (decide (a0 < a1))) else (some true))) else (some (decide (a0 < a1))))) = some r := h
 clear h
 replace H := Option.bind_eq_some_iff.mp H
 obtain ⟨t275, A30, H⟩ := H
 replace H : (if t275 = true then ((cmp_isNaN_int.f a1).bind fun t276 => (if t276 = true then (some (decide (a0 < a1))) else (some true))) else (some (decide (a0 < a1)))) = some r := H
 have A3 := Aside0.mk A30
 clear A30
 by_cases c4 : t275 = true
 ·subst c4
  have H1 : ((cmp_isNaN_int.f a1).bind fun t276 => (if t276 = true then (some (decide (a0 < a1))) else (some true))) = some r := by rw [if_pos rfl] at H; exact H
  clear H
  have H := H1
  clear H1
  replace H := Option.bind_eq_some_iff.mp H
  obtain ⟨t276, A50, H⟩ := H
  replace H : (if t276 = true then (some (decide (a0 < a1))) else (some true)) = some r := H
  have A5 := Aside0.mk A50
  clear A50
  by_cases c6 : t276 = true
  ·subst c6
   have H1 : (some (decide (a0 < a1))) = some r := by rw [if_pos rfl] at H; exact H
   clear H
   have H := H1
   clear H1
   obtain rfl := Option.some.inj H
   go_enter Try.func129, Try.ntmps129
   go_wp2_with (first | ((with_reducible refine gate_callee (f := 142) rfl ?_); refine goesL_ (some 6) rfl rfl Try.func142 (by kernel_rfl) rfl #[.int .i64 a0] rfl (by (try simp only [List.map_toArray, List.map_cons, List.map_nil]); first | done | rfl | (simp only [List.length_drop, List.length_take]; rfl)) ?_; (with_reducible refine (cmp_isNaN_int.calls a0 true _ A3.out).mono ?_); rintro e w' ⟨rfl, ⟨nd, rfl⟩⟩; refine ⟨_, rfl, ?_⟩) | (go_at_call 142; (with_reducible refine (cmp_isNaN_int.calls a1 true _ A5.out).mono ?_); rintro e w' ⟨rfl, ⟨nd, rfl⟩⟩))
   go_ret
   exact ⟨by first | rfl | (simp; done) | (simp [*]; done), by repeat (first | exact Drawn0.refl _ | apply Drawn0.step)⟩
  ·replace c6 := Bool.eq_false_iff.mpr c6
   subst c6
   have H1 : (some true) = some r := by rw [if_neg (show ¬ (false = true) by decide)] at H; exact H
   clear H
   have H := H1
   clear H1
   obtain rfl := Option.some.inj H
   go_enter Try.func129, Try.ntmps129
   go_wp2_with (first | ((with_reducible refine gate_callee (f := 142) rfl ?_); refine goesL_ (some 6) rfl rfl Try.func142 (by kernel_rfl) rfl #[.int .i64 a0] rfl (by (try simp only [List.map_toArray, List.map_cons, List.map_nil]); first | done | rfl | (simp only [List.length_drop, List.length_take]; rfl)) ?_; (with_reducible refine (cmp_isNaN_int.calls a0 true _ A3.out).mono ?_); rintro e w' ⟨rfl, ⟨nd, rfl⟩⟩; refine ⟨_, rfl, ?_⟩) | (go_at_call 142; (with_reducible refine (cmp_isNaN_int.calls a1 false _ A5.out).mono ?_); rintro e w' ⟨rfl, ⟨nd, rfl⟩⟩))
   go_ret
   exact ⟨by first | rfl | (simp; done) | (simp [*]; done), by repeat (first | exact Drawn0.refl _ | apply Drawn0.step)⟩
 ·replace c4 := Bool.eq_false_iff.mpr c4
  subst c4
  have H1 : (some (decide (a0 < a1))) = some r := by rw [if_neg (show ¬ (false = true) by decide)] at H; exact H
  clear H
  have H := H1
  clear H1
  obtain rfl := Option.some.inj H
  go_enter Try.func129, Try.ntmps129
  go_wp2_with (first | ((with_reducible refine gate_callee (f := 142) rfl ?_); refine goesL_ (some 6) rfl rfl Try.func142 (by kernel_rfl) rfl #[.int .i64 a0] rfl (by (try simp only [List.map_toArray, List.map_cons, List.map_nil]); first | done | rfl | (simp only [List.length_drop, List.length_take]; rfl)) ?_; (with_reducible refine (cmp_isNaN_int.calls a0 false _ A3.out).mono ?_); rintro e w' ⟨rfl, ⟨nd, rfl⟩⟩; refine ⟨_, rfl, ?_⟩))
  go_ret
  exact ⟨by first | rfl | (simp; done) | (simp [*]; done), by repeat (first | exact Drawn0.refl _ | apply Drawn0.step)⟩

end Go.Proofs.Ytgpnhaaklhinlaa.PFnExactSystemOfRow
