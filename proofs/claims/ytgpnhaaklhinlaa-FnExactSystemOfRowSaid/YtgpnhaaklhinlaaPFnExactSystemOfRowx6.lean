-- Written by plug.py, a program of this session, over the kit's print of the function: checked by Lean alone.
import Derived.Test.YtgpnhaaklhinlaaPFnExactSystemOfRowx0
import Derived.Test.YtgpnhaaklhinlaaPFnExactSystemOfRowx5
namespace Go.Proofs.Ytgpnhaaklhinlaa.PFnExactSystemOfRow
open Go.RowKit Go.Proofs.YtgpnhaaklhinlaaW.PrintWords Go.Proofs.YtgpnhaaklhinlaaW.PrintLast Go.Proofs.YtgpnhaaklhinlaaW.PrintMore
attribute [local go_sem] max2_int min2_int max_two min_two max_three min_three max_four min_four   -- for this text's walks alone
set_option linter.unusedVariables false
set_option linter.unusedSimpArgs false

/-! ### impl_isPairs: function 45 -/
/-- Block G holds the slices vs; slice n owns the row L[n]; no two of them own one block. E: the numbers' type, T: the block's. -/
def ArrRows (E T : Nat) (w : World) (B G : Nat) (vs : List Value) (L : List (List Int)) : Prop :=
 w.heap[G]? = some (.cells vs.toArray T (0, 0)) ∧ vs.length = L.length ∧
 (∀ (n : Nat) (v : Value), vs[n]? = some v → (Kd.int .i64).R E w B (fun k => some k = v.ownBlock) v (L.getD n [])) ∧
 ∀ (n m : Nat) (v u : Value), n ≠ m → vs[n]? = some v → vs[m]? = some u → v.ownBlock = none ∨ v.ownBlock ≠ u.ownBlock
theorem arr_cell {E T : Nat} {w : World} {B G : Nat} {vs : List Value} {L : List (List Int)} (h : ArrRows E T w B G vs L) {n : Nat} {v : Value} (hv : vs[n]? = some v) : w.cell? ⟨G, n, none⟩ = some v := by
 rw [cell_of_row w G n _ T (0, 0) h.1]
 simpa using hv
theorem arr_free {E T : Nat} {w : World} {B G : Nat} {vs : List Value} {L : List (List Int)} (h : ArrRows E T w B G vs L) (n : Nat) : w.frozen? ⟨G, n, none⟩ = false := frozen_of_row w G n _ T h.1
theorem arr_lt {E T : Nat} {w : World} {B G : Nat} {vs : List Value} {L : List (List Int)} (h : ArrRows E T w B G vs L) : G < w.heap.size := lt_of_block h.1
theorem arr_below {E T : Nat} {w w1 : World} {B G : Nat} {vs : List Value} {L : List (List Int)} (h : ArrRows E T w B G vs L) (hb : Below w.heap.size w w1) : ArrRows E T w1 B G vs L :=
 ⟨(hb.block G (arr_lt h)).trans h.1, h.2.1, fun n v hv => Kd.R_below (h.2.2.1 n v hv) hb, h.2.2.2⟩
theorem arr_lower {E T : Nat} {w : World} {B B' G : Nat} {vs : List Value} {L : List (List Int)} (h : ArrRows E T w B G vs L) (hb : B' ≤ B) : ArrRows E T w B' G vs L :=
 ⟨h.1, h.2.1, fun n v hv => Kd.R_lower (h.2.2.1 n v hv) hb, h.2.2.2⟩
theorem arr_start {E T : Nat} {w : World} {B G : Nat} (n : Nat) (h : w.heap[G]? = some (.cells (List.replicate n (Value.slice none 0 0)).toArray T (0, 0))) : ArrRows E T w B G (List.replicate n (.slice none 0 0)) (List.replicate n []) := by
 refine ⟨h, by simp, fun m v hv => ?_, fun m m' v u hne hv hu => ?_⟩
 ·obtain ⟨hm, rfl⟩ := List.getElem?_eq_some_iff.1 hv
  simp only [List.length_replicate] at hm
  have e : (List.replicate n ([] : List Int)).getD m [] = [] := by rw [List.getD_eq_getElem?_getD, List.getElem?_replicate, if_pos hm]; rfl
  rw [e]
  simp only [List.getElem_replicate]
  exact Kd.R_nil _ _ _ _ _
 ·obtain ⟨hm, rfl⟩ := List.getElem?_eq_some_iff.1 hv
  left
  simp [Value.ownBlock]
/-- Behind 'at[n] = append(at[n], x)'. -/
theorem arr_step {E T : Nat} {W w1 : World} {B G : Nat} {vs : List Value} {L : List (List Int)} (h : ArrRows E T W B G vs L) (hET : E ≠ T) {n : Nat} {v v1 : Value} {x : Int} (hv : vs[n]? = some v)
  (ho : (Kd.int .i64).R E w1 B (fun _ => True) v1 (L.getD n [] ++ [x])) (hg : W.grownBy w1 v.ownBlock) (hat : v1.ownBlock = v.ownBlock ∨ ∃ b, v1.ownBlock = some b ∧ W.heap.size ≤ b) :
  ArrRows E T (w1.setCell ⟨G, n, none⟩ v1) B G (vs.set n v1) (L.set n (L.getD n [] ++ [x])) := by
 obtain ⟨h1, h2, h3, h4⟩ := h
 have hn : n < vs.length := by
  rcases Nat.lt_or_ge n vs.length with h' | h'
  ·exact h'
  ·rw [List.getElem?_eq_none h'] at hv; cases hv
 have hGlt : G < W.heap.size := lt_of_block h1
 have hvG : some G ≠ v.ownBlock := Kd.R_ne (h3 n v hv) h1 hET
 have hG1 : w1.heap[G]? = some (.cells vs.toArray T (0, 0)) := (hg.block G hGlt hvG).trans h1
 have hv1G : some G ≠ v1.ownBlock := Kd.R_ne ho hG1 hET
 have hset : ∀ (m : Nat) (u : Value), (vs.set n v1)[m]? = some u → (m = n ∧ u = v1) ∨ (m ≠ n ∧ vs[m]? = some u) := by
  intro m u hu
  rw [List.getElem?_set] at hu
  by_cases c : n = m
  ·subst c
   simp [hn] at hu
   exact .inl ⟨rfl, hu.symm⟩
  ·simp [c] at hu
   exact .inr ⟨fun e => c e.symm, hu⟩
 have hlt : ∀ (m : Nat) (u : Value), vs[m]? = some u → ∀ k, u.ownBlock = some k → k < W.heap.size := fun m u hu k hk => Kd.R_lt (h3 m u hu) k hk
 have hdis : ∀ (m : Nat) (u : Value), m ≠ n → vs[m]? = some u → u.ownBlock = none ∨ u.ownBlock ≠ v1.ownBlock := by
  intro m u hm hu
  rcases hat with hat | ⟨b, hb, hle⟩
  ·rw [hat]
   exact h4 m n u v hm hu hv
  ·cases e : u.ownBlock with
   | none => exact .inl rfl
   | some k =>
    right
    rw [hb]
    have := hlt m u hu k e
    intro he
    injection he with he
    omega
 refine ⟨?_, by simpa using h2, fun m u hu => ?_, fun m m' u u' hne hu hu' => ?_⟩
 ·rw [heap_setCell_same w1 G n _ T v1 hG1]
  simp
 ·rcases hset m u hu with ⟨rfl, rfl⟩ | ⟨hm, hu0⟩
  ·have e : (L.set m (L.getD m [] ++ [x])).getD m [] = L.getD m [] ++ [x] := by
    rw [List.getD_eq_getElem?_getD, List.getElem?_set_self (by omega)]
    rfl
   rw [e]
   have t := Kd.R_tight rfl ho
   exact Kd.R_far t (fun k hk e => hv1G (by rw [← hk]; exact congrArg some e.symm)) _
  ·have e : (L.set n (L.getD n [] ++ [x])).getD m [] = L.getD m [] := by
    rw [List.getD_eq_getElem?_getD, List.getElem?_set_ne (fun e => hm e.symm), List.getD_eq_getElem?_getD]
   rw [e]
   have r := h3 m u hu0
   have huG : some G ≠ u.ownBlock := Kd.R_ne r h1 hET
   have r1 := Kd.R_grown r hg (fun k hk => by
    rcases h4 m n u v hm hu0 hv with h' | h'
    ·rw [h'] at hk; cases hk
    ·rw [hk]; exact h')
   exact Kd.R_far r1 (fun k hk e => huG (by rw [← hk]; exact congrArg some e.symm)) _
 ·rcases hset m u hu with ⟨rfl, rfl⟩ | ⟨hm, hu0⟩
  ·rcases hset m' u' hu' with ⟨rfl, rfl⟩ | ⟨hm', hu0'⟩
   ·exact absurd rfl hne
   ·rcases hdis m' u' hm' hu0' with h' | h'
    ·cases e : u.ownBlock with
     | none => exact .inl rfl
     | some k => right; rw [h']; simp
    ·exact .inr (fun e => h' e.symm)
  ·rcases hset m' u' hu' with ⟨rfl, rfl⟩ | ⟨hm', hu0'⟩
   ·exact hdis m u hm hu0
   ·exact h4 m m' u u' hne hu0 hu0'
def impl_pairs.st (l : List Int) : Nat → List (List Int)
 | 0 => List.replicate 21 []
 | k + 1 => if 0 < rd l k then (impl_pairs.st l k).set (rd l k).toNat ((impl_pairs.st l k).getD (rd l k).toNat [] ++ [(k : Int)]) else impl_pairs.st l k
theorem impl_pairs.st_len (l : List Int) : ∀ k, (impl_pairs.st l k).length = 21
 | 0 => by simp [impl_pairs.st]
 | k + 1 => by
  have h := impl_pairs.st_len l k
  unfold impl_pairs.st
  split
  ·simpa using h
  ·exact h
def impl_pairs.okl (L : List (List Int)) : Nat → Bool
 | 0 => true
 | n + 1 => impl_pairs.okl L n && ((L.getD n []).length == 0 || (L.getD n []).length == 2)
theorem impl_pairs.st_le (l : List Int) (n : Nat) : ∀ k, ((impl_pairs.st l k).getD n []).length ≤ k
 | 0 => by
  simp only [impl_pairs.st, List.getD_eq_getElem?_getD, List.getElem?_replicate]
  split <;> simp
 | k + 1 => by
  have h := impl_pairs.st_le l n k
  unfold impl_pairs.st
  split
  ·rw [List.getD_eq_getElem?_getD, List.getElem?_set]
   by_cases e : (rd l k).toNat = n
   ·subst e
    rw [if_pos rfl]
    split
    ·simp only [Option.getD_some, List.length_append, List.length_singleton]; omega
    ·simp
   ·rw [if_neg e, ← List.getD_eq_getElem?_getD]; omega
  ·omega
theorem impl_pairs.info42 : (Try.prog.info? 48).map (·.size) = some 21 := by kernel_rfl
theorem impl_pairs.w64s {j : Int} (h : 0 ≤ j) (h1 : j < 4611686018427387904) : wrap64 (j + 1) = j + 1 := by unfold wrap64; omega
theorem impl_pairs.info22 : (Try.prog.info? 22).map (fun i => (i.zero, i.size, i.bytes)) = some (some (.slice none 0 0), 1, 24) := by kernel_rfl
theorem impl_pairs.ix {vs : List Value} {m : Int} {A : Option Addr} {n c : Nat} (h0 : 0 ≤ m) (h1 : m < 21) (hv : vs[m.toNat]? = some (.slice A n c)) (w : World) :
  (Instr.index 48 (.agg vs.toArray) (.int .i64 m)).run Try.prog w = .ok (.slice A n c) w := by
 have e := impl_pairs.info22
 cases hq : Try.prog.info? 22 with
 | none => simp [hq] at e
 | some i =>
  have hs : i.size = 1 := by simp [hq] at e; exact e.2.1
  simp [Instr.index, run_underlying Try.underlying48, asIntOf, h0, h1, go_sem, sizeOf, typeInfo, hq, hs, part, hv]
theorem impl_pairs.res (tmps : Array Value) (w : World) (g : Nat) (cs : Array Value) (hp : tmps.getD 2 undef = .pointer (some ⟨g, 0, none⟩)) (hg : w.heap[g]? = some (.cells cs 48 (0, 0))) (hs : cs.size = 21) :
  (results Try.f46 tmps).run Try.prog w = .ok (.tuple #[.agg cs, tmps.getD 3 undef]) w := by
 have hp' : tmps[2]?.getD undef = .pointer (some ⟨g, 0, none⟩) := by simpa using hp
 have hr : Try.f46.results = #[.cell 2 48, .tmp 3] := rfl
 simp [results, hr, hp', asAddr, run_loadVar_row (P := Try.prog) w g 48 48 cs (0, 0) _ hg Try.underlying48 rfl (by rw [hs]; exact impl_pairs.info42)]
def impl_pairs.Post (w : World) (l0 : List Int) (b : Bool) (e : Ending) (w' : World) : Prop := ∃ vs : List Value, e = .returned (.tuple #[.agg vs.toArray, .bool b]) ∧ vs.length = 21 ∧ (∀ (n : Nat) (v : Value), vs[n]? = some v → (Kd.int .i64).R 3 w' w.heap.size (fun k => some k = v.ownBlock) v ((impl_pairs.st l0 l0.length).getD n [])) ∧ Below w.heap.size w w'
theorem impl_pairs.one {w : World} {B G : Nat} {vs : List Value} {L : List (List Int)} (h : ArrRows 3 48 w B G vs L) : vs.toArray.all (·.oneCell') = true := by
 rw [List.all_toArray, List.all_eq_true]
 intro v hv
 obtain ⟨n, hn⟩ := List.getElem?_of_mem hv
 obtain ⟨A, c, rfl⟩ := Kd.R_slice (h.2.2.1 n v hn)
 rfl
theorem impl_pairs.fin {w w1 : World} {l0 : List Int} {b : Bool} {vs : List Value} {j : Nat} (h : ArrRows 3 48 w1 w.heap.size (w.heap.size + 1) vs (impl_pairs.st l0 j)) (hg : w1.heap[w.heap.size]? = some (.cells (List.replicate 21 (Value.slice none 0 0)).toArray 48 (0, 0))) (hb : Below w.heap.size w w1) (hs : vs.length = 21) (hj : j = l0.length) (b' : Bool) (e : b' = b) :
  impl_pairs.Post w l0 b (.returned (.tuple #[.agg vs.toArray, .bool b'])) (w1.setRow w.heap.size vs.toArray) := by
 subst hj e
 refine ⟨vs, rfl, hs, fun n v hv => ?_, (hb.trans ⟨rfl, rfl, rfl, by simp [World.setRow], fun k hk => setRow_other w1 w.heap.size k _ (by omega)⟩)⟩
 have r := h.2.2.1 n v hv
 have hne := Kd.R_ne r hg (by decide)
 exact Kd.R_step r (fun k hk _ => setRow_other w1 w.heap.size k _ (fun e => hne (by rw [← e]; exact hk)))
theorem impl_pairs.bad {L : List (List Int)} {n : Nat} (h0 : ¬ ((L.getD n []).length : Int) = 0) (h2 : ¬ ((L.getD n []).length : Int) = 2) : ∀ k, n < k → impl_pairs.okl L k = false
 | 0, h => absurd h (by omega)
 | k + 1, h => by
  by_cases c : n = k
  ·subst c
   simp only [impl_pairs.okl]
   have a : ((L.getD n []).length == 0) = false := beq_eq_false_iff_ne.2 (by omega)
   have b : ((L.getD n []).length == 2) = false := beq_eq_false_iff_ne.2 (by omega)
   rw [a, b]
   simp
  ·rw [impl_pairs.okl, impl_pairs.bad h0 h2 k (by omega)]; rfl
set_option maxHeartbeats 2000000 in
set_option maxRecDepth 100000 in
theorem impl_pairs.calls (A0 : Option Addr) (c0 : Nat) (l0 : List Int) (w : World) (hr0 : Kd.C (Kd.int .i64) w A0 l0.length l0) (hc0 : l0.length ≤ c0) (hb : ∀ j : Nat, j < l0.length → rd l0 j ≤ 20) (hL : l0.length ≤ 40) :
  Calls Try.prog 46 #[.slice A0 l0.length c0] w (impl_pairs.Post w l0 (impl_pairs.okl (impl_pairs.st l0 l0.length) 21)) := by
 have HR0 := Aside0.mk hr0
 have HL0 := Aside0.mk hL
 have HB0 := Aside0.mk hb
 clear hr0 hL hb
 have HB := Aside0.mk (Below.refl w.heap.size w)
 go_enter Try.func46, Try.ntmps46
 go_wp2
 go_loopg [11] (l0.length + 1) (fun kq v11 w' => ∃ (j : Int) (vs : List Value), v11 = .int .i64 j ∧ Aside0 (0 ≤ j ∧ j ≤ (l0.length : Int) ∧ kq + j.toNat = l0.length + 1) ∧ Aside0 (ArrRows 3 48 w' w.heap.size (w.heap.size + 1) vs (impl_pairs.st l0 j.toNat)) ∧ Aside0 (w'.heap[w.heap.size]? = some (.cells (List.replicate 21 (Value.slice none 0 0)).toArray 48 (0, 0))) ∧ Aside0 (Below w.heap.size w w'))
 case atStart =>
  exact ⟨0, List.replicate 21 (.slice none 0 0), rfl, ⟨Int.le_refl _, by omega, rfl⟩, ⟨arr_start 21 (heap_alloc2_new _ _ _)⟩, ⟨heap_alloc2_old _ _ _⟩, ⟨by repeat (first | (with_reducible first | exact HB.out | apply below_alloc | apply pw_below_drewN | apply below_drew1) | exact HB.out)⟩⟩
 case round =>
  obtain ⟨j, vs, rfl, HJ, HA, HG, HB⟩ := hrel
  cases gk with
  | zero => exact absurd HJ.out (by omega)
  | succ k1 =>
   have j0 := HJ.out.1
   have hjn : ((j.toNat : Nat) : Int) = j := Int.toNat_of_nonneg j0
   by_cases hj : j < (l0.length : Int)
   ·have cj : decide (j < (l0.length : Int)) = true := decide_eq_true (by omega)
    have p1 : 0 ≤ j := j0
    have q1 : j < (l0.length : Int) := hj
    obtain ⟨ad1, e1, hx1⟩ := Kd.at_int HR0.out j p1 q1
    cases e1
    replace hx1 := (HB.out.cell (World.block_lt_of_cell? w _ hx1)).trans hx1
    replace p1 := eq_true p1
    replace q1 := eq_true q1
    by_cases hpos : 0 < rd l0 j
    ·have c5 : decide (rd l0 j > 0) = true := decide_eq_true hpos
     have HP := Aside0.mk hpos
     have p2 : 0 ≤ rd l0 j := by omega
     have q2 : rd l0 j < 21 := by have := HB0.out j.toNat (by omega); rw [hjn] at this; omega
     have hn : (rd l0 j).toNat < vs.length := by rw [HA.out.2.1, impl_pairs.st_len]; omega
     have hv : vs[(rd l0 j).toNat]? = some vs[(rd l0 j).toNat] := List.getElem?_eq_getElem hn
     generalize vs[(rd l0 j).toNat] = v at hv
     have hR := HA.out.2.2.1 _ _ hv
     have hcv := arr_cell HA.out hv
     have hfv := arr_free HA.out (rd l0 j).toNat
     obtain ⟨y, hy⟩ : ∃ y, y = (impl_pairs.st l0 j.toNat).getD (rd l0 j).toNat [] := ⟨_, rfl⟩
     have hyl : y.length ≤ j.toNat := by rw [hy]; exact impl_pairs.st_le _ _ _
     rw [← hy] at hR
     obtain ⟨A, c, rfl⟩ := Kd.R_slice hR
     obtain ⟨y1, hy1⟩ : ∃ y1, y1 = y ++ [j] := ⟨_, rfl⟩
     have Ny := Aside0.mk hy
     have Ny1 := Aside0.mk hy1
     have Lyl := Aside0.mk hyl
     have HO := Aside0.mk hR
     have HV := Aside0.mk hv
     have HJ0 := Aside0.mk j0
     have HN := Aside0.mk hn
     have HJN := Aside0.mk hjn
     clear hpos hR hy hy1 hyl hn hv j0 hjn
     replace p2 := eq_true p2
     replace q2 := eq_true q2
     have HHJ := Aside0.mk hj
     clear hj
     go_wp2_with (first | ((with_reducible refine gate_builtin (b := .append) (xs := #[.tmp 21, .tmp 23]) rfl ?_); at_builtin; refine Kd.R_append (Kd.int .i64) (w0 := w) w.heap.size rfl (.tmp 21) (.tmp 23) 22 3 (.int .i64 0) 8 rfl Try.underlying22 info3 rfl (by decide) (by omega) (.slice A y.length c) y j [.int .i64 j] (fun _ => True) (fun _ => False) rfl rfl ?aP (fun _ hk => hk.elim) ?aF ?aO ?aB ?aS ?aL ?_; (case aP => exact rfl); (case aB => exact (by repeat (first | (with_reducible first | exact HB.out | apply below_alloc | apply pw_below_drewN | apply below_drew1) | exact HB.out))); (case aF => exact (fun _ _ => trivial)); (case aO => exact (by (with_reducible repeat (first | apply Kd.R_alloc | apply Kd.R_drewN | apply Kd.R_drew)); exact (Kd.R_mono HO.out (fun _ _ => trivial)))); (case aS => exact (below_size (by repeat (first | (with_reducible first | exact HB.out | apply below_alloc | apply pw_below_drewN | apply below_drew1) | exact HB.out)))); (case aL => have := Lyl.out; have := HHJ.out; have := HL0.out; omega); intro v149 w7 ho hb hg hat; rw [← Ny1.out] at ho; obtain ⟨A1, c1, rfl⟩ := Kd.R_slice ho; have hvG := Kd.R_ne HO.out HA.out.1 (by decide); have hvR := Kd.R_ne HO.out HG.out (by decide); have hG7 := (hg.block _ (arr_lt HA.out) hvG).trans HA.out.1; have hR7 := Aside0.mk ((hg.block _ (lt_of_block HG.out) hvR).trans HG.out); have hc7 : w7.cell? ⟨w.heap.size + 1, (rd l0 j).toNat, none⟩ = some (.slice A y.length c) := (by rw [cell_of_row w7 _ _ _ 48 (0, 0) hG7]; simpa using HV.out); have hf7 := frozen_of_row w7 (w.heap.size + 1) (rd l0 j).toNat _ 48 hG7; have HB7 := Aside0.mk hb; have HO7 := Aside0.mk ho; have HG7 := Aside0.mk hg; have HT7 := Aside0.mk hat; clear hG7 hvG hvR ho hb hg hat))
     go_roundg k1
     case measure => have := HJ.out; omega
     case rel =>
      have hstep := arr_step HA.out (by decide) HV.out (x := j) (by rw [← Ny.out, ← Ny1.out]; exact HO7.out) HG7.out HT7.out
      exact ⟨j + 1, vs.set (rd l0 j).toNat (.slice A1 y1.length c1), by rw [impl_pairs.w64s HJ.out.1 (by have := HL0.out; have := HHJ.out; omega)], ⟨by have := HJ.out; have := HHJ.out; omega⟩, ⟨by rw [show (j + 1).toNat = j.toNat + 1 by have := HJ.out; omega, impl_pairs.st, HJN.out, if_pos HP.out]; exact hstep⟩, ⟨by rw [heap_setCell_other _ _ _ _ (by show w.heap.size ≠ w.heap.size + 1; omega)]; exact hR7.out⟩, ⟨below_set HB7.out (by omega)⟩⟩
    ·have c5 : decide (rd l0 j > 0) = false := decide_eq_false hpos
     have HP := Aside0.mk hpos
     clear hpos
     go_wp2
     go_roundg k1
     case measure => have := HJ.out; omega
     case rel => exact ⟨j + 1, vs, by rw [impl_pairs.w64s HJ.out.1 (by have := HL0.out; omega)], ⟨by have := HJ.out; omega⟩, ⟨by rw [show (j + 1).toNat = j.toNat + 1 by omega, impl_pairs.st, hjn, if_neg (Int.not_lt.2 HP.out)]; exact HA.out⟩, HG, HB⟩
   ·have cj : decide (j < (l0.length : Int)) = false := decide_eq_false (by omega)
    have hsz : vs.length = 21 := by rw [HA.out.2.1, impl_pairs.st_len]
    have HSZ := Aside0.mk hsz
    have LJ := Aside0.mk (show j.toNat = l0.length by have := HJ.out; omega)
    clear hsz
    go_wp2_with (first | (refine wpList_load_row rfl 48 (.tmp 4) rfl (w.heap.size + 1) rfl 48 vs.toArray (0, 0) _ HA.out.1 Try.underlying48 rfl (by rw [List.size_toArray, HSZ.out]; exact impl_pairs.info42) ?_))
    go_loopg [28] 22 (fun kq v28 w' => ∃ m : Int, v28 = .int .i64 m ∧ Aside0 (0 ≤ m ∧ m ≤ 21 ∧ kq + m.toNat = 22) ∧ Aside0 (impl_pairs.okl (impl_pairs.st l0 l0.length) m.toNat = true) ∧ w' = wr)
    case atStart => exact ⟨0, rfl, ⟨by omega⟩, ⟨rfl⟩, rfl⟩
    case round =>
     obtain ⟨m, rfl, HM, HK, rfl⟩ := hrel
     cases gk with
     | zero => exact absurd HM.out (by omega)
     | succ k1 =>
      by_cases hm : m < 21
      ·have cm : decide (m < 21) = true := decide_eq_true hm
       have p3 : 0 ≤ m := HM.out.1
       have hn : m.toNat < vs.length := by rw [HSZ.out]; omega
       have hv : vs[m.toNat]? = some vs[m.toNat] := List.getElem?_eq_getElem hn
       generalize vs[m.toNat] = v at hv
       have hR := HA.out.2.2.1 _ _ hv
       obtain ⟨y, hy⟩ : ∃ y, y = (impl_pairs.st l0 j.toNat).getD m.toNat [] := ⟨_, rfl⟩
       rw [← hy] at hR
       obtain ⟨A, c, rfl⟩ := Kd.R_slice hR
       have Ny := Aside0.mk hy
       have HMM := Aside0.mk hm
       have HN := Aside0.mk hn
       clear hR hy hm hn
       replace p3 := eq_true p3
       have q3 : (m < 21) = True := eq_true HMM.out
       have hix := fun w_ => impl_pairs.ix (A := A) (n := y.length) (c := c) HM.out.1 HMM.out hv w_
       have HIX := Aside0.mk hix
       have HV := Aside0.mk hv
       by_cases h0 : (y.length : Int) = 0
       ·have b0 : ((y.length : Int) != 0) = false := bne_eq_false_iff_eq.mpr h0
        have H0 := Aside0.mk h0
        clear h0
        go_wp2
        go_roundg k1
        case measure => have := HM.out; omega
        case rel => exact ⟨m + 1, by rw [impl_pairs.w64s HM.out.1 (by have := HMM.out; omega)], ⟨by have := HM.out; have := HMM.out; omega⟩, ⟨by rw [show (m + 1).toNat = m.toNat + 1 by have := HM.out; omega, impl_pairs.okl, HK.out, Bool.true_and, ← LJ.out, ← Ny.out]; have e : y.length = 0 := (by have := H0.out; omega); rw [e]; rfl⟩, rfl⟩
       ·have b0 : ((y.length : Int) != 0) = true := bne_iff_ne.mpr h0
        by_cases h2 : (y.length : Int) = 2
        ·have b2 : ((y.length : Int) != 2) = false := bne_eq_false_iff_eq.mpr h2
         have H0 := Aside0.mk h2
         clear h2 h0
         go_wp2
         go_roundg k1
         case measure => have := HM.out; omega
         case rel => exact ⟨m + 1, by rw [impl_pairs.w64s HM.out.1 (by have := HMM.out; omega)], ⟨by have := HM.out; have := HMM.out; omega⟩, ⟨by rw [show (m + 1).toNat = m.toNat + 1 by have := HM.out; omega, impl_pairs.okl, HK.out, Bool.true_and, ← LJ.out, ← Ny.out]; have e : y.length = 2 := (by have := H0.out; omega); rw [e]; rfl⟩, rfl⟩
        ·have b2 : ((y.length : Int) != 2) = true := bne_iff_ne.mpr h2
         have H0 := Aside0.mk h0
         have H2 := Aside0.mk h2
         clear h2 h0
         go_wp2_with (first | (refine wpList_load_row rfl 48 (.tmp 4) rfl (w.heap.size + 1) rfl 48 vs.toArray (0, 0) _ HA.out.1 Try.underlying48 rfl (by rw [List.size_toArray, HSZ.out]; exact impl_pairs.info42) ?_) | (refine wpList_store_row rfl 48 (.tmp 2) (.tmp 39) rfl w.heap.size vs.toArray rfl rfl 48 _ HG.out (by rw [List.size_toArray, HSZ.out]; exact impl_pairs.info42) (by simp [HSZ.out]) (impl_pairs.one HA.out) ?_))
         (try simp only [Exit.inBlock, Exit.then])
         (refine bodyPost_ret (impl_pairs.res _ _ w.heap.size vs.toArray rfl (setRow_heap _ _ _ _ _ _ HG.out) (by simp [HSZ.out])) rfl ?_)
         exact impl_pairs.fin HA.out HG.out HB.out HSZ.out LJ.out _ (by have h0 := H0.out; have h2 := H2.out; rw [Ny.out, LJ.out] at h0 h2; exact (impl_pairs.bad h0 h2 21 (by have := HMM.out; have := HM.out; omega)).symm)
      ·have cm : decide (m < 21) = false := decide_eq_false hm
       have HMM := Aside0.mk hm
       clear hm
       go_wp2_with (first | (refine wpList_load_row rfl 48 (.tmp 4) rfl (w.heap.size + 1) rfl 48 vs.toArray (0, 0) _ HA.out.1 Try.underlying48 rfl (by rw [List.size_toArray, HSZ.out]; exact impl_pairs.info42) ?_) | (refine wpList_store_row rfl 48 (.tmp 2) (.tmp 41) rfl w.heap.size vs.toArray rfl rfl 48 _ HG.out (by rw [List.size_toArray, HSZ.out]; exact impl_pairs.info42) (by simp [HSZ.out]) (impl_pairs.one HA.out) ?_))
       (try simp only [Exit.inBlock, Exit.then])
       (refine bodyPost_ret (impl_pairs.res _ _ w.heap.size vs.toArray rfl (setRow_heap _ _ _ _ _ _ HG.out) (by simp [HSZ.out])) rfl ?_)
       exact impl_pairs.fin HA.out HG.out HB.out HSZ.out LJ.out _ (by have := HM.out; have := HMM.out; have e : m.toNat = 21 := (by omega); have hk := HK.out; rw [e] at hk; exact hk.symm)
theorem impl_pairs.oneR {w w' : World} {vs : List Value} {L : List (List Int)} (h : ∀ (n : Nat) (v : Value), vs[n]? = some v → (Kd.int .i64).R 3 w' w.heap.size (fun k => some k = v.ownBlock) v (L.getD n [])) : vs.toArray.all (·.oneCell') = true := by
 rw [List.all_toArray, List.all_eq_true]
 intro v hv
 obtain ⟨n, hn⟩ := List.getElem?_of_mem hv
 obtain ⟨A, c, rfl⟩ := Kd.R_slice (h n v hn)
 rfl
theorem below_setr {w W : World} {g : Nat} {cs : Array Value} (h : Below w.heap.size w W) (hg : w.heap.size ≤ g) : Below w.heap.size w (W.setRow g cs) :=
 h.trans ⟨rfl, rfl, rfl, by simp [World.setRow], fun k hk => setRow_other W g k _ (by omega)⟩
theorem impl_pairs.row_len : ∀ (k : Nat) (l s : List Int) (n i : Int), impl_IsRow.l0 k l s n i = some true → l.length ≤ 40
 | 0, _, _, _, _, h => by simp [impl_IsRow.l0] at h
 | k + 1, l, s, n, i, h => by
  unfold impl_IsRow.l0 at h
  split at h
  ·split at h
   ·split at h
    ·split at h
     ·simp at h
     ·split at h
      ·simp at h
      ·exact impl_pairs.row_len k l s n _ h
    ·simp at h
   ·simp at h
  ·simp at h
   omega
theorem impl_pairs.row_le : ∀ (k : Nat) (l : List Int) (i : Nat), l.length ≤ 40 → impl_IsRow.l0 k l l (l.length : Int) (i : Int) = some true → ∀ j : Nat, i ≤ j → j < l.length → rd l j ≤ 20
 | 0, _, _, _, h => by simp [impl_IsRow.l0] at h
 | k + 1, l, i, hl, h => by
  intro j h1 h2
  unfold impl_IsRow.l0 at h
  rw [if_pos (by omega), if_pos (by omega), if_pos (by omega), impl_pairs.w64s (by omega) (by omega)] at h
  split at h
  ·simp at h
  ·rename_i hlo
   split at h
   ·simp at h
   ·rename_i hc
    by_cases e : j = i
    ·subst e; omega
    ·exact impl_pairs.row_le k l (i + 1) hl (by simpa using h) j (by omega) h2
def impl_isPairs.f (k : Nat) (l0 : List Int) : Option Bool := (impl_IsRow.f k l0).bind fun t => if t = true then some (impl_pairs.okl (impl_pairs.st l0 l0.length) 21) else some false
theorem impl_isPairs.mono : ∀ a0 k, LeO (impl_isPairs.f k a0) (impl_isPairs.f (k + 1) a0) := by
 intro a0 k
 unfold impl_isPairs.f
 exact LeO.bind (impl_IsRow.mono _ _) (fun _ => LeO.refl _)
theorem impl_isPairs.row {k : Nat} {l0 : List Int} (h : impl_IsRow.f k l0 = some true) : l0.length ≤ 40 ∧ ∀ j : Nat, j < l0.length → rd l0 j ≤ 20 := by
 have h1 := impl_pairs.row_len k _ _ _ _ h
 exact ⟨h1, fun j hj => impl_pairs.row_le k l0 0 h1 h j (Nat.zero_le _) hj⟩
set_option maxHeartbeats 8000000 in
set_option maxRecDepth 100000 in
theorem impl_isPairs.calls (k : Nat) (A0 : Option Addr) (c0 : Nat) (l0 : List Int) (r : Bool) (w : World) (hr0 : Kd.C (Kd.int .i64) w A0 l0.length l0) (hc0 : l0.length ≤ c0) (h : impl_isPairs.f k l0 = some r) :
  Calls Try.prog 45 #[.slice A0 l0.length c0] w fun e w' => e = .returned (.bool r) ∧ Below w.heap.size w w' := by
 have HR0 := Aside0.mk hr0
 have HC0 := Aside0.mk hc0
 clear hr0 hc0
 have HB := Aside0.mk (Below.refl w.heap.size w)
 obtain ⟨t, ht, H⟩ := Option.bind_eq_some_iff.mp h
 clear h
 have A2 := Aside0.mk ht
 clear ht
 cases t with
 | false =>
  rw [if_neg (by decide)] at H
  obtain rfl := Option.some.inj H
  clear H
  go_enter Try.func45, Try.ntmps45
  go_wp2_with (first | ((with_reducible refine gate_callee (f := 82) rfl ?_); refine goesL_ (some 6) rfl rfl Try.func82 (by kernel_rfl) rfl #[.slice A0 l0.length c0] rfl (by (try simp only [List.map_toArray, List.map_cons, List.map_nil]); first | done | rfl | (simp only [List.length_drop, List.length_take]; rfl)) ?_; (with_reducible refine (impl_IsRow.calls k _ _ l0 _ _ ?side1 ?side2 A2.out).mono ?_); (case side1 => repeat (first | exact HR0.out | (with_reducible refine Kd.C_alloc ?_ _) | (with_reducible refine Kd.C_drewN ?_ _) | (with_reducible refine Kd.C_drew ?_))); (case side2 => exact HC0.out); rintro e w' ⟨rfl, ⟨nd, rfl⟩⟩; refine ⟨_, rfl, ?_⟩))
  go_ret
  exact ⟨rfl, by repeat (first | (with_reducible first | exact HB.out | apply below_alloc | apply pw_below_drewN | apply below_drew1) | exact HB.out)⟩
 | true =>
  rw [if_pos rfl] at H
  obtain rfl := Option.some.inj H
  clear H
  have ROW := Aside0.mk (impl_isPairs.row A2.out)
  go_enter Try.func45, Try.ntmps45
  go_wp2_with (first | ((with_reducible refine gate_callee (f := 82) rfl ?_); refine goesL_ (some 6) rfl rfl Try.func82 (by kernel_rfl) rfl #[.slice A0 l0.length c0] rfl (by (try simp only [List.map_toArray, List.map_cons, List.map_nil]); first | done | rfl | (simp only [List.length_drop, List.length_take]; rfl)) ?_; (with_reducible refine (impl_IsRow.calls k _ _ l0 _ _ ?side1 ?side2 A2.out).mono ?_); (case side1 => repeat (first | exact HR0.out | (with_reducible refine Kd.C_alloc ?_ _) | (with_reducible refine Kd.C_drewN ?_ _) | (with_reducible refine Kd.C_drew ?_))); (case side2 => exact HC0.out); rintro e w' ⟨rfl, ⟨nd, rfl⟩⟩; refine ⟨_, rfl, ?_⟩) | ((with_reducible refine gate_callee (f := 46) rfl ?_); refine goesL_ (some 10) rfl rfl Try.func46 (by kernel_rfl) rfl #[.slice A0 l0.length c0] rfl (by (try simp only [List.map_toArray, List.map_cons, List.map_nil]); first | done | rfl | (simp only [List.length_drop, List.length_take]; rfl)) ?_; (with_reducible refine (impl_pairs.calls _ _ l0 _ ?side1 ?side2 ROW.out.2 ROW.out.1).mono ?_); (case side1 => repeat (first | exact HR0.out | exact (Kd.C_below HR0.out HB.out) | (with_reducible refine Kd.C_alloc ?_ _) | (with_reducible refine Kd.C_drewN ?_ _) | (with_reducible refine Kd.C_drew ?_))); (case side2 => exact HC0.out); rintro e w5 ⟨vs, rfl, hsz, hrows, hb⟩; refine ⟨_, rfl, ?_⟩; have HSZ := Aside0.mk hsz; have HROWS := Aside0.mk hrows; have HONE := Aside0.mk (impl_pairs.oneR hrows); have n0_ := Aside0.mk (below_step (by repeat (first | (with_reducible first | exact HB.out | apply below_alloc | apply pw_below_drewN | apply below_drew1) | exact HB.out)) hb); clear HB; have HB := n0_; clear n0_ hsz hrows hb) | (refine wpList_store_row rfl 48 (.tmp 3) (.tmp 11) rfl w5.heap.size vs.toArray rfl rfl 48 _ (heap_alloc_new _ _) (by rw [List.size_toArray, HSZ.out]; exact impl_pairs.info42) (by simp [HSZ.out]) HONE.out ?_))
  go_ret
  exact ⟨rfl, below_setr (by repeat (first | (with_reducible first | exact HB.out | apply below_alloc | apply pw_below_drewN | apply below_drew1) | exact HB.out)) (below_size (by repeat (first | (with_reducible first | exact HB.out | apply below_alloc | apply pw_below_drewN | apply below_drew1) | exact HB.out)))⟩

/-- The array is stored into a block of the call's own: what is known of the world behind it. -/
theorem impl_pairs.stored {ops : Array Oper} {rest : List Oper} {o : Oper} {a : Act} {Q : Exit → Act → World → Prop} {w w5 : World} {vs : List Value} {L : List (List Int)} (hgd : o.guard = none) (x y : Operand) (ho : o.op = .store 48 x y)
  (zs : Array Value) (hx : a.eval x = .pointer (some ⟨w5.heap.size, 0, none⟩)) (hy : a.eval y = .agg vs.toArray) (hz : zs.size = 21) (hs : vs.length = 21) (h1 : vs.toArray.all (·.oneCell') = true)
  (hr : ∀ (n : Nat) (v : Value), vs[n]? = some v → (Kd.int .i64).R 3 w5 w.heap.size (fun k => some k = v.ownBlock) v (L.getD n []))
  (h : ∀ W6, Below w5.heap.size w5 W6 → W6.heap[w5.heap.size]? = some (.cells vs.toArray 48 (0, 0)) → (∀ (n : Nat) (v : Value), vs[n]? = some v → (Kd.int .i64).R 3 W6 w.heap.size (fun k => some k = v.ownBlock) v (L.getD n [])) → wpList Try.prog ops Q rest (a.put o.dst undef) W6) :
  wpList Try.prog ops Q (o :: rest) a (w5.alloc (.cells zs 48 (0, 0))) := by
 have hb : Below w5.heap.size w5 ((w5.alloc (.cells zs 48 (0, 0))).setRow w5.heap.size vs.toArray) := below_setr (below_alloc (Below.refl _ _) _) (Nat.le_refl _)
 exact wpList_store_row hgd 48 x y ho w5.heap.size vs.toArray hx hy 48 _ (heap_alloc_new _ _) (by rw [List.size_toArray, hs]; exact impl_pairs.info42) (by rw [hz, List.size_toArray, hs]) h1
  (h _ hb (setRow_heap _ _ _ _ _ _ (heap_alloc_new _ _)) (fun n v hv => Kd.R_below (hr n v hv) hb))
theorem impl_pairs.two {L : List (List Int)} : ∀ k, impl_pairs.okl L k = true → ∀ n, n < k → (L.getD n []).length = 0 ∨ (L.getD n []).length = 2
 | 0, _, n, h => absurd h (by omega)
 | k + 1, h, n, hn => by
  simp only [impl_pairs.okl, Bool.and_eq_true, Bool.or_eq_true, beq_iff_eq] at h
  by_cases e : n = k
  ·subst e; exact h.2
  ·exact impl_pairs.two k h.1 n (by omega)
theorem impl_isPairs.tt {k : Nat} {l0 : List Int} (h : impl_isPairs.f k l0 = some true) : impl_IsRow.f k l0 = some true ∧ impl_pairs.okl (impl_pairs.st l0 l0.length) 21 = true := by
 obtain ⟨t, ht, H⟩ := Option.bind_eq_some_iff.mp h
 cases t with
 | false => simp at H
 | true => exact ⟨ht, by simpa using H⟩

/-! ### impl_fits: function 86 -/
def impl_fits.chk (L : List (List Int)) (a1 : Int) : Nat → Bool
 | 0 => true
 | n + 1 => impl_fits.chk L a1 n && !((L.getD n []).length == 2 && !(wrap64 (rd (L.getD n []) 1 - rd (L.getD n []) 0) == wrap64 ((n : Int) + a1)))
def impl_fits.f (k : Nat) (l0 : List Int) (a1 : Int) : Option Bool := (impl_isPairs.f k l0).bind fun t => if t = true then some (impl_fits.chk (impl_pairs.st l0 l0.length) a1 21) else some false
theorem impl_fits.mono : ∀ a0 a1 k, LeO (impl_fits.f k a0 a1) (impl_fits.f (k + 1) a0 a1) := by
 intro a0 a1 k
 unfold impl_fits.f
 exact LeO.bind (impl_isPairs.mono _ _) (fun _ => LeO.refl _)
theorem impl_fits.bad {L : List (List Int)} {a1 : Int} {n : Nat} (h0 : (L.getD n []).length = 2) (h2 : ¬ wrap64 (rd (L.getD n []) 1 - rd (L.getD n []) 0) = wrap64 ((n : Int) + a1)) : ∀ k, n < k → impl_fits.chk L a1 k = false
 | 0, h => absurd h (by omega)
 | k + 1, h => by
  by_cases c : n = k
  ·subst c
   rw [impl_fits.chk, h0, beq_eq_false_iff_ne.2 h2]
   simp
  ·rw [impl_fits.chk, impl_fits.bad h0 h2 k (by omega)]; rfl
set_option maxHeartbeats 8000000 in
set_option maxRecDepth 100000 in
theorem impl_fits.calls (k : Nat) (A0 : Option Addr) (c0 : Nat) (l0 : List Int) (a1 : Int) (r : Bool) (w : World) (hr0 : Kd.C (Kd.int .i64) w A0 l0.length l0) (hc0 : l0.length ≤ c0) (h : impl_fits.f k l0 a1 = some r) :
  Calls Try.prog 86 #[.slice A0 l0.length c0, .int .i64 a1] w fun e w' => e = .returned (.bool r) ∧ Below w.heap.size w w' := by
 have HR0 := Aside0.mk hr0
 have HC0 := Aside0.mk hc0
 clear hr0 hc0
 have HB := Aside0.mk (Below.refl w.heap.size w)
 obtain ⟨t, ht, H⟩ := Option.bind_eq_some_iff.mp h
 clear h
 have A2 := Aside0.mk ht
 clear ht
 cases t with
 | false =>
  rw [if_neg (by decide)] at H
  obtain rfl := Option.some.inj H
  clear H
  go_enter Try.func86, Try.ntmps86
  go_wp2_with (first | ((with_reducible refine gate_callee (f := 45) rfl ?_); refine goesL_ (some 10) rfl rfl Try.func45 (by kernel_rfl) rfl #[.slice A0 l0.length c0] rfl (by (try simp only [List.map_toArray, List.map_cons, List.map_nil]); first | done | rfl | (simp only [List.length_drop, List.length_take]; rfl)) ?_; (with_reducible refine (impl_isPairs.calls k _ _ l0 _ _ ?side1 ?side2 A2.out).mono ?_); (case side1 => repeat (first | exact HR0.out | exact (Kd.C_below HR0.out HB.out) | (with_reducible refine Kd.C_alloc ?_ _) | (with_reducible refine Kd.C_drewN ?_ _) | (with_reducible refine Kd.C_drew ?_))); (case side2 => exact HC0.out); rintro e w4 ⟨rfl, hb⟩; refine ⟨_, rfl, ?_⟩; have n0_ := Aside0.mk (below_step (by repeat (first | (with_reducible first | exact HB.out | apply below_alloc | apply pw_below_drewN | apply below_drew1) | exact HB.out)) hb); clear HB; have HB := n0_; clear n0_; (try clear hb)))
  repeat (go_quiet (first | ((with_reducible refine gate_callee (f := 45) rfl ?_); refine goesL_ (some 10) rfl rfl Try.func45 (by kernel_rfl) rfl #[.slice A0 l0.length c0] rfl (by (try simp only [List.map_toArray, List.map_cons, List.map_nil]); first | done | rfl | (simp only [List.length_drop, List.length_take]; rfl)) ?_; (with_reducible refine (impl_isPairs.calls k _ _ l0 _ _ ?side1 ?side2 A2.out).mono ?_); (case side1 => repeat (first | exact HR0.out | exact (Kd.C_below HR0.out HB.out) | (with_reducible refine Kd.C_alloc ?_ _) | (with_reducible refine Kd.C_drewN ?_ _) | (with_reducible refine Kd.C_drew ?_))); (case side2 => exact HC0.out); rintro e w4 ⟨rfl, hb⟩; refine ⟨_, rfl, ?_⟩; have n0_ := Aside0.mk (below_step (by repeat (first | (with_reducible first | exact HB.out | apply below_alloc | apply pw_below_drewN | apply below_drew1) | exact HB.out)) hb); clear HB; have HB := n0_; clear n0_; (try clear hb))); try go_wp2_with (first | ((with_reducible refine gate_callee (f := 45) rfl ?_); refine goesL_ (some 10) rfl rfl Try.func45 (by kernel_rfl) rfl #[.slice A0 l0.length c0] rfl (by (try simp only [List.map_toArray, List.map_cons, List.map_nil]); first | done | rfl | (simp only [List.length_drop, List.length_take]; rfl)) ?_; (with_reducible refine (impl_isPairs.calls k _ _ l0 _ _ ?side1 ?side2 A2.out).mono ?_); (case side1 => repeat (first | exact HR0.out | exact (Kd.C_below HR0.out HB.out) | (with_reducible refine Kd.C_alloc ?_ _) | (with_reducible refine Kd.C_drewN ?_ _) | (with_reducible refine Kd.C_drew ?_))); (case side2 => exact HC0.out); rintro e w4 ⟨rfl, hb⟩; refine ⟨_, rfl, ?_⟩; have n0_ := Aside0.mk (below_step (by repeat (first | (with_reducible first | exact HB.out | apply below_alloc | apply pw_below_drewN | apply below_drew1) | exact HB.out)) hb); clear HB; have HB := n0_; clear n0_; (try clear hb))))
  go_ret
  exact ⟨rfl, by repeat (first | (with_reducible first | exact HB.out | apply below_alloc | apply pw_below_drewN | apply below_drew1) | exact HB.out)⟩
 | true =>
  rw [if_pos rfl] at H
  have HE := Aside0.mk (Option.some.inj H)
  clear H
  have TT := Aside0.mk (impl_isPairs.tt A2.out)
  have ROW := Aside0.mk (impl_isPairs.row TT.out.1)
  go_enter Try.func86, Try.ntmps86
  go_wp2_with (first | ((with_reducible refine gate_callee (f := 45) rfl ?_); refine goesL_ (some 10) rfl rfl Try.func45 (by kernel_rfl) rfl #[.slice A0 l0.length c0] rfl (by (try simp only [List.map_toArray, List.map_cons, List.map_nil]); first | done | rfl | (simp only [List.length_drop, List.length_take]; rfl)) ?_; (with_reducible refine (impl_isPairs.calls k _ _ l0 _ _ ?side1 ?side2 A2.out).mono ?_); (case side1 => repeat (first | exact HR0.out | exact (Kd.C_below HR0.out HB.out) | (with_reducible refine Kd.C_alloc ?_ _) | (with_reducible refine Kd.C_drewN ?_ _) | (with_reducible refine Kd.C_drew ?_))); (case side2 => exact HC0.out); rintro e w4 ⟨rfl, hb⟩; refine ⟨_, rfl, ?_⟩; have n0_ := Aside0.mk (below_step (by repeat (first | (with_reducible first | exact HB.out | apply below_alloc | apply pw_below_drewN | apply below_drew1) | exact HB.out)) hb); clear HB; have HB := n0_; clear n0_; (try clear hb)) | ((with_reducible refine gate_callee (f := 46) rfl ?_); refine goesL_ (some 14) rfl rfl Try.func46 (by kernel_rfl) rfl #[.slice A0 l0.length c0] rfl (by (try simp only [List.map_toArray, List.map_cons, List.map_nil]); first | done | rfl | (simp only [List.length_drop, List.length_take]; rfl)) ?_; (with_reducible refine (impl_pairs.calls _ _ l0 _ ?side1 ?side2 ROW.out.2 ROW.out.1).mono ?_); (case side1 => repeat (first | exact HR0.out | exact (Kd.C_below HR0.out HB.out) | (with_reducible refine Kd.C_alloc ?_ _) | (with_reducible refine Kd.C_drewN ?_ _) | (with_reducible refine Kd.C_drew ?_))); (case side2 => exact HC0.out); rintro e w5 ⟨vs, rfl, hsz, hrows, hb⟩; refine ⟨_, rfl, ?_⟩; have HSZ := Aside0.mk hsz; have HROWS := Aside0.mk hrows; have HONE := Aside0.mk (impl_pairs.oneR hrows); have n0_ := Aside0.mk (below_step (by repeat (first | (with_reducible first | exact HB.out | apply below_alloc | apply pw_below_drewN | apply below_drew1) | exact HB.out)) hb); clear HB; have HB := n0_; clear n0_ hsz hrows hb) | (refine impl_pairs.stored (w5 := w5) rfl (.tmp 5) (.tmp 15) rfl _ rfl rfl rfl HSZ.out HONE.out HROWS.out ?_; intro W6 hb6 hg6 hr6; have n0_ := Aside0.mk (below_step HB.out hb6); clear HB; have HB := n0_; clear n0_ hb6; have HG6 := Aside0.mk hg6; have HR6 := Aside0.mk hr6; clear hg6 hr6) | (refine wpList_load_row rfl 48 (.tmp 5) rfl w5.heap.size rfl 48 vs.toArray (0, 0) _ HG6.out Try.underlying48 rfl (by rw [List.size_toArray, HSZ.out]; exact impl_pairs.info42) ?_))
  go_loopg [18] 22 (fun kq v18 w' => ∃ m : Int, v18 = .int .i64 m ∧ Aside0 (0 ≤ m ∧ m ≤ 21 ∧ kq + m.toNat = 22) ∧ Aside0 (impl_fits.chk (impl_pairs.st l0 l0.length) a1 m.toNat = true) ∧ Drawn0 W6 w')
  case atStart => exact ⟨0, rfl, ⟨by omega⟩, ⟨rfl⟩, by repeat (first | exact Drawn0.refl _ | apply Drawn0.step)⟩
  case round =>
   obtain ⟨m, rfl, HM, HK, ⟨m1, rfl⟩⟩ := hrel
   cases gk with
   | zero => exact absurd HM.out (by omega)
   | succ k1 =>
    by_cases hm : m < 21
    ·have cm : decide (m < 21) = true := decide_eq_true hm
     have p3 : 0 ≤ m := HM.out.1
     have hn : m.toNat < vs.length := by rw [HSZ.out]; omega
     have hv : vs[m.toNat]? = some vs[m.toNat] := List.getElem?_eq_getElem hn
     generalize vs[m.toNat] = v at hv
     have hR := HR6.out _ _ hv
     obtain ⟨y, hy⟩ : ∃ y, y = (impl_pairs.st l0 l0.length).getD m.toNat [] := ⟨_, rfl⟩
     rw [← hy] at hR
     obtain ⟨A, c, rfl⟩ := Kd.R_slice hR
     have Ny := Aside0.mk hy
     have HMM := Aside0.mk hm
     have HN := Aside0.mk hn
     have HR := Aside0.mk hR
     clear hR hy hm hn
     replace p3 := eq_true p3
     have q3 : (m < 21) = True := eq_true HMM.out
     have hix := fun w_ => impl_pairs.ix (A := A) (n := y.length) (c := c) HM.out.1 HMM.out hv w_
     have HV := Aside0.mk hv
     by_cases h0 : (y.length : Int) = 2
     ·have b0 : ((y.length : Int) == 2) = true := beq_iff_eq.mpr h0
      have H2 := Aside0.mk h0
      clear h0
      have p126 : 0 ≤ (0 : Int) := (by omega); have q126 : 0 < (y.length : Int) := (by have := H2.out; omega); obtain ⟨ad126, e126, hx126_0⟩ := Kd.at_int (Kd.R_reads' HR.out).2.2 0 p126 q126; cases e126; have qi126 : (0 < y.length) = True := eq_true (by omega); (try rw [show ((0 : Int)).toNat = 0 from rfl] at hx126_0); (try rw [Addr.add_zero'] at hx126_0); replace p126 := eq_true p126; replace q126 := eq_true q126; have p127 : 0 ≤ (1 : Int) := (by omega); have q127 : 1 < (y.length : Int) := (by have := H2.out; omega); obtain ⟨ad127, e127, hx127_0⟩ := Kd.at_int (Kd.R_reads' HR.out).2.2 1 p127 q127; obtain rfl : ad126 = ad127 := (by injection e127); (try simp only [show (1 : Int).toNat = 1 from rfl, Nat.reduceMul, Nat.reduceEqDiff, Go.Addr.add, ↓reduceIte] at hx127_0); have qi127 : (1 < y.length) = True := eq_true (by omega); (try rw [show ((1 : Int)).toNat = 1 from rfl] at hx127_0); replace p127 := eq_true p127; replace q127 := eq_true q127
      by_cases hd : wrap64 (rd y 1 - rd y 0) = wrap64 (m + a1)
      ·have bd : (wrap64 (rd y 1 - rd y 0) != wrap64 (m + a1)) = false := bne_eq_false_iff_eq.mpr hd
       have HD := Aside0.mk hd
       clear hd
       go_wp2
       repeat (go_quiet (fail); try go_wp2)
       go_roundg k1
       case measure => have := HM.out; omega
       case rel => exact ⟨m + 1, by rw [impl_pairs.w64s HM.out.1 (by have := HMM.out; omega)], ⟨by have := HM.out; have := HMM.out; omega⟩, ⟨by rw [show (m + 1).toNat = m.toNat + 1 by have := HM.out; omega, impl_fits.chk, HK.out, Bool.true_and, ← Ny.out, Int.toNat_of_nonneg HM.out.1, beq_iff_eq.2 HD.out]; simp⟩, by repeat (first | exact Drawn0.refl _ | apply Drawn0.step)⟩
      ·have bd : (wrap64 (rd y 1 - rd y 0) != wrap64 (m + a1)) = true := bne_iff_ne.mpr hd
       have HD := Aside0.mk hd
       clear hd
       go_wp2
       repeat (go_quiet (fail); try go_wp2)
       go_ret
       exact ⟨by rw [← HE.out, impl_fits.bad (n := m.toNat) (by rw [← Ny.out]; have := H2.out; omega) (by rw [← Ny.out, Int.toNat_of_nonneg HM.out.1]; exact HD.out) 21 (by have := HM.out; have := HMM.out; omega)]; rfl, by repeat (first | (with_reducible first | exact HB.out | apply below_alloc | apply pw_below_drewN | apply below_drew1) | exact HB.out)⟩
     ·have b0 : ((y.length : Int) == 2) = false := beq_eq_false_iff_ne.mpr h0
      have H2 := Aside0.mk h0
      clear h0
      go_wp2
      repeat (go_quiet (fail); try go_wp2)
      go_roundg k1
      case measure => have := HM.out; omega
      case rel => exact ⟨m + 1, by rw [impl_pairs.w64s HM.out.1 (by have := HMM.out; omega)], ⟨by have := HM.out; have := HMM.out; omega⟩, ⟨by rw [show (m + 1).toNat = m.toNat + 1 by have := HM.out; omega, impl_fits.chk, HK.out, Bool.true_and, ← Ny.out, beq_eq_false_iff_ne.2 (show ¬ y.length = 2 by have := H2.out; omega)]; rfl⟩, by repeat (first | exact Drawn0.refl _ | apply Drawn0.step)⟩
    ·have cm : decide (m < 21) = false := decide_eq_false hm
     have HMM := Aside0.mk hm
     clear hm
     go_wp2
     go_ret
     exact ⟨by rw [← HE.out, show (21 : Nat) = m.toNat by have := HM.out; have := HMM.out; omega, HK.out]; rfl, by repeat (first | (with_reducible first | exact HB.out | apply below_alloc | apply pw_below_drewN | apply below_drew1) | exact HB.out)⟩

/-! ### impl_holes: function 87 -/
def impl_holes.l0 : Nat → List Int → List Int → Int → Int → Option (List Int)
 | 0, _, _, _, _ => none
 | k + 1, x3, x6, x7, x8 => if x8 < x7 then (if 0 ≤ x8 then (if x8 < (x6.length : Int) then (if (rd x6 x8) = 0 then (if x3.length < 17592186044416 then (impl_holes.l0 k (x3 ++ [x8]) x6 x7 (wrap64 (x8 + 1))) else (none)) else (impl_holes.l0 k x3 x6 x7 (wrap64 (x8 + 1)))) else (none)) else (none)) else (some x3)
def impl_holes.f (k : Nat) (l0 : List Int) : Option (List Int) := impl_holes.l0 k ([] : List Int) l0 (l0.length : Int) 0
theorem impl_holes.mono_l : ∀ k, (∀ y0 y1 y2 y3, LeO (impl_holes.l0 k y0 y1 y2 y3) (impl_holes.l0 (k + 1) y0 y1 y2 y3))
 | 0 => fun _ _ _ _ r h => by simp [impl_holes.l0] at h
 | k + 1 => by
  have ih0 := impl_holes.mono_l k
  ·intro y0 y1 y2 y3
   unfold impl_holes.l0
   repeat' first
   | (with_reducible exact ih0 _ _ _ _)
   | (with_reducible exact LeO.refl _)
   | (with_reducible exact LeO.none _)
   | (with_reducible refine LeO.ite ?_ ?_)
   | (with_reducible refine LeO.bind ?_ (fun _ => ?_))
   | exact ih0 _ _ _ _
   | exact LeO.none _
   | refine LeO.ite ?_ ?_
   | refine LeO.bind ?_ (fun _ => ?_)
theorem impl_holes.mono : ∀ a0 k, LeO (impl_holes.f k a0) (impl_holes.f (k + 1) a0) := by
 intro a0 k
 have ih0 := impl_holes.mono_l k
 unfold impl_holes.f
 repeat' first
   | (with_reducible exact ih0 _ _ _ _)
   | (with_reducible exact LeO.refl _)
   | (with_reducible exact LeO.none _)
   | (with_reducible refine LeO.ite ?_ ?_)
   | (with_reducible refine LeO.bind ?_ (fun _ => ?_))
   | exact ih0 _ _ _ _
   | exact LeO.none _
   | refine LeO.ite ?_ ?_
   | refine LeO.bind ?_ (fun _ => ?_)
set_option maxHeartbeats 8000000 in
set_option maxRecDepth 100000 in
theorem impl_holes.calls (k : Nat) (A0 : Option Addr) (c0 : Nat) (l0 : List Int) (r : List Int) (w : World) (hr0 : Kd.C (Kd.int .i64) w A0 l0.length l0) (hc0 : l0.length ≤ c0) (h : impl_holes.f k l0 = some r) :
  Calls Try.prog 87 #[.slice A0 l0.length c0] w fun e w' => ∃ v0_ : Value, e = .returned (v0_) ∧ Kd.R (Kd.int .i64) 3 w' w.heap.size (fun _ => True) v0_ r ∧ Below w.heap.size w w' := by
 have HR0 := Aside0.mk hr0
 have HC0 := Aside0.mk hc0
 clear hr0 hc0
 have HB := Aside0.mk (Below.refl w.heap.size w)
 have H : (impl_holes.l0 k ([] : List Int) l0 (l0.length : Int) 0) = some r := h
 clear h
 have H' := Aside0.mk H
 clear H
 go_enter Try.func87, Try.ntmps87
 go_wp2
 go_loopg [3, 8] k (fun kq v3 v8 w' => ∃ (x3_1 : List Int) (x8_1 : Int), v8 = .int .i64 x8_1 ∧ Aside0 (impl_holes.l0 kq x3_1 l0 (l0.length : Int) x8_1 = some r) ∧ Aside0 (kq ≤ k) ∧ Aside0 (Kd.R (Kd.int .i64) 3 w' w.heap.size (fun _ => True) v3 x3_1) ∧ Aside0 (Below w.heap.size w w'))
 case atStart => exact ⟨(([] : List Int)), (0), (by first | rfl | (simp; done) | (simp [*]; done)), H', ⟨Nat.le_refl _⟩, ⟨by first | exact Kd.R_nil _ _ _ _ _ | exact Kd.N_nil _ _ _ _ _ | exact Kd.V_nil _ _ _ _ _ | exact Kd.Q_nil _ _ _ _ _ | exact Kd.S_nil _ _ _ _ _⟩, ⟨by repeat (first | (with_reducible first | exact HB.out | apply below_alloc | apply pw_below_drewN | apply below_drew1) | exact HB.out)⟩⟩
 case round =>
  clear H'
  obtain ⟨x3_1, x8_1, rfl, HA, HK1, HO_3, HB⟩ := hrel
  cases gk with
  | zero => exact absurd HA.out (by simp [impl_holes.l0])
  | succ k1 =>
   have H := HA.out
   clear HA
   simp only [impl_holes.l0] at H
   by_cases c2 : x8_1 < (l0.length : Int)
   ·rw [if_pos c2] at H
    have c2b0 : decide (x8_1 < (l0.length : Int)) = true := decide_eq_true c2
    clear c2
    by_cases c3 : 0 ≤ x8_1
    ·rw [if_pos c3] at H
     have c3b0 : decide (0 ≤ x8_1) = true := decide_eq_true c3
     clear c3
     by_cases c4 : x8_1 < (l0.length : Int)
     ·rw [if_pos c4] at H
      have c4b0 : decide (x8_1 < (l0.length : Int)) = true := decide_eq_true c4
      clear c4
      by_cases c5 : (rd l0 x8_1) = 0
      ·rw [if_pos c5] at H
       have c5b0 : ((rd l0 x8_1) == 0) = true := beq_iff_eq.mpr c5
       have c5b1 : ((rd l0 x8_1) != 0) = false := bne_eq_false_iff_eq.mpr c5
       clear c5
       by_cases c6 : x3_1.length < 17592186044416
       ·rw [if_pos c6] at H
        have LMc6 := Aside0.mk c6
        clear c6
        obtain ⟨y244, hy244⟩ : ∃ y_ : List Int, y_ = (x3_1 ++ [x8_1]) := ⟨_, rfl⟩
        replace H : (impl_holes.l0 k1 y244 l0 (l0.length : Int) (wrap64 (x8_1 + 1))) = some r := by first | (rw [hy244]; with_reducible exact H) | (have H2_ := (Option.bind_some _ _).symm.trans H; rw [hy244]; with_reducible exact H2_) | (have H2_ := (Option.bind_some _ _).symm.trans H; with_reducible exact H2_) | with_reducible exact H | (rw [hy244]; exact H) | exact H
        have Ny244 := Aside0.mk hy244
        clear hy244
        have H' := Aside0.mk H
        clear H
        have p243 : 0 ≤ (x8_1 : Int) := of_decide_eq_true (by first | (with_reducible assumption) | assumption)
        have q243 : x8_1 < (l0.length : Int) := of_decide_eq_true (by first | (with_reducible assumption) | assumption)
        obtain ⟨ad243, e243, hx243_0⟩ := Kd.at_int HR0.out x8_1 p243 q243
        cases e243
        replace hx243_0 := (HB.out.cell (World.block_lt_of_cell? w _ hx243_0)).trans hx243_0
        replace p243 := eq_true p243
        replace q243 := eq_true q243
        go_wp2_with (first | ((with_reducible refine gate_builtin (b := .append) (xs := #[.tmp 15, .tmp 17]) rfl ?_); at_builtin; refine Kd.R_append (Kd.int .i64) (w0 := w) w.heap.size rfl (.tmp 15) (.tmp 17) 22 3 (.int .i64 0) 8 rfl Try.underlying22 info3 rfl (by decide) (by omega) u3 x3_1 x8_1 [.int .i64 x8_1] (fun _ => True) (fun _ => False) rfl rfl ?aP (fun _ hk => hk.elim) ?aF ?aO ?aB ?aS ?aL ?_; (case aP => exact rfl); (case aB => exact (by repeat (first | (with_reducible first | exact HB.out | apply below_alloc | apply pw_below_drewN | apply below_drew1) | exact HB.out))); (case aF => exact (fun _ _ => trivial)); (case aO => exact (by (with_reducible repeat (first | apply Kd.R_alloc | apply Kd.R_drewN | apply Kd.R_drew)); exact HO_3.out)); (case aS => exact (below_size (by repeat (first | (with_reducible first | exact HB.out | apply below_alloc | apply pw_below_drewN | apply below_drew1) | exact HB.out)))); (case aL => have := LMc6.out; omega); intro v245 w7 ho hb hg hat; rw [← Ny244.out] at ho; have n0_ := Aside0.mk (hb); have n1_ := Aside0.mk (ho); clear HB; clear HO_3; have HB := n0_; have HO246 := n1_; clear n0_ n1_; clear ho hb hg hat))
        go_roundg k1
        case measure => have := HK1.out; omega
        case rel => exact ⟨(y244), (wrap64 (x8_1 + 1)), (by first | rfl | (simp; done) | (simp [*]; done)), H', ⟨by have := HK1.out; omega⟩, ⟨by (with_reducible repeat (first | apply Kd.R_alloc | apply Kd.R_drewN | apply Kd.R_drew)); exact HO246.out⟩, ⟨by repeat (first | (with_reducible first | exact HB.out | apply below_alloc | apply pw_below_drewN | apply below_drew1) | exact HB.out)⟩⟩
       ·rw [if_neg c6] at H
        exact absurd H (by simp)
      ·rw [if_neg c5] at H
       have c5b0 : ((rd l0 x8_1) == 0) = false := beq_eq_false_iff_ne.mpr c5
       have c5b1 : ((rd l0 x8_1) != 0) = true := bne_iff_ne.mpr c5
       have H' := Aside0.mk H
       clear H
       have p243 : 0 ≤ (x8_1 : Int) := of_decide_eq_true (by first | (with_reducible assumption) | assumption)
       have q243 : x8_1 < (l0.length : Int) := of_decide_eq_true (by first | (with_reducible assumption) | assumption)
       obtain ⟨ad243, e243, hx243_0⟩ := Kd.at_int HR0.out x8_1 p243 q243
       cases e243
       replace hx243_0 := (HB.out.cell (World.block_lt_of_cell? w _ hx243_0)).trans hx243_0
       replace p243 := eq_true p243
       replace q243 := eq_true q243
       go_wp2
       go_roundg k1
       case measure => have := HK1.out; omega
       case rel => exact ⟨(x3_1), (wrap64 (x8_1 + 1)), (by first | rfl | (simp; done) | (simp [*]; done)), H', ⟨by have := HK1.out; omega⟩, ⟨by (with_reducible repeat (first | apply Kd.R_alloc | apply Kd.R_drewN | apply Kd.R_drew)); exact HO_3.out⟩, ⟨by repeat (first | (with_reducible first | exact HB.out | apply below_alloc | apply pw_below_drewN | apply below_drew1) | exact HB.out)⟩⟩
     ·rw [if_neg c4] at H
      exact absurd H (by simp)
    ·rw [if_neg c3] at H
     exact absurd H (by simp)
   ·rw [if_neg c2] at H
    have c2b0 : decide (x8_1 < (l0.length : Int)) = false := decide_eq_false c2
    clear c2
    obtain rfl := Option.some.inj H
    go_wp2
    go_ret
    exact ⟨_, by first | rfl | (simp [errW_none, errW_some] <;> rfl) | (simp [*, errW_none, errW_some] <;> rfl), by (with_reducible repeat (first | apply Kd.R_alloc | apply Kd.R_drewN | apply Kd.R_drew)); exact HO_3.out, by repeat (first | (with_reducible first | exact HB.out | apply below_alloc | apply pw_below_drewN | apply below_drew1) | exact HB.out)⟩

/-! ### slices_Index_int_int: function 112 -/
def slices_Index_int_int.l0 : Nat → List Int → Int → Int → Int → Option (Int)
 | 0, _, _, _, _ => none
 | k + 1, x0, x1, x7, x8 => if x8 < x7 then (if 0 ≤ x8 then (if x8 < (x0.length : Int) then (if x1 = (rd x0 x8) then (some x8) else (slices_Index_int_int.l0 k x0 x1 x7 (wrap64 (x8 + 1)))) else (none)) else (none)) else (some (-1))
def slices_Index_int_int.f (k : Nat) (l0 : List Int) (a1 : Int) : Option (Int) := slices_Index_int_int.l0 k l0 a1 (l0.length : Int) 0
theorem slices_Index_int_int.mono_l : ∀ k, (∀ y0 y1 y2 y3, LeO (slices_Index_int_int.l0 k y0 y1 y2 y3) (slices_Index_int_int.l0 (k + 1) y0 y1 y2 y3))
 | 0 => fun _ _ _ _ r h => by simp [slices_Index_int_int.l0] at h
 | k + 1 => by
  have ih0 := slices_Index_int_int.mono_l k
  ·intro y0 y1 y2 y3
   unfold slices_Index_int_int.l0
   repeat' first
   | (with_reducible exact ih0 _ _ _ _)
   | (with_reducible exact LeO.refl _)
   | (with_reducible exact LeO.none _)
   | (with_reducible refine LeO.ite ?_ ?_)
   | (with_reducible refine LeO.bind ?_ (fun _ => ?_))
   | exact ih0 _ _ _ _
   | exact LeO.none _
   | refine LeO.ite ?_ ?_
   | refine LeO.bind ?_ (fun _ => ?_)
theorem slices_Index_int_int.mono : ∀ a0 a1 k, LeO (slices_Index_int_int.f k a0 a1) (slices_Index_int_int.f (k + 1) a0 a1) := by
 intro a0 a1 k
 have ih0 := slices_Index_int_int.mono_l k
 unfold slices_Index_int_int.f
 repeat' first
   | (with_reducible exact ih0 _ _ _ _)
   | (with_reducible exact LeO.refl _)
   | (with_reducible exact LeO.none _)
   | (with_reducible refine LeO.ite ?_ ?_)
   | (with_reducible refine LeO.bind ?_ (fun _ => ?_))
   | exact ih0 _ _ _ _
   | exact LeO.none _
   | refine LeO.ite ?_ ?_
   | refine LeO.bind ?_ (fun _ => ?_)
set_option maxHeartbeats 8000000 in
set_option maxRecDepth 100000 in
theorem slices_Index_int_int.calls (k : Nat) (A0 : Option Addr) (c0 : Nat) (l0 : List Int) (a1 : Int) (r : Int) (w : World) (hr0 : Kd.C (Kd.int .i64) w A0 l0.length l0) (hc0 : l0.length ≤ c0) (h : slices_Index_int_int.f k l0 a1 = some r) :
  Calls Try.prog 112 #[.slice A0 l0.length c0, .int .i64 a1] w fun e w' => e = .returned (.int .i64 r) ∧ Drawn0 w w' := by
 have HR0 := Aside0.mk hr0
 have HC0 := Aside0.mk hc0
 clear hr0 hc0
 have H : (slices_Index_int_int.l0 k l0 a1 (l0.length : Int) 0) = some r := h
 clear h
 have H' := Aside0.mk H
 clear H
 go_enter Try.func112, Try.ntmps112
 go_wp2
 go_loopg [8] k (fun kq v8 w' => ∃ (x8_1 : Int), v8 = .int .i64 x8_1 ∧ Aside0 (slices_Index_int_int.l0 kq l0 a1 (l0.length : Int) x8_1 = some r) ∧ Aside0 (kq ≤ k) ∧ Drawn0 w w')
 case atStart => exact ⟨(0), (by first | rfl | (simp; done) | (simp [*]; done)), H', ⟨Nat.le_refl _⟩, by repeat (first | exact Drawn0.refl _ | apply Drawn0.step)⟩
 case round =>
  clear H'
  try clear c1
  try clear p2
  obtain ⟨x8_1, rfl, HA, HK1, ⟨m1, rfl⟩⟩ := hrel
  cases gk with
  | zero => exact absurd HA.out (by simp [slices_Index_int_int.l0])
  | succ k1 =>
   have H := HA.out
   clear HA
   simp only [slices_Index_int_int.l0] at H
   by_cases c3 : x8_1 < (l0.length : Int)
   ·rw [if_pos c3] at H
    have c3b0 : decide (x8_1 < (l0.length : Int)) = true := decide_eq_true c3
    clear c3
    by_cases c4 : 0 ≤ x8_1
    ·rw [if_pos c4] at H
     have c4b0 : decide (0 ≤ x8_1) = true := decide_eq_true c4
     clear c4
     by_cases c5 : x8_1 < (l0.length : Int)
     ·rw [if_pos c5] at H
      have c5b0 : decide (x8_1 < (l0.length : Int)) = true := decide_eq_true c5
      clear c5
      by_cases c6 : a1 = (rd l0 x8_1)
      ·rw [if_pos c6] at H
       have c6b0 : (a1 == (rd l0 x8_1)) = true := beq_iff_eq.mpr c6
       have c6b1 : (a1 != (rd l0 x8_1)) = false := bne_eq_false_iff_eq.mpr c6
       clear c6
       obtain rfl := Option.some.inj H
       have p247 : 0 ≤ (x8_1 : Int) := of_decide_eq_true (by first | (with_reducible assumption) | assumption)
       have q247 : x8_1 < (l0.length : Int) := of_decide_eq_true (by first | (with_reducible assumption) | assumption)
       obtain ⟨ad247, e247, hx247_0⟩ := Kd.at_int HR0.out x8_1 p247 q247
       cases e247
       replace p247 := eq_true p247
       replace q247 := eq_true q247
       go_wp2
       go_ret
       exact ⟨by first | rfl | (simp; done) | (simp [*]; done), by repeat (first | exact Drawn0.refl _ | apply Drawn0.step)⟩
      ·rw [if_neg c6] at H
       have c6b0 : (a1 == (rd l0 x8_1)) = false := beq_eq_false_iff_ne.mpr c6
       have c6b1 : (a1 != (rd l0 x8_1)) = true := bne_iff_ne.mpr c6
       have H' := Aside0.mk H
       clear H
       have p247 : 0 ≤ (x8_1 : Int) := of_decide_eq_true (by first | (with_reducible assumption) | assumption)
       have q247 : x8_1 < (l0.length : Int) := of_decide_eq_true (by first | (with_reducible assumption) | assumption)
       obtain ⟨ad247, e247, hx247_0⟩ := Kd.at_int HR0.out x8_1 p247 q247
       cases e247
       replace p247 := eq_true p247
       replace q247 := eq_true q247
       go_wp2
       go_roundg k1
       case measure => have := HK1.out; omega
       case rel => exact ⟨(wrap64 (x8_1 + 1)), (by first | rfl | (simp; done) | (simp [*]; done)), H', ⟨by have := HK1.out; omega⟩, by repeat (first | exact Drawn0.refl _ | apply Drawn0.step)⟩
     ·rw [if_neg c5] at H
      exact absurd H (by simp)
    ·rw [if_neg c4] at H
     exact absurd H (by simp)
   ·rw [if_neg c3] at H
    have c3b0 : decide (x8_1 < (l0.length : Int)) = false := decide_eq_false c3
    clear c3
    obtain rfl := Option.some.inj H
    go_wp2
    go_ret
    exact ⟨by first | rfl | (simp; done) | (simp [*]; done), by repeat (first | exact Drawn0.refl _ | apply Drawn0.step)⟩

/-! ### slices_Contains_int_int: function 83 -/
def slices_Contains_int_int.f (k : Nat) (l0 : List Int) (a1 : Int) : Option (Bool) := (slices_Index_int_int.f k l0 a1).bind fun t248 => (some (decide (t248 ≥ 0)))
theorem slices_Contains_int_int.mono : ∀ a0 a1 k, LeO (slices_Contains_int_int.f k a0 a1) (slices_Contains_int_int.f (k + 1) a0 a1) := by
 intro a0 a1 k
 unfold slices_Contains_int_int.f
 repeat' first
   | (with_reducible exact slices_Index_int_int.mono _ _ _)
   | (with_reducible exact LeO.refl _)
   | (with_reducible exact LeO.none _)
   | (with_reducible refine LeO.ite ?_ ?_)
   | (with_reducible refine LeO.bind ?_ (fun _ => ?_))
   | exact slices_Index_int_int.mono _ _ _
   | exact LeO.none _
   | refine LeO.ite ?_ ?_
   | refine LeO.bind ?_ (fun _ => ?_)
set_option maxHeartbeats 8000000 in
set_option maxRecDepth 100000 in
theorem slices_Contains_int_int.calls (k : Nat) (A0 : Option Addr) (c0 : Nat) (l0 : List Int) (a1 : Int) (r : Bool) (w : World) (hr0 : Kd.C (Kd.int .i64) w A0 l0.length l0) (hc0 : l0.length ≤ c0) (h : slices_Contains_int_int.f k l0 a1 = some r) :
  Calls Try.prog 83 #[.slice A0 l0.length c0, .int .i64 a1] w fun e w' => e = .returned (.bool r) ∧ Drawn0 w w' := by
 have HR0 := Aside0.mk hr0
 have HC0 := Aside0.mk hc0
 clear hr0 hc0
 have H : ((slices_Index_int_int.f k l0 a1).bind fun t248 => (some (decide (t248 ≥ 0)))) = some r := h
 clear h
 replace H := Option.bind_eq_some_iff.mp H
 obtain ⟨t248, A30, H⟩ := H
 replace H : (some (decide (t248 ≥ 0))) = some r := H
 have A3 := Aside0.mk A30
 clear A30
 obtain rfl := Option.some.inj H
 go_enter Try.func83, Try.ntmps83
 go_wp2_with (first | ((with_reducible refine gate_callee (f := 112) rfl ?_); refine goesL_ (some 7) rfl rfl Try.func112 (by kernel_rfl) rfl #[.slice A0 l0.length c0, .int .i64 a1] rfl (by (try simp only [List.map_toArray, List.map_cons, List.map_nil]); first | done | rfl | (simp only [List.length_drop, List.length_take]; rfl)) ?_; (with_reducible refine (slices_Index_int_int.calls k _ _ l0 a1 t248 _ ?side1 ?side2 A3.out).mono ?_); (case side1 => repeat (first | exact HR0.out | (with_reducible refine Kd.C_alloc ?_ _) | (with_reducible refine Kd.C_drewN ?_ _) | (with_reducible refine Kd.C_drew ?_))); (case side2 => exact HC0.out); rintro e w' ⟨rfl, ⟨nd, rfl⟩⟩; refine ⟨_, rfl, ?_⟩))
 go_ret
 exact ⟨by first | rfl | (simp; done) | (simp [*]; done), by repeat (first | exact Drawn0.refl _ | apply Drawn0.step)⟩

/-! ### impl_numbers: function 47 -/
def impl_numbers.l0 : Nat → List Int → List Int → Int → Option (List Int)
 | 0, _, _, _ => none
 | k + 1, x0, x3, x4 => if x4 ≤ 20 then ((slices_Contains_int_int.f k x0 x4).bind fun t249 => (if t249 = true then (if x3.length < 17592186044416 then (impl_numbers.l0 k x0 (x3 ++ [x4]) (wrap64 (x4 + 1))) else (none)) else (impl_numbers.l0 k x0 x3 (wrap64 (x4 + 1))))) else (some x3)
def impl_numbers.f (k : Nat) (l0 : List Int) : Option (List Int) := impl_numbers.l0 k l0 ([] : List Int) 1
theorem impl_numbers.mono_l : ∀ k, (∀ y0 y1 y2, LeO (impl_numbers.l0 k y0 y1 y2) (impl_numbers.l0 (k + 1) y0 y1 y2))
 | 0 => fun _ _ _ r h => by simp [impl_numbers.l0] at h
 | k + 1 => by
  have ih0 := impl_numbers.mono_l k
  ·intro y0 y1 y2
   unfold impl_numbers.l0
   repeat' first
   | (with_reducible exact ih0 _ _ _)
   | (with_reducible exact slices_Contains_int_int.mono _ _ _)
   | (with_reducible exact LeO.refl _)
   | (with_reducible exact LeO.none _)
   | (with_reducible refine LeO.ite ?_ ?_)
   | (with_reducible refine LeO.bind ?_ (fun _ => ?_))
   | exact ih0 _ _ _
   | exact slices_Contains_int_int.mono _ _ _
   | exact LeO.none _
   | refine LeO.ite ?_ ?_
   | refine LeO.bind ?_ (fun _ => ?_)
theorem impl_numbers.mono : ∀ a0 k, LeO (impl_numbers.f k a0) (impl_numbers.f (k + 1) a0) := by
 intro a0 k
 have ih0 := impl_numbers.mono_l k
 unfold impl_numbers.f
 repeat' first
   | (with_reducible exact ih0 _ _ _)
   | (with_reducible exact slices_Contains_int_int.mono _ _ _)
   | (with_reducible exact LeO.refl _)
   | (with_reducible exact LeO.none _)
   | (with_reducible refine LeO.ite ?_ ?_)
   | (with_reducible refine LeO.bind ?_ (fun _ => ?_))
   | exact ih0 _ _ _
   | exact slices_Contains_int_int.mono _ _ _
   | exact LeO.none _
   | refine LeO.ite ?_ ?_
   | refine LeO.bind ?_ (fun _ => ?_)
set_option maxHeartbeats 8000000 in
set_option maxRecDepth 100000 in
theorem impl_numbers.calls (k : Nat) (A0 : Option Addr) (c0 : Nat) (l0 : List Int) (r : List Int) (w : World) (hr0 : Kd.C (Kd.int .i64) w A0 l0.length l0) (hc0 : l0.length ≤ c0) (h : impl_numbers.f k l0 = some r) :
  Calls Try.prog 47 #[.slice A0 l0.length c0] w fun e w' => ∃ v0_ : Value, e = .returned (v0_) ∧ Kd.R (Kd.int .i64) 3 w' w.heap.size (fun _ => True) v0_ r ∧ Below w.heap.size w w' := by
 have HR0 := Aside0.mk hr0
 have HC0 := Aside0.mk hc0
 clear hr0 hc0
 have HB := Aside0.mk (Below.refl w.heap.size w)
 have H : (impl_numbers.l0 k l0 ([] : List Int) 1) = some r := h
 clear h
 have H' := Aside0.mk H
 clear H
 go_enter Try.func47, Try.ntmps47
 go_wp2
 go_loopg [3, 4] k (fun kq v3 v4 w' => ∃ (x3_1 : List Int) (x4_1 : Int), v4 = .int .i64 x4_1 ∧ Aside0 (impl_numbers.l0 kq l0 x3_1 x4_1 = some r) ∧ Aside0 (kq ≤ k) ∧ Aside0 (Kd.R (Kd.int .i64) 3 w' w.heap.size (fun _ => True) v3 x3_1) ∧ Aside0 (Below w.heap.size w w'))
 case atStart => exact ⟨(([] : List Int)), (1), (by first | rfl | (simp; done) | (simp [*]; done)), H', ⟨Nat.le_refl _⟩, ⟨by first | exact Kd.R_nil _ _ _ _ _ | exact Kd.N_nil _ _ _ _ _ | exact Kd.V_nil _ _ _ _ _ | exact Kd.Q_nil _ _ _ _ _ | exact Kd.S_nil _ _ _ _ _⟩, ⟨by repeat (first | (with_reducible first | exact HB.out | apply below_alloc | apply pw_below_drewN | apply below_drew1) | exact HB.out)⟩⟩
 case round =>
  clear H'
  obtain ⟨x3_1, x4_1, rfl, HA, HK1, HO_3, HB⟩ := hrel
  cases gk with
  | zero => exact absurd HA.out (by simp [impl_numbers.l0])
  | succ k1 =>
   have H := HA.out
   clear HA
   simp only [impl_numbers.l0] at H
   by_cases c2 : x4_1 ≤ 20
   ·rw [if_pos c2] at H
    have c2b0 : decide (x4_1 ≤ 20) = true := decide_eq_true c2
    clear c2
    replace H := Option.bind_eq_some_iff.mp H
    obtain ⟨t249, A30, H⟩ := H
    replace H : (if t249 = true then (if x3_1.length < 17592186044416 then (impl_numbers.l0 k1 l0 (x3_1 ++ [x4_1]) (wrap64 (x4_1 + 1))) else (none)) else (impl_numbers.l0 k1 l0 x3_1 (wrap64 (x4_1 + 1)))) = some r := H
    have A3 := Aside0.mk A30
    clear A30
    by_cases c4 : t249 = true
    ·subst c4
     have H1 : (if x3_1.length < 17592186044416 then (impl_numbers.l0 k1 l0 (x3_1 ++ [x4_1]) (wrap64 (x4_1 + 1))) else (none)) = some r := by rw [if_pos rfl] at H; exact H
     clear H
     have H := H1
     clear H1
     by_cases c5 : x3_1.length < 17592186044416
     ·rw [if_pos c5] at H
      have LMc5 := Aside0.mk c5
      clear c5
      obtain ⟨y250, hy250⟩ : ∃ y_ : List Int, y_ = (x3_1 ++ [x4_1]) := ⟨_, rfl⟩
      replace H : (impl_numbers.l0 k1 l0 y250 (wrap64 (x4_1 + 1))) = some r := by first | (rw [hy250]; with_reducible exact H) | (have H2_ := (Option.bind_some _ _).symm.trans H; rw [hy250]; with_reducible exact H2_) | (have H2_ := (Option.bind_some _ _).symm.trans H; with_reducible exact H2_) | with_reducible exact H | (rw [hy250]; exact H) | exact H
      have Ny250 := Aside0.mk hy250
      clear hy250
      have H' := Aside0.mk H
      clear H
      go_wp2_with (first | ((with_reducible refine gate_callee (f := 83) rfl ?_); refine goesL_ (some 11) rfl rfl Try.func83 (by kernel_rfl) rfl #[.slice A0 l0.length c0, .int .i64 x4_1] rfl (by (try simp only [List.map_toArray, List.map_cons, List.map_nil]); first | done | rfl | (simp only [List.length_drop, List.length_take]; rfl)) ?_; (with_reducible refine (slices_Contains_int_int.calls k1 _ _ l0 x4_1 true _ ?side1 ?side2 A3.out).mono ?_); (case side1 => repeat (first | exact (Kd.C_below HR0.out HB.out) | (with_reducible refine Kd.C_alloc ?_ _) | (with_reducible refine Kd.C_drewN ?_ _) | (with_reducible refine Kd.C_drew ?_))); (case side2 => exact HC0.out); rintro e w' ⟨rfl, ⟨nd, rfl⟩⟩; refine ⟨_, rfl, ?_⟩) | ((with_reducible refine gate_builtin (b := .append) (xs := #[.tmp 12, .tmp 14]) rfl ?_); at_builtin; refine Kd.R_append (Kd.int .i64) (w0 := w) w.heap.size rfl (.tmp 12) (.tmp 14) 22 3 (.int .i64 0) 8 rfl Try.underlying22 info3 rfl (by decide) (by omega) u3 x3_1 x4_1 [.int .i64 x4_1] (fun _ => True) (fun _ => False) rfl rfl ?aP (fun _ hk => hk.elim) ?aF ?aO ?aB ?aS ?aL ?_; (case aP => exact rfl); (case aB => exact (by repeat (first | (with_reducible first | exact HB.out | apply below_alloc | apply pw_below_drewN | apply below_drew1) | exact HB.out))); (case aF => exact (fun _ _ => trivial)); (case aO => exact (by (with_reducible repeat (first | apply Kd.R_alloc | apply Kd.R_drewN | apply Kd.R_drew)); exact HO_3.out)); (case aS => exact (below_size (by repeat (first | (with_reducible first | exact HB.out | apply below_alloc | apply pw_below_drewN | apply below_drew1) | exact HB.out)))); (case aL => have := LMc5.out; omega); intro v251 w6 ho hb hg hat; rw [← Ny250.out] at ho; have n0_ := Aside0.mk (hb); have n1_ := Aside0.mk (ho); clear HB; clear HO_3; have HB := n0_; have HO252 := n1_; clear n0_ n1_; clear ho hb hg hat))
      go_roundg k1
      case measure => have := HK1.out; omega
      case rel => exact ⟨(y250), (wrap64 (x4_1 + 1)), (by first | rfl | (simp; done) | (simp [*]; done)), H', ⟨by have := HK1.out; omega⟩, ⟨by (with_reducible repeat (first | apply Kd.R_alloc | apply Kd.R_drewN | apply Kd.R_drew)); exact HO252.out⟩, ⟨by repeat (first | (with_reducible first | exact HB.out | apply below_alloc | apply pw_below_drewN | apply below_drew1) | exact HB.out)⟩⟩
     ·rw [if_neg c5] at H
      exact absurd H (by simp)
    ·replace c4 := Bool.eq_false_iff.mpr c4
     subst c4
     have H1 : (impl_numbers.l0 k1 l0 x3_1 (wrap64 (x4_1 + 1))) = some r := by rw [if_neg (show ¬ (false = true) by decide)] at H; exact H
     clear H
     have H := H1
     clear H1
     have H' := Aside0.mk H
     clear H
     go_wp2_with (first | ((with_reducible refine gate_callee (f := 83) rfl ?_); refine goesL_ (some 11) rfl rfl Try.func83 (by kernel_rfl) rfl #[.slice A0 l0.length c0, .int .i64 x4_1] rfl (by (try simp only [List.map_toArray, List.map_cons, List.map_nil]); first | done | rfl | (simp only [List.length_drop, List.length_take]; rfl)) ?_; (with_reducible refine (slices_Contains_int_int.calls k1 _ _ l0 x4_1 false _ ?side1 ?side2 A3.out).mono ?_); (case side1 => repeat (first | exact (Kd.C_below HR0.out HB.out) | (with_reducible refine Kd.C_alloc ?_ _) | (with_reducible refine Kd.C_drewN ?_ _) | (with_reducible refine Kd.C_drew ?_))); (case side2 => exact HC0.out); rintro e w' ⟨rfl, ⟨nd, rfl⟩⟩; refine ⟨_, rfl, ?_⟩))
     go_roundg k1
     case measure => have := HK1.out; omega
     case rel => exact ⟨(x3_1), (wrap64 (x4_1 + 1)), (by first | rfl | (simp; done) | (simp [*]; done)), H', ⟨by have := HK1.out; omega⟩, ⟨by (with_reducible repeat (first | apply Kd.R_alloc | apply Kd.R_drewN | apply Kd.R_drew)); exact HO_3.out⟩, ⟨by repeat (first | (with_reducible first | exact HB.out | apply below_alloc | apply pw_below_drewN | apply below_drew1) | exact HB.out)⟩⟩
   ·rw [if_neg c2] at H
    have c2b0 : decide (x4_1 ≤ 20) = false := decide_eq_false c2
    clear c2
    obtain rfl := Option.some.inj H
    go_wp2
    go_ret
    exact ⟨_, by first | rfl | (simp [errW_none, errW_some] <;> rfl) | (simp [*, errW_none, errW_some] <;> rfl), by (with_reducible repeat (first | apply Kd.R_alloc | apply Kd.R_drewN | apply Kd.R_drew)); exact HO_3.out, by repeat (first | (with_reducible first | exact HB.out | apply below_alloc | apply pw_below_drewN | apply below_drew1) | exact HB.out)⟩

end Go.Proofs.Ytgpnhaaklhinlaa.PFnExactSystemOfRow
