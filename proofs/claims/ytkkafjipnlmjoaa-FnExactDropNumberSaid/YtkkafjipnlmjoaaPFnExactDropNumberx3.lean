-- Written by plug.py, a program of this session, over the kit's print of the function: checked by Lean alone.
import Derived.Test.YtkkafjipnlmjoaaPFnExactDropNumberx0
import Derived.Test.YtkkafjipnlmjoaaPFnExactDropNumberx2
namespace Go.Proofs.Ytkkafjipnlmjoaa.PFnExactDropNumber
open Go.RowKit Go.Proofs.YtkkafjipnlmjoaaW.PrintWords Go.Proofs.YtkkafjipnlmjoaaW.PrintLast Go.Proofs.YtkkafjipnlmjoaaW.PrintMore
attribute [local go_sem] max2_int min2_int max_two min_two max_three min_three max_four min_four   -- for this text's walks alone
set_option linter.unusedVariables false
set_option linter.unusedSimpArgs false

/-! ### impl_isPairs: function 46 -/
/-- Block G holds the slices vs; slice n owns the row L[n]; no two of them own one block. E: the numbers' type, T: the block's. -/
def ArrRows (E T : Nat) (w : World) (B G : Nat) (vs : List Value) (L : List (List Int)) : Prop :=
  w.heap[G]? = some (.cells vs.toArray T (0, 0)) ∧ vs.length = L.length ∧
  (∀ (n : Nat) (v : Value), vs[n]? = some v → (Kd.int .i64).R E w B (fun k => some k = v.ownBlock) v (L.getD n [])) ∧
  ∀ (n m : Nat) (v u : Value), n ≠ m → vs[n]? = some v → vs[m]? = some u → v.ownBlock = none ∨ v.ownBlock ≠ u.ownBlock
theorem arr_cell {E T : Nat} {w : World} {B G : Nat} {vs : List Value} {L : List (List Int)} (h : ArrRows E T w B G vs L) {n : Nat} {v : Value} (hv : vs[n]? = some v) : w.cell? ⟨G, n, none⟩ = some v := by
  rw [cell_of_row w G n _ T (0, 0) h.1]
  simpa using hv
theorem arr_free {E T : Nat} {w : World} {B G : Nat} {vs : List Value} {L : List (List Int)} (h : ArrRows E T w B G vs L) (n : Nat) : w.frozen? ⟨G, n, none⟩ = false := frozen_of_row w G n _ T h.1
theorem arr_lt {E T : Nat} {w : World} {B G : Nat} {vs : List Value} {L : List (List Int)} (h : ArrRows E T w B G vs L) : G < w.heap.size := lt_of_block h.1
theorem arr_below {E T : Nat} {w w1 : World} {B G : Nat} {vs : List Value} {L : List (List Int)} (h : ArrRows E T w B G vs L) (hb : Below w.heap.size w w1) : ArrRows E T w1 B G vs L :=
  ⟨(hb.block G (arr_lt h)).trans h.1, h.2.1, fun n v hv => Kd.R_below (h.2.2.1 n v hv) hb, h.2.2.2⟩
theorem arr_lower {E T : Nat} {w : World} {B B' G : Nat} {vs : List Value} {L : List (List Int)} (h : ArrRows E T w B G vs L) (hb : B' ≤ B) : ArrRows E T w B' G vs L :=
  ⟨h.1, h.2.1, fun n v hv => Kd.R_lower (h.2.2.1 n v hv) hb, h.2.2.2⟩
theorem arr_start {E T : Nat} {w : World} {B G : Nat} (n : Nat) (h : w.heap[G]? = some (.cells (List.replicate n (Value.slice none 0 0)).toArray T (0, 0))) : ArrRows E T w B G (List.replicate n (.slice none 0 0)) (List.replicate n []) := by
  refine ⟨h, by simp, fun m v hv => ?_, fun m m' v u hne hv hu => ?_⟩
  · obtain ⟨hm, rfl⟩ := List.getElem?_eq_some_iff.1 hv
    simp only [List.length_replicate] at hm
    have e : (List.replicate n ([] : List Int)).getD m [] = [] := by rw [List.getD_eq_getElem?_getD, List.getElem?_replicate, if_pos hm]; rfl
    rw [e]
    simp only [List.getElem_replicate]
    exact Kd.R_nil _ _ _ _ _
  · obtain ⟨hm, rfl⟩ := List.getElem?_eq_some_iff.1 hv
    left
    simp [Value.ownBlock]
/-- Behind 'at[n] = append(at[n], x)'. -/
theorem arr_step {E T : Nat} {W w1 : World} {B G : Nat} {vs : List Value} {L : List (List Int)} (h : ArrRows E T W B G vs L) (hET : E ≠ T) {n : Nat} {v v1 : Value} {x : Int} (hv : vs[n]? = some v)
    (ho : (Kd.int .i64).R E w1 B (fun _ => True) v1 (L.getD n [] ++ [x])) (hg : W.grownBy w1 v.ownBlock) (hat : v1.ownBlock = v.ownBlock ∨ ∃ b, v1.ownBlock = some b ∧ W.heap.size ≤ b) :
    ArrRows E T (w1.setCell ⟨G, n, none⟩ v1) B G (vs.set n v1) (L.set n (L.getD n [] ++ [x])) := by
  obtain ⟨h1, h2, h3, h4⟩ := h
  have hn : n < vs.length := by
    rcases Nat.lt_or_ge n vs.length with h' | h'
    · exact h'
    · rw [List.getElem?_eq_none h'] at hv; cases hv
  have hGlt : G < W.heap.size := lt_of_block h1
  have hvG : some G ≠ v.ownBlock := Kd.R_ne (h3 n v hv) h1 hET
  have hG1 : w1.heap[G]? = some (.cells vs.toArray T (0, 0)) := (hg.block G hGlt hvG).trans h1
  have hv1G : some G ≠ v1.ownBlock := Kd.R_ne ho hG1 hET
  have hset : ∀ (m : Nat) (u : Value), (vs.set n v1)[m]? = some u → (m = n ∧ u = v1) ∨ (m ≠ n ∧ vs[m]? = some u) := by
    intro m u hu
    rw [List.getElem?_set] at hu
    by_cases c : n = m
    · subst c
      simp [hn] at hu
      exact .inl ⟨rfl, hu.symm⟩
    · simp [c] at hu
      exact .inr ⟨fun e => c e.symm, hu⟩
  have hlt : ∀ (m : Nat) (u : Value), vs[m]? = some u → ∀ k, u.ownBlock = some k → k < W.heap.size := fun m u hu k hk => Kd.R_lt (h3 m u hu) k hk
  have hdis : ∀ (m : Nat) (u : Value), m ≠ n → vs[m]? = some u → u.ownBlock = none ∨ u.ownBlock ≠ v1.ownBlock := by
    intro m u hm hu
    rcases hat with hat | ⟨b, hb, hle⟩
    · rw [hat]
      exact h4 m n u v hm hu hv
    · cases e : u.ownBlock with
      | none => exact .inl rfl
      | some k =>
        right
        rw [hb]
        have := hlt m u hu k e
        intro he
        injection he with he
        omega
  refine ⟨?_, by simpa using h2, fun m u hu => ?_, fun m m' u u' hne hu hu' => ?_⟩
  · rw [heap_setCell_same w1 G n _ T v1 hG1]
    simp
  · rcases hset m u hu with ⟨rfl, rfl⟩ | ⟨hm, hu0⟩
    · have e : (L.set m (L.getD m [] ++ [x])).getD m [] = L.getD m [] ++ [x] := by
        rw [List.getD_eq_getElem?_getD, List.getElem?_set_self (by omega)]
        rfl
      rw [e]
      have t := Kd.R_tight rfl ho
      exact Kd.R_far t (fun k hk e => hv1G (by rw [← hk]; exact congrArg some e.symm)) _
    · have e : (L.set n (L.getD n [] ++ [x])).getD m [] = L.getD m [] := by
        rw [List.getD_eq_getElem?_getD, List.getElem?_set_ne (fun e => hm e.symm), List.getD_eq_getElem?_getD]
      rw [e]
      have r := h3 m u hu0
      have huG : some G ≠ u.ownBlock := Kd.R_ne r h1 hET
      have r1 := Kd.R_grown r hg (fun k hk => by
        rcases h4 m n u v hm hu0 hv with h' | h'
        · rw [h'] at hk; cases hk
        · rw [hk]; exact h')
      exact Kd.R_far r1 (fun k hk e => huG (by rw [← hk]; exact congrArg some e.symm)) _
  · rcases hset m u hu with ⟨rfl, rfl⟩ | ⟨hm, hu0⟩
    · rcases hset m' u' hu' with ⟨rfl, rfl⟩ | ⟨hm', hu0'⟩
      · exact absurd rfl hne
      · rcases hdis m' u' hm' hu0' with h' | h'
        · cases e : u.ownBlock with
          | none => exact .inl rfl
          | some k => right; rw [h']; simp
        · exact .inr (fun e => h' e.symm)
    · rcases hset m' u' hu' with ⟨rfl, rfl⟩ | ⟨hm', hu0'⟩
      · exact hdis m u hm hu0
      · exact h4 m m' u u' hne hu0 hu0'
def impl_pairs.st (l : List Int) : Nat → List (List Int)
  | 0 => List.replicate 21 []
  | k + 1 => if 0 < rd l k then (impl_pairs.st l k).set (rd l k).toNat ((impl_pairs.st l k).getD (rd l k).toNat [] ++ [(k : Int)]) else impl_pairs.st l k
theorem impl_pairs.st_len (l : List Int) : ∀ k, (impl_pairs.st l k).length = 21
  | 0 => by simp [impl_pairs.st]
  | k + 1 => by
    have h := impl_pairs.st_len l k
    unfold impl_pairs.st
    split
    · simpa using h
    · exact h
def impl_pairs.okl (L : List (List Int)) : Nat → Bool
  | 0 => true
  | n + 1 => impl_pairs.okl L n && ((L.getD n []).length == 0 || (L.getD n []).length == 2)
theorem impl_pairs.st_le (l : List Int) (n : Nat) : ∀ k, ((impl_pairs.st l k).getD n []).length ≤ k
  | 0 => by
    simp only [impl_pairs.st, List.getD_eq_getElem?_getD, List.getElem?_replicate]
    split <;> simp
  | k + 1 => by
    have h := impl_pairs.st_le l n k
    unfold impl_pairs.st
    split
    · rw [List.getD_eq_getElem?_getD, List.getElem?_set]
      by_cases e : (rd l k).toNat = n
      · subst e
        rw [if_pos rfl]
        split
        · simp only [Option.getD_some, List.length_append, List.length_singleton]; omega
        · simp
      · rw [if_neg e, ← List.getD_eq_getElem?_getD]; omega
    · omega
theorem impl_pairs.info42 : (Try.prog.info? 42).map (·.size) = some 21 := by kernel_rfl
theorem impl_pairs.w64s {j : Int} (h : 0 ≤ j) (h1 : j < 4611686018427387904) : wrap64 (j + 1) = j + 1 := by unfold wrap64; omega
theorem impl_pairs.info22 : (Try.prog.info? 22).map (fun i => (i.zero, i.size, i.bytes)) = some (some (.slice none 0 0), 1, 24) := by kernel_rfl
theorem impl_pairs.ix {vs : List Value} {m : Int} {A : Option Addr} {n c : Nat} (h0 : 0 ≤ m) (h1 : m < 21) (hv : vs[m.toNat]? = some (.slice A n c)) (w : World) :
    (Instr.index 42 (.agg vs.toArray) (.int .i64 m)).run Try.prog w = .ok (.slice A n c) w := by
  have e := impl_pairs.info22
  cases hq : Try.prog.info? 22 with
  | none => simp [hq] at e
  | some i =>
    have hs : i.size = 1 := by simp [hq] at e; exact e.2.1
    simp [Instr.index, run_underlying Try.underlying42, asIntOf, h0, h1, go_sem, sizeOf, typeInfo, hq, hs, part, hv]
theorem impl_pairs.res (tmps : Array Value) (w : World) (g : Nat) (cs : Array Value) (hp : tmps.getD 2 undef = .pointer (some ⟨g, 0, none⟩)) (hg : w.heap[g]? = some (.cells cs 42 (0, 0))) (hs : cs.size = 21) :
    (results Try.f51 tmps).run Try.prog w = .ok (.tuple #[.agg cs, tmps.getD 3 undef]) w := by
  have hp' : tmps[2]?.getD undef = .pointer (some ⟨g, 0, none⟩) := by simpa using hp
  have hr : Try.f51.results = #[.cell 2 42, .tmp 3] := rfl
  simp [results, hr, hp', asAddr, run_loadVar_row (P := Try.prog) w g 42 42 cs (0, 0) _ hg Try.underlying42 rfl (by rw [hs]; exact impl_pairs.info42)]
def impl_pairs.Post (w : World) (l0 : List Int) (b : Bool) (e : Ending) (w' : World) : Prop := ∃ vs : List Value, e = .returned (.tuple #[.agg vs.toArray, .bool b]) ∧ vs.length = 21 ∧ (∀ (n : Nat) (v : Value), vs[n]? = some v → (Kd.int .i64).R 3 w' w.heap.size (fun k => some k = v.ownBlock) v ((impl_pairs.st l0 l0.length).getD n [])) ∧ Below w.heap.size w w'
theorem impl_pairs.one {w : World} {B G : Nat} {vs : List Value} {L : List (List Int)} (h : ArrRows 3 42 w B G vs L) : vs.toArray.all (·.oneCell') = true := by
  rw [List.all_toArray, List.all_eq_true]
  intro v hv
  obtain ⟨n, hn⟩ := List.getElem?_of_mem hv
  obtain ⟨A, c, rfl⟩ := Kd.R_slice (h.2.2.1 n v hn)
  rfl
theorem impl_pairs.fin {w w1 : World} {l0 : List Int} {b : Bool} {vs : List Value} {j : Nat} (h : ArrRows 3 42 w1 w.heap.size (w.heap.size + 1) vs (impl_pairs.st l0 j)) (hg : w1.heap[w.heap.size]? = some (.cells (List.replicate 21 (Value.slice none 0 0)).toArray 42 (0, 0))) (hb : Below w.heap.size w w1) (hs : vs.length = 21) (hj : j = l0.length) (b' : Bool) (e : b' = b) :
    impl_pairs.Post w l0 b (.returned (.tuple #[.agg vs.toArray, .bool b'])) (w1.setRow w.heap.size vs.toArray) := by
  subst hj e
  refine ⟨vs, rfl, hs, fun n v hv => ?_, (hb.trans ⟨rfl, rfl, rfl, by simp [World.setRow], fun k hk => setRow_other w1 w.heap.size k _ (by omega)⟩)⟩
  have r := h.2.2.1 n v hv
  have hne := Kd.R_ne r hg (by decide)
  exact Kd.R_step r (fun k hk _ => setRow_other w1 w.heap.size k _ (fun e => hne (by rw [← e]; exact hk)))
theorem impl_pairs.bad {L : List (List Int)} {n : Nat} (h0 : ¬ ((L.getD n []).length : Int) = 0) (h2 : ¬ ((L.getD n []).length : Int) = 2) : ∀ k, n < k → impl_pairs.okl L k = false
  | 0, h => absurd h (by omega)
  | k + 1, h => by
    by_cases c : n = k
    · subst c
      simp only [impl_pairs.okl]
      have a : ((L.getD n []).length == 0) = false := beq_eq_false_iff_ne.2 (by omega)
      have b : ((L.getD n []).length == 2) = false := beq_eq_false_iff_ne.2 (by omega)
      rw [a, b]
      simp
    · rw [impl_pairs.okl, impl_pairs.bad h0 h2 k (by omega)]; rfl
set_option maxHeartbeats 2000000 in
set_option maxRecDepth 100000 in
theorem impl_pairs.calls (A0 : Option Addr) (c0 : Nat) (l0 : List Int) (w : World) (hr0 : Kd.C (Kd.int .i64) w A0 l0.length l0) (hc0 : l0.length ≤ c0) (hb : ∀ j : Nat, j < l0.length → rd l0 j ≤ 20) (hL : l0.length ≤ 40) :
    Calls Try.prog 51 #[.slice A0 l0.length c0] w (impl_pairs.Post w l0 (impl_pairs.okl (impl_pairs.st l0 l0.length) 21)) := by
  have HR0 := Aside0.mk hr0
  have HL0 := Aside0.mk hL
  have HB0 := Aside0.mk hb
  clear hr0 hL hb
  have HB := Aside0.mk (Below.refl w.heap.size w)
  go_enter Try.func51, Try.ntmps51
  go_wp2
  go_loopg [11] (l0.length + 1) (fun kq v11 w' => ∃ (j : Int) (vs : List Value), v11 = .int .i64 j ∧ Aside0 (0 ≤ j ∧ j ≤ (l0.length : Int) ∧ kq + j.toNat = l0.length + 1) ∧ Aside0 (ArrRows 3 42 w' w.heap.size (w.heap.size + 1) vs (impl_pairs.st l0 j.toNat)) ∧ Aside0 (w'.heap[w.heap.size]? = some (.cells (List.replicate 21 (Value.slice none 0 0)).toArray 42 (0, 0))) ∧ Aside0 (Below w.heap.size w w'))
  case atStart =>
    exact ⟨0, List.replicate 21 (.slice none 0 0), rfl, ⟨Int.le_refl _, by omega, rfl⟩, ⟨arr_start 21 (heap_alloc2_new _ _ _)⟩, ⟨heap_alloc2_old _ _ _⟩, ⟨by repeat (first | (with_reducible first | exact HB.out | apply below_alloc | apply pw_below_drewN | apply below_drew1) | exact HB.out)⟩⟩
  case round =>
    obtain ⟨j, vs, rfl, HJ, HA, HG, HB⟩ := hrel
    cases gk with
    | zero => exact absurd HJ.out (by omega)
    | succ k1 =>
      have j0 := HJ.out.1
      have hjn : ((j.toNat : Nat) : Int) = j := Int.toNat_of_nonneg j0
      by_cases hj : j < (l0.length : Int)
      · have cj : decide (j < (l0.length : Int)) = true := decide_eq_true (by omega)
        have p1 : 0 ≤ j := j0
        have q1 : j < (l0.length : Int) := hj
        obtain ⟨ad1, e1, hx1⟩ := Kd.at_int HR0.out j p1 q1
        cases e1
        replace hx1 := (HB.out.cell (World.block_lt_of_cell? w _ hx1)).trans hx1
        replace p1 := eq_true p1
        replace q1 := eq_true q1
        by_cases hpos : 0 < rd l0 j
        · have c5 : decide (rd l0 j > 0) = true := decide_eq_true hpos
          have HP := Aside0.mk hpos
          have p2 : 0 ≤ rd l0 j := by omega
          have q2 : rd l0 j < 21 := by have := HB0.out j.toNat (by omega); rw [hjn] at this; omega
          have hn : (rd l0 j).toNat < vs.length := by rw [HA.out.2.1, impl_pairs.st_len]; omega
          have hv : vs[(rd l0 j).toNat]? = some vs[(rd l0 j).toNat] := List.getElem?_eq_getElem hn
          generalize vs[(rd l0 j).toNat] = v at hv
          have hR := HA.out.2.2.1 _ _ hv
          have hcv := arr_cell HA.out hv
          have hfv := arr_free HA.out (rd l0 j).toNat
          obtain ⟨y, hy⟩ : ∃ y, y = (impl_pairs.st l0 j.toNat).getD (rd l0 j).toNat [] := ⟨_, rfl⟩
          have hyl : y.length ≤ j.toNat := by rw [hy]; exact impl_pairs.st_le _ _ _
          rw [← hy] at hR
          obtain ⟨A, c, rfl⟩ := Kd.R_slice hR
          obtain ⟨y1, hy1⟩ : ∃ y1, y1 = y ++ [j] := ⟨_, rfl⟩
          have Ny := Aside0.mk hy
          have Ny1 := Aside0.mk hy1
          have Lyl := Aside0.mk hyl
          have HO := Aside0.mk hR
          have HV := Aside0.mk hv
          have HJ0 := Aside0.mk j0
          have HN := Aside0.mk hn
          have HJN := Aside0.mk hjn
          clear hpos hR hy hy1 hyl hn hv j0 hjn
          replace p2 := eq_true p2
          replace q2 := eq_true q2
          have HHJ := Aside0.mk hj
          clear hj
          go_wp2_with (first | ((with_reducible refine gate_builtin (b := .append) (xs := #[.tmp 21, .tmp 23]) rfl ?_); at_builtin; refine Kd.R_append (Kd.int .i64) (w0 := w) w.heap.size rfl (.tmp 21) (.tmp 23) 22 3 (.int .i64 0) 8 rfl Try.underlying22 info3 rfl (by decide) (by omega) (.slice A y.length c) y j [.int .i64 j] (fun _ => True) (fun _ => False) rfl rfl ?aP (fun _ hk => hk.elim) ?aF ?aO ?aB ?aS ?aL ?_; (case aP => exact rfl); (case aB => exact (by repeat (first | (with_reducible first | exact HB.out | apply below_alloc | apply pw_below_drewN | apply below_drew1) | exact HB.out))); (case aF => exact (fun _ _ => trivial)); (case aO => exact (by (with_reducible repeat (first | apply Kd.R_alloc | apply Kd.R_drewN | apply Kd.R_drew)); exact (Kd.R_mono HO.out (fun _ _ => trivial)))); (case aS => exact (below_size (by repeat (first | (with_reducible first | exact HB.out | apply below_alloc | apply pw_below_drewN | apply below_drew1) | exact HB.out)))); (case aL => have := Lyl.out; have := HHJ.out; have := HL0.out; omega); intro v149 w7 ho hb hg hat; rw [← Ny1.out] at ho; obtain ⟨A1, c1, rfl⟩ := Kd.R_slice ho; have hvG := Kd.R_ne HO.out HA.out.1 (by decide); have hvR := Kd.R_ne HO.out HG.out (by decide); have hG7 := (hg.block _ (arr_lt HA.out) hvG).trans HA.out.1; have hR7 := Aside0.mk ((hg.block _ (lt_of_block HG.out) hvR).trans HG.out); have hc7 : w7.cell? ⟨w.heap.size + 1, (rd l0 j).toNat, none⟩ = some (.slice A y.length c) := (by rw [cell_of_row w7 _ _ _ 42 (0, 0) hG7]; simpa using HV.out); have hf7 := frozen_of_row w7 (w.heap.size + 1) (rd l0 j).toNat _ 42 hG7; have HB7 := Aside0.mk hb; have HO7 := Aside0.mk ho; have HG7 := Aside0.mk hg; have HT7 := Aside0.mk hat; clear hG7 hvG hvR ho hb hg hat))
          go_roundg k1
          case measure => have := HJ.out; omega
          case rel =>
            have hstep := arr_step HA.out (by decide) HV.out (x := j) (by rw [← Ny.out, ← Ny1.out]; exact HO7.out) HG7.out HT7.out
            exact ⟨j + 1, vs.set (rd l0 j).toNat (.slice A1 y1.length c1), by rw [impl_pairs.w64s HJ.out.1 (by have := HL0.out; have := HHJ.out; omega)], ⟨by have := HJ.out; have := HHJ.out; omega⟩, ⟨by rw [show (j + 1).toNat = j.toNat + 1 by have := HJ.out; omega, impl_pairs.st, HJN.out, if_pos HP.out]; exact hstep⟩, ⟨by rw [heap_setCell_other _ _ _ _ (by show w.heap.size ≠ w.heap.size + 1; omega)]; exact hR7.out⟩, ⟨below_set HB7.out (by omega)⟩⟩
        · have c5 : decide (rd l0 j > 0) = false := decide_eq_false hpos
          have HP := Aside0.mk hpos
          clear hpos
          go_wp2
          go_roundg k1
          case measure => have := HJ.out; omega
          case rel => exact ⟨j + 1, vs, by rw [impl_pairs.w64s HJ.out.1 (by have := HL0.out; omega)], ⟨by have := HJ.out; omega⟩, ⟨by rw [show (j + 1).toNat = j.toNat + 1 by omega, impl_pairs.st, hjn, if_neg (Int.not_lt.2 HP.out)]; exact HA.out⟩, HG, HB⟩
      · have cj : decide (j < (l0.length : Int)) = false := decide_eq_false (by omega)
        have hsz : vs.length = 21 := by rw [HA.out.2.1, impl_pairs.st_len]
        have HSZ := Aside0.mk hsz
        have LJ := Aside0.mk (show j.toNat = l0.length by have := HJ.out; omega)
        clear hsz
        go_wp2_with (first | (refine wpList_load_row rfl 42 (.tmp 4) rfl (w.heap.size + 1) rfl 42 vs.toArray (0, 0) _ HA.out.1 Try.underlying42 rfl (by rw [List.size_toArray, HSZ.out]; exact impl_pairs.info42) ?_))
        go_loopg [28] 22 (fun kq v28 w' => ∃ m : Int, v28 = .int .i64 m ∧ Aside0 (0 ≤ m ∧ m ≤ 21 ∧ kq + m.toNat = 22) ∧ Aside0 (impl_pairs.okl (impl_pairs.st l0 l0.length) m.toNat = true) ∧ w' = wr)
        case atStart => exact ⟨0, rfl, ⟨by omega⟩, ⟨rfl⟩, rfl⟩
        case round =>
          obtain ⟨m, rfl, HM, HK, rfl⟩ := hrel
          cases gk with
          | zero => exact absurd HM.out (by omega)
          | succ k1 =>
            by_cases hm : m < 21
            · have cm : decide (m < 21) = true := decide_eq_true hm
              have p3 : 0 ≤ m := HM.out.1
              have hn : m.toNat < vs.length := by rw [HSZ.out]; omega
              have hv : vs[m.toNat]? = some vs[m.toNat] := List.getElem?_eq_getElem hn
              generalize vs[m.toNat] = v at hv
              have hR := HA.out.2.2.1 _ _ hv
              obtain ⟨y, hy⟩ : ∃ y, y = (impl_pairs.st l0 j.toNat).getD m.toNat [] := ⟨_, rfl⟩
              rw [← hy] at hR
              obtain ⟨A, c, rfl⟩ := Kd.R_slice hR
              have Ny := Aside0.mk hy
              have HMM := Aside0.mk hm
              have HN := Aside0.mk hn
              clear hR hy hm hn
              replace p3 := eq_true p3
              have q3 : (m < 21) = True := eq_true HMM.out
              have hix := fun w_ => impl_pairs.ix (A := A) (n := y.length) (c := c) HM.out.1 HMM.out hv w_
              have HIX := Aside0.mk hix
              have HV := Aside0.mk hv
              by_cases h0 : (y.length : Int) = 0
              · have b0 : ((y.length : Int) != 0) = false := bne_eq_false_iff_eq.mpr h0
                have H0 := Aside0.mk h0
                clear h0
                go_wp2
                go_roundg k1
                case measure => have := HM.out; omega
                case rel => exact ⟨m + 1, by rw [impl_pairs.w64s HM.out.1 (by have := HMM.out; omega)], ⟨by have := HM.out; have := HMM.out; omega⟩, ⟨by rw [show (m + 1).toNat = m.toNat + 1 by have := HM.out; omega, impl_pairs.okl, HK.out, Bool.true_and, ← LJ.out, ← Ny.out]; have e : y.length = 0 := (by have := H0.out; omega); rw [e]; rfl⟩, rfl⟩
              · have b0 : ((y.length : Int) != 0) = true := bne_iff_ne.mpr h0
                by_cases h2 : (y.length : Int) = 2
                · have b2 : ((y.length : Int) != 2) = false := bne_eq_false_iff_eq.mpr h2
                  have H0 := Aside0.mk h2
                  clear h2 h0
                  go_wp2
                  go_roundg k1
                  case measure => have := HM.out; omega
                  case rel => exact ⟨m + 1, by rw [impl_pairs.w64s HM.out.1 (by have := HMM.out; omega)], ⟨by have := HM.out; have := HMM.out; omega⟩, ⟨by rw [show (m + 1).toNat = m.toNat + 1 by have := HM.out; omega, impl_pairs.okl, HK.out, Bool.true_and, ← LJ.out, ← Ny.out]; have e : y.length = 2 := (by have := H0.out; omega); rw [e]; rfl⟩, rfl⟩
                · have b2 : ((y.length : Int) != 2) = true := bne_iff_ne.mpr h2
                  have H0 := Aside0.mk h0
                  have H2 := Aside0.mk h2
                  clear h2 h0
                  go_wp2_with (first | (refine wpList_load_row rfl 42 (.tmp 4) rfl (w.heap.size + 1) rfl 42 vs.toArray (0, 0) _ HA.out.1 Try.underlying42 rfl (by rw [List.size_toArray, HSZ.out]; exact impl_pairs.info42) ?_) | (refine wpList_store_row rfl 42 (.tmp 2) (.tmp 39) rfl w.heap.size vs.toArray rfl rfl 42 _ HG.out (by rw [List.size_toArray, HSZ.out]; exact impl_pairs.info42) (by simp [HSZ.out]) (impl_pairs.one HA.out) ?_))
                  (try simp only [Exit.inBlock, Exit.then])
                  (refine bodyPost_ret (impl_pairs.res _ _ w.heap.size vs.toArray rfl (setRow_heap _ _ _ _ _ _ HG.out) (by simp [HSZ.out])) rfl ?_)
                  exact impl_pairs.fin HA.out HG.out HB.out HSZ.out LJ.out _ (by have h0 := H0.out; have h2 := H2.out; rw [Ny.out, LJ.out] at h0 h2; exact (impl_pairs.bad h0 h2 21 (by have := HMM.out; have := HM.out; omega)).symm)
            · have cm : decide (m < 21) = false := decide_eq_false hm
              have HMM := Aside0.mk hm
              clear hm
              go_wp2_with (first | (refine wpList_load_row rfl 42 (.tmp 4) rfl (w.heap.size + 1) rfl 42 vs.toArray (0, 0) _ HA.out.1 Try.underlying42 rfl (by rw [List.size_toArray, HSZ.out]; exact impl_pairs.info42) ?_) | (refine wpList_store_row rfl 42 (.tmp 2) (.tmp 41) rfl w.heap.size vs.toArray rfl rfl 42 _ HG.out (by rw [List.size_toArray, HSZ.out]; exact impl_pairs.info42) (by simp [HSZ.out]) (impl_pairs.one HA.out) ?_))
              (try simp only [Exit.inBlock, Exit.then])
              (refine bodyPost_ret (impl_pairs.res _ _ w.heap.size vs.toArray rfl (setRow_heap _ _ _ _ _ _ HG.out) (by simp [HSZ.out])) rfl ?_)
              exact impl_pairs.fin HA.out HG.out HB.out HSZ.out LJ.out _ (by have := HM.out; have := HMM.out; have e : m.toNat = 21 := (by omega); have hk := HK.out; rw [e] at hk; exact hk.symm)
theorem impl_pairs.oneR {w w' : World} {vs : List Value} {L : List (List Int)} (h : ∀ (n : Nat) (v : Value), vs[n]? = some v → (Kd.int .i64).R 3 w' w.heap.size (fun k => some k = v.ownBlock) v (L.getD n [])) : vs.toArray.all (·.oneCell') = true := by
  rw [List.all_toArray, List.all_eq_true]
  intro v hv
  obtain ⟨n, hn⟩ := List.getElem?_of_mem hv
  obtain ⟨A, c, rfl⟩ := Kd.R_slice (h n v hn)
  rfl
theorem below_setr {w W : World} {g : Nat} {cs : Array Value} (h : Below w.heap.size w W) (hg : w.heap.size ≤ g) : Below w.heap.size w (W.setRow g cs) :=
  h.trans ⟨rfl, rfl, rfl, by simp [World.setRow], fun k hk => setRow_other W g k _ (by omega)⟩
theorem impl_pairs.row_len : ∀ (k : Nat) (l s : List Int) (n i : Int), impl_IsRow.l0 k l s n i = some true → l.length ≤ 40
  | 0, _, _, _, _, h => by simp [impl_IsRow.l0] at h
  | k + 1, l, s, n, i, h => by
    unfold impl_IsRow.l0 at h
    split at h
    · split at h
      · split at h
        · split at h
          · simp at h
          · split at h
            · simp at h
            · exact impl_pairs.row_len k l s n _ h
        · simp at h
      · simp at h
    · simp at h
      omega
theorem impl_pairs.row_le : ∀ (k : Nat) (l : List Int) (i : Nat), l.length ≤ 40 → impl_IsRow.l0 k l l (l.length : Int) (i : Int) = some true → ∀ j : Nat, i ≤ j → j < l.length → rd l j ≤ 20
  | 0, _, _, _, h => by simp [impl_IsRow.l0] at h
  | k + 1, l, i, hl, h => by
    intro j h1 h2
    unfold impl_IsRow.l0 at h
    rw [if_pos (by omega), if_pos (by omega), if_pos (by omega), impl_pairs.w64s (by omega) (by omega)] at h
    split at h
    · simp at h
    · rename_i hlo
      split at h
      · simp at h
      · rename_i hc
        by_cases e : j = i
        · subst e; omega
        · exact impl_pairs.row_le k l (i + 1) hl (by simpa using h) j (by omega) h2
def impl_isPairs.f (k : Nat) (l0 : List Int) : Option Bool := (impl_IsRow.f k l0).bind fun t => if t = true then some (impl_pairs.okl (impl_pairs.st l0 l0.length) 21) else some false
theorem impl_isPairs.mono : ∀ a0 k, LeO (impl_isPairs.f k a0) (impl_isPairs.f (k + 1) a0) := by
  intro a0 k
  unfold impl_isPairs.f
  exact LeO.bind (impl_IsRow.mono _ _) (fun _ => LeO.refl _)
theorem impl_isPairs.row {k : Nat} {l0 : List Int} (h : impl_IsRow.f k l0 = some true) : l0.length ≤ 40 ∧ ∀ j : Nat, j < l0.length → rd l0 j ≤ 20 := by
  have h1 := impl_pairs.row_len k _ _ _ _ h
  exact ⟨h1, fun j hj => impl_pairs.row_le k l0 0 h1 h j (Nat.zero_le _) hj⟩
set_option maxHeartbeats 8000000 in
set_option maxRecDepth 100000 in
theorem impl_isPairs.calls (k : Nat) (A0 : Option Addr) (c0 : Nat) (l0 : List Int) (r : Bool) (w : World) (hr0 : Kd.C (Kd.int .i64) w A0 l0.length l0) (hc0 : l0.length ≤ c0) (h : impl_isPairs.f k l0 = some r) :
    Calls Try.prog 46 #[.slice A0 l0.length c0] w fun e w' => e = .returned (.bool r) ∧ Below w.heap.size w w' := by
  have HR0 := Aside0.mk hr0
  have HC0 := Aside0.mk hc0
  clear hr0 hc0
  have HB := Aside0.mk (Below.refl w.heap.size w)
  obtain ⟨t, ht, H⟩ := Option.bind_eq_some_iff.mp h
  clear h
  have A2 := Aside0.mk ht
  clear ht
  cases t with
  | false =>
    rw [if_neg (by decide)] at H
    obtain rfl := Option.some.inj H
    clear H
    go_enter Try.func46, Try.ntmps46
    go_wp2_with (first | ((with_reducible refine gate_callee (f := 45) rfl ?_); refine goesL_ (some 6) rfl rfl Try.func45 (by kernel_rfl) rfl #[.slice A0 l0.length c0] rfl (by (try simp only [List.map_toArray, List.map_cons, List.map_nil]); first | done | rfl | (simp only [List.length_drop, List.length_take]; rfl)) ?_; (with_reducible refine (impl_IsRow.calls k _ _ l0 _ _ ?side1 ?side2 A2.out).mono ?_); (case side1 => repeat (first | exact HR0.out | (with_reducible refine Kd.C_alloc ?_ _) | (with_reducible refine Kd.C_drewN ?_ _) | (with_reducible refine Kd.C_drew ?_))); (case side2 => exact HC0.out); rintro e w' ⟨rfl, ⟨nd, rfl⟩⟩; refine ⟨_, rfl, ?_⟩))
    go_ret
    exact ⟨rfl, by repeat (first | (with_reducible first | exact HB.out | apply below_alloc | apply pw_below_drewN | apply below_drew1) | exact HB.out)⟩
  | true =>
    rw [if_pos rfl] at H
    obtain rfl := Option.some.inj H
    clear H
    have ROW := Aside0.mk (impl_isPairs.row A2.out)
    go_enter Try.func46, Try.ntmps46
    go_wp2_with (first | ((with_reducible refine gate_callee (f := 45) rfl ?_); refine goesL_ (some 6) rfl rfl Try.func45 (by kernel_rfl) rfl #[.slice A0 l0.length c0] rfl (by (try simp only [List.map_toArray, List.map_cons, List.map_nil]); first | done | rfl | (simp only [List.length_drop, List.length_take]; rfl)) ?_; (with_reducible refine (impl_IsRow.calls k _ _ l0 _ _ ?side1 ?side2 A2.out).mono ?_); (case side1 => repeat (first | exact HR0.out | (with_reducible refine Kd.C_alloc ?_ _) | (with_reducible refine Kd.C_drewN ?_ _) | (with_reducible refine Kd.C_drew ?_))); (case side2 => exact HC0.out); rintro e w' ⟨rfl, ⟨nd, rfl⟩⟩; refine ⟨_, rfl, ?_⟩) | ((with_reducible refine gate_callee (f := 51) rfl ?_); refine goesL_ (some 10) rfl rfl Try.func51 (by kernel_rfl) rfl #[.slice A0 l0.length c0] rfl (by (try simp only [List.map_toArray, List.map_cons, List.map_nil]); first | done | rfl | (simp only [List.length_drop, List.length_take]; rfl)) ?_; (with_reducible refine (impl_pairs.calls _ _ l0 _ ?side1 ?side2 ROW.out.2 ROW.out.1).mono ?_); (case side1 => repeat (first | exact HR0.out | exact (Kd.C_below HR0.out HB.out) | (with_reducible refine Kd.C_alloc ?_ _) | (with_reducible refine Kd.C_drewN ?_ _) | (with_reducible refine Kd.C_drew ?_))); (case side2 => exact HC0.out); rintro e w5 ⟨vs, rfl, hsz, hrows, hb⟩; refine ⟨_, rfl, ?_⟩; have HSZ := Aside0.mk hsz; have HROWS := Aside0.mk hrows; have HONE := Aside0.mk (impl_pairs.oneR hrows); have n0_ := Aside0.mk (below_step (by repeat (first | (with_reducible first | exact HB.out | apply below_alloc | apply pw_below_drewN | apply below_drew1) | exact HB.out)) hb); clear HB; have HB := n0_; clear n0_ hsz hrows hb) | (refine wpList_store_row rfl 42 (.tmp 3) (.tmp 11) rfl w5.heap.size vs.toArray rfl rfl 42 _ (heap_alloc_new _ _) (by rw [List.size_toArray, HSZ.out]; exact impl_pairs.info42) (by simp [HSZ.out]) HONE.out ?_))
    go_ret
    exact ⟨rfl, below_setr (by repeat (first | (with_reducible first | exact HB.out | apply below_alloc | apply pw_below_drewN | apply below_drew1) | exact HB.out)) (below_size (by repeat (first | (with_reducible first | exact HB.out | apply below_alloc | apply pw_below_drewN | apply below_drew1) | exact HB.out)))⟩

/-- The array is stored into a block of the call's own: what is known of the world behind it. -/
theorem impl_pairs.stored {ops : Array Oper} {rest : List Oper} {o : Oper} {a : Act} {Q : Exit → Act → World → Prop} {w w5 : World} {vs : List Value} {L : List (List Int)} (hgd : o.guard = none) (x y : Operand) (ho : o.op = .store 42 x y)
    (zs : Array Value) (hx : a.eval x = .pointer (some ⟨w5.heap.size, 0, none⟩)) (hy : a.eval y = .agg vs.toArray) (hz : zs.size = 21) (hs : vs.length = 21) (h1 : vs.toArray.all (·.oneCell') = true)
    (hr : ∀ (n : Nat) (v : Value), vs[n]? = some v → (Kd.int .i64).R 3 w5 w.heap.size (fun k => some k = v.ownBlock) v (L.getD n []))
    (h : ∀ W6, Below w5.heap.size w5 W6 → W6.heap[w5.heap.size]? = some (.cells vs.toArray 42 (0, 0)) → (∀ (n : Nat) (v : Value), vs[n]? = some v → (Kd.int .i64).R 3 W6 w.heap.size (fun k => some k = v.ownBlock) v (L.getD n [])) → wpList Try.prog ops Q rest (a.put o.dst undef) W6) :
    wpList Try.prog ops Q (o :: rest) a (w5.alloc (.cells zs 42 (0, 0))) := by
  have hb : Below w5.heap.size w5 ((w5.alloc (.cells zs 42 (0, 0))).setRow w5.heap.size vs.toArray) := below_setr (below_alloc (Below.refl _ _) _) (Nat.le_refl _)
  exact wpList_store_row hgd 42 x y ho w5.heap.size vs.toArray hx hy 42 _ (heap_alloc_new _ _) (by rw [List.size_toArray, hs]; exact impl_pairs.info42) (by rw [hz, List.size_toArray, hs]) h1
    (h _ hb (setRow_heap _ _ _ _ _ _ (heap_alloc_new _ _)) (fun n v hv => Kd.R_below (hr n v hv) hb))
theorem impl_pairs.two {L : List (List Int)} : ∀ k, impl_pairs.okl L k = true → ∀ n, n < k → (L.getD n []).length = 0 ∨ (L.getD n []).length = 2
  | 0, _, n, h => absurd h (by omega)
  | k + 1, h, n, hn => by
    simp only [impl_pairs.okl, Bool.and_eq_true, Bool.or_eq_true, beq_iff_eq] at h
    by_cases e : n = k
    · subst e; exact h.2
    · exact impl_pairs.two k h.1 n (by omega)
theorem impl_isPairs.tt {k : Nat} {l0 : List Int} (h : impl_isPairs.f k l0 = some true) : impl_IsRow.f k l0 = some true ∧ impl_pairs.okl (impl_pairs.st l0 l0.length) 21 = true := by
  obtain ⟨t, ht, H⟩ := Option.bind_eq_some_iff.mp h
  cases t with
  | false => simp at H
  | true => exact ⟨ht, by simpa using H⟩

/-! ### impl_isNumber: function 50 -/
def impl_isNumber.f (a0 : Int) : Option (Bool) := if a0 ≥ 1 then (some (decide (a0 ≤ 20))) else (some false)
set_option maxHeartbeats 8000000 in
set_option maxRecDepth 100000 in
theorem impl_isNumber.calls (a0 : Int) (r : Bool) (w : World) (h : impl_isNumber.f a0 = some r) :
    Calls Try.prog 50 #[.int .i64 a0] w fun e w' => e = .returned (.bool r) ∧ Drawn0 w w' := by
  have H : (if a0 ≥ 1 then (some (decide (a0 ≤ 20))) else (some false)) = some r := h
  clear h
  by_cases c2 : a0 ≥ 1
  · rw [if_pos c2] at H
    have c2b0 : decide (1 ≤ a0) = true := decide_eq_true c2
    clear c2
    obtain rfl := Option.some.inj H
    go_enter Try.func50, Try.ntmps50
    go_wp2
    go_ret
    exact ⟨by first | rfl | (simp; done) | (simp [*]; done), by repeat (first | exact Drawn0.refl _ | apply Drawn0.step)⟩
  · rw [if_neg c2] at H
    have c2b0 : decide (1 ≤ a0) = false := decide_eq_false c2
    clear c2
    obtain rfl := Option.some.inj H
    go_enter Try.func50, Try.ntmps50
    go_wp2
    go_ret
    exact ⟨by first | rfl | (simp; done) | (simp [*]; done), by repeat (first | exact Drawn0.refl _ | apply Drawn0.step)⟩

/-! ### impl_PlacesOf: function 20 -/
def impl_PlacesOf.f (k : Nat) (l0 : List Int) (a1 : Int) : Option (Int × Int × Bool) := (impl_isPairs.f k l0).bind fun t => if t = true then (if 1 ≤ a1 ∧ a1 ≤ 20 then (if ((impl_pairs.st l0 l0.length).getD a1.toNat []).length = 0 then some (0, 0, false) else some (rd ((impl_pairs.st l0 l0.length).getD a1.toNat []) 0, rd ((impl_pairs.st l0 l0.length).getD a1.toNat []) 1, true)) else some (0, 0, false)) else some (0, 0, false)
theorem impl_PlacesOf.mono : ∀ a0 a1 k, LeO (impl_PlacesOf.f k a0 a1) (impl_PlacesOf.f (k + 1) a0 a1) := by
  intro a0 a1 k
  unfold impl_PlacesOf.f
  exact LeO.bind (impl_isPairs.mono _ _) (fun _ => LeO.refl _)
set_option maxHeartbeats 8000000 in
set_option maxRecDepth 100000 in
theorem impl_PlacesOf.calls (k : Nat) (A0 : Option Addr) (c0 : Nat) (l0 : List Int) (a1 : Int) (r1 : Int) (r2 : Int) (r3 : Bool) (w : World) (hr0 : Kd.C (Kd.int .i64) w A0 l0.length l0) (hc0 : l0.length ≤ c0) (h : impl_PlacesOf.f k l0 a1 = some (r1, r2, r3)) :
    Calls Try.prog 20 #[.slice A0 l0.length c0, .int .i64 a1] w fun e w' => e = .returned (.tuple #[.int .i64 r1, .int .i64 r2, .bool r3]) ∧ Below w.heap.size w w' := by
  have HR0 := Aside0.mk hr0
  have HC0 := Aside0.mk hc0
  clear hr0 hc0
  have HB := Aside0.mk (Below.refl w.heap.size w)
  obtain ⟨t, ht, H⟩ := Option.bind_eq_some_iff.mp h
  clear h
  have A2 := Aside0.mk ht
  clear ht
  cases t with
  | false =>
    rw [if_neg (by decide)] at H
    obtain ⟨rfl, rfl, rfl⟩ : 0 = r1 ∧ 0 = r2 ∧ false = r3 := by simpa using H
    clear H
    go_enter Try.func20, Try.ntmps20
    go_wp2_with (first | ((with_reducible refine gate_callee (f := 46) rfl ?_); refine goesL_ (some 10) rfl rfl Try.func46 (by kernel_rfl) rfl #[.slice A0 l0.length c0] rfl (by (try simp only [List.map_toArray, List.map_cons, List.map_nil]); first | done | rfl | (simp only [List.length_drop, List.length_take]; rfl)) ?_; (with_reducible refine (impl_isPairs.calls k _ _ l0 _ _ ?side1 ?side2 A2.out).mono ?_); (case side1 => repeat (first | exact HR0.out | exact (Kd.C_below HR0.out HB.out) | (with_reducible refine Kd.C_alloc ?_ _) | (with_reducible refine Kd.C_drewN ?_ _) | (with_reducible refine Kd.C_drew ?_))); (case side2 => exact HC0.out); rintro e w4 ⟨rfl, hb⟩; refine ⟨_, rfl, ?_⟩; have n0_ := Aside0.mk (below_step (by repeat (first | (with_reducible first | exact HB.out | apply below_alloc | apply pw_below_drewN | apply below_drew1) | exact HB.out)) hb); clear HB; have HB := n0_; clear n0_; (try clear hb)))
    repeat (go_quiet (first | ((with_reducible refine gate_callee (f := 46) rfl ?_); refine goesL_ (some 10) rfl rfl Try.func46 (by kernel_rfl) rfl #[.slice A0 l0.length c0] rfl (by (try simp only [List.map_toArray, List.map_cons, List.map_nil]); first | done | rfl | (simp only [List.length_drop, List.length_take]; rfl)) ?_; (with_reducible refine (impl_isPairs.calls k _ _ l0 _ _ ?side1 ?side2 A2.out).mono ?_); (case side1 => repeat (first | exact HR0.out | exact (Kd.C_below HR0.out HB.out) | (with_reducible refine Kd.C_alloc ?_ _) | (with_reducible refine Kd.C_drewN ?_ _) | (with_reducible refine Kd.C_drew ?_))); (case side2 => exact HC0.out); rintro e w4 ⟨rfl, hb⟩; refine ⟨_, rfl, ?_⟩; have n0_ := Aside0.mk (below_step (by repeat (first | (with_reducible first | exact HB.out | apply below_alloc | apply pw_below_drewN | apply below_drew1) | exact HB.out)) hb); clear HB; have HB := n0_; clear n0_; (try clear hb))); try go_wp2_with (first | ((with_reducible refine gate_callee (f := 46) rfl ?_); refine goesL_ (some 10) rfl rfl Try.func46 (by kernel_rfl) rfl #[.slice A0 l0.length c0] rfl (by (try simp only [List.map_toArray, List.map_cons, List.map_nil]); first | done | rfl | (simp only [List.length_drop, List.length_take]; rfl)) ?_; (with_reducible refine (impl_isPairs.calls k _ _ l0 _ _ ?side1 ?side2 A2.out).mono ?_); (case side1 => repeat (first | exact HR0.out | exact (Kd.C_below HR0.out HB.out) | (with_reducible refine Kd.C_alloc ?_ _) | (with_reducible refine Kd.C_drewN ?_ _) | (with_reducible refine Kd.C_drew ?_))); (case side2 => exact HC0.out); rintro e w4 ⟨rfl, hb⟩; refine ⟨_, rfl, ?_⟩; have n0_ := Aside0.mk (below_step (by repeat (first | (with_reducible first | exact HB.out | apply below_alloc | apply pw_below_drewN | apply below_drew1) | exact HB.out)) hb); clear HB; have HB := n0_; clear n0_; (try clear hb))))
    go_ret3
    exact ⟨rfl, by repeat (first | (with_reducible first | exact HB.out | apply below_alloc | apply pw_below_drewN | apply below_drew1) | exact HB.out)⟩
  | true =>
    rw [if_pos rfl] at H
    by_cases hn : 1 ≤ a1 ∧ a1 ≤ 20
    · rw [if_pos hn] at H
      have A8 : Aside0 (impl_isNumber.f a1 = some true) := ⟨by simp [impl_isNumber.f, hn.1, hn.2]⟩
      have HN := Aside0.mk hn
      clear hn
      have TT := Aside0.mk (impl_isPairs.tt A2.out)
      have ROW := Aside0.mk (impl_isPairs.row TT.out.1)
      have T2 := Aside0.mk (impl_pairs.two 21 TT.out.2 a1.toNat (by have := HN.out; omega))
      obtain ⟨y, hy⟩ : ∃ y, y = (impl_pairs.st l0 l0.length).getD a1.toNat [] := ⟨_, rfl⟩
      rw [← hy] at H T2
      have Ny := Aside0.mk hy
      clear hy
      by_cases h0 : y.length = 0
      · rw [if_pos h0] at H
        obtain ⟨rfl, rfl, rfl⟩ : 0 = r1 ∧ 0 = r2 ∧ false = r3 := by simpa using H
        clear H
        have b0 : ((y.length : Int) == 0) = true := beq_iff_eq.mpr (by omega)
        have H0 := Aside0.mk h0
        clear h0
        go_enter Try.func20, Try.ntmps20
        go_wp2_with (first | ((with_reducible refine gate_callee (f := 46) rfl ?_); refine goesL_ (some 10) rfl rfl Try.func46 (by kernel_rfl) rfl #[.slice A0 l0.length c0] rfl (by (try simp only [List.map_toArray, List.map_cons, List.map_nil]); first | done | rfl | (simp only [List.length_drop, List.length_take]; rfl)) ?_; (with_reducible refine (impl_isPairs.calls k _ _ l0 _ _ ?side1 ?side2 A2.out).mono ?_); (case side1 => repeat (first | exact HR0.out | exact (Kd.C_below HR0.out HB.out) | (with_reducible refine Kd.C_alloc ?_ _) | (with_reducible refine Kd.C_drewN ?_ _) | (with_reducible refine Kd.C_drew ?_))); (case side2 => exact HC0.out); rintro e w4 ⟨rfl, hb⟩; refine ⟨_, rfl, ?_⟩; have n0_ := Aside0.mk (below_step (by repeat (first | (with_reducible first | exact HB.out | apply below_alloc | apply pw_below_drewN | apply below_drew1) | exact HB.out)) hb); clear HB; have HB := n0_; clear n0_; (try clear hb)) | (go_at_call 50; (with_reducible refine (impl_isNumber.calls a1 _ _ A8.out).mono ?_); rintro e w' ⟨rfl, ⟨nd, rfl⟩⟩) | ((with_reducible refine gate_callee (f := 51) rfl ?_); refine goesL_ (some 19) rfl rfl Try.func51 (by kernel_rfl) rfl #[.slice A0 l0.length c0] rfl (by (try simp only [List.map_toArray, List.map_cons, List.map_nil]); first | done | rfl | (simp only [List.length_drop, List.length_take]; rfl)) ?_; (with_reducible refine (impl_pairs.calls _ _ l0 _ ?side1 ?side2 ROW.out.2 ROW.out.1).mono ?_); (case side1 => repeat (first | exact HR0.out | exact (Kd.C_below HR0.out HB.out) | (with_reducible refine Kd.C_alloc ?_ _) | (with_reducible refine Kd.C_drewN ?_ _) | (with_reducible refine Kd.C_drew ?_))); (case side2 => exact HC0.out); rintro e w5 ⟨vs, rfl, hsz, hrows, hb⟩; refine ⟨_, rfl, ?_⟩; have HSZ := Aside0.mk hsz; have HROWS := Aside0.mk hrows; have HONE := Aside0.mk (impl_pairs.oneR hrows); have n0_ := Aside0.mk (below_step (by repeat (first | (with_reducible first | exact HB.out | apply below_alloc | apply pw_below_drewN | apply below_drew1) | exact HB.out)) hb); clear HB; have HB := n0_; clear n0_ hsz hrows hb) | (refine impl_pairs.stored (w5 := w5) rfl (.tmp 7) (.tmp 20) rfl _ rfl rfl rfl HSZ.out HONE.out HROWS.out ?_; intro W6 hb6 hg6 hr6; have n0_ := Aside0.mk (below_step HB.out hb6); clear HB; have HB := n0_; clear n0_ hb6; have hv := List.getElem?_eq_getElem (l := vs) (i := a1.toNat) (by rw [HSZ.out]; have := HN.out; omega); generalize vs[a1.toNat]'(by rw [HSZ.out]; have := HN.out; omega) = v at hv; have hr := hr6 _ _ hv; rw [← Ny.out] at hr; obtain ⟨A, c, rfl⟩ := Kd.R_slice hr; have hcv : W6.cell? ⟨w5.heap.size, a1.toNat, none⟩ = some (.slice A y.length c) := (by rw [cell_of_row W6 _ _ _ _ (0, 0) hg6]; simpa using hv); have p9 : (0 ≤ a1) = True := eq_true (by have := HN.out; omega); have q9 : (a1 < 21) = True := eq_true (by have := HN.out; omega); have HR := Aside0.mk hr; clear hr hv hg6 hr6))
        repeat (go_quiet (first | ((with_reducible refine gate_callee (f := 46) rfl ?_); refine goesL_ (some 10) rfl rfl Try.func46 (by kernel_rfl) rfl #[.slice A0 l0.length c0] rfl (by (try simp only [List.map_toArray, List.map_cons, List.map_nil]); first | done | rfl | (simp only [List.length_drop, List.length_take]; rfl)) ?_; (with_reducible refine (impl_isPairs.calls k _ _ l0 _ _ ?side1 ?side2 A2.out).mono ?_); (case side1 => repeat (first | exact HR0.out | exact (Kd.C_below HR0.out HB.out) | (with_reducible refine Kd.C_alloc ?_ _) | (with_reducible refine Kd.C_drewN ?_ _) | (with_reducible refine Kd.C_drew ?_))); (case side2 => exact HC0.out); rintro e w4 ⟨rfl, hb⟩; refine ⟨_, rfl, ?_⟩; have n0_ := Aside0.mk (below_step (by repeat (first | (with_reducible first | exact HB.out | apply below_alloc | apply pw_below_drewN | apply below_drew1) | exact HB.out)) hb); clear HB; have HB := n0_; clear n0_; (try clear hb)) | (go_at_call 50; (with_reducible refine (impl_isNumber.calls a1 _ _ A8.out).mono ?_); rintro e w' ⟨rfl, ⟨nd, rfl⟩⟩) | ((with_reducible refine gate_callee (f := 51) rfl ?_); refine goesL_ (some 19) rfl rfl Try.func51 (by kernel_rfl) rfl #[.slice A0 l0.length c0] rfl (by (try simp only [List.map_toArray, List.map_cons, List.map_nil]); first | done | rfl | (simp only [List.length_drop, List.length_take]; rfl)) ?_; (with_reducible refine (impl_pairs.calls _ _ l0 _ ?side1 ?side2 ROW.out.2 ROW.out.1).mono ?_); (case side1 => repeat (first | exact HR0.out | exact (Kd.C_below HR0.out HB.out) | (with_reducible refine Kd.C_alloc ?_ _) | (with_reducible refine Kd.C_drewN ?_ _) | (with_reducible refine Kd.C_drew ?_))); (case side2 => exact HC0.out); rintro e w5 ⟨vs, rfl, hsz, hrows, hb⟩; refine ⟨_, rfl, ?_⟩; have HSZ := Aside0.mk hsz; have HROWS := Aside0.mk hrows; have HONE := Aside0.mk (impl_pairs.oneR hrows); have n0_ := Aside0.mk (below_step (by repeat (first | (with_reducible first | exact HB.out | apply below_alloc | apply pw_below_drewN | apply below_drew1) | exact HB.out)) hb); clear HB; have HB := n0_; clear n0_ hsz hrows hb) | (refine impl_pairs.stored (w5 := w5) rfl (.tmp 7) (.tmp 20) rfl _ rfl rfl rfl HSZ.out HONE.out HROWS.out ?_; intro W6 hb6 hg6 hr6; have n0_ := Aside0.mk (below_step HB.out hb6); clear HB; have HB := n0_; clear n0_ hb6; have hv := List.getElem?_eq_getElem (l := vs) (i := a1.toNat) (by rw [HSZ.out]; have := HN.out; omega); generalize vs[a1.toNat]'(by rw [HSZ.out]; have := HN.out; omega) = v at hv; have hr := hr6 _ _ hv; rw [← Ny.out] at hr; obtain ⟨A, c, rfl⟩ := Kd.R_slice hr; have hcv : W6.cell? ⟨w5.heap.size, a1.toNat, none⟩ = some (.slice A y.length c) := (by rw [cell_of_row W6 _ _ _ _ (0, 0) hg6]; simpa using hv); have p9 : (0 ≤ a1) = True := eq_true (by have := HN.out; omega); have q9 : (a1 < 21) = True := eq_true (by have := HN.out; omega); have HR := Aside0.mk hr; clear hr hv hg6 hr6)); try go_wp2_with (first | ((with_reducible refine gate_callee (f := 46) rfl ?_); refine goesL_ (some 10) rfl rfl Try.func46 (by kernel_rfl) rfl #[.slice A0 l0.length c0] rfl (by (try simp only [List.map_toArray, List.map_cons, List.map_nil]); first | done | rfl | (simp only [List.length_drop, List.length_take]; rfl)) ?_; (with_reducible refine (impl_isPairs.calls k _ _ l0 _ _ ?side1 ?side2 A2.out).mono ?_); (case side1 => repeat (first | exact HR0.out | exact (Kd.C_below HR0.out HB.out) | (with_reducible refine Kd.C_alloc ?_ _) | (with_reducible refine Kd.C_drewN ?_ _) | (with_reducible refine Kd.C_drew ?_))); (case side2 => exact HC0.out); rintro e w4 ⟨rfl, hb⟩; refine ⟨_, rfl, ?_⟩; have n0_ := Aside0.mk (below_step (by repeat (first | (with_reducible first | exact HB.out | apply below_alloc | apply pw_below_drewN | apply below_drew1) | exact HB.out)) hb); clear HB; have HB := n0_; clear n0_; (try clear hb)) | (go_at_call 50; (with_reducible refine (impl_isNumber.calls a1 _ _ A8.out).mono ?_); rintro e w' ⟨rfl, ⟨nd, rfl⟩⟩) | ((with_reducible refine gate_callee (f := 51) rfl ?_); refine goesL_ (some 19) rfl rfl Try.func51 (by kernel_rfl) rfl #[.slice A0 l0.length c0] rfl (by (try simp only [List.map_toArray, List.map_cons, List.map_nil]); first | done | rfl | (simp only [List.length_drop, List.length_take]; rfl)) ?_; (with_reducible refine (impl_pairs.calls _ _ l0 _ ?side1 ?side2 ROW.out.2 ROW.out.1).mono ?_); (case side1 => repeat (first | exact HR0.out | exact (Kd.C_below HR0.out HB.out) | (with_reducible refine Kd.C_alloc ?_ _) | (with_reducible refine Kd.C_drewN ?_ _) | (with_reducible refine Kd.C_drew ?_))); (case side2 => exact HC0.out); rintro e w5 ⟨vs, rfl, hsz, hrows, hb⟩; refine ⟨_, rfl, ?_⟩; have HSZ := Aside0.mk hsz; have HROWS := Aside0.mk hrows; have HONE := Aside0.mk (impl_pairs.oneR hrows); have n0_ := Aside0.mk (below_step (by repeat (first | (with_reducible first | exact HB.out | apply below_alloc | apply pw_below_drewN | apply below_drew1) | exact HB.out)) hb); clear HB; have HB := n0_; clear n0_ hsz hrows hb) | (refine impl_pairs.stored (w5 := w5) rfl (.tmp 7) (.tmp 20) rfl _ rfl rfl rfl HSZ.out HONE.out HROWS.out ?_; intro W6 hb6 hg6 hr6; have n0_ := Aside0.mk (below_step HB.out hb6); clear HB; have HB := n0_; clear n0_ hb6; have hv := List.getElem?_eq_getElem (l := vs) (i := a1.toNat) (by rw [HSZ.out]; have := HN.out; omega); generalize vs[a1.toNat]'(by rw [HSZ.out]; have := HN.out; omega) = v at hv; have hr := hr6 _ _ hv; rw [← Ny.out] at hr; obtain ⟨A, c, rfl⟩ := Kd.R_slice hr; have hcv : W6.cell? ⟨w5.heap.size, a1.toNat, none⟩ = some (.slice A y.length c) := (by rw [cell_of_row W6 _ _ _ _ (0, 0) hg6]; simpa using hv); have p9 : (0 ≤ a1) = True := eq_true (by have := HN.out; omega); have q9 : (a1 < 21) = True := eq_true (by have := HN.out; omega); have HR := Aside0.mk hr; clear hr hv hg6 hr6)))
        go_ret3
        exact ⟨rfl, by repeat (first | (with_reducible first | exact HB.out | apply below_alloc | apply pw_below_drewN | apply below_drew1) | exact HB.out)⟩
      · rw [if_neg h0] at H
        obtain ⟨rfl, rfl, rfl⟩ : rd y 0 = r1 ∧ rd y 1 = r2 ∧ true = r3 := by simpa using H
        clear H
        have b0 : ((y.length : Int) == 0) = false := beq_eq_false_iff_ne.mpr (by omega)
        have H2 : Aside0 (y.length = 2) := ⟨by have := T2.out; omega⟩
        clear h0
        go_enter Try.func20, Try.ntmps20
        go_wp2_with (first | ((with_reducible refine gate_callee (f := 46) rfl ?_); refine goesL_ (some 10) rfl rfl Try.func46 (by kernel_rfl) rfl #[.slice A0 l0.length c0] rfl (by (try simp only [List.map_toArray, List.map_cons, List.map_nil]); first | done | rfl | (simp only [List.length_drop, List.length_take]; rfl)) ?_; (with_reducible refine (impl_isPairs.calls k _ _ l0 _ _ ?side1 ?side2 A2.out).mono ?_); (case side1 => repeat (first | exact HR0.out | exact (Kd.C_below HR0.out HB.out) | (with_reducible refine Kd.C_alloc ?_ _) | (with_reducible refine Kd.C_drewN ?_ _) | (with_reducible refine Kd.C_drew ?_))); (case side2 => exact HC0.out); rintro e w4 ⟨rfl, hb⟩; refine ⟨_, rfl, ?_⟩; have n0_ := Aside0.mk (below_step (by repeat (first | (with_reducible first | exact HB.out | apply below_alloc | apply pw_below_drewN | apply below_drew1) | exact HB.out)) hb); clear HB; have HB := n0_; clear n0_; (try clear hb)) | (go_at_call 50; (with_reducible refine (impl_isNumber.calls a1 _ _ A8.out).mono ?_); rintro e w' ⟨rfl, ⟨nd, rfl⟩⟩) | ((with_reducible refine gate_callee (f := 51) rfl ?_); refine goesL_ (some 19) rfl rfl Try.func51 (by kernel_rfl) rfl #[.slice A0 l0.length c0] rfl (by (try simp only [List.map_toArray, List.map_cons, List.map_nil]); first | done | rfl | (simp only [List.length_drop, List.length_take]; rfl)) ?_; (with_reducible refine (impl_pairs.calls _ _ l0 _ ?side1 ?side2 ROW.out.2 ROW.out.1).mono ?_); (case side1 => repeat (first | exact HR0.out | exact (Kd.C_below HR0.out HB.out) | (with_reducible refine Kd.C_alloc ?_ _) | (with_reducible refine Kd.C_drewN ?_ _) | (with_reducible refine Kd.C_drew ?_))); (case side2 => exact HC0.out); rintro e w5 ⟨vs, rfl, hsz, hrows, hb⟩; refine ⟨_, rfl, ?_⟩; have HSZ := Aside0.mk hsz; have HROWS := Aside0.mk hrows; have HONE := Aside0.mk (impl_pairs.oneR hrows); have n0_ := Aside0.mk (below_step (by repeat (first | (with_reducible first | exact HB.out | apply below_alloc | apply pw_below_drewN | apply below_drew1) | exact HB.out)) hb); clear HB; have HB := n0_; clear n0_ hsz hrows hb) | (refine impl_pairs.stored (w5 := w5) rfl (.tmp 7) (.tmp 20) rfl _ rfl rfl rfl HSZ.out HONE.out HROWS.out ?_; intro W6 hb6 hg6 hr6; have n0_ := Aside0.mk (below_step HB.out hb6); clear HB; have HB := n0_; clear n0_ hb6; have hv := List.getElem?_eq_getElem (l := vs) (i := a1.toNat) (by rw [HSZ.out]; have := HN.out; omega); generalize vs[a1.toNat]'(by rw [HSZ.out]; have := HN.out; omega) = v at hv; have hr := hr6 _ _ hv; rw [← Ny.out] at hr; obtain ⟨A, c, rfl⟩ := Kd.R_slice hr; have hcv : W6.cell? ⟨w5.heap.size, a1.toNat, none⟩ = some (.slice A y.length c) := (by rw [cell_of_row W6 _ _ _ _ (0, 0) hg6]; simpa using hv); have p9 : (0 ≤ a1) = True := eq_true (by have := HN.out; omega); have q9 : (a1 < 21) = True := eq_true (by have := HN.out; omega); have HR := Aside0.mk hr; clear hr hv hg6 hr6; have p126 : 0 ≤ (0 : Int) := (by omega); have q126 : 0 < (y.length : Int) := (by have := H2.out; omega); obtain ⟨ad126, e126, hx126_0⟩ := Kd.at_int (Kd.R_reads' HR.out).2.2 0 p126 q126; cases e126; have qi126 : (0 < y.length) = True := eq_true (by omega); (try rw [show ((0 : Int)).toNat = 0 from rfl] at hx126_0); (try rw [Addr.add_zero'] at hx126_0); replace p126 := eq_true p126; replace q126 := eq_true q126; have p127 : 0 ≤ (1 : Int) := (by omega); have q127 : 1 < (y.length : Int) := (by have := H2.out; omega); obtain ⟨ad127, e127, hx127_0⟩ := Kd.at_int (Kd.R_reads' HR.out).2.2 1 p127 q127; obtain rfl : ad126 = ad127 := (by injection e127); (try simp only [show (1 : Int).toNat = 1 from rfl, Nat.reduceMul, Nat.reduceEqDiff, Go.Addr.add, ↓reduceIte] at hx127_0); have qi127 : (1 < y.length) = True := eq_true (by omega); (try rw [show ((1 : Int)).toNat = 1 from rfl] at hx127_0); replace p127 := eq_true p127; replace q127 := eq_true q127))
        repeat (go_quiet (first | ((with_reducible refine gate_callee (f := 46) rfl ?_); refine goesL_ (some 10) rfl rfl Try.func46 (by kernel_rfl) rfl #[.slice A0 l0.length c0] rfl (by (try simp only [List.map_toArray, List.map_cons, List.map_nil]); first | done | rfl | (simp only [List.length_drop, List.length_take]; rfl)) ?_; (with_reducible refine (impl_isPairs.calls k _ _ l0 _ _ ?side1 ?side2 A2.out).mono ?_); (case side1 => repeat (first | exact HR0.out | exact (Kd.C_below HR0.out HB.out) | (with_reducible refine Kd.C_alloc ?_ _) | (with_reducible refine Kd.C_drewN ?_ _) | (with_reducible refine Kd.C_drew ?_))); (case side2 => exact HC0.out); rintro e w4 ⟨rfl, hb⟩; refine ⟨_, rfl, ?_⟩; have n0_ := Aside0.mk (below_step (by repeat (first | (with_reducible first | exact HB.out | apply below_alloc | apply pw_below_drewN | apply below_drew1) | exact HB.out)) hb); clear HB; have HB := n0_; clear n0_; (try clear hb)) | (go_at_call 50; (with_reducible refine (impl_isNumber.calls a1 _ _ A8.out).mono ?_); rintro e w' ⟨rfl, ⟨nd, rfl⟩⟩) | ((with_reducible refine gate_callee (f := 51) rfl ?_); refine goesL_ (some 19) rfl rfl Try.func51 (by kernel_rfl) rfl #[.slice A0 l0.length c0] rfl (by (try simp only [List.map_toArray, List.map_cons, List.map_nil]); first | done | rfl | (simp only [List.length_drop, List.length_take]; rfl)) ?_; (with_reducible refine (impl_pairs.calls _ _ l0 _ ?side1 ?side2 ROW.out.2 ROW.out.1).mono ?_); (case side1 => repeat (first | exact HR0.out | exact (Kd.C_below HR0.out HB.out) | (with_reducible refine Kd.C_alloc ?_ _) | (with_reducible refine Kd.C_drewN ?_ _) | (with_reducible refine Kd.C_drew ?_))); (case side2 => exact HC0.out); rintro e w5 ⟨vs, rfl, hsz, hrows, hb⟩; refine ⟨_, rfl, ?_⟩; have HSZ := Aside0.mk hsz; have HROWS := Aside0.mk hrows; have HONE := Aside0.mk (impl_pairs.oneR hrows); have n0_ := Aside0.mk (below_step (by repeat (first | (with_reducible first | exact HB.out | apply below_alloc | apply pw_below_drewN | apply below_drew1) | exact HB.out)) hb); clear HB; have HB := n0_; clear n0_ hsz hrows hb) | (refine impl_pairs.stored (w5 := w5) rfl (.tmp 7) (.tmp 20) rfl _ rfl rfl rfl HSZ.out HONE.out HROWS.out ?_; intro W6 hb6 hg6 hr6; have n0_ := Aside0.mk (below_step HB.out hb6); clear HB; have HB := n0_; clear n0_ hb6; have hv := List.getElem?_eq_getElem (l := vs) (i := a1.toNat) (by rw [HSZ.out]; have := HN.out; omega); generalize vs[a1.toNat]'(by rw [HSZ.out]; have := HN.out; omega) = v at hv; have hr := hr6 _ _ hv; rw [← Ny.out] at hr; obtain ⟨A, c, rfl⟩ := Kd.R_slice hr; have hcv : W6.cell? ⟨w5.heap.size, a1.toNat, none⟩ = some (.slice A y.length c) := (by rw [cell_of_row W6 _ _ _ _ (0, 0) hg6]; simpa using hv); have p9 : (0 ≤ a1) = True := eq_true (by have := HN.out; omega); have q9 : (a1 < 21) = True := eq_true (by have := HN.out; omega); have HR := Aside0.mk hr; clear hr hv hg6 hr6; have p126 : 0 ≤ (0 : Int) := (by omega); have q126 : 0 < (y.length : Int) := (by have := H2.out; omega); obtain ⟨ad126, e126, hx126_0⟩ := Kd.at_int (Kd.R_reads' HR.out).2.2 0 p126 q126; cases e126; have qi126 : (0 < y.length) = True := eq_true (by omega); (try rw [show ((0 : Int)).toNat = 0 from rfl] at hx126_0); (try rw [Addr.add_zero'] at hx126_0); replace p126 := eq_true p126; replace q126 := eq_true q126; have p127 : 0 ≤ (1 : Int) := (by omega); have q127 : 1 < (y.length : Int) := (by have := H2.out; omega); obtain ⟨ad127, e127, hx127_0⟩ := Kd.at_int (Kd.R_reads' HR.out).2.2 1 p127 q127; obtain rfl : ad126 = ad127 := (by injection e127); (try simp only [show (1 : Int).toNat = 1 from rfl, Nat.reduceMul, Nat.reduceEqDiff, Go.Addr.add, ↓reduceIte] at hx127_0); have qi127 : (1 < y.length) = True := eq_true (by omega); (try rw [show ((1 : Int)).toNat = 1 from rfl] at hx127_0); replace p127 := eq_true p127; replace q127 := eq_true q127)); try go_wp2_with (first | ((with_reducible refine gate_callee (f := 46) rfl ?_); refine goesL_ (some 10) rfl rfl Try.func46 (by kernel_rfl) rfl #[.slice A0 l0.length c0] rfl (by (try simp only [List.map_toArray, List.map_cons, List.map_nil]); first | done | rfl | (simp only [List.length_drop, List.length_take]; rfl)) ?_; (with_reducible refine (impl_isPairs.calls k _ _ l0 _ _ ?side1 ?side2 A2.out).mono ?_); (case side1 => repeat (first | exact HR0.out | exact (Kd.C_below HR0.out HB.out) | (with_reducible refine Kd.C_alloc ?_ _) | (with_reducible refine Kd.C_drewN ?_ _) | (with_reducible refine Kd.C_drew ?_))); (case side2 => exact HC0.out); rintro e w4 ⟨rfl, hb⟩; refine ⟨_, rfl, ?_⟩; have n0_ := Aside0.mk (below_step (by repeat (first | (with_reducible first | exact HB.out | apply below_alloc | apply pw_below_drewN | apply below_drew1) | exact HB.out)) hb); clear HB; have HB := n0_; clear n0_; (try clear hb)) | (go_at_call 50; (with_reducible refine (impl_isNumber.calls a1 _ _ A8.out).mono ?_); rintro e w' ⟨rfl, ⟨nd, rfl⟩⟩) | ((with_reducible refine gate_callee (f := 51) rfl ?_); refine goesL_ (some 19) rfl rfl Try.func51 (by kernel_rfl) rfl #[.slice A0 l0.length c0] rfl (by (try simp only [List.map_toArray, List.map_cons, List.map_nil]); first | done | rfl | (simp only [List.length_drop, List.length_take]; rfl)) ?_; (with_reducible refine (impl_pairs.calls _ _ l0 _ ?side1 ?side2 ROW.out.2 ROW.out.1).mono ?_); (case side1 => repeat (first | exact HR0.out | exact (Kd.C_below HR0.out HB.out) | (with_reducible refine Kd.C_alloc ?_ _) | (with_reducible refine Kd.C_drewN ?_ _) | (with_reducible refine Kd.C_drew ?_))); (case side2 => exact HC0.out); rintro e w5 ⟨vs, rfl, hsz, hrows, hb⟩; refine ⟨_, rfl, ?_⟩; have HSZ := Aside0.mk hsz; have HROWS := Aside0.mk hrows; have HONE := Aside0.mk (impl_pairs.oneR hrows); have n0_ := Aside0.mk (below_step (by repeat (first | (with_reducible first | exact HB.out | apply below_alloc | apply pw_below_drewN | apply below_drew1) | exact HB.out)) hb); clear HB; have HB := n0_; clear n0_ hsz hrows hb) | (refine impl_pairs.stored (w5 := w5) rfl (.tmp 7) (.tmp 20) rfl _ rfl rfl rfl HSZ.out HONE.out HROWS.out ?_; intro W6 hb6 hg6 hr6; have n0_ := Aside0.mk (below_step HB.out hb6); clear HB; have HB := n0_; clear n0_ hb6; have hv := List.getElem?_eq_getElem (l := vs) (i := a1.toNat) (by rw [HSZ.out]; have := HN.out; omega); generalize vs[a1.toNat]'(by rw [HSZ.out]; have := HN.out; omega) = v at hv; have hr := hr6 _ _ hv; rw [← Ny.out] at hr; obtain ⟨A, c, rfl⟩ := Kd.R_slice hr; have hcv : W6.cell? ⟨w5.heap.size, a1.toNat, none⟩ = some (.slice A y.length c) := (by rw [cell_of_row W6 _ _ _ _ (0, 0) hg6]; simpa using hv); have p9 : (0 ≤ a1) = True := eq_true (by have := HN.out; omega); have q9 : (a1 < 21) = True := eq_true (by have := HN.out; omega); have HR := Aside0.mk hr; clear hr hv hg6 hr6; have p126 : 0 ≤ (0 : Int) := (by omega); have q126 : 0 < (y.length : Int) := (by have := H2.out; omega); obtain ⟨ad126, e126, hx126_0⟩ := Kd.at_int (Kd.R_reads' HR.out).2.2 0 p126 q126; cases e126; have qi126 : (0 < y.length) = True := eq_true (by omega); (try rw [show ((0 : Int)).toNat = 0 from rfl] at hx126_0); (try rw [Addr.add_zero'] at hx126_0); replace p126 := eq_true p126; replace q126 := eq_true q126; have p127 : 0 ≤ (1 : Int) := (by omega); have q127 : 1 < (y.length : Int) := (by have := H2.out; omega); obtain ⟨ad127, e127, hx127_0⟩ := Kd.at_int (Kd.R_reads' HR.out).2.2 1 p127 q127; obtain rfl : ad126 = ad127 := (by injection e127); (try simp only [show (1 : Int).toNat = 1 from rfl, Nat.reduceMul, Nat.reduceEqDiff, Go.Addr.add, ↓reduceIte] at hx127_0); have qi127 : (1 < y.length) = True := eq_true (by omega); (try rw [show ((1 : Int)).toNat = 1 from rfl] at hx127_0); replace p127 := eq_true p127; replace q127 := eq_true q127)))
        go_ret3
        exact ⟨rfl, by repeat (first | (with_reducible first | exact HB.out | apply below_alloc | apply pw_below_drewN | apply below_drew1) | exact HB.out)⟩
    · rw [if_neg hn] at H
      obtain ⟨rfl, rfl, rfl⟩ : 0 = r1 ∧ 0 = r2 ∧ false = r3 := by simpa using H
      clear H
      have A8 : Aside0 (impl_isNumber.f a1 = some false) := ⟨by unfold impl_isNumber.f; split <;> simp <;> omega⟩
      clear hn
      go_enter Try.func20, Try.ntmps20
      go_wp2_with (first | ((with_reducible refine gate_callee (f := 46) rfl ?_); refine goesL_ (some 10) rfl rfl Try.func46 (by kernel_rfl) rfl #[.slice A0 l0.length c0] rfl (by (try simp only [List.map_toArray, List.map_cons, List.map_nil]); first | done | rfl | (simp only [List.length_drop, List.length_take]; rfl)) ?_; (with_reducible refine (impl_isPairs.calls k _ _ l0 _ _ ?side1 ?side2 A2.out).mono ?_); (case side1 => repeat (first | exact HR0.out | exact (Kd.C_below HR0.out HB.out) | (with_reducible refine Kd.C_alloc ?_ _) | (with_reducible refine Kd.C_drewN ?_ _) | (with_reducible refine Kd.C_drew ?_))); (case side2 => exact HC0.out); rintro e w4 ⟨rfl, hb⟩; refine ⟨_, rfl, ?_⟩; have n0_ := Aside0.mk (below_step (by repeat (first | (with_reducible first | exact HB.out | apply below_alloc | apply pw_below_drewN | apply below_drew1) | exact HB.out)) hb); clear HB; have HB := n0_; clear n0_; (try clear hb)) | (go_at_call 50; (with_reducible refine (impl_isNumber.calls a1 _ _ A8.out).mono ?_); rintro e w' ⟨rfl, ⟨nd, rfl⟩⟩))
      repeat (go_quiet (first | ((with_reducible refine gate_callee (f := 46) rfl ?_); refine goesL_ (some 10) rfl rfl Try.func46 (by kernel_rfl) rfl #[.slice A0 l0.length c0] rfl (by (try simp only [List.map_toArray, List.map_cons, List.map_nil]); first | done | rfl | (simp only [List.length_drop, List.length_take]; rfl)) ?_; (with_reducible refine (impl_isPairs.calls k _ _ l0 _ _ ?side1 ?side2 A2.out).mono ?_); (case side1 => repeat (first | exact HR0.out | exact (Kd.C_below HR0.out HB.out) | (with_reducible refine Kd.C_alloc ?_ _) | (with_reducible refine Kd.C_drewN ?_ _) | (with_reducible refine Kd.C_drew ?_))); (case side2 => exact HC0.out); rintro e w4 ⟨rfl, hb⟩; refine ⟨_, rfl, ?_⟩; have n0_ := Aside0.mk (below_step (by repeat (first | (with_reducible first | exact HB.out | apply below_alloc | apply pw_below_drewN | apply below_drew1) | exact HB.out)) hb); clear HB; have HB := n0_; clear n0_; (try clear hb)) | (go_at_call 50; (with_reducible refine (impl_isNumber.calls a1 _ _ A8.out).mono ?_); rintro e w' ⟨rfl, ⟨nd, rfl⟩⟩)); try go_wp2_with (first | ((with_reducible refine gate_callee (f := 46) rfl ?_); refine goesL_ (some 10) rfl rfl Try.func46 (by kernel_rfl) rfl #[.slice A0 l0.length c0] rfl (by (try simp only [List.map_toArray, List.map_cons, List.map_nil]); first | done | rfl | (simp only [List.length_drop, List.length_take]; rfl)) ?_; (with_reducible refine (impl_isPairs.calls k _ _ l0 _ _ ?side1 ?side2 A2.out).mono ?_); (case side1 => repeat (first | exact HR0.out | exact (Kd.C_below HR0.out HB.out) | (with_reducible refine Kd.C_alloc ?_ _) | (with_reducible refine Kd.C_drewN ?_ _) | (with_reducible refine Kd.C_drew ?_))); (case side2 => exact HC0.out); rintro e w4 ⟨rfl, hb⟩; refine ⟨_, rfl, ?_⟩; have n0_ := Aside0.mk (below_step (by repeat (first | (with_reducible first | exact HB.out | apply below_alloc | apply pw_below_drewN | apply below_drew1) | exact HB.out)) hb); clear HB; have HB := n0_; clear n0_; (try clear hb)) | (go_at_call 50; (with_reducible refine (impl_isNumber.calls a1 _ _ A8.out).mono ?_); rintro e w' ⟨rfl, ⟨nd, rfl⟩⟩)))
      go_ret3
      exact ⟨rfl, by repeat (first | (with_reducible first | exact HB.out | apply below_alloc | apply pw_below_drewN | apply below_drew1) | exact HB.out)⟩

/-! ### slices_Clone_int_int: function 60 -/
def slices_Clone_int_int.f (l0 : List Int) : Option (List Int) := if l0.length < 17592186044416 then (some l0) else (none)
set_option maxHeartbeats 8000000 in
set_option maxRecDepth 100000 in
theorem slices_Clone_int_int.calls (A0 : Option Addr) (c0 : Nat) (l0 : List Int) (r : List Int) (w : World) (hr0 : Kd.C (Kd.int .i64) w A0 l0.length l0) (hc0 : l0.length ≤ c0) (h : slices_Clone_int_int.f l0 = some r) :
    Calls Try.prog 60 #[.slice A0 l0.length c0] w fun e w' => ∃ v0_ : Value, e = .returned (v0_) ∧ Kd.R (Kd.int .i64) 3 w' w.heap.size (fun _ => True) v0_ r ∧ Below w.heap.size w w' := by
  have HR0 := Aside0.mk hr0
  have HC0 := Aside0.mk hc0
  have hlen := hr0.1
  have hsome := hr0.2.2
  clear hc0
  have HB := Aside0.mk (Below.refl w.heap.size w)
  unfold slices_Clone_int_int.f at h
  by_cases c2 : l0.length < 17592186044416
  · rw [if_pos c2] at h
    obtain rfl := Option.some.inj h
    clear h
    cases A0 with
    | none =>
      have e0 : l0 = [] := by
        rcases Nat.eq_zero_or_pos l0.length with h0 | h0
        · exact List.eq_nil_of_length_eq_zero h0
        · obtain ⟨ad, e, _⟩ := hsome h0
          cases e
      subst e0
      clear hr0 hlen hsome HR0
      have heq := fun (w : World) (n c : Nat) => Go.Lib.run_eql_slice_nil (P := Try.prog) w 22 3 none n c 0 0 Try.underlying22
      go_enter Try.func60, Try.ntmps60
      go_wp2
      go_ret
      exact ⟨_, rfl, Kd.R_nil _ _ _ _ _, HB.out⟩
    | some a0 =>
      clear hr0 hlen hsome
      have LMc2 := Aside0.mk c2
      clear c2
      obtain ⟨y113, hy113⟩ : ∃ y_ : List Int, y_ = (([] : List Int)) := ⟨_, rfl⟩
      have Ny113 := Aside0.mk hy113
      have Ly113 : y113.length = 0 := by rw [hy113]; rfl
      have LLy := Aside0.mk Ly113
      clear hy113 Ly113
      obtain ⟨y116, hy116⟩ : ∃ y_ : List Int, y_ = (y113 ++ l0) := ⟨_, rfl⟩
      have Ny116 := Aside0.mk hy116
      clear hy116
      have heq := fun (w : World) (n c : Nat) => Go.Lib.run_eql_slice_nil (P := Try.prog) w 22 3 (some a0) n c 0 0 Try.underlying22
      go_enter Try.func60, Try.ntmps60
      go_wp2_with (first | ((with_reducible refine gate_dst (N := 5) rfl ?_); refine Kd.R_lit (Kd.int .i64) _ 3 ?hg (N := 5) ?hd (xs := ([] : List Int)) (inner := []) (ok := fun _ => True) (okp := fun _ => True) ?hr ?hp (fun _ hk => hk) trivial (Below.refl _ _) (Nat.le_refl _) (by simp) ?_; (case hd => rfl); (case hg => rfl); (case hr => first | (go_simp; done) | (go_simp; rfl)); (case hp => exact (Reps.none _ _)); intro v114 w3 ho4 hb hg_ hnew_; clear hg_ hnew_; (first | rw [← Ny113.out] at ho4 | (simp only [Int.reduceToNat] at ho4; rw [← Ny113.out] at ho4)); have n0_ := Aside0.mk (Kd.R_lower ho4 (below_size (by repeat (first | (with_reducible first | exact HB.out | apply below_alloc | apply pw_below_drewN | apply below_drew1) | exact HB.out)))); have n1_ := Aside0.mk (below_step (by repeat (first | (with_reducible first | exact HB.out | apply below_alloc | apply pw_below_drewN | apply below_drew1) | exact HB.out)) hb); clear HB; have HO115 := n0_; have HB := n1_; clear n0_ n1_; clear hb ho4) | ((with_reducible refine gate_builtin (b := .append) (xs := #[.tmp 5, .tmp 6]) rfl ?_); at_builtin; refine Kd.R_append_rows (Kd.int .i64) (w0 := w) w.heap.size rfl (.tmp 5) (.tmp 6) 22 3 (.int .i64 0) 8 rfl Try.underlying22 info3 rfl (by decide) (by omega) v114 y113 l0 _ _ _ (fun _ => True) (fun _ => False) rfl rfl ?aO ?aR (fun _ _ h => h) (fun _ h => h.elim) ?aF ?aB ?aS ?aL ?_; (case aR => repeat (first | exact (Kd.C_below HR0.out HB.out) | (with_reducible refine Kd.C_alloc ?_ _) | (with_reducible refine Kd.C_drewN ?_ _) | (with_reducible refine Kd.C_drew ?_))); (case aB => exact (by repeat (first | (with_reducible first | exact HB.out | apply below_alloc | apply pw_below_drewN | apply below_drew1) | exact HB.out))); (case aF => exact (fun _ _ => trivial)); (case aO => exact (by (with_reducible repeat (first | apply Kd.R_alloc | apply Kd.R_drewN | apply Kd.R_drew)); exact HO115.out)); (case aS => exact (below_size (by repeat (first | (with_reducible first | exact HB.out | apply below_alloc | apply pw_below_drewN | apply below_drew1) | exact HB.out)))); (case aL => have := LMc2.out; have := LLy.out; omega); intro v117 w5 ho hb hg hat; rw [← Ny116.out] at ho; have n0_ := Aside0.mk (hb); have n1_ := Aside0.mk (ho); clear HB; clear HO115; have HB := n0_; have HO118 := n1_; clear n0_ n1_; clear ho hb hg hat))
      go_ret
      have ey : y116 = l0 := by rw [Ny116.out, Ny113.out]; rfl
      exact ⟨_, rfl, by rw [← ey]; (with_reducible repeat (first | apply Kd.R_alloc | apply Kd.R_drewN | apply Kd.R_drew)); exact HO118.out, by repeat (first | (with_reducible first | exact HB.out | apply below_alloc | apply pw_below_drewN | apply below_drew1) | exact HB.out)⟩
  · rw [if_neg c2] at h
    exact absurd h (by simp)


/-! ### impl_DropNumber: function 30 -/
def impl_DropNumber.f (k : Nat) (l0 : List Int) (a1 : Int) : Option (List Int × Bool) := (impl_PlacesOf.f k l0 a1).bind fun bt142 => (if bt142.2.2 = true then ((slices_Clone_int_int.f l0).bind fun t145 => (if 0 ≤ bt142.1 then (if bt142.1 < (t145.length : Int) then (if 0 ≤ bt142.2.1 then (if bt142.2.1 < (t145.length : Int) then (some (((t145.set (bt142.1 : Int).toNat 0).set (bt142.2.1 : Int).toNat 0), true)) else (none)) else (none)) else (none)) else (none))) else (some (([] : List Int), false)))
theorem impl_DropNumber.mono : ∀ a0 a1 k, LeO (impl_DropNumber.f k a0 a1) (impl_DropNumber.f (k + 1) a0 a1) := by
  intro a0 a1 k
  unfold impl_DropNumber.f
  repeat' first
      | (with_reducible exact impl_PlacesOf.mono _ _ _)
      | (with_reducible exact LeO.refl _)
      | (with_reducible exact LeO.none _)
      | (with_reducible refine LeO.ite ?_ ?_)
      | (with_reducible refine LeO.bind ?_ (fun _ => ?_))
      | exact impl_PlacesOf.mono _ _ _
      | exact LeO.none _
      | refine LeO.ite ?_ ?_
      | refine LeO.bind ?_ (fun _ => ?_)
set_option maxHeartbeats 8000000 in
set_option maxRecDepth 100000 in
theorem impl_DropNumber.calls (k : Nat) (A0 : Option Addr) (c0 : Nat) (l0 : List Int) (a1 : Int) (r1 : List Int) (r2 : Bool) (w : World) (hr0 : Kd.C (Kd.int .i64) w A0 l0.length l0) (hc0 : l0.length ≤ c0) (h : impl_DropNumber.f k l0 a1 = some (r1, r2)) :
    Calls Try.prog 30 #[.slice A0 l0.length c0, .int .i64 a1] w fun e w' => ∃ v0_ : Value, e = .returned (.tuple #[v0_, .bool r2]) ∧ Kd.R (Kd.int .i64) 3 w' w.heap.size (fun _ => True) v0_ r1 ∧ Below w.heap.size w w' := by
  have HR0 := Aside0.mk hr0
  have HC0 := Aside0.mk hc0
  clear hr0 hc0
  have HB := Aside0.mk (Below.refl w.heap.size w)
  have H : ((impl_PlacesOf.f k l0 a1).bind fun bt142 => (if bt142.2.2 = true then ((slices_Clone_int_int.f l0).bind fun t145 => (if 0 ≤ bt142.1 then (if bt142.1 < (t145.length : Int) then (if 0 ≤ bt142.2.1 then (if bt142.2.1 < (t145.length : Int) then (some (((t145.set (bt142.1 : Int).toNat 0).set (bt142.2.1 : Int).toNat 0), true)) else (none)) else (none)) else (none)) else (none))) else (some (([] : List Int), false)))) = some (r1, r2) := h
  clear h
  replace H := Option.bind_eq_some_iff.mp H
  obtain ⟨⟨t142, t143, t144⟩, A30, H⟩ := H
  replace H : (if t144 = true then ((slices_Clone_int_int.f l0).bind fun t145 => (if 0 ≤ t142 then (if t142 < (t145.length : Int) then (if 0 ≤ t143 then (if t143 < (t145.length : Int) then (some (((t145.set (t142 : Int).toNat 0).set (t143 : Int).toNat 0), true)) else (none)) else (none)) else (none)) else (none))) else (some (([] : List Int), false))) = some (r1, r2) := H
  have A3 := Aside0.mk A30
  clear A30
  by_cases c4 : t144 = true
  · subst c4
    have H1 : ((slices_Clone_int_int.f l0).bind fun t145 => (if 0 ≤ t142 then (if t142 < (t145.length : Int) then (if 0 ≤ t143 then (if t143 < (t145.length : Int) then (some (((t145.set (t142 : Int).toNat 0).set (t143 : Int).toNat 0), true)) else (none)) else (none)) else (none)) else (none))) = some (r1, r2) := by rw [if_pos rfl] at H; exact H
    clear H
    have H := H1
    clear H1
    replace H := Option.bind_eq_some_iff.mp H
    obtain ⟨t145, A50, H⟩ := H
    replace H : (if 0 ≤ t142 then (if t142 < (t145.length : Int) then (if 0 ≤ t143 then (if t143 < (t145.length : Int) then (some (((t145.set (t142 : Int).toNat 0).set (t143 : Int).toNat 0), true)) else (none)) else (none)) else (none)) else (none)) = some (r1, r2) := H
    have A5 := Aside0.mk A50
    clear A50
    by_cases c6 : 0 ≤ t142
    · rw [if_pos c6] at H
      have c6b0 : decide (0 ≤ t142) = true := decide_eq_true c6
      clear c6
      by_cases c7 : t142 < (t145.length : Int)
      · rw [if_pos c7] at H
        have c7b0 : decide (t142 < (t145.length : Int)) = true := decide_eq_true c7
        clear c7
        obtain ⟨y148, hy148⟩ : ∃ y_ : List Int, y_ = (t145.set (t142 : Int).toNat 0) := ⟨_, rfl⟩
        replace H : (if 0 ≤ t143 then (if t143 < (t145.length : Int) then (some ((y148.set (t143 : Int).toNat 0), true)) else (none)) else (none)) = some (r1, r2) := by first | (rw [hy148]; with_reducible exact H) | (have H2_ := (Option.bind_some _ _).symm.trans H; rw [hy148]; with_reducible exact H2_) | (have H2_ := (Option.bind_some _ _).symm.trans H; with_reducible exact H2_) | with_reducible exact H | (rw [hy148]; exact H) | exact H
        have Ny148 := Aside0.mk hy148
        clear hy148
        by_cases c9 : 0 ≤ t143
        · rw [if_pos c9] at H
          have c9b0 : decide (0 ≤ t143) = true := decide_eq_true c9
          clear c9
          by_cases c10 : t143 < (t145.length : Int)
          · rw [if_pos c10] at H
            have c10b0 : decide (t143 < (t145.length : Int)) = true := decide_eq_true c10
            clear c10
            obtain ⟨y149, hy149⟩ : ∃ y_ : List Int, y_ = (y148.set (t143 : Int).toNat 0) := ⟨_, rfl⟩
            replace H : (some (y149, true)) = some (r1, r2) := by first | (rw [hy149]; with_reducible exact H) | (have H2_ := (Option.bind_some _ _).symm.trans H; rw [hy149]; with_reducible exact H2_) | (have H2_ := (Option.bind_some _ _).symm.trans H; with_reducible exact H2_) | with_reducible exact H | (rw [hy149]; exact H) | exact H
            have Ny149 := Aside0.mk hy149
            clear hy149
            simp only [Option.some.injEq, Prod.mk.injEq] at H
            obtain ⟨rfl, rfl⟩ := H
            go_enter Try.func30, Try.ntmps30
            go_wp2_with (first | ((with_reducible refine gate_callee (f := 20) rfl ?_); refine goesL_ (some 13) rfl rfl Try.func20 (by kernel_rfl) rfl #[.slice A0 l0.length c0, .int .i64 a1] rfl (by (try simp only [List.map_toArray, List.map_cons, List.map_nil]); first | done | rfl | (simp only [List.length_drop, List.length_take]; rfl)) ?_; (with_reducible refine (impl_PlacesOf.calls k _ _ l0 a1 t142 t143 true _ ?side1 ?side2 A3.out).mono ?_); (case side1 => repeat (first | exact HR0.out | (with_reducible refine Kd.C_alloc ?_ _) | (with_reducible refine Kd.C_drewN ?_ _) | (with_reducible refine Kd.C_drew ?_))); (case side2 => exact HC0.out); rintro e w12 ⟨rfl, hb⟩; refine ⟨_, rfl, ?_⟩; have n0_ := Aside0.mk (below_step (by repeat (first | (with_reducible first | exact HB.out | apply below_alloc | apply pw_below_drewN | apply below_drew1) | exact HB.out)) hb); clear HB; have HB := n0_; clear n0_; (try clear hb); (try clear hb2); (try clear hk); (try clear hi)) | ((with_reducible refine gate_callee (f := 60) rfl ?_); refine goesL_ (some 20) rfl rfl Try.func60 (by kernel_rfl) rfl #[.slice A0 l0.length c0] rfl (by (try simp only [List.map_toArray, List.map_cons, List.map_nil]); first | done | rfl | (simp only [List.length_drop, List.length_take]; rfl)) ?_; (with_reducible refine (slices_Clone_int_int.calls _ _ l0 t145 _ ?side1 ?side2 A5.out).mono ?_); (case side1 => repeat (first | exact (Kd.C_below HR0.out HB.out) | (with_reducible refine Kd.C_alloc ?_ _) | (with_reducible refine Kd.C_drewN ?_ _) | (with_reducible refine Kd.C_drew ?_))); (case side2 => exact HC0.out); rintro e w13 ⟨v146, rfl, ho0, hb⟩; refine ⟨_, rfl, ?_⟩; have n0_ := Aside0.mk (Kd.R_lower ho0 (below_size (by repeat (first | (with_reducible first | exact HB.out | apply below_alloc | apply pw_below_drewN | apply below_drew1) | exact HB.out)))); have n1_ := Aside0.mk (below_step (by repeat (first | (with_reducible first | exact HB.out | apply below_alloc | apply pw_below_drewN | apply below_drew1) | exact HB.out)) hb); clear HB; have HO147 := n0_; have HB := n1_; clear n0_ n1_; (try clear hb); (try clear hb2); (try clear hk); (try clear hi); (try clear ho0); have p8 : 0 ≤ (t142 : Int) := of_decide_eq_true (by first | (with_reducible assumption) | assumption); have q8 : (t142 : Int) < ((t145.length : Int) : Int) := of_decide_eq_true (by first | (with_reducible assumption) | assumption); obtain ⟨go8, co8, eo8, gb8, gl8, cl8, HG8⟩ := Kd.R_form HO147.out (by omega); (first | cases eo8 | (injection eo8 with ea_ en_ ec_; (first | subst ea_ | (injection ea_ with ea_; subst ea_)); subst ec_; clear en_)); have GB8 := Aside0.mk gb8; have GG8 := Aside0.mk HG8; clear gb8 gl8 HG8; obtain ⟨hx8_0, hf8_0⟩ := Kd.R_celln 0 HO147.out (t142 : Int) p8 q8; replace p8 := eq_true p8; replace q8 := eq_true q8; obtain ⟨hy14_, hz14_⟩ := Kd.R_celln 0 HO147.out (t142 : Int) (of_decide_eq_true (by first | (with_reducible assumption) | assumption)) (of_decide_eq_true (by first | (with_reducible assumption) | assumption)); have HP14 := Kd.R_putg HO147.out (t142 : Int) 0) | ((with_reducible refine gate_store (t := 3) (p := 23) rfl ?_); refine store_event (t := 3) (p := 23) (v := ?vo_w15) (w1 := (w13.setCell ⟨go8, (t142 : Int).toNat, none⟩ (.int .i64 0))) ?hg ?ho ?hn ?hr ?_; (case ho => rfl); (case hg => rfl); (case hn => rfl); (case hr => first | (go_simp; done) | (go_simp; rfl)); intro w15 hw; have hg : w13.grownBy w15 (some go8) := (by rw [hw]; exact HP14.2); have hp_ : Kd.R (Kd.int .i64) 3 w15 w.heap.size (fun _ => True) (.slice (some ⟨go8, 0, none⟩) t145.length co8) y148 := (by rw [hw, Ny148.out]; exact HP14.1); clear HP14; have n0_ := Aside0.mk (hp_); have n1_ := Aside0.mk ((by rw [hw]; exact below_set (HB.out) GB8.out : Below w.heap.size w w15)); clear HO147; clear HB; have HO147 := n0_; have HB := n1_; clear n0_ n1_; clear hg hw hp_; have p11 : 0 ≤ (t143 : Int) := of_decide_eq_true (by first | (with_reducible assumption) | assumption); have q11 : (t143 : Int) < ((t145.length : Int) : Int) := of_decide_eq_true (by first | (with_reducible assumption) | assumption); obtain ⟨hx11_0, hf11_0⟩ := Kd.R_celln 0 HO147.out (t143 : Int) p11 q11; replace p11 := eq_true p11; replace q11 := eq_true q11; obtain ⟨hy16_, hz16_⟩ := Kd.R_celln 0 HO147.out (t143 : Int) (of_decide_eq_true (by first | (with_reducible assumption) | assumption)) (of_decide_eq_true (by first | (with_reducible assumption) | assumption)); have HP16 := Kd.R_putg HO147.out (t143 : Int) 0) | ((with_reducible refine gate_store (t := 3) (p := 26) rfl ?_); refine store_event (t := 3) (p := 26) (v := ?vo_w17) (w1 := (w15.setCell ⟨go8, (t143 : Int).toNat, none⟩ (.int .i64 0))) ?hg ?ho ?hn ?hr ?_; (case ho => rfl); (case hg => rfl); (case hn => rfl); (case hr => first | (go_simp; done) | (go_simp; rfl)); intro w17 hw; have hg : w15.grownBy w17 (some go8) := (by rw [hw]; exact HP16.2); have hp_ : Kd.R (Kd.int .i64) 3 w17 w.heap.size (fun _ => True) (.slice (some ⟨go8, 0, none⟩) t145.length co8) y149 := (by rw [hw, Ny149.out]; exact HP16.1); clear HP16; have n0_ := Aside0.mk (hp_); have n1_ := Aside0.mk ((by rw [hw]; exact below_set (HB.out) GB8.out : Below w.heap.size w w17)); clear HO147; clear HB; have HO147 := n0_; have HB := n1_; clear n0_ n1_; clear hg hw hp_))
            go_ret2
            exact ⟨_, by first | rfl | (simp [errW_none, errW_some] <;> rfl) | (simp [*, errW_none, errW_some] <;> rfl), by (with_reducible repeat (first | apply Kd.R_alloc | apply Kd.R_drewN | apply Kd.R_drew)); exact HO147.out, by repeat (first | (with_reducible first | exact HB.out | apply below_alloc | apply pw_below_drewN | apply below_drew1) | exact HB.out)⟩
          · rw [if_neg c10] at H
            exact absurd H (by simp)
        · rw [if_neg c9] at H
          exact absurd H (by simp)
      · rw [if_neg c7] at H
        exact absurd H (by simp)
    · rw [if_neg c6] at H
      exact absurd H (by simp)
  · replace c4 := Bool.eq_false_iff.mpr c4
    subst c4
    have H1 : (some (([] : List Int), false)) = some (r1, r2) := by rw [if_neg (show ¬ (false = true) by decide)] at H; exact H
    clear H
    have H := H1
    clear H1
    simp only [Option.some.injEq, Prod.mk.injEq] at H
    obtain ⟨rfl, rfl⟩ := H
    go_enter Try.func30, Try.ntmps30
    go_wp2_with (first | ((with_reducible refine gate_callee (f := 20) rfl ?_); refine goesL_ (some 13) rfl rfl Try.func20 (by kernel_rfl) rfl #[.slice A0 l0.length c0, .int .i64 a1] rfl (by (try simp only [List.map_toArray, List.map_cons, List.map_nil]); first | done | rfl | (simp only [List.length_drop, List.length_take]; rfl)) ?_; (with_reducible refine (impl_PlacesOf.calls k _ _ l0 a1 t142 t143 false _ ?side1 ?side2 A3.out).mono ?_); (case side1 => repeat (first | exact HR0.out | (with_reducible refine Kd.C_alloc ?_ _) | (with_reducible refine Kd.C_drewN ?_ _) | (with_reducible refine Kd.C_drew ?_))); (case side2 => exact HC0.out); rintro e w18 ⟨rfl, hb⟩; refine ⟨_, rfl, ?_⟩; have n0_ := Aside0.mk (below_step (by repeat (first | (with_reducible first | exact HB.out | apply below_alloc | apply pw_below_drewN | apply below_drew1) | exact HB.out)) hb); clear HB; have HB := n0_; clear n0_; (try clear hb); (try clear hb2); (try clear hk); (try clear hi)))
    go_ret2
    exact ⟨_, by first | rfl | (simp [errW_none, errW_some] <;> rfl) | (simp [*, errW_none, errW_some] <;> rfl), by first | exact Kd.R_nil _ _ _ _ _ | exact Kd.N_nil _ _ _ _ _ | exact Kd.V_nil _ _ _ _ _ | exact Kd.Q_nil _ _ _ _ _ | exact Kd.S_nil _ _ _ _ _, by repeat (first | (with_reducible first | exact HB.out | apply below_alloc | apply pw_below_drewN | apply below_drew1) | exact HB.out)⟩

end Go.Proofs.Ytkkafjipnlmjoaa.PFnExactDropNumber
