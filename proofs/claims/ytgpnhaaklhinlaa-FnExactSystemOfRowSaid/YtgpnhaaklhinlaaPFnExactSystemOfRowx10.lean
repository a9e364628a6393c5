-- Written by plug.py, a program of this session, over the kit's print of the function: checked by Lean alone.
import Derived.Test.YtgpnhaaklhinlaaPFnExactSystemOfRowx0
import Derived.Test.YtgpnhaaklhinlaaPFnExactSystemOfRowx1
import Derived.Test.YtgpnhaaklhinlaaPFnExactSystemOfRowx2
import Derived.Test.YtgpnhaaklhinlaaPFnExactSystemOfRowx5
import Derived.Test.YtgpnhaaklhinlaaPFnExactSystemOfRowx8
import Derived.Test.YtgpnhaaklhinlaaPFnExactSystemOfRowx9
namespace Go.Proofs.Ytgpnhaaklhinlaa.PFnExactSystemOfRow
open Go.RowKit Go.Proofs.YtgpnhaaklhinlaaW.PrintWords Go.Proofs.YtgpnhaaklhinlaaW.PrintLast Go.Proofs.YtgpnhaaklhinlaaW.PrintMore
attribute [local go_sem] max2_int min2_int max_two min_two max_three min_three max_four min_four   -- for this text's walks alone
set_option linter.unusedVariables false
set_option linter.unusedSimpArgs false

/-! ### impl_circle: function 78 -/
theorem impl_circle.less_at (x y : Int) : cmp_Less_int.f x y = some (decide (x < y)) := by
 unfold cmp_Less_int.f
 by_cases c : x < y <;> simp [cmp_isNaN_int.f, c]
theorem ins3_some (a b c : Int) : slices_insertionSortOrdered_int.f 10 [a, b, c] 0 3 = some (Search.ins3 a b c) := by
 have w1 : wrap64 1 = 1 := by unfold wrap64; omega
 have w2 : wrap64 2 = 2 := by unfold wrap64; omega
 have w3 : wrap64 3 = 3 := by unfold wrap64; omega
 have w4 : wrap64 0 = 0 := by unfold wrap64; omega
 have w5 : (1 : Int) + 1 = 2 := rfl
 unfold slices_insertionSortOrdered_int.f Search.ins3
 by_cases c1 : b < a
 ·by_cases c2 : c < a
  ·by_cases c3 : c < b
   ·simp [slices_insertionSortOrdered_int.l0, slices_insertionSortOrdered_int.l1, impl_circle.less_at, rd, w1, w2, w3, w4, w5, c1, c2, c3]
   ·simp [slices_insertionSortOrdered_int.l0, slices_insertionSortOrdered_int.l1, impl_circle.less_at, rd, w1, w2, w3, w4, w5, c1, c2, c3]
  ·simp [slices_insertionSortOrdered_int.l0, slices_insertionSortOrdered_int.l1, impl_circle.less_at, rd, w1, w2, w3, w4, w5, c1, c2]
 ·by_cases c2 : c < b
  ·by_cases c3 : c < a
   ·simp [slices_insertionSortOrdered_int.l0, slices_insertionSortOrdered_int.l1, impl_circle.less_at, rd, w1, w2, w3, w4, w5, c1, c2, c3]
   ·simp [slices_insertionSortOrdered_int.l0, slices_insertionSortOrdered_int.l1, impl_circle.less_at, rd, w1, w2, w3, w4, w5, c1, c2, c3]
  ·simp [slices_insertionSortOrdered_int.l0, slices_insertionSortOrdered_int.l1, impl_circle.less_at, rd, w1, w2, w3, w4, w5, c1, c2]
theorem sort3_some (a b c : Int) : slices_Sort_int_int.f 10 [a, b, c] = some (Search.ins3 a b c) := by
 have w1 : wrap64 (3 - 0) ≤ 12 := by unfold wrap64; omega
 have h1 : bits_Len.f (IntKind.u64.wrap (3 : Int)) = some 2 := by kernel_rfl
 show (bits_Len.f (IntKind.u64.wrap (3 : Int))).bind (fun t388 => ((slices_pdqsortOrdered_int.f 10 [a, b, c] 0 3 t388).bind fun t389 => (some t389))) = _
 rw [h1, Option.bind_some]
 unfold slices_pdqsortOrdered_int.f
 rw [if_pos w1, ins3_some, Option.bind_some]
def circOk (v : Int) (L : List (List Int)) : Bool := decide (1 ≤ v ∧ v ≤ 40 ∧ 1 ≤ L.length ∧ L.length ≤ 10) && L.all fun t => decide (t.length = 3 ∧ 0 ≤ rd t 0 ∧ rd t 0 ≤ 1000 ∧ 0 ≤ rd t 1 ∧ rd t 1 ≤ 1000)
def impl_circle.f (v : Int) (L : List (List Int)) : Option (List (List Int)) := if circOk v L = true then some (Search.putAll [] (Search.circAll v L)) else none
theorem impl_circle.info22 : (Try.prog.info? 22).map (fun i => (i.zero, i.size, i.bytes)) = some (some (.slice none 0 0), 1, 24) := by kernel_rfl
theorem impl_circle.grew (w : World) (o : Obj) : w.heap.size < (w.alloc o).drew.heap.size := by
 show w.heap.size < (w.heap.push o).size
 rw [Array.size_push]
 exact Nat.lt_succ_self _
theorem impl_circle.lit (w : World) {base : Nat} (hb : base ≤ w.heap.size) (x y z : Int) : Kd.R (Kd.int .i64) 3 (w.alloc (.cells #[.int .i64 x, .int .i64 y, .int .i64 z] 3 (0, 0))) base (fun k => k = w.heap.size) (.slice (some ⟨w.heap.size, 0, none⟩) 3 3) [x, y, z] :=
 Kd.R_of_own ⟨rfl, .inr ⟨w.heap.size, 3, _, rfl, hb, heap_alloc_new _ _, Nat.le_refl _, by unfold maxLen; omega, rfl, rfl⟩⟩ (fun k hk => by
  have : some w.heap.size = some k := hk
  exact (Option.some.inj this).symm)
theorem circRows_step (v : Int) (t : List Int) (n : Nat) (k : Int) (h : 0 < n) : Search.circRows v t n k = Search.circRow v t k :: Search.circRows v t (n - 1) (k + 1) := by
 cases n with
 | zero => omega
 | succ n => rfl
theorem circAll_cons (v : Int) (t : List Int) (L : List (List Int)) : Search.circAll v (t :: L) = Search.circRows v t v.toNat 0 ++ Search.circAll v L := rfl
theorem circAll_len (v : Int) : ∀ L : List (List Int), (Search.circAll v L).length = L.length * v.toNat
 | [] => by simp [Search.circAll]
 | t :: L => by rw [circAll_cons, List.length_append, Search.circRows_len, circAll_len v L, List.length_cons, Nat.succ_mul, Nat.add_comm]
theorem circAll_small (v : Int) : ∀ L : List (List Int), ∀ x ∈ Search.circAll v L, x.length = 3
 | [], x, h => by simp [Search.circAll] at h
 | t :: L, x, h => by
  rw [circAll_cons] at h
  rcases List.mem_append.1 h with h | h
  ·exact Search.circRows_small _ _ _ _ x h
  ·exact circAll_small v L x h
set_option maxHeartbeats 8000000 in
set_option maxRecDepth 100000 in
theorem impl_circle.calls (a0 : Int) (A1 : Option Addr) (c1 : Nat) (l1 : List (List Int)) (r : List (List Int)) (w : World) (hr1 : Kd.C (Kd.slice 3 (Kd.int .i64)) w A1 l1.length l1) (hc1 : l1.length ≤ c1) (h : impl_circle.f a0 l1 = some r) :
  Calls Try.prog 78 #[.int .i64 a0, .slice A1 l1.length c1] w fun e w' => ∃ v0_ : Value, e = .returned (v0_) ∧ Kd.S (Kd.slice 3 (Kd.int .i64)) 22 w' w.heap.size (fun _ => True) v0_ r ∧ Below w.heap.size w w' := by
 unfold impl_circle.f at h
 by_cases hok : circOk a0 l1 = true
 ·rw [if_pos hok] at h
  obtain rfl := Option.some.inj h
  have HOK := Aside0.mk hok
  have HR1 := Aside0.mk hr1
  have HC1 := Aside0.mk hc1
  have HLL := Aside0.mk (show l1.length ≤ 10 by
   have h0 := hok
   unfold circOk at h0
   rw [Bool.and_eq_true, decide_eq_true_eq] at h0
   exact h0.1.2.2.2)
  have HLA := Aside0.mk (show (Search.circAll a0 l1).length ≤ 400 by
   have h0 := hok
   unfold circOk at h0
   rw [Bool.and_eq_true, decide_eq_true_eq] at h0
   rw [circAll_len]
   exact Nat.le_trans (Nat.mul_le_mul h0.1.2.2.2 (show a0.toNat ≤ 40 by omega)) (Nat.le_refl _))
  clear h hok hr1 hc1
  go_enter Try.func78, Try.ntmps78
  go_wp2
  go_loopg [5, 12] (l1.length + 1) (fun kq v5 v12 w' => ∃ (i : Nat) (out : List (List Int)), v12 = .int .i64 (i : Int) ∧ Aside0 (i ≤ l1.length ∧ kq + i = l1.length + 1) ∧ Aside0 (out ++ Search.circAll a0 (l1.drop i) = Search.circAll a0 l1) ∧ Aside0 (Kd.S (Kd.slice 3 (Kd.int .i64)) 22 w' w.heap.size (fun _ => True) v5 out) ∧ Aside0 (Below w.heap.size w w'))
  case atStart => exact ⟨0, [], rfl, ⟨by omega⟩, ⟨by simp⟩, ⟨Kd.S_nil _ _ _ _ _⟩, ⟨Below.refl _ _⟩⟩
  case round =>
   obtain ⟨i, out, rfl, HI, HO, HS, HB⟩ := hrel
   cases gk with
   | zero => exact absurd HI.out (by omega)
   | succ k1 =>
    by_cases hi : i < l1.length
    ·have ci : decide ((i : Int) < (l1.length : Int)) = true := decide_eq_true (by omega)
     have p1 : 0 ≤ (i : Int) := by omega
     have q1 : (i : Int) < (l1.length : Int) := by omega
     obtain ⟨ad1, A7, c7, e1, hx1, hl1, hi1⟩ := at_L1 HR1.out (i : Int) p1 q1
     subst e1
     replace hx1 := (HB.out.cell (World.block_lt_of_cell? w _ hx1)).trans hx1
     rw [Int.toNat_natCast] at hx1
     have HR7 := Aside0.mk hi1
     have HC7 := Aside0.mk hl1
     have HII := Aside0.mk hi
     replace p1 := eq_true p1
     replace q1 := eq_true q1
     clear hi hi1 hl1
     have HV := Aside0.mk (show 1 ≤ a0 ∧ a0 ≤ 40 by
      have := HOK.out
      unfold circOk at this
      rw [Bool.and_eq_true, decide_eq_true_eq] at this
      exact ⟨this.1.1, this.1.2.1⟩)
     have HT3 := Aside0.mk (show (rd_L1 l1 (i : Int)).length = 3 ∧ 0 ≤ rd (rd_L1 l1 (i : Int)) 0 ∧ rd (rd_L1 l1 (i : Int)) 0 ≤ 1000 ∧ 0 ≤ rd (rd_L1 l1 (i : Int)) 1 ∧ rd (rd_L1 l1 (i : Int)) 1 ≤ 1000 by
      have := HOK.out
      unfold circOk at this
      rw [Bool.and_eq_true, List.all_eq_true] at this
      have hm : rd_L1 l1 (i : Int) ∈ l1 := by
       have e : rd_L1 l1 (i : Int) = l1[i]'HII.out := by simp [rd_L1, List.getD_eq_getElem?_getD, HII.out]
       rw [e]
       exact List.getElem_mem _
      exact of_decide_eq_true (this.2 _ hm))
     have HD := Aside0.mk (show l1.drop i = rd_L1 l1 (i : Int) :: l1.drop (i + 1) by
      have e : rd_L1 l1 (i : Int) = l1[i]'HII.out := by simp [rd_L1, List.getD_eq_getElem?_getD, HII.out]
      rw [e]
      exact List.drop_eq_getElem_cons HII.out)
     generalize rd_L1 l1 (i : Int) = t at hx1 HR7 HC7 HT3 HD
     go_wp2
     go_loopg [5, 17] (a0.toNat + 1) (fun kq v5 v17 w' => ∃ (kk : Nat) (out2 : List (List Int)), v17 = .int .i64 (kk : Int) ∧ Aside0 (kk ≤ a0.toNat ∧ kq + kk = a0.toNat + 1) ∧ Aside0 (out2 ++ (Search.circRows a0 t (a0.toNat - kk) (kk : Int) ++ Search.circAll a0 (l1.drop (i + 1))) = Search.circAll a0 l1) ∧ Aside0 (Kd.S (Kd.slice 3 (Kd.int .i64)) 22 w' w.heap.size (fun _ => True) v5 out2) ∧ Aside0 (Below w.heap.size w w'))
     case atStart => exact ⟨0, out, rfl, ⟨by omega⟩, ⟨by
      have h1 := HO.out
      rw [HD.out] at h1
      exact h1⟩, HS, HB⟩
     case round =>
      obtain ⟨kk, out2, rfl, HI2, HO2, HS2, HB2⟩ := hrel
      cases gk with
      | zero => exact absurd HI2.out (by omega)
      | succ k2 =>
       by_cases hk : (kk : Int) < a0
       ·have ck : decide ((kk : Int) < a0) = true := decide_eq_true hk
        have cz : (a0 == 0) = false := beq_eq_false_iff_ne.2 (by have := HV.out; omega)
        have hx7 : ∃ ad7, A7 = some ad7 ∧ w.cell? ad7 = some (.int .i64 (rd t 0)) ∧ w.cell? ⟨ad7.block, ad7.off + 1, none⟩ = some (.int .i64 (rd t 1)) := by
         obtain ⟨ad, e, h1⟩ := Kd.at_int HR7.out 0 (by omega) (by have := HT3.out; omega)
         obtain ⟨ad', e', h2⟩ := Kd.at_int HR7.out 1 (by omega) (by have := HT3.out; omega)
         rw [e] at e'
         obtain rfl : ad = ad' := by injection e'
         refine ⟨ad, e, ?_, ?_⟩
         ·rw [show ((0 : Int)).toNat = 0 from rfl] at h1
          (try rw [Addr.add_zero'] at h1)
          exact h1
         ·(try simp only [show (1 : Int).toNat = 1 from rfl, Nat.reduceMul, Nat.reduceEqDiff, Go.Addr.add, ↓reduceIte] at h2)
          exact h2
        obtain ⟨ad7, e7, hy0, hy1⟩ := hx7
        subst e7
        have HY0 := Aside0.mk hy0
        have HY1 := Aside0.mk hy1
        have ql0 : (0 < t.length) = True := eq_true (by have := HT3.out; omega)
        have ql1 : (1 < t.length) = True := eq_true (by have := HT3.out; omega)
        have qz0 : (0 < (t.length : Int)) = True := eq_true (by have := HT3.out; omega)
        have qz1 : (1 < (t.length : Int)) = True := eq_true (by have := HT3.out; omega)
        have cz2 : (a0 = 0) = False := eq_false (by have := HV.out; omega)
        clear hk hy0 hy1
        go_wp2
        refine start_ (n := 21) (S := fun w' => w'.cell? ad7 = some (.int .i64 (rd t 0)) ∧ w'.cell? ⟨ad7.block, ad7.off + 1, none⟩ = some (.int .i64 (rd t 1))) (ds := []) (mb 21 0) (by kernel_rfl) rfl rfl ⟨((HB2.out.cell (World.block_lt_of_cell? w _ HY0.out)).trans HY0.out), ((HB2.out.cell (World.block_lt_of_cell? w _ HY1.out)).trans HY1.out)⟩ (fun hHeld => ?_)
        refine with_tab (T := rtab .any (opsOf Try.f78 8)) rfl (fun HT_ => ?_)
        refine pureV 0 20 21 1 HT_ ?_
        refine pureV 1 21 21 3 HT_ ?_
        refine pureV 2 22 21 7 HT_ ?_
        refine pureV 4 24 21 23 HT_ ?_
        refine pureV 6 26 21 87 HT_ ?_
        refine pureV 8 28 21 343 HT_ ?_
        refine pureV 9 29 21 855 HT_ ?_
        refine pureV 11 31 21 2903 HT_ ?_
        refine pureV 12 32 21 6999 HT_ ?_
        refine pureV 15 35 21 39767 HT_ ?_
        refine pureV 17 37 21 170839 HT_ ?_
        refine take_ (i := 3) (N := some 23) (v := ?_) (a' := ?_) (mb 21 170847) rfl rfl (by kernel_rfl) (fun _ _ _ h => h) (Or.inl ⟨by rfl, ?_⟩) hHeld ?_ ?_
        rotate_left
        ·rintro w' ⟨s0, s1⟩
         go_simp
         with_reducible rfl
        rotate_left
        ·simp only [Act.put, List.setIfInBounds_toArray, List.set_cons_zero, List.set_cons_succ, i64_w, i32_w]
         rfl
        refine pureV 5 25 21 170879 HT_ ?_
        refine pureV 7 27 21 171007 HT_ ?_
        refine take_ (i := 10) (N := some 30) (v := ?_) (a' := ?_) (mb 21 172031) rfl rfl (by kernel_rfl) (fun _ _ _ h => h) (Or.inl ⟨by rfl, ?_⟩) hHeld ?_ ?_
        rotate_left
        ·rintro w' ⟨s0, s1⟩
         go_simp
         with_reducible rfl
        rotate_left
        ·simp only [Act.put, List.setIfInBounds_toArray, List.set_cons_zero, List.set_cons_succ, i64_w, i32_w]
         rfl
        refine take_ (i := 13) (N := some 33) (v := ?_) (a' := ?_) (mb 21 180223) rfl rfl (by kernel_rfl) (fun _ _ _ h => h) (Or.inl ⟨by rfl, ?_⟩) hHeld ?_ ?_
        rotate_left
        ·rintro w' ⟨s0, s1⟩
         go_simp
         with_reducible rfl
        rotate_left
        ·simp only [Act.put, List.setIfInBounds_toArray, List.set_cons_zero, List.set_cons_succ, i64_w, i32_w]
         rfl
        refine pureV 14 34 21 196607 HT_ ?_
        refine pureV 16 36 21 262143 HT_ ?_
        refine pureV 18 38 21 524287 HT_ ?_
        refine one_ (i := 19) (N := some 39) (mb 21 1048575) rfl rfl (by kernel_rfl) (by decide) (fun K hK => ?_)
        refine value_ (w1 := ?_) (v := ?_) (by rfl) rfl ?_ ?_
        rotate_left 2
        ·go_simp
         constructor
         ·rfl
         ·rfl
        refine hK.out _ _ ⟨(World.cell?_alloc_lt _ _ _ (World.block_lt_of_cell? _ _ hHeld.1)).trans hHeld.1, (World.cell?_alloc_lt _ _ _ (World.block_lt_of_cell? _ _ hHeld.2)).trans hHeld.2⟩ (fun hHeld2 => ?_)
        clear hK K
        refine norm_ (a' := ?_) ?_ ?_
        rotate_left
        ·show Act.put _ (some 39) _ = _
         simp only [Act.put, List.setIfInBounds_toArray, List.set_cons_zero, List.set_cons_succ, i64_w, i32_w]
         rfl
        refine pureV 20 9 21 2097151 HT_ ?_
        refine done_ (by kernel_rfl) ?_
        have e1 : wrap64 (rd t 0 + (kk : Int)) = (kk : Int) + rd t 0 := by have := HT3.out; have := HV.out; have := HI2.out; unfold wrap64; omega
        have e2 : wrap64 (wrap64 (rd t 0 + rd t 1) + (kk : Int)) = (kk : Int) + rd t 0 + rd t 1 := by have := HT3.out; have := HV.out; have := HI2.out; unfold wrap64; omega
        rw [e1, e2]
        have HROW := Aside0.mk (show Search.circRow a0 t (kk : Int) = Search.ins3 (kk : Int) (Int.tmod ((kk : Int) + rd t 0) a0) (Int.tmod ((kk : Int) + rd t 0 + rd t 1) a0) from rfl)
        generalize Int.tmod ((kk : Int) + rd t 0) a0 = X at HROW ⊢
        generalize Int.tmod ((kk : Int) + rd t 0 + rd t 1) a0 = Y at HROW ⊢
        clear hHeld hHeld2 e1 e2
        have HN := Aside0.mk (Kd.R_drew (impl_circle.lit wr (base := w.heap.size) HB2.out.size (kk : Int) X Y))
        have HS3 := Aside0.mk (Kd.S_mono (ok' := fun k => k ≠ wr.heap.size) (Kd.S_drew (Kd.S_alloc (Kd.S_bound HS2.out) (.cells #[.int .i64 (kk : Int), .int .i64 X, .int .i64 Y] 3 (0, 0)))) (fun k hk => by have := hk.2.2.1; omega))
        have HB3 := Aside0.mk (below_drew (below_alloc HB2.out (.cells #[.int .i64 (kk : Int), .int .i64 X, .int .i64 Y] 3 (0, 0))))
        have HZ3 := Aside0.mk (impl_circle.grew wr (.cells #[.int .i64 (kk : Int), .int .i64 X, .int .i64 Y] 3 (0, 0)))
        have HZ2 := Aside0.mk HB2.out.size
        generalize (wr.alloc (.cells #[.int .i64 (kk : Int), .int .i64 X, .int .i64 Y] 3 (0, 0))).drew = w3 at HN HS3 HB3 HZ3 ⊢
        generalize wr.heap.size = b at HN HS3 HZ3 HZ2 ⊢
        have HS33 := Aside0.mk (sort3_some (kk : Int) X Y)
        have LO2 := Aside0.mk (show (out2.length + 1) * 24 ≤ 140737488355328 by
         have h1 := congrArg List.length HO2.out
         rw [List.length_append] at h1
         have := HLA.out
         omega)
        go_wp2_with (first | ((with_reducible refine gate_callee (f := 109) rfl ?_); refine goesL_ (some 41) rfl rfl Try.func109 (by kernel_rfl) rfl #[.slice (some ⟨b, 0, none⟩) 3 3] rfl (by (try simp only [List.map_toArray, List.map_cons, List.map_nil]); first | done | rfl) ?_; (with_reducible refine (slices_Sort_int_int.calls 10 (fun k => k = b) (.slice (some ⟨b, 0, none⟩) 3 3) [(kk : Int), X, Y] _ w _ HB3.out HN.out HS33.out).mono ?_); rintro e w4 ⟨rfl, ho4, hb4, hk4⟩; refine ⟨_, rfl, ?_⟩; have HS4 := Aside0.mk (Kd.S_step HS3.out (fun k hk hlt => hk4.2 k hlt hk)); have HB4 := Aside0.mk hb4; have HN4 := Aside0.mk (Kd.R_mono (ok' := fun k => k = b) (Kd.R_tight rfl ho4) (fun k hk => by injection hk)); have HZ4 := Aside0.mk hk4.1; clear ho4 hb4 hk4) | ((with_reducible refine gate_builtin (b := .append) (xs := #[.tmp 42, .tmp 44]) rfl ?_); at_builtin; refine Kd.S_append (Kd.slice 3 (Kd.int .i64)) (w0 := w) (W := w4) w.heap.size rfl (.tmp 42) (.tmp 44) 23 22 (.slice none 0 0) 24 rfl Try.underlying23 impl_circle.info22 rfl (by decide) (by omega) u5 out2 (Search.ins3 (kk : Int) X Y) [.slice (some ⟨b, 0, none⟩) 3 3] (fun _ => True) (fun k => k = b) rfl rfl ?aP ?aK ?aF ?aO ?aB ?aS ?aL ?_; (case aP => exact Kd.M_row HN4.out); (case aK => exact fun k hk => ⟨trivial, fun e => (Kd.S_R HS4.out).1 k e.symm hk⟩); (case aF => exact fun _ _ => trivial); (case aO => exact Kd.S_mono HS4.out (fun k hk => ⟨trivial, hk⟩)); (case aB => exact HB4.out); (case aS => exact HB4.out.size); (case aL => exact LO2.out); intro v5 w5 ho5 hb5 hg5 hat5; have HS5 := Aside0.mk ho5; have HB5 := Aside0.mk hb5; clear ho5 hb5 hg5 hat5))
        have e3 : wrap64 ((kk : Int) + 1) = ((kk + 1 : Nat) : Int) := by have := HV.out; have := of_decide_eq_true ck; unfold wrap64; omega
        rw [e3]
        have HO5 := Aside0.mk (show (out2 ++ [Search.ins3 (kk : Int) X Y]) ++ (Search.circRows a0 t (a0.toNat - (kk + 1)) ((kk + 1 : Nat) : Int) ++ Search.circAll a0 (l1.drop (i + 1))) = Search.circAll a0 l1 by
         have h1 := HO2.out
         have h2 := of_decide_eq_true ck
         rw [circRows_step a0 t (a0.toNat - kk) (kk : Int) (by omega), HROW.out] at h1
         rw [← h1, show a0.toNat - (kk + 1) = a0.toNat - kk - 1 by omega, show ((kk + 1 : Nat) : Int) = (kk : Int) + 1 by omega]
         simp)
        have HI5 := Aside0.mk (show kk + 1 ≤ a0.toNat ∧ k2 + (kk + 1) = a0.toNat + 1 by have := HI2.out; have := of_decide_eq_true ck; omega)
        go_roundg k2
        case measure => have := HI5.out; omega
        case rel => exact ⟨kk + 1, _, rfl, HI5, HO5, HS5, HB5⟩
       ·have ck : decide ((kk : Int) < a0) = false := decide_eq_false hk
        have HE := Aside0.mk (show out2 ++ Search.circAll a0 (l1.drop (i + 1)) = Search.circAll a0 l1 by
         have h1 := HO2.out
         rw [show a0.toNat - kk = 0 by omega] at h1
         exact h1)
        have e4 : wrap64 ((i : Int) + 1) = ((i + 1 : Nat) : Int) := by have := HII.out; have h2 := HLL.out; unfold wrap64; omega
        have HI5 := Aside0.mk (show i + 1 ≤ l1.length ∧ k1 + (i + 1) = l1.length + 1 by have := HI.out; have := HII.out; omega)
        clear hk
        go_wp2
        rw [e4]
        go_roundg k1
        case measure => have := HI5.out; omega
        case rel => exact ⟨i + 1, _, rfl, HI5, HE, HS2, HB2⟩
    ·have ci : decide ((i : Int) < (l1.length : Int)) = false := decide_eq_false (by omega)
     have HE := Aside0.mk (show out = Search.circAll a0 l1 by
      have h1 := HO.out
      rw [List.drop_of_length_le (by omega)] at h1
      simpa [Search.circAll] using h1)
     have hpos : 0 < out.length := by
      rw [HE.out, circAll_len]
      have h0 := HOK.out
      unfold circOk at h0
      rw [Bool.and_eq_true, decide_eq_true_eq] at h0
      exact Nat.mul_pos (by omega) (by omega)
     obtain ⟨g, cap, hv, _, _, _⟩ := Kd.S_form HS.out hpos
     subst hv
     have HM := Aside0.mk (show ∀ x ∈ out, x.length ≤ 1000 by
      intro x hx
      rw [HE.out] at hx
      rw [circAll_small _ _ x hx]
      omega)
     have HN := Aside0.mk (show out.length ≤ 100000 by rw [HE.out]; have := HLA.out; omega)
     have HZ := Aside0.mk HB.out.size
     have ci2 : (i < l1.length) = False := eq_false hi
     clear hi hpos
     go_wp2_with (first | ((with_reducible refine gate_callee (f := 110) rfl ?_); refine goesL_ (some 49) rfl rfl Try.func110 (by kernel_rfl) rfl #[.slice (some ⟨g, 0, none⟩) out.length cap, .func (.func 111) #[] #[]] rfl (by (try simp only [List.map_toArray, List.map_cons, List.map_nil]); first | done | rfl) ?_; (with_reducible refine (Search.sort_rows HS.out HZ.out HM.out HN.out).mono ?_); rintro e w6 ⟨rfl, L6, hp6, hs6, hS6, hb6, hk6⟩; refine ⟨_, rfl, ?_⟩; rw [HE.out] at hp6; obtain rfl := Search.sorted_put hp6 hs6; have HS6 := Aside0.mk hS6; have HB6 := Aside0.mk (HB.out.trans hb6); clear hp6 hs6 hS6 hb6 hk6))
     go_ret
     exact ⟨_, rfl, HS6.out, HB6.out⟩
 ·rw [if_neg hok] at h
  cases h

/-! ### impl_SystemOfRow: function 41 -/
/-- A triple whose last number, 3 n + 1, goes round to 3 n. -/
def impl_SystemOfRow.row (n : Int) (t : List Int) : List Int := if rd t 2 = wrap64 (wrap64 (3 * n) + 1) then t.set 2 (wrap64 (3 * n)) else t
def impl_SystemOfRow.rest (L : List (List Int)) (ok : Bool) : Option (List (List Int) × Bool) :=
 if ok = true then (if wrap64 (wrap64 (6 * (L.length : Int)) + 1) > 40 then some ([], false) else if (decide (0 < L.length) && L.all fun t => decide (t.length = 3)) = true then (impl_circle.f (wrap64 (wrap64 (6 * (L.length : Int)) + 1)) (L.map (impl_SystemOfRow.row (L.length : Int)))).bind fun r => some (r, true) else none) else some ([], false)
def impl_SystemOfRow.f (k : Nat) (l0 : List Int) : Option (List (List Int) × Bool) := (impl_TriplesOfRow.f k l0).bind fun a => impl_SystemOfRow.rest a.1 a.2
theorem impl_SystemOfRow.mono : ∀ a0 k, LeO (impl_SystemOfRow.f k a0) (impl_SystemOfRow.f (k + 1) a0) := by
 intro a0 k
 unfold impl_SystemOfRow.f
 exact LeO.bind (impl_TriplesOfRow.mono _ _) (fun _ => LeO.refl _)
set_option maxHeartbeats 8000000 in
set_option maxRecDepth 100000 in
theorem impl_SystemOfRow.calls (k : Nat) (A0 : Option Addr) (c0 : Nat) (l0 : List Int) (r1 : List (List Int)) (r2 : Bool) (w : World) (hr0 : Kd.C (Kd.int .i64) w A0 l0.length l0) (hc0 : l0.length ≤ c0) (h : impl_SystemOfRow.f k l0 = some (r1, r2)) :
  Calls Try.prog 41 #[.slice A0 l0.length c0] w fun e w' => ∃ v0_ : Value, e = .returned (.tuple #[v0_, .bool r2]) ∧ Kd.S (Kd.slice 3 (Kd.int .i64)) 22 w' w.heap.size (fun _ => True) v0_ r1 ∧ Below w.heap.size w w' := by
 unfold impl_SystemOfRow.f at h
 obtain ⟨⟨L, ok⟩, hA, hrest⟩ := Option.bind_eq_some_iff.1 h
 unfold impl_SystemOfRow.rest at hrest
 have HA := Aside0.mk hA
 have HR0 := Aside0.mk hr0
 have HC0 := Aside0.mk hc0
 clear h hA hr0 hc0
 dsimp only at hrest
 cases ok with
 | false =>
  rw [if_neg (by decide)] at hrest
  simp only [Option.some.injEq, Prod.mk.injEq] at hrest
  obtain ⟨rfl, rfl⟩ := hrest
  go_enter Try.func41, Try.ntmps41
  go_wp2_with (first | ((with_reducible refine gate_callee (f := 21) rfl ?_); refine goesL_ (some 11) rfl rfl Try.func21 (by kernel_rfl) rfl #[.slice A0 l0.length c0] rfl (by (try simp only [List.map_toArray, List.map_cons, List.map_nil]); first | done | rfl) ?_; (with_reducible refine (impl_TriplesOfRow.calls k A0 c0 l0 L false _ HR0.out HC0.out HA.out).mono ?_); rintro e w1 ⟨v1, rfl, ho1, hb1⟩; refine ⟨_, rfl, ?_⟩; obtain ⟨A1, c1, rfl⟩ := Kd.S_slice ho1; have HB1 := Aside0.mk hb1; clear ho1 hb1))
  go_ret2
  exact ⟨_, rfl, Kd.S_nil _ _ _ _ _, HB1.out⟩
 | true =>
  rw [if_pos rfl] at hrest
  by_cases cg : wrap64 (wrap64 (6 * (L.length : Int)) + 1) > 40
  ·rw [if_pos cg] at hrest
   simp only [Option.some.injEq, Prod.mk.injEq] at hrest
   obtain ⟨rfl, rfl⟩ := hrest
   have cd : decide (wrap64 (wrap64 (6 * (L.length : Int)) + 1) > 40) = true := decide_eq_true cg
   have cd2 : decide (40 < wrap64 (wrap64 (6 * (L.length : Int)) + 1)) = true := decide_eq_true cg
   clear cg
   go_enter Try.func41, Try.ntmps41
   go_wp2_with (first | ((with_reducible refine gate_callee (f := 21) rfl ?_); refine goesL_ (some 11) rfl rfl Try.func21 (by kernel_rfl) rfl #[.slice A0 l0.length c0] rfl (by (try simp only [List.map_toArray, List.map_cons, List.map_nil]); first | done | rfl) ?_; (with_reducible refine (impl_TriplesOfRow.calls k A0 c0 l0 L true _ HR0.out HC0.out HA.out).mono ?_); rintro e w1 ⟨v1, rfl, ho1, hb1⟩; refine ⟨_, rfl, ?_⟩; obtain ⟨A1, c1, rfl⟩ := Kd.S_slice ho1; have HB1 := Aside0.mk hb1; clear ho1 hb1))
   go_ret2
   exact ⟨_, rfl, Kd.S_nil _ _ _ _ _, HB1.out⟩
  ·rw [if_neg cg] at hrest
   have cd : decide (wrap64 (wrap64 (6 * (L.length : Int)) + 1) > 40) = false := decide_eq_false cg
   have cd2 : decide (40 < wrap64 (wrap64 (6 * (L.length : Int)) + 1)) = false := decide_eq_false cg
   have cd3 : (40 < wrap64 (wrap64 (6 * (L.length : Int)) + 1)) = False := eq_false cg
   clear cg
   by_cases ca : (decide (0 < L.length) && L.all fun t => decide (t.length = 3)) = true
   ·rw [if_pos ca] at hrest
    obtain ⟨r, hr, hrest⟩ := Option.bind_eq_some_iff.1 hrest
    simp only [Option.some.injEq, Prod.mk.injEq] at hrest
    obtain ⟨rfl, rfl⟩ := hrest
    rw [Bool.and_eq_true, decide_eq_true_eq] at ca
    have HP := Aside0.mk ca.1
    have HA3 := Aside0.mk ca.2
    have HRC := Aside0.mk hr
    have HL1 := Aside0.mk (show L.length ≤ 10 by
     have h0 := hr
     unfold impl_circle.f at h0
     split at h0
     ·rename_i h1
      unfold circOk at h1
      rw [Bool.and_eq_true, decide_eq_true_eq, List.length_map] at h1
      exact h1.1.2.2.2
     ·cases h0)
    clear ca hr
    go_enter Try.func41, Try.ntmps41
    go_wp2_with (first | ((with_reducible refine gate_callee (f := 21) rfl ?_); refine goesL_ (some 11) rfl rfl Try.func21 (by kernel_rfl) rfl #[.slice A0 l0.length c0] rfl (by (try simp only [List.map_toArray, List.map_cons, List.map_nil]); first | done | rfl) ?_; (with_reducible refine (impl_TriplesOfRow.calls k A0 c0 l0 L true _ HR0.out HC0.out HA.out).mono ?_); rintro e w1 ⟨v1, rfl, ho1, hb1⟩; refine ⟨_, rfl, ?_⟩; obtain ⟨g, cap, rfl, hg, hgl, cells, hcells⟩ := Kd.S_form ho1 HP.out; have HS1 := Aside0.mk ho1; have HB1 := Aside0.mk hb1; clear ho1 hb1 hg hgl hcells))
    go_loopg [26] (L.length + 1) (fun kq v26 w' => ∃ (i : Nat), v26 = .int .i64 (i : Int) ∧ Aside0 (i ≤ L.length ∧ kq + i = L.length + 1) ∧ Aside0 (Kd.S (Kd.slice 3 (Kd.int .i64)) 22 w' w.heap.size (fun _ => True) (.slice (some ⟨g, 0, none⟩) L.length cap) ((L.take i).map (impl_SystemOfRow.row (L.length : Int)) ++ L.drop i)) ∧ Aside0 (Below w.heap.size w w'))
    case atStart => exact ⟨0, rfl, ⟨by omega⟩, ⟨by simpa using HS1.out⟩, HB1⟩
    case round =>
     obtain ⟨i, rfl, HI, HS, HB⟩ := hrel
     cases gk with
     | zero => exact absurd HI.out (by omega)
     | succ k1 =>
      by_cases hi : i < L.length
      ·have ci : decide ((i : Int) < (L.length : Int)) = true := decide_eq_true (by omega)
       have ci2 : (i < L.length) = True := eq_true hi
       have p1 : (0 ≤ (i : Int)) = True := eq_true (by omega)
       have q1 : ((i : Int) < (L.length : Int)) = True := eq_true (by omega)
       have ht3 := Search.all_three HA3.out i hi
       obtain ⟨b, c2, hx, hne, hbb, _, hblt, hcell, hfr, hset⟩ := Search.store_row HS.out i (by rw [Search.part_len]; exact hi) 2 (by rw [Search.part_get _ _ _ hi, ht3]; omega) (wrap64 (3 * (L.length : Int)))
       rw [Search.part_get _ _ _ hi] at hx hcell hset
       have PS := Aside0.mk (Search.part_set (impl_SystemOfRow.row (L.length : Int)) L i hi)
       have PM := Aside0.mk (Search.part_same (impl_SystemOfRow.row (L.length : Int)) L i hi)
       have h2 : _ = some (Value.int .i64 (rd L[i] 2)) := hcell 2 (by rw [ht3]; omega)
       have f2 := hfr 2
       rw [ht3] at hx
       have hx' : _ = some (Value.slice (some ⟨b, 0, none⟩) 3 c2) := (congrArg _ (add_plain g i)).trans hx
       have EF := Aside0.mk (show impl_SystemOfRow.row (L.length : Int) L[i] = if rd L[i] 2 = wrap64 (wrap64 (3 * (L.length : Int)) + 1) then L[i].set 2 (wrap64 (3 * (L.length : Int))) else L[i] from rfl)
       have HSET := Aside0.mk hset
       have HBB := Aside0.mk hbb
       have HI1 := Aside0.mk (show i + 1 ≤ L.length ∧ k1 + (i + 1) = L.length + 1 by have := HI.out; omega)
       have e4 : wrap64 ((i : Int) + 1) = ((i + 1 : Nat) : Int) := by have := HL1.out; unfold wrap64; omega
       clear hset hcell hfr hbb hblt hne ht3
       generalize L[i] = t at h2 HSET PS PM EF
       clear hi
       by_cases c : rd t 2 = wrap64 (wrap64 (3 * (L.length : Int)) + 1)
       ·have cb : (rd t 2 == wrap64 (wrap64 (3 * (L.length : Int)) + 1)) = true := beq_iff_eq.2 c
        have ER := Aside0.mk (EF.out.trans (if_pos c))
        clear c
        go_wp2
        rw [e4]
        have HS5 := Aside0.mk (show Kd.S (Kd.slice 3 (Kd.int .i64)) 22 (wr.setCell ⟨b, 2, none⟩ (.int .i64 (wrap64 (3 * (L.length : Int))))) w.heap.size (fun _ => True) (.slice (some ⟨g, 0, none⟩) L.length cap) ((L.take (i + 1)).map (impl_SystemOfRow.row (L.length : Int)) ++ L.drop (i + 1)) from by
         have h := HSET.out
         rw [← ER.out, PS.out] at h
         exact h)
        have HB5 := Aside0.mk (below_set (j := 2) (v := .int .i64 (wrap64 (3 * (L.length : Int)))) HB.out HBB.out)
        go_roundg k1
        case measure => have := HI1.out; omega
        case rel => exact ⟨i + 1, rfl, HI1, HS5, HB5⟩
       ·have cb : (rd t 2 == wrap64 (wrap64 (3 * (L.length : Int)) + 1)) = false := beq_eq_false_iff_ne.2 c
        have ER := Aside0.mk (EF.out.trans (if_neg c))
        clear c
        go_wp2
        rw [e4]
        have HS5 := HS
        rw [PM.out ER.out] at HS5
        go_roundg k1
        case measure => have := HI1.out; omega
        case rel => exact ⟨i + 1, rfl, HI1, HS5, HB⟩
      ·have ci : decide ((i : Int) < (L.length : Int)) = false := decide_eq_false (by omega)
       have ci2 : (i < L.length) = False := eq_false hi
       have hF := HS.out
       rw [List.take_of_length_le (by omega), List.drop_of_length_le (by omega), List.append_nil] at hF
       have hC := Kd.S_reads' hF
       have hcon := impl_circle.calls (wrap64 (wrap64 (6 * (L.length : Int)) + 1)) (some ⟨g, 0, none⟩) cap (L.map (impl_SystemOfRow.row (L.length : Int))) r wr (hC.1 ▸ hC.2.2) (hC.1 ▸ hC.2.1) HRC.out
       rw [List.length_map] at hcon
       have HCON := Aside0.mk hcon
       clear hi hF hC hcon
       go_wp2_with (first | ((with_reducible refine gate_callee (f := 78) rfl ?_); refine goesL_ (some 46) rfl rfl Try.func78 (by kernel_rfl) rfl #[.int .i64 (wrap64 (wrap64 (6 * (L.length : Int)) + 1)), .slice (some ⟨g, 0, none⟩) L.length cap] rfl (by (try simp only [List.map_toArray, List.map_cons, List.map_nil]); first | done | rfl) ?_; (with_reducible refine (HCON.out).mono ?_); rintro e w6 ⟨v6, rfl, ho6, hb6⟩; refine ⟨_, rfl, ?_⟩; have HS6 := Aside0.mk (Kd.S_lower ho6 HB.out.size); have HB6 := Aside0.mk (below_step HB.out hb6); clear ho6 hb6))
       go_ret2
       exact ⟨_, rfl, HS6.out, HB6.out⟩
   ·rw [if_neg ca] at hrest
    cases hrest

/-! ### laws_FnExactSystemOfRow: function 11 -/
section
open Go.Proofs.Ytgpnhaaklhinlaa.Aid
theorem toIntS_l0 (xs : List Int) (hx : xs.length ≤ 1048576) : ∀ (t : List Int) (i : Nat) (ys : List Int), xs.drop i = t → i ≤ xs.length → ys.length = xs.length → ys.take i = xs.take i → Ev (fun k => laws_toIntS.l0 k xs ys (i : Int)) xs
 | [], i, ys, h, hi, hl, he => by
  have h1 := dropNil h
  obtain rfl : ys = xs := by
   have : i = xs.length := by omega
   subst this
   rw [List.take_of_length_le (by omega), List.take_of_length_le (by omega)] at he
   exact he
  refine Ev.of1 (fun k => ?_)
  simp (disch := omega) only [if_true, if_false, Bool.false_eq_true, laws_toIntS.l0, if_neg]
 | x :: t, i, ys, h, hi, hl, he => by
  obtain ⟨h1, h2, h3⟩ := dropCons h
  refine Ev.step (f := fun k => laws_toIntS.l0 k xs (ys.set i x) ((i + 1 : Nat) : Int)) (fun k => ?_) (toIntS_l0 xs hx t (i + 1) _ h3 (by omega) (by simpa using hl) ?_)
  ·simp (disch := omega) only [if_true, if_false, Bool.false_eq_true, laws_toIntS.l0, if_pos, w64s, h2, toNat_cast]
  ·rw [take_succ_at h, List.take_add_one, List.take_set_of_le (by omega), he]
   simp [hl, h1]
theorem toIntS_ev (xs : List Int) (hx : xs.length ≤ 1048576) : Ev (fun k => laws_toIntS.f k xs) xs := by
 refine Ev.congr (fun k => ?_) (toIntS_l0 xs hx xs 0 (List.replicate xs.length 0) rfl (by omega) (by simp) rfl)
 unfold laws_toIntS.f
 rw [if_pos (by omega), if_pos (by omega)]
 rfl
theorem eqIntS_l0 (xs ys : List Int) (hx : xs.length ≤ 1048576) (hl : xs.length = ys.length) : ∀ (s t : List Int) (i : Nat), xs.drop i = s → ys.drop i = t → Ev (fun k => laws_eqIntS.l0 k xs ys (i : Int)) (decide (s = t))
 | [], t, i, h, h' => by
  have h1 := dropNil h
  have h2 : t = [] := by rw [← h']; simp; omega
  subst h2
  refine Ev.of1 (fun k => ?_)
  simp (disch := omega) only [if_true, if_false, Bool.false_eq_true, laws_eqIntS.l0, if_neg]
  simp
 | x :: s, [], i, h, h' => by
  have h1 := dropLt h
  have h2 := dropNil h'
  omega
 | x :: s, y :: t, i, h, h' => by
  obtain ⟨h1, h2, h3⟩ := dropCons h
  obtain ⟨h1', h2', h3'⟩ := dropCons h'
  by_cases c : x = y
  ·refine Ev.step (f := fun k => laws_eqIntS.l0 k xs ys ((i + 1 : Nat) : Int)) (fun k => ?_) ((eqIntS_l0 xs ys hx hl s t (i + 1) h3 h3').cast (by simp [c]))
   simp (disch := omega) only [if_true, if_false, Bool.false_eq_true, laws_eqIntS.l0, if_pos, w64s, h2, h2']
  ·refine Ev.of1 (fun k => ?_)
   simp (disch := omega) only [if_true, if_false, Bool.false_eq_true, laws_eqIntS.l0, if_pos, if_neg, h2, h2']
   simp [c]
theorem eqIntS_ev (xs ys : List Int) (hx : xs.length ≤ 1048576) : Ev (fun k => laws_eqIntS.f k xs ys) (decide (xs = ys)) := by
 by_cases c : xs.length = ys.length
 ·refine Ev.congr (fun k => ?_) (eqIntS_l0 xs ys hx c xs ys 0 rfl rfl)
  unfold laws_eqIntS.f
  rw [if_pos (by omega)]
  rfl
 ·refine Ev.all (fun k => ?_)
  unfold laws_eqIntS.f
  rw [if_neg (by omega)]
  have : xs ≠ ys := fun e => c (by rw [e])
  simp [this]
theorem eqIntS_same (xs : List Int) (hx : xs.length ≤ 1048576) : Ev (fun k => laws_eqIntS.f k xs xs) true := (eqIntS_ev xs xs hx).cast (by simp)
theorem dropConsL {xs : List (List Int)} {i : Nat} {x : List Int} {t : List (List Int)} (h : xs.drop i = x :: t) : i < xs.length ∧ rd_L1 xs (i : Int) = x ∧ xs.drop (i + 1) = t :=
 ⟨dropLt h, by simp [rd_L1, List.getD_eq_getElem?_getD, dropGet h], dropSucc h⟩
theorem memDrop {α : Type} {xs : List α} {i : Nat} {x : α} {t : List α} (h : xs.drop i = x :: t) : x ∈ xs := by
 rw [← List.take_append_drop i xs, h]
 simp
theorem eqIntSS_l0 (xs ys : List (List Int)) (hx : xs.length ≤ 1048576) (hm : ∀ x ∈ xs, x.length ≤ 1048576) (hl : xs.length = ys.length) : ∀ (s t : List (List Int)) (i : Nat), xs.drop i = s → ys.drop i = t → Ev (fun k => laws_eqIntSS.l0 k xs ys (i : Int)) (decide (s = t))
 | [], t, i, h, h' => by
  have h1 := dropNil h
  have h2 : t = [] := by rw [← h']; simp; omega
  subst h2
  refine Ev.of1 (fun k => ?_)
  simp (disch := omega) only [if_true, if_false, Bool.false_eq_true, laws_eqIntSS.l0, if_neg]
  simp
 | x :: s, [], i, h, h' => by
  have h1 := dropLt h
  have h2 := dropNil h'
  omega
 | x :: s, y :: t, i, h, h' => by
  obtain ⟨h1, h2, h3⟩ := dropConsL h
  obtain ⟨h1', h2', h3'⟩ := dropConsL h'
  refine Ev.step (f := fun k => (laws_eqIntS.f k x y).bind fun t120 => (if t120 = true then (laws_eqIntSS.l0 k xs ys ((i + 1 : Nat) : Int)) else (some false))) (fun k => ?_) (Ev.bind (eqIntS_ev x y (hm x (memDrop h))) ?_)
  ·simp (disch := omega) only [if_true, if_false, Bool.false_eq_true, laws_eqIntSS.l0, if_pos, w64s, h2, h2']
  ·by_cases c : x = y
   ·simp only [c, decide_true, if_true]
    exact (eqIntSS_l0 xs ys hx hm hl s t (i + 1) h3 h3').cast (by simp)
   ·simp only [c, decide_false, Bool.false_eq_true, if_false]
    exact (Ev.now _).cast (by simp [c])
theorem eqIntSS_ev (xs ys : List (List Int)) (hx : xs.length ≤ 1048576) (hm : ∀ x ∈ xs, x.length ≤ 1048576) : Ev (fun k => laws_eqIntSS.f k xs ys) (decide (xs = ys)) := by
 by_cases c : xs.length = ys.length
 ·refine Ev.congr (fun k => ?_) (eqIntSS_l0 xs ys hx hm c xs ys 0 rfl rfl)
  unfold laws_eqIntSS.f
  rw [if_pos (by omega)]
  rfl
 ·refine Ev.all (fun k => ?_)
  unfold laws_eqIntSS.f
  rw [if_neg (by omega)]
  have : xs ≠ ys := fun e => c (by rw [e])
  simp [this]
theorem eqIntSS_same (xs : List (List Int)) (hx : xs.length ≤ 1048576) (hm : ∀ x ∈ xs, x.length ≤ 1048576) : Ev (fun k => laws_eqIntSS.f k xs xs) true := (eqIntSS_ev xs xs hx hm).cast (by simp)
theorem heldIntS_l0 (xs : List Int) (hx : xs.length ≤ 1048576) : ∀ (n : Nat) (i : Nat) (m : Int), xs.drop i = upFrom n m → 0 ≤ m → m + n ≤ 9223372036854775807 → Ev (fun k => laws_heldIntS.l0 k xs m (i : Int)) (m + n)
 | 0, i, m, h, hm, hb => by
  have h1 := dropNil h
  refine Ev.of1 (fun k => ?_)
  simp (disch := omega) only [if_true, if_false, Bool.false_eq_true, laws_heldIntS.l0, if_neg]
  simp
 | n + 1, i, m, h, hm, hb => by
  obtain ⟨h1, h2, h3⟩ := dropCons (x := m) (t := upFrom n (m + 1)) h
  refine Ev.step (f := fun k => laws_heldIntS.l0 k xs (m + 1) ((i + 1 : Nat) : Int)) (fun k => ?_) ((heldIntS_l0 xs hx n (i + 1) (m + 1) h3 (by omega) (by omega)).cast (by omega))
  have e1 : wrap64 (m + 1) = m + 1 := w64 (by omega) (by omega)
  simp (disch := omega) only [if_true, if_false, Bool.false_eq_true, laws_heldIntS.l0, if_pos, w64s, e1, h2]
theorem heldIntS_ev (n : Nat) (hx : n ≤ 1048576) : Ev (fun k => laws_heldIntS.f k (upFrom n 1) 1) (1 + n) :=
 Ev.congr (fun k => rfl) (heldIntS_l0 (upFrom n 1) (by rw [upFrom_length]; exact hx) n 0 1 rfl (by omega) (by omega))
theorem heldIntS_from (xs : List Int) (n : Nat) (m : Int) (hx : xs = upFrom n m) (hn : n ≤ 1048576) (hm : 0 ≤ m) (hb : m + n ≤ 9223372036854775807) : Ev (fun k => laws_heldIntS.f k xs m) (m + n) := by
 subst hx
 exact Ev.congr (fun k => rfl) (heldIntS_l0 (upFrom n m) (by rw [upFrom_length]; exact hn) n 0 m rfl hm hb)
theorem heldIntSS_l0 (xs : List (List Int)) (hx : xs.length ≤ 1048576) : ∀ (t : List (List Int)) (i : Nat) (m : Int), xs.drop i = marksL m t → 0 ≤ m → m + (totalL t : Nat) ≤ 9223372036854775807 → (∀ x ∈ t, x.length ≤ 1048576) → Ev (fun k => laws_heldIntSS.l0 k xs m (i : Int)) (m + (totalL t : Nat))
 | [], i, m, h, hm, hb, ht => by
  have h1 := dropNil h
  refine Ev.of1 (fun k => ?_)
  simp (disch := omega) only [if_true, if_false, Bool.false_eq_true, laws_heldIntSS.l0, if_neg]
  simp [totalL]
 | x :: t, i, m, h, hm, hb, ht => by
  obtain ⟨h1, h2, h3⟩ := dropConsL (x := upFrom x.length m) (t := marksL (m + x.length) t) h
  simp only [totalL, Int.natCast_add] at hb ⊢
  refine Ev.step (f := fun k => (laws_heldIntS.f k (upFrom x.length m) m).bind fun y => (if y < 0 then (some (-1)) else (laws_heldIntSS.l0 k xs y ((i + 1 : Nat) : Int)))) (fun k => ?_) (Ev.bind (heldIntS_from _ x.length m rfl (ht x List.mem_cons_self) hm (by omega)) ?_)
  ·simp (disch := omega) only [if_true, if_false, Bool.false_eq_true, laws_heldIntSS.l0, if_pos, w64s, h2]
  ·refine Ev.congr (fun k => by rw [if_neg (by omega)]) ((heldIntSS_l0 xs hx t (i + 1) (m + x.length) h3 (by omega) (by omega) (fun y hy => ht y (List.mem_cons_of_mem _ hy))).cast (by omega))
theorem heldIntSS_ev (xs : List (List Int)) (hx : xs.length ≤ 1048576) (ht : totalL xs ≤ 1048576) : Ev (fun k => laws_heldIntSS.f k (marksL 1 xs) 1) (1 + (totalL xs : Nat)) :=
 Ev.congr (fun k => rfl) (heldIntSS_l0 (marksL 1 xs) (by rw [marksL_len]; exact hx) xs 0 1 rfl (by omega) (by omega) (fun x h => Nat.le_trans (totalL_mem xs x h) ht))
theorem held_at (K : Nat) (A : Option Addr) (c : Nat) (r : List (List Int)) (w : World) {b : Nat} {ok : Nat → Prop} (h : Kd.S (Kd.slice 3 (Kd.int .i64)) 22 w b ok (.slice A r.length c) (marksL 1 r)) (hh : laws_heldIntSS.f K (marksL 1 r) 1 = some (1 + (totalL r : Nat))) :
  Calls Try.prog 19 #[.slice A r.length c, .int .i64 1] w fun e w' => e = .returned (.int .i64 (1 + ((totalL r : Nat) : Int))) ∧ Drawn0 w w' := by
 have hr := Kd.R_reads' (Kd.S_R h)
 have hc := laws_heldIntSS.calls K A c (marksL 1 r) 1 _ w hr.2.2 (by rw [marksL_len]; exact hr.2.1) hh
 rw [marksL_len] at hc
 exact hc
end
/-- THE ONE PURE STATEMENT that is left: both come to one answer. -/
def laws_FnExactSystemOfRow.Pure : Prop := ∀ (l0 : List Int), l0.length ≤ 1048576 → (∀ x ∈ l0, (Lit.int .i64 x).wf = true) → ∃ (k : Nat) (r : List (List Int)) (rb : Bool), spec_SystemOfRow.f k l0 = some (r, rb) ∧ impl_SystemOfRow.f k l0 = some (r, rb) ∧ r.length ≤ 1048576 ∧ totalL r ≤ 1048576
set_option maxHeartbeats 8000000 in
set_option maxRecDepth 100000 in
theorem laws_FnExactSystemOfRow.walk (P : laws_FnExactSystemOfRow.Pure) (a0 : Option Addr) (len0 cap0 : Nat) (z0 : List Int) (w : World) (w0 : (a0 = none ∧ len0 = 0 ∧ cap0 = 0 ∧ z0 = []) ∨ ∃ x, a0 = some x ∧ len0 ≤ cap0 ∧ cap0 ≤ maxLen ∧ z0.length = cap0 ∧ (∀ i, i < z0.length → w.cell? (x.add i) = some (.int .i64 (z0.getD i 0))) ∧ ∀ n ∈ z0, (Lit.int .i64 n).wf = true) (y0 : len0 * 8 ≤ 140737488351232) :
  Calls Try.prog 11 #[.slice a0 len0 cap0] w fun e w' => e = .returned (.bool true) ∧ Below w.heap.size w w' := by
 obtain ⟨l0, rfl, hr0', hm0, hw0, hc0⟩ := ReadsInt.ofRowC w0
 have hr0 := Kd.C_of_reads (d := (0 : Int)) (h1 := fun _ => rfl) hr0'
 clear hr0'
 obtain ⟨A0, hA0⟩ : ∃ A, A = a0 := ⟨_, rfl⟩
 subst hA0
 obtain ⟨c0, hcc0⟩ : ∃ c, c = cap0 := ⟨_, rfl⟩
 subst hcc0
 have HR0 := Aside0.mk hr0
 have HC0 := Aside0.mk hc0
 have HBw := Aside0.mk (Below.refl w.heap.size w)
 by_cases cz : (l0.length : Int) > 1048576
 ·have bz : decide (1048576 < (l0.length : Int)) = true := decide_eq_true cz
  have bz1 : decide (1048576 < l0.length) = true := decide_eq_true (by omega)
  clear cz hr0 hc0
  go_enter Try.func11, Try.ntmps11
  go_wp2
  go_ret
  exact ⟨rfl, HBw.out⟩
 have bz : decide (1048576 < (l0.length : Int)) = false := decide_eq_false cz
 have bz1 : decide (1048576 < l0.length) = false := decide_eq_false (by omega)
 have hl0 : l0.length ≤ 1048576 := by omega
 have HLL := Aside0.mk hl0
 obtain ⟨K1, h1⟩ := toIntS_ev l0 hl0
 obtain ⟨K3, h3⟩ := eqIntS_same l0 hl0
 have H1 := Aside0.mk (h1 K1 (Nat.le_refl _))
 have H3 := Aside0.mk (h3 K3 (Nat.le_refl _))
 obtain ⟨K5, r, rb, hsp, him, hrl, hrt⟩ := P l0 hl0 hw0
 have HSP := Aside0.mk hsp
 have HIM := Aside0.mk him
 have HRL := Aside0.mk (show r.length ≤ 1048576 ∧ totalL r ≤ 1048576 from ⟨hrl, hrt⟩)
 obtain ⟨K2, h2⟩ := eqIntSS_same r hrl (fun x hx => Nat.le_trans (totalL_mem r x hx) hrt)
 obtain ⟨K4, h4⟩ := heldIntSS_ev r hrl hrt
 have bm : decide (1 + ((totalL r : Nat) : Int) < 0) = false := decide_eq_false (by omega)
 have bx : decide (1 + ((l0.length : Int) : Int) < 0) = false := decide_eq_false (by omega)
 have be : (rb != rb) = false := by cases rb <;> rfl
 have H2 := Aside0.mk (h2 K2 (Nat.le_refl _))
 have H4 := Aside0.mk (h4 K4 (Nat.le_refl _))
 clear hsp him hrl h2 h4 hrt h1 h3 cz hr0 hc0 hl0 hm0 hw0
 go_enter Try.func11, Try.ntmps11
 go_wp2_with (first | ((with_reducible refine gate_dst (N := 18) rfl ?_); refine goesL_ (some 18) rfl rfl Try.func13 (by kernel_rfl) rfl #[.slice A0 l0.length c0] rfl (by (try simp only [List.map_toArray, List.map_cons, List.map_nil]); first | done | rfl) ?_; refine (laws_toIntS.calls K1 A0 c0 l0 l0 _ (Kd.C_below HR0.out HBw.out) HC0.out H1.out).mono ?_; rintro e_ w1 ⟨v_, rfl, ho_, hb_⟩; refine ⟨_, rfl, ?_⟩; obtain ⟨As0, cs0, rfl⟩ := Kd.R_slice ho_; have n_HBw := Aside0.mk (below_step HBw.out hb_); clear HBw; have HBw := n_HBw; clear n_HBw; have Hs0 := Aside0.mk (ho_); have Hbs0 := Aside0.mk hb_; clear ho_ hb_) | ((with_reducible refine gate_dst (N := 19) rfl ?_); refine goesL_ (some 19) rfl rfl Try.func40 (by kernel_rfl) rfl #[.slice As0 l0.length cs0] rfl (by (try simp only [List.map_toArray, List.map_cons, List.map_nil]); first | done | rfl) ?_; refine (spec_SystemOfRow.calls K5 As0 cs0 l0 r rb _ (Kd.R_reads' Hs0.out).2.2 (Kd.R_reads' Hs0.out).2.1 HSP.out).mono ?_; rintro e_ w2 ⟨v_, rfl, ho_, hb_⟩; refine ⟨_, rfl, ?_⟩; obtain ⟨Aw, cw, rfl⟩ := Kd.N_slice ho_; have n_HBw := Aside0.mk (below_step HBw.out hb_); clear HBw; have HBw := n_HBw; clear n_HBw; have HW := Aside0.mk (ho_); have HBw3 := Aside0.mk HBw.out; have HB3 := Aside0.mk (Below.refl w2.heap.size w2); clear ho_ hb_; have HWC := Aside0.mk (Kd.N_reads' HW.out).2.2; have HWN := Aside0.mk (Kd.N_reads' HW.out).2.1; clear HW) | ((with_reducible refine gate_dst (N := 23) rfl ?_); refine goesL_ (some 23) rfl rfl Try.func13 (by kernel_rfl) rfl #[.slice A0 l0.length c0] rfl (by (try simp only [List.map_toArray, List.map_cons, List.map_nil]); first | done | rfl) ?_; refine (laws_toIntS.calls K1 A0 c0 l0 l0 _ (Kd.C_below HR0.out HBw.out) HC0.out H1.out).mono ?_; rintro e_ w3 ⟨v_, rfl, ho_, hb_⟩; refine ⟨_, rfl, ?_⟩; obtain ⟨Ax, cx, rfl⟩ := Kd.R_slice ho_; have n_HBw := Aside0.mk (below_step HBw.out hb_); have n_HB3 := Aside0.mk (below_step HB3.out hb_); clear HBw; clear HB3; have HBw := n_HBw; have HB3 := n_HB3; clear n_HBw; clear n_HB3; have Hx := Aside0.mk (ho_); have Hbx := Aside0.mk hb_; clear ho_ hb_; have HX := Aside0.mk (show Kd.R (Kd.int .i64) 3  w3 w2.heap.size (fun q_ => w2.heap.size ≤ q_ ∧ q_ < w3.heap.size) (.slice Ax l0.length cx) l0 from Kd.R_mono (Kd.R_bound Hx.out) (fun q_ hq_ => ⟨hq_.2.1, hq_.2.2.1⟩)); clear Hx; have HB4 := Aside0.mk HB3.out) | ((with_reducible refine gate_dst (N := 26) rfl ?_); refine goesL_ (some 26) rfl rfl Try.func41 (by kernel_rfl) rfl #[.slice Ax l0.length cx] rfl (by (try simp only [List.map_toArray, List.map_cons, List.map_nil]); first | done | rfl) ?_; refine (impl_SystemOfRow.calls K5 Ax cx l0 r rb _ (Kd.R_reads' HX.out).2.2 (Kd.R_reads' HX.out).2.1 HIM.out).mono ?_; rintro e_ w4 ⟨v_, rfl, ho_, hb_⟩; refine ⟨_, rfl, ?_⟩; obtain ⟨Ag, cg, rfl⟩ := Kd.R_slice (Kd.S_R ho_); have n_HBw := Aside0.mk (below_step HBw.out hb_); have n_HB3 := Aside0.mk (below_step HB3.out hb_); have n_HX := Aside0.mk (Kd.R_below HX.out hb_); clear HBw; clear HB3; clear HX; have HBw := n_HBw; have HB3 := n_HB3; have HX := n_HX; clear n_HBw; clear n_HB3; clear n_HX; have HG := Aside0.mk (show Kd.S (Kd.slice 3 (Kd.int .i64)) 22 w4 w2.heap.size (fun q_ => w3.heap.size ≤ q_) (.slice Ag r.length cg) r from Kd.S_lower (Kd.S_mono (Kd.S_bound ho_) (fun q_ hq_ => hq_.2.1)) HB4.out.size); clear ho_ hb_) | ((with_reducible refine gate_dst (N := 31) rfl ?_); refine goesL_ (some 31) rfl rfl Try.func15 (by kernel_rfl) rfl #[.slice Ag r.length cg, .slice Aw r.length cw] rfl (by (try simp only [List.map_toArray, List.map_cons, List.map_nil]); first | done | rfl) ?_; refine (laws_eqIntSS.calls K2 Ag cg r Aw cw r true _ (Kd.R_reads' (Kd.S_R HG.out)).2.2 (Kd.R_reads' (Kd.S_R HG.out)).2.1 (Kd.C_below HWC.out HB3.out) HWN.out H2.out).mono ?_; rintro e_ w_ ⟨rfl, ⟨nd_, rfl⟩⟩; refine ⟨_, rfl, ?_⟩; have hb_ := pw_below_drewN (Below.refl w4.heap.size w4) nd_; generalize w4.drewN nd_ = w5 at hb_ ⊢; have n_HBw := Aside0.mk (below_step HBw.out hb_); have n_HB3 := Aside0.mk (below_step HB3.out hb_); have n_HX := Aside0.mk (Kd.R_below HX.out hb_); have n_HG := Aside0.mk (Kd.S_below HG.out hb_); clear HBw; clear HB3; clear HX; clear HG; have HBw := n_HBw; have HB3 := n_HB3; have HX := n_HX; have HG := n_HG; clear n_HBw; clear n_HB3; clear n_HX; clear n_HG; clear hb_) | ((with_reducible refine gate_dst (N := 40) rfl ?_); refine goesL_ (some 40) rfl rfl Try.func13 (by kernel_rfl) rfl #[.slice A0 l0.length c0] rfl (by (try simp only [List.map_toArray, List.map_cons, List.map_nil]); first | done | rfl) ?_; refine (laws_toIntS.calls K1 A0 c0 l0 l0 _ (Kd.C_below HR0.out HBw.out) HC0.out H1.out).mono ?_; rintro e_ w6 ⟨v_, rfl, ho_, hb_⟩; refine ⟨_, rfl, ?_⟩; obtain ⟨Ay, cy, rfl⟩ := Kd.R_slice ho_; have n_HBw := Aside0.mk (below_step HBw.out hb_); have n_HB3 := Aside0.mk (below_step HB3.out hb_); have n_HX := Aside0.mk (Kd.R_below HX.out hb_); have n_HG := Aside0.mk (Kd.S_below HG.out hb_); clear HBw; clear HB3; clear HX; clear HG; have HBw := n_HBw; have HB3 := n_HB3; have HX := n_HX; have HG := n_HG; clear n_HBw; clear n_HB3; clear n_HX; clear n_HG; have Hy := Aside0.mk (ho_); have Hby := Aside0.mk hb_; clear ho_ hb_) | ((with_reducible refine gate_dst (N := 41) rfl ?_); refine goesL_ (some 41) rfl rfl Try.func16 (by kernel_rfl) rfl #[.slice Ax l0.length cx, .slice Ay l0.length cy] rfl (by (try simp only [List.map_toArray, List.map_cons, List.map_nil]); first | done | rfl) ?_; refine (laws_eqIntS.calls K3 Ax cx l0 Ay cy l0 true _ (Kd.R_reads' HX.out).2.2 (Kd.R_reads' HX.out).2.1 (Kd.R_reads' Hy.out).2.2 (Kd.R_reads' Hy.out).2.1 H3.out).mono ?_; rintro e_ w_ ⟨rfl, ⟨nd_, rfl⟩⟩; refine ⟨_, rfl, ?_⟩; have hb_ := pw_below_drewN (Below.refl w6.heap.size w6) nd_; generalize w6.drewN nd_ = w7 at hb_ ⊢; have n_HBw := Aside0.mk (below_step HBw.out hb_); have n_HB3 := Aside0.mk (below_step HB3.out hb_); have n_HX := Aside0.mk (Kd.R_below HX.out hb_); have n_HG := Aside0.mk (Kd.S_below HG.out hb_); clear HBw; clear HB3; clear HX; clear HG; have HBw := n_HBw; have HB3 := n_HB3; have HX := n_HX; have HG := n_HG; clear n_HBw; clear n_HB3; clear n_HX; clear n_HG; clear hb_) | ((with_reducible refine gate_dst (N := 45) rfl ?_); refine goesL_ (some 45) rfl rfl Try.func17 (by kernel_rfl) rfl #[.slice Ax l0.length cx, .int .i64 1] rfl (by (try simp only [List.map_toArray, List.map_cons, List.map_nil]); first | done | rfl) ?_; refine (laws_markIntS.calls (l0.length + 1) (fun q_ => w2.heap.size ≤ q_ ∧ q_ < w3.heap.size) (.slice Ax l0.length cx) l0 1 _ _ w2 _ HB3.out HX.out (laws_markIntS.run0 l0 1 HLL.out (by omega) (by have := HLL.out; omega))).mono ?_; rintro e_ w8 ⟨rfl, hs_, hb_, hk_⟩; refine ⟨_, rfl, ?_⟩; have n_HBw := Aside0.mk (below_step HBw3.out hb_); have n_HB3 := Aside0.mk (hb_); have n_HG := Aside0.mk (Kd.S_kept HG.out hk_ (fun q_ h1_ h2_ => by have h3_ := h2_.2; have h4_ := h1_; omega)); clear HBw; clear HB3; clear HX; clear HG; have HBw := n_HBw; have HB3 := n_HB3; have HG := n_HG; clear n_HBw; clear n_HB3; clear n_HG; clear hs_ hb_ hk_) | (go_at_call 15; refine (laws_eqIntSS.calls K2 Ag cg r Aw cw r true _ (Kd.R_reads' (Kd.S_R HG.out)).2.2 (Kd.R_reads' (Kd.S_R HG.out)).2.1 (Kd.C_below HWC.out HB3.out) HWN.out H2.out).mono ?_; rintro e_ w_ ⟨rfl, ⟨nd_, rfl⟩⟩; have hb_ := pw_below_drewN (Below.refl w8.heap.size w8) nd_; generalize w8.drewN nd_ = w9 at hb_ ⊢; have n_HBw := Aside0.mk (below_step HBw.out hb_); have n_HB3 := Aside0.mk (below_step HB3.out hb_); have n_HG := Aside0.mk (Kd.S_below HG.out hb_); clear HBw; clear HB3; clear HG; have HBw := n_HBw; have HB3 := n_HB3; have HG := n_HG; clear n_HBw; clear n_HB3; clear n_HG; clear hb_) | ((with_reducible refine gate_dst (N := 61) rfl ?_); refine goesL_ (some 61) rfl rfl Try.func18 (by kernel_rfl) rfl #[.slice Ag r.length cg, .int .i64 1] rfl (by (try simp only [List.map_toArray, List.map_cons, List.map_nil]); first | done | rfl) ?_; refine (laws_markIntSS.calls (w0 := w2) (m := 1) (xs := r) HRL.out.1 HRL.out.2 (by omega) (by omega) _ HB3.out HG.out).mono ?_; rintro e_ w10 ⟨rfl, hs_, hb_, hk_⟩; refine ⟨_, rfl, ?_⟩; have n_HBw := Aside0.mk (below_step HBw3.out hb_); have n_HB3 := Aside0.mk (hb_); clear HBw; clear HB3; clear HG; have HBw := n_HBw; have HB3 := n_HB3; clear n_HBw; clear n_HB3; have HG := Aside0.mk hs_; clear hs_ hb_ hk_) | ((with_reducible refine gate_dst (N := 64) rfl ?_); refine goesL_ (some 64) rfl rfl Try.func19 (by kernel_rfl) rfl #[.slice Ag r.length cg, .int .i64 1] rfl (by (try simp only [List.map_toArray, List.map_cons, List.map_nil]); first | done | rfl) ?_; refine (held_at K4 Ag cg r _ HG.out H4.out).mono ?_; rintro e_ w_ ⟨rfl, ⟨nd_, rfl⟩⟩; refine ⟨_, rfl, ?_⟩; have hb_ := pw_below_drewN (Below.refl w10.heap.size w10) nd_; generalize w10.drewN nd_ = w11 at hb_ ⊢; have n_HBw := Aside0.mk (below_step HBw.out hb_); have n_HB3 := Aside0.mk (below_step HB3.out hb_); have n_HG := Aside0.mk (Kd.S_below HG.out hb_); clear HBw; clear HB3; clear HG; have HBw := n_HBw; have HB3 := n_HB3; have HG := n_HG; clear n_HBw; clear n_HB3; clear n_HG; clear hb_) | ((with_reducible refine gate_dst (N := 72) rfl ?_); refine goesL_ (some 72) rfl rfl Try.func13 (by kernel_rfl) rfl #[.slice A0 l0.length c0] rfl (by (try simp only [List.map_toArray, List.map_cons, List.map_nil]); first | done | rfl) ?_; refine (laws_toIntS.calls K1 A0 c0 l0 l0 _ (Kd.C_below HR0.out HBw.out) HC0.out H1.out).mono ?_; rintro e_ w12 ⟨v_, rfl, ho_, hb_⟩; refine ⟨_, rfl, ?_⟩; obtain ⟨Az, cz, rfl⟩ := Kd.R_slice ho_; have n_HBw := Aside0.mk (below_step HBw.out hb_); have n_HB3 := Aside0.mk (below_step HB3.out hb_); have n_HG := Aside0.mk (Kd.S_below HG.out hb_); clear HBw; clear HB3; clear HG; have HBw := n_HBw; have HB3 := n_HB3; have HG := n_HG; clear n_HBw; clear n_HB3; clear n_HG; have Hz := Aside0.mk (ho_); have Hbz := Aside0.mk hb_; clear ho_ hb_) | ((with_reducible refine gate_dst (N := 73) rfl ?_); refine goesL_ (some 73) rfl rfl Try.func41 (by kernel_rfl) rfl #[.slice Az l0.length cz] rfl (by (try simp only [List.map_toArray, List.map_cons, List.map_nil]); first | done | rfl) ?_; refine (impl_SystemOfRow.calls K5 Az cz l0 r rb _ (Kd.R_reads' Hz.out).2.2 (Kd.R_reads' Hz.out).2.1 HIM.out).mono ?_; rintro e_ w13 ⟨v_, rfl, ho_, hb_⟩; refine ⟨_, rfl, ?_⟩; obtain ⟨Ah, ch, rfl⟩ := Kd.R_slice (Kd.S_R ho_); have n_HBw := Aside0.mk (below_step HBw.out hb_); have n_HB3 := Aside0.mk (below_step HB3.out hb_); have n_HG := Aside0.mk (Kd.S_below HG.out hb_); clear HBw; clear HB3; clear HG; have HBw := n_HBw; have HB3 := n_HB3; have HG := n_HG; clear n_HBw; clear n_HB3; clear n_HG; have HH := Aside0.mk ho_; clear ho_ hb_) | ((with_reducible refine gate_dst (N := 78) rfl ?_); refine goesL_ (some 78) rfl rfl Try.func15 (by kernel_rfl) rfl #[.slice Ah r.length ch, .slice Aw r.length cw] rfl (by (try simp only [List.map_toArray, List.map_cons, List.map_nil]); first | done | rfl) ?_; refine (laws_eqIntSS.calls K2 Ah ch r Aw cw r true _ (Kd.R_reads' (Kd.S_R HH.out)).2.2 (Kd.R_reads' (Kd.S_R HH.out)).2.1 (Kd.C_below HWC.out HB3.out) HWN.out H2.out).mono ?_; rintro e_ w_ ⟨rfl, ⟨nd_, rfl⟩⟩; refine ⟨_, rfl, ?_⟩; have hb_ := pw_below_drewN (Below.refl w13.heap.size w13) nd_; generalize w13.drewN nd_ = w14 at hb_ ⊢; have n_HBw := Aside0.mk (below_step HBw.out hb_); have n_HB3 := Aside0.mk (below_step HB3.out hb_); have n_HG := Aside0.mk (Kd.S_below HG.out hb_); clear HBw; clear HB3; clear HG; have HBw := n_HBw; have HB3 := n_HB3; have HG := n_HG; clear n_HBw; clear n_HB3; clear n_HG; clear hb_) | ((with_reducible refine gate_dst (N := 87) rfl ?_); refine goesL_ (some 87) rfl rfl Try.func19 (by kernel_rfl) rfl #[.slice Ag r.length cg, .int .i64 1] rfl (by (try simp only [List.map_toArray, List.map_cons, List.map_nil]); first | done | rfl) ?_; refine (held_at K4 Ag cg r _ HG.out H4.out).mono ?_; rintro e_ w_ ⟨rfl, ⟨nd_, rfl⟩⟩; refine ⟨_, rfl, ?_⟩; have hb_ := pw_below_drewN (Below.refl w14.heap.size w14) nd_; generalize w14.drewN nd_ = w15 at hb_ ⊢; have n_HBw := Aside0.mk (below_step HBw.out hb_); have n_HB3 := Aside0.mk (below_step HB3.out hb_); have n_HG := Aside0.mk (Kd.S_below HG.out hb_); clear HBw; clear HB3; clear HG; have HBw := n_HBw; have HB3 := n_HB3; have HG := n_HG; clear n_HBw; clear n_HB3; clear n_HG; clear hb_))
 go_ret
 exact ⟨rfl, HBw.out⟩

end Go.Proofs.Ytgpnhaaklhinlaa.PFnExactSystemOfRow
