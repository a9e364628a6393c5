-- Written by plug.py, a program of this session, over the kit's print of the function: checked by Lean alone.
import Derived.Test.YteepinopcmcklaaPFnExactRowOfPairsx0
import Derived.Test.YteepinopcmcklaaPFnExactRowOfPairsx1
import Derived.Test.YteepinopcmcklaaPFnExactRowOfPairsx3
import Derived.Test.YteepinopcmcklaaPFnExactRowOfPairsx5
namespace Go.Proofs.Yteepinopcmcklaa.PFnExactRowOfPairs
open Go.RowKit Go.Proofs.YteepinopcmcklaaW.PrintWords Go.Proofs.YteepinopcmcklaaW.PrintLast Go.Proofs.YteepinopcmcklaaW.PrintMore
attribute [local go_sem] max2_int min2_int max_two min_two max_three min_three max_four min_four   -- for this text's walks alone
set_option linter.unusedVariables false
set_option linter.unusedSimpArgs false

/-! ### laws_markIntS: function 17 -/
def laws_markIntS.l0 : Nat → List Int → Int → Int → Option (Int × List Int)
 | 0, _, _, _ => none
 | k + 1, x0, x1, x5 => if x5 < (x0.length : Int) then (if 0 ≤ x5 then (laws_markIntS.l0 k (x0.set (x5 : Int).toNat x1) (wrap64 (x1 + 1)) (wrap64 (x5 + 1))) else (none)) else (some (x1, x0))
def laws_markIntS.f (k : Nat) (l0 : List Int) (a1 : Int) : Option (Int × List Int) := laws_markIntS.l0 k l0 a1 0
theorem laws_markIntS.mono_l : ∀ k, (∀ y0 y1 y2, LeO (laws_markIntS.l0 k y0 y1 y2) (laws_markIntS.l0 (k + 1) y0 y1 y2))
 | 0 => fun _ _ _ r h => by simp [laws_markIntS.l0] at h
 | k + 1 => by
  have ih0 := laws_markIntS.mono_l k
  ·intro y0 y1 y2
   unfold laws_markIntS.l0
   repeat' first
   | (with_reducible exact ih0 _ _ _)
   | (with_reducible exact LeO.refl _)
   | (with_reducible exact LeO.none _)
   | (with_reducible refine LeO.ite ?_ ?_)
   | (with_reducible refine LeO.bind ?_ (fun _ => ?_))
   | exact ih0 _ _ _
   | exact LeO.none _
   | refine LeO.ite ?_ ?_
   | refine LeO.bind ?_ (fun _ => ?_)
theorem laws_markIntS.mono : ∀ a0 a1 k, LeO (laws_markIntS.f k a0 a1) (laws_markIntS.f (k + 1) a0 a1) := by
 intro a0 a1 k
 have ih0 := laws_markIntS.mono_l k
 unfold laws_markIntS.f
 repeat' first
   | (with_reducible exact ih0 _ _ _)
   | (with_reducible exact LeO.refl _)
   | (with_reducible exact LeO.none _)
   | (with_reducible refine LeO.ite ?_ ?_)
   | (with_reducible refine LeO.bind ?_ (fun _ => ?_))
   | exact ih0 _ _ _
   | exact LeO.none _
   | refine LeO.ite ?_ ?_
   | refine LeO.bind ?_ (fun _ => ?_)
set_option maxHeartbeats 8000000 in
set_option maxRecDepth 100000 in
theorem laws_markIntS.calls (k : Nat) (P0_ : Nat → Prop) (u9000_ : Value) (l0 : List Int) (a1 : Int) (r1 : Int) (r2 : List Int) (w0 w : World) (hB : Below w0.heap.size w0 w) (ho0 : Kd.R (Kd.int .i64) 3 w w0.heap.size P0_ u9000_ l0) (h : laws_markIntS.f k l0 a1 = some (r1, r2)) :
  Calls Try.prog 17 #[u9000_, .int .i64 a1] w fun e w' => e = .returned (.int .i64 r1) ∧ Kd.R (Kd.int .i64) 3 w' w0.heap.size (fun k_ => (P0_ k_ ∨ w.heap.size ≤ k_)) u9000_ r2 ∧ Below w0.heap.size w0 w' ∧ Kept w w' (fun k_ => P0_ k_) := by
 have HO0 := Aside0.mk (show Kd.R (Kd.int .i64) 3 w w0.heap.size (fun k_ => (P0_ k_ ∨ w.heap.size ≤ k_)) u9000_ l0 from Kd.R_mono ho0 (fun k_ hk => (.inl hk)))
 have HK := Aside0.mk (Kept.refl w (fun k_ => P0_ k_))
 have HW0 := Aside0.mk hB.size
 have HB := Aside0.mk hB
 clear hB
 have H : (laws_markIntS.l0 k l0 a1 0) = some (r1, r2) := h
 clear h
 have H' := Aside0.mk H
 clear H
 go_enter Try.func17, Try.ntmps17
 go_wp2
 go_loopg [1, 5] k (fun kq v1 v5 w' => ∃ (x0_1 : List Int) (x1_1 : Int) (x5_1 : Int), v1 = .int .i64 x1_1 ∧ v5 = .int .i64 x5_1 ∧ Aside0 (laws_markIntS.l0 kq x0_1 x1_1 x5_1 = some (r1, r2)) ∧ Aside0 (kq ≤ k) ∧ Aside0 (Kd.R (Kd.int .i64) 3 w' w0.heap.size (fun k_ => (P0_ k_ ∨ w.heap.size ≤ k_)) u9000_ x0_1) ∧ Aside0 (Kept w w' (fun k_ => P0_ k_)) ∧ Aside0 (Below w0.heap.size w0 w'))
 case atStart => exact ⟨(l0), (a1), (0), (by first | rfl | (simp; done) | (simp [*]; done)), (by first | rfl | (simp; done) | (simp [*]; done)), H', ⟨Nat.le_refl _⟩, ⟨by (with_reducible repeat (first | apply Kd.R_alloc | apply Kd.R_drewN | apply Kd.R_drew)); exact HO0.out⟩, ⟨by repeat (first | (with_reducible first | exact HK.out | apply Kept.alloc | apply Kept.drewN | apply Kept.drew) | exact HK.out)⟩, ⟨by repeat (first | (with_reducible first | exact HB.out | apply below_alloc | apply pw_below_drewN | apply below_drew1) | exact HB.out)⟩⟩
 case round =>
  clear H'
  try clear c1
  try clear p2
  obtain ⟨x0_1, x1_1, x5_1, rfl, rfl, HA, HK1, HO_0, HK, HB⟩ := hrel
  cases gk with
  | zero => exact absurd HA.out (by simp [laws_markIntS.l0])
  | succ k1 =>
   have H := HA.out
   clear HA
   simp only [laws_markIntS.l0] at H
   by_cases c3 : x5_1 < (x0_1.length : Int)
   ·rw [if_pos c3] at H
    have c3b0 : decide (x5_1 < (x0_1.length : Int)) = true := decide_eq_true c3
    clear c3
    by_cases c4 : 0 ≤ x5_1
    ·rw [if_pos c4] at H
     have c4b0 : decide (0 ≤ x5_1) = true := decide_eq_true c4
     clear c4
     obtain ⟨y171, hy171⟩ : ∃ y_ : List Int, y_ = (x0_1.set (x5_1 : Int).toNat x1_1) := ⟨_, rfl⟩
     replace H : (laws_markIntS.l0 k1 y171 (wrap64 (x1_1 + 1)) (wrap64 (x5_1 + 1))) = some (r1, r2) := by first | (rw [hy171]; with_reducible exact H) | (have H2_ := (Option.bind_some _ _).symm.trans H; rw [hy171]; with_reducible exact H2_) | (have H2_ := (Option.bind_some _ _).symm.trans H; with_reducible exact H2_) | with_reducible exact H | (rw [hy171]; exact H) | exact H
     have Ny171 := Aside0.mk hy171
     clear hy171
     have H' := Aside0.mk H
     clear H
     obtain ⟨Ao6, co6, eo6⟩ := Kd.R_slice HO_0.out
     subst eo6
     have p5 : 0 ≤ (x5_1 : Int) := of_decide_eq_true (by first | (with_reducible assumption) | assumption)
     have q5 : (x5_1 : Int) < ((x0_1.length : Int) : Int) := of_decide_eq_true (by first | (with_reducible assumption) | assumption)
     obtain ⟨go5, co5, eo5, gb5, gl5, cl5, HG5⟩ := Kd.R_form HO_0.out (by omega)
     (first | cases eo5 | (injection eo5 with ea_ en_ ec_; (first | subst ea_ | (injection ea_ with ea_; subst ea_)); subst ec_; clear en_))
     have GB5 := Aside0.mk gb5
     have GG5 := Aside0.mk HG5
     clear gb5 gl5 HG5
     have HMgo5 := Aside0.mk (show (P0_ go5 ∨ w.heap.size ≤ go5) from (HO_0.out.1 _ rfl))
     obtain ⟨hx5_0, hf5_0⟩ := Kd.R_celln 0 HO_0.out (x5_1 : Int) p5 q5
     replace p5 := eq_true p5
     replace q5 := eq_true q5
     have HP7 := Kd.R_putg HO_0.out (x5_1 : Int) x1_1
     go_wp2_with (first | ((with_reducible refine gate_store (t := 3) (p := 15) rfl ?_); refine store_event (t := 3) (p := 15) (v := ?vo_w8) (w1 := (wr.setCell ⟨go5, (x5_1 : Int).toNat, none⟩ (.int .i64 x1_1))) ?hg ?ho ?hn ?hr ?_; (case ho => rfl); (case hg => rfl); (case hn => rfl); (case hr => first | (go_simp; done) | (go_simp; rfl)); intro w8 hw; have hg : wr.grownBy w8 (some go5) := (by rw [hw]; exact HP7.2); have hp_ : Kd.R (Kd.int .i64) 3 w8 w0.heap.size (fun k_ => (P0_ k_ ∨ w.heap.size ≤ k_)) (.slice (some ⟨go5, 0, none⟩) x0_1.length co6) y171 := (by rw [hw, Ny171.out]; exact HP7.1); clear HP7; have n0_ := Aside0.mk (hp_); have n1_ := Aside0.mk ((by rw [hw]; exact below_set (HB.out) GB5.out : Below w0.heap.size w0 w8)); have n2_ := Aside0.mk (Kept.of_grown (S := (fun k_ => P0_ k_)) hg (by repeat (first | (with_reducible first | exact HK.out | apply Kept.alloc | apply Kept.drewN | apply Kept.drew) | exact HK.out)) (fun k_ e_ => (HO_0.out.1 k_ e_))); clear HO_0; clear HB; clear HK; have HO_0 := n0_; have HB := n1_; have HK := n2_; clear n0_ n1_ n2_; clear hg hw hp_))
     go_roundg k1
     case measure => have := HK1.out; omega
     case rel => exact ⟨(y171), (wrap64 (x1_1 + 1)), (wrap64 (x5_1 + 1)), (by first | rfl | (simp; done) | (simp [*]; done)), (by first | rfl | (simp; done) | (simp [*]; done)), H', ⟨by have := HK1.out; omega⟩, ⟨by (with_reducible repeat (first | apply Kd.R_alloc | apply Kd.R_drewN | apply Kd.R_drew)); exact HO_0.out⟩, ⟨by repeat (first | (with_reducible first | exact HK.out | apply Kept.alloc | apply Kept.drewN | apply Kept.drew) | exact HK.out)⟩, ⟨by repeat (first | (with_reducible first | exact HB.out | apply below_alloc | apply pw_below_drewN | apply below_drew1) | exact HB.out)⟩⟩
    ·rw [if_neg c4] at H
     exact absurd H (by simp)
   ·rw [if_neg c3] at H
    have c3b0 : decide (x5_1 < (x0_1.length : Int)) = false := decide_eq_false c3
    clear c3
    simp only [Option.some.injEq, Prod.mk.injEq] at H
    obtain ⟨rfl, rfl⟩ := H
    obtain ⟨Ao9, co9, eo9⟩ := Kd.R_slice HO_0.out
    subst eo9
    go_wp2
    go_ret
    exact ⟨by first | rfl | (simp [errW_none, errW_some] <;> rfl) | (simp [*, errW_none, errW_some] <;> rfl), by (with_reducible repeat (first | apply Kd.R_alloc | apply Kd.R_drewN | apply Kd.R_drew)); exact HO_0.out, by repeat (first | (with_reducible first | exact HB.out | apply below_alloc | apply pw_below_drewN | apply below_drew1) | exact HB.out), by repeat (first | (with_reducible first | exact HK.out | apply Kept.alloc | apply Kept.drewN | apply Kept.drew) | exact HK.out)⟩

/-! ### laws_markIntSS: function 16 -/
/-- The rows, each with the numbers that the mark gives it. -/
def marksL : Int → List (List Int) → List (List Int)
 | _, [] => []
 | m, x :: t => Aid.upFrom x.length m :: marksL (m + x.length) t
def totalL : List (List Int) → Nat
 | [] => 0
 | x :: t => x.length + totalL t
theorem totalL_mem : ∀ (t : List (List Int)) (x : List Int), x ∈ t → x.length ≤ totalL t
 | [], x, h => by simp at h
 | y :: t, x, h => by
  unfold totalL
  rcases List.mem_cons.1 h with rfl | h
  ·omega
  ·have := totalL_mem t x h
   omega
theorem marksL_len : ∀ (t : List (List Int)) (m : Int), (marksL m t).length = t.length
 | [], m => rfl
 | x :: t, m => by simp [marksL, marksL_len t]
theorem marksL_total : ∀ (t : List (List Int)) (m : Int), totalL (marksL m t) = totalL t
 | [], m => rfl
 | x :: t, m => by simp [marksL, totalL, marksL_total t, Aid.upFrom_length]
theorem laws_markIntS.run : ∀ (t xs : List Int) (i : Nat) (m : Int), xs.length ≤ 1048576 → xs.drop i = t → 0 ≤ m → m + t.length ≤ 4611686018427387904 → laws_markIntS.l0 (t.length + 1) xs m (i : Int) = some (m + t.length, xs.take i ++ Aid.upFrom t.length m)
 | [], xs, i, m, hx, h, hm, hb => by
  have h1 := Aid.dropNil h
  simp (disch := omega) only [laws_markIntS.l0, List.length_nil, if_neg]
  simp [Aid.upFrom, List.take_of_length_le h1]
 | x :: t, xs, i, m, hx, h, hm, hb => by
  obtain ⟨h1, h2, h3⟩ := Aid.dropCons h
  simp only [List.length_cons] at hb ⊢
  have e : (xs.set i m).drop (i + 1) = t := by rw [List.drop_set_of_lt (by omega), h3]
  have e1 : wrap64 (m + 1) = m + 1 := Aid.w64 (by omega) (by omega)
  rw [laws_markIntS.l0, if_pos (by omega), if_pos (by omega), e1, Aid.w64s (by omega), Int.toNat_natCast, laws_markIntS.run t (xs.set i m) (i + 1) (m + 1) (by simpa using hx) e (by omega) (by omega)]
  rw [Aid.set_at _ _ _ _ _ h]
  have : (xs.take i ++ m :: t).take (i + 1) = xs.take i ++ [m] := by
   have hl : (xs.take i).length = i := by simp; omega
   rw [List.take_append, List.take_of_length_le (by omega), hl, show i + 1 - i = 1 by omega]
   rfl
  rw [this]
  simp [Aid.upFrom]
  omega
theorem laws_markIntS.run0 (xs : List Int) (m : Int) (hx : xs.length ≤ 1048576) (hm : 0 ≤ m) (hb : m + xs.length ≤ 4611686018427387904) : laws_markIntS.f (xs.length + 1) xs m = some (m + xs.length, Aid.upFrom xs.length m) := by
 have h := laws_markIntS.run xs xs 0 m hx rfl hm hb
 simpa [laws_markIntS.f] using h
/-- What a mark leaves. -/
def MarkPost (w0 : World) (ok : Nat → Prop) (v : Value) (m : Int) (xs : List (List Int)) (w : World) (e : Ending) (w' : World) : Prop :=
 e = .returned (.int .i64 (m + (totalL xs : Nat))) ∧ Kd.S (Kd.slice 3 (Kd.int .i64)) 29 w' w0.heap.size ok v (marksL m xs) ∧ Below w0.heap.size w0 w' ∧ Kept w w' ok
theorem mark_next {xs ys : List (List Int)} {i : Nat} {k m : Int} {x : List Int} (hd : ys.drop i = xs.drop i) (ha : ys.take i ++ marksL k (xs.drop i) = marksL m xs) (hx : xs[i]? = some x) : (ys.set i (Aid.upFrom x.length k)).drop (i + 1) = xs.drop (i + 1) ∧ (ys.set i (Aid.upFrom x.length k)).take (i + 1) ++ marksL (k + x.length) (xs.drop (i + 1)) = marksL m xs := by
 obtain ⟨hi, e⟩ := List.getElem?_eq_some_iff.1 hx
 have hc : xs.drop i = x :: xs.drop (i + 1) := by rw [List.drop_eq_getElem_cons hi, e]
 have hl : i < ys.length := by
  have := congrArg List.length hd
  simp only [List.length_drop] at this
  omega
 constructor
 ·rw [List.drop_set_of_lt (by omega), ← List.drop_drop, hd, List.drop_drop]
 ·rw [hc, marksL] at ha
  rw [List.take_add_one, List.take_set_of_le (by omega), List.getElem?_set_self hl, List.append_assoc]
  exact ha
theorem total_next {xs : List (List Int)} {i : Nat} {x : List Int} (hx : xs[i]? = some x) : totalL (xs.drop i) = x.length + totalL (xs.drop (i + 1)) := by
 obtain ⟨hi, e⟩ := List.getElem?_eq_some_iff.1 hx
 rw [List.drop_eq_getElem_cons hi, e, totalL]
/-- A row is lent, written, and put back. -/
theorem mark_row {w0 w : World} {ok : Nat → Prop} {g n c : Nat} {ys : List (List Int)} {i : Nat} {x : List Int} (hS : Kd.S (Kd.slice 3 (Kd.int .i64)) 29 w w0.heap.size ok (.slice (some ⟨g, 0, none⟩) n c) ys) (hy : ys[i]? = some x) (hn : i < n) :
  ∃ (A : Option Addr) (c' : Nat) (oki : Nat → Prop), w.cell? ⟨g, i, none⟩ = some (.slice A x.length c') ∧ Kd.R (Kd.int .i64) 3 w w0.heap.size oki (.slice A x.length c') x ∧ (∀ k, oki k → ok k) ∧
   ∀ (w' : World) (x' : List Int), Kd.R (Kd.int .i64) 3 w' w0.heap.size (fun k => some k = (Value.slice A x.length c').ownBlock) (.slice A x.length c') x' → Kept w w' oki → Kd.S (Kd.slice 3 (Kd.int .i64)) 29 w' w0.heap.size ok (.slice (some ⟨g, 0, none⟩) n c) (ys.set i x') := by
 obtain ⟨oki, cs, hcl, hM, hcc, hoki, hH⟩ := Kd.S_lend hS [] (i : Int) (by omega) (by omega)
 have e : ys.getD ((i : Int)).toNat [] = x := by rw [Int.toNat_natCast, List.getD_eq_getElem?_getD, hy]; rfl
 rw [e] at hM
 obtain ⟨v', rfl, hR⟩ := hM
 obtain ⟨A, c', rfl⟩ := Kd.R_slice hR
 refine ⟨A, c', oki, ?_, hR, fun k hk => (hoki k hk).1, fun w' x' hR' hk => ?_⟩
 ·have := hcc 0 _ rfl
  rw [Int.toNat_natCast] at this
  simpa [Kd.slice] using this
 ·have hb := Kd.H_back (Kd.H_kept hH hk (fun k _ hn hS => hn hS)) (Kd.M_row hR') (fun k hk => hR.1 k hk.symm)
  rw [Int.toNat_natCast] at hb
  exact hb
def laws_markIntSS.f (l0 : List (List Int)) (a1 : Int) : Option (Int × List (List Int)) := some (a1 + (totalL l0 : Nat), marksL a1 l0)
set_option maxHeartbeats 8000000 in
set_option maxRecDepth 100000 in
theorem laws_markIntSS.calls {w0 : World} {ok : Nat → Prop} {v : Value} {m : Int} {xs : List (List Int)} (hx : xs.length ≤ 1048576) (ht : totalL xs ≤ 1048576) (hm : 0 ≤ m) (hm2 : m ≤ 1048576) (w : World) (hB : Below w0.heap.size w0 w) (hS : Kd.S (Kd.slice 3 (Kd.int .i64)) 29 w w0.heap.size ok v xs) :
  Calls Try.prog 16 #[v, .int .i64 m] w (MarkPost w0 ok v m xs w) := by
 obtain ⟨A, c, rfl⟩ := Kd.R_slice (Kd.S_R hS)
 have HS := Aside0.mk hS
 have HB := Aside0.mk hB
 have HX := Aside0.mk (show xs.length ≤ 1048576 ∧ totalL xs ≤ 1048576 ∧ 0 ≤ m ∧ m ≤ 1048576 from ⟨hx, ht, hm, hm2⟩)
 clear hS hB hx ht hm hm2
 go_enter Try.func16, Try.ntmps16
 go_wp2
 go_loopg [1, 5] (xs.length + 1) (fun kq v1 v5 w' => ∃ (k i : Int) (ys : List (List Int)), v1 = .int .i64 k ∧ v5 = .int .i64 i ∧ Aside0 (0 ≤ i ∧ i ≤ (xs.length : Int) ∧ kq + i.toNat = xs.length + 1) ∧ Aside0 (ys.length = xs.length ∧ ys.drop i.toNat = xs.drop i.toNat ∧ ys.take i.toNat ++ marksL k (xs.drop i.toNat) = marksL m xs ∧ k + (totalL (xs.drop i.toNat) : Nat) = m + (totalL xs : Nat) ∧ 0 ≤ k) ∧ Aside0 (Kd.S (Kd.slice 3 (Kd.int .i64)) 29 w' w0.heap.size ok (.slice A xs.length c) ys) ∧ Aside0 (Below w0.heap.size w0 w') ∧ Aside0 (Kept w w' ok))
 case atStart => exact ⟨m, 0, xs, rfl, rfl, ⟨by omega⟩, ⟨rfl, rfl, rfl, rfl, HX.out.2.2.1⟩, HS, HB, ⟨Kept.refl _ _⟩⟩
 case round =>
  obtain ⟨k, i, ys, rfl, rfl, HI, HY, HS1, HB1, HK1⟩ := hrel
  cases gk with
  | zero => exact absurd HI.out (by omega)
  | succ k1 =>
   by_cases hi : i < (xs.length : Int)
   ·have ci : decide (i < (xs.length : Int)) = true := decide_eq_true hi
    have hit : i.toNat < xs.length := by have := HI.out; omega
    have hni : ((i.toNat : Nat) : Int) = i := Int.toNat_of_nonneg HI.out.1
    obtain ⟨x, hx⟩ : ∃ x, xs[i.toNat]? = some x := ⟨_, List.getElem?_eq_getElem hit⟩
    have hyx : ys[i.toNat]? = some x := by
     have h1 : (ys.drop i.toNat)[0]? = (xs.drop i.toNat)[0]? := by rw [HY.out.2.1]
     rw [List.getElem?_drop, List.getElem?_drop, Nat.add_zero] at h1
     rw [h1, hx]
    have hA : ∃ g, A = some ⟨g, 0, none⟩ := by
     obtain ⟨ad, _, e, _⟩ := Kd.C_get (Kd.R_reads' (Kd.S_R HS1.out)).2.2 [] i HI.out.1 (by have := HY.out.1; omega)
     subst e
     obtain ⟨g, rfl⟩ := Kd.R_head (Kd.S_R HS1.out)
     exact ⟨g, rfl⟩
    obtain ⟨g, rfl⟩ := hA
    obtain ⟨A', c', oki, hc, hR, hoki, hback⟩ := mark_row HS1.out hyx hit
    have hxm : x.length ≤ totalL (xs.drop i.toNat) := by rw [total_next hx]; omega
    have hxt := totalL_mem xs x (List.mem_of_getElem? hx)
    have hrun := laws_markIntS.run0 x k (by have := HY.out; have := HX.out; omega) HY.out.2.2.2.2 (by have := HY.out; have := HX.out; omega)
    have MC := Aside0.mk (laws_markIntS.calls (x.length + 1) oki (.slice A' x.length c') x k _ _ w0 _ HB1.out hR hrun)
    have HN := Aside0.mk (mark_next HY.out.2.1 HY.out.2.2.1 hx)
    have HT := Aside0.mk (total_next hx)
    have HBK := Aside0.mk hback
    have HR := Aside0.mk hR
    have HO := Aside0.mk hoki
    have HIT := Aside0.mk hit
    have p1 : (0 ≤ i) = True := eq_true HI.out.1
    have q1 : (i < (xs.length : Int)) = True := eq_true hi
    have HII := Aside0.mk hi
    clear hi hit hni hx hyx hxm hxt hrun hback hR hoki
    go_wp2_with (first | ((with_reducible refine gate_callee (f := 17) rfl ?_); refine goesL_ (some 17) rfl rfl Try.func17 (by kernel_rfl) rfl #[.slice A' x.length c', .int .i64 k] rfl (by (try simp only [List.map_toArray, List.map_cons, List.map_nil]); first | done | rfl) ?_; refine (MC.out).mono ?_; rintro e w5 ⟨rfl, hr5, hb5, hk5⟩; refine ⟨_, rfl, ?_⟩; have HS5 := Aside0.mk (HBK.out w5 _ (Kd.R_tight rfl hr5) hk5); have HB5 := Aside0.mk hb5; have HK5 := Aside0.mk (HK1.out.then_ hk5 (fun q hq => .inl (HO.out q hq))); clear hr5 hb5 hk5))
    go_roundg k1
    case measure => have := HI.out; omega
    case rel =>
     refine ⟨k + (x.length : Int), i + 1, _, rfl, ?_, ⟨by have := HI.out; have := HII.out; omega⟩, ⟨?_⟩, HS5, HB5, HK5⟩
     ·rw [show wrap64 (i + 1) = i + 1 by have := HI.out; have := HII.out; have := HX.out; unfold wrap64; omega]
     ·rw [show (i + 1).toNat = i.toNat + 1 by have := HI.out; omega]
      exact ⟨by rw [List.length_set]; exact HY.out.1, HN.out.1, HN.out.2, by have := HY.out; have := HT.out; omega, by have := HY.out; omega⟩
   ·have ci : decide (i < (xs.length : Int)) = false := decide_eq_false hi
    have hy := HY.out
    have hxd : xs.drop i.toNat = [] := List.drop_eq_nil_of_le (by have := HI.out; omega)
    have hyt : ys.take i.toNat = ys := List.take_of_length_le (by have := HI.out; have := HY.out.1; omega)
    rw [hxd, hyt, marksL, List.append_nil, totalL] at hy
    obtain ⟨_, _, rfl, hk, _⟩ := hy
    obtain rfl : k = m + (totalL xs : Nat) := by omega
    clear hi hk hxd hyt
    go_wp2
    go_ret
    exact ⟨rfl, HS1.out, HB1.out, HK1.out⟩

/-! ### laws_heldIntS: function 18 -/
def laws_heldIntS.l0 : Nat → List Int → Int → Int → Option (Int)
 | 0, _, _, _ => none
 | k + 1, x0, x1, x5 => if x5 < (x0.length : Int) then (if 0 ≤ x5 then (if (rd x0 x5) = x1 then (laws_heldIntS.l0 k x0 (wrap64 (x1 + 1)) (wrap64 (x5 + 1))) else (some (-1))) else (none)) else (some x1)
def laws_heldIntS.f (k : Nat) (l0 : List Int) (a1 : Int) : Option (Int) := laws_heldIntS.l0 k l0 a1 0
theorem laws_heldIntS.mono_l : ∀ k, (∀ y0 y1 y2, LeO (laws_heldIntS.l0 k y0 y1 y2) (laws_heldIntS.l0 (k + 1) y0 y1 y2))
 | 0 => fun _ _ _ r h => by simp [laws_heldIntS.l0] at h
 | k + 1 => by
  have ih0 := laws_heldIntS.mono_l k
  ·intro y0 y1 y2
   unfold laws_heldIntS.l0
   repeat' first
   | (with_reducible exact ih0 _ _ _)
   | (with_reducible exact LeO.refl _)
   | (with_reducible exact LeO.none _)
   | (with_reducible refine LeO.ite ?_ ?_)
   | (with_reducible refine LeO.bind ?_ (fun _ => ?_))
   | exact ih0 _ _ _
   | exact LeO.none _
   | refine LeO.ite ?_ ?_
   | refine LeO.bind ?_ (fun _ => ?_)
theorem laws_heldIntS.mono : ∀ a0 a1 k, LeO (laws_heldIntS.f k a0 a1) (laws_heldIntS.f (k + 1) a0 a1) := by
 intro a0 a1 k
 have ih0 := laws_heldIntS.mono_l k
 unfold laws_heldIntS.f
 repeat' first
   | (with_reducible exact ih0 _ _ _)
   | (with_reducible exact LeO.refl _)
   | (with_reducible exact LeO.none _)
   | (with_reducible refine LeO.ite ?_ ?_)
   | (with_reducible refine LeO.bind ?_ (fun _ => ?_))
   | exact ih0 _ _ _
   | exact LeO.none _
   | refine LeO.ite ?_ ?_
   | refine LeO.bind ?_ (fun _ => ?_)
set_option maxHeartbeats 8000000 in
set_option maxRecDepth 100000 in
theorem laws_heldIntS.calls (k : Nat) (A0 : Option Addr) (c0 : Nat) (l0 : List Int) (a1 : Int) (r : Int) (w : World) (hr0 : Kd.C (Kd.int .i64) w A0 l0.length l0) (hc0 : l0.length ≤ c0) (h : laws_heldIntS.f k l0 a1 = some r) :
  Calls Try.prog 18 #[.slice A0 l0.length c0, .int .i64 a1] w fun e w' => e = .returned (.int .i64 r) ∧ Drawn0 w w' := by
 have HR0 := Aside0.mk hr0
 have HC0 := Aside0.mk hc0
 clear hr0 hc0
 have H : (laws_heldIntS.l0 k l0 a1 0) = some r := h
 clear h
 have H' := Aside0.mk H
 clear H
 go_enter Try.func18, Try.ntmps18
 go_wp2
 go_loopg [1, 5] k (fun kq v1 v5 w' => ∃ (x1_1 : Int) (x5_1 : Int), v1 = .int .i64 x1_1 ∧ v5 = .int .i64 x5_1 ∧ Aside0 (laws_heldIntS.l0 kq l0 x1_1 x5_1 = some r) ∧ Aside0 (kq ≤ k) ∧ Drawn0 w w')
 case atStart => exact ⟨(a1), (0), (by first | rfl | (simp; done) | (simp [*]; done)), (by first | rfl | (simp; done) | (simp [*]; done)), H', ⟨Nat.le_refl _⟩, by repeat (first | exact Drawn0.refl _ | apply Drawn0.step)⟩
 case round =>
  clear H'
  try clear c1
  try clear p2
  obtain ⟨x1_1, x5_1, rfl, rfl, HA, HK1, ⟨m1, rfl⟩⟩ := hrel
  cases gk with
  | zero => exact absurd HA.out (by simp [laws_heldIntS.l0])
  | succ k1 =>
   have H := HA.out
   clear HA
   simp only [laws_heldIntS.l0] at H
   by_cases c3 : x5_1 < (l0.length : Int)
   ·rw [if_pos c3] at H
    have c3b0 : decide (x5_1 < (l0.length : Int)) = true := decide_eq_true c3
    clear c3
    by_cases c4 : 0 ≤ x5_1
    ·rw [if_pos c4] at H
     have c4b0 : decide (0 ≤ x5_1) = true := decide_eq_true c4
     clear c4
     by_cases c5 : (rd l0 x5_1) = x1_1
     ·rw [if_pos c5] at H
      have c5b0 : ((rd l0 x5_1) == x1_1) = true := beq_iff_eq.mpr c5
      have c5b1 : ((rd l0 x5_1) != x1_1) = false := bne_eq_false_iff_eq.mpr c5
      clear c5
      have H' := Aside0.mk H
      clear H
      have p172 : 0 ≤ (x5_1 : Int) := of_decide_eq_true (by first | (with_reducible assumption) | assumption)
      have q172 : x5_1 < (l0.length : Int) := of_decide_eq_true (by first | (with_reducible assumption) | assumption)
      obtain ⟨ad172, e172, hx172_0⟩ := Kd.at_int HR0.out x5_1 p172 q172
      cases e172
      replace p172 := eq_true p172
      replace q172 := eq_true q172
      go_wp2
      go_roundg k1
      case measure => have := HK1.out; omega
      case rel => exact ⟨(wrap64 (x1_1 + 1)), (wrap64 (x5_1 + 1)), (by first | rfl | (simp; done) | (simp [*]; done)), (by first | rfl | (simp; done) | (simp [*]; done)), H', ⟨by have := HK1.out; omega⟩, by repeat (first | exact Drawn0.refl _ | apply Drawn0.step)⟩
     ·rw [if_neg c5] at H
      have c5b0 : ((rd l0 x5_1) == x1_1) = false := beq_eq_false_iff_ne.mpr c5
      have c5b1 : ((rd l0 x5_1) != x1_1) = true := bne_iff_ne.mpr c5
      obtain rfl := Option.some.inj H
      have p172 : 0 ≤ (x5_1 : Int) := of_decide_eq_true (by first | (with_reducible assumption) | assumption)
      have q172 : x5_1 < (l0.length : Int) := of_decide_eq_true (by first | (with_reducible assumption) | assumption)
      obtain ⟨ad172, e172, hx172_0⟩ := Kd.at_int HR0.out x5_1 p172 q172
      cases e172
      replace p172 := eq_true p172
      replace q172 := eq_true q172
      go_wp2
      go_ret
      exact ⟨by first | rfl | (simp; done) | (simp [*]; done), by repeat (first | exact Drawn0.refl _ | apply Drawn0.step)⟩
    ·rw [if_neg c4] at H
     exact absurd H (by simp)
   ·rw [if_neg c3] at H
    have c3b0 : decide (x5_1 < (l0.length : Int)) = false := decide_eq_false c3
    clear c3
    obtain rfl := Option.some.inj H
    go_wp2
    go_ret
    exact ⟨by first | rfl | (simp; done) | (simp [*]; done), by repeat (first | exact Drawn0.refl _ | apply Drawn0.step)⟩

/-! ### laws_FnExactRowOfPairs: function 4 -/
section
open Go.Proofs.Yteepinopcmcklaa.Aid
theorem dropConsL {xs : List (List Int)} {i : Nat} {x : List Int} {t : List (List Int)} (h : xs.drop i = x :: t) : i < xs.length ∧ rd_L1 xs (i : Int) = x ∧ xs.drop (i + 1) = t :=
 ⟨dropLt h, by simp [rd_L1, List.getD_eq_getElem?_getD, dropGet h], dropSucc h⟩
theorem memDrop {α : Type} {xs : List α} {i : Nat} {x : α} {t : List α} (h : xs.drop i = x :: t) : x ∈ xs := by
 rw [← List.take_append_drop i xs, h]
 simp
def szL (m : Int) : List (List Int) → Int
 | [] => m
 | x :: t => if m - (x.length : Int) < 0 then -1 else szL (m - (x.length : Int)) t
def totL : List (List Int) → Nat
 | [] => 0
 | x :: t => x.length + totL t
theorem szL_tot : ∀ (t : List (List Int)) (m : Int), 0 ≤ szL m t → (totL t : Int) ≤ m
 | [], m, h => by simpa [szL, totL] using h
 | x :: t, m, h => by
  unfold szL at h
  by_cases c : m - (x.length : Int) < 0
  ·rw [if_pos c] at h
   omega
  ·rw [if_neg c] at h
   have := szL_tot t _ h
   unfold totL
   omega
theorem totL_mem : ∀ (t : List (List Int)) (x : List Int), x ∈ t → x.length ≤ totL t
 | [], x, h => by simp at h
 | y :: t, x, h => by
  unfold totL
  rcases List.mem_cons.1 h with rfl | h
  ·omega
  ·have := totL_mem t x h
   omega
theorem szIntSS_l0 (xs : List (List Int)) (hx : xs.length ≤ 1048576) (hm : ∀ x ∈ xs, x.length ≤ maxLen) : ∀ (t : List (List Int)) (i : Nat) (m : Int), xs.drop i = t → 0 ≤ m → m ≤ 1048576 → Ev (fun k => laws_szIntSS.l0 k xs m (i : Int)) (szL m t)
 | [], i, m, h, h0, hb => by
  have h1 := dropNil h
  refine Ev.of1 (fun k => ?_)
  simp (disch := omega) only [if_true, if_false, Bool.false_eq_true, laws_szIntSS.l0, if_neg, szL]
 | x :: t, i, m, h, h0, hb => by
  obtain ⟨h1, h2, h3⟩ := dropConsL h
  have hl := hm x (memDrop h)
  unfold maxLen at hl
  have e1 : wrap64 (m - (x.length : Int)) = m - (x.length : Int) := w64 (by omega) (by omega)
  by_cases c : m - (x.length : Int) < 0
  ·refine Ev.of1 (fun k => ?_)
   simp (disch := omega) only [if_true, if_false, Bool.false_eq_true, laws_szIntSS.l0, laws_szIntS.f, if_pos, h2, e1, Option.bind_some, szL]
  ·refine Ev.step (f := fun k => laws_szIntSS.l0 k xs (m - (x.length : Int)) ((i + 1 : Nat) : Int)) (fun k => ?_) ((szIntSS_l0 xs hx hm t (i + 1) _ h3 (by omega) (by omega)).cast (by simp only [szL, c, if_false]))
   simp (disch := omega) only [if_true, if_false, Bool.false_eq_true, laws_szIntSS.l0, laws_szIntS.f, if_pos, if_neg, h2, e1, Option.bind_some, w64s]
theorem szIntSS_ev (xs : List (List Int)) (hb : xs.length * 24 ≤ 140737488351232) (hm : ∀ x ∈ xs, x.length ≤ maxLen) : ∃ r : Int, Ev (fun k => laws_szIntSS.f k xs 1048576) r ∧ (¬ r < 0 → xs.length ≤ 1048576 ∧ (totL xs : Int) + xs.length ≤ 1048576) := by
 have e1 : wrap64 (1048576 - (xs.length : Int)) = 1048576 - (xs.length : Int) := w64 (by omega) (by omega)
 by_cases c : 1048576 - (xs.length : Int) < 0
 ·refine ⟨-1, Ev.all (fun k => ?_), fun h => by omega⟩
  simp (disch := omega) only [if_true, if_false, Bool.false_eq_true, laws_szIntSS.f, e1, if_pos]
 ·refine ⟨szL (1048576 - (xs.length : Int)) xs, Ev.congr (fun k => ?_) (szIntSS_l0 xs (by omega) hm xs 0 _ rfl (by omega) (by omega)), fun h => ⟨by omega, ?_⟩⟩
  ·simp (disch := omega) only [if_true, if_false, Bool.false_eq_true, laws_szIntSS.f, e1, if_neg]
   rfl
  ·have := szL_tot xs (1048576 - (xs.length : Int)) (by omega)
   omega
theorem toIntS_l0 (xs : List Int) (hx : xs.length ≤ 1048576) : ∀ (t : List Int) (i : Nat) (ys : List Int), xs.drop i = t → i ≤ xs.length → ys.length = xs.length → ys.take i = xs.take i → Ev (fun k => laws_toIntS.l0 k xs ys (i : Int)) xs
 | [], i, ys, h, hi, hl, he => by
  have h1 := dropNil h
  obtain rfl : ys = xs := by
   have : i = xs.length := by omega
   subst this
   rw [List.take_of_length_le (by omega), List.take_of_length_le (by omega)] at he
   exact he
  refine Ev.of1 (fun k => ?_)
  simp (disch := omega) only [if_true, if_false, Bool.false_eq_true, laws_toIntS.l0, if_neg]
 | x :: t, i, ys, h, hi, hl, he => by
  obtain ⟨h1, h2, h3⟩ := dropCons h
  refine Ev.step (f := fun k => laws_toIntS.l0 k xs (ys.set i x) ((i + 1 : Nat) : Int)) (fun k => ?_) (toIntS_l0 xs hx t (i + 1) _ h3 (by omega) (by simpa using hl) ?_)
  ·simp (disch := omega) only [if_true, if_false, Bool.false_eq_true, laws_toIntS.l0, if_pos, w64s, h2, toNat_cast]
  ·rw [take_succ_at h, List.take_add_one, List.take_set_of_le (by omega), he]
   simp [hl, h1]
theorem toIntS_ev (xs : List Int) (hx : xs.length ≤ 1048576) : Ev (fun k => laws_toIntS.f k xs) xs := by
 refine Ev.congr (fun k => ?_) (toIntS_l0 xs hx xs 0 (List.replicate xs.length 0) rfl (by omega) (by simp) rfl)
 unfold laws_toIntS.f
 rw [if_pos (by omega), if_pos (by omega)]
 rfl
theorem toIntSS_l0 (xs : List (List Int)) (hx : xs.length ≤ 1048576) (hm : ∀ x ∈ xs, x.length ≤ 1048576) : ∀ (t : List (List Int)) (i : Nat) (ys : List (List Int)), xs.drop i = t → i ≤ xs.length → ys.length = xs.length → ys.take i = xs.take i → Ev (fun k => laws_toIntSS.l0 k xs ys (i : Int)) xs
 | [], i, ys, h, hi, hl, he => by
  have h1 := dropNil h
  obtain rfl : ys = xs := by
   have : i = xs.length := by omega
   subst this
   rw [List.take_of_length_le (by omega), List.take_of_length_le (by omega)] at he
   exact he
  refine Ev.of1 (fun k => ?_)
  simp (disch := omega) only [if_true, if_false, Bool.false_eq_true, laws_toIntSS.l0, if_neg]
 | x :: t, i, ys, h, hi, hl, he => by
  obtain ⟨h1, h2, h3⟩ := dropConsL h
  refine Ev.step (f := fun k => (laws_toIntS.f k x).bind fun t112 => laws_toIntSS.l0 k xs (ys.set i t112) ((i + 1 : Nat) : Int)) (fun k => ?_) (Ev.bind (toIntS_ev x (hm x (memDrop h))) (toIntSS_l0 xs hx hm t (i + 1) _ h3 (by omega) (by simpa using hl) ?_))
  ·simp (disch := omega) only [if_true, if_false, Bool.false_eq_true, laws_toIntSS.l0, if_pos, w64s, h2, toNat_cast]
  ·rw [take_succ_at h, List.take_add_one, List.take_set_of_le (by omega), he]
   simp [hl, h1]
theorem toIntSS_ev (xs : List (List Int)) (hx : xs.length ≤ 1048576) (hm : ∀ x ∈ xs, x.length ≤ 1048576) : Ev (fun k => laws_toIntSS.f k xs) xs := by
 refine Ev.congr (fun k => ?_) (toIntSS_l0 xs hx hm xs 0 (List.replicate xs.length []) rfl (by omega) (by simp) rfl)
 unfold laws_toIntSS.f
 rw [if_pos (by omega), if_pos (by omega)]
 rfl
theorem eqIntS_l0 (xs ys : List Int) (hx : xs.length ≤ 1048576) (hl : xs.length = ys.length) : ∀ (s t : List Int) (i : Nat), xs.drop i = s → ys.drop i = t → Ev (fun k => laws_eqIntS.l0 k xs ys (i : Int)) (decide (s = t))
 | [], t, i, h, h' => by
  have h1 := dropNil h
  have h2 : t = [] := by rw [← h']; simp; omega
  subst h2
  refine Ev.of1 (fun k => ?_)
  simp (disch := omega) only [if_true, if_false, Bool.false_eq_true, laws_eqIntS.l0, if_neg]
  simp
 | x :: s, [], i, h, h' => by
  have h1 := dropLt h
  have h2 := dropNil h'
  omega
 | x :: s, y :: t, i, h, h' => by
  obtain ⟨h1, h2, h3⟩ := dropCons h
  obtain ⟨h1', h2', h3'⟩ := dropCons h'
  by_cases c : x = y
  ·refine Ev.step (f := fun k => laws_eqIntS.l0 k xs ys ((i + 1 : Nat) : Int)) (fun k => ?_) ((eqIntS_l0 xs ys hx hl s t (i + 1) h3 h3').cast (by simp [c]))
   simp (disch := omega) only [if_true, if_false, Bool.false_eq_true, laws_eqIntS.l0, if_pos, w64s, h2, h2']
  ·refine Ev.of1 (fun k => ?_)
   simp (disch := omega) only [if_true, if_false, Bool.false_eq_true, laws_eqIntS.l0, if_pos, if_neg, h2, h2']
   simp [c]
theorem eqIntS_ev (xs ys : List Int) (hx : xs.length ≤ 1048576) : Ev (fun k => laws_eqIntS.f k xs ys) (decide (xs = ys)) := by
 by_cases c : xs.length = ys.length
 ·refine Ev.congr (fun k => ?_) (eqIntS_l0 xs ys hx c xs ys 0 rfl rfl)
  unfold laws_eqIntS.f
  rw [if_pos (by omega)]
  rfl
 ·refine Ev.all (fun k => ?_)
  unfold laws_eqIntS.f
  rw [if_neg (by omega)]
  have : xs ≠ ys := fun e => c (by rw [e])
  simp [this]
theorem eqIntS_same (xs : List Int) (hx : xs.length ≤ 1048576) : Ev (fun k => laws_eqIntS.f k xs xs) true := (eqIntS_ev xs xs hx).cast (by simp)
theorem eqIntSS_l0 (xs ys : List (List Int)) (hx : xs.length ≤ 1048576) (hm : ∀ x ∈ xs, x.length ≤ 1048576) (hl : xs.length = ys.length) : ∀ (s t : List (List Int)) (i : Nat), xs.drop i = s → ys.drop i = t → Ev (fun k => laws_eqIntSS.l0 k xs ys (i : Int)) (decide (s = t))
 | [], t, i, h, h' => by
  have h1 := dropNil h
  have h2 : t = [] := by rw [← h']; simp; omega
  subst h2
  refine Ev.of1 (fun k => ?_)
  simp (disch := omega) only [if_true, if_false, Bool.false_eq_true, laws_eqIntSS.l0, if_neg]
  simp
 | x :: s, [], i, h, h' => by
  have h1 := dropLt h
  have h2 := dropNil h'
  omega
 | x :: s, y :: t, i, h, h' => by
  obtain ⟨h1, h2, h3⟩ := dropConsL h
  obtain ⟨h1', h2', h3'⟩ := dropConsL h'
  refine Ev.step (f := fun k => (laws_eqIntS.f k x y).bind fun t120 => (if t120 = true then (laws_eqIntSS.l0 k xs ys ((i + 1 : Nat) : Int)) else (some false))) (fun k => ?_) (Ev.bind (eqIntS_ev x y (hm x (memDrop h))) ?_)
  ·simp (disch := omega) only [if_true, if_false, Bool.false_eq_true, laws_eqIntSS.l0, if_pos, w64s, h2, h2']
  ·by_cases c : x = y
   ·simp only [c, decide_true, if_true]
    exact (eqIntSS_l0 xs ys hx hm hl s t (i + 1) h3 h3').cast (by simp)
   ·simp only [c, decide_false, Bool.false_eq_true, if_false]
    exact (Ev.now _).cast (by simp [c])
theorem eqIntSS_ev (xs ys : List (List Int)) (hx : xs.length ≤ 1048576) (hm : ∀ x ∈ xs, x.length ≤ 1048576) : Ev (fun k => laws_eqIntSS.f k xs ys) (decide (xs = ys)) := by
 by_cases c : xs.length = ys.length
 ·refine Ev.congr (fun k => ?_) (eqIntSS_l0 xs ys hx hm c xs ys 0 rfl rfl)
  unfold laws_eqIntSS.f
  rw [if_pos (by omega)]
  rfl
 ·refine Ev.all (fun k => ?_)
  unfold laws_eqIntSS.f
  rw [if_neg (by omega)]
  have : xs ≠ ys := fun e => c (by rw [e])
  simp [this]
theorem eqIntSS_same (xs : List (List Int)) (hx : xs.length ≤ 1048576) (hm : ∀ x ∈ xs, x.length ≤ 1048576) : Ev (fun k => laws_eqIntSS.f k xs xs) true := (eqIntSS_ev xs xs hx hm).cast (by simp)
theorem heldIntS_l0 (xs : List Int) (hx : xs.length ≤ 1048576) : ∀ (n : Nat) (i : Nat) (m : Int), xs.drop i = upFrom n m → 0 ≤ m → m + n ≤ 9223372036854775807 → Ev (fun k => laws_heldIntS.l0 k xs m (i : Int)) (m + n)
 | 0, i, m, h, hm, hb => by
  have h1 := dropNil h
  refine Ev.of1 (fun k => ?_)
  simp (disch := omega) only [if_true, if_false, Bool.false_eq_true, laws_heldIntS.l0, if_neg]
  simp
 | n + 1, i, m, h, hm, hb => by
  obtain ⟨h1, h2, h3⟩ := dropCons (x := m) (t := upFrom n (m + 1)) h
  refine Ev.step (f := fun k => laws_heldIntS.l0 k xs (m + 1) ((i + 1 : Nat) : Int)) (fun k => ?_) ((heldIntS_l0 xs hx n (i + 1) (m + 1) h3 (by omega) (by omega)).cast (by omega))
  have e1 : wrap64 (m + 1) = m + 1 := w64 (by omega) (by omega)
  simp (disch := omega) only [if_true, if_false, Bool.false_eq_true, laws_heldIntS.l0, if_pos, w64s, e1, h2]
theorem heldIntS_ev (n : Nat) (hx : n ≤ 1048576) : Ev (fun k => laws_heldIntS.f k (upFrom n 1) 1) (1 + n) :=
 Ev.congr (fun k => rfl) (heldIntS_l0 (upFrom n 1) (by rw [upFrom_length]; exact hx) n 0 1 rfl (by omega) (by omega))
theorem totalL_tot : ∀ l : List (List Int), totalL l = totL l
 | [] => rfl
 | x :: t => by rw [totalL, totL, totalL_tot t]
theorem held_at (K : Nat) (A : Option Addr) (c : Nat) (r : List Int) (w : World) {b : Nat} {ok : Nat → Prop} (h : Kd.R (Kd.int .i64) 3 w b ok (.slice A r.length c) (Aid.upFrom r.length 1)) (hh : laws_heldIntS.f K (Aid.upFrom r.length 1) 1 = some (1 + (r.length : Int))) :
  Calls Try.prog 18 #[.slice A r.length c, .int .i64 1] w fun e w' => e = .returned (.int .i64 (1 + (r.length : Int))) ∧ Drawn0 w w' := by
 have hr := Kd.R_reads' h
 have hc := laws_heldIntS.calls K A c (Aid.upFrom r.length 1) 1 _ w hr.2.2 (by rw [Aid.upFrom_length]; exact hr.2.1) hh
 rw [Aid.upFrom_length] at hc
 exact hc
end
/-- THE ONE PURE STATEMENT that is left: both come to one answer. -/
def laws_FnExactRowOfPairs.Pure : Prop := ∀ (a0 : Int) (l1 : List (List Int)), (Lit.int .i64 a0).wf = true → l1.length ≤ 1048576 → totalL l1 ≤ 1048576 → (∀ x ∈ l1, ∀ y ∈ x, (Lit.int .i64 y).wf = true) → ∃ (k : Nat) (r : List Int) (rb : Bool), spec_RowOfPairs.f k a0 l1 = some (r, rb) ∧ impl_RowOfPairs.f k a0 l1 = some (r, rb) ∧ r.length ≤ 1048576
set_option maxHeartbeats 8000000 in
set_option maxRecDepth 100000 in
theorem laws_FnExactRowOfPairs.walk (P : laws_FnExactRowOfPairs.Pure) (a0 : Int) (a1 : Option Addr) (cap1 : Nat) (l1 : List (List Int)) (w : World) (w0 : (Lit.int .i64 a0).wf = true) (hr1 : Kd.C (Kd.slice 3 (Kd.int .i64)) w a1 l1.length l1) (hc1 : l1.length ≤ cap1) (hy1 : l1.length * 24 ≤ 140737488351232) (hm1 : ∀ x ∈ l1, x.length ≤ maxLen) (hw1 : ∀ x ∈ l1, ∀ y ∈ x, (Lit.int .i64 y).wf = true) :
  Calls Try.prog 4 #[.int .i64 a0, .slice a1 l1.length cap1] w fun e w' => e = .returned (.bool true) ∧ Below w.heap.size w w' := by
 obtain ⟨A1, hA1⟩ : ∃ A, A = a1 := ⟨_, rfl⟩
 subst hA1
 obtain ⟨c1, hcc1⟩ : ∃ c, c = cap1 := ⟨_, rfl⟩
 subst hcc1
 have HR1 := Aside0.mk hr1
 have HC1 := Aside0.mk hc1
 have HBw := Aside0.mk (Below.refl w.heap.size w)
 obtain ⟨rz, ⟨Kz, hz⟩, hzz⟩ := szIntSS_ev l1 hy1 hm1
 have HZ := Aside0.mk (hz Kz (Nat.le_refl _))
 by_cases cz : rz < 0
 ·have bz : decide (rz < 0) = true := decide_eq_true cz
  clear hz hzz cz hr1 hc1
  go_enter Try.func4, Try.ntmps4
  go_wp2_with (first | ((with_reducible refine gate_dst (N := 18) rfl ?_); refine goesL_ (some 18) rfl rfl Try.func8 (by kernel_rfl) rfl #[.slice A1 l1.length c1, .int .i64 1048576] rfl (by (try simp only [List.map_toArray, List.map_cons, List.map_nil]); first | done | rfl) ?_; refine (laws_szIntSS.calls Kz A1 c1 l1 1048576 rz _ (Kd.C_below HR1.out HBw.out) HC1.out HZ.out).mono ?_; rintro e_ w_ ⟨rfl, ⟨nd_, rfl⟩⟩; refine ⟨_, rfl, ?_⟩; have hb_ := pw_below_drewN (Below.refl w.heap.size w) nd_; generalize w.drewN nd_ = w1 at hb_ ⊢; have n_HBw := Aside0.mk (below_step HBw.out hb_); clear HBw; have HBw := n_HBw; clear n_HBw; clear hb_))
  go_ret
  exact ⟨rfl, HBw.out⟩
 have bz : decide (rz < 0) = false := decide_eq_false cz
 obtain ⟨hl1, ht1⟩ := hzz cz
 have htt1 : totalL l1 ≤ 1048576 := by rw [totalL_tot]; omega
 have HLL := Aside0.mk (show l1.length ≤ 1048576 ∧ totalL l1 ≤ 1048576 from ⟨hl1, htt1⟩)
 obtain ⟨K1, h1⟩ := toIntSS_ev l1 hl1 (fun x hx => Nat.le_trans (totalL_mem l1 x hx) htt1)
 obtain ⟨K3, h3⟩ := eqIntSS_same l1 hl1 (fun x hx => Nat.le_trans (totalL_mem l1 x hx) htt1)
 have H1 := Aside0.mk (h1 K1 (Nat.le_refl _))
 have H3 := Aside0.mk (h3 K3 (Nat.le_refl _))
 obtain ⟨K5, r, rb, hsp, him, hrl⟩ := P a0 l1 w0 hl1 htt1 hw1
 have HSP := Aside0.mk hsp
 have HIM := Aside0.mk him
 have HRL := Aside0.mk hrl
 obtain ⟨K2, h2⟩ := eqIntS_same r hrl
 obtain ⟨K4, h4⟩ := heldIntS_ev r.length hrl
 have bm : decide (1 + (r.length : Int) < 0) = false := decide_eq_false (by omega)
 have bx : decide (1 + (((totalL l1 : Nat) : Int) : Int) < 0) = false := decide_eq_false (by omega)
 have be : (rb != rb) = false := by cases rb <;> rfl
 have H2 := Aside0.mk (h2 K2 (Nat.le_refl _))
 have H4 := Aside0.mk (h4 K4 (Nat.le_refl _))
 clear hsp him hrl h2 h4 h1 h3 cz hr1 hc1 hz hzz hl1 ht1 htt1 hy1 hm1 hw1 w0
 go_enter Try.func4, Try.ntmps4
 go_wp2_with (first | ((with_reducible refine gate_dst (N := 18) rfl ?_); refine goesL_ (some 18) rfl rfl Try.func8 (by kernel_rfl) rfl #[.slice A1 l1.length c1, .int .i64 1048576] rfl (by (try simp only [List.map_toArray, List.map_cons, List.map_nil]); first | done | rfl) ?_; refine (laws_szIntSS.calls Kz A1 c1 l1 1048576 rz _ (Kd.C_below HR1.out HBw.out) HC1.out HZ.out).mono ?_; rintro e_ w_ ⟨rfl, ⟨nd_, rfl⟩⟩; refine ⟨_, rfl, ?_⟩; have hb_ := pw_below_drewN (Below.refl w.heap.size w) nd_; generalize w.drewN nd_ = w1 at hb_ ⊢; have n_HBw := Aside0.mk (below_step HBw.out hb_); clear HBw; have HBw := n_HBw; clear n_HBw; clear hb_) | ((with_reducible refine gate_dst (N := 24) rfl ?_); refine goesL_ (some 24) rfl rfl Try.func10 (by kernel_rfl) rfl #[.slice A1 l1.length c1] rfl (by (try simp only [List.map_toArray, List.map_cons, List.map_nil]); first | done | rfl) ?_; refine (laws_toIntSS.calls K1 A1 c1 l1 l1 _ (Kd.C_below HR1.out HBw.out) HC1.out H1.out).mono ?_; rintro e_ w2 ⟨v_, rfl, ho_, hb_⟩; refine ⟨_, rfl, ?_⟩; obtain ⟨As1, cs1, rfl⟩ := Kd.R_slice (Kd.S_R ho_); have n_HBw := Aside0.mk (below_step HBw.out hb_); clear HBw; have HBw := n_HBw; clear n_HBw; have Hs1 := Aside0.mk (ho_); have Hbs1 := Aside0.mk hb_; clear ho_ hb_) | ((with_reducible refine gate_dst (N := 25) rfl ?_); refine goesL_ (some 25) rfl rfl Try.func13 (by kernel_rfl) rfl #[.int .i64 a0, .slice As1 l1.length cs1] rfl (by (try simp only [List.map_toArray, List.map_cons, List.map_nil]); first | done | rfl) ?_; refine (spec_RowOfPairs.calls K5 a0 As1 cs1 l1 r rb _ (Kd.R_reads' (Kd.S_R Hs1.out)).2.2 (Kd.R_reads' (Kd.S_R Hs1.out)).2.1 HSP.out).mono ?_; rintro e_ w3 ⟨v_, rfl, ho_, hb_⟩; refine ⟨_, rfl, ?_⟩; obtain ⟨Aw, cw, rfl⟩ := Kd.R_slice ho_; have n_HBw := Aside0.mk (below_step HBw.out hb_); clear HBw; have HBw := n_HBw; clear n_HBw; have HW := Aside0.mk (ho_); have HBw3 := Aside0.mk HBw.out; have HB3 := Aside0.mk (Below.refl w3.heap.size w3); clear ho_ hb_; have HWC := Aside0.mk (Kd.R_reads' HW.out).2.2; have HWN := Aside0.mk (Kd.R_reads' HW.out).2.1; clear HW) | ((with_reducible refine gate_dst (N := 29) rfl ?_); refine goesL_ (some 29) rfl rfl Try.func10 (by kernel_rfl) rfl #[.slice A1 l1.length c1] rfl (by (try simp only [List.map_toArray, List.map_cons, List.map_nil]); first | done | rfl) ?_; refine (laws_toIntSS.calls K1 A1 c1 l1 l1 _ (Kd.C_below HR1.out HBw.out) HC1.out H1.out).mono ?_; rintro e_ w4 ⟨v_, rfl, ho_, hb_⟩; refine ⟨_, rfl, ?_⟩; obtain ⟨Ax, cx, rfl⟩ := Kd.R_slice (Kd.S_R ho_); have n_HBw := Aside0.mk (below_step HBw.out hb_); have n_HB3 := Aside0.mk (below_step HB3.out hb_); clear HBw; clear HB3; have HBw := n_HBw; have HB3 := n_HB3; clear n_HBw; clear n_HB3; have Hx := Aside0.mk (ho_); have Hbx := Aside0.mk hb_; clear ho_ hb_; have HX := Aside0.mk (show Kd.S (Kd.slice 3 (Kd.int .i64)) 29  w4 w3.heap.size (fun q_ => w3.heap.size ≤ q_ ∧ q_ < w4.heap.size) (.slice Ax l1.length cx) l1 from Kd.S_mono (Kd.S_bound Hx.out) (fun q_ hq_ => ⟨hq_.2.1, hq_.2.2.1⟩)); clear Hx; have HB4 := Aside0.mk HB3.out) | ((with_reducible refine gate_dst (N := 33) rfl ?_); refine goesL_ (some 33) rfl rfl Try.func14 (by kernel_rfl) rfl #[.int .i64 a0, .slice Ax l1.length cx] rfl (by (try simp only [List.map_toArray, List.map_cons, List.map_nil]); first | done | rfl) ?_; refine (impl_RowOfPairs.calls K5 a0 Ax cx l1 r rb _ (Kd.R_reads' (Kd.S_R HX.out)).2.2 (Kd.R_reads' (Kd.S_R HX.out)).2.1 HIM.out).mono ?_; rintro e_ w5 ⟨v_, rfl, ho_, hb_⟩; refine ⟨_, rfl, ?_⟩; obtain ⟨Ag, cg, rfl⟩ := Kd.R_slice ho_; have n_HBw := Aside0.mk (below_step HBw.out hb_); have n_HB3 := Aside0.mk (below_step HB3.out hb_); have n_HX := Aside0.mk (Kd.S_below HX.out hb_); clear HBw; clear HB3; clear HX; have HBw := n_HBw; have HB3 := n_HB3; have HX := n_HX; clear n_HBw; clear n_HB3; clear n_HX; have HG := Aside0.mk (show Kd.R (Kd.int .i64) 3 w5 w3.heap.size (fun q_ => w4.heap.size ≤ q_) (.slice Ag r.length cg) r from Kd.R_lower (Kd.R_mono (Kd.R_bound ho_) (fun q_ hq_ => hq_.2.1)) HB4.out.size); clear ho_ hb_) | ((with_reducible refine gate_dst (N := 38) rfl ?_); refine goesL_ (some 38) rfl rfl Try.func15 (by kernel_rfl) rfl #[.slice Ag r.length cg, .slice Aw r.length cw] rfl (by (try simp only [List.map_toArray, List.map_cons, List.map_nil]); first | done | rfl) ?_; refine (laws_eqIntS.calls K2 Ag cg r Aw cw r true _ (Kd.R_reads' HG.out).2.2 (Kd.R_reads' HG.out).2.1 (Kd.C_below HWC.out HB3.out) HWN.out H2.out).mono ?_; rintro e_ w_ ⟨rfl, ⟨nd_, rfl⟩⟩; refine ⟨_, rfl, ?_⟩; have hb_ := pw_below_drewN (Below.refl w5.heap.size w5) nd_; generalize w5.drewN nd_ = w6 at hb_ ⊢; have n_HBw := Aside0.mk (below_step HBw.out hb_); have n_HB3 := Aside0.mk (below_step HB3.out hb_); have n_HX := Aside0.mk (Kd.S_below HX.out hb_); have n_HG := Aside0.mk (Kd.R_below HG.out hb_); clear HBw; clear HB3; clear HX; clear HG; have HBw := n_HBw; have HB3 := n_HB3; have HX := n_HX; have HG := n_HG; clear n_HBw; clear n_HB3; clear n_HX; clear n_HG; clear hb_) | ((with_reducible refine gate_dst (N := 47) rfl ?_); refine goesL_ (some 47) rfl rfl Try.func10 (by kernel_rfl) rfl #[.slice A1 l1.length c1] rfl (by (try simp only [List.map_toArray, List.map_cons, List.map_nil]); first | done | rfl) ?_; refine (laws_toIntSS.calls K1 A1 c1 l1 l1 _ (Kd.C_below HR1.out HBw.out) HC1.out H1.out).mono ?_; rintro e_ w7 ⟨v_, rfl, ho_, hb_⟩; refine ⟨_, rfl, ?_⟩; obtain ⟨Ay, cy, rfl⟩ := Kd.R_slice (Kd.S_R ho_); have n_HBw := Aside0.mk (below_step HBw.out hb_); have n_HB3 := Aside0.mk (below_step HB3.out hb_); have n_HX := Aside0.mk (Kd.S_below HX.out hb_); have n_HG := Aside0.mk (Kd.R_below HG.out hb_); clear HBw; clear HB3; clear HX; clear HG; have HBw := n_HBw; have HB3 := n_HB3; have HX := n_HX; have HG := n_HG; clear n_HBw; clear n_HB3; clear n_HX; clear n_HG; have Hy := Aside0.mk (ho_); have Hby := Aside0.mk hb_; clear ho_ hb_) | ((with_reducible refine gate_dst (N := 48) rfl ?_); refine goesL_ (some 48) rfl rfl Try.func12 (by kernel_rfl) rfl #[.slice Ax l1.length cx, .slice Ay l1.length cy] rfl (by (try simp only [List.map_toArray, List.map_cons, List.map_nil]); first | done | rfl) ?_; refine (laws_eqIntSS.calls K3 Ax cx l1 Ay cy l1 true _ (Kd.R_reads' (Kd.S_R HX.out)).2.2 (Kd.R_reads' (Kd.S_R HX.out)).2.1 (Kd.R_reads' (Kd.S_R Hy.out)).2.2 (Kd.R_reads' (Kd.S_R Hy.out)).2.1 H3.out).mono ?_; rintro e_ w_ ⟨rfl, ⟨nd_, rfl⟩⟩; refine ⟨_, rfl, ?_⟩; have hb_ := pw_below_drewN (Below.refl w7.heap.size w7) nd_; generalize w7.drewN nd_ = w8 at hb_ ⊢; have n_HBw := Aside0.mk (below_step HBw.out hb_); have n_HB3 := Aside0.mk (below_step HB3.out hb_); have n_HX := Aside0.mk (Kd.S_below HX.out hb_); have n_HG := Aside0.mk (Kd.R_below HG.out hb_); clear HBw; clear HB3; clear HX; clear HG; have HBw := n_HBw; have HB3 := n_HB3; have HX := n_HX; have HG := n_HG; clear n_HBw; clear n_HB3; clear n_HX; clear n_HG; clear hb_) | ((with_reducible refine gate_dst (N := 52) rfl ?_); refine goesL_ (some 52) rfl rfl Try.func16 (by kernel_rfl) rfl #[.slice Ax l1.length cx, .int .i64 1] rfl (by (try simp only [List.map_toArray, List.map_cons, List.map_nil]); first | done | rfl) ?_; refine (laws_markIntSS.calls (w0 := w3) (m := 1) (xs := l1) HLL.out.1 HLL.out.2 (by omega) (by omega) _ HB3.out HX.out).mono ?_; rintro e_ w9 ⟨rfl, hs_, hb_, hk_⟩; refine ⟨_, rfl, ?_⟩; have n_HBw := Aside0.mk (below_step HBw3.out hb_); have n_HB3 := Aside0.mk (hb_); have n_HG := Aside0.mk (Kd.R_kept HG.out hk_ (fun q_ h1_ h2_ => by have h3_ := h2_.2; have h4_ := h1_; omega)); clear HBw; clear HB3; clear HX; clear HG; have HBw := n_HBw; have HB3 := n_HB3; have HG := n_HG; clear n_HBw; clear n_HB3; clear n_HG; clear hs_ hb_ hk_) | (go_at_call 15; refine (laws_eqIntS.calls K2 Ag cg r Aw cw r true _ (Kd.R_reads' HG.out).2.2 (Kd.R_reads' HG.out).2.1 (Kd.C_below HWC.out HB3.out) HWN.out H2.out).mono ?_; rintro e_ w_ ⟨rfl, ⟨nd_, rfl⟩⟩; have hb_ := pw_below_drewN (Below.refl w9.heap.size w9) nd_; generalize w9.drewN nd_ = w10 at hb_ ⊢; have n_HBw := Aside0.mk (below_step HBw.out hb_); have n_HB3 := Aside0.mk (below_step HB3.out hb_); have n_HG := Aside0.mk (Kd.R_below HG.out hb_); clear HBw; clear HB3; clear HG; have HBw := n_HBw; have HB3 := n_HB3; have HG := n_HG; clear n_HBw; clear n_HB3; clear n_HG; clear hb_) | ((with_reducible refine gate_dst (N := 68) rfl ?_); refine goesL_ (some 68) rfl rfl Try.func17 (by kernel_rfl) rfl #[.slice Ag r.length cg, .int .i64 1] rfl (by (try simp only [List.map_toArray, List.map_cons, List.map_nil]); first | done | rfl) ?_; refine (laws_markIntS.calls (r.length + 1) (fun q_ => w4.heap.size ≤ q_) (.slice Ag r.length cg) r 1 _ _ w3 _ HB3.out HG.out (laws_markIntS.run0 r 1 HRL.out (by omega) (by have := HRL.out; omega))).mono ?_; rintro e_ w11 ⟨rfl, hs_, hb_, hk_⟩; refine ⟨_, rfl, ?_⟩; have n_HBw := Aside0.mk (below_step HBw3.out hb_); have n_HB3 := Aside0.mk (hb_); clear HBw; clear HB3; clear HG; have HBw := n_HBw; have HB3 := n_HB3; clear n_HBw; clear n_HB3; have HG := Aside0.mk hs_; clear hs_ hb_ hk_) | ((with_reducible refine gate_dst (N := 71) rfl ?_); refine goesL_ (some 71) rfl rfl Try.func18 (by kernel_rfl) rfl #[.slice Ag r.length cg, .int .i64 1] rfl (by (try simp only [List.map_toArray, List.map_cons, List.map_nil]); first | done | rfl) ?_; refine (held_at K4 Ag cg r _ HG.out H4.out).mono ?_; rintro e_ w_ ⟨rfl, ⟨nd_, rfl⟩⟩; refine ⟨_, rfl, ?_⟩; have hb_ := pw_below_drewN (Below.refl w11.heap.size w11) nd_; generalize w11.drewN nd_ = w12 at hb_ ⊢; have n_HBw := Aside0.mk (below_step HBw.out hb_); have n_HB3 := Aside0.mk (below_step HB3.out hb_); have n_HG := Aside0.mk (Kd.R_below HG.out hb_); clear HBw; clear HB3; clear HG; have HBw := n_HBw; have HB3 := n_HB3; have HG := n_HG; clear n_HBw; clear n_HB3; clear n_HG; clear hb_) | ((with_reducible refine gate_dst (N := 80) rfl ?_); refine goesL_ (some 80) rfl rfl Try.func10 (by kernel_rfl) rfl #[.slice A1 l1.length c1] rfl (by (try simp only [List.map_toArray, List.map_cons, List.map_nil]); first | done | rfl) ?_; refine (laws_toIntSS.calls K1 A1 c1 l1 l1 _ (Kd.C_below HR1.out HBw.out) HC1.out H1.out).mono ?_; rintro e_ w13 ⟨v_, rfl, ho_, hb_⟩; refine ⟨_, rfl, ?_⟩; obtain ⟨Az, cz, rfl⟩ := Kd.R_slice (Kd.S_R ho_); have n_HBw := Aside0.mk (below_step HBw.out hb_); have n_HB3 := Aside0.mk (below_step HB3.out hb_); have n_HG := Aside0.mk (Kd.R_below HG.out hb_); clear HBw; clear HB3; clear HG; have HBw := n_HBw; have HB3 := n_HB3; have HG := n_HG; clear n_HBw; clear n_HB3; clear n_HG; have Hz := Aside0.mk (ho_); have Hbz := Aside0.mk hb_; clear ho_ hb_) | ((with_reducible refine gate_dst (N := 81) rfl ?_); refine goesL_ (some 81) rfl rfl Try.func14 (by kernel_rfl) rfl #[.int .i64 a0, .slice Az l1.length cz] rfl (by (try simp only [List.map_toArray, List.map_cons, List.map_nil]); first | done | rfl) ?_; refine (impl_RowOfPairs.calls K5 a0 Az cz l1 r rb _ (Kd.R_reads' (Kd.S_R Hz.out)).2.2 (Kd.R_reads' (Kd.S_R Hz.out)).2.1 HIM.out).mono ?_; rintro e_ w14 ⟨v_, rfl, ho_, hb_⟩; refine ⟨_, rfl, ?_⟩; obtain ⟨Ah, ch, rfl⟩ := Kd.R_slice ho_; have n_HBw := Aside0.mk (below_step HBw.out hb_); have n_HB3 := Aside0.mk (below_step HB3.out hb_); have n_HG := Aside0.mk (Kd.R_below HG.out hb_); clear HBw; clear HB3; clear HG; have HBw := n_HBw; have HB3 := n_HB3; have HG := n_HG; clear n_HBw; clear n_HB3; clear n_HG; have HH := Aside0.mk ho_; clear ho_ hb_) | ((with_reducible refine gate_dst (N := 86) rfl ?_); refine goesL_ (some 86) rfl rfl Try.func15 (by kernel_rfl) rfl #[.slice Ah r.length ch, .slice Aw r.length cw] rfl (by (try simp only [List.map_toArray, List.map_cons, List.map_nil]); first | done | rfl) ?_; refine (laws_eqIntS.calls K2 Ah ch r Aw cw r true _ (Kd.R_reads' HH.out).2.2 (Kd.R_reads' HH.out).2.1 (Kd.C_below HWC.out HB3.out) HWN.out H2.out).mono ?_; rintro e_ w_ ⟨rfl, ⟨nd_, rfl⟩⟩; refine ⟨_, rfl, ?_⟩; have hb_ := pw_below_drewN (Below.refl w14.heap.size w14) nd_; generalize w14.drewN nd_ = w15 at hb_ ⊢; have n_HBw := Aside0.mk (below_step HBw.out hb_); have n_HB3 := Aside0.mk (below_step HB3.out hb_); have n_HG := Aside0.mk (Kd.R_below HG.out hb_); clear HBw; clear HB3; clear HG; have HBw := n_HBw; have HB3 := n_HB3; have HG := n_HG; clear n_HBw; clear n_HB3; clear n_HG; clear hb_) | ((with_reducible refine gate_dst (N := 95) rfl ?_); refine goesL_ (some 95) rfl rfl Try.func18 (by kernel_rfl) rfl #[.slice Ag r.length cg, .int .i64 1] rfl (by (try simp only [List.map_toArray, List.map_cons, List.map_nil]); first | done | rfl) ?_; refine (held_at K4 Ag cg r _ HG.out H4.out).mono ?_; rintro e_ w_ ⟨rfl, ⟨nd_, rfl⟩⟩; refine ⟨_, rfl, ?_⟩; have hb_ := pw_below_drewN (Below.refl w15.heap.size w15) nd_; generalize w15.drewN nd_ = w16 at hb_ ⊢; have n_HBw := Aside0.mk (below_step HBw.out hb_); have n_HB3 := Aside0.mk (below_step HB3.out hb_); have n_HG := Aside0.mk (Kd.R_below HG.out hb_); clear HBw; clear HB3; clear HG; have HBw := n_HBw; have HB3 := n_HB3; have HG := n_HG; clear n_HBw; clear n_HB3; clear n_HG; clear hb_))
 go_ret
 exact ⟨rfl, HBw.out⟩

end Go.Proofs.Yteepinopcmcklaa.PFnExactRowOfPairs
