/- All rows that a search finds, up to so many. Conditions: none but those that each lemma states. -/
import Derived.Test.YtgpnhaaklhinlaaSVar
import Derived.Test.YtgpnhaaklhinlaaSClone
namespace Go.Proofs.Ytgpnhaaklhinlaa.Search
open Go.RowKit Go.Proofs.YtgpnhaaklhinlaaW.PrintWords Go.Proofs.YtgpnhaaklhinlaaW.PrintLast Go.Proofs.YtgpnhaaklhinlaaW.PrintMore
set_option linter.unusedVariables false
set_option linter.unusedSimpArgs false
theorem infoRow : (Try.prog.info? 22).map (fun i => (i.zero, i.size, i.bytes)) = some (some (.slice none 0 0), 1, 24) := by kernel_rfl
/-- A variable of a slice of slices that function values hold. -/
def VarL (w : World) (C : Nat) (v : Value) : Prop := w.heap[C]? = some (.cells #[v] 23 (0, 0))
theorem VarL.cell {w : World} {C : Nat} {v : Value} (h : VarL w C v) : w.cell? ⟨C, 0, none⟩ = some v := by
  rw [cell_of_row w C 0 _ 23 (0, 0) h]
  rfl
theorem VarL.free {w : World} {C : Nat} {v : Value} (h : VarL w C v) : w.frozen? ⟨C, 0, none⟩ = false := frozen_of_row w C 0 _ 23 h
theorem VarL.set {w : World} {C : Nat} {v : Value} (h : VarL w C v) (x : Value) : VarL (w.setCell ⟨C, 0, none⟩ x) C x := by
  unfold VarL
  rw [heap_setCell_same w C 0 _ 23 _ h]
  rfl
theorem VarL.lt {w : World} {C : Nat} {v : Value} (h : VarL w C v) : C < w.heap.size := lt_of_block h
theorem VarL.below {w w1 : World} {C : Nat} {v : Value} (h : VarL w C v) (hb : Below w.heap.size w w1) : VarL w1 C v := (hb.block C h.lt).trans h
/-- What is collected: its rows lie apart, and apart from the search's own. -/
def Coll (w : World) (B C M R T L : Nat) (v : Value) (ls : List (List Int)) : Prop := Kd.S (Kd.slice 3 (Kd.int .i64)) 22 w B (fun k => k ≠ C ∧ k ≠ M ∧ k ≠ R ∧ k ≠ T ∧ k ≠ L) v ls
def InvA (B C M R T L : Nat) (most : Int) (ls : List (List Int)) (w : World) : Prop :=
  (C ≠ R ∧ C ≠ T ∧ C ≠ L ∧ M ≠ R ∧ M ≠ T ∧ M ≠ L ∧ C ≠ M ∧ R < w.heap.size ∧ T < w.heap.size ∧ L < w.heap.size) ∧ w.heap[M]? = some (.cells #[.int .i64 most] 3 (0, 0)) ∧ ∃ v, VarL w C v ∧ Coll w B C M R T L v ls
def astep (most : Int) (ls : List (List Int)) (xs : List Int) : List (List Int) × Bool := (ls ++ [xs], decide (((ls.length + 1 : Nat) : Int) > most))
theorem Coll.below {w w1 : World} {B C M R T L : Nat} {v : Value} {ls : List (List Int)} (h : Coll w B C M R T L v ls) (hb : Below w.heap.size w w1) : Coll w1 B C M R T L v ls := Kd.S_below h hb
set_option maxHeartbeats 4000000 in
set_option maxRecDepth 100000 in
theorem all_clos {B C M R T L len : Nat} {most : Int} (hB : B ≤ C) (hlen : len ≤ 100) (hm : most ≤ 5000) : Clos Try.prog B R T L 96 #[.pointer (some ⟨C, 0, none⟩), .pointer (some ⟨M, 0, none⟩)] (InvA B C M R T L most) (astep most) len (fun ls => (ls.length : Int) ≤ 5000) where
  lives := fun s xs hs hf => by
    have h1 : ¬ ((s.length + 1 : Nat) : Int) > most := of_decide_eq_false hf
    show (((s ++ [xs]).length : Nat) : Int) ≤ 5000
    rw [List.length_append, List.length_singleton]
    omega
  enters := ⟨_, Try.func96, by kernel_rfl, by kernel_rfl⟩
  keeps := fun s w w' h hs hk => by
    obtain ⟨⟨h1, h2, h3, h4, h5, h6, h7, h8, h9, h10⟩, hM, v, hv, hr⟩ := h
    exact ⟨⟨h1, h2, h3, h4, h5, h6, h7, by omega, by omega, by omega⟩, (hk M h4 h6 (lt_of_block hM)).trans hM, v, (hk C h1 h3 hv.lt).trans hv, Kd.S_step hr (fun k hk1 hlt => hk k hk1.2.2.1 hk1.2.2.2.2 hlt)⟩
  call := fun s xs w hlv h hR hl hw => by
    subst hl
    obtain ⟨hn, hM, v, hv, hr⟩ := h
    obtain ⟨A8, n8, rfl⟩ := Kd.R_slice (Kd.S_R hr)
    have HN := Aside0.mk hn
    have HW := Aside0.mk hw
    have HB := Aside0.mk hB
    have HLV := Aside0.mk hlv
    have HL := Aside0.mk (clone_small hlen)
    have HLEN := Aside0.mk hlen
    have HV6 := Aside0.mk (hv.below (below_drew (Below.refl _ _)))
    have HR6 := Aside0.mk (show Blk w.drew R xs from ((below_drew (Below.refl w.heap.size w)).block R hR.lt).trans hR)
    have HS6 := Aside0.mk (hr.below (below_drew (Below.refl _ _)))
    have HM6 := Aside0.mk (show w.drew.heap[M]? = some (.cells #[.int .i64 most] 3 (0, 0)) from hM)
    have HB6 := Aside0.mk (below_drew (Below.refl w.heap.size w))
    have HZ6 := Aside0.mk (show w.drew.heap.size = w.heap.size from rfl)
    clear hn hv hr hB hR hlen hw hM hlv
    go_enter Try.func96, Try.ntmps96
    go_wp2
    refine start_ (n := 6) (S := fun w' => w'.cell? ⟨C, 0, none⟩ = some (.slice A8 s.length n8)) (ds := [5]) #[false, false, false, false, false, false] (by kernel_rfl) rfl rfl HV6.out.cell (fun hHeld => ?_)
    generalize w.drew = w6 at HV6 HR6 HS6 HM6 HB6 HZ6 hHeld ⊢
    refine pure_ (i := 1) (N := some 6) (v := ?_) (a' := ?_) #[false, true, false, false, false, false] rfl rfl (by kernel_rfl) (fun _ _ _ h => h) (Or.inl ⟨by rfl, ?_⟩) ?_ ?_
    rotate_left
    · intro w'
      go_simp
      with_reducible rfl
    rotate_left
    · simp only [Act.put, List.setIfInBounds_toArray, List.set_cons_zero, List.set_cons_succ, i64_w, i32_w]
      rfl
    refine take_ (i := 0) (N := some 5) (v := ?_) (a' := ?_) #[true, true, false, false, false, false] rfl rfl (by kernel_rfl) (fun _ _ _ h => h) (Or.inl ⟨by rfl, ?_⟩) hHeld ?_ ?_
    rotate_left
    · intro w' s0
      go_simp
      with_reducible rfl
    rotate_left
    · simp only [Act.put, List.setIfInBounds_toArray, List.set_cons_zero, List.set_cons_succ, i64_w, i32_w]
      rfl
    refine one_ (i := 2) (N := some 7) #[true, true, true, false, false, false] rfl rfl (by kernel_rfl) (by decide) (fun K hK => ?_)
    refine goes_ (f := 97) Try.func97 (by kernel_rfl) rfl #[.slice (some ⟨R, 0, none⟩) xs.length xs.length] (by rfl) rfl rfl (by first | rfl | (simp only [List.map_toArray, List.map_cons, List.map_nil]; rfl)) ?_
    refine (slices_Clone_int_int.calls (some ⟨R, 0, none⟩) xs.length xs xs _ (HR6.out.C (by have := HLEN.out; omega)) (Nat.le_refl _) HL.out).mono ?_
    rintro e w7 ⟨v7, rfl, ho7, hb7⟩
    refine ⟨_, rfl, ?_⟩
    obtain ⟨A7, n7, rfl⟩ := Kd.R_slice ho7
    have HV7 := Aside0.mk (HV6.out.below hb7)
    have HM7 := Aside0.mk ((hb7.block M (lt_of_block HM6.out)).trans HM6.out)
    have HS7 := Aside0.mk (Kd.S_mono (ok' := fun k => (k ≠ C ∧ k ≠ M ∧ k ≠ R ∧ k ≠ T ∧ k ≠ L) ∧ ¬ w6.heap.size ≤ k) (Kd.S_below (Kd.S_bound HS6.out) hb7) (fun k hk => ⟨hk.1, by have := hk.2.2.1; omega⟩))
    have HB7 := Aside0.mk (below_step HB6.out hb7)
    have HO7 := Aside0.mk ho7
    have HZ7 := Aside0.mk hb7.size
    clear ho7 hb7
    refine hK.out _ _ HV7.out.cell (fun hHeld => ?_)
    clear hK K
    refine norm_ (a' := ?_) ?_ ?_
    rotate_left
    · show Act.put _ (some 7) _ = _
      simp only [Act.put, List.setIfInBounds_toArray, List.set_cons_zero, List.set_cons_succ, i64_w, i32_w]
      rfl
    refine one_ (i := 3) (N := some 8) #[true, true, true, true, false, false] rfl rfl (by kernel_rfl) (by decide) (fun K hK => ?_)
    refine value_ (w1 := ?_) (v := ?_) (by rfl) rfl ?_ ?_
    rotate_left 2
    · go_simp
      constructor
      · rfl
      · rfl
    refine hK.out _ _ ((World.cell?_alloc_lt _ _ _ (World.block_lt_of_cell? _ _ HV7.out.cell)).trans HV7.out.cell) (fun hHeld => ?_)
    clear hK K
    refine norm_ (a' := ?_) ?_ ?_
    rotate_left
    · show Act.put _ (some 8) _ = _
      simp only [Act.put, List.setIfInBounds_toArray, List.set_cons_zero, List.set_cons_succ, i64_w, i32_w]
      rfl
    refine one_ (i := 4) (N := some 9) #[true, true, true, true, true, false] rfl rfl (by kernel_rfl) (by decide) (fun K hK => ?_)
    refine Kd.S_append_step (Kd.slice 3 (Kd.int .i64)) (w0 := w) (W := w7) B (by rfl) (.tmp 5) (.tmp 8) 23 22 (.slice none 0 0) 24 rfl Try.underlying23 infoRow rfl (by decide) (by omega) (.slice A8 s.length n8) s xs [.slice A7 xs.length n7] (fun k => k ≠ C ∧ k ≠ M ∧ k ≠ R ∧ k ≠ T ∧ k ≠ L) (fun k => w6.heap.size ≤ k) rfl rfl ?aP ?aK ?aF ?aO ?aB ?aS ?aL ?_
    (case aP => exact Kd.M_row (Kd.R_lower (Kd.R_mono (Kd.R_bound HO7.out) (fun _ hk => hk.2.1)) (by have := HW.out; have := HZ6.out; omega)))
    (case aK => exact fun k hk => ⟨⟨by have := HV6.out.lt; omega, by have := lt_of_block HM6.out; omega, by have := HN.out; have := HZ6.out; omega, by have := HN.out; have := HZ6.out; omega, by have := HN.out; have := HZ6.out; omega⟩, fun e => by have := Kd.S_lt HS6.out k e.symm; omega⟩)
    (case aF => exact fun k hk => ⟨by have := HV7.out.lt; omega, by have := lt_of_block HM7.out; omega, by have := HN.out; have := HZ6.out; have := HZ7.out; omega, by have := HN.out; have := HZ6.out; have := HZ7.out; omega, by have := HN.out; have := HZ6.out; have := HZ7.out; omega⟩)
    (case aO => exact HS7.out)
    (case aB => exact ⟨HB7.out.os, HB7.out.tape, HB7.out.output, HB7.out.size, fun k hk => HB7.out.block k (by have := HW.out; omega)⟩)
    (case aS => have := HW.out; have := HZ6.out; have := HZ7.out; omega)
    (case aL => have := HLV.out; omega)
    intro v9 w9 ho9 hb9 hg9 hat9
    have HV9 := Aside0.mk (show VarL w9 C _ from (hg9.block C HV7.out.lt (fun e => (Kd.S_R HS7.out).1 C e.symm |>.1.1 rfl)).trans HV7.out)
    have HM9 := Aside0.mk (show w9.heap[M]? = some (.cells #[.int .i64 most] 3 (0, 0)) from (hg9.block M (lt_of_block HM7.out) (fun e => (Kd.S_R HS7.out).1 M e.symm |>.1.2.1 rfl)).trans HM7.out)
    have HK9 := Aside0.mk (show ∀ q, (q = R ∨ q = T ∨ q = L) → q < w.heap.size → w9.heap[q]? = w.heap[q]? from fun q hq hlt => (hg9.block q (by have := HZ6.out; have := HZ7.out; omega) (fun e => by have h1 := (Kd.S_R HS7.out).1 q e.symm; rcases hq with rfl | rfl | rfl; exact h1.1.2.2.1 rfl; exact h1.1.2.2.2.1 rfl; exact h1.1.2.2.2.2 rfl)).trans (HB7.out.block q hlt))
    have HS9 := Aside0.mk ho9
    have HB9 := Aside0.mk hb9
    obtain ⟨A9, n9, rfl⟩ := Kd.R_slice (Kd.S_R ho9)
    have ln9 : (s ++ [xs]).length = s.length + 1 := by simp
    rw [ln9] at HS9
    clear ho9 hb9 hg9 hat9
    refine hK.out _ _ HV9.out.cell (fun hHeld => ?_)
    clear hK K
    refine norm_ (a' := ?_) ?_ ?_
    rotate_left
    · show Act.put _ (some 9) _ = _
      simp only [Act.put, List.setIfInBounds_toArray, List.set_cons_zero, List.set_cons_succ, i64_w, i32_w]
      rfl
    have f9_ := HV9.out.free
    refine last_ (i := 5) (N := none) #[true, true, true, true, true, true] rfl rfl (by kernel_rfl) (by decide) (fun K hK => ?_)
    refine skip_ (w1 := ?_) (by rfl) rfl ?_ ?_
    rotate_left
    · have c9_ := HV9.out.cell
      go_simp
      rfl
    refine hK.out _ _ ?_
    clear hK K f9_
    refine done_ (by kernel_rfl) ?_
    have hm9 : w9.cell? ⟨M, 0, none⟩ = some (.int .i64 most) := by rw [cell_of_row w9 M 0 _ 3 (0, 0) HM9.out]; rfl
    have f9 := HV9.out.free
    have V10 := HV9.out.set (.slice A9 (s.length + 1) n9)
    have c10 := V10.cell
    have m10 : (w9.setCell ⟨C, 0, none⟩ (.slice A9 (s.length + 1) n9)).cell? ⟨M, 0, none⟩ = some (.int .i64 most) := by
      have h1 : (w9.setCell ⟨C, 0, none⟩ (.slice A9 (s.length + 1) n9)).heap[M]? = some (.cells #[.int .i64 most] 3 (0, 0)) := (heap_setCell_other w9 ⟨C, 0, none⟩ M _ (fun e => HN.out.2.2.2.2.2.2.1 e.symm)).trans HM9.out
      rw [cell_of_row _ M 0 _ 3 (0, 0) h1]; rfl
    have HV10 := Aside0.mk V10
    have ES := Aside0.mk (show astep most s xs = (s ++ [xs], decide (most < ((s.length + 1 : Nat) : Int))) from rfl)
    clear V10
    (try simp only [Exit.inBlock, Exit.then])
    go_wp2
    go_ret
    rw [ES.out]
    have hlow : Below B w w9 := ⟨HB9.out.os, HB9.out.tape, HB9.out.output, HB9.out.size, fun k hk => HB9.out.block k (by have := HW.out; omega)⟩
    have hs9 := HB9.out.size
    refine ⟨by first | rfl | simp, ⟨⟨HN.out.1, HN.out.2.1, HN.out.2.2.1, HN.out.2.2.2.1, HN.out.2.2.2.2.1, HN.out.2.2.2.2.2.1, HN.out.2.2.2.2.2.2.1, ?_, ?_, ?_⟩, (heap_setCell_other w9 ⟨C, 0, none⟩ M _ (fun e => HN.out.2.2.2.2.2.2.1 e.symm)).trans HM9.out, _, HV10.out, ?_⟩, ⟨hlow.setCell (p := ⟨C, 0, none⟩) HB.out _, ?_, ?_, ?_⟩⟩
    · have := HN.out; simp [World.setCell]; omega
    · have := HN.out; simp [World.setCell]; omega
    · have := HN.out; simp [World.setCell]; omega
    · have h := HS9.out
      exact Kd.S_far (p := ⟨C, 0, none⟩) h (fun k hk => hk.1) _
    · rw [heap_setCell_other _ _ _ _ (fun e => HN.out.1 e.symm)]; exact HK9.out R (Or.inl rfl) HN.out.2.2.2.2.2.2.2.1
    · rw [heap_setCell_other _ _ _ _ (fun e => HN.out.2.1 e.symm)]; exact HK9.out T (Or.inr (Or.inl rfl)) HN.out.2.2.2.2.2.2.2.2.1
    · rw [heap_setCell_other _ _ _ _ (fun e => HN.out.2.2.1 e.symm)]; exact HK9.out L (Or.inr (Or.inr rfl)) HN.out.2.2.2.2.2.2.2.2.2
/-- What is collected behind a search. -/
def EachPost (C M : Nat) (most : Int) (ls : List (List Int)) (w w' : World) : Prop := ∃ A c, VarL w' C (.slice A ls.length c) ∧ w'.cell? ⟨M, 0, none⟩ = some (.int .i64 most) ∧ Kd.S (Kd.slice 3 (Kd.int .i64)) 22 w' w.heap.size (fun _ => True) (.slice A ls.length c) ls
theorem allRows {p n d sh : Nat} {hole most : Int} {r : List (List Int) × Bool} {w : World} {C M : Nat} (hp : p ≤ 100) (hn : n ≤ 100) (hd : d + n ≤ 100) (hsh : sh ≤ 1) (hh : hole < (p : Int)) (hm : most ≤ 5000) (hC : w.heap.size ≤ C) (hCM : C ≠ M) (hc : fillF sh (astep most) 40 (row0 p hole) (left0 n d) [] = some r) (W : World) (hv : VarL W C (.slice none 0 0)) (hM : W.heap[M]? = some (.cells #[.int .i64 most] 3 (0, 0))) (hb : Below w.heap.size w W) :
    Calls Try.prog 102 #[.int .i64 (p : Int), .int .i64 (n : Int), .int .i64 (d : Int), .int .i64 (sh : Int), .int .i64 hole, .func (.func 96) #[] #[.pointer (some ⟨C, 0, none⟩), .pointer (some ⟨M, 0, none⟩)]] W fun e w' => e = .returned (.tuple #[]) ∧ EachPost C M most r.1 w w' ∧ Below w.heap.size w w' := by
  have hlt := hv.lt
  have hlm := lt_of_block hM
  refine (rows_calls (InvF := fun R T L => InvA w.heap.size C M R T L most) (B := w.heap.size) 40 W hp hn hd hsh hh hb.size (fun R T L hR hT hL _ _ _ => all_clos hC hp hm) (fun R T L w' hR hT hL _ _ _ hr ht hl hbb => ⟨⟨by omega, by omega, by omega, by omega, by omega, by omega, hCM, hr, ht, hl⟩, (hbb.block M hlm).trans hM, _, (hbb.block C hlt).trans hv, Kd.S_nil _ _ _ _ _⟩) (by simp) hc).mono ?_
  rintro e w' ⟨rfl, ⟨R, T, L, _, _, _, hn, hM', v, hv, hr⟩, hbb⟩
  obtain ⟨A, c, rfl⟩ := Kd.R_slice (Kd.S_R hr)
  exact ⟨rfl, ⟨A, c, hv, by rw [cell_of_row w' M 0 _ 3 (0, 0) hM']; rfl, Kd.S_mono hr (fun _ _ => trivial)⟩, hb.trans hbb⟩
end Go.Proofs.Ytgpnhaaklhinlaa.Search
