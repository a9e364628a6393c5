/- All splits, kept one behind the other. Conditions: none but those that each lemma states. -/
import Derived.Test.YtgpnhaaklhinlaaSSplitE
import Derived.Test.YtgpnhaaklhinlaaSClones
import Derived.Test.YtgpnhaaklhinlaaSSep
namespace Go.Proofs.Ytgpnhaaklhinlaa.Search
open Go.RowKit Go.Proofs.YtgpnhaaklhinlaaW.PrintWords Go.Proofs.YtgpnhaaklhinlaaW.PrintLast Go.Proofs.YtgpnhaaklhinlaaW.PrintMore
set_option linter.unusedVariables false
set_option linter.unusedSimpArgs false
theorem infoRow2 : (Try.prog.info? 23).map (fun i => (i.zero, i.size, i.bytes)) = some (some (.slice none 0 0), 1, 24) := by kernel_rfl
/-- A variable of a list of lists of rows that a function value holds. -/
def VarK (w : World) (C : Nat) (v : Value) : Prop := w.heap[C]? = some (.cells #[v] 40 (0, 0))
theorem VarK.cell {w : World} {C : Nat} {v : Value} (h : VarK w C v) : w.cell? ⟨C, 0, none⟩ = some v := by
  rw [cell_of_row w C 0 _ 40 (0, 0) h]
  rfl
theorem VarK.free {w : World} {C : Nat} {v : Value} (h : VarK w C v) : w.frozen? ⟨C, 0, none⟩ = false := frozen_of_row w C 0 _ 40 h
theorem VarK.set {w : World} {C : Nat} {v : Value} (h : VarK w C v) (x : Value) : VarK (w.setCell ⟨C, 0, none⟩ x) C x := by
  unfold VarK
  rw [heap_setCell_same w C 0 _ 40 _ h]
  rfl
theorem VarK.lt {w : World} {C : Nat} {v : Value} (h : VarK w C v) : C < w.heap.size := lt_of_block h
theorem VarK.below {w w1 : World} {C : Nat} {v : Value} (h : VarK w C v) (hb : Below w.heap.size w w1) : VarK w1 C v := (hb.block C h.lt).trans h
/-- Lists that are small enough to be copied. -/
def smallK (xs : List (List Int)) : Bool := decide (xs.length ≤ 1000) && xs.all fun x => decide (x.length ≤ 1000)
theorem smallK_iff {xs : List (List Int)} (h : smallK xs = true) : xs.length ≤ 1000 ∧ ∀ x ∈ xs, x.length ≤ 1000 := by
  unfold smallK at h
  rw [Bool.and_eq_true, decide_eq_true_eq, List.all_eq_true] at h
  exact ⟨h.1, fun x hx => of_decide_eq_true (h.2 x hx)⟩
/-- A list of lists of rows, the innermost apart. -/
abbrev kd3 : Kd (List (List Int)) := sep 22 (Kd.slice 3 (Kd.int .i64))
def kstep (s : List (List (List Int))) (xs : List (List Int)) : Option (List (List (List Int)) × Bool) := if smallK xs = true ∧ s.length ≤ 1000 then some (s ++ [xs], false) else none
def InvK (B C : Nat) (s : List (List (List Int))) (w : World) (F : Nat → Prop) : Prop := F C ∧ ∃ v, VarK w C v ∧ Kd.S kd3 23 w B (fun k => F k ∧ k ≠ C) v s
set_option maxHeartbeats 4000000 in
set_option maxRecDepth 100000 in
theorem allT_clos {B C : Nat} : ClosT Try.prog B 73 #[.pointer (some ⟨C, 0, none⟩)] (InvK B C) kstep where
  enters := ⟨_, Try.func73, by kernel_rfl, by kernel_rfl⟩
  keeps := fun s w w' F h hs hk => by
    obtain ⟨h1, v, hv, hr⟩ := h
    exact ⟨h1, v, (hk C h1 hv.lt).trans hv, Kd.S_step hr (fun k hk1 hlt => hk k hk1.1 hlt)⟩
  call := fun s xs r A c w F hst h hF hB hx hc hl => by
    unfold kstep at hst
    by_cases hsm : smallK xs = true ∧ s.length ≤ 1000
    · rw [if_pos hsm] at hst
      obtain rfl := Option.some.inj hst
      obtain ⟨h1, v, hv, hr⟩ := h
      obtain ⟨A8, n8, rfl⟩ := Kd.R_slice (Kd.S_R hr)
      have hs2 := smallK_iff hsm.1
      have HCL := Aside0.mk (clones_some xs hs2.1 hs2.2)
      have HLN := Aside0.mk hsm.2
      have H1 := Aside0.mk h1
      have HCW := Aside0.mk hv.lt
      have HF := Aside0.mk hF
      have HB := Aside0.mk hB
      have HO0 := Aside0.mk (fun k (e : (Value.slice A8 s.length n8).ownBlock = some k) => (Kd.S_R hr).1 k e)
      have HX6 := Aside0.mk (Kd.C_drew hx)
      have HC := Aside0.mk hc
      have HV6 := Aside0.mk (hv.below (below_drew (Below.refl _ _)))
      have HS6 := Aside0.mk (Kd.S_drew hr)
      have HB6 := Aside0.mk (below_drew (Below.refl w.heap.size w))
      have HZ6 := Aside0.mk (show w.drew.heap.size = w.heap.size from rfl)
      clear hst hsm hs2 hr hF hB hx hc hl hv h1
      go_enter Try.func73, Try.ntmps73
      go_wp2
      refine start_ (n := 6) (S := fun w' => w'.cell? ⟨C, 0, none⟩ = some (.slice A8 s.length n8)) (ds := [5]) #[false, false, false, false, false, false] (by kernel_rfl) rfl rfl HV6.out.cell (fun hHeld => ?_)
      generalize w.drew = w6 at HV6 HX6 HS6 HB6 HZ6 hHeld ⊢
      refine pure_ (i := 1) (N := some 5) (v := ?_) (a' := ?_) #[false, true, false, false, false, false] rfl rfl (by kernel_rfl) (fun _ _ _ h => h) (Or.inl ⟨by rfl, ?_⟩) ?_ ?_
      rotate_left
      · intro w'
        go_simp
        with_reducible rfl
      rotate_left
      · simp only [Act.put, List.setIfInBounds_toArray, List.set_cons_zero, List.set_cons_succ, i64_w, i32_w]
        rfl
      refine take_ (i := 0) (N := some 4) (v := ?_) (a' := ?_) #[true, true, false, false, false, false] rfl rfl (by kernel_rfl) (fun _ _ _ h => h) (Or.inl ⟨by rfl, ?_⟩) hHeld ?_ ?_
      rotate_left
      · intro w' s0
        go_simp
        with_reducible rfl
      rotate_left
      · simp only [Act.put, List.setIfInBounds_toArray, List.set_cons_zero, List.set_cons_succ, i64_w, i32_w]
        rfl
      refine one_ (i := 2) (N := some 6) #[true, true, true, false, false, false] rfl rfl (by kernel_rfl) (by decide) (fun K hK => ?_)
      refine goes_ (f := 74) Try.func74 (by kernel_rfl) rfl #[.slice A xs.length c] (by rfl) rfl rfl (by first | rfl | (simp only [List.map_toArray, List.map_cons, List.map_nil]; rfl)) ?_
      refine (impl_clones.calls (xs.length + 1) A c xs xs _ HX6.out HC.out HCL.out).mono ?_
      rintro e w7 ⟨v7, rfl, ho7, hb7⟩
      refine ⟨_, rfl, ?_⟩
      obtain ⟨A7, n7, rfl⟩ := Kd.S_slice ho7
      have HV7 := Aside0.mk (HV6.out.below hb7)
      have HS7 := Aside0.mk (Kd.S_mono (ok' := fun k => ((F k ∨ w6.heap.size ≤ k) ∧ k ≠ C) ∧ ¬ w6.heap.size ≤ k) (Kd.S_below (Kd.S_bound HS6.out) hb7) (fun k hk => ⟨⟨.inl hk.1.1, hk.1.2⟩, by have := hk.2.2.1; omega⟩))
      have HB7 := Aside0.mk (below_step HB6.out hb7)
      have HO7 := Aside0.mk ho7
      have HZ7 := Aside0.mk hb7.size
      clear ho7 hb7
      refine hK.out _ _ HV7.out.cell (fun hHeld => ?_)
      clear hK K
      refine norm_ (a' := ?_) ?_ ?_
      rotate_left
      · show Act.put _ (some 6) _ = _
        simp only [Act.put, List.setIfInBounds_toArray, List.set_cons_zero, List.set_cons_succ, i64_w, i32_w]
        rfl
      refine one_ (i := 3) (N := some 7) #[true, true, true, true, false, false] rfl rfl (by kernel_rfl) (by decide) (fun K hK => ?_)
      refine value_ (w1 := ?_) (v := ?_) (by rfl) rfl ?_ ?_
      rotate_left 2
      · go_simp
        constructor
        · rfl
        · rfl
      refine hK.out _ _ ((World.cell?_alloc_lt _ _ _ (World.block_lt_of_cell? _ _ HV7.out.cell)).trans HV7.out.cell) (fun hHeld => ?_)
      clear hK K
      refine norm_ (a' := ?_) ?_ ?_
      rotate_left
      · show Act.put _ (some 7) _ = _
        simp only [Act.put, List.setIfInBounds_toArray, List.set_cons_zero, List.set_cons_succ, i64_w, i32_w]
        rfl
      refine one_ (i := 4) (N := some 8) #[true, true, true, true, true, false] rfl rfl (by kernel_rfl) (by decide) (fun K hK => ?_)
      refine Kd.S_append_step kd3 (w0 := w) (W := w7) B (by rfl) (.tmp 4) (.tmp 7) 40 23 (.slice none 0 0) 24 rfl Try.underlying40 infoRow2 rfl (by decide) (by omega) (.slice A8 s.length n8) s xs [.slice A7 xs.length n7] (fun k => (F k ∨ w6.heap.size ≤ k) ∧ k ≠ C) (fun k => w6.heap.size ≤ k) rfl rfl ?aP ?aK ?aF ?aO ?aB ?aS ?aL ?_
      (case aP => exact sep_M (Kd.S_lower (Kd.S_mono (Kd.S_bound HO7.out) (fun _ hk => hk.2.1)) (by have := HB.out; have := HZ6.out; omega)))
      (case aK => exact fun k hk => ⟨⟨.inr hk, by have := HV6.out.lt; omega⟩, fun e => by have := Kd.S_lt HS6.out k e.symm; omega⟩)
      (case aF => exact fun k hk => ⟨.inr (by have := HZ7.out; omega), by have := HV7.out.lt; omega⟩)
      (case aO => exact HS7.out)
      (case aB => exact below_wk HB7.out HB.out)
      (case aS => have := HB.out; have := HZ6.out; have := HZ7.out; omega)
      (case aL => have := HLN.out; omega)
      intro v9 w9 ho9 hb9 hg9 hat9
      have HV9 := Aside0.mk (show VarK w9 C _ from (hg9.block C HV7.out.lt (fun e => (Kd.S_R HS7.out).1 C e.symm |>.1.2 rfl)).trans HV7.out)
      have HK9 := Aside0.mk (show ∀ q, ¬ F q → q < w.heap.size → w9.heap[q]? = w.heap[q]? from fun q hq hlt => (hg9.block q (by have := HZ6.out; have := HZ7.out; omega) (fun e => hq (HO0.out q e.symm).1)).trans (HB7.out.block q hlt))
      have HS9 := Aside0.mk ho9
      have HB9 := Aside0.mk hb9
      have HG9 := Aside0.mk hg9.size
      obtain ⟨A9, n9, rfl⟩ := Kd.R_slice (Kd.S_R ho9)
      have ln9 : (s ++ [xs]).length = s.length + 1 := by simp
      rw [ln9] at HS9
      clear ho9 hb9 hg9 hat9
      refine hK.out _ _ HV9.out.cell (fun hHeld => ?_)
      clear hK K
      refine norm_ (a' := ?_) ?_ ?_
      rotate_left
      · show Act.put _ (some 8) _ = _
        simp only [Act.put, List.setIfInBounds_toArray, List.set_cons_zero, List.set_cons_succ, i64_w, i32_w]
        rfl
      have f9_ := HV9.out.free
      refine last_ (i := 5) (N := none) #[true, true, true, true, true, true] rfl rfl (by kernel_rfl) (by decide) (fun K hK => ?_)
      refine skip_ (w1 := ?_) (by rfl) rfl ?_ ?_
      rotate_left
      · have c9_ := HV9.out.cell
        go_simp
        rfl
      refine hK.out _ _ ?_
      clear hK K f9_
      refine done_ (by kernel_rfl) ?_
      have HV10 := Aside0.mk (HV9.out.set (.slice A9 (s.length + 1) n9))
      (try simp only [Exit.inBlock, Exit.then])
      go_wp2
      go_ret
      have hs9 := HB9.out.size
      have hz9 : w.heap.size ≤ w9.heap.size := by have := HG9.out; have := HZ6.out; have := HZ7.out; omega
      have hCl := HCW.out
      refine ⟨rfl, fun k => F k ∨ (w.heap.size ≤ k ∧ k < w9.heap.size), ⟨.inl H1.out, _, HV10.out, ?_⟩, ⟨HB9.out.setCell (p := ⟨C, 0, none⟩) (HF.out C H1.out).1 _, fun k hk => ?_, fun k hk hFk => ?_⟩⟩
      · refine Kd.S_far (p := ⟨C, 0, none⟩) (Kd.S_mono (Kd.S_bound HS9.out) ?_) (fun k hk => hk.2) _
        rintro k ⟨⟨hk1, hk2⟩, _, hk3, _⟩
        exact ⟨hk1.imp id (fun h => ⟨by have := HZ6.out; omega, hk3⟩), hk2⟩
      · rcases hk with hk | hk
        · refine ⟨.inl hk, ?_⟩
          have := (HF.out k hk).2
          simp [World.setCell]
          omega
        · refine ⟨.inr hk.1, ?_⟩
          simp [World.setCell]
          omega
      · rw [heap_setCell_other w9 ⟨C, 0, none⟩ k _ (fun e => hFk (by rw [show k = C from e]; exact H1.out))]
        exact HK9.out k hFk hk
    · rw [if_neg hsm] at hst
      cases hst
/-- All splits. -/
def allT (n : Nat) : Option (List (List (List Int)) × Bool) := splitF n kstep 10 (used0 n) [] []
def AllTPost (C : Nat) (r : List (List (List Int))) (w w' : World) : Prop := ∃ A c, VarK w' C (.slice A r.length c) ∧ Kd.S kd3 23 w' w.heap.size (fun _ => True) (.slice A r.length c) r
theorem allSplits {n : Nat} {r : List (List (List Int)) × Bool} {w : World} {C : Nat} (hn1 : 1 ≤ n) (hn : n ≤ 5) (hC : w.heap.size ≤ C) (h : allT n = some r) (W : World) (hv : VarK W C (.slice none 0 0)) (hb : Below w.heap.size w W) :
    Calls Try.prog 72 #[.int .i64 (n : Int), .func (.func 73) #[] #[.pointer (some ⟨C, 0, none⟩)]] W fun e w' => e = .returned (.tuple #[]) ∧ AllTPost C r.1 w w' ∧ Below w.heap.size w w' := by
  refine (each_calls (B := w.heap.size) allT_clos hn1 hn 10 [] r W (fun k => k = C) ⟨rfl, _, hv, Kd.S_nil _ _ _ _ _⟩ (fun k hk => ⟨by omega, by rw [hk]; exact hv.lt⟩) hb.size h).mono ?_
  rintro e w' ⟨rfl, ⟨F', ⟨_, v, hv, hr⟩, _⟩, hbb⟩
  obtain ⟨A, c, rfl⟩ := Kd.S_slice hr
  exact ⟨rfl, ⟨A, c, hv, Kd.S_mono hr (fun _ _ => trivial)⟩, hb.trans hbb⟩
end Go.Proofs.Ytgpnhaaklhinlaa.Search
