/- The first split. Conditions: none but those that each lemma states. -/
import Derived.Test.YtkffdloophagaaaSSplitC
import Derived.Test.YtkffdloophagaaaSClones
namespace Go.Proofs.Ytkffdloophagaaa.Search
open Go.RowKit Go.Proofs.YtkffdloophagaaaW.PrintWords Go.Proofs.YtkffdloophagaaaW.PrintLast Go.Proofs.YtkffdloophagaaaW.PrintMore
set_option linter.unusedVariables false
set_option linter.unusedSimpArgs false
/-- A variable of a list of rows that a function value holds. -/
def VarT (w : World) (C : Nat) (v : Value) : Prop := w.heap[C]? = some (.cells #[v] 39 (0, 0))
theorem VarT.cell {w : World} {C : Nat} {v : Value} (h : VarT w C v) : w.cell? ⟨C, 0, none⟩ = some v := by
  rw [cell_of_row w C 0 _ 39 (0, 0) h]
  rfl
theorem VarT.free {w : World} {C : Nat} {v : Value} (h : VarT w C v) : w.frozen? ⟨C, 0, none⟩ = false := frozen_of_row w C 0 _ 39 h
theorem VarT.set {w : World} {C : Nat} {v : Value} (h : VarT w C v) (x : Value) : VarT (w.setCell ⟨C, 0, none⟩ x) C x := by
  unfold VarT
  rw [heap_setCell_same w C 0 _ 39 _ h]
  rfl
theorem VarT.lt {w : World} {C : Nat} {v : Value} (h : VarT w C v) : C < w.heap.size := lt_of_block h
theorem VarT.below {w w1 : World} {C : Nat} {v : Value} (h : VarT w C v) (hb : Below w.heap.size w w1) : VarT w1 C v := (hb.block C h.lt).trans h
/-- Lists that are small enough to be copied. -/
def smallT (xs : List (List Int)) : Bool := decide (xs.length ≤ 1000) && xs.all fun x => decide (x.length ≤ 1000)
theorem smallT_iff {xs : List (List Int)} (h : smallT xs = true) : xs.length ≤ 1000 ∧ ∀ x ∈ xs, x.length ≤ 1000 := by
  unfold smallT at h
  rw [Bool.and_eq_true, decide_eq_true_eq, List.all_eq_true] at h
  exact ⟨h.1, fun x hx => of_decide_eq_true (h.2 x hx)⟩
def fstepT (_ : List (List Int)) (xs : List (List Int)) : Option (List (List Int) × Bool) := if smallT xs = true then some (xs, true) else none
def InvFT (B C : Nat) (s : List (List Int)) (w : World) (F : Nat → Prop) : Prop := F C ∧ ∃ v, VarT w C v ∧ Kd.S (Kd.slice 3 (Kd.int .i64)) 29 w B (fun k => F k ∧ k ≠ C) v s
set_option maxHeartbeats 4000000 in
set_option maxRecDepth 100000 in
theorem firstT_clos {B C : Nat} : ClosT Try.prog B 73 #[.pointer (some ⟨C, 0, none⟩)] (InvFT B C) fstepT where
  enters := ⟨_, Try.func73, by kernel_rfl, by kernel_rfl⟩
  keeps := fun s w w' F h hs hk => by
    obtain ⟨h1, v, hv, hr⟩ := h
    exact ⟨h1, v, (hk C h1 hv.lt).trans hv, Kd.S_step hr (fun k hk1 hlt => hk k hk1.1 hlt)⟩
  call := fun s xs r A c w F hst h hF hB hx hc hl => by
    unfold fstepT at hst
    by_cases hsm : smallT xs = true
    · rw [if_pos hsm] at hst
      obtain rfl := Option.some.inj hst
      obtain ⟨h1, v, hv, hr⟩ := h
      have hs2 := smallT_iff hsm
      have HCL := Aside0.mk (clones_some xs hs2.1 hs2.2)
      have HV := Aside0.mk hv
      have H1 := Aside0.mk h1
      have HF := Aside0.mk hF
      have HB := Aside0.mk hB
      have HX := Aside0.mk hx
      have HC := Aside0.mk hc
      clear hst hsm hs2 hr hF hB hx hc hl hv h1
      go_enter Try.func73, Try.ntmps73
      go_wp2_with (first | ((with_reducible refine gate_callee (f := 74) rfl ?_); refine goesL_ (some 5) rfl rfl Try.func74 (by kernel_rfl) rfl #[.slice A xs.length c] rfl (by (try simp only [List.map_toArray, List.map_cons, List.map_nil]); first | done | rfl) ?_; (with_reducible refine (impl_clones.calls (xs.length + 1) _ _ xs xs _ ?side1 ?side2 HCL.out).mono ?_); (case side1 => exact HX.out); (case side2 => exact HC.out); rintro e w5 ⟨v5, rfl, ho, hb⟩; refine ⟨_, rfl, ?_⟩; have HO := Aside0.mk ho; have HB5 := Aside0.mk hb; have f5 := (HV.out.below hb).free; have g5 := (HV.out.below hb).cell; obtain ⟨A5, c5, rfl⟩ := Kd.S_slice ho; clear ho hb))
      go_ret
      have hCl := HV.out.lt
      have hsz := HB5.out.size
      refine ⟨rfl, fun k => F k ∨ (w.heap.size ≤ k ∧ k < w5.heap.size), ⟨.inl H1.out, _, (HV.out.below HB5.out).set _, ?_⟩, ⟨(below_wk HB5.out HB.out).setCell (p := ⟨C, 0, none⟩) (HF.out C H1.out).1 _, fun k hk => ?_, fun k hk hFk => ?_⟩⟩
      · refine Kd.S_far (p := ⟨C, 0, none⟩) (Kd.S_mono (Kd.S_lower (Kd.S_bound HO.out) HB.out) ?_) (fun k hk => hk.2) _
        rintro k ⟨_, hk, hk2, _⟩
        exact ⟨.inr ⟨hk, hk2⟩, by omega⟩
      · rcases hk with hk | hk
        · refine ⟨.inl hk, ?_⟩
          have := (HF.out k hk).2
          simp [World.setCell]
          omega
        · refine ⟨.inr hk.1, ?_⟩
          simp [World.setCell]
          omega
      · rw [heap_setCell_other w5 ⟨C, 0, none⟩ k _ (fun e => hFk (by rw [show k = C from e]; exact H1.out))]
        exact HB5.out.block k hk
    · rw [if_neg hsm] at hst
      cases hst
/-- The first split. -/
def firstT (n : Nat) : Option (List (List Int) × Bool) := splitF n fstepT 10 (used0 n) [] []
/-- What the first split's variable holds behind a search. -/
def FirstTPost (C : Nat) (r : List (List Int)) (w w' : World) : Prop := ∃ A c, VarT w' C (.slice A r.length c) ∧ Kd.S (Kd.slice 3 (Kd.int .i64)) 29 w' w.heap.size (fun _ => True) (.slice A r.length c) r
theorem firstSplit {n : Nat} {r : List (List Int) × Bool} {w : World} {C : Nat} (hn1 : 1 ≤ n) (hn : n ≤ 5) (hC : w.heap.size ≤ C) (h : firstT n = some r) (W : World) (hv : VarT W C (.slice none 0 0)) (hb : Below w.heap.size w W) :
    Calls Try.prog 71 #[.int .i64 (n : Int), .func (.func 73) #[] #[.pointer (some ⟨C, 0, none⟩)]] W fun e w' => e = .returned (.tuple #[]) ∧ FirstTPost C r.1 w w' ∧ Below w.heap.size w w' := by
  refine (each_calls (B := w.heap.size) firstT_clos hn1 hn 10 [] r W (fun k => k = C) ⟨rfl, _, hv, Kd.S_nil _ _ _ _ _⟩ (fun k hk => ⟨by omega, by rw [hk]; exact hv.lt⟩) hb.size h).mono ?_
  rintro e w' ⟨rfl, ⟨F', ⟨_, v, hv, hr⟩, _⟩, hbb⟩
  obtain ⟨A, c, rfl⟩ := Kd.S_slice hr
  exact ⟨rfl, ⟨A, c, hv, Kd.S_mono hr (fun _ _ => trivial)⟩, hb.trans hbb⟩
end Go.Proofs.Ytkffdloophagaaa.Search
