/- The first row that a search finds. Conditions: none but those that each lemma states. -/
import Derived.Test.YtkffdloophagaaaSRows
import Derived.Test.YtkffdloophagaaaSVar
import Derived.Test.YtkffdloophagaaaSClone
namespace Go.Proofs.Ytkffdloophagaaa.Search
open Go.RowKit Go.Proofs.YtkffdloophagaaaW.PrintWords Go.Proofs.YtkffdloophagaaaW.PrintLast Go.Proofs.YtkffdloophagaaaW.PrintMore
set_option linter.unusedVariables false
set_option linter.unusedSimpArgs false
def InvO (B C R T L : Nat) (s : List Int) (w : World) : Prop :=
  (C ≠ R ∧ C ≠ T ∧ C ≠ L ∧ R < w.heap.size ∧ T < w.heap.size ∧ L < w.heap.size) ∧ ∃ v, VarS w C v ∧ Kd.R (Kd.int .i64) 3 w B (fun k => k ≠ C ∧ k ≠ R ∧ k ≠ T ∧ k ≠ L) v s
set_option maxRecDepth 100000 in
theorem first_clos {B C R T L len : Nat} (hB : B ≤ C) (hlen : len ≤ 100) : Clos Try.prog B R T L 86 #[.pointer (some ⟨C, 0, none⟩)] (InvO B C R T L) fstep len (fun _ => True) where
  lives := fun _ _ _ _ => trivial
  enters := ⟨_, Try.func86, by kernel_rfl, by kernel_rfl⟩
  keeps := fun s w w' h hs hk => by
    obtain ⟨⟨h1, h2, h3, h4, h5, h6⟩, v, hv, hr⟩ := h
    exact ⟨⟨h1, h2, h3, by omega, by omega, by omega⟩, v, (hk C h1 h3 hv.lt).trans hv, Kd.R_step hr (fun k hk1 hlt => hk k hk1.2.1 hk1.2.2.2 hlt)⟩
  call := fun s xs w _ h hR hl hw => by
    subst hl
    obtain ⟨hn, v, hv, hr⟩ := h
    have HV := Aside0.mk hv
    have HN := Aside0.mk hn
    have HW := Aside0.mk hw
    have HB := Aside0.mk hB
    have HR := Aside0.mk hR
    have HC := Aside0.mk (hR.C (by omega))
    have HL := Aside0.mk (clone_small hlen)
    clear hn hv hr hB hR hlen hw
    go_enter Try.func86, Try.ntmps86
    go_wp2_with (first | ((with_reducible refine gate_callee (f := 67) rfl ?_); refine goesL_ (some 5) rfl rfl Try.func67 (by kernel_rfl) rfl #[.slice (some ⟨R, 0, none⟩) xs.length xs.length] rfl (by (try simp only [List.map_toArray, List.map_cons, List.map_nil]); first | done | rfl) ?_; (with_reducible refine (slices_Clone_int_int.calls _ _ xs xs _ ?side1 ?side2 HL.out).mono ?_); (case side1 => exact HC.out); (case side2 => exact Nat.le_refl _); rintro e w5 ⟨v5, rfl, ho, hb⟩; refine ⟨_, rfl, ?_⟩; have HO := Aside0.mk ho; have HB5 := Aside0.mk hb; have f5 := (HV.out.below hb).free; have g5 := (HV.out.below hb).cell; obtain ⟨A5, c5, rfl⟩ := Kd.R_slice ho; clear ho hb))
    go_ret
    have hlow : Below B w w5 := ⟨HB5.out.os, HB5.out.tape, HB5.out.output, HB5.out.size, fun k hk => HB5.out.block k (by have := HW.out; omega)⟩
    refine ⟨rfl, ⟨⟨HN.out.1, HN.out.2.1, HN.out.2.2.1, ?_, ?_, ?_⟩, _, (HV.out.below HB5.out).set _, ?_⟩, ⟨hlow.setCell (p := ⟨C, 0, none⟩) HB.out _, ?_, ?_, ?_⟩⟩
    · have := HB5.out.size; have := HN.out; simp [World.setCell]; omega
    · have := HB5.out.size; have := HN.out; simp [World.setCell]; omega
    · have := HB5.out.size; have := HN.out; simp [World.setCell]; omega
    · refine Kd.R_far (p := ⟨C, 0, none⟩) (Kd.R_mono (Kd.R_lower (Kd.R_bound HO.out) HW.out) ?_) (fun k hk => hk.1) _
      rintro k ⟨_, hk, _⟩
      have h1 := HV.out.lt
      have h2 := HN.out
      exact ⟨by omega, by omega, by omega, by omega⟩
    · rw [heap_setCell_other _ _ _ _ (fun e => HN.out.1 e.symm)]; exact HB5.out.block R HN.out.2.2.2.1
    · rw [heap_setCell_other _ _ _ _ (fun e => HN.out.2.1 e.symm)]; exact HB5.out.block T HN.out.2.2.2.2.1
    · rw [heap_setCell_other _ _ _ _ (fun e => HN.out.2.2.1 e.symm)]; exact HB5.out.block L HN.out.2.2.2.2.2
/-- What the first row's variable holds behind a search. -/
def FirstPost (C : Nat) (r : List Int) (w w' : World) : Prop := ∃ A c, VarS w' C (.slice A r.length c) ∧ Kd.R (Kd.int .i64) 3 w' w.heap.size (fun _ => True) (.slice A r.length c) r
theorem firstRows {p n d sh : Nat} {hole : Int} {r : List Int × Bool} {w : World} {C : Nat} (hp : p ≤ 100) (hn : n ≤ 100) (hd : d + n ≤ 100) (hsh : sh ≤ 1) (hh : hole < (p : Int)) (hC : w.heap.size ≤ C) (hc : fillF sh fstep 40 (row0 p hole) (left0 n d) [] = some r) (W : World) (hv : VarS W C (.slice none 0 0)) (hb : Below w.heap.size w W) :
    Calls Try.prog 83 #[.int .i64 (p : Int), .int .i64 (n : Int), .int .i64 (d : Int), .int .i64 (sh : Int), .int .i64 hole, .func (.func 86) #[] #[.pointer (some ⟨C, 0, none⟩)]] W fun e w' => e = .returned (.tuple #[]) ∧ FirstPost C r.1 w w' ∧ Below w.heap.size w w' := by
  have hlt := hv.lt
  refine (rows_calls (InvF := InvO w.heap.size C) (B := w.heap.size) 40 W hp hn hd hsh hh hb.size (fun R T L hR hT hL _ _ _ => first_clos hC hp) (fun R T L w' hR hT hL _ _ _ hr ht hl hbb => ⟨⟨by omega, by omega, by omega, hr, ht, hl⟩, _, (hbb.block C hlt).trans hv, Kd.R_nil _ _ _ _ _⟩) trivial hc).mono ?_
  rintro e w' ⟨rfl, ⟨R, T, L, _, _, _, hn, v, hv, hr⟩, hbb⟩
  obtain ⟨A, c, rfl⟩ := Kd.R_slice hr
  exact ⟨rfl, ⟨A, c, hv, Kd.R_mono hr (fun _ _ => trivial)⟩, hb.trans hbb⟩
end Go.Proofs.Ytkffdloophagaaa.Search
