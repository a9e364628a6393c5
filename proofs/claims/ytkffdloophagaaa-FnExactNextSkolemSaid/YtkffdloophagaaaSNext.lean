/- The function values of the next Skolem row and of a Skolem row's rank. Conditions: none but those that each lemma states. -/
import Derived.Test.YtkffdloophagaaaSFirst
import Derived.Test.YtkffdloophagaaaSCmp
namespace Go.Proofs.Ytkffdloophagaaa.Search
open Go.RowKit Go.Proofs.YtkffdloophagaaaW.PrintWords Go.Proofs.YtkffdloophagaaaW.PrintLast Go.Proofs.YtkffdloophagaaaW.PrintMore
set_option linter.unusedVariables false
set_option linter.unusedSimpArgs false
/-- The row that is asked about, in a variable W0 that function values hold: below B, so that no search touches it. -/
def Asked (w : World) (B W0 R T L : Nat) (A : Option Addr) (cap : Nat) (row : List Int) : Prop :=
  (W0 ≠ R ∧ W0 ≠ T ∧ W0 ≠ L ∧ B ≤ R ∧ B ≤ T ∧ B ≤ L) ∧ row.length ≤ cap ∧ VarS w W0 (.slice A row.length cap) ∧ Kd.F (Kd.int .i64) w (fun k => k < B) A row.length row
theorem Asked.step {w w' : World} {B W0 R T L : Nat} {A : Option Addr} {cap : Nat} {row : List Int} (h : Asked w B W0 R T L A cap row) (hk : ∀ k, k ≠ R → k ≠ L → k < w.heap.size → w'.heap[k]? = w.heap[k]?) : Asked w' B W0 R T L A cap row :=
  ⟨h.1, h.2.1, (hk W0 h.1.1 h.1.2.2.1 h.2.2.1.lt).trans h.2.2.1, Kd.F_step h.2.2.2 (fun k hk1 hlt => hk k (by have := h.1; omega) (by have := h.1; omega) hlt)⟩
theorem Asked.below {w w' : World} {B W0 R T L : Nat} {A : Option Addr} {cap : Nat} {row : List Int} (h : Asked w B W0 R T L A cap row) (hb : Below w.heap.size w w') : Asked w' B W0 R T L A cap row :=
  h.step (fun k _ _ hlt => hb.block k hlt)
theorem Asked.set {w : World} {B W0 R T L C : Nat} {A : Option Addr} {cap : Nat} {row : List Int} (h : Asked w B W0 R T L A cap row) (hC : B ≤ C) (hne : W0 ≠ C) (v : Value) : Asked (w.setCell ⟨C, 0, none⟩ v) B W0 R T L A cap row :=
  ⟨h.1, h.2.1, (heap_setCell_other w ⟨C, 0, none⟩ W0 v hne).trans h.2.2.1, Kd.F_far (p := ⟨C, 0, none⟩) h.2.2.2 (fun k (hk : k < B) => by show k ≠ C; omega) v⟩
theorem Asked.C {w : World} {B W0 R T L : Nat} {A : Option Addr} {cap : Nat} {row : List Int} (h : Asked w B W0 R T L A cap row) : Kd.C (Kd.int .i64) w A row.length row := Kd.F_now h.2.2.2
theorem Asked.mk_ {w w' : World} {B W0 R T L : Nat} {A : Option Addr} {cap : Nat} {row : List Int} (hr : Kd.C (Kd.int .i64) w A row.length row) (hc : row.length ≤ cap) (hB : B = w.heap.size) (hb : Below w.heap.size w w') (hv : VarS w' W0 (.slice A row.length cap)) (hn : W0 ≠ R ∧ W0 ≠ T ∧ W0 ≠ L ∧ B ≤ R ∧ B ≤ T ∧ B ≤ L) : Asked w' B W0 R T L A cap row :=
  ⟨hn, hc, hv, by
    subst hB
    exact Kd.F_step (Kd.C_F (Kd.heap_int .i64) hr) (fun k hk _ => hb.block k hk)⟩
/-- The first row behind the one that is asked about. -/
def nstep (row : List Int) (s : List Int) (other : List Int) : List Int × Bool := if cmpL other row ≤ 0 then (s, false) else (other, true)
/-- How many rows come before the one that is asked about. -/
def rstep (row : List Int) (s : Int) (other : List Int) : Int × Bool := if cmpL other row ≥ 0 then (s, true) else (wrap64 (s + 1), false)
def InvN (B C W0 : Nat) (A : Option Addr) (cap : Nat) (row : List Int) (R T L : Nat) (s : List Int) (w : World) : Prop := W0 ≠ C ∧ InvO B C R T L s w ∧ Asked w B W0 R T L A cap row
def InvR (B C W0 : Nat) (A : Option Addr) (cap : Nat) (row : List Int) (R T L : Nat) (s : Int) (w : World) : Prop := W0 ≠ C ∧ (C ≠ R ∧ C ≠ T ∧ C ≠ L) ∧ Var w C s ∧ Asked w B W0 R T L A cap row
set_option maxRecDepth 100000 in
set_option maxHeartbeats 4000000 in
theorem rank_clos {B C W0 R T L len : Nat} {A : Option Addr} {cap : Nat} {row : List Int} (hB : B ≤ C) (hlen : len ≤ 100) : Clos Try.prog B R T L 68 #[.pointer (some ⟨W0, 0, none⟩), .pointer (some ⟨C, 0, none⟩)] (InvR B C W0 A cap row R T L) (rstep row) len (fun _ => True) where
  lives := fun _ _ _ _ => trivial
  enters := ⟨_, Try.func68, by kernel_rfl, by kernel_rfl⟩
  keeps := fun s w w' h hs hk => ⟨h.1, h.2.1, (hk C h.2.1.1 h.2.1.2.2 h.2.2.1.lt).trans h.2.2.1, h.2.2.2.step hk⟩
  call := fun s xs w _ h hR hl hw => by
    subst hl
    obtain ⟨K, hK⟩ := Compare_ev xs row (by omega)
    have HK := Aside0.mk (show slices_Compare_int_int.f K xs row = some (cmpL xs row) from hK K (Nat.le_refl _))
    have HI := Aside0.mk h
    have HB := Aside0.mk hB
    have HRC := Aside0.mk (hR.C (by omega))
    have cW := h.2.2.2.2.2.1.cell
    have cC := h.2.2.1.cell
    have fC := h.2.2.1.free
    by_cases c1 : cmpL xs row ≥ 0
    · have b1 : decide (0 ≤ cmpL xs row) = true := decide_eq_true c1
      have ES := Aside0.mk (show rstep row s xs = (s, true) by unfold rstep; rw [if_pos c1])
      clear h hB hR hw hlen hK c1
      go_enter Try.func68, Try.ntmps68
      go_wp2_with (first | ((with_reducible refine gate_callee (f := 66) rfl ?_); refine goesL_ (some 7) rfl rfl Try.func66 (by kernel_rfl) rfl #[.slice (some ⟨R, 0, none⟩) xs.length xs.length, .slice A row.length cap] rfl (by (try simp only [List.map_toArray, List.map_cons, List.map_nil]); first | done | rfl) ?_; (with_reducible refine (slices_Compare_int_int.calls K _ _ xs _ _ row _ _ ?side1 ?side2 ?side3 ?side4 HK.out).mono ?_); (case side1 => exact HRC.out); (case side2 => exact Nat.le_refl _); (case side3 => exact HI.out.2.2.2.C); (case side4 => exact HI.out.2.2.2.2.1); rintro e w' ⟨rfl, ⟨nd, rfl⟩⟩; refine ⟨_, rfl, ?_⟩))
      go_ret
      rw [ES.out]
      exact ⟨rfl, ⟨HI.out.1, HI.out.2.1, HI.out.2.2.1, HI.out.2.2.2.below (pw_below_drewN (Below.refl _ w) nd)⟩, ⟨pw_below_drewN (Below.refl B w) nd, rfl, rfl, rfl⟩⟩
    · have b1 : decide (0 ≤ cmpL xs row) = false := decide_eq_false c1
      have ES := Aside0.mk (show rstep row s xs = (wrap64 (s + 1), false) by unfold rstep; rw [if_neg c1])
      clear h hB hR hw hlen hK c1
      go_enter Try.func68, Try.ntmps68
      go_wp2_with (first | ((with_reducible refine gate_callee (f := 66) rfl ?_); refine goesL_ (some 7) rfl rfl Try.func66 (by kernel_rfl) rfl #[.slice (some ⟨R, 0, none⟩) xs.length xs.length, .slice A row.length cap] rfl (by (try simp only [List.map_toArray, List.map_cons, List.map_nil]); first | done | rfl) ?_; (with_reducible refine (slices_Compare_int_int.calls K _ _ xs _ _ row _ _ ?side1 ?side2 ?side3 ?side4 HK.out).mono ?_); (case side1 => exact HRC.out); (case side2 => exact Nat.le_refl _); (case side3 => exact HI.out.2.2.2.C); (case side4 => exact HI.out.2.2.2.2.1); rintro e w' ⟨rfl, ⟨nd, rfl⟩⟩; refine ⟨_, rfl, ?_⟩))
      go_ret
      rw [ES.out]
      have HD := HI.out.2.2.2.below (pw_below_drewN (Below.refl _ w) nd)
      exact ⟨rfl, ⟨HI.out.1, HI.out.2.1, Var.set (w := w.drewN nd) HI.out.2.2.1 _, HD.set HB.out HI.out.1 _⟩, ⟨(pw_below_drewN (Below.refl B w) nd).setCell (p := ⟨C, 0, none⟩) HB.out _, heap_setCell_other _ _ _ _ (fun e => HI.out.2.1.1 e.symm), heap_setCell_other _ _ _ _ (fun e => HI.out.2.1.2.1 e.symm), heap_setCell_other _ _ _ _ (fun e => HI.out.2.1.2.2 e.symm)⟩⟩
set_option maxRecDepth 100000 in
set_option maxHeartbeats 4000000 in
theorem next_clos {B C W0 R T L len : Nat} {A : Option Addr} {cap : Nat} {row : List Int} (hB : B ≤ C) (hlen : len ≤ 100) : Clos Try.prog B R T L 65 #[.pointer (some ⟨W0, 0, none⟩), .pointer (some ⟨C, 0, none⟩)] (InvN B C W0 A cap row R T L) (nstep row) len (fun _ => True) where
  lives := fun _ _ _ _ => trivial
  enters := ⟨_, Try.func65, by kernel_rfl, by kernel_rfl⟩
  keeps := fun s w w' h hs hk => by
    obtain ⟨h0, ⟨⟨h1, h2, h3, h4, h5, h6⟩, v, hv, hr⟩, ha⟩ := h
    exact ⟨h0, ⟨⟨h1, h2, h3, by omega, by omega, by omega⟩, v, (hk C h1 h3 hv.lt).trans hv, Kd.R_step hr (fun k hk1 hlt => hk k hk1.2.1 hk1.2.2.2 hlt)⟩, ha.step hk⟩
  call := fun s xs w _ h hR hl hw => by
    subst hl
    obtain ⟨K, hK⟩ := Compare_ev xs row (by omega)
    have HK := Aside0.mk (show slices_Compare_int_int.f K xs row = some (cmpL xs row) from hK K (Nat.le_refl _))
    obtain ⟨h0, ⟨hn, v, hv, hr⟩, ha⟩ := h
    have HA := Aside0.mk ha
    have H0 := Aside0.mk h0
    have HV := Aside0.mk hv
    have HN := Aside0.mk hn
    have HO0 := Aside0.mk hr
    have HW := Aside0.mk hw
    have HB := Aside0.mk hB
    have HRC := Aside0.mk (hR.C (by omega))
    have HL := Aside0.mk (clone_small hlen)
    have cW := ha.2.2.1.cell
    by_cases c1 : cmpL xs row ≤ 0
    · have b1 : decide (cmpL xs row ≤ 0) = true := decide_eq_true c1
      have ES := Aside0.mk (show nstep row s xs = (s, false) by unfold nstep; rw [if_pos c1])
      clear h0 hn hv hr ha hB hR hw hlen hK c1
      go_enter Try.func65, Try.ntmps65
      go_wp2_with (first | ((with_reducible refine gate_callee (f := 66) rfl ?_); refine goesL_ (some 7) rfl rfl Try.func66 (by kernel_rfl) rfl #[.slice (some ⟨R, 0, none⟩) xs.length xs.length, .slice A row.length cap] rfl (by (try simp only [List.map_toArray, List.map_cons, List.map_nil]); first | done | rfl) ?_; (with_reducible refine (slices_Compare_int_int.calls K _ _ xs _ _ row _ _ ?side1 ?side2 ?side3 ?side4 HK.out).mono ?_); (case side1 => exact HRC.out); (case side2 => exact Nat.le_refl _); (case side3 => exact HA.out.C); (case side4 => exact HA.out.2.1); rintro e w' ⟨rfl, ⟨nd, rfl⟩⟩; refine ⟨_, rfl, ?_⟩))
      go_ret
      rw [ES.out]
      exact ⟨rfl, ⟨H0.out, ⟨HN.out, v, HV.out, Kd.R_drewN HO0.out nd⟩, HA.out.below (pw_below_drewN (Below.refl _ w) nd)⟩, ⟨pw_below_drewN (Below.refl B w) nd, rfl, rfl, rfl⟩⟩
    · have b1 : decide (cmpL xs row ≤ 0) = false := decide_eq_false c1
      have ES := Aside0.mk (show nstep row s xs = (xs, true) by unfold nstep; rw [if_neg c1])
      clear h0 hn hv hr ha hB hR hw hlen hK c1
      go_enter Try.func65, Try.ntmps65
      go_wp2_with (first | ((with_reducible refine gate_callee (f := 66) rfl ?_); refine goesL_ (some 7) rfl rfl Try.func66 (by kernel_rfl) rfl #[.slice (some ⟨R, 0, none⟩) xs.length xs.length, .slice A row.length cap] rfl (by (try simp only [List.map_toArray, List.map_cons, List.map_nil]); first | done | rfl) ?_; (with_reducible refine (slices_Compare_int_int.calls K _ _ xs _ _ row _ _ ?side1 ?side2 ?side3 ?side4 HK.out).mono ?_); (case side1 => exact HRC.out); (case side2 => exact Nat.le_refl _); (case side3 => exact HA.out.C); (case side4 => exact HA.out.2.1); rintro e w' ⟨rfl, ⟨nd, rfl⟩⟩; refine ⟨_, rfl, ?_⟩) | ((with_reducible refine gate_callee (f := 67) rfl ?_); refine goesL_ (some 10) rfl rfl Try.func67 (by kernel_rfl) rfl #[.slice (some ⟨R, 0, none⟩) xs.length xs.length] rfl (by (try simp only [List.map_toArray, List.map_cons, List.map_nil]); first | done | rfl) ?_; (with_reducible refine (slices_Clone_int_int.calls _ _ xs xs _ ?side1 ?side2 HL.out).mono ?_); (case side1 => exact Kd.C_drewN HRC.out _); (case side2 => exact Nat.le_refl _); rintro e w5 ⟨v5, rfl, ho, hb⟩; refine ⟨_, rfl, ?_⟩; have HO := Aside0.mk ho; have HB5 := Aside0.mk ((pw_below_drewN (Below.refl w.heap.size w) nd).trans hb); have f5 := (HV.out.below HB5.out).free; have g5 := (HV.out.below HB5.out).cell; obtain ⟨A5, c5, rfl⟩ := Kd.R_slice ho; clear ho hb))
      go_ret
      rw [ES.out]
      have hlow : Below B w w5 := ⟨HB5.out.os, HB5.out.tape, HB5.out.output, HB5.out.size, fun k hk => HB5.out.block k (by have := HW.out; omega)⟩
      refine ⟨rfl, ⟨H0.out, ⟨⟨HN.out.1, HN.out.2.1, HN.out.2.2.1, ?_, ?_, ?_⟩, _, (HV.out.below HB5.out).set _, ?_⟩, (HA.out.below HB5.out).set HB.out H0.out _⟩, ⟨hlow.setCell (p := ⟨C, 0, none⟩) HB.out _, ?_, ?_, ?_⟩⟩
      · have := HB5.out.size; have := HN.out; simp [World.setCell]; omega
      · have := HB5.out.size; have := HN.out; simp [World.setCell]; omega
      · have := HB5.out.size; have := HN.out; simp [World.setCell]; omega
      · refine Kd.R_far (p := ⟨C, 0, none⟩) (Kd.R_mono (Kd.R_lower (Kd.R_bound HO.out) (show B ≤ (w.drewN nd).heap.size from HW.out)) ?_) (fun k hk => hk.1) _
        rintro k ⟨_, hk, _⟩
        have h1 := HV.out.lt
        have h2 := HN.out
        have h3 : w.heap.size ≤ k := hk
        exact ⟨by omega, by omega, by omega, by omega⟩
      · rw [heap_setCell_other _ _ _ _ (fun e => HN.out.1 e.symm)]; exact HB5.out.block R HN.out.2.2.2.1
      · rw [heap_setCell_other _ _ _ _ (fun e => HN.out.2.1 e.symm)]; exact HB5.out.block T HN.out.2.2.2.2.1
      · rw [heap_setCell_other _ _ _ _ (fun e => HN.out.2.2.1 e.symm)]; exact HB5.out.block L HN.out.2.2.2.2.2
theorem nextRows {p n : Nat} {r : List Int × Bool} {w : World} {C W0 : Nat} {A : Option Addr} {cap : Nat} {row : List Int} (hr : Kd.C (Kd.int .i64) w A row.length row) (hcap : row.length ≤ cap) (hp : p ≤ 100) (hn : n ≤ 90) (hp0 : 0 < p) (hC : w.heap.size ≤ C) (hne : W0 ≠ C) (hc : fillF 0 (nstep row) 40 (row0 p (-1)) (left0 n 1) [] = some r) (W : World) (ha : VarS W W0 (.slice A row.length cap)) (hv : VarS W C (.slice none 0 0)) (hb : Below w.heap.size w W) :
    Calls Try.prog 83 #[.int .i64 (p : Int), .int .i64 (n : Int), .int .i64 ((1 : Nat) : Int), .int .i64 ((0 : Nat) : Int), .int .i64 (-1), .func (.func 65) #[] #[.pointer (some ⟨W0, 0, none⟩), .pointer (some ⟨C, 0, none⟩)]] W fun e w' => e = .returned (.tuple #[]) ∧ FirstPost C r.1 w w' ∧ Below w.heap.size w w' := by
  have hlt := hv.lt
  have hlt0 := ha.lt
  refine (rows_calls (InvF := fun R T L => InvN w.heap.size C W0 A cap row R T L) (B := w.heap.size) 40 W hp (by omega) (by omega) (by omega) (by omega) hb.size (fun R T L hR hT hL _ _ _ => next_clos hC hp) (fun R T L w' hR hT hL _ _ _ hr1 ht hl hbb => ⟨hne, ⟨⟨by omega, by omega, by omega, hr1, ht, hl⟩, _, (hbb.block C hlt).trans hv, Kd.R_nil _ _ _ _ _⟩, Asked.mk_ hr hcap rfl (hb.trans (below_wk hbb hb.size)) ((hbb.block W0 hlt0).trans ha) (by have := hb.size; omega)⟩) trivial hc).mono ?_
  rintro e w' ⟨rfl, ⟨R, T, L, _, _, _, _, ⟨hn, v, hv, hr⟩, _⟩, hbb⟩
  obtain ⟨A, c, rfl⟩ := Kd.R_slice hr
  exact ⟨rfl, ⟨A, c, hv, Kd.R_mono hr (fun _ _ => trivial)⟩, hb.trans hbb⟩
theorem rankRows {p n : Nat} {r : Int × Bool} {w : World} {C W0 : Nat} {A : Option Addr} {cap : Nat} {row : List Int} (hr : Kd.C (Kd.int .i64) w A row.length row) (hcap : row.length ≤ cap) (hp : p ≤ 100) (hn : n ≤ 90) (hp0 : 0 < p) (hC : w.heap.size ≤ C) (hne : W0 ≠ C) (hc : fillF 0 (rstep row) 40 (row0 p (-1)) (left0 n 1) 0 = some r) (W : World) (ha : VarS W W0 (.slice A row.length cap)) (hv : Var W C 0) (hb : Below w.heap.size w W) :
    Calls Try.prog 83 #[.int .i64 (p : Int), .int .i64 (n : Int), .int .i64 ((1 : Nat) : Int), .int .i64 ((0 : Nat) : Int), .int .i64 (-1), .func (.func 68) #[] #[.pointer (some ⟨W0, 0, none⟩), .pointer (some ⟨C, 0, none⟩)]] W fun e w' => e = .returned (.tuple #[]) ∧ Var w' C r.1 ∧ Below w.heap.size w w' := by
  have hlt := hv.lt
  have hlt0 := ha.lt
  refine (rows_calls (InvF := fun R T L => InvR w.heap.size C W0 A cap row R T L) (B := w.heap.size) 40 W hp (by omega) (by omega) (by omega) (by omega) hb.size (fun R T L hR hT hL _ _ _ => rank_clos hC hp) (fun R T L w' hR hT hL _ _ _ hr1 ht hl hbb => ⟨hne, ⟨by omega, by omega, by omega⟩, (hbb.block C hlt).trans hv, Asked.mk_ hr hcap rfl (hb.trans (below_wk hbb hb.size)) ((hbb.block W0 hlt0).trans ha) (by have := hb.size; omega)⟩) trivial hc).mono ?_
  rintro e w' ⟨rfl, ⟨R, T, L, _, _, _, hi⟩, hbb⟩
  exact ⟨rfl, hi.2.2.1, hb.trans hbb⟩
end Go.Proofs.Ytkffdloophagaaa.Search
