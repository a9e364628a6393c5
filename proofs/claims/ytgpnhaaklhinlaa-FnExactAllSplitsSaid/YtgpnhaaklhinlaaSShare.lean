/- What calls that share a list and a row of bools do to the world. Conditions: none but those that each lemma states. -/
import Derived.Test.YtgpnhaaklhinlaaSIdxB
namespace Go.Proofs.Ytgpnhaaklhinlaa.Search
open Go.RowKit Go.Proofs.YtgpnhaaklhinlaaW.PrintWords Go.Proofs.YtgpnhaaklhinlaaW.PrintLast Go.Proofs.YtgpnhaaklhinlaaW.PrintMore
set_option linter.unusedVariables false
set_option linter.unusedSimpArgs false
/-- What a function value does to the world: F, F': the blocks of its state before and behind the call. -/
structure StepF (B : Nat) (F F' : Nat → Prop) (w w' : World) : Prop where
  below : Below B w w'
  grows : ∀ k, F' k → (F k ∨ w.heap.size ≤ k) ∧ k < w'.heap.size
  rest : ∀ k, k < w.heap.size → ¬ F k → w'.heap[k]? = w.heap[k]?
/-- A function value over lists of triples; Inv: how its state lies in the blocks F. -/
structure ClosT {σ : Type} (P : Program) (B : Nat) (f : FuncId) (cap : Array Value) (Inv : σ → World → (Nat → Prop) → Prop) (step : σ → List (List Int) → Option (σ × Bool)) : Prop where
  enters : ∃ fn, P.funcs[f]? = some fn ∧ (fn.name == "runtime.NumGoroutine") = false ∧ fn.body.isSome = true
  keeps : ∀ s w w' F, Inv s w F → w.heap.size ≤ w'.heap.size → (∀ k, F k → k < w.heap.size → w'.heap[k]? = w.heap[k]?) → Inv s w' F
  call : ∀ s (xs : List (List Int)) r A c w F, step s xs = some r → Inv s w F → (∀ k, F k → B ≤ k ∧ k < w.heap.size) → B ≤ w.heap.size → Kd.C (Kd.slice 3 (Kd.int .i64)) w A xs.length xs → xs.length ≤ c → xs.length ≤ 1000 → Calls P f (#[.slice A xs.length c] ++ cap) w fun e w' => e = .returned (.bool r.2) ∧ ∃ F', Inv r.1 w' F' ∧ StepF B F F' w w'
/-- What a call of the search does to the world: of the list's own block the first m cells stay. -/
structure SFrame (B : Nat) (F F' : Nat → Prop) (v : Value) (m : Nat) (w w' : World) : Prop where
  below : Below B w w'
  grows : ∀ k, F' k → (F k ∨ w.heap.size ≤ k) ∧ k < w'.heap.size
  rest : ∀ k, k < w.heap.size → ¬ F k → some k ≠ v.ownBlock → w'.heap[k]? = w.heap[k]?
  own : ∀ g, v.ownBlock = some g → Pre w w' g m
def okS (B U : Nat) (F : Nat → Prop) (k : Nat) : Prop := B ≤ k ∧ ¬ F k ∧ k ≠ U
def FB (B : Nat) (F : Nat → Prop) (w : World) : Prop := ∀ k, F k → B ≤ k ∧ k < w.heap.size
theorem LV.alloc {w : World} {ok : Nat → Prop} {v : Value} {xs : List (List Int)} (h : LV w ok v xs) (o : Obj) : LV (w.alloc o) ok v xs :=
  h.same (fun k _ hlt => (below_alloc (Below.refl _ w) o).block k hlt)
theorem sets_other (w : World) (U i j l : Nat) (a b c : Value) (k : Nat) (hk : k ≠ U) : (((w.setCell ⟨U, i, none⟩ a).setCell ⟨U, j, none⟩ b).setCell ⟨U, l, none⟩ c).heap[k]? = w.heap[k]? := by
  rw [heap_setCell_other _ _ _ _ hk, heap_setCell_other _ _ _ _ hk, heap_setCell_other _ _ _ _ hk]
theorem sets_size (w : World) (U i j l : Nat) (a b c : Value) : (((w.setCell ⟨U, i, none⟩ a).setCell ⟨U, j, none⟩ b).setCell ⟨U, l, none⟩ c).heap.size = w.heap.size := by simp [World.setCell]
theorem sets_below {B : Nat} (w : World) (U i j l : Nat) (a b c : Value) (hU : B ≤ U) : Below B w (((w.setCell ⟨U, i, none⟩ a).setCell ⟨U, j, none⟩ b).setCell ⟨U, l, none⟩ c) :=
  (((Below.refl B w).setCell (p := ⟨U, i, none⟩) hU a).setCell (p := ⟨U, j, none⟩) hU b).setCell (p := ⟨U, l, none⟩) hU c
theorem BlkB.sets {w : World} {U : Nat} {used : List Bool} (h : BlkB w U used) (i j l : Nat) (x : Bool) : BlkB (((w.setCell ⟨U, i, none⟩ (.bool x)).setCell ⟨U, j, none⟩ (.bool x)).setCell ⟨U, l, none⟩ (.bool x)) U (((used.set i x).set j x).set l x) := ((h.set i x).set j x).set l x
theorem used_back {used : List Bool} {a b y : Nat} (ha : used[a]? = some false) (hb : used[b]? = some false) (hy : used[y]? = some false) : ((((((used.set a true).set b true).set y true).set a false).set b false).set y false) = used := by
  apply List.ext_getElem?
  intro j
  have hla : a < used.length := (List.getElem?_eq_some_iff.1 ha).1
  have hlb : b < used.length := (List.getElem?_eq_some_iff.1 hb).1
  have hly : y < used.length := (List.getElem?_eq_some_iff.1 hy).1
  simp only [List.getElem?_set, List.length_set]
  by_cases e1 : y = j
  · subst e1
    simp [hly]
    exact (List.getElem?_eq_some_iff.1 hy).2
  · by_cases e2 : b = j
    · subst e2
      simp [hlb, e1]
      exact (List.getElem?_eq_some_iff.1 hb).2
    · by_cases e3 : a = j
      · subst e3
        simp [hla, e1, e2]
        exact (List.getElem?_eq_some_iff.1 ha).2
      · simp [e1, e2, e3]
/-- From the head of a round down to the inner call. -/
theorem split_down {σ : Type} {P : Program} {B U : Nat} {f : FuncId} {cap : Array Value} {Inv : σ → World → (Nat → Prop) → Prop} {step : σ → List (List Int) → Option (σ × Bool)} (hC : ClosT P B f cap Inv step) {s : σ} {wr w3 : World} {F : Nat → Prop} {v v3 : Value} {used : List Bool} {i j l m : Nat} {x y z : Int}
    (hU : BlkB wr U used) (hI : Inv s wr F) (hF : FB B F wr) (hnU : ¬ F U) (hBU : B ≤ U) (hsz : B ≤ wr.heap.size) (hvU : ∀ g, v.ownBlock = some g → ¬ F g ∧ g ≠ U ∧ B ≤ g ∧ g < wr.heap.size)
    (hg : ((((((wr.setCell ⟨U, i, none⟩ (.bool true)).setCell ⟨U, j, none⟩ (.bool true)).setCell ⟨U, l, none⟩ (.bool true)).alloc (.cells #[.int .i64 x, .int .i64 y, .int .i64 z] 3)).alloc (.cells #[.slice (some ⟨wr.heap.size, 0, none⟩) 3 3] 22)).grownBy w3 v.ownBlock))
    (hp : ∀ g, v.ownBlock = some g → Pre (((((wr.setCell ⟨U, i, none⟩ (.bool true)).setCell ⟨U, j, none⟩ (.bool true)).setCell ⟨U, l, none⟩ (.bool true)).alloc (.cells #[.int .i64 x, .int .i64 y, .int .i64 z] 3)).alloc (.cells #[.slice (some ⟨wr.heap.size, 0, none⟩) 3 3] 22)) w3 g m) :
    BlkB w3 U (((used.set i true).set j true).set l true) ∧ Inv s w3 F ∧ FB B F w3 ∧ B ≤ w3.heap.size ∧ Below B wr w3 ∧ wr.heap.size + 2 ≤ w3.heap.size ∧ (∀ k, k < wr.heap.size → k ≠ U → some k ≠ v.ownBlock → w3.heap[k]? = wr.heap[k]?) ∧ (∀ g, v.ownBlock = some g → Pre wr w3 g m) := by
  have hUl := hU.lt
  obtain ⟨W1, hW1⟩ : ∃ W1, W1 = (((wr.setCell ⟨U, i, none⟩ (.bool true)).setCell ⟨U, j, none⟩ (.bool true)).setCell ⟨U, l, none⟩ (.bool true)) := ⟨_, rfl⟩
  have z1 : W1.heap.size = wr.heap.size := by rw [hW1]; exact sets_size _ _ _ _ _ _ _ _
  have o1 : ∀ k, k ≠ U → W1.heap[k]? = wr.heap[k]? := fun k hk => by rw [hW1]; exact sets_other _ _ _ _ _ _ _ _ _ hk
  have b1 : BlkB W1 U (((used.set i true).set j true).set l true) := by rw [hW1]; exact hU.sets i j l true
  have be1 : Below B wr W1 := by rw [hW1]; exact sets_below _ _ _ _ _ _ _ _ hBU
  rw [← hW1] at hg hp
  obtain ⟨W2, hW2⟩ : ∃ W2, W2 = (W1.alloc (.cells #[.int .i64 x, .int .i64 y, .int .i64 z] 3)).alloc (.cells #[.slice (some ⟨wr.heap.size, 0, none⟩) 3 3] 22) := ⟨_, rfl⟩
  have z2 : W2.heap.size = wr.heap.size + 2 := by rw [hW2, size_alloc, size_alloc, z1]
  have be2 : Below W1.heap.size W1 W2 := by rw [hW2]; exact below_alloc (below_alloc (Below.refl _ _) _) _
  rw [← hW2] at hg hp
  have hsame : ∀ k, k < wr.heap.size → k ≠ U → some k ≠ v.ownBlock → w3.heap[k]? = wr.heap[k]? := fun k hk hkU hkv =>
    (hg.block k (by omega) hkv).trans ((be2.block k (by omega)).trans (o1 k hkU))
  have hs3 := hg.size
  refine ⟨?_, hC.keeps s wr w3 F hI (by omega) (fun k hk hlt => hsame k hlt (fun e => hnU (e ▸ hk)) (fun e => (hvU k e.symm).1 hk)), fun k hk => ⟨(hF k hk).1, by have := (hF k hk).2; omega⟩, by omega, ⟨?_, ?_, ?_, by omega, fun k hk => hsame k (by omega) (by omega) (fun e => by have := (hvU k e.symm).2.2.1; omega)⟩, by omega, hsame, fun g hgv => ?_⟩
  · exact (hg.block U (by omega) (fun e => (hvU U e.symm).2.1 rfl)).trans ((be2.block U (by omega)).trans b1)
  · rw [hg.os, be2.os, be1.os]
  · rw [hg.tape, be2.tape, be1.tape]
  · rw [hg.output, be2.output, be1.output]
  · have hgl := (hvU g hgv).2.2.2
    exact Pre.same_then ((be2.block g (by omega)).trans (o1 g (hvU g hgv).2.1)) (hp g hgv)
/-- From the inner call's end up to the round's. -/
theorem split_up {σ : Type} {P : Program} {B U : Nat} {f : FuncId} {cap : Array Value} {Inv : σ → World → (Nat → Prop) → Prop} {step : σ → List (List Int) → Option (σ × Bool)} (hC : ClosT P B f cap Inv step) {s : σ} {w wr w3 w4 : World} {F0 F F4 : Nat → Prop} {v v3 : Value} {used : List Bool} {i j l m : Nat}
    (hB : B ≤ w.heap.size) (H0 : SFrame B F0 F v m w wr) (hU : BlkB wr U used) (hF : FB B F wr) (hnU : ¬ F U) (hBU : B ≤ U) (hvU : ∀ g, v.ownBlock = some g → ¬ F g ∧ g ≠ U ∧ B ≤ g ∧ g < wr.heap.size)
    (hi : used[i]? = some false) (hj : used[j]? = some false) (hl : used[l]? = some false)
    (hU3 : BlkB w3 U (((used.set i true).set j true).set l true)) (hB3 : Below B wr w3) (same3 : ∀ k, k < wr.heap.size → k ≠ U → some k ≠ v.ownBlock → w3.heap[k]? = wr.heap[k]?) (pre3 : ∀ g, v.ownBlock = some g → Pre wr w3 g m) (hv3 : v3.ownBlock = v.ownBlock ∨ ∃ g, v3.ownBlock = some g ∧ wr.heap.size ≤ g)
    (S4 : SFrame B F F4 v3 (m + 1) w3 w4) (hI4 : Inv s w4 F4) :
    BlkB (((w4.setCell ⟨U, i, none⟩ (.bool false)).setCell ⟨U, j, none⟩ (.bool false)).setCell ⟨U, l, none⟩ (.bool false)) U used ∧ Inv s (((w4.setCell ⟨U, i, none⟩ (.bool false)).setCell ⟨U, j, none⟩ (.bool false)).setCell ⟨U, l, none⟩ (.bool false)) F4 ∧ FB B F4 (((w4.setCell ⟨U, i, none⟩ (.bool false)).setCell ⟨U, j, none⟩ (.bool false)).setCell ⟨U, l, none⟩ (.bool false)) ∧ ¬ F4 U ∧ SFrame B F0 F4 v m w (((w4.setCell ⟨U, i, none⟩ (.bool false)).setCell ⟨U, j, none⟩ (.bool false)).setCell ⟨U, l, none⟩ (.bool false)) ∧ BlkB w4 U (((used.set i true).set j true).set l true) := by
  have hUl := hU.lt
  have hs3 := hB3.size
  have hs4 := S4.below.size
  have hs0 := H0.below.size
  have hv3U : some U ≠ v3.ownBlock := by
    rcases hv3 with e | ⟨g, e, hg⟩
    · rw [e]
      exact fun h => (hvU U h.symm).2.1 rfl
    · rw [e]
      intro h
      injection h with h
      omega
  have bu4 : BlkB w4 U (((used.set i true).set j true).set l true) := (S4.rest U (by omega) hnU hv3U).trans hU3
  obtain ⟨w5, hw5⟩ : ∃ w5, w5 = (((w4.setCell ⟨U, i, none⟩ (.bool false)).setCell ⟨U, j, none⟩ (.bool false)).setCell ⟨U, l, none⟩ (.bool false)) := ⟨_, rfl⟩
  have z5 : w5.heap.size = w4.heap.size := by rw [hw5]; exact sets_size _ _ _ _ _ _ _ _
  have o5 : ∀ k, k ≠ U → w5.heap[k]? = w4.heap[k]? := fun k hk => by rw [hw5]; exact sets_other _ _ _ _ _ _ _ _ _ hk
  have b5 : BlkB w5 U used := by
    have h := bu4.sets i j l false
    rw [used_back hi hj hl] at h
    rw [hw5]
    exact h
  have be5 : Below B w4 w5 := by rw [hw5]; exact sets_below _ _ _ _ _ _ _ _ hBU
  rw [← hw5]
  have hnU4 : ¬ F4 U := fun h => by
    rcases (S4.grows U h).1 with h | h
    · exact hnU h
    · omega
  have rest : ∀ k, k < wr.heap.size → ¬ F k → k ≠ U → some k ≠ v.ownBlock → w5.heap[k]? = wr.heap[k]? := fun k hk hF' hkU hkv => by
    refine (o5 k hkU).trans ((S4.rest k (by omega) hF' ?_).trans (same3 k hk hkU hkv))
    rcases hv3 with e | ⟨g, e, hg⟩
    · rw [e]; exact hkv
    · rw [e]
      intro h
      injection h with h
      omega
  refine ⟨b5, hC.keeps s w4 w5 F4 hI4 (by omega) (fun k hk _ => o5 k (fun e => hnU4 (e ▸ hk))), fun k hk => ?_, hnU4, ⟨H0.below.trans (hB3.trans (S4.below.trans be5)), fun k hk => ?_, fun k hk hF0 hkv => ?_, fun g hg => ?_⟩, bu4⟩
  · have h := S4.grows k hk
    refine ⟨?_, by omega⟩
    rcases h.1 with h1 | h1
    · exact (hF k h1).1
    · omega
  · have h := S4.grows k hk
    refine ⟨?_, by omega⟩
    rcases h.1 with h1 | h1
    · exact (H0.grows k h1).1
    · exact .inr (by omega)
  · have hFk : ¬ F k := fun h => by
      rcases (H0.grows k h).1 with h | h
      · exact hF0 h
      · omega
    by_cases e : k = U
    · subst e
      exact (b5.trans hU.symm).trans (H0.rest k hk hF0 hkv)
    · exact (rest k (by omega) hFk e hkv).trans (H0.rest k hk hF0 hkv)
  · have hgv := hvU g hg
    have p1 := (H0.own g hg).trans (pre3 g hg) (Nat.le_refl _)
    have p2 : Pre w w4 g m := by
      rcases hv3 with e | ⟨g', e, hg'⟩
      · exact p1.trans (S4.own g (by rw [e]; exact hg)) (by omega)
      · exact p1.then_same (S4.rest g (by omega) hgv.1 (by
          rw [e]
          intro h
          injection h with h
          omega))
    exact p2.then_same (o5 g hgv.2.1)
end Go.Proofs.Ytgpnhaaklhinlaa.Search
