/- The reference's search from its beginning. Conditions: none but those that each lemma states. -/
import Derived.Test.YtkffdloophagaaaSLook
import Derived.Test.YtkffdloophagaaaSMake
namespace Go.Proofs.Ytkffdloophagaaa.Search
open Go.RowKit Go.Proofs.YtkffdloophagaaaW.PrintWords Go.Proofs.YtkffdloophagaaaW.PrintLast Go.Proofs.YtkffdloophagaaaW.PrintMore
set_option linter.unusedVariables false
set_option linter.unusedSimpArgs false
/-- How many places a search's row has. -/
def placesOf (fr to_ : Nat) (hole : Int) : Nat := 2 * (to_ + 1 - fr) + (if hole ≥ 0 then 1 else 0)
/-- What a search comes to. -/
def lookAll (fr to_ sh : Nat) (hole : Int) (most : Nat) : Option (Int × List (List Int)) := lookF fr to_ sh hole (lstep most) 40 (List.replicate (placesOf fr to_ hole) 0) 0 (0, [])
/-- A search's state, made since w. -/
def AllPost (fr to_ sh : Nat) (hole : Int) (most : Nat) (r : Int × List (List Int)) (w : World) (e : Ending) (w' : World) : Prop :=
  ∃ (G R : Nat) (v : Value), e = .returned (.pointer (some ⟨G, 0, none⟩)) ∧ w.heap.size ≤ G ∧ Look w' G R (placesOf fr to_ hole) fr to_ sh hole 0 most r.1 v ∧ Lst w' w.heap.size G R v r.2 ∧ Below w.heap.size w w'
/-- The first row that is kept. -/
theorem Lst.first {w : World} {B G R : Nat} {v : Value} {x : List Int} {t : List (List Int)} (h : Lst w B G R v (x :: t)) : ∃ (g c : Nat) (A : Option Addr) (n : Nat), v = .slice (some ⟨g, 0, none⟩) (x :: t).length c ∧ w.cell? ⟨g, 0, none⟩ = some (.slice A x.length n) ∧ Kd.R (Kd.int .i64) 3 w B (fun _ => True) (.slice A x.length n) x := by
  have h' : Kd.R (Kd.slice 3 (Kd.int .i64)) 29 w B (fun k => k ≠ G ∧ k ≠ R) v (x :: t) := h
  obtain ⟨A0, c, rfl⟩ := Kd.R_slice h'
  obtain ⟨ad, _, e, _⟩ := Kd.C_get (Kd.R_reads' h').2.2 [] 0 (Int.le_refl _) (by simp only [List.length_cons]; omega)
  subst e
  obtain ⟨g, rfl⟩ := Kd.R_head h'
  obtain ⟨cs, hl, hM, hc, _⟩ := Kd.R_elem h' [] 0 (Int.le_refl _) (by simp only [List.length_cons]; omega)
  obtain ⟨v', rfl, hR⟩ := hM
  have hR2 : Kd.R (Kd.int .i64) 3 w B _ v' x := hR
  obtain ⟨A, n, rfl⟩ := Kd.R_slice hR2
  exact ⟨g, c, A, n, rfl, by simpa [Kd.slice] using hc 0 _ rfl, Kd.R_mono hR2 (fun _ _ => trivial)⟩
theorem look_new (w : World) (R len fr to_ sh : Nat) (hole : Int) (most : Nat) : Look (w.alloc (.cells #[.slice (some ⟨R, 0, none⟩) len len, .int .i64 (fr : Int), .int .i64 (to_ : Int), .int .i64 (sh : Int), .int .i64 hole, .int .i64 0, .int .i64 (most : Int), .int .i64 0, .slice none 0 0] 45 (0, 0))) w.heap.size R len fr to_ sh hole ((0 : Nat) : Int) most 0 (.slice none 0 0) := by
  unfold Look
  rw [heap_alloc_new]
  rfl
set_option maxHeartbeats 8000000 in
set_option maxRecDepth 100000 in
theorem all_calls {fr to_ sh most : Nat} {hole : Int} (hft : 1 ≤ fr ∧ fr ≤ to_) (hto : to_ ≤ 40) (hsh : sh ≤ 1) (hm : most ≤ 5000) {r : Int × List (List Int)} (h : lookAll fr to_ sh hole most = some r) (w : World) :
    Calls Try.prog 75 #[.int .i64 (fr : Int), .int .i64 (to_ : Int), .int .i64 (sh : Int), .int .i64 hole, .int .i64 (most : Int)] w (AllPost fr to_ sh hole most r w) := by
  have hmk := fun w => mk_ints (placesOf fr to_ hole) (by unfold placesOf; split <;> omega) w
  have HN := Aside0.mk (show 1 ≤ fr ∧ fr ≤ to_ ∧ to_ ≤ 40 ∧ sh ≤ 1 ∧ most ≤ 5000 from ⟨hft.1, hft.2, hto, hsh, hm⟩)
  have HF := Aside0.mk h
  have HP := Aside0.mk (show (placesOf fr to_ hole) ≤ 100 by unfold placesOf; split <;> omega)
  have HL := Aside0.mk (look_new (w.alloc (.cells (Array.replicate (placesOf fr to_ hole) (Value.int .i64 0)) 3 (0, 0))) w.heap.size (placesOf fr to_ hole) fr to_ sh hole most)
  have HR := Aside0.mk ((blk_new w (placesOf fr to_ hole)).alloc (.cells #[.slice (some ⟨w.heap.size, 0, none⟩) (placesOf fr to_ hole) (placesOf fr to_ hole), .int .i64 (fr : Int), .int .i64 (to_ : Int), .int .i64 (sh : Int), .int .i64 hole, .int .i64 0, .int .i64 (most : Int), .int .i64 0, .slice none 0 0] 45 (0, 0)))
  have HB := Aside0.mk (below_alloc (below_alloc (Below.refl w.heap.size w) (.cells (Array.replicate (placesOf fr to_ hole) (Value.int .i64 0)) 3 (0, 0))) (.cells #[.slice (some ⟨w.heap.size, 0, none⟩) (placesOf fr to_ hole) (placesOf fr to_ hole), .int .i64 (fr : Int), .int .i64 (to_ : Int), .int .i64 (sh : Int), .int .i64 hole, .int .i64 0, .int .i64 (most : Int), .int .i64 0, .slice none 0 0] 45 (0, 0)))
  have hps : (w.alloc (.cells (Array.replicate (placesOf fr to_ hole) (Value.int .i64 0)) 3 (0, 0))).heap.size = w.heap.size + 1 := size_alloc _ _
  have LC := look_calls (B := w.heap.size) (G := w.heap.size + 1) (R := w.heap.size) (most := most) (hole := hole) (by omega) (by omega) (Nat.le_refl _) (by omega : fr ≤ to_ + 1) hto hsh hm 40 (List.replicate (placesOf fr to_ hole) 0) 0 0 [] (.slice none 0 0) r _ (by simpa using HP.out) (by decide) (by rw [← hps, List.length_replicate]; exact HL.out) HR.out (Kd.R_nil _ _ _ _ _) h
  have CALL := Aside0.mk LC
  clear hft hto hsh hm h hps LC
  have hw1 : wrap64 (2 * wrap64 (wrap64 ((to_ : Int) - (fr : Int)) + 1)) = 2 * ((to_ + 1 - fr : Nat) : Int) := by have := HN.out; unfold wrap64; omega
  have hw2 : wrap64 (2 * ((to_ + 1 - fr : Nat) : Int) + 1) = 2 * ((to_ + 1 - fr : Nat) : Int) + 1 := by have := HN.out; unfold wrap64; omega
  by_cases hh : hole ≥ 0
  · have ep : 2 * ((to_ + 1 - fr : Nat) : Int) + 1 = ((placesOf fr to_ hole : Nat) : Int) := by unfold placesOf; rw [if_pos hh]; omega
    replace hw2 := hw2.trans ep
    have b0 : decide (0 ≤ hole) = true := decide_eq_true hh
    clear ep hh
    go_enter Try.func75, Try.ntmps75
    go_wp2_with (first | ((with_reducible refine gate_callee (f := 84) rfl ?_); go_loud (refine goesL_ (some 32) rfl rfl Try.func84 (by kernel_rfl) rfl #[.pointer (some ⟨w.heap.size + 1, 0, none⟩)] rfl (by (try simp only [List.map_toArray, List.map_cons, List.map_nil]); first | done | rfl) ?_; refine (CALL.out).mono ?_; rintro e w5 ⟨rfl, v5, hl5, hr5, hs5, hb5⟩; refine ⟨_, rfl, ?_⟩; have HL5 := Aside0.mk hl5; have HS5 := Aside0.mk hs5; have HB5 := Aside0.mk hb5; clear hl5 hr5 hs5 hb5)))
    go_ret
    exact ⟨w.heap.size + 1, w.heap.size, v5, rfl, by omega, by have := HL5.out; rw [List.length_replicate] at this; exact this, HS5.out, HB.out.trans HB5.out⟩
  · have ep : 2 * ((to_ + 1 - fr : Nat) : Int) = ((placesOf fr to_ hole : Nat) : Int) := by unfold placesOf; rw [if_neg hh]; omega
    replace hw1 := hw1.trans ep
    have b0 : decide (0 ≤ hole) = false := decide_eq_false hh
    clear ep hh hw2
    go_enter Try.func75, Try.ntmps75
    go_wp2_with (first | ((with_reducible refine gate_callee (f := 84) rfl ?_); go_loud (refine goesL_ (some 32) rfl rfl Try.func84 (by kernel_rfl) rfl #[.pointer (some ⟨w.heap.size + 1, 0, none⟩)] rfl (by (try simp only [List.map_toArray, List.map_cons, List.map_nil]); first | done | rfl) ?_; refine (CALL.out).mono ?_; rintro e w5 ⟨rfl, v5, hl5, hr5, hs5, hb5⟩; refine ⟨_, rfl, ?_⟩; have HL5 := Aside0.mk hl5; have HS5 := Aside0.mk hs5; have HB5 := Aside0.mk hb5; clear hl5 hr5 hs5 hb5)))
    go_ret
    exact ⟨w.heap.size + 1, w.heap.size, v5, rfl, by omega, by have := HL5.out; rw [List.length_replicate] at this; exact this, HS5.out, HB.out.trans HB5.out⟩
end Go.Proofs.Ytkffdloophagaaa.Search
