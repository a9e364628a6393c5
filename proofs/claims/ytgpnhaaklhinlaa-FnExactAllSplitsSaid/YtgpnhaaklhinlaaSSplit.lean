/- The search for splits, which hands each one that is found to a function value: a contract over every function value that keeps the list. Conditions: none but those that each lemma states. -/
import Derived.Test.YtgpnhaaklhinlaaSShare
namespace Go.Proofs.Ytgpnhaaklhinlaa.Search
open Go.RowKit Go.Proofs.YtgpnhaaklhinlaaW.PrintWords Go.Proofs.YtgpnhaaklhinlaaW.PrintLast Go.Proofs.YtgpnhaaklhinlaaW.PrintMore
set_option linter.unusedVariables false
set_option linter.unusedSimpArgs false
section
variable {σ : Type}
/-- The second numbers b, b + 1, .., r of them, with the first number a. -/
def splitL (rec_ : List Bool → List (List Int) → σ → Option (σ × Bool)) (used : List Bool) (list : List (List Int)) (a : Nat) : Nat → Nat → σ → Option (σ × Bool)
  | 0, _, s => some (s, false)
  | r + 1, b, s =>
    if rdOf false used (b : Int) = true ∨ rdOf false used ((a + b : Nat) : Int) = true then splitL rec_ used list a r (b + 1) s
    else (rec_ (((used.set a true).set b true).set (a + b) true) (list ++ [[(a : Int), (b : Int), ((a + b : Nat) : Int)]]) s).bind fun q => if q.2 = true then some (q.1, true) else splitL rec_ used list a r (b + 1) q.1
/-- All splits; step is the function value. -/
def splitF (n : Nat) (step : σ → List (List Int) → Option (σ × Bool)) : Nat → List Bool → List (List Int) → σ → Option (σ × Bool)
  | 0, _, _, _ => none
  | k + 1, used, list, s =>
    if list.length = n then step s list
    else match firstF used 0 with
      | none => none
      | some a => splitL (splitF n step k) used list a (3 * n - 2 * a) (a + 1) s
end
/-- What a call of the search leaves. -/
def SplitPost {σ : Type} (B : Nat) (Inv : σ → World → (Nat → Prop) → Prop) (F : Nat → Prop) (v : Value) (m : Nat) (r : σ × Bool) (w : World) (e : Ending) (w' : World) : Prop := e = .returned (.bool r.2) ∧ ∃ F', Inv r.1 w' F' ∧ SFrame B F F' v m w w'
set_option maxHeartbeats 8000000 in
set_option maxRecDepth 100000 in
theorem split_step {σ : Type} {f : FuncId} {cap : Array Value} {Inv : σ → World → (Nat → Prop) → Prop} {step : σ → List (List Int) → Option (σ × Bool)} {B U n : Nat} (hC0 : ClosT Try.prog B f cap Inv step) (hBU : B ≤ U) (hn : n ≤ 5) (k : Nat)
    (IH : Aside0 (∀ (used : List Bool) (list : List (List Int)) (s : σ) (v : Value) (r : σ × Bool) (w : World) (F : Nat → Prop), used.length = 3 * n + 1 → list.length ≤ n → BlkB w U used → LV w (okS B U F) v list → Inv s w F → FB B F w → ¬ F U → B ≤ w.heap.size → splitF n step k used list s = some r →
      Calls Try.prog 103 #[.int .i64 (n : Int), .slice (some ⟨U, 0, none⟩) used.length used.length, v, .func (.func f) #[] cap] w (SplitPost B Inv F v list.length r w))) :
    ∀ (used : List Bool) (list : List (List Int)) (s : σ) (v : Value) (r : σ × Bool) (w : World) (F : Nat → Prop), used.length = 3 * n + 1 → list.length ≤ n → BlkB w U used → LV w (okS B U F) v list → Inv s w F → FB B F w → ¬ F U → B ≤ w.heap.size → splitF n step (k + 1) used list s = some r →
      Calls Try.prog 103 #[.int .i64 (n : Int), .slice (some ⟨U, 0, none⟩) used.length used.length, v, .func (.func f) #[] cap] w (SplitPost B Inv F v list.length r w) := by
  intro used list s v r w F hul hll hU hLV hI hF hnU hBW h
  have hC := Aside0.mk hC0
  have HU := Aside0.mk hU
  have HLV0 := Aside0.mk hLV
  have HI := Aside0.mk hI
  have HF := Aside0.mk hF
  have HNU := Aside0.mk hnU
  have HBW := Aside0.mk hBW
  have HL := Aside0.mk (show used.length = 3 * n + 1 ∧ list.length ≤ n ∧ n ≤ 5 from ⟨hul, hll, hn⟩)
  have HN := Aside0.mk (show B ≤ U ∧ B ≤ U from ⟨hBU, hBU⟩)
  have IDX := Aside0.mk (show slices_Index_bool_bool.f (used.length + 1) used false = some (match firstF used 0 with | none => -1 | some j => (j : Int)) from index_false used (by omega) used 0 (used.length + 1) rfl (by omega))
  obtain ⟨A, c, hv, hcap⟩ := hLV.slice
  subst hv
  have HLV := HLV0
  have HCAP := Aside0.mk hcap
  clear hC0 hBU hn hul hll hU hLV hI hF hnU hBW hcap
  simp only [splitF] at h
  by_cases hl : list.length = n
  · rw [if_pos hl] at h
    have HS := Aside0.mk h
    have b0 : ((list.length : Int) == (n : Int)) = true := beq_iff_eq.2 (by omega)
    have b1 : (list.length == n) = true := beq_iff_eq.2 hl
    clear h hl
    go_enter Try.func103, Try.ntmps103
    go_wp2_with (first | ((with_reducible refine gate_dst (N := 18) rfl ?_); refine goesC_ (some 18) rfl rfl hC.out.enters #[.slice A list.length c] rfl rfl (by (try simp only [List.map_toArray, List.map_cons, List.map_nil]); first | done | rfl) ?_; refine (hC.out.call s list r A c w F HS.out HI.out HF.out HBW.out (HLV.out.C (by have := HL.out; omega)) HCAP.out (by have := HL.out; omega)).mono ?_; rintro e w' ⟨rfl, F', hi, hf⟩; refine ⟨_, rfl, ?_⟩))
    go_ret
    exact ⟨rfl, F', hi, ⟨hf.below, hf.grows, fun k hk hF' _ => hf.rest k hk hF', fun g hg => by
      obtain ⟨o1, o2, cs, o3⟩ := HLV.out.own hg
      exact Pre.of_same o3 (hf.rest g o2 o1.2.1)⟩⟩
  · rw [if_neg hl] at h
    have b0 : ((list.length : Int) == (n : Int)) = false := beq_eq_false_iff_ne.2 (by omega)
    have b1 : (list.length == n) = false := beq_eq_false_iff_ne.2 hl
    have HLN := Aside0.mk hl
    clear hl
    cases hf : firstF used 0 with
    | none =>
      rw [hf] at h
      cases h
    | some at_ =>
      have hat := firstF_at used 0 at_ hf
      rw [hf] at h IDX
      obtain ⟨ax, hax⟩ : ∃ ax : Int, ax = (at_ : Int) := ⟨_, rfl⟩
      simp only [] at h IDX
      rw [← hax] at IDX
      obtain rfl : at_ = ax.toNat := by omega
      have HAX := Aside0.mk hax
      have HAT := Aside0.mk (show ax.toNat < used.length ∧ used[ax.toNat]? = some false from ⟨by omega, by simpa using hat.2.2⟩)
      have H := Aside0.mk h
      obtain ⟨M, hM⟩ : ∃ M : Int, wrap64 (3 * (n : Int)) = M := ⟨_, rfl⟩
      have HM := Aside0.mk (show M = 3 * (n : Int) by rw [← hM]; have := HL.out; unfold wrap64; omega)
      have HX0 := Aside0.mk (show wrap64 (ax + 1) = ax + 1 by have := HAT.out.1; have := HL.out; rw [hax]; unfold wrap64; omega)
      clear h hf hat hax
      go_enter Try.func103, Try.ntmps103
      go_wp2_with (first | ((with_reducible refine gate_callee (f := 117) rfl ?_); refine goesL_ (some 20) rfl rfl Try.func117 (by kernel_rfl) rfl #[.slice (some ⟨U, 0, none⟩) used.length used.length, .bool false] rfl (by (try simp only [List.map_toArray, List.map_cons, List.map_nil]); first | done | rfl) ?_; (with_reducible refine (slices_Index_bool_bool.calls (used.length + 1) _ _ used false _ _ ?side1 ?side2 IDX.out).mono ?_); (case side1 => exact HU.out.C (by have := HL.out; omega)); (case side2 => exact Nat.le_refl _); rintro e w' ⟨rfl, ⟨nd, rfl⟩⟩; refine ⟨_, rfl, ?_⟩))
      go_loopg [10] (3 * n + 2) (fun kq v10 w' => ∃ (x : Int) (s' : σ) (F1 : Nat → Prop), v10 = .int .i64 x ∧ Aside0 (ax + 1 ≤ x ∧ x ≤ 3 * (n : Int) + 1 ∧ kq + x.toNat = 3 * n + 3 + ax.toNat) ∧ Aside0 (splitL (splitF n step k) used list ax.toNat (3 * n + 1 - ax.toNat - x.toNat) x.toNat s' = some r) ∧ Aside0 (BlkB w' U used) ∧ Aside0 (Inv s' w' F1) ∧ Aside0 (FB B F1 w') ∧ Aside0 (¬ F1 U) ∧ Aside0 (SFrame B F F1 (.slice A list.length c) list.length w w'))
      case atStart => exact ⟨ax + 1, s, F, by rw [HX0.out], ⟨by have := HAX.out; have := HAT.out; have := HL.out; omega⟩, ⟨by rw [show 3 * n + 1 - ax.toNat - (ax + 1).toNat = 3 * n - 2 * ax.toNat by have := HAX.out; omega, show (ax + 1).toNat = ax.toNat + 1 by have := HAX.out; omega]; exact H.out⟩, HU, ⟨hC.out.keeps s w _ F HI.out (Nat.le_refl _) (fun _ _ _ => rfl)⟩, HF, HNU, ⟨⟨pw_below_drewN (Below.refl B w) _, fun k hk => ⟨.inl hk, (HF.out k hk).2⟩, fun _ _ _ _ => rfl, fun g hg => by
        obtain ⟨_, _, cs, o3⟩ := HLV.out.own hg
        exact Pre.of_same o3 rfl⟩⟩⟩
      case round =>
        obtain ⟨x, s1, F1, rfl, HX, HH, HU1, HI1, HF1, HNU1, HFR1⟩ := hrel
        cases gk with
        | zero => exact absurd HX.out (by have := HAX.out; have := HAT.out; have := HL.out; omega)
        | succ k1 =>
          obtain ⟨y, hy⟩ : ∃ y : Int, wrap64 (ax + x) = y := ⟨_, rfl⟩
          have HY := Aside0.mk (show y = ax + x by rw [← hy]; have := HX.out; have := HAX.out; have := HAT.out; have := HL.out; unfold wrap64; omega)
          obtain ⟨x1, hx1⟩ : ∃ x1 : Int, wrap64 (x + 1) = x1 := ⟨_, rfl⟩
          have HX1 := Aside0.mk (show x1 = x + 1 by rw [← hx1]; have := HX.out; have := HL.out; have := HAX.out; unfold wrap64; omega)
          by_cases hx : y ≤ M
          · have cx : decide (y ≤ M) = true := decide_eq_true hx
            have HTA := Aside0.mk (show ax.toNat < used.length ∧ x.toNat < used.length ∧ y.toNat < used.length by have := HY.out; have := HM.out; have := HX.out; have := HAX.out; have := HAT.out; have := HL.out; omega)
            have HNN := Aside0.mk (show ((ax.toNat : Nat) : Int) = ax ∧ ((x.toNat : Nat) : Int) = x ∧ ((y.toNat : Nat) : Int) = y ∧ y.toNat = ax.toNat + x.toNat by have := HY.out; have := HX.out; have := HAX.out; omega)
            have hh := HH.out
            rw [show 3 * n + 1 - ax.toNat - x.toNat = (3 * n - ax.toNat - x.toNat) + 1 by have := HY.out; have := HM.out; have := HX.out; have := HAX.out; omega, splitL, ← HNN.out.2.2.2, HNN.out.2.1, HNN.out.2.2.1, HNN.out.1] at hh
            have p1 : (0 ≤ x) = True := eq_true (by have := HX.out; have := HAX.out; omega)
            have q1 : (x < (used.length : Int)) = True := eq_true (by have := HTA.out; omega)
            have p2 : (0 ≤ y) = True := eq_true (by have := HY.out; have := HX.out; have := HAX.out; omega)
            have q2 : (y < (used.length : Int)) = True := eq_true (by have := HTA.out; omega)
            have p3 : (0 ≤ ax) = True := eq_true (by have := HAX.out; omega)
            have q3 : (ax < (used.length : Int)) = True := eq_true (by have := HTA.out; omega)
            have g1 := HU1.out.cell HTA.out.2.1
            have g2 := HU1.out.cell HTA.out.2.2
            rw [HNN.out.2.1] at g1
            rw [HNN.out.2.2.1] at g2
            have skip : ∀ (s1 : σ) (hs : splitL (splitF n step k) used list ax.toNat (3 * n - ax.toNat - x.toNat) (x.toNat + 1) s1 = some r), Aside0 (splitL (splitF n step k) used list ax.toNat (3 * n + 1 - ax.toNat - x1.toNat) x1.toNat s1 = some r) := fun s1 hs => ⟨by
              rw [show 3 * n + 1 - ax.toNat - x1.toNat = 3 * n - ax.toNat - x.toNat by have := HX1.out; have := HX.out; have := HAX.out; omega, show x1.toNat = x.toNat + 1 by have := HX1.out; have := HX.out; have := HAX.out; omega]
              exact hs⟩
            have SKIP := Aside0.mk skip
            have HXM := Aside0.mk hx
            clear hx skip
            cases hu1 : rdOf false used x with
            | true =>
              rw [hu1] at hh g1
              rw [if_pos (.inl rfl)] at hh
              have HS1 := SKIP.out s1 hh
              clear hh hu1
              go_wp2
              go_roundg k1
              case measure => have := HX.out; have := HAX.out; omega
              case rel => exact ⟨x1, s1, F1, by rw [hx1], ⟨by have := HX1.out; have := HX.out; have := HY.out; have := HM.out; have := HXM.out; have := HAX.out; omega⟩, HS1, HU1, HI1, HF1, HNU1, HFR1⟩
            | false =>
              rw [hu1] at hh g1
              cases hu2 : rdOf false used y with
              | true =>
                rw [hu2] at hh g2
                rw [if_pos (.inr rfl)] at hh
                have HS1 := SKIP.out s1 hh
                clear hh hu1 hu2
                go_wp2
                go_roundg k1
                case measure => have := HX.out; have := HAX.out; omega
                case rel => exact ⟨x1, s1, F1, by rw [hx1], ⟨by have := HX1.out; have := HX.out; have := HY.out; have := HM.out; have := HXM.out; have := HAX.out; omega⟩, HS1, HU1, HI1, HF1, HNU1, HFR1⟩
              | false =>
                rw [hu2] at hh g2
                rw [if_neg (by simp)] at hh
                obtain ⟨⟨s2, b2⟩, hrec, hh⟩ := Option.bind_eq_some_iff.1 hh
                simp only [] at hh
                have HFA := Aside0.mk (show used[ax.toNat]? = some false ∧ used[x.toNat]? = some false ∧ used[y.toNat]? = some false from ⟨HAT.out.2, by
                  have h1 := HTA.out.2.1
                  rw [List.getElem?_eq_getElem h1]
                  have h2 := hu1
                  rw [← HNN.out.2.1] at h2
                  simp only [rdOf, List.getD_eq_getElem?_getD, Int.toNat_natCast, List.getElem?_eq_getElem h1, Option.getD_some] at h2
                  rw [h2], by
                  have h1 := HTA.out.2.2
                  rw [List.getElem?_eq_getElem h1]
                  have h2 := hu2
                  rw [← HNN.out.2.2.1] at h2
                  simp only [rdOf, List.getD_eq_getElem?_getD, Int.toNat_natCast, List.getElem?_eq_getElem h1, Option.getD_some] at h2
                  rw [h2]⟩)
                have lvr : LV wr (okS B U F) (.slice A list.length c) list := HLV.out.keep (fun k h1 h2 h3 => HFR1.out.rest k h2 h1.2.1 h3) HFR1.out.own
                have lvb : LV wr (okS B U F1) (.slice A list.length c) list := by
                  refine (show LV wr (fun k => okS B U F k ∧ k < w.heap.size) (.slice A list.length c) list from ?_).mono (fun k h1 _ => ⟨h1.1.1, fun h => ?_, h1.1.2.2⟩)
                  · refine LV.keep (HLV.out.mono (fun k h1 h2 => ⟨h1, h2⟩)) (fun k h1 h2 h3 => HFR1.out.rest k h2 h1.1.2.1 h3) HFR1.out.own
                  · rcases (HFR1.out.grows k h).1 with h | h
                    · exact h1.1.2.1 h
                    · have := h1.2
                      omega
                have HVU := Aside0.mk (show ∀ g, (Value.slice A list.length c).ownBlock = some g → ¬ F1 g ∧ g ≠ U ∧ B ≤ g ∧ g < wr.heap.size from fun g hg => by
                  obtain ⟨o1, o2, _⟩ := lvb.own hg
                  exact ⟨o1.2.1, o1.2.2, o1.1, o2⟩)
                have HBR := Aside0.mk (show B ≤ wr.heap.size by have := HFR1.out.below.size; have := HBW.out; omega)
                have z1 := sets_size wr U ax.toNat x.toNat y.toNat (.bool true) (.bool true) (.bool true)
                have lvs : LV (((wr.setCell ⟨U, ax.toNat, none⟩ (.bool true)).setCell ⟨U, x.toNat, none⟩ (.bool true)).setCell ⟨U, y.toNat, none⟩ (.bool true)) (okS B U F1) (.slice A list.length c) list := lvb.same (fun k h1 _ => sets_other _ _ _ _ _ _ _ _ _ h1.2.2)
                have HLW := Aside0.mk ((lvs.alloc (.cells #[.int .i64 ax, .int .i64 x, .int .i64 y] 3 (0, 0))).alloc (.cells #[.slice (some ⟨wr.heap.size, 0, none⟩) 3 3] 22 (0, 0)))
                obtain ⟨W1, hW1⟩ : ∃ W1, W1 = (((wr.setCell ⟨U, ax.toNat, none⟩ (.bool true)).setCell ⟨U, x.toNat, none⟩ (.bool true)).setCell ⟨U, y.toNat, none⟩ (.bool true)) := ⟨_, rfl⟩
                rw [← hW1] at z1
                have hbb : Blk ((W1.alloc (.cells #[.int .i64 ax, .int .i64 x, .int .i64 y] 3 (0, 0))).alloc (.cells #[.slice (some ⟨wr.heap.size, 0, none⟩) 3 3] 22 (0, 0))) wr.heap.size [ax, x, y] := by
                  rw [← z1]
                  exact Blk.alloc (show Blk _ W1.heap.size [ax, x, y] from heap_alloc_new W1 _) _
                have hsb : ((W1.alloc (.cells #[.int .i64 ax, .int .i64 x, .int .i64 y] 3 (0, 0))).alloc (.cells #[.slice (some ⟨wr.heap.size, 0, none⟩) 3 3] 22 (0, 0))).heap[wr.heap.size + 1]? = some (.cells #[.slice (some ⟨wr.heap.size, 0, none⟩) 3 3] 22 (0, 0)) := by
                  have := heap_alloc2_new W1 (.cells #[.int .i64 ax, .int .i64 x, .int .i64 y] 3 (0, 0)) (.cells #[.slice (some ⟨wr.heap.size, 0, none⟩) 3 3] 22 (0, 0))
                  rw [z1] at this
                  exact this
                have hz2 : ((W1.alloc (.cells #[.int .i64 ax, .int .i64 x, .int .i64 y] 3 (0, 0))).alloc (.cells #[.slice (some ⟨wr.heap.size, 0, none⟩) 3 3] 22 (0, 0))).heap.size = wr.heap.size + 2 := by rw [size_alloc, size_alloc, z1]
                subst hW1
                have HBB := Aside0.mk hbb
                have HSB := Aside0.mk hsb
                have HZ2 := Aside0.mk hz2
                have HOB := Aside0.mk (show okS B U F1 wr.heap.size ∧ some wr.heap.size ≠ (Value.slice A list.length c).ownBlock ∧ ∀ k, ((((((wr.setCell ⟨U, ax.toNat, none⟩ (.bool true)).setCell ⟨U, x.toNat, none⟩ (.bool true)).setCell ⟨U, y.toNat, none⟩ (.bool true))).alloc (.cells #[.int .i64 ax, .int .i64 x, .int .i64 y] 3 (0, 0))).alloc (.cells #[.slice (some ⟨wr.heap.size, 0, none⟩) 3 3] 22 (0, 0))).heap.size ≤ k → okS B U F1 k from ⟨⟨HBR.out, fun h => by have := (HF1.out _ h).2; omega, fun h => by have := HU1.out.lt; omega⟩, fun h => by have := (HVU.out _ h.symm).2.2.2; omega, fun k hk => ⟨by have := HBR.out; omega, fun h => by have := (HF1.out _ h).2; omega, fun h => by have := HU1.out.lt; omega⟩⟩)
                have IHC := Aside0.mk (show ∀ (w3 : World) (v3 : Value), (BlkB w3 U (((used.set ax.toNat true).set x.toNat true).set y.toNat true) ∧ Inv s1 w3 F1 ∧ FB B F1 w3 ∧ B ≤ w3.heap.size ∧ Below B wr w3 ∧ wr.heap.size + 2 ≤ w3.heap.size ∧ (∀ k, k < wr.heap.size → k ≠ U → some k ≠ (Value.slice A list.length c).ownBlock → w3.heap[k]? = wr.heap[k]?) ∧ (∀ g, (Value.slice A list.length c).ownBlock = some g → Pre wr w3 g list.length)) → LV w3 (okS B U F1) v3 (list ++ [[ax, x, y]]) → Calls Try.prog 103 #[.int .i64 (n : Int), .slice (some ⟨U, 0, none⟩) used.length used.length, v3, .func (.func f) #[] cap] w3 (SplitPost B Inv F1 v3 (list ++ [[ax, x, y]]).length (s2, b2) w3) from fun w3 v3 d l => by
                  have := IH.out (((used.set ax.toNat true).set x.toNat true).set y.toNat true) (list ++ [[ax, x, y]]) s1 v3 (s2, b2) w3 F1 (by simp only [List.length_set]; exact HL.out.1) (by rw [List.length_append, List.length_singleton]; have := HLN.out; have := HL.out; omega) d.1 l d.2.1 d.2.2.1 HNU1.out d.2.2.2.1 hrec
                  simp only [List.length_set] at this
                  exact this)
                have f1_ := HU1.out.free ax.toNat
                have e1_ := HU1.out.cell HTA.out.1
                have S1 := HU1.out.set ax.toNat true
                have f2_ := S1.free x.toNat
                have e2_ := S1.cell (i := x.toNat) (by simpa using HTA.out.2.1)
                have S2 := S1.set x.toNat true
                have f3_ := S2.free y.toNat
                have e3_ := S2.cell (i := y.toNat) (by simpa using HTA.out.2.2)
                have HHH := Aside0.mk hh
                clear hu1 hu2 hrec lvr lvb lvs z1 hbb hsb hz2 S1 S2 hh
                cases b2 with
                | true =>
                  obtain rfl : (s2, true) = r := by have := HHH.out; simpa using this
                  go_wp2_with (first | ((with_reducible refine gate_builtin (b := .append) (xs := #[.tmp 56, .tmp 63]) rfl ?_); at_builtin; refine LV.wp_append rfl (.tmp 56) (.tmp 63) (by rfl) (by rfl) (by rfl) HLW.out (x := [ax, x, y]) rfl HBB.out HSB.out HOB.out.1 HOB.out.2.1 HOB.out.2.2 (by have := HL.out; omega) ?_; intro v3 w3 r1 r2 r3 r4; have DN := Aside0.mk (split_down hC.out (s := s1) (wr := wr) (w3 := w3) (F := F1) (v := .slice A list.length c) (v3 := v3) (used := used) (i := ax.toNat) (j := x.toNat) (l := y.toNat) (m := list.length) (x := ax) (y := x) (z := y) HU1.out HI1.out HF1.out HNU1.out HN.out.1 HBR.out HVU.out r2 r3); have R1 := Aside0.mk r1; have R4 := Aside0.mk (show v3.ownBlock = (Value.slice A list.length c).ownBlock ∨ ∃ g, v3.ownBlock = some g ∧ wr.heap.size ≤ g from r4.imp id (fun ⟨g, h1, h2⟩ => ⟨g, h1, by have := HZ2.out; omega⟩)); clear r1 r2 r3 r4) | ((with_reducible refine gate_callee (f := 103) rfl ?_); refine goesL_ (some 66) rfl rfl Try.func103 (by kernel_rfl) rfl #[.int .i64 (n : Int), .slice (some ⟨U, 0, none⟩) used.length used.length, v3, .func (.func f) #[] cap] rfl (by (try simp only [List.map_toArray, List.map_cons, List.map_nil]); first | done | rfl) ?_; refine (IHC.out w3 v3 DN.out R1.out).mono ?_; rintro e w4 ⟨rfl, F4, hi4, hs4⟩; refine ⟨_, rfl, ?_⟩; have UP := Aside0.mk (split_up hC.out (m := list.length) HBW.out HFR1.out HU1.out HF1.out HNU1.out HN.out.1 HVU.out HFA.out.1 HFA.out.2.1 HFA.out.2.2 DN.out.1 DN.out.2.2.2.2.1 DN.out.2.2.2.2.2.2.1 DN.out.2.2.2.2.2.2.2 R4.out (by simpa using hs4) hi4); have BU4 := UP.out.2.2.2.2.2; have h1_ := BU4.free ax.toNat; have h2_ := BU4.cell (i := ax.toNat) (by simpa using HTA.out.1); have BU5 := BU4.set ax.toNat false; have h3_ := BU5.free x.toNat; have h4_ := BU5.cell (i := x.toNat) (by simpa using HTA.out.2.1); have BU6 := BU5.set x.toNat false; have h5_ := BU6.free y.toNat; have h6_ := BU6.cell (i := y.toNat) (by simpa using HTA.out.2.2); clear BU4 BU5 BU6 hi4 hs4))
                  go_ret
                  exact ⟨rfl, F4, UP.out.2.1, UP.out.2.2.2.2.1⟩
                | false =>
                  have HS1 := SKIP.out s2 (by have := HHH.out; simpa using this)
                  go_wp2_with (first | ((with_reducible refine gate_builtin (b := .append) (xs := #[.tmp 56, .tmp 63]) rfl ?_); at_builtin; refine LV.wp_append rfl (.tmp 56) (.tmp 63) (by rfl) (by rfl) (by rfl) HLW.out (x := [ax, x, y]) rfl HBB.out HSB.out HOB.out.1 HOB.out.2.1 HOB.out.2.2 (by have := HL.out; omega) ?_; intro v3 w3 r1 r2 r3 r4; have DN := Aside0.mk (split_down hC.out (s := s1) (wr := wr) (w3 := w3) (F := F1) (v := .slice A list.length c) (v3 := v3) (used := used) (i := ax.toNat) (j := x.toNat) (l := y.toNat) (m := list.length) (x := ax) (y := x) (z := y) HU1.out HI1.out HF1.out HNU1.out HN.out.1 HBR.out HVU.out r2 r3); have R1 := Aside0.mk r1; have R4 := Aside0.mk (show v3.ownBlock = (Value.slice A list.length c).ownBlock ∨ ∃ g, v3.ownBlock = some g ∧ wr.heap.size ≤ g from r4.imp id (fun ⟨g, h1, h2⟩ => ⟨g, h1, by have := HZ2.out; omega⟩)); clear r1 r2 r3 r4) | ((with_reducible refine gate_callee (f := 103) rfl ?_); refine goesL_ (some 66) rfl rfl Try.func103 (by kernel_rfl) rfl #[.int .i64 (n : Int), .slice (some ⟨U, 0, none⟩) used.length used.length, v3, .func (.func f) #[] cap] rfl (by (try simp only [List.map_toArray, List.map_cons, List.map_nil]); first | done | rfl) ?_; refine (IHC.out w3 v3 DN.out R1.out).mono ?_; rintro e w4 ⟨rfl, F4, hi4, hs4⟩; refine ⟨_, rfl, ?_⟩; have UP := Aside0.mk (split_up hC.out (m := list.length) HBW.out HFR1.out HU1.out HF1.out HNU1.out HN.out.1 HVU.out HFA.out.1 HFA.out.2.1 HFA.out.2.2 DN.out.1 DN.out.2.2.2.2.1 DN.out.2.2.2.2.2.2.1 DN.out.2.2.2.2.2.2.2 R4.out (by simpa using hs4) hi4); have BU4 := UP.out.2.2.2.2.2; have h1_ := BU4.free ax.toNat; have h2_ := BU4.cell (i := ax.toNat) (by simpa using HTA.out.1); have BU5 := BU4.set ax.toNat false; have h3_ := BU5.free x.toNat; have h4_ := BU5.cell (i := x.toNat) (by simpa using HTA.out.2.1); have BU6 := BU5.set x.toNat false; have h5_ := BU6.free y.toNat; have h6_ := BU6.cell (i := y.toNat) (by simpa using HTA.out.2.2); clear BU4 BU5 BU6 hi4 hs4))
                  go_roundg k1
                  case measure => have := HX.out; have := HAX.out; omega
                  case rel => exact ⟨x1, s2, F4, (by first | rfl | rw [hx1]), ⟨by have := HX1.out; have := HX.out; have := HY.out; have := HM.out; have := HXM.out; have := HAX.out; omega⟩, HS1, ⟨UP.out.1⟩, ⟨UP.out.2.1⟩, ⟨UP.out.2.2.1⟩, ⟨UP.out.2.2.2.1⟩, ⟨UP.out.2.2.2.2.1⟩⟩
          · have cx : decide (y ≤ M) = false := decide_eq_false hx
            have hh := HH.out
            rw [show 3 * n + 1 - ax.toNat - x.toNat = 0 by have := HY.out; have := HM.out; have := HX.out; have := HAX.out; omega, splitL] at hh
            obtain rfl := Option.some.inj hh
            clear hh hx
            go_wp2
            go_ret
            exact ⟨rfl, F1, HI1.out, HFR1.out⟩
theorem split_calls {σ : Type} {f : FuncId} {cap : Array Value} {Inv : σ → World → (Nat → Prop) → Prop} {step : σ → List (List Int) → Option (σ × Bool)} {B U n : Nat} (hC0 : ClosT Try.prog B f cap Inv step) (hBU : B ≤ U) (hn : n ≤ 5) : ∀ (k : Nat) (used : List Bool) (list : List (List Int)) (s : σ) (v : Value) (r : σ × Bool) (w : World) (F : Nat → Prop), used.length = 3 * n + 1 → list.length ≤ n → BlkB w U used → LV w (okS B U F) v list → Inv s w F → FB B F w → ¬ F U → B ≤ w.heap.size → splitF n step k used list s = some r →
      Calls Try.prog 103 #[.int .i64 (n : Int), .slice (some ⟨U, 0, none⟩) used.length used.length, v, .func (.func f) #[] cap] w (SplitPost B Inv F v list.length r w) := by
  intro k
  induction k with
  | zero => intro used list s v r w F _ _ _ _ _ _ _ _ h; simp [splitF] at h
  | succ k ih => exact split_step hC0 hBU hn k ⟨ih⟩
end Go.Proofs.Ytgpnhaaklhinlaa.Search
