/- The search for splits from its beginning. Conditions: none but those that each lemma states. -/
import Derived.Test.YtgpnhaaklhinlaaSSplit
import Derived.Test.YtgpnhaaklhinlaaSSplitB
namespace Go.Proofs.Ytgpnhaaklhinlaa.Search
open Go.RowKit Go.Proofs.YtgpnhaaklhinlaaW.PrintWords Go.Proofs.YtgpnhaaklhinlaaW.PrintLast Go.Proofs.YtgpnhaaklhinlaaW.PrintMore
set_option linter.unusedVariables false
set_option linter.unusedSimpArgs false
/-- The numbers that are used when a search for splits begins: 0 alone. -/
def used0 (n : Nat) : List Bool := true :: List.replicate (3 * n) false
theorem used0_len (n : Nat) : (used0 n).length = 3 * n + 1 := by simp [used0]
theorem used0_new (w : World) (n len : Nat) (h : len = 3 * n + 1) : BlkB (w.alloc (.cells ((Array.replicate len (Value.bool false)).setIfInBounds 0 (.bool true)) 4 (0, 0))) w.heap.size (used0 n) := by
  subst h
  unfold BlkB
  rw [heap_alloc_new]
  congr 2
  apply Array.ext'
  simp [used0, List.replicate_succ]
set_option maxHeartbeats 8000000 in
set_option maxRecDepth 100000 in
theorem each_calls {σ : Type} {f : FuncId} {cap : Array Value} {Inv : σ → World → (Nat → Prop) → Prop} {step : σ → List (List Int) → Option (σ × Bool)} {B n : Nat} (hC : ClosT Try.prog B f cap Inv step) (hn1 : 1 ≤ n) (hn : n ≤ 5) (k : Nat) (s : σ) (r : σ × Bool) (w : World) (F : Nat → Prop) (hI : Inv s w F) (hF : FB B F w) (hB : B ≤ w.heap.size) (h : splitF n step k (used0 n) [] s = some r) :
    Calls Try.prog 72 #[.int .i64 (n : Int), .func (.func f) #[] cap] w fun e w' => e = .returned (.tuple #[]) ∧ (∃ F', Inv r.1 w' F' ∧ ∀ k, F' k → (F k ∨ w.heap.size ≤ k) ∧ k < w'.heap.size) ∧ Below B w w' := by
  obtain ⟨len, hlen⟩ : ∃ len, len = 3 * n + 1 := ⟨_, rfl⟩
  have hmk := mk_bools len (by omega)
  have hw : wrap64 (wrap64 (3 * (n : Int)) + 1) = (len : Int) := by unfold wrap64; omega
  have hb := used0_new w n len hlen
  obtain ⟨W1, hW1⟩ : ∃ W1, W1 = w.alloc (.cells ((Array.replicate len (Value.bool false)).setIfInBounds 0 (.bool true)) 4 (0, 0)) := ⟨_, rfl⟩
  rw [← hW1] at hb
  have hbl : Below w.heap.size w W1 := by rw [hW1]; exact below_alloc (Below.refl _ _) _
  have hsz : W1.heap.size = w.heap.size + 1 := by rw [hW1, size_alloc]
  have hnF : ¬ F w.heap.size := fun hk => by have := (hF _ hk).2; omega
  have FC := split_calls hC (U := w.heap.size) (n := n) hB hn k (used0 n) [] s (.slice none 0 0) r W1 F (used0_len n) (by simp) hb (LV.nil _ _) (hC.keeps s w W1 F hI (by omega) (fun k hk hlt => hbl.block k hlt)) (fun k hk => ⟨(hF k hk).1, by have := (hF k hk).2; omega⟩) hnF (by omega) h
  rw [used0_len, ← hlen] at FC
  have BB := Aside0.mk (show Below B w W1 from below_wk hbl hB)
  have HS := Aside0.mk hsz
  have HBW := Aside0.mk hB
  subst hW1
  have HFC := Aside0.mk FC
  have p1 : (0 < (len : Int)) = True := eq_true (by omega)
  have p2 : (0 < len) = True := eq_true (by omega)
  clear hn1 hn hI hF hB h hlen hb hbl hsz hnF FC
  go_enter Try.func72, Try.ntmps72
  go_wp2_with (first | ((with_reducible refine gate_callee (f := 103) rfl ?_); go_loud (refine goesL_ (some 14) rfl rfl Try.func103 (by kernel_rfl) rfl #[.int .i64 (n : Int), .slice (some ⟨w.heap.size, 0, none⟩) len len, .slice none 0 0, .func (.func f) #[] cap] rfl (by (try simp only [List.map_toArray, List.map_cons, List.map_nil]); first | done | rfl) ?_); go_loud (refine (HFC.out).mono ?_); rintro e w5 ⟨rfl, F', hi, hf⟩; refine ⟨_, rfl, ?_⟩))
  go_end0
  exact ⟨rfl, ⟨F', hi, fun k hk => ⟨(hf.grows k hk).1.imp id (fun h => by have := HS.out; omega), (hf.grows k hk).2⟩⟩, BB.out.trans hf.below⟩
end Go.Proofs.Ytgpnhaaklhinlaa.Search
