/- The search for splits from its beginning; counting them. Conditions: none but those that each lemma states. -/
import Derived.Test.YtkffdloophagaaaSSplit
import Derived.Test.YtkffdloophagaaaSVar
namespace Go.Proofs.Ytkffdloophagaaa.Search
open Go.RowKit Go.Proofs.YtkffdloophagaaaW.PrintWords Go.Proofs.YtkffdloophagaaaW.PrintLast Go.Proofs.YtkffdloophagaaaW.PrintMore
set_option linter.unusedVariables false
set_option linter.unusedSimpArgs false
theorem infoBool : (Try.prog.info? 4).map (fun i => (i.zero, i.size, i.bytes)) = some (some (.bool false), 1, 1) := by kernel_rfl
theorem made_false (n : Nat) : madeCells (Value.bool false).cells (n * 1) = Array.replicate n (Value.bool false) := by
  apply Array.ext
  · simp [madeCells]
  · intro i h1 h2
    have h3 : i % 1 = 0 := by omega
    simp [madeCells, Value.cells, h3]
theorem mk_bools (n : Nat) (h1 : n ≤ 100) (w : World) : (Instr.makeSlice 65 (.int .i64 (n : Int)) (.int .i64 (n : Int))).run Try.prog w = .ok (.slice (some ⟨w.heap.size, 0, none⟩) n n) (w.alloc (.cells (Array.replicate n (Value.bool false)) 4 (0, 0))) := by
  have e := infoBool
  cases hq : Try.prog.info? 4 with
  | none => simp [hq] at e
  | some i =>
    simp [hq] at e
    rw [run_make (P := Try.prog) (w := w) 65 4 i (.bool false) Try.underlying65 hq e.1 .i64 .i64 n n (by omega) (Int.le_refl _) (by rw [e.2.2]; omega) (by omega), e.2.1, Int.toNat_natCast, made_false]
/-- The numbers that are used when a search for splits begins: 0 alone. -/
def used0 (n : Nat) : List Bool := true :: List.replicate (3 * n) false
theorem used0_len (n : Nat) : (used0 n).length = 3 * n + 1 := by simp [used0]
theorem used0_new (w : World) (n len : Nat) (h : len = 3 * n + 1) : BlkB (w.alloc (.cells ((Array.replicate len (Value.bool false)).setIfInBounds 0 (.bool true)) 4 (0, 0))) w.heap.size (used0 n) := by
  subst h
  unfold BlkB
  rw [heap_alloc_new]
  congr 2
  apply Array.ext'
  simp [used0, List.replicate_succ]
set_option maxHeartbeats 8000000 in
set_option maxRecDepth 100000 in
theorem each_calls {σ : Type} {f : FuncId} {cap : Array Value} {Inv : σ → World → (Nat → Prop) → Prop} {step : σ → List (List Int) → Option (σ × Bool)} {B n : Nat} (hC : ClosT Try.prog B f cap Inv step) (hn1 : 1 ≤ n) (hn : n ≤ 5) (k : Nat) (s : σ) (r : σ × Bool) (w : World) (F : Nat → Prop) (hI : Inv s w F) (hF : FB B F w) (hB : B ≤ w.heap.size) (h : splitF n step k (used0 n) [] s = some r) :
    Calls Try.prog 71 #[.int .i64 (n : Int), .func (.func f) #[] cap] w fun e w' => e = .returned (.tuple #[]) ∧ (∃ F', Inv r.1 w' F' ∧ ∀ k, F' k → (F k ∨ w.heap.size ≤ k) ∧ k < w'.heap.size) ∧ Below B w w' := by
  obtain ⟨len, hlen⟩ : ∃ len, len = 3 * n + 1 := ⟨_, rfl⟩
  have hmk := mk_bools len (by omega)
  have hw : wrap64 (wrap64 (3 * (n : Int)) + 1) = (len : Int) := by unfold wrap64; omega
  have hb := used0_new w n len hlen
  obtain ⟨W1, hW1⟩ : ∃ W1, W1 = w.alloc (.cells ((Array.replicate len (Value.bool false)).setIfInBounds 0 (.bool true)) 4 (0, 0)) := ⟨_, rfl⟩
  rw [← hW1] at hb
  have hbl : Below w.heap.size w W1 := by rw [hW1]; exact below_alloc (Below.refl _ _) _
  have hsz : W1.heap.size = w.heap.size + 1 := by rw [hW1, size_alloc]
  have hnF : ¬ F w.heap.size := fun hk => by have := (hF _ hk).2; omega
  have FC := split_calls hC (U := w.heap.size) (n := n) hB hn k (used0 n) [] s (.slice none 0 0) r W1 F (used0_len n) (by simp) hb (LV.nil _ _) (hC.keeps s w W1 F hI (by omega) (fun k hk hlt => hbl.block k hlt)) (fun k hk => ⟨(hF k hk).1, by have := (hF k hk).2; omega⟩) hnF (by omega) h
  rw [used0_len, ← hlen] at FC
  have BB := Aside0.mk (show Below B w W1 from below_wk hbl hB)
  have HS := Aside0.mk hsz
  have HBW := Aside0.mk hB
  subst hW1
  have HFC := Aside0.mk FC
  have p1 : (0 < (len : Int)) = True := eq_true (by omega)
  have p2 : (0 < len) = True := eq_true (by omega)
  clear hn1 hn hI hF hB h hlen hb hbl hsz hnF FC
  go_enter Try.func71, Try.ntmps71
  go_wp2_with (first | ((with_reducible refine gate_callee (f := 95) rfl ?_); go_loud (refine goesL_ (some 14) rfl rfl Try.func95 (by kernel_rfl) rfl #[.int .i64 (n : Int), .slice (some ⟨w.heap.size, 0, none⟩) len len, .slice none 0 0, .func (.func f) #[] cap] rfl (by (try simp only [List.map_toArray, List.map_cons, List.map_nil]); first | done | rfl) ?_); go_loud (refine (HFC.out).mono ?_); rintro e w5 ⟨rfl, F', hi, hf⟩; refine ⟨_, rfl, ?_⟩))
  go_end0
  exact ⟨rfl, ⟨F', hi, fun k hk => ⟨(hf.grows k hk).1.imp id (fun h => by have := HS.out; omega), (hf.grows k hk).2⟩⟩, BB.out.trans hf.below⟩
/-! ### Counting -/
def cstepT (c : Int) (_ : List (List Int)) : Option (Int × Bool) := some (wrap64 (c + 1), false)
def InvCT (C : Nat) (c : Int) (w : World) (F : Nat → Prop) : Prop := F C ∧ Var w C c
set_option maxRecDepth 100000 in
theorem countT_clos {B C : Nat} : ClosT Try.prog B 72 #[.pointer (some ⟨C, 0, none⟩)] (InvCT C) cstepT where
  enters := ⟨_, Try.func72, by kernel_rfl, by kernel_rfl⟩
  keeps := fun s w w' F h hs hk => ⟨h.1, (hk C h.1 h.2.lt).trans h.2⟩
  call := fun s xs r A c w F hst h hF hB hx hc hl => by
    obtain rfl : (wrap64 (s + 1), false) = r := by unfold cstepT at hst; exact Option.some.inj hst
    have HH := Aside0.mk h
    have hc0 := h.2.cell
    have hf0 := h.2.free
    have HF := Aside0.mk hF
    clear h hF hB hx hc hl hst
    go_enter Try.func72, Try.ntmps72
    go_wp2
    go_ret
    refine ⟨rfl, F, ⟨HH.out.1, HH.out.2.set _⟩, ⟨(Below.refl B w).setCell (p := ⟨C, 0, none⟩) (HF.out C HH.out.1).1 _, fun k hk => ⟨.inl hk, by have := (HF.out k hk).2; simp [World.setCell]; omega⟩, fun k _ hk => heap_setCell_other _ _ _ _ (fun e => hk (e ▸ HH.out.1))⟩⟩
/-- The count of all splits. -/
def countT (n : Nat) : Option Int := (splitF n cstepT 10 (used0 n) [] 0).map (·.1)
theorem countSplits {n : Nat} {c : Int} {w : World} {C : Nat} (hn1 : 1 ≤ n) (hn : n ≤ 5) (hC : w.heap.size ≤ C) (h : countT n = some c) (W : World) (hv : Var W C 0) (hb : Below w.heap.size w W) :
    Calls Try.prog 71 #[.int .i64 (n : Int), .func (.func 72) #[] #[.pointer (some ⟨C, 0, none⟩)]] W fun e w' => e = .returned (.tuple #[]) ∧ Var w' C c ∧ Below w.heap.size w w' := by
  obtain ⟨r, hr, rfl⟩ := Option.map_eq_some_iff.1 h
  refine (each_calls (B := w.heap.size) countT_clos hn1 hn 10 0 r W (fun k => k = C) ⟨rfl, hv⟩ (fun k hk => ⟨by omega, by rw [hk]; exact hv.lt⟩) hb.size hr).mono ?_
  rintro e w' ⟨rfl, ⟨F', hi, _⟩, hbb⟩
  exact ⟨rfl, hi.2, hb.trans hbb⟩
end Go.Proofs.Ytkffdloophagaaa.Search
