/- Words for the search: rows in blocks, function values. Conditions: none but those that each lemma states. -/
import Derived.Test.YtgpnhaaklhinlaaSIndex
namespace Go.Proofs.Ytgpnhaaklhinlaa.Search
open Go.RowKit Go.Proofs.YtgpnhaaklhinlaaW.PrintWords Go.Proofs.YtgpnhaaklhinlaaW.PrintLast Go.Proofs.YtgpnhaaklhinlaaW.PrintMore
set_option linter.unusedVariables false
set_option linter.unusedSimpArgs false
/-- A block that is a row of whole numbers, to its end. -/
def Blk (w : World) (g : Nat) (xs : List Int) : Prop := w.heap[g]? = some (.cells (xs.map (fun x => Value.int .i64 x)).toArray 3 (0, 0))
theorem Blk.cell {w : World} {g : Nat} {xs : List Int} (h : Blk w g xs) {i : Nat} (hi : i < xs.length) : w.cell? ⟨g, i, none⟩ = some (.int .i64 (rd xs (i : Int))) := by
  rw [cell_of_row w g i _ 3 (0, 0) h]
  simp [rd, List.getD_eq_getElem?_getD, hi]
theorem Blk.free {w : World} {g : Nat} {xs : List Int} (h : Blk w g xs) (i : Nat) : w.frozen? ⟨g, i, none⟩ = false := frozen_of_row w g i _ 3 h
theorem Blk.lt {w : World} {g : Nat} {xs : List Int} (h : Blk w g xs) : g < w.heap.size := lt_of_block h
theorem Blk.set {w : World} {g : Nat} {xs : List Int} (h : Blk w g xs) (i : Nat) (x : Int) : Blk (w.setCell ⟨g, i, none⟩ (.int .i64 x)) g (xs.set i x) := by
  unfold Blk
  rw [heap_setCell_same w g i _ 3 _ h]
  simp [List.map_set]
theorem Blk.other {w : World} {g : Nat} {xs : List Int} (h : Blk w g xs) {p : Addr} {v : Value} (hne : g ≠ p.block) : Blk (w.setCell p v) g xs := (heap_setCell_other w p g v hne).trans h
theorem Blk.C {w : World} {g : Nat} {xs : List Int} (h : Blk w g xs) (hl : xs.length ≤ 9223372036854775807) : Kd.C (Kd.int .i64) w (some ⟨g, 0, none⟩) xs.length xs := by
  refine Kd.C_of_reads (d := (0 : Int)) (h1 := fun _ => rfl) ⟨rfl, hl, fun hn => ⟨⟨g, 0, none⟩, rfl, fun j hj => ?_⟩⟩
  have e : (⟨g, 0, none⟩ : Addr).add j = ⟨g, j, none⟩ := by
    unfold Addr.add
    split <;> simp_all
  rw [e]
  exact h.cell hj
/-- The first free place, counted from i on. -/
def firstFree : List Int → Nat → Option Nat
  | [], _ => none
  | x :: t, i => if -1 = x then some i else firstFree t (i + 1)
theorem firstFree_lt : ∀ (t : List Int) (i at_ : Nat), firstFree t i = some at_ → i ≤ at_ ∧ at_ < i + t.length
  | [], i, at_, h => by simp [firstFree] at h
  | x :: t, i, at_, h => by
    unfold firstFree at h
    simp only [List.length_cons]
    split at h
    · injection h with h; omega
    · have := firstFree_lt t (i + 1) at_ h; omega
theorem firstFree_at : ∀ (t : List Int) (i at_ : Nat), firstFree t i = some at_ → t[at_ - i]? = some (-1)
  | [], i, at_, h => by simp [firstFree] at h
  | x :: t, i, at_, h => by
    have hl := firstFree_lt (x :: t) i at_ h
    unfold firstFree at h
    split at h
    · injection h with h
      subst h
      rename_i hx
      simp [← hx]
    · have h1 := firstFree_at t (i + 1) at_ h
      have h2 := firstFree_lt t (i + 1) at_ h
      rw [show at_ - i = (at_ - (i + 1)) + 1 by omega]
      simpa using h1
theorem wsucc {i : Nat} (h : i < 4611686018427387904) : wrap64 ((i : Int) + 1) = ((i + 1 : Nat) : Int) := by unfold wrap64; omega
theorem wsucc' {j : Int} (h : 0 ≤ j) (h1 : j < 4611686018427387904) : wrap64 (j + 1) = j + 1 := by unfold wrap64; omega
theorem wsame {n : Int} (h0 : -9223372036854775808 ≤ n) (h1 : n ≤ 9223372036854775807) : wrap64 n = n := by unfold wrap64; omega
theorem rdnat {xs : List Int} {i : Nat} {x : Int} {t : List Int} (h : xs.drop i = x :: t) : i < xs.length ∧ rd xs (i : Int) = x ∧ xs.drop (i + 1) = t := by
  have h1 : i < xs.length := by
    rcases Nat.lt_or_ge i xs.length with h' | h'
    · exact h'
    · rw [List.drop_eq_nil_of_le h'] at h; cases h
  refine ⟨h1, ?_, by rw [← List.drop_drop, h]; rfl⟩
  have : (xs.drop i)[0]? = some x := by rw [h]; rfl
  rw [List.getElem?_drop, Nat.add_zero] at this
  simp [rd, List.getD_eq_getElem?_getD, this]
theorem index_free (xs : List Int) (hx : xs.length ≤ 1048576) : ∀ (t : List Int) (i k : Nat), xs.drop i = t → t.length < k → slices_Index_int_int.l0 k xs (-1) xs.length (i : Int) = some (match firstFree t i with | none => -1 | some j => (j : Int))
  | [], i, 0, h, hk => absurd hk (by simp)
  | [], i, k + 1, h, hk => by
    have h1 : xs.length ≤ i := by simpa using h
    rw [slices_Index_int_int.l0, if_neg (by omega)]
    rfl
  | x :: t, i, 0, h, hk => absurd hk (by simp)
  | x :: t, i, k + 1, h, hk => by
    obtain ⟨h1, h2, h3⟩ := rdnat h
    simp only [List.length_cons] at hk
    rw [slices_Index_int_int.l0, if_pos (by omega), if_pos (by omega), if_pos (by omega), h2, wsucc (by omega)]
    by_cases c : -1 = x
    · rw [if_pos c]
      simp [firstFree, c]
    · rw [if_neg c, index_free xs hx t (i + 1) k h3 (by omega)]
      simp [firstFree, c]
section
variable {σ : Type}
/-- The numbers that are left, one after another, at the free place at_. -/
def fillL (sh : Nat) (rec_ : List Int → List Int → σ → Option (σ × Bool)) (row left : List Int) (at_ : Nat) : List Int → Nat → σ → Option (σ × Bool)
  | [], _, s => some (s, false)
  | n :: t, i, s =>
    if n = 0 ∨ ¬ (at_ : Int) + n + (sh : Int) < (row.length : Int) ∨ ¬ rd row ((at_ : Int) + n + (sh : Int)) = -1 then fillL sh rec_ row left at_ t (i + 1) s
    else (rec_ ((row.set at_ n).set ((at_ : Int) + n + (sh : Int)).toNat n) (left.set i 0) s).bind fun r => if r.2 = true then some (r.1, true) else fillL sh rec_ row left at_ t (i + 1) r.1
/-- Fills the free places in all ways; step is the function value. -/
def fillF (sh : Nat) (step : σ → List Int → σ × Bool) : Nat → List Int → List Int → σ → Option (σ × Bool)
  | 0, _, _, _ => none
  | k + 1, row, left, s =>
    match firstFree row 0 with
    | none => some (step s row)
    | some at_ => fillL sh (fillF sh step k) row left at_ left 0 s
/-- What a call keeps: the world below B, and the rows' blocks. -/
structure KeepW (B R T L : Nat) (w w' : World) : Prop where
  below : Below B w w'
  row : w'.heap[R]? = w.heap[R]?
  told : w'.heap[T]? = w.heap[T]?
  left : w'.heap[L]? = w.heap[L]?
theorem KeepW.refl (B R T L : Nat) (w : World) : KeepW B R T L w w := ⟨Below.refl B w, rfl, rfl, rfl⟩
/-- What a function value does to its state; Inv says how the state lies in memory, apart from the row's and the left numbers' blocks. -/
structure Clos (P : Program) (B R T L : Nat) (f : FuncId) (cap : Array Value) (Inv : σ → World → Prop) (step : σ → List Int → σ × Bool) (len : Nat) (live : σ → Prop) : Prop where
  lives : ∀ s xs, live s → (step s xs).2 = false → live (step s xs).1
  enters : ∃ fn, P.funcs[f]? = some fn ∧ (fn.name == "runtime.NumGoroutine") = false ∧ fn.body.isSome = true
  keeps : ∀ s w w', Inv s w → w.heap.size ≤ w'.heap.size → (∀ k, k ≠ R → k ≠ L → k < w.heap.size → w'.heap[k]? = w.heap[k]?) → Inv s w'
  call : ∀ s xs w, live s → Inv s w → Blk w R xs → xs.length = len → B ≤ w.heap.size → Calls P f (#[.slice (some ⟨R, 0, none⟩) len len] ++ cap) w fun e w' => e = .returned (.bool (step s xs).2) ∧ Inv (step s xs).1 w' ∧ KeepW B R T L w w'
end
theorem fillL_live {σ : Type} {step : σ → List Int → σ × Bool} {live : σ → Prop} (sh : Nat) (rec_ : List Int → List Int → σ → Option (σ × Bool)) (hr : ∀ row left s r, rec_ row left s = some r → live s → r.2 = false → live r.1) (row left : List Int) (at_ : Nat) : ∀ (t : List Int) (i : Nat) (s : σ) (r : σ × Bool), fillL sh rec_ row left at_ t i s = some r → live s → r.2 = false → live r.1
  | [], i, s, r, h, hs, hf => by
    rw [fillL] at h
    obtain rfl := Option.some.inj h
    exact hs
  | n :: t, i, s, r, h, hs, hf => by
    rw [fillL] at h
    split at h
    · exact fillL_live (step := step) sh rec_ hr row left at_ t (i + 1) s r h hs hf
    · obtain ⟨q, hq, h⟩ := Option.bind_eq_some_iff.1 h
      split at h
      · obtain rfl := Option.some.inj h
        exact absurd hf (by simp)
      · rename_i c
        exact fillL_live (step := step) sh rec_ hr row left at_ t (i + 1) q.1 r h (hr _ _ _ _ hq hs (by simpa using c)) hf
theorem fillF_live {σ : Type} {step : σ → List Int → σ × Bool} {live : σ → Prop} (hl : ∀ s xs, live s → (step s xs).2 = false → live (step s xs).1) (sh : Nat) : ∀ (k : Nat) (row left : List Int) (s : σ) (r : σ × Bool), fillF sh step k row left s = some r → live s → r.2 = false → live r.1
  | 0, row, left, s, r, h, hs, hf => by simp [fillF] at h
  | k + 1, row, left, s, r, h, hs, hf => by
    rw [fillF] at h
    cases hz : firstFree row 0 with
    | none =>
      rw [hz] at h
      obtain rfl := Option.some.inj h
      exact hl s row hs hf
    | some at_ =>
      rw [hz] at h
      exact fillL_live (step := step) sh _ (fun row left s r h1 h2 h3 => fillF_live hl sh k row left s r h1 h2 h3) row left at_ left 0 s r h hs hf
theorem restore2 {row : List Int} {a b : Nat} {n v : Int} (ha : row[a]? = some v) (hb : row[b]? = some v) : (((row.set a n).set b n).set a v).set b v = row := by
  obtain ⟨la, ea⟩ := List.getElem?_eq_some_iff.1 ha
  obtain ⟨lb, eb⟩ := List.getElem?_eq_some_iff.1 hb
  apply List.ext_getElem?
  intro i
  simp only [List.getElem?_set, List.length_set]
  by_cases c : b = i
  · subst c
    rw [if_pos rfl, if_pos lb, hb]
  · rw [if_neg c]
    by_cases d : a = i
    · subst d
      rw [if_pos rfl, if_pos la, ha]
    · rw [if_neg d, if_neg c, if_neg d]
theorem restore1 {left : List Int} {a : Nat} {n z : Int} (ha : left[a]? = some n) : (left.set a z).set a n = left := by
  obtain ⟨la, ea⟩ := List.getElem?_eq_some_iff.1 ha
  rw [List.set_set, ← ea]
  exact List.set_getElem_self la
theorem keep3 {wr : World} {B R L i j m : Nat} (hR : B ≤ R) (hL : B ≤ L) (u v x : Value) : Below B wr (((wr.setCell ⟨R, i, none⟩ u).setCell ⟨R, j, none⟩ v).setCell ⟨L, m, none⟩ x) :=
  (((Below.refl B wr).setCell (p := ⟨R, i, none⟩) hR u).setCell (p := ⟨R, j, none⟩) hR v).setCell (p := ⟨L, m, none⟩) hL x
theorem keep3' {wr : World} {B R L i j m : Nat} (hR : B ≤ R) (hL : B ≤ L) (u v x : Value) : Below B wr (((wr.setCell ⟨L, m, none⟩ x).setCell ⟨R, i, none⟩ u).setCell ⟨R, j, none⟩ v) :=
  (((Below.refl B wr).setCell (p := ⟨L, m, none⟩) hL x).setCell (p := ⟨R, i, none⟩) hR u).setCell (p := ⟨R, j, none⟩) hR v
theorem goesC_ {P : Program} {ops : Array Oper} {Q : Exit → Act → World → Prop} {rest : List Oper} {oi : Oper} {a : Act} {w : World} (N : Option Tmp) (hd : oi.dst = N) (hg : oi.guard = none) {f : FuncId} {cap : Array Value} (hen : ∃ fn, P.funcs[f]? = some fn ∧ (fn.name == "runtime.NumGoroutine") = false ∧ fn.body.isSome = true) {ar : Array Operand} {ts : Array TypeId} {x : Operand} (args : Array Value)
    (hop : oi.op = .call { callee := .value x, args := ar, argTypes := ts }) (hx : a.eval x = .func (.func f) #[] cap) (hargs : ar.map a.eval = args)
    (h : Calls P f (args ++ cap) w fun e w' => ∃ v, e = .returned v ∧ wpList P ops Q rest (a.put N v) w') : wpList P ops Q (oi :: rest) a w := by
  obtain ⟨fn, hf, hname, hb⟩ := hen
  refine wpList_plain hg fun K hK => ?_
  have he := enters_ hf hname hb (args ++ cap) w
  have hrun : (execOp a.eval oi).run P w = .ok (.enter f (args ++ cap)) w := by
    unfold execOp
    simp [hop, resolve, hx, Deferred.ofValue, invoke, hargs, he]
  unfold Oper.wp
  rw [hrun, Oper.upon_enter]
  refine h.mono fun e w'' hh => ?_
  obtain ⟨v, rfl, hk⟩ := hh
  subst hd
  exact hK _ _ hk
end Go.Proofs.Ytgpnhaaklhinlaa.Search
