/- What both searches find, as lists of rows. Conditions: none but those that each lemma states. -/
import Derived.Test.YtkffdloophagaaaSRows
import Derived.Test.YtkffdloophagaaaSVar
import Derived.Test.YtkffdloophagaaaSAll
namespace Go.Proofs.Ytkffdloophagaaa.Search
open Go.RowKit Go.Proofs.YtkffdloophagaaaW.PrintWords
set_option linter.unusedVariables false
set_option linter.unusedSimpArgs false
/-- The rows that the numbers left lead to, at the free place at_. -/
def leafL (sh : Nat) (rec_ : List Int → List Int → List (List Int)) (row left : List Int) (at_ : Nat) : List Int → Nat → List (List Int)
  | [], _ => []
  | n :: t, i =>
    if n = 0 ∨ ¬ (at_ : Int) + n + (sh : Int) < (row.length : Int) ∨ ¬ rd row ((at_ : Int) + n + (sh : Int)) = -1 then leafL sh rec_ row left at_ t (i + 1)
    else rec_ ((row.set at_ n).set ((at_ : Int) + n + (sh : Int)).toNat n) (left.set i 0) ++ leafL sh rec_ row left at_ t (i + 1)
def leaves (sh : Nat) : Nat → List Int → List Int → List (List Int)
  | 0, _, _ => []
  | k + 1, row, left =>
    match firstFree row 0 with
    | none => [row]
    | some at_ => leafL sh (leaves sh k) row left at_ left 0
section
variable {σ : Type}
/-- A function value is told rows until it ends the search. -/
def runS (step : σ → List Int → σ × Bool) : List (List Int) → σ → σ × Bool
  | [], s => (s, false)
  | x :: t, s => if (step s x).2 = true then ((step s x).1, true) else runS step t (step s x).1
theorem runS_append (step : σ → List Int → σ × Bool) : ∀ (a b : List (List Int)) (s : σ), runS step (a ++ b) s = if (runS step a s).2 = true then ((runS step a s).1, true) else runS step b (runS step a s).1
  | [], b, s => by simp [runS]
  | x :: t, b, s => by
    rw [List.cons_append, runS, runS]
    by_cases c : (step s x).2 = true
    · rw [if_pos c, if_pos c]; simp
    · rw [if_neg c, if_neg c, runS_append step t b]
end
def nz (left : List Int) : Nat := (left.filter (fun x => decide (x ≠ 0))).length
theorem nz_set : ∀ (left : List Int) (i : Nat) (n : Int), left[i]? = some n → n ≠ 0 → nz (left.set i 0) + 1 = nz left
  | [], i, n, h, _ => by simp at h
  | x :: t, 0, n, h, h0 => by
    have : x = n := by simpa using h
    subst this
    simp [nz, h0]
  | x :: t, i + 1, n, h, h0 => by
    have ih := nz_set t i n (by simpa using h) h0
    have e : ∀ l : List Int, nz (x :: l) = nz l + (if x = 0 then 0 else 1) := fun l => by
      unfold nz
      by_cases c : x = 0 <;> simp [c]
    rw [List.set_cons_succ, e, e]
    omega
section
variable {σ : Type}
theorem fillL_leafL (sh : Nat) (step : σ → List Int → σ × Bool) (k : Nat) (row left : List Int) (at_ : Nat) (IH : ∀ row left s, nz left < k → fillF sh step k row left s = some (runS step (leaves sh k row left) s)) (hk : nz left < k + 1) :
    ∀ (t : List Int) (i : Nat) (s : σ), left.drop i = t → fillL sh (fillF sh step k) row left at_ t i s = some (runS step (leafL sh (leaves sh k) row left at_ t i) s)
  | [], i, s, h => by simp [fillL, leafL, runS]
  | n :: t, i, s, h => by
    have hi : left[i]? = some n := by
      have : (left.drop i)[0]? = some n := by rw [h]; rfl
      rwa [List.getElem?_drop, Nat.add_zero] at this
    have hd : left.drop (i + 1) = t := by rw [← List.drop_drop, h]; rfl
    rw [fillL, leafL]
    by_cases c : n = 0 ∨ ¬ (at_ : Int) + n + (sh : Int) < (row.length : Int) ∨ ¬ rd row ((at_ : Int) + n + (sh : Int)) = -1
    · rw [if_pos c, if_pos c]
      exact fillL_leafL sh step k row left at_ IH hk t (i + 1) s hd
    · rw [if_neg c, if_neg c]
      have h0 : n ≠ 0 := fun e => c (.inl e)
      have hz := nz_set left i n hi h0
      rw [IH _ _ s (by omega), Option.bind_some, runS_append]
      split
      · rfl
      · exact fillL_leafL sh step k row left at_ IH hk t (i + 1) _ hd
theorem fillF_leaves (sh : Nat) (step : σ → List Int → σ × Bool) : ∀ (k : Nat) (row left : List Int) (s : σ), nz left < k → fillF sh step k row left s = some (runS step (leaves sh k row left) s)
  | 0, row, left, s, h => absurd h (by omega)
  | k + 1, row, left, s, h => by
    rw [fillF, leaves]
    cases firstFree row 0 with
    | none =>
      simp only [runS]
      rcases hs : step s row with ⟨a, b⟩
      cases b <;> simp
    | some at_ => exact fillL_leafL sh step k row left at_ (fillF_leaves sh step k) h left 0 s rfl
end
/-- The same of the reference's search. -/
def seenL (sh : Nat) (hole : Int) (rec_ : List Int → Nat → List (List Int)) (row : List Int) (used at_ : Nat) : Nat → Nat → List (List Int)
  | 0, _ => []
  | r + 1, n =>
    if used.testBit n = true ∨ ¬ at_ + n + sh < row.length ∨ ((at_ + n + sh : Nat) : Int) = hole ∨ ¬ rd row ((at_ + n + sh : Nat) : Int) = 0 then seenL sh hole rec_ row used at_ r (n + 1)
    else rec_ ((row.set at_ (n : Int)).set (at_ + n + sh) (n : Int)) (used ||| 2 ^ n) ++ seenL sh hole rec_ row used at_ r (n + 1)
def seen (fr to_ sh : Nat) (hole : Int) : Nat → List Int → Nat → List (List Int)
  | 0, _, _ => []
  | k + 1, row, used =>
    match firstZero hole row 0 with
    | none => [row]
    | some at_ => seenL sh hole (seen fr to_ sh hole k) row used at_ (to_ + 1 - fr) fr
/-- The numbers that are left, by the bits. -/
def leftOf (used : Nat) : Nat → Nat → List Int
  | 0, _ => []
  | r + 1, n => (if used.testBit n = true then 0 else (n : Int)) :: leftOf used r (n + 1)
theorem leftOf_len (used : Nat) : ∀ r n, (leftOf used r n).length = r
  | 0, n => rfl
  | r + 1, n => by rw [leftOf, List.length_cons, leftOf_len used r]
theorem leftOf_get (used : Nat) : ∀ r n i, i < r → (leftOf used r n)[i]? = some (if used.testBit (n + i) = true then 0 else ((n + i : Nat) : Int))
  | 0, n, i, h => absurd h (by omega)
  | r + 1, n, 0, h => by rw [leftOf]; rfl
  | r + 1, n, i + 1, h => by
    rw [leftOf, List.getElem?_cons_succ, leftOf_get used r (n + 1) i (by omega)]
    rw [show n + 1 + i = n + (i + 1) by omega]
theorem leftOf_drop (used : Nat) : ∀ i r n, (leftOf used (i + r) n).drop i = leftOf used r (n + i)
  | 0, r, n => by simp
  | i + 1, r, n => by
    rw [show i + 1 + r = (i + r) + 1 by omega, leftOf, List.drop_succ_cons, leftOf_drop used i r (n + 1)]
    rw [show n + 1 + i = n + (i + 1) by omega]
theorem leftOf_set (used : Nat) (r n i : Nat) (hi : i < r) : (leftOf used r n).set i 0 = leftOf (used ||| 2 ^ (n + i)) r n := by
  apply List.ext_getElem?
  intro j
  rw [List.getElem?_set, leftOf_len]
  rcases Nat.lt_or_ge j r with hj | hj
  · rw [leftOf_get _ r n j hj, leftOf_get _ r n j hj, Nat.testBit_or, Nat.testBit_two_pow]
    by_cases c : i = j
    · subst c; simp [hi]
    · rw [if_neg c]
      have : ¬ n + i = n + j := by omega
      simp [this, c]
  · have h1 : i ≠ j := by omega
    rw [if_neg h1, List.getElem?_eq_none (by rw [leftOf_len]; exact hj), List.getElem?_eq_none (by rw [leftOf_len]; exact hj)]
/-- The row as the program holds it. -/
def viewF (hole : Int) : List Int → Nat → List Int
  | [], _ => []
  | x :: t, i => (if x = 0 ∧ ¬ (i : Int) = hole then -1 else x) :: viewF hole t (i + 1)
theorem viewF_len (hole : Int) : ∀ (row : List Int) (i : Nat), (viewF hole row i).length = row.length
  | [], i => rfl
  | x :: t, i => by rw [viewF, List.length_cons, List.length_cons, viewF_len hole t]
theorem viewF_get (hole : Int) : ∀ (row : List Int) (i j : Nat), (viewF hole row i)[j]? = (row[j]?).map (fun x => if x = 0 ∧ ¬ ((i + j : Nat) : Int) = hole then -1 else x)
  | [], i, j => by simp [viewF]
  | x :: t, i, 0 => by simp [viewF]
  | x :: t, i, j + 1 => by
    rw [viewF, List.getElem?_cons_succ, viewF_get hole t (i + 1) j, List.getElem?_cons_succ]
    rw [show i + 1 + j = i + (j + 1) by omega]
theorem viewF_set (hole : Int) (row : List Int) (a : Nat) (n : Int) (hn : n ≠ 0) : viewF hole (row.set a n) 0 = (viewF hole row 0).set a n := by
  apply List.ext_getElem?
  intro j
  rw [viewF_get, List.getElem?_set, List.getElem?_set, viewF_len, viewF_get]
  by_cases c : a = j
  · subst c
    rw [if_pos rfl, if_pos rfl]
    split <;> simp [hn]
  · rw [if_neg c, if_neg c]
theorem firstFree_view (hole : Int) : ∀ (row : List Int) (i : Nat), (∀ x ∈ row, 0 ≤ x) → firstFree (viewF hole row i) i = firstZero hole row i
  | [], i, h => rfl
  | x :: t, i, h => by
    have hx := h x List.mem_cons_self
    rw [viewF, firstFree, firstZero, firstFree_view hole t (i + 1) (fun y hy => h y (List.mem_cons_of_mem _ hy))]
    by_cases c : x = 0 ∧ ¬ (i : Int) = hole
    · rw [if_pos c, if_pos rfl, if_neg (by rintro (g | g); exact g c.1; exact c.2 g)]
    · rw [if_neg c, if_neg (by omega), if_pos (by
        by_cases d : x = 0
        · exact .inr (Decidable.not_not.1 fun g => c ⟨d, g⟩)
        · exact .inl d)]
theorem view_full (hole : Int) : ∀ (row : List Int) (i : Nat), firstZero hole row i = none → viewF hole row i = row
  | [], i, h => rfl
  | x :: t, i, h => by
    rw [firstZero] at h
    split at h
    · rename_i c
      rw [viewF, view_full hole t (i + 1) h, if_neg (by rintro ⟨g1, g2⟩; rcases c with c | c; exact c g1; exact g2 c)]
    · cases h
theorem rd_view (hole : Int) (row : List Int) (j : Nat) (hj : j < row.length) (h0 : ∀ x ∈ row, 0 ≤ x) : rd (viewF hole row 0) (j : Int) = -1 ↔ rd row (j : Int) = 0 ∧ ¬ (j : Int) = hole := by
  have hx := h0 _ (List.getElem_mem hj)
  simp only [rd, List.getD_eq_getElem?_getD, Int.toNat_natCast, viewF_get, List.getElem?_eq_getElem hj, Option.map_some, Option.getD_some, Nat.zero_add]
  split <;> rename_i c
  · simp [c]
  · constructor
    · intro e; omega
    · intro e; exact absurd e c
theorem leafL_seenL (sh : Nat) (hole : Int) (row : List Int) (used at_ fr k : Nat) (m : Nat) (hf : 1 ≤ fr) (h0 : ∀ x ∈ row, 0 ≤ x) (to_ : Nat) (hm : to_ + 1 - fr = m)
    (IH : ∀ row used, (∀ x ∈ row, 0 ≤ x) → leaves sh k (viewF hole row 0) (leftOf used m fr) = seen fr to_ sh hole k row used) :
    ∀ (r i : Nat), i + r = m → leafL sh (leaves sh k) (viewF hole row 0) (leftOf used m fr) at_ (leftOf used r (fr + i)) i = seenL sh hole (seen fr to_ sh hole k) row used at_ r (fr + i)
  | 0, i, h => rfl
  | r + 1, i, h => by
    rw [leftOf, leafL, seenL]
    have hi := leafL_seenL sh hole row used at_ fr k m hf h0 to_ hm IH r (i + 1) (by omega)
    rw [show fr + (i + 1) = fr + i + 1 by omega] at hi
    by_cases hb : used.testBit (fr + i) = true
    · rw [if_pos hb, if_pos (.inl rfl), if_pos (.inl hb), hi]
    · rw [if_neg hb]
      have e : (at_ : Int) + ((fr + i : Nat) : Int) + (sh : Int) = ((at_ + (fr + i) + sh : Nat) : Int) := by omega
      rw [e, viewF_len]
      by_cases hl : at_ + (fr + i) + sh < row.length
      · have hv := rd_view hole row _ hl h0
        by_cases hc : ((at_ + (fr + i) + sh : Nat) : Int) = hole ∨ ¬ rd row ((at_ + (fr + i) + sh : Nat) : Int) = 0
        · rw [if_pos (.inr (.inr (fun g => by have := hv.1 g; rcases hc with hc | hc; exact this.2 hc; exact hc this.1))), if_pos (.inr (.inr hc)), hi]
        · have c1 : ¬ ((at_ + (fr + i) + sh : Nat) : Int) = hole := fun g => hc (.inl g)
          have c2 : rd row ((at_ + (fr + i) + sh : Nat) : Int) = 0 := Decidable.not_not.1 fun g => hc (.inr g)
          have hv' := hv.2 ⟨c2, c1⟩
          rw [if_neg (by rintro (g | g | g); omega; exact g (by omega); exact g hv'), if_neg (by rintro (g | g | g | g); exact hb g; exact g hl; exact c1 g; exact g c2), hi]
          congr 1
          have hn : ((fr + i : Nat) : Int) ≠ 0 := by omega
          rw [Int.toNat_natCast, ← viewF_set hole _ _ _ hn, ← viewF_set hole _ _ _ hn, leftOf_set used m fr i (by omega)]
          refine IH _ _ (fun x hx => ?_)
          rcases List.mem_or_eq_of_mem_set hx with hx | rfl
          · rcases List.mem_or_eq_of_mem_set hx with hx | rfl
            · exact h0 x hx
            · omega
          · omega
      · rw [if_pos (.inr (.inl (by omega))), if_pos (.inr (.inl hl)), hi]
theorem leaves_seen (fr to_ sh : Nat) (hole : Int) (hf : 1 ≤ fr) : ∀ (k : Nat) (row : List Int) (used : Nat), (∀ x ∈ row, 0 ≤ x) → leaves sh k (viewF hole row 0) (leftOf used (to_ + 1 - fr) fr) = seen fr to_ sh hole k row used
  | 0, row, used, h => rfl
  | k + 1, row, used, h => by
    rw [leaves, seen, firstFree_view hole row 0 h]
    cases hz : firstZero hole row 0 with
    | none =>
      simp only []
      rw [view_full hole row 0 hz]
    | some at_ => exact leafL_seenL sh hole row used at_ fr k (to_ + 1 - fr) hf h to_ rfl (leaves_seen fr to_ sh hole hf k) (to_ + 1 - fr) 0 (by omega)
section
variable {σ : Type}
theorem lookL_seenL (fr to_ sh : Nat) (hole : Int) (st : σ → List Int → σ) (k : Nat) (row : List Int) (used at_ : Nat) (m : Nat) (IH : ∀ row used s, nz (leftOf used m fr) < k → lookF fr to_ sh hole st k row used s = some ((seen fr to_ sh hole k row used).foldl st s)) (hk : nz (leftOf used m fr) < k + 1) (hf : 1 ≤ fr) :
    ∀ (r i : Nat) (s : σ), i + r = m → lookL sh hole (lookF fr to_ sh hole st k) row used at_ r (fr + i) s = some ((seenL sh hole (seen fr to_ sh hole k) row used at_ r (fr + i)).foldl st s)
  | 0, i, s, h => rfl
  | r + 1, i, s, h => by
    have hi := fun s => lookL_seenL fr to_ sh hole st k row used at_ m IH hk hf r (i + 1) s (by omega)
    rw [show fr + (i + 1) = fr + i + 1 by omega] at hi
    rw [lookL, seenL]
    by_cases c : used.testBit (fr + i) = true ∨ ¬ at_ + (fr + i) + sh < row.length ∨ ((at_ + (fr + i) + sh : Nat) : Int) = hole ∨ ¬ rd row ((at_ + (fr + i) + sh : Nat) : Int) = 0
    · rw [if_pos c, if_pos c, hi]
    · rw [if_neg c, if_neg c]
      have hb : ¬ used.testBit (fr + i) = true := fun g => c (.inl g)
      have hz := nz_set (leftOf used m fr) i ((fr + i : Nat) : Int) (by rw [leftOf_get used m fr i (by omega), if_neg hb]) (by omega)
      rw [leftOf_set used m fr i (by omega)] at hz
      rw [IH _ _ s (by omega), Option.bind_some, hi, List.foldl_append]
theorem lookF_seen (fr to_ sh : Nat) (hole : Int) (st : σ → List Int → σ) (hf : 1 ≤ fr) : ∀ (k : Nat) (row : List Int) (used : Nat) (s : σ), nz (leftOf used (to_ + 1 - fr) fr) < k → lookF fr to_ sh hole st k row used s = some ((seen fr to_ sh hole k row used).foldl st s)
  | 0, row, used, s, h => absurd h (by omega)
  | k + 1, row, used, s, h => by
    rw [lookF, seen]
    cases firstZero hole row 0 with
    | none => rfl
    | some at_ => exact lookL_seenL fr to_ sh hole st k row used at_ (to_ + 1 - fr) (lookF_seen fr to_ sh hole st hf k) h hf (to_ + 1 - fr) 0 s (by omega)
end
theorem nz_le (l : List Int) : nz l ≤ l.length := List.length_filter_le _ _
theorem left0_of (n d : Nat) : left0 n d = leftOf 0 n d := by
  apply List.ext_getElem?
  intro i
  rcases Nat.lt_or_ge i n with h | h
  · rw [leftOf_get 0 n d i h]
    simp [left0, h]
  · rw [List.getElem?_eq_none (by simpa [left0] using h), List.getElem?_eq_none (by rw [leftOf_len]; exact h)]
theorem row0_of (p : Nat) (hole : Int) (hh : hole < (p : Int)) : row0 p hole = viewF hole (List.replicate p 0) 0 := by
  apply List.ext_getElem?
  intro i
  rw [viewF_get]
  unfold row0
  rcases Nat.lt_or_ge i p with h | h
  · split
    · rw [List.getElem?_set]
      by_cases c : hole.toNat = i
      · rw [if_pos c]
        have e : ((0 + i : Nat) : Int) = hole := by omega
        have e2 : hole.toNat < p := by omega
        have e3 : (i : Int) = hole := by omega
        simp [h, e2, e3]
      · rw [if_neg c]
        have e : ¬ ((0 + i : Nat) : Int) = hole := by omega
        simp [h] at e ⊢
        simp [e]
    · have e : ¬ ((0 + i : Nat) : Int) = hole := by omega
      simp [h] at e ⊢
      simp [e]
  · split <;> simp [h]
/-- How many rows, as both sides count. -/
def cnt (l : List (List Int)) : Int := l.foldl (fun c _ => wrap64 (c + 1)) 0
theorem runS_count : ∀ (l : List (List Int)) (c : Int), runS cstep l c = (l.foldl (fun c _ => wrap64 (c + 1)) c, false)
  | [], c => rfl
  | x :: t, c => by
    rw [runS, List.foldl_cons, show cstep c x = (wrap64 (c + 1), false) from rfl, if_neg (by simp), runS_count t]
theorem foldl_lstep (most : Nat) : ∀ (l : List (List Int)) (c : Int) (ls : List (List Int)), l.foldl (lstep most) (c, ls) = (l.foldl (fun c _ => wrap64 (c + 1)) c, ls ++ l.take (most - ls.length))
  | [], c, ls => by simp
  | x :: t, c, ls => by
    rw [List.foldl_cons, List.foldl_cons]
    rw [show lstep most (c, ls) x = (wrap64 (c + 1), if ls.length < most then ls ++ [x] else ls) from rfl, foldl_lstep most t]
    by_cases h : ls.length < most
    · rw [if_pos h, show most - ls.length = (most - (ls ++ [x]).length) + 1 by simp; omega, List.take_succ_cons]
      simp
    · rw [if_neg h, show most - ls.length = 0 by omega]
      simp
/-- The rows that a search finds. -/
def found (fr to_ sh : Nat) (hole : Int) : List (List Int) := seen fr to_ sh hole 40 (List.replicate (placesOf fr to_ hole) 0) 0
theorem lookAll_found (fr to_ sh : Nat) (hole : Int) (most : Nat) (hf : 1 ≤ fr) (ht : to_ ≤ fr + 30) : lookAll fr to_ sh hole most = some (cnt (found fr to_ sh hole), (found fr to_ sh hole).take most) := by
  unfold lookAll
  rw [lookF_seen fr to_ sh hole (lstep most) hf 40 _ 0 _ (by have := nz_le (leftOf 0 (to_ + 1 - fr) fr); rw [leftOf_len] at this; omega), foldl_lstep]
  simp [found, cnt]
theorem fill_found {σ : Type} (step : σ → List Int → σ × Bool) (sh p n d : Nat) (hole : Int) (s : σ) (hd : 1 ≤ d) (hn : 1 ≤ n) (hn2 : n ≤ 30) (hh : hole < (p : Int)) (hp : p = placesOf d (d + n - 1) hole) : fillF sh step 40 (row0 p hole) (left0 n d) s = some (runS step (found d (d + n - 1) sh hole) s) := by
  rw [fillF_leaves sh step 40 _ _ _ (by have := nz_le (left0 n d); rw [left0_of, leftOf_len] at this; rw [left0_of]; omega)]
  rw [left0_of, row0_of p hole hh]
  have e : d + n - 1 + 1 - d = n := by omega
  have h := leaves_seen d (d + n - 1) sh hole hd 40 (List.replicate p 0) 0 (fun x hx => by rw [List.eq_of_mem_replicate hx]; exact Int.le_refl _)
  rw [e] at h
  rw [h, found, ← hp]
theorem countF_found (sh p n d : Nat) (hole : Int) (hd : 1 ≤ d) (hn : 1 ≤ n) (hn2 : n ≤ 30) (hh : hole < (p : Int)) (hp : p = placesOf d (d + n - 1) hole) : countF sh p n d hole = some (cnt (found d (d + n - 1) sh hole)) := by
  unfold countF
  rw [fill_found cstep sh p n d hole 0 hd hn hn2 hh hp, runS_count]
  rfl
end Go.Proofs.Ytkffdloophagaaa.Search
