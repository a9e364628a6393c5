/- slices.SortFunc over rows of whole numbers that lie apart, by the library's contract. Conditions: none but those that each lemma states. -/
import Derived.Test.YtgpnhaaklhinlaaSShelf
import Derived.Test.YtgpnhaaklhinlaaSCmp
import Derived.Test.YtgpnhaaklhinlaaSBlk
namespace Go.Proofs.Ytgpnhaaklhinlaa.Search
open Go.RowKit Go.Proofs.YtgpnhaaklhinlaaW.PrintWords Go.Proofs.YtgpnhaaklhinlaaW.PrintLast Go.Proofs.YtgpnhaaklhinlaaW.PrintMore
set_option linter.unusedVariables false
set_option linter.unusedSimpArgs false
theorem cmpL_self : ∀ a, cmpL a a = 0
  | [] => rfl
  | x :: a => by simp [cmpL, cmpL_self a]
theorem cmpL_trans : ∀ a b c, cmpL a b < 0 → cmpL b c < 0 → cmpL a c < 0
  | [], [], c, h, _ => by simp [cmpL] at h
  | [], y :: b, [], _, h => by simp [cmpL] at h
  | [], y :: b, z :: c, _, _ => by simp [cmpL]
  | x :: a, [], c, h, _ => by simp [cmpL] at h
  | x :: a, y :: b, [], _, h => by simp [cmpL] at h
  | x :: a, y :: b, z :: c, h, h' => by
    simp only [cmpL] at h h' ⊢
    by_cases c1 : x < y
    · by_cases c2 : y < z
      · rw [if_pos (by omega)]; omega
      · by_cases c3 : z < y
        · rw [if_neg c2, if_pos c3] at h'; omega
        · rw [if_pos (by omega)]; omega
    · by_cases c3 : y < x
      · rw [if_neg c1, if_pos c3] at h; omega
      · rw [if_neg c1, if_neg c3] at h
        by_cases c2 : y < z
        · rw [if_pos (by omega)]; omega
        · by_cases c4 : z < y
          · rw [if_neg c2, if_pos c4] at h'; omega
          · rw [if_neg c2, if_neg c4] at h'
            rw [if_neg (by omega), if_neg (by omega)]
            exact cmpL_trans a b c h h'
theorem cmpL_ntrans : ∀ a b c, ¬ cmpL a b < 0 → ¬ cmpL b c < 0 → ¬ cmpL a c < 0
  | [], [], c, _, h => h
  | [], y :: b, c, h, _ => by simp [cmpL] at h
  | x :: a, [], [], _, _ => by simp [cmpL]
  | x :: a, [], z :: c, _, h => by simp [cmpL] at h
  | x :: a, y :: b, [], _, _ => by simp [cmpL]
  | x :: a, y :: b, z :: c, h, h' => by
    simp only [cmpL] at h h' ⊢
    by_cases c1 : x < y
    · rw [if_pos c1] at h; omega
    · by_cases c2 : y < z
      · rw [if_pos c2] at h'; omega
      · rw [if_neg c1] at h
        rw [if_neg c2] at h'
        by_cases c3 : z < x
        · rw [if_neg (by omega), if_pos c3]; omega
        · have e1 : x = y := by omega
          have e2 : y = z := by omega
          rw [if_neg (by omega)] at h
          rw [if_neg (by omega)] at h'
          rw [if_neg (by omega), if_neg (by omega)]
          exact cmpL_ntrans a b c h h'
theorem cmpL_eq : ∀ a b, ¬ cmpL a b < 0 → ¬ cmpL b a < 0 → a = b
  | [], [], _, _ => rfl
  | [], y :: b, h, _ => by simp [cmpL] at h
  | x :: a, [], _, h => by simp [cmpL] at h
  | x :: a, y :: b, h, h' => by
    simp only [cmpL] at h h'
    by_cases c1 : x < y
    · rw [if_pos c1] at h; omega
    · by_cases c2 : y < x
      · rw [if_pos c2] at h'; omega
      · rw [if_neg c1, if_neg c2] at h
        rw [if_neg c2, if_neg c1] at h'
        rw [cmpL_eq a b h h', show x = y by omega]
/-- Two sorted lists of the same rows are one. -/
theorem sorted_one : ∀ (a b : List (List Int)), a.Perm b → a.Pairwise (fun x y => ¬ cmpL y x < 0) → b.Pairwise (fun x y => ¬ cmpL y x < 0) → a = b
  | [], b, hp, _, _ => (List.Perm.nil_eq hp)
  | x :: a, [], hp, _, _ => by simpa using hp.length_eq
  | x :: a, y :: b, hp, ha, hb => by
    have ha' := List.pairwise_cons.1 ha
    have hb' := List.pairwise_cons.1 hb
    have hxy : x = y := by
      have h1 : x ∈ y :: b := hp.mem_iff.1 List.mem_cons_self
      have h2 : y ∈ x :: a := hp.mem_iff.2 List.mem_cons_self
      rcases List.mem_cons.1 h1 with h1 | h1
      · exact h1
      · rcases List.mem_cons.1 h2 with h2 | h2
        · exact h2.symm
        · exact cmpL_eq x y (hb'.1 x h1) (ha'.1 y h2)
    subst hxy
    rw [sorted_one a b (List.Perm.cons_inv hp) ha'.2 hb'.2]
theorem sw_heap (enc : Nat → Value) (w : World) (g m : Nat) (dk : Array Nat) (os : Array Obj) (i : Nat) (hi : i < w.heap.size) : (sortWorld enc w g 0 m dk os).heap[i]? = if g = i then (w.heap[i]?).map (Go.Sort.onCells (Go.Sort.putCells enc 0 dk)) else w.heap[i]? := by
  show ((w.heap.modify g (Go.Sort.onCells (Go.Sort.putCells enc 0 dk))) ++ os)[i]? = _
  rw [Array.getElem?_append_left (by simpa using hi), Array.getElem?_modify]
theorem sw_size (enc : Nat → Value) (w : World) (g m : Nat) (dk : Array Nat) (os : Array Obj) : w.heap.size ≤ (sortWorld enc w g 0 m dk os).heap.size := by
  unfold sortWorld Go.Sort.putRow Go.Sort.mapBlock Go.Sort.grow Go.Sort.ahead
  simp
theorem sw_kept (enc : Nat → Value) (w : World) (g m : Nat) (dk : Array Nat) (os : Array Obj) : Kept w (sortWorld enc w g 0 m dk os) (fun k => k = g) :=
  ⟨sw_size _ _ _ _ _ _, fun i hi hn => by rw [sw_heap _ _ _ _ _ _ _ hi, if_neg (fun e => hn e.symm)]⟩
theorem sw_below (enc : Nat → Value) (w : World) (g m : Nat) (dk : Array Nat) (os : Array Obj) {base : Nat} (hb : base ≤ g) (hw : base ≤ w.heap.size) : Below base w (sortWorld enc w g 0 m dk os) :=
  ⟨rfl, rfl, rfl, sw_size _ _ _ _ _ _, fun k hk => by rw [sw_heap _ _ _ _ _ _ _ (by omega), if_neg (by omega)]⟩
/-- The value of row j. -/
def encV (inner : List Value) (j : Nat) : Value := inner.getD j (.slice none 0 0)
def cmpI (L : List (List Int)) (i j : Nat) : Int := cmpL (L.getD i []) (L.getD j [])
theorem swoI (L : List (List Int)) : Go.Sort.SWO (ltOf (cmpI L)) where
  irrefl x := by simp [ltOf, cmpI, cmpL_self]
  trans x y z h1 h2 := decide_eq_true (cmpL_trans _ _ _ (of_decide_eq_true h1) (of_decide_eq_true h2))
  ntrans x y z h1 h2 := decide_eq_false (cmpL_ntrans _ _ _ (of_decide_eq_false h1) (of_decide_eq_false h2))
/-- What is known of row j's value. -/
theorem row_at {w : World} {base : Nat} {ok : Nat → Prop} {v : Value} {L : List (List Int)} {f : Nat → Nat} {inner : List Value} (hrep : Reps ((Kd.tag f (Kd.slice 3 (Kd.int .i64))).M w base (fun k => ok k ∧ some k ≠ v.ownBlock)) 1 L.zipIdx inner) {j : Nat} {x : List Int} (hj : L[j]? = some x) :
    ∃ A c, inner[j]? = some (.slice A x.length c) ∧ Kd.R (Kd.int .i64) 3 w base (fun k => (ok k ∧ some k ≠ v.ownBlock) ∧ f k = j) (.slice A x.length c) x := by
  obtain ⟨u, hu, hR⟩ := hrep.2 j (x, j) (Kd.zip_at hj)
  have hR' : Kd.R (Kd.int .i64) 3 w base (fun k => (ok k ∧ some k ≠ v.ownBlock) ∧ f k = j) u x := hR
  obtain ⟨A, c, rfl⟩ := Kd.R_slice hR'
  refine ⟨A, c, ?_, hR'⟩
  rw [Nat.mul_one] at hu
  have h1 : ((inner.drop j).take 1)[0]? = some (.slice A x.length c) := by rw [hu]; rfl
  rw [List.getElem?_take_of_lt (by omega), List.getElem?_drop] at h1
  exact h1
theorem encV_at {inner : List Value} {j : Nat} {v : Value} (h : inner[j]? = some v) : encV inner j = v := by
  simp [encV, List.getD_eq_getElem?_getD, h]
theorem range_at (n j : Nat) (hj : j < (Array.range n).size) : (Array.range n)[j]! = j := by
  rw [getElem!_pos _ j hj]
  simp
set_option maxHeartbeats 2000000 in
theorem sort_cmp {w : World} {base : Nat} {ok : Nat → Prop} {g : Nat} {L : List (List Int)} {f : Nat → Nat} {inner : List Value} {n c : Nat} (hil : inner.length = L.length) (hrep : Reps ((Kd.tag f (Kd.slice 3 (Kd.int .i64))).M w base (fun k => ok k ∧ some k ≠ (Value.slice (some ⟨g, 0, none⟩) n c).ownBlock)) 1 L.zipIdx inner) (hl : ∀ x ∈ L, x.length ≤ 1000) :
    CmpReads Try.prog 111 #[] (encV inner) (cmpI L) g 0 (Array.range L.length).size w := by
  intro m os dk _ i j
  have hk := sw_kept (encV inner) w g m dk os
  have one : ∀ j, ∃ A c, encV inner j = .slice A (L.getD j []).length c ∧ (L.getD j []).length ≤ c ∧ Kd.C (Kd.int .i64) (sortWorld (encV inner) w g 0 m dk os) A (L.getD j []).length (L.getD j []) := fun j => by
    cases e : L[j]? with
    | none =>
      have e2 : L.getD j [] = [] := by simp [List.getD_eq_getElem?_getD, e]
      have e3 : inner[j]? = none := by
        rw [List.getElem?_eq_none_iff] at e ⊢
        omega
      rw [e2]
      have hn := Kd.R_reads' (Kd.R_nil (Kd.int .i64) 3 (sortWorld (encV inner) w g 0 m dk os) 0 (fun _ => True))
      exact ⟨none, 0, by simp [encV, List.getD_eq_getElem?_getD, e3], Nat.le_refl _, hn.2.2⟩
    | some x =>
      have e2 : L.getD j [] = x := by simp [List.getD_eq_getElem?_getD, e]
      obtain ⟨A, c', h1, h2⟩ := row_at hrep e
      rw [e2]
      have h3 := Kd.R_reads' (Kd.R_kept h2 hk (fun k hk1 hk2 => hk1.1.2 (by rw [hk2]; rfl)))
      exact ⟨A, c', encV_at h1, h3.2.1, h3.2.2⟩
  have small : ∀ j, (L.getD j []).length ≤ 1048576 := fun j => by
    rw [List.getD_eq_getElem?_getD]
    cases e : L[j]? with
    | none => simp
    | some x => have := hl x (List.mem_of_getElem? e); simp; omega
  obtain ⟨Ai, ci, ei, li, ri⟩ := one i
  obtain ⟨Aj, cj, ej, lj, rj⟩ := one j
  obtain ⟨K, hK⟩ := Compare_ev (L.getD i []) (L.getD j []) (small i)
  rw [ei, ej]
  refine (slices_Compare_int_int.calls K Ai ci (L.getD i []) Aj cj (L.getD j []) _ _ ri li rj lj (hK K (Nat.le_refl _))).mono ?_
  rintro e w' ⟨rfl, ⟨nd, rfl⟩⟩
  exact ⟨rfl, nd, rfl⟩
theorem rows_range (L : List (List Int)) : (List.range L.length).map (fun j => L.getD j []) = L := by
  apply List.ext_getElem
  · simp
  · intro i h1 h2
    simp [List.getD_eq_getElem?_getD, h2]
theorem perm_list {n : Nat} {d' : Array Nat} (hp : Go.Sort.PermIn 0 n (Array.range n) d') : d'.size = n ∧ d'.toList.Perm (List.range n) := by
  obtain ⟨h1, _, h3⟩ := hp
  rw [Array.size_range] at h1
  refine ⟨h1, ?_⟩
  have e1 : d'.extract 0 n = d' := by rw [← h1]; exact Array.extract_size
  have e2 : (Array.range n).extract 0 n = Array.range n := by
    have := Array.extract_size (xs := Array.range n)
    rwa [Array.size_range] at this
  rw [e1, e2] at h3
  simpa using h3
theorem put_take (enc : Nat → Value) (d' : Array Nat) (cur : Array Value) (n : Nat) (hs : d'.size = n) (hc : n ≤ cur.size) : (Go.Sort.putCells enc 0 d' cur).toList.take n = d'.toList.map enc := by
  apply List.ext_getElem?
  intro i
  by_cases hi : i < n
  · have h1 : i < d'.size := by omega
    have h2 : i < cur.size := by omega
    rw [List.getElem?_take_of_lt hi]
    simp [Go.Sort.putCells, h1, h2]
  · rw [List.getElem?_eq_none (by simp; omega), List.getElem?_eq_none (by simp; omega)]
/-- What a sort of rows leaves. -/
def SortPost (base : Nat) (ok : Nat → Prop) (g c : Nat) (L : List (List Int)) (w : World) (e : Ending) (w' : World) : Prop :=
  e = .returned (.tuple #[]) ∧ ∃ L', L'.Perm L ∧ L'.Pairwise (fun x y => ¬ cmpL y x < 0) ∧ Kd.S (Kd.slice 3 (Kd.int .i64)) 22 w' base ok (.slice (some ⟨g, 0, none⟩) L.length c) L' ∧ Below base w w' ∧ Kept w w' (fun k => k = g)
set_option maxHeartbeats 2000000 in
theorem sort_rows {w : World} {base : Nat} {ok : Nat → Prop} {g c : Nat} {L : List (List Int)} (hS : Kd.S (Kd.slice 3 (Kd.int .i64)) 22 w base ok (.slice (some ⟨g, 0, none⟩) L.length c) L) (hbw : base ≤ w.heap.size) (hl : ∀ x ∈ L, x.length ≤ 1000) (hn : L.length ≤ 100000) :
    Calls Try.prog 110 #[.slice (some ⟨g, 0, none⟩) L.length c, .func (.func 111) #[] #[]] w (SortPost base ok g c L w) := by
  obtain ⟨f, h0, inner, ⟨hil, hown⟩, hrep⟩ := hS
  rcases hown with ⟨hv, _⟩ | ⟨g', cap, cur, hv, hg, hh, hnc, hcm, hcs, htk⟩
  · cases hv
  · injection hv with e1 e2 e3
    injection e1 with e1
    injection e1 with e1
    subst e1
    subst e3
    rw [List.length_zipIdx, show (Kd.tag f (Kd.slice 3 (Kd.int .i64))).sz = 1 from rfl, Nat.mul_one] at hil htk
    rw [show (Kd.tag f (Kd.slice 3 (Kd.int .i64))).sz = 1 from rfl, Nat.mul_one] at hcs
    rw [List.length_zipIdx] at hnc
    have hrep1 : Reps ((Kd.tag f (Kd.slice 3 (Kd.int .i64))).M w base (fun k => ok k ∧ some k ≠ (Value.slice (some ⟨g, 0, none⟩) L.length c).ownBlock)) 1 L.zipIdx inner := hrep
    have hcr := sort_cmp hil hrep1 hl
    have hgw : g < w.heap.size := lt_of_block hh
    have hval : ∀ j, j < L.length → ∃ x A c', L[j]? = some x ∧ inner[j]? = some (.slice A x.length c') := fun j hj => by
      obtain ⟨A, c', h1, _⟩ := row_at hrep1 (List.getElem?_eq_getElem hj)
      exact ⟨_, A, c', List.getElem?_eq_getElem hj, h1⟩
    have h1c : OneCell (encV inner) := fun j => by
      by_cases hj : j < L.length
      · obtain ⟨x, A, c', _, h2⟩ := hval j hj
        rw [encV_at h2]; rfl
      · have : inner[j]? = none := List.getElem?_eq_none (by omega)
        simp [encV, List.getD_eq_getElem?_getD, this]; rfl
    have hH : Go.Sort.Holds (encV inner) w g 0 (Array.range L.length) := fun j hj => by
      have hj' : j < L.length := by simpa using hj
      rw [range_at _ _ hj, Nat.zero_add]
      refine ⟨?_, frozen_of_row w g j _ _ hh⟩
      obtain ⟨x, A, c', _, h2⟩ := hval j hj'
      rw [encV_at h2, cell_of_row w g j _ _ (0, 0) hh, ← h2, ← htk, List.getElem?_take_of_lt hj']
      simp
    have eg : ∀ args w, (callFunc 111 args).run Try.prog w = .ok (.enter 111 args) w := enters_of Try.func111 (by kernel_rfl) rfl
    have hcon := Any.slices_SortFunc Try.sortF (encV inner) h1c (cmpI L) (swoI L) 111 #[] g 0 c (Array.range L.length) w eg hcr.lays hH hgw (by rw [Array.size_range]; omega)
    rw [Array.size_range] at hcon
    refine hcon.mono ?_
    rintro e w' ⟨rfl, d', m, os, hp, hs, rfl⟩
    obtain ⟨hd, hpl⟩ := perm_list hp
    have hnd : d'.toList.Nodup := hpl.nodup_iff.2 List.nodup_range
    have hk := sw_kept (encV inner) w g m d' os
    refine ⟨rfl, d'.toList.map (fun j => L.getD j []), ?_, ?_, ⟨fun k => d'.toList.idxOf (f k), fun k hk1 => h0 k hk1, d'.toList.map (encV inner), ⟨?_, .inr ⟨g, c, Go.Sort.putCells (encV inner) 0 d' cur, ?_, hg, ?_, ?_, hcm, ?_, ?_⟩⟩, ?_, ?_⟩, sw_below _ _ _ _ _ _ hg hbw, hk⟩
    · have := hpl.map (fun j => L.getD j [])
      rwa [rows_range] at this
    · rw [List.pairwise_map, List.pairwise_iff_getElem]
      intro i j hi hj hij
      have h1 : i < d'.size := by simpa using hi
      have h2 : j < d'.size := by simpa using hj
      have h3 := hs i j (Nat.zero_le _) hij (by omega)
      have h4 := of_decide_eq_false h3
      rw [getElem!_pos d' i h1, getElem!_pos d' j h2] at h4
      exact h4
    · simp [hd, Kd.tag, Kd.slice]
    · simp [hd]
    · rw [sw_heap _ _ _ _ _ _ _ hgw, if_pos rfl, hh]
      rfl
    · simp [hd]; exact hnc
    · simp [Go.Sort.putCells, hcs, Kd.tag, Kd.slice]
    · rw [List.length_zipIdx, List.length_map, show (Kd.tag (fun k => d'.toList.idxOf (f k)) (Kd.slice 3 (Kd.int .i64))).sz = 1 from rfl, Nat.mul_one, Array.length_toList]
      exact put_take _ _ _ _ rfl (by omega)
    · simp [Kd.tag, Kd.slice]
    · intro i p hp2
      rw [List.getElem?_zipIdx, Nat.zero_add] at hp2
      obtain ⟨x, hx, rfl⟩ := Option.map_eq_some_iff.1 hp2
      rw [List.getElem?_map] at hx
      obtain ⟨j, hj, rfl⟩ := Option.map_eq_some_iff.1 hx
      have hjm : j ∈ List.range L.length := hpl.mem_iff.1 (List.mem_of_getElem? hj)
      have hjl : j < L.length := by simpa using hjm
      obtain ⟨x, A, c', h1, h2⟩ := hval j hjl
      obtain ⟨A2, c2, h3, h4⟩ := row_at hrep1 h1
      have e2 : L.getD j [] = x := by simp [List.getD_eq_getElem?_getD, h1]
      have hi : i < d'.toList.length := (List.getElem?_eq_some_iff.1 hj).1
      have hji : d'.toList[i] = j := (List.getElem?_eq_some_iff.1 hj).2
      refine ⟨.slice A2 x.length c2, ?_, ?_⟩
      · rw [show (Kd.tag (fun k => d'.toList.idxOf (f k)) (Kd.slice 3 (Kd.int .i64))).sz = 1 from rfl, Nat.mul_one]
        rw [List.drop_eq_getElem_cons (by simpa using hi)]
        simp [hji, encV_at h3]
      · show Kd.R (Kd.int .i64) 3 _ base _ _ (L.getD j [])
        rw [e2]
        refine Kd.R_mono (Kd.R_kept h4 hk (fun k hk1 hk2 => hk1.1.2 (by rw [hk2]; rfl))) (fun k hk1 => ⟨hk1.1, ?_⟩)
        show d'.toList.idxOf (f k) = i
        rw [hk1.2, ← hji]
        exact List.Nodup.idxOf_getElem hnd i hi
end Go.Proofs.Ytgpnhaaklhinlaa.Search
