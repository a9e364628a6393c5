/- Lists of triples that calls hand on and append to; blocks of bools. Conditions: none but those that each lemma states. -/
import Derived.Test.YtgpnhaaklhinlaaSMake
namespace Go.Proofs.Ytgpnhaaklhinlaa.Search
open Go.RowKit Go.Proofs.YtgpnhaaklhinlaaW.PrintWords Go.Proofs.YtgpnhaaklhinlaaW.PrintLast Go.Proofs.YtgpnhaaklhinlaaW.PrintMore
set_option linter.unusedVariables false
set_option linter.unusedSimpArgs false
/-- A block that is a row of bools, to its end. -/
def BlkB (w : World) (g : Nat) (xs : List Bool) : Prop := w.heap[g]? = some (.cells (xs.map Value.bool).toArray 4 (0, 0))
theorem BlkB.cell {w : World} {g : Nat} {xs : List Bool} (h : BlkB w g xs) {i : Nat} (hi : i < xs.length) : w.cell? ⟨g, i, none⟩ = some (.bool (rdOf false xs (i : Int))) := by
  rw [cell_of_row w g i _ 4 (0, 0) h]
  simp [rdOf, List.getD_eq_getElem?_getD, hi]
theorem BlkB.free {w : World} {g : Nat} {xs : List Bool} (h : BlkB w g xs) (i : Nat) : w.frozen? ⟨g, i, none⟩ = false := frozen_of_row w g i _ 4 h
theorem BlkB.lt {w : World} {g : Nat} {xs : List Bool} (h : BlkB w g xs) : g < w.heap.size := lt_of_block h
theorem BlkB.set {w : World} {g : Nat} {xs : List Bool} (h : BlkB w g xs) (i : Nat) (x : Bool) : BlkB (w.setCell ⟨g, i, none⟩ (.bool x)) g (xs.set i x) := by
  unfold BlkB
  rw [heap_setCell_same w g i _ 4 _ h]
  simp [List.map_set]
theorem BlkB.C {w : World} {g : Nat} {xs : List Bool} (h : BlkB w g xs) (hl : xs.length ≤ 9223372036854775807) : Kd.C Kd.bool w (some ⟨g, 0, none⟩) xs.length xs := by
  refine Kd.C_of_reads (d := false) (h1 := fun _ => rfl) ⟨rfl, hl, fun hn => ⟨⟨g, 0, none⟩, rfl, fun j hj => ?_⟩⟩
  have e : (⟨g, 0, none⟩ : Addr).add j = ⟨g, j, none⟩ := by
    unfold Addr.add
    split <;> simp_all
  rw [e]
  exact h.cell hj
/-- The first m cells of a block of rows are as they were. -/
def Pre (w w' : World) (g m : Nat) : Prop := ∃ cs cs' : Array Value, w.heap[g]? = some (.cells cs 22 (0, 0)) ∧ w'.heap[g]? = some (.cells cs' 22 (0, 0)) ∧ cs'.size = cs.size ∧ ∀ i, i < m → cs'[i]? = cs[i]?
theorem Pre.trans {w w1 w2 : World} {g m m' : Nat} (h : Pre w w1 g m) (k : Pre w1 w2 g m') (hm : m ≤ m') : Pre w w2 g m := by
  obtain ⟨a, b, h1, h2, h3, h4⟩ := h
  obtain ⟨b', c, k1, k2, k3, k4⟩ := k
  rw [h2] at k1
  obtain ⟨rfl⟩ : b = b' := by injection k1 with e; injection e
  exact ⟨a, c, h1, k2, by omega, fun i hi => (k4 i (by omega)).trans (h4 i hi)⟩
theorem Pre.of_same {w w' : World} {g m : Nat} {cs : Array Value} (h : w.heap[g]? = some (.cells cs 22 (0, 0))) (hk : w'.heap[g]? = w.heap[g]?) : Pre w w' g m := ⟨cs, cs, h, hk.trans h, rfl, fun _ _ => rfl⟩
theorem Pre.then_same {w w1 w2 : World} {g m : Nat} (h : Pre w w1 g m) (hk : w2.heap[g]? = w1.heap[g]?) : Pre w w2 g m := by
  obtain ⟨a, b, h1, h2, h3, h4⟩ := h
  exact ⟨a, b, h1, hk.trans h2, h3, h4⟩
theorem Pre.same_then {w w1 w2 : World} {g m : Nat} (hk : w1.heap[g]? = w.heap[g]?) (h : Pre w1 w2 g m) : Pre w w2 g m := by
  obtain ⟨a, b, h1, h2, h3, h4⟩ := h
  exact ⟨a, b, hk.symm.trans h1, h2, h3, h4⟩
/-- A list of triples: each in a block of its own; ok: where the blocks may lie. -/
def LV (w : World) (ok : Nat → Prop) (v : Value) (xs : List (List Int)) : Prop :=
  (v = .slice none 0 0 ∧ xs = []) ∨ ∃ (g cap : Nat) (cs : Array Value), v = .slice (some ⟨g, 0, none⟩) xs.length cap ∧ ok g ∧ w.heap[g]? = some (.cells cs 22 (0, 0)) ∧ xs.length ≤ cap ∧ cap ≤ maxLen ∧ cs.size = cap ∧
    ∀ (i : Nat) (x : List Int), xs[i]? = some x → ∃ b, cs[i]? = some (.slice (some ⟨b, 0, none⟩) 3 3) ∧ ok b ∧ b ≠ g ∧ x.length = 3 ∧ Blk w b x
theorem LV.nil (w : World) (ok : Nat → Prop) : LV w ok (.slice none 0 0) [] := .inl ⟨rfl, rfl⟩
theorem LV.slice {w : World} {ok : Nat → Prop} {v : Value} {xs : List (List Int)} (h : LV w ok v xs) : ∃ A c, v = .slice A xs.length c ∧ xs.length ≤ c := by
  rcases h with ⟨rfl, rfl⟩ | ⟨g, cap, cs, rfl, _, _, hc, _⟩
  · exact ⟨none, 0, rfl, Nat.le_refl _⟩
  · exact ⟨_, _, rfl, hc⟩
theorem LV.mono {w : World} {ok ok' : Nat → Prop} {v : Value} {xs : List (List Int)} (h : LV w ok v xs) (hok : ∀ k, ok k → k < w.heap.size → ok' k) : LV w ok' v xs := by
  rcases h with h | ⟨g, cap, cs, h1, h2, h3, h4, h5, h6, h7⟩
  · exact .inl h
  · refine .inr ⟨g, cap, cs, h1, hok g h2 (lt_of_block h3), h3, h4, h5, h6, fun i x hx => ?_⟩
    obtain ⟨b, k1, k2, k3, k4, k5⟩ := h7 i x hx
    exact ⟨b, k1, hok b k2 k5.lt, k3, k4, k5⟩
theorem LV.own {w : World} {ok : Nat → Prop} {v : Value} {xs : List (List Int)} (h : LV w ok v xs) {g : Nat} (hg : v.ownBlock = some g) : ok g ∧ g < w.heap.size ∧ ∃ cs : Array Value, w.heap[g]? = some (.cells cs 22 (0, 0)) := by
  rcases h with ⟨rfl, _⟩ | ⟨g', cap, cs, rfl, h2, h3, _⟩
  · simp [Value.ownBlock] at hg
  · have : g' = g := by simpa [Value.ownBlock] using hg
    subst this
    exact ⟨h2, lt_of_block h3, cs, h3⟩
/-- What becomes of the other blocks and of the list's own one leaves the list as it is. -/
theorem LV.keep {w w' : World} {ok : Nat → Prop} {v : Value} {xs : List (List Int)} (h : LV w ok v xs) (hk : ∀ k, ok k → k < w.heap.size → some k ≠ v.ownBlock → w'.heap[k]? = w.heap[k]?) (hp : ∀ g, v.ownBlock = some g → Pre w w' g xs.length) : LV w' ok v xs := by
  rcases h with h | ⟨g, cap, cs, rfl, h2, h3, h4, h5, h6, h7⟩
  · exact .inl h
  · obtain ⟨a, b, p1, p2, p3, p4⟩ := hp g rfl
    rw [h3] at p1
    obtain ⟨rfl⟩ : cs = a := by injection p1 with e; injection e
    refine .inr ⟨g, cap, b, rfl, h2, p2, h4, h5, by omega, fun i x hx => ?_⟩
    obtain ⟨c, k1, k2, k3, k4, k5⟩ := h7 i x hx
    have hi : i < xs.length := (List.getElem?_eq_some_iff.1 hx).1
    exact ⟨c, (p4 i hi).trans k1, k2, k3, k4, (hk c k2 k5.lt (fun e => k3 (by simpa [Value.ownBlock] using e))).trans k5⟩
theorem LV.same {w w' : World} {ok : Nat → Prop} {v : Value} {xs : List (List Int)} (h : LV w ok v xs) (hk : ∀ k, ok k → k < w.heap.size → w'.heap[k]? = w.heap[k]?) : LV w' ok v xs :=
  h.keep (fun k h1 h2 _ => hk k h1 h2) (fun g hg => by
    obtain ⟨h1, h2, cs, h3⟩ := h.own hg
    exact Pre.of_same h3 (hk g h1 h2))
theorem LV.C {w : World} {ok : Nat → Prop} {A : Option Addr} {c : Nat} {xs : List (List Int)} (h : LV w ok (.slice A xs.length c) xs) (hl : xs.length ≤ 1000) : Kd.C (Kd.slice 3 (Kd.int .i64)) w A xs.length xs := by
  refine ⟨rfl, by omega, fun hn => ?_⟩
  rcases h with ⟨_, rfl⟩ | ⟨g, cap, cs, e, _, h3, _, _, _, h7⟩
  · simp at hn
  · injection e with e1 e2 e3
    refine ⟨⟨g, 0, none⟩, e1, fun j x hx => ?_⟩
    obtain ⟨b, k1, k2, k3, k4, k5⟩ := h7 j x hx
    refine ⟨[.slice (some ⟨b, 0, none⟩) 3 3], rfl, ⟨some ⟨b, 0, none⟩, 3, by rw [k4], by omega, k5.C (by omega)⟩, fun i u hu => ?_⟩
    have hi : i = 0 := by
      have := (List.getElem?_eq_some_iff.1 hu).1
      simp at this
      exact this
    subst hi
    have hu' : u = .slice (some ⟨b, 0, none⟩) 3 3 := by simpa using hu.symm
    subst hu'
    have e : (⟨g, 0, none⟩ : Addr).add (j * (Kd.slice 3 (Kd.int .i64)).sz + 0) = ⟨g, j, none⟩ := by
      show (⟨g, 0, none⟩ : Addr).add (j * 1 + 0) = _
      rw [Nat.mul_one, Nat.add_zero]
      unfold Addr.add
      split <;> simp_all
    rw [e, cell_of_row w g j cs 22 (0, 0) h3]
    exact k1
theorem infoRow : (Try.prog.info? 22).map (fun i => (i.zero, i.size, i.bytes)) = some (some (.slice none 0 0), 1, 24) := by kernel_rfl
/-- A triple appended to a list that calls share: the list itself is as it was. -/
theorem LV.append {w : World} {ok : Nat → Prop} {v : Value} {xs : List (List Int)} {b sb : Nat} {x : List Int} (ty : TypeId) (h : LV w ok v xs) (hx : x.length = 3) (hb : Blk w b x) (hsb : w.heap[sb]? = some (.cells #[.slice (some ⟨b, 0, none⟩) 3 3] 22 (0, 0))) (hokb : ok b) (hbo : some b ≠ v.ownBlock) (hfresh : ∀ k, w.heap.size ≤ k → ok k) (hn : xs.length ≤ 1000) :
    ∃ v' w', (Builtin.append_ #[23, 23] ty #[v, .slice (some ⟨sb, 0, none⟩) 1 1]).run Try.prog w = .ok v' w' ∧ LV w' ok v' (xs ++ [x]) ∧ w.grownBy w' v.ownBlock ∧ (∀ g, v.ownBlock = some g → Pre w w' g xs.length) ∧ (v'.ownBlock = v.ownBlock ∨ ∃ g, v'.ownBlock = some g ∧ w.heap.size ≤ g) := by
  obtain ⟨i, hi, hz, hs, hbytes⟩ : ∃ i, Try.prog.info? 22 = some i ∧ i.zero = some (.slice none 0 0) ∧ i.size = 1 ∧ i.bytes = 24 := by
    have e := infoRow
    cases hq : Try.prog.info? 22 with
    | none => simp [hq] at e
    | some i =>
      simp [hq] at e
      exact ⟨i, rfl, e.1, e.2.1, e.2.2⟩
  have hnews : ∀ j u, [Value.slice (some ⟨b, 0, none⟩) 3 3][j]? = some u → w.cell? ((⟨sb, 0, none⟩ : Addr).add j) = some u := by
    intro j u hu
    exact World.news_of_block hsb j u (by simpa using hu)
  have hone : ∀ u ∈ [Value.slice (some ⟨b, 0, none⟩) 3 3], u.oneCell' = true := by
    intro u hu
    rw [List.mem_singleton.1 hu]
    rfl
  have hm1 : xs.length + 1 ≤ maxLen := by unfold maxLen; omega
  have grown : ∀ {v' : Value} {w' : World} {olds : List Value}, w'.ownsRow w.heap.size 22 1 v' (xs.length + 1) (olds ++ [.slice (some ⟨b, 0, none⟩) 3 3]) → w.grownBy w' none → olds.length = xs.length → (∀ (i : Nat) (y : List Int), xs[i]? = some y → ∃ c, olds[i]? = some (.slice (some ⟨c, 0, none⟩) 3 3) ∧ ok c ∧ y.length = 3 ∧ Blk w c y) → LV w' ok v' (xs ++ [x]) ∧ ∃ g, v'.ownBlock = some g ∧ w.heap.size ≤ g := by
    intro v' w' olds ho hg hol hall
    rcases ho.2 with ⟨_, h0⟩ | ⟨g, cap, cur, rfl, hge, hh, hnc, hcm, hsz, htk⟩
    · omega
    · have hget : ∀ j, j < xs.length + 1 → cur[j]? = (olds ++ [.slice (some ⟨b, 0, none⟩) 3 3])[j]? := by
        intro j hj
        rw [← htk, List.getElem?_take_of_lt (by omega), Array.getElem?_toList]
      refine ⟨.inr ⟨g, cap, cur, by simp, hfresh g hge, hh, by simpa using hnc, hcm, by omega, fun j y hy => ?_⟩, g, rfl, hge⟩
      rcases Nat.lt_or_ge j xs.length with hj | hj
      · rw [List.getElem?_append_left hj] at hy
        obtain ⟨c, k1, k2, k3, k4⟩ := hall j y hy
        refine ⟨c, by rw [hget j (by omega), List.getElem?_append_left (by omega)]; exact k1, k2, fun e => ?_, k3, (hg.block c k4.lt (by simp)).trans k4⟩
        have := k4.lt
        omega
      · have hj' : j = xs.length := by
          have := (List.getElem?_eq_some_iff.1 hy).1
          rw [List.length_append, List.length_singleton] at this
          omega
        subst hj'
        have hxy : x = y := by simpa using hy
        subst hxy
        refine ⟨b, by rw [hget _ (by omega), ← hol]; simp, hokb, fun e => ?_, hx, (hg.block b hb.lt (by simp)).trans hb⟩
        have := hb.lt
        omega
  rcases h with ⟨rfl, rfl⟩ | ⟨g, cap, cs, rfl, h2, h3, h4, h5, h6, h7⟩
  · obtain ⟨v', w', hrun, r1, r2, _⟩ := run_append_own (P := Try.prog) w w.heap.size 23 ty 22 i (.slice none 0 0) 1 24 Try.underlying23 hi hz hs hbytes rfl (by decide) (.slice none 0 0) 0 [] (World.ownsRow_nil w _ 22 1) ⟨sb, 0, none⟩ 1 1 _ rfl hnews hone (by unfold maxLen; omega) (by omega) (Nat.le_refl _)
    obtain ⟨l1, l2⟩ := grown (olds := []) r1 r2 rfl (fun i y hy => by simp at hy)
    exact ⟨v', w', hrun, l1, r2, fun g hg => by simp [Value.ownBlock] at hg, .inr l2⟩
  · by_cases hr : xs.length + 1 ≤ cap
    · have hlt : xs.length < cs.size := by omega
      have hrun := run_append_room_cells (P := Try.prog) w 23 ty 22 i Try.underlying23 hi g 0 xs.length cap ⟨sb, 0, none⟩ 1 1 [.slice (some ⟨b, 0, none⟩) 3 3] (by rw [hs]; rfl) hnews hone hr (fun j hj => by
        have hj0 : j = 0 := by simpa using hj
        subst hj0
        rw [hs, cell_of_row w g _ cs _ (0, 0) h3]
        simp
        omega) (fun j hj => frozen_of_row w g _ cs _ h3)
      rw [hs, Nat.zero_add, Nat.mul_one] at hrun
      have hrun' : (Builtin.append_ #[23, 23] ty #[.slice (some ⟨g, 0, none⟩) xs.length cap, .slice (some ⟨sb, 0, none⟩) 1 1]).run Try.prog w = .ok (.slice (some ⟨g, 0, none⟩) (xs.length + 1) cap) (w.setCell ⟨g, xs.length, none⟩ (.slice (some ⟨b, 0, none⟩) 3 3)) := hrun
      have hh := heap_setCell_same w g xs.length cs 22 (.slice (some ⟨b, 0, none⟩) 3 3) h3
      have hoth : ∀ k, k ≠ g → (w.setCell ⟨g, xs.length, none⟩ (.slice (some ⟨b, 0, none⟩) 3 3)).heap[k]? = w.heap[k]? := fun k hk => heap_setCell_other w ⟨g, xs.length, none⟩ k _ hk
      have hcs : ∀ j, j < xs.length → (cs.setIfInBounds xs.length (.slice (some ⟨b, 0, none⟩) 3 3))[j]? = cs[j]? := fun j hj => by
        rw [Array.getElem?_setIfInBounds, if_neg (by omega)]
      have hbg : b ≠ g := fun e => hbo (by rw [e]; rfl)
      refine ⟨_, _, hrun', .inr ⟨g, cap, _, by simp, h2, hh, by simpa using hr, h5, by simpa using h6, fun j y hy => ?_⟩, ⟨rfl, rfl, rfl, by simp [World.setCell], fun k _ hk => hoth k (fun e => hk (by rw [e]; rfl))⟩, fun g' hg' => ?_, .inl rfl⟩
      · rcases Nat.lt_or_ge j xs.length with hj | hj
        · rw [List.getElem?_append_left hj] at hy
          obtain ⟨c, k1, k2, k3, k4, k5⟩ := h7 j y hy
          exact ⟨c, by rw [hcs j hj]; exact k1, k2, k3, k4, (hoth c k3).trans k5⟩
        · have hj' : j = xs.length := by
            have := (List.getElem?_eq_some_iff.1 hy).1
            rw [List.length_append, List.length_singleton] at this
            omega
          subst hj'
          have hxy : x = y := by simpa using hy
          subst hxy
          exact ⟨b, by rw [Array.getElem?_setIfInBounds, if_pos rfl, if_pos hlt], hokb, hbg, hx, (hoth b hbg).trans hb⟩
      · have : g = g' := by simpa [Value.ownBlock] using hg'
        subst this
        exact ⟨cs, _, h3, hh, by simp, hcs⟩
    · have htl : (cs.toList.take xs.length).length = xs.length := by have : cs.toList.length = cs.size := Array.length_toList; rw [List.length_take]; omega
      have hol : ∀ j, j < xs.length → (cs.toList.take xs.length)[j]? = cs[j]? := fun j hj => by
        rw [List.getElem?_take_of_lt hj, Array.getElem?_toList]
      obtain ⟨v', w', hrun, r1, r2⟩ := run_append_arg_grows (P := Try.prog) w 23 ty 22 i (.slice none 0 0) 1 24 Try.underlying23 hi hz hs hbytes rfl (by decide) ⟨g, 0, none⟩ xs.length cap (cs.toList.take xs.length) (by rw [htl]; omega) (fun j u hu => by
        have hj : j < xs.length := by have := (List.getElem?_eq_some_iff.1 hu).1; omega
        rw [hol j hj] at hu
        have e : (⟨g, 0, none⟩ : Addr).add j = ⟨g, j, none⟩ := by unfold Addr.add; split <;> simp_all
        rw [e, cell_of_row w g j cs _ (0, 0) h3]
        exact hu) ⟨sb, 0, none⟩ 1 1 [.slice (some ⟨b, 0, none⟩) 3 3] rfl hnews (by omega) hm1 (by omega)
      obtain ⟨l1, l2⟩ := grown r1 r2 htl (fun j y hy => by
        obtain ⟨c, k1, k2, k3, k4, k5⟩ := h7 j y hy
        have hj : j < xs.length := (List.getElem?_eq_some_iff.1 hy).1
        exact ⟨c, by rw [hol j hj]; exact k1, k2, k4, k5⟩)
      exact ⟨v', w', hrun, l1, ⟨r2.os, r2.tape, r2.output, r2.size, fun k hk _ => r2.block k hk (by simp)⟩, fun g' hg' => by
        have : g = g' := by simpa [Value.ownBlock] using hg'
        subst this
        exact Pre.of_same h3 (r2.block g (lt_of_block h3) (by simp)), .inr l2⟩
/-- The same for the walk. -/
theorem LV.wp_append {ops : Array Oper} {rest : List Oper} {o : Oper} {a : Act} {Q : Exit → Act → World → Prop} {w : World} {ok : Nat → Prop} {v : Value} {xs : List (List Int)} {b sb : Nat} {x : List Int} (hg : o.guard = none) (s y : Operand) (hop : o.op = Op.call { callee := Callee.builtin Builtin.append, args := #[s, y], argTypes := #[23, 23] })
    (hs : a.eval s = v) (hy : a.eval y = .slice (some ⟨sb, 0, none⟩) 1 1) (h : LV w ok v xs) (hx : x.length = 3) (hb : Blk w b x) (hsb : w.heap[sb]? = some (.cells #[.slice (some ⟨b, 0, none⟩) 3 3] 22 (0, 0))) (hokb : ok b) (hbo : some b ≠ v.ownBlock) (hfresh : ∀ k, w.heap.size ≤ k → ok k) (hn : xs.length ≤ 1000)
    (hK : ∀ v' w', LV w' ok v' (xs ++ [x]) → w.grownBy w' v.ownBlock → (∀ g, v.ownBlock = some g → Pre w w' g xs.length) → (v'.ownBlock = v.ownBlock ∨ ∃ g, v'.ownBlock = some g ∧ w.heap.size ≤ g) → wpList Try.prog ops Q rest (a.put o.dst v') w') :
    wpList Try.prog ops Q (o :: rest) a w := by
  refine wpList_plain hg fun K hK' => ?_
  obtain ⟨v', w', hrun, r1, r2, r3, r4⟩ := LV.append o.type h hx hb hsb hokb hbo hfresh hn
  unfold Oper.wp
  simp [execOp, hop, resolve, invoke, builtin, hs, hy, hrun, Result.andThen]
  exact hK' _ _ (hK v' w' r1 r2 r3 r4)
end Go.Proofs.Ytgpnhaaklhinlaa.Search
