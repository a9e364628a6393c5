/- The reference's search for a triple system. Conditions: none but those that each lemma states. -/
import Derived.Test.YteepinopcmcklaaSShare
import Derived.Deep.Upon
namespace Go.Proofs.Yteepinopcmcklaa.Search
open Go.RowKit Go.Proofs.YteepinopcmcklaaW.PrintWords Go.Proofs.YteepinopcmcklaaW.PrintLast Go.Proofs.YteepinopcmcklaaW.PrintMore
set_option linter.unusedVariables false
set_option linter.unusedSimpArgs false
/-- A row of bools at the head of a block; the block may be longer. -/
def RowB (w : World) (g : Nat) (xs : List Bool) : Prop := ∃ cs : Array Value, w.heap[g]? = some (.cells cs 4 (0, 0)) ∧ ∀ (i : Nat) (x : Bool), xs[i]? = some x → cs[i]? = some (.bool x)
theorem RowB.cell {w : World} {g : Nat} {xs : List Bool} (h : RowB w g xs) {i : Nat} (hi : i < xs.length) : w.cell? ⟨g, i, none⟩ = some (.bool (rdOf false xs (i : Int))) := by
  obtain ⟨cs, h1, h2⟩ := h
  rw [cell_of_row w g i cs 4 (0, 0) h1, h2 i xs[i] (List.getElem?_eq_getElem hi)]
  simp [rdOf, List.getD_eq_getElem?_getD, hi]
theorem RowB.free {w : World} {g : Nat} {xs : List Bool} (h : RowB w g xs) (i : Nat) : w.frozen? ⟨g, i, none⟩ = false := by
  obtain ⟨cs, h1, _⟩ := h
  exact frozen_of_row w g i _ 4 h1
theorem RowB.lt {w : World} {g : Nat} {xs : List Bool} (h : RowB w g xs) : g < w.heap.size := by
  obtain ⟨cs, h1, _⟩ := h
  exact lt_of_block h1
theorem RowB.same {w w' : World} {g : Nat} {xs : List Bool} (h : RowB w g xs) (hk : w'.heap[g]? = w.heap[g]?) : RowB w' g xs := by
  obtain ⟨cs, h1, h2⟩ := h
  exact ⟨cs, hk.trans h1, h2⟩
theorem RowB.set {w : World} {g : Nat} {xs : List Bool} (h : RowB w g xs) {i : Nat} (hi : i < xs.length) (x : Bool) : RowB (w.setCell ⟨g, i, none⟩ (.bool x)) g (xs.set i x) := by
  obtain ⟨cs, h1, h2⟩ := h
  refine ⟨_, heap_setCell_same w g i cs 4 _ h1, fun j y hj => ?_⟩
  rw [List.getElem?_set] at hj
  rw [Array.getElem?_setIfInBounds]
  by_cases e : i = j
  · rw [if_pos e, if_pos hi] at hj
    have hc : i < cs.size := (Array.getElem?_eq_some_iff.1 (h2 i xs[i] (List.getElem?_eq_getElem hi))).1
    rw [if_pos e, if_pos hc]
    injection hj with hj
    rw [hj]
  · rw [if_neg e] at hj
    rw [if_neg e]
    exact h2 j y hj
theorem BlkB.row {w : World} {g : Nat} {xs : List Bool} (h : BlkB w g xs) : RowB w g xs := ⟨_, h, fun i x hx => by simp [hx]⟩
theorem infoBoolF : (Try.prog.info? 4).map (fun i => (i.zero, i.size, i.bytes)) = some (some (.bool false), 1, 1) := by kernel_rfl
/-- A copy of a row of bools: append to an empty row. -/
theorem RowB.wp_copy {ops : Array Oper} {rest : List Oper} {o : Oper} {a : Act} {Q : Exit → Act → World → Prop} {w : World} {g0 U cap : Nat} {xs : List Bool} (hg : o.guard = none) (s y : Operand) (hop : o.op = Op.call { callee := Callee.builtin Builtin.append, args := #[s, y], argTypes := #[47, 47] })
    (hs : a.eval s = .slice (some ⟨g0, 0, none⟩) 0 0) (hy : a.eval y = .slice (some ⟨U, 0, none⟩) xs.length cap) (h : RowB w U xs) (hl : 0 < xs.length) (hn : xs.length ≤ 1000)
    (hK : ∀ g c w', xs.length ≤ c → RowB w' g xs → w.heap.size ≤ g → w.grownBy w' none → wpList Try.prog ops Q rest (a.put o.dst (.slice (some ⟨g, 0, none⟩) xs.length c)) w') :
    wpList Try.prog ops Q (o :: rest) a w := by
  refine wpList_plain hg fun K hK' => ?_
  obtain ⟨i, hi, hz, hsz, hbytes⟩ : ∃ i, Try.prog.info? 4 = some i ∧ i.zero = some (.bool false) ∧ i.size = 1 ∧ i.bytes = 1 := by
    have e := infoBoolF
    cases hq : Try.prog.info? 4 with
    | none => simp [hq] at e
    | some i =>
      simp [hq] at e
      exact ⟨i, rfl, e.1, e.2.1, e.2.2⟩
  obtain ⟨v', w', hrun, r1, r2⟩ := run_append_arg_grows (P := Try.prog) w 47 o.type 4 i (.bool false) 1 1 Try.underlying47 hi hz hsz hbytes rfl (by decide) ⟨g0, 0, none⟩ 0 0 [] rfl (fun j u hu => by simp at hu) ⟨U, 0, none⟩ xs.length cap (xs.map Value.bool) (by simp) (fun j u hu => by
    have hj : j < xs.length := by have := (List.getElem?_eq_some_iff.1 hu).1; simpa using this
    have e : (⟨U, 0, none⟩ : Addr).add j = ⟨U, j, none⟩ := by unfold Addr.add; split <;> simp_all
    rw [e, h.cell hj]
    rw [List.getElem?_map, List.getElem?_eq_getElem hj] at hu
    rw [← hu]
    simp [rdOf, List.getD_eq_getElem?_getD, hj]) (by omega) (by unfold maxLen; omega) (by omega)
  rcases r1.2 with ⟨_, h0⟩ | ⟨g, c, cur, rfl, hge, hh, hnc, hcm, hcs, htk⟩
  · omega
  · unfold Oper.wp
    simp [execOp, hop, resolve, invoke, builtin, hs, hy, hrun, Result.andThen]
    rw [Nat.zero_add] at hnc
    refine hK' _ _ (hK g c w' hnc ⟨cur, hh, fun j x hj => ?_⟩ hge r2)
    have hjl : j < xs.length := (List.getElem?_eq_some_iff.1 hj).1
    have : cur[j]? = ([] ++ xs.map Value.bool)[j]? := by
      rw [← htk, List.getElem?_take_of_lt (by omega), Array.getElem?_toList]
    rw [this, List.nil_append, List.getElem?_map, hj]
    rfl
/-- A copy of a list of triples: append to an empty one. -/
theorem LV.wp_copy {ops : Array Oper} {rest : List Oper} {o : Oper} {a : Act} {Q : Exit → Act → World → Prop} {w : World} {ok : Nat → Prop} {g0 : Nat} {A : Option Addr} {c : Nat} {xs : List (List Int)} (hg : o.guard = none) (s y : Operand) (hop : o.op = Op.call { callee := Callee.builtin Builtin.append, args := #[s, y], argTypes := #[22, 22] })
    (hs : a.eval s = .slice (some ⟨g0, 0, none⟩) 0 0) (hy : a.eval y = .slice A xs.length c) (h : LV w ok (.slice A xs.length c) xs) (hg0 : w.heap[g0]? = some (.cells #[] 29 (0, 0))) (hok0 : ok g0) (hfresh : ∀ k, w.heap.size ≤ k → ok k) (hn : xs.length ≤ 1000)
    (hK : ∀ A' c' w', LV w' ok (.slice A' xs.length c') xs → w.grownBy w' none → (∃ g, (Value.slice A' xs.length c').ownBlock = some g ∧ (g = g0 ∨ w.heap.size ≤ g)) → wpList Try.prog ops Q rest (a.put o.dst (.slice A' xs.length c')) w') :
    wpList Try.prog ops Q (o :: rest) a w := by
  refine wpList_plain hg fun K hK' => ?_
  obtain ⟨i, hi, hz, hsz, hbytes⟩ : ∃ i, Try.prog.info? 29 = some i ∧ i.zero = some (.slice none 0 0) ∧ i.size = 1 ∧ i.bytes = 24 := by
    have e := infoRow
    cases hq : Try.prog.info? 29 with
    | none => simp [hq] at e
    | some i =>
      simp [hq] at e
      exact ⟨i, rfl, e.1, e.2.1, e.2.2⟩
  by_cases he : xs = []
  · subst he
    have hsrc : Src Try.prog i.size 22 (.slice A 0 c) 0 [] w := by
      cases A with
      | none => exact Src.ofNil w Try.underlying22 c
      | some ad => exact Src.ofSlice w Try.underlying22 ad 0 c [] (by simp) (fun j u hu => by simp at hu) (fun u hu => by simp at hu)
    have hrun := run_append_nothing (P := Try.prog) w 22 22 o.type 29 i Try.underlying22 hi (some ⟨g0, 0, none⟩) 0 0 (Nat.le_refl _) (.slice A 0 c) hsrc
    have hy' : a.eval y = .slice A 0 c := hy
    unfold Oper.wp
    simp [execOp, hop, resolve, invoke, builtin, hs, hy', hrun, Result.andThen]
    refine hK' _ _ (hK (some ⟨g0, 0, none⟩) 0 w (.inr ⟨g0, 0, #[], rfl, hok0, hg0, Nat.le_refl _, by unfold maxLen; omega, rfl, fun j x hj => by simp at hj⟩) (World.grownBy.refl w _) ⟨g0, rfl, .inl rfl⟩)
  · have hpos : 0 < xs.length := List.length_pos_iff.2 he
    rcases h with ⟨_, e⟩ | ⟨gs, cap, cs, e, h2, h3, h4, h5, h6, h7⟩
    · exact absurd e he
    · injection e with e1 _ e3
      subst e1
      subst e3
      have htl : (cs.toList.take xs.length).length = xs.length := by have : cs.toList.length = cs.size := Array.length_toList; rw [List.length_take]; omega
      have hol : ∀ j, j < xs.length → (cs.toList.take xs.length)[j]? = cs[j]? := fun j hj => by
        rw [List.getElem?_take_of_lt hj, Array.getElem?_toList]
      obtain ⟨v', w', hrun, r1, r2⟩ := run_append_arg_grows (P := Try.prog) w 22 o.type 29 i (.slice none 0 0) 1 24 Try.underlying22 hi hz hsz hbytes rfl (by decide) ⟨g0, 0, none⟩ 0 0 [] rfl (fun j u hu => by simp at hu) ⟨gs, 0, none⟩ xs.length c (cs.toList.take xs.length) (by rw [htl]; omega) (fun j u hu => by
        have hj : j < xs.length := by have := (List.getElem?_eq_some_iff.1 hu).1; omega
        rw [hol j hj] at hu
        have e : (⟨gs, 0, none⟩ : Addr).add j = ⟨gs, j, none⟩ := by unfold Addr.add; split <;> simp_all
        rw [e, cell_of_row w gs j cs _ (0, 0) h3]
        exact hu) (by omega) (by unfold maxLen; omega) (by omega)
      rcases r1.2 with ⟨_, h0⟩ | ⟨g, c', cur, rfl, hge, hh, hnc, hcm, hcs, htk⟩
      · omega
      · unfold Oper.wp
        simp [execOp, hop, resolve, invoke, builtin, hs, hy, hrun, Result.andThen]
        rw [Nat.zero_add] at hnc
        refine hK' _ _ (hK (some ⟨g, 0, none⟩) c' w' (.inr ⟨g, c', cur, rfl, hfresh g hge, hh, hnc, hcm, by omega, fun j x hj => ?_⟩) r2 ⟨g, rfl, .inr hge⟩)
        have hjl : j < xs.length := (List.getElem?_eq_some_iff.1 hj).1
        obtain ⟨b, k1, k2, k3, k4, k5⟩ := h7 j x hj
        have : cur[j]? = ([] ++ cs.toList.take xs.length)[j]? := by
          rw [← htk, List.getElem?_take_of_lt (by omega), Array.getElem?_toList]
        refine ⟨b, by rw [this, List.nil_append, hol j hjl]; exact k1, k2, fun e => by have := k5.lt; omega, k4, (r2.block b k5.lt (by simp)).trans k5⟩
/-- A list of triples as the print's words have it: its cells and its rows' are all that it leans on. -/
theorem LV.view {w : World} {ok : Nat → Prop} {v : Value} {xs : List (List Int)} (h : LV w ok v xs) (base : Nat) (hn : xs.length ≤ 1000) : Kd.V (Kd.slice 3 (Kd.int .i64)) 29 w base ok v xs := by
  obtain ⟨A, c, rfl, hc⟩ := h.slice
  exact ⟨A, c, rfl, hc, fun W' hW => (h.same (fun k h1 h2 => hW k h1 h2)).C hn⟩
/-- The first point b, counted from b on, that a is not together with yet. -/
def firB (V : Nat) (seen : List Bool) (a : Nat) : Nat → Nat → Option Nat
  | 0, _ => none
  | r + 1, b => if rdOf false seen ((a * V + b : Nat) : Int) = true then firB V seen a r (b + 1) else some b
/-- The first two points that are not together yet. -/
def firA (V : Nat) (seen : List Bool) : Nat → Nat → Option (Nat × Nat)
  | 0, _ => none
  | r + 1, a => match firB V seen a (V - (a + 1)) (a + 1) with
    | some b => some (a, b)
    | none => firA V seen r (a + 1)
def firC (V : Nat) (rec_ : List (List Int) → List Bool → Option (Option (List (List Int)))) (blocks : List (List Int)) (seen : List Bool) (a b : Nat) : Nat → Nat → Option (Option (List (List Int)))
  | 0, _ => some none
  | r + 1, c =>
    if rdOf false seen ((a * V + c : Nat) : Int) = true ∨ rdOf false seen ((b * V + c : Nat) : Int) = true then firC V rec_ blocks seen a b r (c + 1)
    else (rec_ (blocks ++ [[(a : Int), (b : Int), (c : Int)]]) (((seen.set (a * V + b) true).set (a * V + c) true).set (b * V + c) true)).bind fun q => match q with
      | some o => some (some o)
      | none => firC V rec_ blocks seen a b r (c + 1)
def firF (V : Nat) : Nat → List (List Int) → List Bool → Option (Option (List (List Int)))
  | 0, _, _ => none
  | k + 1, blocks, seen =>
    if blocks.length > 100 then none
    else match firA V seen V 0 with
      | none => some (some blocks)
      | some (a, b) => firC V (firF V k) blocks seen a b (V - (b + 1)) (b + 1)
/-- What a call of the search leaves. -/
def FirPost (ok : Nat → Prop) (r : Option (List (List Int))) (w : World) (e : Ending) (w' : World) : Prop :=
  (match r with
    | some out => ∃ v0 : Value, e = .returned (.tuple #[v0, .bool true]) ∧ LV w' ok v0 out
    | none => e = .returned (.tuple #[.slice none 0 0, .bool false])) ∧ Below w.heap.size w w'
set_option maxHeartbeats 8000000 in
set_option maxRecDepth 100000 in
theorem fir_step {V : Nat} {ok : Nat → Prop} (hV : 1 ≤ V ∧ V ≤ 9) (B : Nat) (hok : ∀ k, B ≤ k → ok k) (k : Nat)
    (IH : Aside0 (∀ (blocks : List (List Int)) (seen : List Bool) (A : Option Addr) (c U cu : Nat) (r : Option (List (List Int))) (w : World), seen.length = V * V → seen.length ≤ cu → RowB w U seen → LV w ok (.slice A blocks.length c) blocks → B ≤ w.heap.size → firF V k blocks seen = some r →
      Calls Try.prog 37 #[.int .i64 (V : Int), .slice A blocks.length c, .slice (some ⟨U, 0, none⟩) seen.length cu] w (FirPost ok r w))) :
    ∀ (blocks : List (List Int)) (seen : List Bool) (A : Option Addr) (c U cu : Nat) (r : Option (List (List Int))) (w : World), seen.length = V * V → seen.length ≤ cu → RowB w U seen → LV w ok (.slice A blocks.length c) blocks → B ≤ w.heap.size → firF V (k + 1) blocks seen = some r →
      Calls Try.prog 37 #[.int .i64 (V : Int), .slice A blocks.length c, .slice (some ⟨U, 0, none⟩) seen.length cu] w (FirPost ok r w) := by
  intro blocks seen A c U cu r w hsl hcu hS hLV hBW h
  have hVV : V * V ≤ 81 := Nat.mul_le_mul hV.2 hV.2
  have hV1 : 1 ≤ V * V := Nat.mul_le_mul hV.1 hV.1
  have HS := Aside0.mk hS
  have HLV := Aside0.mk hLV
  have HBW := Aside0.mk hBW
  have HOK := Aside0.mk hok
  have HL := Aside0.mk (show seen.length = V * V ∧ 0 < seen.length ∧ seen.length ≤ 81 ∧ 1 ≤ V ∧ V ≤ 9 ∧ seen.length ≤ cu from ⟨hsl, by omega, by omega, hV.1, hV.2, hcu⟩)
  have HVV := Aside0.mk (show V * V ≤ 81 from hVV)
  simp only [firF] at h
  by_cases hl : blocks.length > 100
  · rw [if_pos hl] at h
    cases h
  · rw [if_neg hl] at h
    have HBL := Aside0.mk (show blocks.length ≤ 100 by omega)
    have H := Aside0.mk h
    clear hsl hcu hS hLV hBW h hVV hV1 hl hok hV
    go_enter Try.func37, Try.ntmps37
    go_wp2
    go_loopg [8] (V + 1) (fun kq v8 w' => ∃ a : Nat, v8 = .int .i64 (a : Int) ∧ Aside0 (a ≤ V ∧ kq + a = V + 1) ∧ Aside0 (firA V seen V 0 = firA V seen (V - a) a) ∧ w' = w)
    case atStart => exact ⟨0, rfl, ⟨by omega⟩, ⟨rfl⟩, rfl⟩
    case round =>
      obtain ⟨a, rfl, HA, HFA, rfl⟩ := hrel
      cases gk with
      | zero => exact absurd HA.out (by omega)
      | succ k1 =>
        have HA1 := Aside0.mk (show wrap64 ((a : Int) + 1) = ((a + 1 : Nat) : Int) from wsucc (by have := HA.out; have := HL.out; omega))
        by_cases ha : a < V
        · have ca : decide ((a : Int) < (V : Int)) = true := decide_eq_true (by omega)
          have ca' : decide (a < V) = true := decide_eq_true ha
          have HAV := Aside0.mk ha
          have HPA := Aside0.mk (show a * V + V ≤ V * V by
            have h1 : (a + 1) * V ≤ V * V := Nat.mul_le_mul_right _ ha
            rwa [Nat.succ_mul] at h1)
          have HPC := Aside0.mk (show ((a * V : Nat) : Int) = (a : Int) * (V : Int) from Int.natCast_mul _ _)
          clear ha
          go_wp2
          go_loopg [9] (V + 1) (fun kq v9 w' => ∃ y : Int, v9 = .int .i64 y ∧ Aside0 ((a : Int) + 1 ≤ y ∧ y ≤ (V : Int) ∧ kq + y.toNat = V + 2 + a) ∧ Aside0 (firA V seen V 0 = (match firB V seen a (V - y.toNat) y.toNat with | some b => some (a, b) | none => firA V seen (V - (a + 1)) (a + 1))) ∧ w' = wr)
          case atStart => exact ⟨(a : Int) + 1, by rw [HA1.out]; rfl, ⟨by have := HAV.out; omega⟩, ⟨by
            have e := HFA.out
            rw [show V - a = (V - (a + 1)) + 1 by have := HAV.out; omega] at e
            rw [e, show ((a : Int) + 1).toNat = a + 1 by omega]
            rfl⟩, rfl⟩
          case round =>
            obtain ⟨y, rfl, HY, HFB, hww⟩ := hrel
            subst hww
            cases gk with
            | zero => exact absurd HY.out (by omega)
            | succ k2 =>
              obtain ⟨yab, hyab⟩ : ∃ yab : Int, wrap64 (wrap64 ((a : Int) * (V : Int)) + y) = yab := ⟨_, rfl⟩
              have HYAB := Aside0.mk (show yab = ((a * V : Nat) : Int) + y by
                rw [← hyab, ← HPC.out]
                have := HY.out; have := HPA.out; have := HL.out; have := HVV.out
                rw [wsame (n := ((a * V : Nat) : Int)) (by omega) (by omega), wsame (by omega) (by omega)])
              have HY1 := Aside0.mk (show wrap64 (y + 1) = y + 1 by have := HY.out; have := HL.out; unfold wrap64; omega)
              by_cases hy : y < (V : Int)
              · have cy : decide (y < (V : Int)) = true := decide_eq_true hy
                have HYV := Aside0.mk hy
                have HTB := Aside0.mk (show yab.toNat < seen.length ∧ yab.toNat = a * V + y.toNat ∧ ((yab.toNat : Nat) : Int) = yab by have := HYAB.out; have := HY.out; have := HPA.out; have := HL.out; omega)
                have p1 : (0 ≤ yab) = True := eq_true (by have := HTB.out; omega)
                have q1 : (yab < (seen.length : Int)) = True := eq_true (by have := HTB.out; omega)
                have g1 := HS.out.cell HTB.out.1
                rw [HTB.out.2.2] at g1
                have hb := HFB.out
                rw [show V - y.toNat = (V - y.toNat - 1) + 1 by have := HY.out; omega, firB, ← HTB.out.2.1, HTB.out.2.2] at hb
                clear hy
                cases hu1 : rdOf false seen yab with
                | true =>
                  rw [hu1] at hb g1
                  rw [if_pos rfl] at hb
                  have HB1 := Aside0.mk hb
                  clear hb hu1
                  go_wp2
                  go_roundg k2
                  case measure => have := HY.out; omega
                  case rel => exact ⟨y + 1, by rw [HY1.out], ⟨by have := HY.out; have := HYV.out; omega⟩, by rw [show V - (y + 1).toNat = V - y.toNat - 1 by have := HY.out; omega, show (y + 1).toNat = y.toNat + 1 by have := HY.out; omega]; exact HB1, rfl⟩
                | false =>
                  rw [hu1] at hb g1
                  rw [if_neg (by decide)] at hb
                  simp only [] at hb
                  have hc := H.out
                  rw [hb] at hc
                  simp only [] at hc
                  have HC := Aside0.mk hc
                  have HYN := Aside0.mk (show ((y.toNat : Nat) : Int) = y by have := HY.out; omega)
                  have HPB := Aside0.mk (show y.toNat * V + V ≤ V * V by
                    have h1 : (y.toNat + 1) * V ≤ V * V := Nat.mul_le_mul_right _ (by have := HYV.out; have := HY.out; omega)
                    rwa [Nat.succ_mul] at h1)
                  have HPD := Aside0.mk (show ((y.toNat * V : Nat) : Int) = y * (V : Int) by rw [Int.natCast_mul, HYN.out])
                  clear hb hc hu1
                  go_wp2
                  simp only [hyab]
                  go_loopg [10] (V + 1) (fun kq v10 w' => ∃ z : Int, v10 = .int .i64 z ∧ Aside0 (y + 1 ≤ z ∧ z ≤ (V : Int) ∧ kq + z.toNat = V + 2 + y.toNat) ∧ Aside0 (firC V (firF V k) blocks seen a y.toNat (V - z.toNat) z.toNat = some r) ∧ Aside0 (Below wr.heap.size wr w'))
                  case atStart => exact ⟨y + 1, by rw [HY1.out], ⟨by have := HY.out; have := HYV.out; omega⟩, ⟨by rw [show V - (y + 1).toNat = V - (y.toNat + 1) by have := HY.out; omega, show (y + 1).toNat = y.toNat + 1 by have := HY.out; omega]; exact HC.out⟩, ⟨Below.refl _ _⟩⟩
                  case round =>
                    obtain ⟨z, rfl, HZ, HFC, HBW1⟩ := hrel
                    cases gk with
                    | zero => exact absurd HZ.out (by have := HY.out; omega)
                    | succ k3 =>
                      obtain ⟨yac, hyac⟩ : ∃ yac : Int, wrap64 (wrap64 ((a : Int) * (V : Int)) + z) = yac := ⟨_, rfl⟩
                      obtain ⟨ybc, hybc⟩ : ∃ ybc : Int, wrap64 (wrap64 (y * (V : Int)) + z) = ybc := ⟨_, rfl⟩
                      have HYAC := Aside0.mk (show yac = ((a * V : Nat) : Int) + z by
                        rw [← hyac, ← HPC.out]
                        have := HZ.out; have := HY.out; have := HPA.out; have := HL.out; have := HVV.out
                        rw [wsame (n := ((a * V : Nat) : Int)) (by omega) (by omega), wsame (by omega) (by omega)])
                      have HYBC := Aside0.mk (show ybc = ((y.toNat * V : Nat) : Int) + z by
                        rw [← hybc, ← HPD.out]
                        have := HZ.out; have := HY.out; have := HPB.out; have := HL.out; have := HVV.out
                        rw [wsame (n := ((y.toNat * V : Nat) : Int)) (by omega) (by omega), wsame (by omega) (by omega)])
                      have HZ0 := Aside0.mk (show wrap64 (z + 1) = z + 1 by have := HZ.out; have := HY.out; have := HL.out; unfold wrap64; omega)
                      by_cases hz : z < (V : Int)
                      · have cz : decide (z < (V : Int)) = true := decide_eq_true hz
                        have HZV := Aside0.mk hz
                        have HTA := Aside0.mk (show yab.toNat < seen.length ∧ yac.toNat < seen.length ∧ ybc.toNat < seen.length by have := HTB.out; have := HYAC.out; have := HYBC.out; have := HZ.out; have := HY.out; have := HPA.out; have := HPB.out; have := HL.out; omega)
                        have HNN := Aside0.mk (show yac.toNat = a * V + z.toNat ∧ ((yac.toNat : Nat) : Int) = yac ∧ ybc.toNat = y.toNat * V + z.toNat ∧ ((ybc.toNat : Nat) : Int) = ybc ∧ ((z.toNat : Nat) : Int) = z by have := HYAC.out; have := HYBC.out; have := HZ.out; have := HY.out; omega)
                        have HPQ := Aside0.mk (show 0 ≤ yab ∧ yab < (seen.length : Int) ∧ 0 ≤ yac ∧ yac < (seen.length : Int) ∧ 0 ≤ ybc ∧ ybc < (seen.length : Int) by have := HTB.out; have := HTA.out; have := HNN.out; omega)
                        have p2 : (0 ≤ yac) = True := eq_true HPQ.out.2.2.1
                        have q2 : (yac < (seen.length : Int)) = True := eq_true HPQ.out.2.2.2.1
                        have p3 : (0 ≤ ybc) = True := eq_true HPQ.out.2.2.2.2.1
                        have q3 : (ybc < (seen.length : Int)) = True := eq_true HPQ.out.2.2.2.2.2
                        have HSW0 := Aside0.mk (HS.out.same (HBW1.out.block U HS.out.lt))
                        have g2 := HSW0.out.cell HTA.out.2.1
                        have g3 := HSW0.out.cell HTA.out.2.2
                        rw [HNN.out.2.1] at g2
                        rw [HNN.out.2.2.2.1] at g3
                        have hc := HFC.out
                        rw [show V - z.toNat = (V - z.toNat - 1) + 1 by have := HZ.out; have := HY.out; omega, firC, ← HNN.out.1, ← HNN.out.2.2.1, HNN.out.2.1, HNN.out.2.2.2.1, ← HTB.out.2.1, HYN.out, HNN.out.2.2.2.2] at hc
                        have SKIP := Aside0.mk (show ∀ (hs : firC V (firF V k) blocks seen a y.toNat (V - z.toNat - 1) (z.toNat + 1) = some r), Aside0 (firC V (firF V k) blocks seen a y.toNat (V - (z + 1).toNat) (z + 1).toNat = some r) from fun hs => ⟨by
                          rw [show V - (z + 1).toNat = V - z.toNat - 1 by have := HNN.out; omega, show (z + 1).toNat = z.toNat + 1 by have := HNN.out; omega]
                          exact hs⟩)
                        clear hz
                        cases hu2 : rdOf false seen yac with
                        | true =>
                          rw [hu2] at hc g2
                          rw [if_pos (.inl rfl)] at hc
                          have HS1 := SKIP.out hc
                          clear hc hu2
                          go_wp2
                          go_roundg k3
                          case measure => have := HZ.out; have := HY.out; omega
                          case rel => exact ⟨z + 1, (by first | rfl | rw [HZ0.out]), ⟨by have := HZ.out; have := HZV.out; have := HY.out; omega⟩, HS1, HBW1⟩
                        | false =>
                          rw [hu2] at hc g2
                          cases hu3 : rdOf false seen ybc with
                          | true =>
                            rw [hu3] at hc g3
                            rw [if_pos (.inr rfl)] at hc
                            have HS1 := SKIP.out hc
                            clear hc hu2 hu3
                            go_wp2
                            go_roundg k3
                            case measure => have := HZ.out; have := HY.out; omega
                            case rel => exact ⟨z + 1, (by first | rfl | rw [HZ0.out]), ⟨by have := HZ.out; have := HZV.out; have := HY.out; omega⟩, HS1, HBW1⟩
                          | false =>
                            rw [hu3] at hc g3
                            rw [if_neg (by simp)] at hc
                            obtain ⟨q, hrec, hc⟩ := Option.bind_eq_some_iff.1 hc
                            obtain ⟨wi, hwi⟩ : ∃ wi : World, wi = wr := ⟨_, rfl⟩
                            have HZ1 := Aside0.mk (show (wr.alloc (.cells #[] 4 (0, 0))).heap.size = wr.heap.size + 1 from size_alloc _ _)
                            have HSW := Aside0.mk (HSW0.out.same ((below_alloc (Below.refl _ wr) (.cells #[] 4 (0, 0))).block U HSW0.out.lt))
                            have HW1s := Aside0.mk HBW1.out.size
                            have OKF := Aside0.mk (show ∀ k, wr.heap.size ≤ k → ok k from fun k hk => HOK.out k (by have := HBW.out; have := HW1s.out; omega))
                            have LVW := Aside0.mk (show ∀ W' : World, Below wr.heap.size wr W' → LV W' ok (.slice A blocks.length c) blocks from fun W' hb => (HLV.out.same (fun k _ hlt => HBW1.out.block k hlt)).same (fun k _ hlt => hb.block k hlt))
                            have IHC := Aside0.mk (show ∀ (w3 : World) (A3 : Option Addr) (c3 g cg : Nat), RowB w3 g (((seen.set yab.toNat true).set yac.toNat true).set ybc.toNat true) → LV w3 ok (.slice A3 (blocks ++ [[(a : Int), y, z]]).length c3) (blocks ++ [[(a : Int), y, z]]) → wr.heap.size ≤ w3.heap.size → seen.length ≤ cg → Calls Try.prog 37 #[.int .i64 (V : Int), .slice A3 (blocks.length + 1) c3, .slice (some ⟨g, 0, none⟩) seen.length cg] w3 (FirPost ok q w3) from fun w3 A3 c3 g cg hrow hlv hsz hcg => by
                              have := IH.out (blocks ++ [[(a : Int), y, z]]) (((seen.set yab.toNat true).set yac.toNat true).set ybc.toNat true) A3 c3 g cg q w3 (by simp only [List.length_set]; exact HL.out.1) (by simp only [List.length_set]; exact hcg) hrow hlv (by have := HBW.out; have := HW1s.out; omega) hrec
                              simp only [List.length_set, List.length_append, List.length_singleton] at this
                              exact this)
                            have HHH := Aside0.mk hc
                            clear hu2 hu3 hrec hc
                            cases q with
                            | some out =>
                              obtain rfl : some out = r := by have := HHH.out; simpa using this
                              go_wp2_with (first | ((with_reducible refine gate_builtin (b := .append) (xs := #[.tmp 59, .tmp 60]) rfl ?_); at_builtin; refine RowB.wp_copy rfl (.tmp 59) (.tmp 60) (by rfl) (by rfl) (by rfl) (HSW.out) HL.out.2.1 (by have := HL.out; omega) ?_; intro g cg w1 hcg hrow hge hgr; have R1 := Aside0.mk hrow; have HG1 := Aside0.mk (show wr.heap.size ≤ g ∧ g < w1.heap.size ∧ seen.length ≤ cg from ⟨by have := hge; have := HZ1.out; omega, hrow.lt, hcg⟩); have p1 : (0 ≤ yab) = True := eq_true HPQ.out.1; have q1 : (yab < (seen.length : Int)) = True := eq_true HPQ.out.2.1; have p2 : (0 ≤ yac) = True := eq_true HPQ.out.2.2.1; have q2 : (yac < (seen.length : Int)) = True := eq_true HPQ.out.2.2.2.1; have p3 : (0 ≤ ybc) = True := eq_true HPQ.out.2.2.2.2.1; have q3 : (ybc < (seen.length : Int)) = True := eq_true HPQ.out.2.2.2.2.2; have f1_ := hrow.free yab.toNat; have e1_ := hrow.cell HTA.out.1; have S1 := hrow.set HTA.out.1 true; have f2_ := S1.free yac.toNat; have e2_ := S1.cell (i := yac.toNat) (by simpa using HTA.out.2.1); have S2 := S1.set (i := yac.toNat) (by simpa using HTA.out.2.1) true; have f3_ := S2.free ybc.toNat; have e3_ := S2.cell (i := ybc.toNat) (by simpa using HTA.out.2.2); have S3 := Aside0.mk (S2.set (i := ybc.toNat) (by simpa using HTA.out.2.2) true); have WB1 := Aside0.mk (show Below wr.heap.size wr (((w1.setCell ⟨g, yab.toNat, none⟩ (.bool true)).setCell ⟨g, yac.toNat, none⟩ (.bool true)).setCell ⟨g, ybc.toNat, none⟩ (.bool true)) from ((below_alloc (Below.refl _ wr) (.cells #[] 4 (0, 0))).grown hgr (by rw [size_alloc]; omega) (fun _ h => by cases h)).trans (sets_below w1 g _ _ _ _ _ _ HG1.out.1)); have Z1 := Aside0.mk (sets_size w1 g yab.toNat yac.toNat ybc.toNat (.bool true) (.bool true) (.bool true)); clear hcg hrow hge hgr S1 S2) | ((with_reducible refine gate_builtin (b := .append) (xs := #[.tmp 85, .tmp 86]) rfl ?_); at_builtin; refine LV.wp_copy (ok := ok) rfl (.tmp 85) (.tmp 86) (by rfl) (by rfl) (by rfl) (LVW.out _ (below_then WB1.out WB1.out.size (below_alloc (Below.refl _ _) _))) (by have e_ := heap_alloc_new (((w1.setCell ⟨g, yab.toNat, none⟩ (.bool true)).setCell ⟨g, yac.toNat, none⟩ (.bool true)).setCell ⟨g, ybc.toNat, none⟩ (.bool true)) (.cells #[] 29 (0, 0)); rw [Z1.out] at e_; exact e_) (OKF.out _ (by have := HG1.out; omega)) (fun k hk => OKF.out k (by rw [size_alloc, Z1.out] at hk; have := HG1.out; omega)) (by have := HBL.out; omega) ?_; intro A2 c2 w2 l2 hgr2 hown2; have L2 := Aside0.mk l2; have O2 := Aside0.mk (show ∃ q, (Value.slice A2 blocks.length c2).ownBlock = some q ∧ g < q ∧ wr.heap.size ≤ q from (by obtain ⟨q, o1, o2⟩ := hown2; refine ⟨q, o1, ?_⟩; rw [size_alloc, Z1.out] at o2; have := HG1.out; omega)); have WB2 := Aside0.mk (show Below wr.heap.size wr w2 from below_then WB1.out WB1.out.size (pw_below_grown (below_alloc (Below.refl _ _) _) none (by rw [size_alloc]; omega) hgr2 (fun _ h => by cases h))); have SB2 := Aside0.mk (show RowB w2 g (((seen.set yab.toNat true).set yac.toNat true).set ybc.toNat true) from (S3.out.same ((hgr2.block g (by rw [size_alloc, Z1.out]; have := HG1.out; omega) (by simp)).trans ((below_alloc (Below.refl _ _) _).block g S3.out.lt)))); clear l2 hgr2 hown2) | ((with_reducible refine gate_builtin (b := .append) (xs := #[.tmp 87, .tmp 92]) rfl ?_); at_builtin; refine LV.wp_append (ok := ok) (x := [(a : Int), y, z]) (b := w2.heap.size) rfl (.tmp 87) (.tmp 92) (by rfl) (by rfl) (by rfl) ((L2.out.alloc _).alloc _) rfl (Blk.alloc (show Blk _ w2.heap.size [(a : Int), y, z] from heap_alloc_new w2 _) _) (heap_alloc2_new w2 _ _) (OKF.out _ (by have := WB2.out.size; omega)) (by have o_ := O2.out; obtain ⟨q, o1, o2⟩ := o_; rw [o1]; intro e_; injection e_ with e_; have := (L2.out.own o1).2.1; omega) (fun k hk => OKF.out k (by rw [size_alloc, size_alloc] at hk; have := WB2.out.size; omega)) (by have := HBL.out; omega) ?_; intro v3 w3 r1 r2 r3 r4; have R3 := Aside0.mk r1; have hv3 := r1.slice; obtain ⟨A3, c3, ev3, _⟩ := hv3; subst ev3; have WB3 := Aside0.mk (show Below wr.heap.size wr w3 from WB2.out.trans (Below.grown (below_wk (below_alloc (below_alloc (Below.refl _ w2) _) _) WB2.out.size) r2 (by rw [size_alloc, size_alloc]; have := WB2.out.size; omega) (fun q hq => by have o_ := O2.out; obtain ⟨q', o1, o2, o3⟩ := o_; rw [o1] at hq; injection hq with hq; omega))); have SB3 := Aside0.mk (show RowB w3 g (((seen.set yab.toNat true).set yac.toNat true).set ybc.toNat true) from SB2.out.same ((r2.block g (by rw [size_alloc, size_alloc]; have := SB2.out.lt; omega) (fun e_ => by have o_ := O2.out; obtain ⟨q', o1, o2, o3⟩ := o_; rw [o1] at e_; injection e_ with e_; omega)).trans ((below_alloc (below_alloc (Below.refl _ w2) _) _).block g SB2.out.lt))); clear r1 r2 r3 r4) | ((with_reducible refine gate_callee (f := 37) rfl ?_); refine goesL_ (some 95) rfl rfl Try.func37 (by kernel_rfl) rfl #[.int .i64 (V : Int), .slice A3 (blocks.length + 1) c3, .slice (some ⟨g, 0, none⟩) seen.length cg] rfl (by (try simp only [List.map_toArray, List.map_cons, List.map_nil]); first | done | rfl) ?_; refine (IHC.out w3 A3 c3 g cg SB3.out R3.out (by have := WB3.out.size; omega) HG1.out.2.2).mono ?_; rintro e w4 ⟨⟨v0, rfl, hl4⟩, hb4⟩; refine ⟨_, rfl, ?_⟩; have L4 := Aside0.mk hl4; have HB4 := Aside0.mk hb4; clear hl4 hb4))
                              go_ret2
                              exact ⟨⟨_, rfl, L4.out⟩, below_then HBW1.out HBW1.out.size (below_then WB3.out WB3.out.size HB4.out)⟩
                            | none =>
                              have HS1 := SKIP.out (by have := HHH.out; simpa using this)
                              go_wp2_with (first | ((with_reducible refine gate_builtin (b := .append) (xs := #[.tmp 59, .tmp 60]) rfl ?_); at_builtin; refine RowB.wp_copy rfl (.tmp 59) (.tmp 60) (by rfl) (by rfl) (by rfl) (HSW.out) HL.out.2.1 (by have := HL.out; omega) ?_; intro g cg w1 hcg hrow hge hgr; have R1 := Aside0.mk hrow; have HG1 := Aside0.mk (show wr.heap.size ≤ g ∧ g < w1.heap.size ∧ seen.length ≤ cg from ⟨by have := hge; have := HZ1.out; omega, hrow.lt, hcg⟩); have p1 : (0 ≤ yab) = True := eq_true HPQ.out.1; have q1 : (yab < (seen.length : Int)) = True := eq_true HPQ.out.2.1; have p2 : (0 ≤ yac) = True := eq_true HPQ.out.2.2.1; have q2 : (yac < (seen.length : Int)) = True := eq_true HPQ.out.2.2.2.1; have p3 : (0 ≤ ybc) = True := eq_true HPQ.out.2.2.2.2.1; have q3 : (ybc < (seen.length : Int)) = True := eq_true HPQ.out.2.2.2.2.2; have f1_ := hrow.free yab.toNat; have e1_ := hrow.cell HTA.out.1; have S1 := hrow.set HTA.out.1 true; have f2_ := S1.free yac.toNat; have e2_ := S1.cell (i := yac.toNat) (by simpa using HTA.out.2.1); have S2 := S1.set (i := yac.toNat) (by simpa using HTA.out.2.1) true; have f3_ := S2.free ybc.toNat; have e3_ := S2.cell (i := ybc.toNat) (by simpa using HTA.out.2.2); have S3 := Aside0.mk (S2.set (i := ybc.toNat) (by simpa using HTA.out.2.2) true); have WB1 := Aside0.mk (show Below wr.heap.size wr (((w1.setCell ⟨g, yab.toNat, none⟩ (.bool true)).setCell ⟨g, yac.toNat, none⟩ (.bool true)).setCell ⟨g, ybc.toNat, none⟩ (.bool true)) from ((below_alloc (Below.refl _ wr) (.cells #[] 4 (0, 0))).grown hgr (by rw [size_alloc]; omega) (fun _ h => by cases h)).trans (sets_below w1 g _ _ _ _ _ _ HG1.out.1)); have Z1 := Aside0.mk (sets_size w1 g yab.toNat yac.toNat ybc.toNat (.bool true) (.bool true) (.bool true)); clear hcg hrow hge hgr S1 S2) | ((with_reducible refine gate_builtin (b := .append) (xs := #[.tmp 85, .tmp 86]) rfl ?_); at_builtin; refine LV.wp_copy (ok := ok) rfl (.tmp 85) (.tmp 86) (by rfl) (by rfl) (by rfl) (LVW.out _ (below_then WB1.out WB1.out.size (below_alloc (Below.refl _ _) _))) (by have e_ := heap_alloc_new (((w1.setCell ⟨g, yab.toNat, none⟩ (.bool true)).setCell ⟨g, yac.toNat, none⟩ (.bool true)).setCell ⟨g, ybc.toNat, none⟩ (.bool true)) (.cells #[] 29 (0, 0)); rw [Z1.out] at e_; exact e_) (OKF.out _ (by have := HG1.out; omega)) (fun k hk => OKF.out k (by rw [size_alloc, Z1.out] at hk; have := HG1.out; omega)) (by have := HBL.out; omega) ?_; intro A2 c2 w2 l2 hgr2 hown2; have L2 := Aside0.mk l2; have O2 := Aside0.mk (show ∃ q, (Value.slice A2 blocks.length c2).ownBlock = some q ∧ g < q ∧ wr.heap.size ≤ q from (by obtain ⟨q, o1, o2⟩ := hown2; refine ⟨q, o1, ?_⟩; rw [size_alloc, Z1.out] at o2; have := HG1.out; omega)); have WB2 := Aside0.mk (show Below wr.heap.size wr w2 from below_then WB1.out WB1.out.size (pw_below_grown (below_alloc (Below.refl _ _) _) none (by rw [size_alloc]; omega) hgr2 (fun _ h => by cases h))); have SB2 := Aside0.mk (show RowB w2 g (((seen.set yab.toNat true).set yac.toNat true).set ybc.toNat true) from (S3.out.same ((hgr2.block g (by rw [size_alloc, Z1.out]; have := HG1.out; omega) (by simp)).trans ((below_alloc (Below.refl _ _) _).block g S3.out.lt)))); clear l2 hgr2 hown2) | ((with_reducible refine gate_builtin (b := .append) (xs := #[.tmp 87, .tmp 92]) rfl ?_); at_builtin; refine LV.wp_append (ok := ok) (x := [(a : Int), y, z]) (b := w2.heap.size) rfl (.tmp 87) (.tmp 92) (by rfl) (by rfl) (by rfl) ((L2.out.alloc _).alloc _) rfl (Blk.alloc (show Blk _ w2.heap.size [(a : Int), y, z] from heap_alloc_new w2 _) _) (heap_alloc2_new w2 _ _) (OKF.out _ (by have := WB2.out.size; omega)) (by have o_ := O2.out; obtain ⟨q, o1, o2⟩ := o_; rw [o1]; intro e_; injection e_ with e_; have := (L2.out.own o1).2.1; omega) (fun k hk => OKF.out k (by rw [size_alloc, size_alloc] at hk; have := WB2.out.size; omega)) (by have := HBL.out; omega) ?_; intro v3 w3 r1 r2 r3 r4; have R3 := Aside0.mk r1; have hv3 := r1.slice; obtain ⟨A3, c3, ev3, _⟩ := hv3; subst ev3; have WB3 := Aside0.mk (show Below wr.heap.size wr w3 from WB2.out.trans (Below.grown (below_wk (below_alloc (below_alloc (Below.refl _ w2) _) _) WB2.out.size) r2 (by rw [size_alloc, size_alloc]; have := WB2.out.size; omega) (fun q hq => by have o_ := O2.out; obtain ⟨q', o1, o2, o3⟩ := o_; rw [o1] at hq; injection hq with hq; omega))); have SB3 := Aside0.mk (show RowB w3 g (((seen.set yab.toNat true).set yac.toNat true).set ybc.toNat true) from SB2.out.same ((r2.block g (by rw [size_alloc, size_alloc]; have := SB2.out.lt; omega) (fun e_ => by have o_ := O2.out; obtain ⟨q', o1, o2, o3⟩ := o_; rw [o1] at e_; injection e_ with e_; omega)).trans ((below_alloc (below_alloc (Below.refl _ w2) _) _).block g SB2.out.lt))); clear r1 r2 r3 r4) | ((with_reducible refine gate_callee (f := 37) rfl ?_); refine goesL_ (some 95) rfl rfl Try.func37 (by kernel_rfl) rfl #[.int .i64 (V : Int), .slice A3 (blocks.length + 1) c3, .slice (some ⟨g, 0, none⟩) seen.length cg] rfl (by (try simp only [List.map_toArray, List.map_cons, List.map_nil]); first | done | rfl) ?_; refine (IHC.out w3 A3 c3 g cg SB3.out R3.out (by have := WB3.out.size; omega) HG1.out.2.2).mono ?_; rintro e w4 ⟨rfl, hb4⟩; refine ⟨_, rfl, ?_⟩; have HB4 := Aside0.mk hb4; clear hb4))
                              go_roundg k3
                              case measure => have := HZ.out; have := HY.out; omega
                              case rel => exact ⟨z + 1, (by first | rfl | rw [HZ0.out]), ⟨by have := HZ.out; have := HZV.out; have := HY.out; omega⟩, HS1, ⟨below_then HBW1.out HBW1.out.size (below_then WB3.out WB3.out.size HB4.out)⟩⟩
                      · have cz : decide (z < (V : Int)) = false := decide_eq_false hz
                        have hc := HFC.out
                        rw [show V - z.toNat = 0 by have := HZ.out; have := HY.out; omega, firC] at hc
                        obtain rfl := Option.some.inj hc
                        clear hc hz
                        go_wp2
                        go_ret2
                        exact ⟨rfl, HBW1.out⟩
              · have cy : decide (y < (V : Int)) = false := decide_eq_false hy
                have hb := HFB.out
                rw [show V - y.toNat = 0 by have := HY.out; omega, firB] at hb
                simp only [] at hb
                have HB1 := Aside0.mk hb
                clear hb hy
                go_wp2
                go_roundg k1
                case measure => have := HA.out; omega
                case rel => exact ⟨a + 1, by rw [HA1.out], ⟨by have := HA.out; have := HAV.out; omega⟩, HB1, rfl⟩
        · have ca : decide ((a : Int) < (V : Int)) = false := decide_eq_false (by omega)
          have ca' : decide (a < V) = false := decide_eq_false ha
          have hb := HFA.out
          rw [show V - a = 0 by omega, firA] at hb
          have hc := H.out
          rw [hb] at hc
          obtain rfl := Option.some.inj hc
          clear hb hc ha
          go_wp2
          go_ret2
          exact ⟨⟨_, rfl, HLV.out⟩, Below.refl _ _⟩
theorem fir_calls {V : Nat} {ok : Nat → Prop} (hV : 1 ≤ V ∧ V ≤ 9) (B : Nat) (hok : ∀ k, B ≤ k → ok k) : ∀ (k : Nat) (blocks : List (List Int)) (seen : List Bool) (A : Option Addr) (c U cu : Nat) (r : Option (List (List Int))) (w : World), seen.length = V * V → seen.length ≤ cu → RowB w U seen → LV w ok (.slice A blocks.length c) blocks → B ≤ w.heap.size → firF V k blocks seen = some r →
      Calls Try.prog 37 #[.int .i64 (V : Int), .slice A blocks.length c, .slice (some ⟨U, 0, none⟩) seen.length cu] w (FirPost ok r w) := by
  intro k
  induction k with
  | zero => intro blocks seen A c U cu r w _ _ _ _ _ h; simp [firF] at h
  | succ k ih => exact fir_step hV B hok k ⟨ih⟩
end Go.Proofs.Yteepinopcmcklaa.Search
