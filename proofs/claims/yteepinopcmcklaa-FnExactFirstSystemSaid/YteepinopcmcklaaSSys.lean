/- The search for a triple system. Conditions: none but those that each lemma states. -/
import Derived.Test.YteepinopcmcklaaSShare
import Derived.Test.YteepinopcmcklaaSClones
import Derived.Test.YteepinopcmcklaaSSplitB
namespace Go.Proofs.Yteepinopcmcklaa.Search
open Go.RowKit Go.Proofs.YteepinopcmcklaaW.PrintWords Go.Proofs.YteepinopcmcklaaW.PrintLast Go.Proofs.YteepinopcmcklaaW.PrintMore
set_option linter.unusedVariables false
set_option linter.unusedSimpArgs false
/-- The third points c, c + 1, .., r of them, for the points a and b that are not together yet. -/
def sysL (V : Nat) (rec_ : List Bool → List (List Int) → Option (Option (List (List Int)))) (met : List Bool) (list : List (List Int)) (at_ a b : Nat) : Nat → Nat → Option (Option (List (List Int)))
  | 0, _ => some none
  | r + 1, c =>
    if rdOf false met ((a * V + c : Nat) : Int) = true ∨ rdOf false met ((b * V + c : Nat) : Int) = true then sysL V rec_ met list at_ a b r (c + 1)
    else (rec_ (((met.set at_ true).set (a * V + c) true).set (b * V + c) true) (list ++ [[(a : Int), (b : Int), (c : Int)]])).bind fun q => match q with
      | some o => some (some o)
      | none => sysL V rec_ met list at_ a b r (c + 1)
/-- The first system that goes on from a list. -/
def sysF (V : Nat) : Nat → List Bool → List (List Int) → Option (Option (List (List Int)))
  | 0, _, _ => none
  | k + 1, met, list =>
    if list.length > 100 then none
    else match firstF met 0 with
      | none => some (some list)
      | some at_ => sysL V (sysF V k) met list at_ (at_ / V) (at_ % V) (V - (at_ % V + 1)) (at_ % V + 1)
def noF : Nat → Prop := fun _ => False
def trivInv (_ : Unit) (_ : World) (_ : Nat → Prop) : Prop := True
theorem triv_clos (B : Nat) : ClosT (σ := Unit) Try.prog B 50 #[] trivInv (fun _ _ => none) where
  enters := ⟨_, Try.func50, by kernel_rfl, by kernel_rfl⟩
  keeps := fun _ _ _ _ _ _ _ => trivial
  call := fun _ _ _ _ _ _ _ h => by cases h
theorem LV.three {w : World} {ok : Nat → Prop} {v : Value} {xs : List (List Int)} (h : LV w ok v xs) : ∀ x ∈ xs, x.length = 3 := by
  intro x hx
  rcases h with ⟨_, rfl⟩ | ⟨g, cap, cs, _, _, _, _, _, _, h7⟩
  · cases hx
  · obtain ⟨i, hi⟩ := List.mem_iff_getElem?.1 hx
    obtain ⟨b, _, _, _, h3, _⟩ := h7 i x hi
    exact h3
/-- What a call of the search leaves: a system in memory of its own, or nothing and everything as it was. -/
def SysPost (B : Nat) (v : Value) (m : Nat) (r : Option (List (List Int))) (w : World) (e : Ending) (w' : World) : Prop :=
  match r with
  | some out => ∃ v0 : Value, e = .returned (.tuple #[v0, .bool true]) ∧ Kd.S (Kd.slice 3 (Kd.int .i64)) 29 w' w.heap.size (fun _ => True) v0 out ∧ Below B w w'
  | none => e = .returned (.tuple #[.slice none 0 0, .bool false]) ∧ SFrame B noF noF v m w w'
set_option maxHeartbeats 8000000 in
set_option maxRecDepth 100000 in
theorem sys_step {B U V : Nat} (hBU : B ≤ U) (hV : 1 ≤ V ∧ V ≤ 9) (k : Nat)
    (IH : Aside0 (∀ (met : List Bool) (list : List (List Int)) (v : Value) (r : Option (List (List Int))) (w : World), met.length = V * V → BlkB w U met → LV w (okS B U noF) v list → B ≤ w.heap.size → sysF V k met list = some r →
      Calls Try.prog 38 #[.int .i64 (V : Int), .slice (some ⟨U, 0, none⟩) met.length met.length, v] w (SysPost B v list.length r w))) :
    ∀ (met : List Bool) (list : List (List Int)) (v : Value) (r : Option (List (List Int))) (w : World), met.length = V * V → BlkB w U met → LV w (okS B U noF) v list → B ≤ w.heap.size → sysF V (k + 1) met list = some r →
      Calls Try.prog 38 #[.int .i64 (V : Int), .slice (some ⟨U, 0, none⟩) met.length met.length, v] w (SysPost B v list.length r w) := by
  intro met list v r w hul hU hLV hBW h
  have hVV : V * V ≤ 81 := Nat.mul_le_mul hV.2 hV.2
  have HVV := Aside0.mk hVV
  have HU := Aside0.mk hU
  have HLV := Aside0.mk hLV
  have HBW := Aside0.mk hBW
  have HL := Aside0.mk (show met.length = V * V ∧ 1 ≤ V ∧ V ≤ 9 ∧ met.length ≤ 81 from ⟨hul, hV.1, hV.2, by omega⟩)
  have HN := Aside0.mk (show B ≤ U ∧ B ≤ U from ⟨hBU, hBU⟩)
  have IDX := Aside0.mk (show slices_Index_bool_bool.f (met.length + 1) met false = some (match firstF met 0 with | none => -1 | some j => (j : Int)) from index_false met (by omega) met 0 (met.length + 1) rfl (by omega))
  obtain ⟨A, c, hv, hcap⟩ := hLV.slice
  subst hv
  have HCAP := Aside0.mk hcap
  simp only [sysF] at h
  by_cases hl : list.length > 100
  · rw [if_pos hl] at h
    cases h
  · rw [if_neg hl] at h
    have HLN := Aside0.mk (show list.length ≤ 100 by omega)
    have HCL := Aside0.mk (clones_some list (by omega) (fun x hx => by have := hLV.three x hx; omega))
    clear hBU hul hU hLV hBW hcap hl hVV
    cases hf : firstF met 0 with
    | none =>
      rw [hf] at h IDX
      obtain rfl := Option.some.inj h
      simp only [] at IDX
      clear h hf hV
      go_enter Try.func38, Try.ntmps38
      go_wp2_with (first | ((with_reducible refine gate_callee (f := 49) rfl ?_); refine goesL_ (some 15) rfl rfl Try.func49 (by kernel_rfl) rfl #[.slice (some ⟨U, 0, none⟩) met.length met.length, .bool false] rfl (by (try simp only [List.map_toArray, List.map_cons, List.map_nil]); first | done | rfl) ?_; (with_reducible refine (slices_Index_bool_bool.calls (met.length + 1) _ _ met false _ _ ?side1 ?side2 IDX.out).mono ?_); (case side1 => exact HU.out.C (by have := HL.out; omega)); (case side2 => exact Nat.le_refl _); rintro e w' ⟨rfl, ⟨nd, rfl⟩⟩; refine ⟨_, rfl, ?_⟩) | ((with_reducible refine gate_callee (f := 50) rfl ?_); refine goesL_ (some 19) rfl rfl Try.func50 (by kernel_rfl) rfl #[.slice A list.length c] rfl (by (try simp only [List.map_toArray, List.map_cons, List.map_nil]); first | done | rfl) ?_; (with_reducible refine (impl_clones.calls (list.length + 1) _ _ list list _ ?side1 ?side2 HCL.out).mono ?_); (case side1 => exact Kd.C_drewN (HLV.out.C (by have := HLN.out; omega)) _); (case side2 => exact HCAP.out); rintro e w5 ⟨v5, rfl, ho, hb⟩; refine ⟨_, rfl, ?_⟩; have HO := Aside0.mk ho; have HB5 := Aside0.mk hb; clear ho hb))
      go_ret2
      exact ⟨_, rfl, HO.out, (pw_below_drewN (Below.refl B w) nd).trans (below_wk HB5.out (show B ≤ (w.drewN nd).heap.size from HBW.out))⟩
    | some at_ =>
      have hat := firstF_at met 0 at_ hf
      rw [hf] at h IDX
      obtain ⟨ax, hax⟩ : ∃ ax : Int, ax = (at_ : Int) := ⟨_, rfl⟩
      obtain ⟨qa, hqa⟩ : ∃ qa : Nat, qa = at_ / V := ⟨_, rfl⟩
      obtain ⟨qb, hqb⟩ : ∃ qb : Nat, qb = at_ % V := ⟨_, rfl⟩
      simp only [] at h IDX
      rw [← hqa, ← hqb] at h
      rw [← hax] at IDX
      have hqaV : qa < V := by rw [hqa]; exact Nat.div_lt_of_lt_mul (by have := HL.out.1; omega)
      have hqbV : qb < V := by rw [hqb]; exact Nat.mod_lt _ hV.1
      have hdiv : ax / (V : Int) = (qa : Int) := by rw [hax, hqa]; exact (Int.natCast_ediv _ _).symm
      have hmod : ax % (V : Int) = (qb : Int) := by rw [hax, hqb]; exact (Int.natCast_emod _ _).symm
      have htd : Int.tdiv ax (V : Int) = (qa : Int) := by rw [Int.tdiv_eq_ediv_of_nonneg (by omega)]; exact hdiv
      have htm : Int.tmod ax (V : Int) = (qb : Int) := by rw [Int.tmod_eq_emod_of_nonneg (by omega)]; exact hmod
      have HQ := Aside0.mk (show qa < V ∧ qb < V from ⟨hqaV, hqbV⟩)
      have HAX := Aside0.mk hax
      have HAT := Aside0.mk (show at_ < met.length ∧ met[at_]? = some false from ⟨by omega, by simpa using hat.2.2⟩)
      have H := Aside0.mk h
      have ax0 : 0 ≤ ax := by omega
      have axb : ax ≤ 1000 := by have := HL.out; omega
      have ax1 : decide (ax < 0) = false := decide_eq_false (by omega)
      have V0 : (1 : Int) ≤ (V : Int) := by omega
      have V1 : (V : Int) ≤ 9 := by omega
      have Vz : ((V : Int) == 0) = false := beq_eq_false_iff_ne.2 (by omega)
      have Vn : V ≠ 0 := by omega
      have hqw : wrap64 ((qa : Nat) : Int) = (qa : Int) := by have := HL.out; unfold wrap64; omega
      have HX0 := Aside0.mk (show wrap64 ((qb : Int) + 1) = (qb : Int) + 1 by have := HL.out; unfold wrap64; omega)
      have HPA := Aside0.mk (show qa * V + V ≤ V * V ∧ qb * V + V ≤ V * V from ⟨by have h1 : (qa + 1) * V ≤ V * V := Nat.mul_le_mul_right _ hqaV; rwa [Nat.succ_mul] at h1, by have h1 : (qb + 1) * V ≤ V * V := Nat.mul_le_mul_right _ hqbV; rwa [Nat.succ_mul] at h1⟩)
      have hat_ : at_ = ax.toNat := by omega
      subst hat_
      clear h hf hat hax hqa hqb hqaV hqbV hV
      go_enter Try.func38, Try.ntmps38
      go_wp2_with (first | ((with_reducible refine gate_callee (f := 49) rfl ?_); refine goesL_ (some 15) rfl rfl Try.func49 (by kernel_rfl) rfl #[.slice (some ⟨U, 0, none⟩) met.length met.length, .bool false] rfl (by (try simp only [List.map_toArray, List.map_cons, List.map_nil]); first | done | rfl) ?_; (with_reducible refine (slices_Index_bool_bool.calls (met.length + 1) _ _ met false _ _ ?side1 ?side2 IDX.out).mono ?_); (case side1 => exact HU.out.C (by have := HL.out; omega)); (case side2 => exact Nat.le_refl _); rintro e w' ⟨rfl, ⟨nd, rfl⟩⟩; refine ⟨_, rfl, ?_⟩))
      go_quiet (fail)
      (try simp only [Exit.inBlock, Exit.then])
      go_wp2
      simp only [hqw]
      go_loopg [11] (V + 1) (fun kq v11 w' => ∃ (x : Int), v11 = .int .i64 x ∧ Aside0 ((qb : Int) + 1 ≤ x ∧ x ≤ (V : Int) ∧ kq + x.toNat = V + 2 + qb) ∧ Aside0 (sysL V (sysF V k) met list ax.toNat qa qb (V - x.toNat) x.toNat = some r) ∧ Aside0 (BlkB w' U met) ∧ Aside0 (SFrame B noF noF (.slice A list.length c) list.length w w'))
      case atStart => exact ⟨(qb : Int) + 1, by rw [HX0.out], ⟨by have := HQ.out; omega⟩, ⟨by rw [show V - ((qb : Int) + 1).toNat = V - (qb + 1) by omega, show ((qb : Int) + 1).toNat = qb + 1 by omega]; exact H.out⟩, HU, ⟨⟨pw_below_drewN (Below.refl B w) _, fun k hk => hk.elim, fun _ _ _ _ => rfl, fun g hg => by
        obtain ⟨_, _, cs, o3⟩ := HLV.out.own hg
        exact Pre.of_same o3 rfl⟩⟩⟩
      case round =>
        obtain ⟨x, rfl, HX, HH, HU1, HFR1⟩ := hrel
        cases gk with
        | zero => exact absurd HX.out (by have := HQ.out; omega)
        | succ k1 =>
          obtain ⟨y, hy⟩ : ∃ y : Int, wrap64 (wrap64 ((qa : Int) * (V : Int)) + x) = y := ⟨_, rfl⟩
          obtain ⟨z, hz⟩ : ∃ z : Int, wrap64 (wrap64 ((qb : Int) * (V : Int)) + x) = z := ⟨_, rfl⟩
          have HPC := Aside0.mk (show ((qa * V : Nat) : Int) = (qa : Int) * (V : Int) ∧ ((qb * V : Nat) : Int) = (qb : Int) * (V : Int) from ⟨Int.natCast_mul _ _, Int.natCast_mul _ _⟩)
          have HY := Aside0.mk (show y = ((qa * V : Nat) : Int) + x by
            rw [← hy, ← HPC.out.1]
            have := HX.out; have := HPA.out; have := HL.out; have := HVV.out
            rw [wsame (n := ((qa * V : Nat) : Int)) (by omega) (by omega), wsame (by omega) (by omega)])
          have HZ := Aside0.mk (show z = ((qb * V : Nat) : Int) + x by
            rw [← hz, ← HPC.out.2]
            have := HX.out; have := HPA.out; have := HL.out; have := HVV.out
            rw [wsame (n := ((qb * V : Nat) : Int)) (by omega) (by omega), wsame (by omega) (by omega)])
          obtain ⟨x1, hx1⟩ : ∃ x1 : Int, wrap64 (x + 1) = x1 := ⟨_, rfl⟩
          have HX1 := Aside0.mk (show x1 = x + 1 by rw [← hx1]; have := HX.out; have := HL.out; unfold wrap64; omega)
          by_cases hx : x < (V : Int)
          · have cx : decide (x < (V : Int)) = true := decide_eq_true hx
            have HTA := Aside0.mk (show ax.toNat < met.length ∧ y.toNat < met.length ∧ z.toNat < met.length by have := HY.out; have := HZ.out; have := HX.out; have := HAT.out; have := HL.out; have := HPA.out; omega)
            have HNN := Aside0.mk (show ((ax.toNat : Nat) : Int) = ax ∧ ((x.toNat : Nat) : Int) = x ∧ ((y.toNat : Nat) : Int) = y ∧ y.toNat = qa * V + x.toNat ∧ ((z.toNat : Nat) : Int) = z ∧ z.toNat = qb * V + x.toNat by have := HY.out; have := HZ.out; have := HX.out; have := HAX.out; omega)
            have hh := HH.out
            rw [show V - x.toNat = (V - x.toNat - 1) + 1 by have := HX.out; omega, sysL, ← HNN.out.2.2.2.1, ← HNN.out.2.2.2.2.2, HNN.out.2.1, HNN.out.2.2.1, HNN.out.2.2.2.2.1] at hh
            have p1 : (0 ≤ y) = True := eq_true (by have := HNN.out; omega)
            have q1 : (y < (met.length : Int)) = True := eq_true (by have := HTA.out; omega)
            have p2 : (0 ≤ z) = True := eq_true (by have := HNN.out; omega)
            have q2 : (z < (met.length : Int)) = True := eq_true (by have := HTA.out; omega)
            have p3 : (0 ≤ ax) = True := eq_true (by have := HNN.out; omega)
            have q3 : (ax < (met.length : Int)) = True := eq_true (by have := HTA.out; omega)
            have g1 := HU1.out.cell HTA.out.2.1
            have g2 := HU1.out.cell HTA.out.2.2
            rw [HNN.out.2.2.1] at g1
            rw [HNN.out.2.2.2.2.1] at g2
            have SKIP := Aside0.mk (show ∀ (hs : sysL V (sysF V k) met list ax.toNat qa qb (V - x.toNat - 1) (x.toNat + 1) = some r), Aside0 (sysL V (sysF V k) met list ax.toNat qa qb (V - x1.toNat) x1.toNat = some r) from fun hs => ⟨by
              rw [show V - x1.toNat = V - x.toNat - 1 by have := HX1.out; have := HX.out; omega, show x1.toNat = x.toNat + 1 by have := HX1.out; have := HX.out; omega]
              exact hs⟩)
            have HXM := Aside0.mk hx
            clear hx
            cases hu1 : rdOf false met y with
            | true =>
              rw [hu1] at hh g1
              rw [if_pos (.inl rfl)] at hh
              have HS1 := SKIP.out hh
              clear hh hu1
              go_wp2
              go_roundg k1
              case measure => have := HX.out; have := HAX.out; omega
              case rel => exact ⟨x1, (by first | rfl | rw [hx1]), ⟨by have := HX1.out; have := HX.out; have := HXM.out; omega⟩, HS1, HU1, HFR1⟩
            | false =>
              rw [hu1] at hh g1
              cases hu2 : rdOf false met z with
              | true =>
                rw [hu2] at hh g2
                rw [if_pos (.inr rfl)] at hh
                have HS1 := SKIP.out hh
                clear hh hu1 hu2
                go_wp2
                go_roundg k1
                case measure => have := HX.out; have := HAX.out; omega
                case rel => exact ⟨x1, (by first | rfl | rw [hx1]), ⟨by have := HX1.out; have := HX.out; have := HXM.out; omega⟩, HS1, HU1, HFR1⟩
              | false =>
                rw [hu2] at hh g2
                rw [if_neg (by simp)] at hh
                obtain ⟨q, hrec, hh⟩ := Option.bind_eq_some_iff.1 hh
                have HFA := Aside0.mk (show met[ax.toNat]? = some false ∧ met[y.toNat]? = some false ∧ met[z.toNat]? = some false from ⟨HAT.out.2, by
                  have h1 := HTA.out.2.1
                  rw [List.getElem?_eq_getElem h1]
                  have h2 := hu1
                  rw [← HNN.out.2.2.1] at h2
                  simp only [rdOf, List.getD_eq_getElem?_getD, Int.toNat_natCast, List.getElem?_eq_getElem h1, Option.getD_some] at h2
                  rw [h2], by
                  have h1 := HTA.out.2.2
                  rw [List.getElem?_eq_getElem h1]
                  have h2 := hu2
                  rw [← HNN.out.2.2.2.2.1] at h2
                  simp only [rdOf, List.getD_eq_getElem?_getD, Int.toNat_natCast, List.getElem?_eq_getElem h1, Option.getD_some] at h2
                  rw [h2]⟩)
                have lvb : LV wr (okS B U noF) (.slice A list.length c) list := HLV.out.keep (fun k h1 h2 h3 => HFR1.out.rest k h2 (fun h => h) h3) HFR1.out.own
                have HVU := Aside0.mk (show ∀ g, (Value.slice A list.length c).ownBlock = some g → ¬ noF g ∧ g ≠ U ∧ B ≤ g ∧ g < wr.heap.size from fun g hg => by
                  obtain ⟨o1, o2, _⟩ := lvb.own hg
                  exact ⟨o1.2.1, o1.2.2, o1.1, o2⟩)
                have HBR := Aside0.mk (show B ≤ wr.heap.size by have := HFR1.out.below.size; have := HBW.out; omega)
                have z1 := sets_size wr U ax.toNat y.toNat z.toNat (.bool true) (.bool true) (.bool true)
                have lvs : LV (((wr.setCell ⟨U, ax.toNat, none⟩ (.bool true)).setCell ⟨U, y.toNat, none⟩ (.bool true)).setCell ⟨U, z.toNat, none⟩ (.bool true)) (okS B U noF) (.slice A list.length c) list := lvb.same (fun k h1 _ => sets_other _ _ _ _ _ _ _ _ _ h1.2.2)
                have HLW := Aside0.mk ((lvs.alloc (.cells #[.int .i64 (qa : Int), .int .i64 (qb : Int), .int .i64 x] 3 (0, 0))).alloc (.cells #[.slice (some ⟨wr.heap.size, 0, none⟩) 3 3] 29 (0, 0)))
                obtain ⟨W1, hW1⟩ : ∃ W1, W1 = (((wr.setCell ⟨U, ax.toNat, none⟩ (.bool true)).setCell ⟨U, y.toNat, none⟩ (.bool true)).setCell ⟨U, z.toNat, none⟩ (.bool true)) := ⟨_, rfl⟩
                rw [← hW1] at z1
                have hbb : Blk ((W1.alloc (.cells #[.int .i64 (qa : Int), .int .i64 (qb : Int), .int .i64 x] 3 (0, 0))).alloc (.cells #[.slice (some ⟨wr.heap.size, 0, none⟩) 3 3] 29 (0, 0))) wr.heap.size [(qa : Int), (qb : Int), x] := by
                  rw [← z1]
                  exact Blk.alloc (show Blk _ W1.heap.size [(qa : Int), (qb : Int), x] from heap_alloc_new W1 _) _
                have hsb : ((W1.alloc (.cells #[.int .i64 (qa : Int), .int .i64 (qb : Int), .int .i64 x] 3 (0, 0))).alloc (.cells #[.slice (some ⟨wr.heap.size, 0, none⟩) 3 3] 29 (0, 0))).heap[wr.heap.size + 1]? = some (.cells #[.slice (some ⟨wr.heap.size, 0, none⟩) 3 3] 29 (0, 0)) := by
                  have := heap_alloc2_new W1 (.cells #[.int .i64 (qa : Int), .int .i64 (qb : Int), .int .i64 x] 3 (0, 0)) (.cells #[.slice (some ⟨wr.heap.size, 0, none⟩) 3 3] 29 (0, 0))
                  rw [z1] at this
                  exact this
                have hz2 : ((W1.alloc (.cells #[.int .i64 (qa : Int), .int .i64 (qb : Int), .int .i64 x] 3 (0, 0))).alloc (.cells #[.slice (some ⟨wr.heap.size, 0, none⟩) 3 3] 29 (0, 0))).heap.size = wr.heap.size + 2 := by rw [size_alloc, size_alloc, z1]
                subst hW1
                have HBB := Aside0.mk hbb
                have HSB := Aside0.mk hsb
                have HZ2 := Aside0.mk hz2
                have HOB := Aside0.mk (show okS B U noF wr.heap.size ∧ some wr.heap.size ≠ (Value.slice A list.length c).ownBlock ∧ ∀ k, ((((((wr.setCell ⟨U, ax.toNat, none⟩ (.bool true)).setCell ⟨U, y.toNat, none⟩ (.bool true)).setCell ⟨U, z.toNat, none⟩ (.bool true))).alloc (.cells #[.int .i64 (qa : Int), .int .i64 (qb : Int), .int .i64 x] 3 (0, 0))).alloc (.cells #[.slice (some ⟨wr.heap.size, 0, none⟩) 3 3] 29 (0, 0))).heap.size ≤ k → okS B U noF k from ⟨⟨HBR.out, fun h => h, fun h => by have := HU1.out.lt; omega⟩, fun h => by have := (HVU.out _ h.symm).2.2.2; omega, fun k hk => ⟨by have := HBR.out; omega, fun h => h, fun h => by have := HU1.out.lt; omega⟩⟩)
                have IHC := Aside0.mk (show ∀ (w3 : World) (v3 : Value), (BlkB w3 U (((met.set ax.toNat true).set y.toNat true).set z.toNat true) ∧ trivInv () w3 noF ∧ FB B noF w3 ∧ B ≤ w3.heap.size ∧ Below B wr w3 ∧ wr.heap.size + 2 ≤ w3.heap.size ∧ (∀ k, k < wr.heap.size → k ≠ U → some k ≠ (Value.slice A list.length c).ownBlock → w3.heap[k]? = wr.heap[k]?) ∧ (∀ g, (Value.slice A list.length c).ownBlock = some g → Pre wr w3 g list.length)) → LV w3 (okS B U noF) v3 (list ++ [[(qa : Int), (qb : Int), x]]) → Calls Try.prog 38 #[.int .i64 (V : Int), .slice (some ⟨U, 0, none⟩) met.length met.length, v3] w3 (SysPost B v3 (list ++ [[(qa : Int), (qb : Int), x]]).length q w3) from fun w3 v3 d l => by
                  have := IH.out (((met.set ax.toNat true).set y.toNat true).set z.toNat true) (list ++ [[(qa : Int), (qb : Int), x]]) v3 q w3 (by simp only [List.length_set]; exact HL.out.1) d.1 l d.2.2.2.1 hrec
                  simp only [List.length_set] at this
                  exact this)
                have f1_ := HU1.out.free ax.toNat
                have e1_ := HU1.out.cell HTA.out.1
                have S1 := HU1.out.set ax.toNat true
                have f2_ := S1.free y.toNat
                have e2_ := S1.cell (i := y.toNat) (by simpa using HTA.out.2.1)
                have S2 := S1.set y.toNat true
                have f3_ := S2.free z.toNat
                have e3_ := S2.cell (i := z.toNat) (by simpa using HTA.out.2.2)
                have HHH := Aside0.mk hh
                clear hu1 hu2 hrec lvb lvs z1 hbb hsb hz2 S1 S2 hh
                cases q with
                | some out =>
                  obtain rfl : some out = r := by have := HHH.out; simpa using this
                  go_wp2_with (first | ((with_reducible refine gate_builtin (b := .append) (xs := #[.tmp 71, .tmp 76]) rfl ?_); at_builtin; refine LV.wp_append rfl (.tmp 71) (.tmp 76) (by rfl) (by rfl) (by rfl) HLW.out (x := [(qa : Int), (qb : Int), x]) rfl HBB.out HSB.out HOB.out.1 HOB.out.2.1 HOB.out.2.2 (by have := HLN.out; omega) ?_; intro v3 w3 r1 r2 r3 r4; have DN := Aside0.mk (split_down (triv_clos B) (s := ()) (wr := wr) (w3 := w3) (F := noF) (v := .slice A list.length c) (v3 := v3) (used := met) (i := ax.toNat) (j := y.toNat) (l := z.toNat) (m := list.length) (x := (qa : Int)) (y := (qb : Int)) (z := x) HU1.out trivial (fun _ h => h.elim) (fun h => h) HN.out.1 HBR.out HVU.out r2 r3); have R1 := Aside0.mk r1; have R4 := Aside0.mk (show v3.ownBlock = (Value.slice A list.length c).ownBlock ∨ ∃ g, v3.ownBlock = some g ∧ wr.heap.size ≤ g from r4.imp id (fun ⟨g, h1, h2⟩ => ⟨g, h1, by have := HZ2.out; omega⟩)); clear r1 r2 r3 r4) | ((with_reducible refine gate_callee (f := 38) rfl ?_); refine goesL_ (some 78) rfl rfl Try.func38 (by kernel_rfl) rfl #[.int .i64 (V : Int), .slice (some ⟨U, 0, none⟩) met.length met.length, v3] rfl (by (try simp only [List.map_toArray, List.map_cons, List.map_nil]); first | done | rfl) ?_; refine (IHC.out w3 v3 DN.out R1.out).mono ?_; rintro e w4 ⟨v0, rfl, hs4, hb4⟩; refine ⟨_, rfl, ?_⟩; have HS4 := Aside0.mk hs4; have HB4 := Aside0.mk hb4; clear hs4 hb4))
                  go_ret2
                  exact ⟨_, rfl, Kd.S_lower HS4.out (by have := DN.out.2.2.2.2.2.1; have := HFR1.out.below.size; omega), HFR1.out.below.trans (DN.out.2.2.2.2.1.trans HB4.out)⟩
                | none =>
                  have HS1 := SKIP.out (by have := HHH.out; simpa using this)
                  go_wp2_with (first | ((with_reducible refine gate_builtin (b := .append) (xs := #[.tmp 71, .tmp 76]) rfl ?_); at_builtin; refine LV.wp_append rfl (.tmp 71) (.tmp 76) (by rfl) (by rfl) (by rfl) HLW.out (x := [(qa : Int), (qb : Int), x]) rfl HBB.out HSB.out HOB.out.1 HOB.out.2.1 HOB.out.2.2 (by have := HLN.out; omega) ?_; intro v3 w3 r1 r2 r3 r4; have DN := Aside0.mk (split_down (triv_clos B) (s := ()) (wr := wr) (w3 := w3) (F := noF) (v := .slice A list.length c) (v3 := v3) (used := met) (i := ax.toNat) (j := y.toNat) (l := z.toNat) (m := list.length) (x := (qa : Int)) (y := (qb : Int)) (z := x) HU1.out trivial (fun _ h => h.elim) (fun h => h) HN.out.1 HBR.out HVU.out r2 r3); have R1 := Aside0.mk r1; have R4 := Aside0.mk (show v3.ownBlock = (Value.slice A list.length c).ownBlock ∨ ∃ g, v3.ownBlock = some g ∧ wr.heap.size ≤ g from r4.imp id (fun ⟨g, h1, h2⟩ => ⟨g, h1, by have := HZ2.out; omega⟩)); clear r1 r2 r3 r4) | ((with_reducible refine gate_callee (f := 38) rfl ?_); refine goesL_ (some 78) rfl rfl Try.func38 (by kernel_rfl) rfl #[.int .i64 (V : Int), .slice (some ⟨U, 0, none⟩) met.length met.length, v3] rfl (by (try simp only [List.map_toArray, List.map_cons, List.map_nil]); first | done | rfl) ?_; refine (IHC.out w3 v3 DN.out R1.out).mono ?_; rintro e w4 ⟨rfl, hs4⟩; refine ⟨_, rfl, ?_⟩; have UP := Aside0.mk (split_up (triv_clos B) (s := ()) (m := list.length) HBW.out HFR1.out HU1.out (fun _ h => h.elim) (fun h => h) HN.out.1 HVU.out HFA.out.1 HFA.out.2.1 HFA.out.2.2 DN.out.1 DN.out.2.2.2.2.1 DN.out.2.2.2.2.2.2.1 DN.out.2.2.2.2.2.2.2 R4.out (by simpa using hs4) trivial); have BU4 := UP.out.2.2.2.2.2; have h1_ := BU4.free ax.toNat; have h2_ := BU4.cell (i := ax.toNat) (by simpa using HTA.out.1); have BU5 := BU4.set ax.toNat false; have h3_ := BU5.free y.toNat; have h4_ := BU5.cell (i := y.toNat) (by simpa using HTA.out.2.1); have BU6 := BU5.set y.toNat false; have h5_ := BU6.free z.toNat; have h6_ := BU6.cell (i := z.toNat) (by simpa using HTA.out.2.2); clear BU4 BU5 BU6 hs4))
                  go_roundg k1
                  case measure => have := HX.out; have := HAX.out; omega
                  case rel => exact ⟨x1, (by first | rfl | rw [hx1]), ⟨by have := HX1.out; have := HX.out; have := HXM.out; omega⟩, HS1, ⟨UP.out.1⟩, ⟨UP.out.2.2.2.2.1⟩⟩
          · have cx : decide (x < (V : Int)) = false := decide_eq_false hx
            have hh := HH.out
            rw [show V - x.toNat = 0 by have := HX.out; omega, sysL] at hh
            obtain rfl := Option.some.inj hh
            clear hh hx
            go_wp2
            go_ret2
            exact ⟨rfl, HFR1.out⟩
theorem sys_calls {B U V : Nat} (hBU : B ≤ U) (hV : 1 ≤ V ∧ V ≤ 9) : ∀ (k : Nat) (met : List Bool) (list : List (List Int)) (v : Value) (r : Option (List (List Int))) (w : World), met.length = V * V → BlkB w U met → LV w (okS B U noF) v list → B ≤ w.heap.size → sysF V k met list = some r →
      Calls Try.prog 38 #[.int .i64 (V : Int), .slice (some ⟨U, 0, none⟩) met.length met.length, v] w (SysPost B v list.length r w) := by
  intro k
  induction k with
  | zero => intro met list v r w _ _ _ _ h; simp [sysF] at h
  | succ k ih => exact sys_step hBU hV k ⟨ih⟩
end Go.Proofs.Yteepinopcmcklaa.Search
