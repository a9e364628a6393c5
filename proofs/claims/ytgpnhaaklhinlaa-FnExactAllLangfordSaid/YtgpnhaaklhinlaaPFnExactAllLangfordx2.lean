-- Written by plug.py, a program of this session, over the kit's print of the function: checked by Lean alone.
import Derived.Test.YtgpnhaaklhinlaaPFnExactAllLangfordx0
import Derived.Test.YtgpnhaaklhinlaaPFnExactAllLangfordx1
namespace Go.Proofs.Ytgpnhaaklhinlaa.PFnExactAllLangford
open Go.RowKit Go.Proofs.YtgpnhaaklhinlaaW.PrintWords Go.Proofs.YtgpnhaaklhinlaaW.PrintLast Go.Proofs.YtgpnhaaklhinlaaW.PrintMore
attribute [local go_sem] max2_int min2_int max_two min_two max_three min_three max_four min_four   -- for this text's walks alone
set_option linter.unusedVariables false
set_option linter.unusedSimpArgs false

/-! ### spec_seN: function 100 -/
def spec_seN.f (a0 : Int) : Option (Bool) := (spec_l1In.f a0 1 20).bind fun t125 => (some t125)
set_option maxHeartbeats 8000000 in
set_option maxRecDepth 100000 in
theorem spec_seN.calls (a0 : Int) (r : Bool) (w : World) (h : spec_seN.f a0 = some r) :
    Calls Try.prog 100 #[.int .i64 a0] w fun e w' => e = .returned (.bool r) ∧ Drawn0 w w' := by
  have H : ((spec_l1In.f a0 1 20).bind fun t125 => (some t125)) = some r := h
  clear h
  replace H := Option.bind_eq_some_iff.mp H
  obtain ⟨t125, A20, H⟩ := H
  replace H : (some t125) = some r := H
  have A2 := Aside0.mk A20
  clear A20
  obtain rfl := Option.some.inj H
  go_enter Try.func100, Try.ntmps100
  go_wp2_with (first | ((with_reducible refine gate_callee (f := 54) rfl ?_); refine goesL_ (some 4) rfl rfl Try.func54 (by kernel_rfl) rfl #[.int .i64 a0, .int .i64 1, .int .i64 20] rfl (by (try simp only [List.map_toArray, List.map_cons, List.map_nil]); first | done | rfl | (simp only [List.length_drop, List.length_take]; rfl)) ?_; (with_reducible refine (spec_l1In.calls a0 1 20 t125 _ A2.out).mono ?_); rintro e w' ⟨rfl, ⟨nd, rfl⟩⟩; refine ⟨_, rfl, ?_⟩))
  go_ret
  exact ⟨by first | rfl | (simp; done) | (simp [*]; done), by repeat (first | exact Drawn0.refl _ | apply Drawn0.step)⟩

-- NOT PRINTED: function 67 (spec_seLangford)

/-! ### spec_AllLangford: function 31 -/
def spec_AllLangford.f (a0 a1 : Int) : Option (List (List Int) × Bool) := if 1 ≤ a0 ∧ a0 ≤ 9 ∧ 1 ≤ a1 ∧ a1 ≤ 20 ∧ a1 + a0 ≤ 20 then (Search.lookAll (a1.toNat) (a1.toNat + a0.toNat - 1) 1 (-1) 600).map (fun r => if r.1 > 600 then ([], false) else (r.2, true)) else some ([], false)
set_option maxHeartbeats 8000000 in
set_option maxRecDepth 100000 in
theorem spec_AllLangford.calls (a0 a1 : Int) (r1 : List (List Int)) (r2 : Bool) (w : World) (h : spec_AllLangford.f a0 a1 = some (r1, r2)) :
    Calls Try.prog 31 #[.int .i64 a0, .int .i64 a1] w fun e w' => ∃ v0_ : Value, e = .returned (.tuple #[v0_, .bool r2]) ∧ Kd.R (Kd.slice 3 (Kd.int .i64)) 22 w' w.heap.size (fun _ => True) v0_ r1 ∧ Below w.heap.size w w' := by
  unfold spec_AllLangford.f at h
  by_cases hm : 1 ≤ a0 ∧ a0 ≤ 9 ∧ 1 ≤ a1 ∧ a1 ≤ 20 ∧ a1 + a0 ≤ 20
  · rw [if_pos hm] at h
    obtain ⟨⟨c, ls⟩, hc, he⟩ := Option.map_eq_some_iff.1 h
    simp only [] at he
    have AC := Aside0.mk (fun w : World => Search.all_calls (fr := a1.toNat) (to_ := a1.toNat + a0.toNat - 1) (sh := 1) (most := 600) (hole := -1) (by omega) (by omega) (by omega) (by omega) hc w)
    have HN := Aside0.mk (show ((a0.toNat : Nat) : Int) = a0 by omega)
    have HD := Aside0.mk (show ((a1.toNat : Nat) : Int) = a1 by omega)
    have HP := Aside0.mk (show (((a1.toNat + a0.toNat - 1 : Nat)) : Int) = wrap64 (wrap64 (a1 + a0) - 1) by unfold wrap64; omega)
    have b1 : decide (1 ≤ a0) = true := decide_eq_true hm.1
    have b2 : decide (a0 ≤ 9) = true := decide_eq_true hm.2.1
    have b3 : decide (1 ≤ a1) = true := decide_eq_true hm.2.2.1
    have b4 : decide (a1 ≤ 20) = true := decide_eq_true hm.2.2.2.1
    have b5 : decide (20 < wrap64 (a1 + a0)) = false := decide_eq_false (by unfold wrap64; omega)
    clear hm h hc
    by_cases c0 : c > 600
    · rw [if_pos c0] at he
      obtain ⟨rfl, rfl⟩ := Prod.mk.inj he
      have b0 : decide (600 < c) = true := decide_eq_true c0
      clear c0 he
      go_enter Try.func31, Try.ntmps31
      go_wp2_with (first | ((with_reducible refine gate_callee (f := 93) rfl ?_); refine goesL_ (some 28) rfl rfl Try.func93 (by kernel_rfl) rfl #[.int .i64 ((a1.toNat : Nat) : Int), .int .i64 ((a1.toNat + a0.toNat - 1 : Nat) : Int), .int .i64 ((1 : Nat) : Int), .int .i64 (-1), .int .i64 ((600 : Nat) : Int)] rfl (by rw [HD.out, HP.out]; (try simp only [List.map_toArray, List.map_cons, List.map_nil]); first | done | rfl) ?_; refine (AC.out _).mono ?_; rintro e w5 ⟨G, R, v5, rfl, hg5, hl5, hs5, hb5⟩; refine ⟨_, rfl, ?_⟩; have hc5 := hl5.c7; have hd5 := hl5.c8; have HB5 := Aside0.mk hb5; have HS5 := Aside0.mk hs5; clear hl5 hb5 hs5) | go_in)
      go_ret2
      exact ⟨_, rfl, Kd.R_nil _ _ _ _ _, HB5.out⟩
    · rw [if_neg c0] at he
      obtain ⟨rfl, rfl⟩ := Prod.mk.inj he
      have b0 : decide (600 < c) = false := decide_eq_false c0
      clear c0 he
      go_enter Try.func31, Try.ntmps31
      go_wp2_with (first | ((with_reducible refine gate_callee (f := 93) rfl ?_); refine goesL_ (some 28) rfl rfl Try.func93 (by kernel_rfl) rfl #[.int .i64 ((a1.toNat : Nat) : Int), .int .i64 ((a1.toNat + a0.toNat - 1 : Nat) : Int), .int .i64 ((1 : Nat) : Int), .int .i64 (-1), .int .i64 ((600 : Nat) : Int)] rfl (by rw [HD.out, HP.out]; (try simp only [List.map_toArray, List.map_cons, List.map_nil]); first | done | rfl) ?_; refine (AC.out _).mono ?_; rintro e w5 ⟨G, R, v5, rfl, hg5, hl5, hs5, hb5⟩; refine ⟨_, rfl, ?_⟩; have hc5 := hl5.c7; have hd5 := hl5.c8; have HB5 := Aside0.mk hb5; have HS5 := Aside0.mk hs5; clear hl5 hb5 hs5) | go_in)
      go_ret2
      exact ⟨_, rfl, Kd.R_mono HS5.out (fun _ _ => trivial), HB5.out⟩
  · rw [if_neg hm] at h
    obtain ⟨rfl, rfl⟩ := Prod.mk.inj (Option.some.inj h)
    clear h
    by_cases c0 : 1 ≤ a0
    · have b0 : decide (1 ≤ a0) = true := decide_eq_true c0
      by_cases c1 : a0 ≤ 9
      · have b1 : decide (a0 ≤ 9) = true := decide_eq_true c1
        by_cases c2 : 1 ≤ a1
        · have b2 : decide (1 ≤ a1) = true := decide_eq_true c2
          by_cases c3 : a1 ≤ 20
          · have b3 : decide (a1 ≤ 20) = true := decide_eq_true c3
            have c4 : 20 < wrap64 (a1 + a0) := by unfold wrap64; omega
            have b4 : decide (20 < wrap64 (a1 + a0)) = true := decide_eq_true c4
            clear hm c0 c1 c2 c3 c4
            go_enter Try.func31, Try.ntmps31
            go_wp2_with (first | go_in)
            go_ret2
            exact ⟨_, rfl, Kd.R_nil _ _ _ _ _, Below.refl _ _⟩
          · have b3 : decide (a1 ≤ 20) = false := decide_eq_false c3
            clear hm c0 c1 c2 c3
            go_enter Try.func31, Try.ntmps31
            go_wp2_with (first | go_in)
            go_ret2
            exact ⟨_, rfl, Kd.R_nil _ _ _ _ _, Below.refl _ _⟩
        · have b2 : decide (1 ≤ a1) = false := decide_eq_false c2
          clear hm c0 c1 c2
          go_enter Try.func31, Try.ntmps31
          go_wp2_with (first | go_in)
          go_ret2
          exact ⟨_, rfl, Kd.R_nil _ _ _ _ _, Below.refl _ _⟩
      · have b1 : decide (a0 ≤ 9) = false := decide_eq_false c1
        clear hm c0 c1
        go_enter Try.func31, Try.ntmps31
        go_wp2_with (first | go_in)
        go_ret2
        exact ⟨_, rfl, Kd.R_nil _ _ _ _ _, Below.refl _ _⟩
    · have b0 : decide (1 ≤ a0) = false := decide_eq_false c0
      clear hm c0
      go_enter Try.func31, Try.ntmps31
      go_wp2_with (first | go_in)
      go_ret2
      exact ⟨_, rfl, Kd.R_nil _ _ _ _ _, Below.refl _ _⟩

-- NOT PRINTED: function 64 (impl_kind_all)

/-! ### impl_isNumber: function 56 -/
def impl_isNumber.f (a0 : Int) : Option (Bool) := if a0 ≥ 1 then (some (decide (a0 ≤ 20))) else (some false)
set_option maxHeartbeats 8000000 in
set_option maxRecDepth 100000 in
theorem impl_isNumber.calls (a0 : Int) (r : Bool) (w : World) (h : impl_isNumber.f a0 = some r) :
    Calls Try.prog 56 #[.int .i64 a0] w fun e w' => e = .returned (.bool r) ∧ Drawn0 w w' := by
  have H : (if a0 ≥ 1 then (some (decide (a0 ≤ 20))) else (some false)) = some r := h
  clear h
  by_cases c2 : a0 ≥ 1
  · rw [if_pos c2] at H
    have c2b0 : decide (1 ≤ a0) = true := decide_eq_true c2
    clear c2
    obtain rfl := Option.some.inj H
    go_enter Try.func56, Try.ntmps56
    go_wp2
    go_ret
    exact ⟨by first | rfl | (simp; done) | (simp [*]; done), by repeat (first | exact Drawn0.refl _ | apply Drawn0.step)⟩
  · rw [if_neg c2] at H
    have c2b0 : decide (1 ≤ a0) = false := decide_eq_false c2
    clear c2
    obtain rfl := Option.some.inj H
    go_enter Try.func56, Try.ntmps56
    go_wp2
    go_ret
    exact ⟨by first | rfl | (simp; done) | (simp [*]; done), by repeat (first | exact Drawn0.refl _ | apply Drawn0.step)⟩

/-! ### impl_sought: function 62 -/
def impl_sought.f (a0 : Int) : Option (Bool) := if a0 ≥ 1 then (some (decide (a0 ≤ 9))) else (some false)
set_option maxHeartbeats 8000000 in
set_option maxRecDepth 100000 in
theorem impl_sought.calls (a0 : Int) (r : Bool) (w : World) (h : impl_sought.f a0 = some r) :
    Calls Try.prog 62 #[.int .i64 a0] w fun e w' => e = .returned (.bool r) ∧ Drawn0 w w' := by
  have H : (if a0 ≥ 1 then (some (decide (a0 ≤ 9))) else (some false)) = some r := h
  clear h
  by_cases c2 : a0 ≥ 1
  · rw [if_pos c2] at H
    have c2b0 : decide (1 ≤ a0) = true := decide_eq_true c2
    clear c2
    obtain rfl := Option.some.inj H
    go_enter Try.func62, Try.ntmps62
    go_wp2
    go_ret
    exact ⟨by first | rfl | (simp; done) | (simp [*]; done), by repeat (first | exact Drawn0.refl _ | apply Drawn0.step)⟩
  · rw [if_neg c2] at H
    have c2b0 : decide (1 ≤ a0) = false := decide_eq_false c2
    clear c2
    obtain rfl := Option.some.inj H
    go_enter Try.func62, Try.ntmps62
    go_wp2
    go_ret
    exact ⟨by first | rfl | (simp; done) | (simp [*]; done), by repeat (first | exact Drawn0.refl _ | apply Drawn0.step)⟩

/-! ### impl_soughtFrom: function 68 -/
def impl_soughtFrom.f (a0 : Int) (a1 : Int) : Option (Bool) := (impl_sought.f a0).bind fun t126 => (if t126 = true then ((impl_isNumber.f a1).bind fun t127 => (if t127 = true then (some (decide ((wrap64 (a1 + a0)) ≤ 20))) else (some false))) else (some false))
set_option maxHeartbeats 8000000 in
set_option maxRecDepth 100000 in
theorem impl_soughtFrom.calls (a0 : Int) (a1 : Int) (r : Bool) (w : World) (h : impl_soughtFrom.f a0 a1 = some r) :
    Calls Try.prog 68 #[.int .i64 a0, .int .i64 a1] w fun e w' => e = .returned (.bool r) ∧ Drawn0 w w' := by
  have H : ((impl_sought.f a0).bind fun t126 => (if t126 = true then ((impl_isNumber.f a1).bind fun t127 => (if t127 = true then (some (decide ((wrap64 (a1 + a0)) ≤ 20))) else (some false))) else (some false))) = some r := h
  clear h
  replace H := Option.bind_eq_some_iff.mp H
  obtain ⟨t126, A30, H⟩ := H
  replace H : (if t126 = true then ((impl_isNumber.f a1).bind fun t127 => (if t127 = true then (some (decide ((wrap64 (a1 + a0)) ≤ 20))) else (some false))) else (some false)) = some r := H
  have A3 := Aside0.mk A30
  clear A30
  by_cases c4 : t126 = true
  · subst c4
    have H1 : ((impl_isNumber.f a1).bind fun t127 => (if t127 = true then (some (decide ((wrap64 (a1 + a0)) ≤ 20))) else (some false))) = some r := by rw [if_pos rfl] at H; exact H
    clear H
    have H := H1
    clear H1
    replace H := Option.bind_eq_some_iff.mp H
    obtain ⟨t127, A50, H⟩ := H
    replace H : (if t127 = true then (some (decide ((wrap64 (a1 + a0)) ≤ 20))) else (some false)) = some r := H
    have A5 := Aside0.mk A50
    clear A50
    by_cases c6 : t127 = true
    · subst c6
      have H1 : (some (decide ((wrap64 (a1 + a0)) ≤ 20))) = some r := by rw [if_pos rfl] at H; exact H
      clear H
      have H := H1
      clear H1
      obtain rfl := Option.some.inj H
      go_enter Try.func68, Try.ntmps68
      go_wp2_with (first | ((with_reducible refine gate_callee (f := 62) rfl ?_); refine goesL_ (some 6) rfl rfl Try.func62 (by kernel_rfl) rfl #[.int .i64 a0] rfl (by (try simp only [List.map_toArray, List.map_cons, List.map_nil]); first | done | rfl | (simp only [List.length_drop, List.length_take]; rfl)) ?_; (with_reducible refine (impl_sought.calls a0 true _ A3.out).mono ?_); rintro e w' ⟨rfl, ⟨nd, rfl⟩⟩; refine ⟨_, rfl, ?_⟩) | (go_at_call 56; (with_reducible refine (impl_isNumber.calls a1 true _ A5.out).mono ?_); rintro e w' ⟨rfl, ⟨nd, rfl⟩⟩))
      go_ret
      exact ⟨by first | rfl | (simp; done) | (simp [*]; done), by repeat (first | exact Drawn0.refl _ | apply Drawn0.step)⟩
    · replace c6 := Bool.eq_false_iff.mpr c6
      subst c6
      have H1 : (some false) = some r := by rw [if_neg (show ¬ (false = true) by decide)] at H; exact H
      clear H
      have H := H1
      clear H1
      obtain rfl := Option.some.inj H
      go_enter Try.func68, Try.ntmps68
      go_wp2_with (first | ((with_reducible refine gate_callee (f := 62) rfl ?_); refine goesL_ (some 6) rfl rfl Try.func62 (by kernel_rfl) rfl #[.int .i64 a0] rfl (by (try simp only [List.map_toArray, List.map_cons, List.map_nil]); first | done | rfl | (simp only [List.length_drop, List.length_take]; rfl)) ?_; (with_reducible refine (impl_sought.calls a0 true _ A3.out).mono ?_); rintro e w' ⟨rfl, ⟨nd, rfl⟩⟩; refine ⟨_, rfl, ?_⟩) | (go_at_call 56; (with_reducible refine (impl_isNumber.calls a1 false _ A5.out).mono ?_); rintro e w' ⟨rfl, ⟨nd, rfl⟩⟩))
      go_ret
      exact ⟨by first | rfl | (simp; done) | (simp [*]; done), by repeat (first | exact Drawn0.refl _ | apply Drawn0.step)⟩
  · replace c4 := Bool.eq_false_iff.mpr c4
    subst c4
    have H1 : (some false) = some r := by rw [if_neg (show ¬ (false = true) by decide)] at H; exact H
    clear H
    have H := H1
    clear H1
    obtain rfl := Option.some.inj H
    go_enter Try.func68, Try.ntmps68
    go_wp2_with (first | ((with_reducible refine gate_callee (f := 62) rfl ?_); refine goesL_ (some 6) rfl rfl Try.func62 (by kernel_rfl) rfl #[.int .i64 a0] rfl (by (try simp only [List.map_toArray, List.map_cons, List.map_nil]); first | done | rfl | (simp only [List.length_drop, List.length_take]; rfl)) ?_; (with_reducible refine (impl_sought.calls a0 false _ A3.out).mono ?_); rintro e w' ⟨rfl, ⟨nd, rfl⟩⟩; refine ⟨_, rfl, ?_⟩))
    go_ret
    exact ⟨by first | rfl | (simp; done) | (simp [*]; done), by repeat (first | exact Drawn0.refl _ | apply Drawn0.step)⟩

-- NOT PRINTED: function 69 (impl_langfordKind)

/-! ### impl_AllLangford: function 32 -/
theorem impl_AllLangford.in_ {a0 a1 : Int} (h : impl_soughtFrom.f a0 a1 = some true) : 1 ≤ a0 ∧ a0 ≤ 9 ∧ 1 ≤ a1 ∧ a1 ≤ 20 ∧ a1 + a0 ≤ 20 := by
  unfold impl_soughtFrom.f impl_sought.f impl_isNumber.f at h
  by_cases h1 : 1 ≤ a0 <;> by_cases h2 : a0 ≤ 9 <;> by_cases h3 : 1 ≤ a1 <;> by_cases h4 : a1 ≤ 20 <;> simp [h1, h2, h3, h4] at h
  unfold wrap64 at h
  omega
def impl_AllLangford.f (a0 a1 : Int) : Option (List (List Int) × Bool) := (impl_soughtFrom.f a0 a1).bind fun t => if t = true then (Search.fillF 1 (Search.astep 600) 40 (Search.row0 (2 * a0.toNat) (-1)) (Search.left0 a0.toNat a1.toNat) []).map (fun r => if (r.1.length : Int) > 600 then ([], false) else (r.1, true)) else some ([], false)
set_option maxHeartbeats 8000000 in
set_option maxRecDepth 100000 in
theorem impl_AllLangford.calls (a0 a1 : Int) (r1 : List (List Int)) (r2 : Bool) (w : World) (h : impl_AllLangford.f a0 a1 = some (r1, r2)) :
    Calls Try.prog 32 #[.int .i64 a0, .int .i64 a1] w fun e w' => ∃ v0_ : Value, e = .returned (.tuple #[v0_, .bool r2]) ∧ Kd.S (Kd.slice 3 (Kd.int .i64)) 22 w' w.heap.size (fun _ => True) v0_ r1 ∧ Below w.heap.size w w' := by
  obtain ⟨t, ht, h⟩ := Option.bind_eq_some_iff.1 h
  have A0 := Aside0.mk ht
  cases t with
  | false =>
    rw [if_neg (by decide)] at h
    obtain ⟨rfl, rfl⟩ := Prod.mk.inj (Option.some.inj h)
    clear h ht
    go_enter Try.func32, Try.ntmps32
    go_wp2_with (first | ((with_reducible refine gate_callee (f := 68) rfl ?_); refine goesL_ (some 8) rfl rfl Try.func68 (by kernel_rfl) rfl #[.int .i64 a0, .int .i64 a1] rfl (by (try simp only [List.map_toArray, List.map_cons, List.map_nil]); first | done | rfl) ?_; refine (impl_soughtFrom.calls a0 a1 _ _ A0.out).mono ?_; rintro e w' ⟨rfl, ⟨nd, rfl⟩⟩; refine ⟨_, rfl, ?_⟩; have HB0 := Aside0.mk (pw_below_drewN (Below.refl w.heap.size w) nd); have HS0 := Aside0.mk (show (w.drewN nd).heap.size = w.heap.size from rfl); generalize w.drewN nd = W0 at HB0 HS0 ⊢))
    go_ret2
    exact ⟨_, rfl, Kd.S_nil _ _ _ _ _, HB0.out⟩
  | true =>
    have hm := impl_AllLangford.in_ ht
    rw [if_pos rfl] at h
    obtain ⟨⟨r, rb⟩, hc, he⟩ := Option.map_eq_some_iff.1 h
    simp only [] at he
    have RC := Aside0.mk (fun w : World => Search.allRows (w := w) (C := w.heap.size + 3) (M := w.heap.size + 2) (by omega) (by omega) (by omega) (by omega) (by omega) (by omega) (by omega) (by omega) hc)
    have HN := Aside0.mk (show ((a0.toNat : Nat) : Int) = a0 by omega)
    have HD := Aside0.mk (show ((a1.toNat : Nat) : Int) = a1 by omega)
    have HP := Aside0.mk (show (((2 * a0.toNat : Nat)) : Int) = wrap64 (2 * a0) by unfold wrap64; omega)
    by_cases hl : (r.length : Int) > 600
    · rw [if_pos hl] at he
      obtain ⟨rfl, rfl⟩ := Prod.mk.inj he
      have bl1 : decide (600 < r.length) = true := decide_eq_true (by omega)
      have bl2 : decide (600 < (r.length : Int)) = true := decide_eq_true (by omega)
      clear hm h hc he ht hl
      go_enter Try.func32, Try.ntmps32
      go_wp2_with (first | ((with_reducible refine gate_callee (f := 68) rfl ?_); refine goesL_ (some 8) rfl rfl Try.func68 (by kernel_rfl) rfl #[.int .i64 a0, .int .i64 a1] rfl (by (try simp only [List.map_toArray, List.map_cons, List.map_nil]); first | done | rfl) ?_; refine (impl_soughtFrom.calls a0 a1 _ _ A0.out).mono ?_; rintro e w' ⟨rfl, ⟨nd, rfl⟩⟩; refine ⟨_, rfl, ?_⟩; have HB0 := Aside0.mk (pw_below_drewN (Below.refl w.heap.size w) nd); have HS0 := Aside0.mk (show (w.drewN nd).heap.size = w.heap.size from rfl); generalize w.drewN nd = W0 at HB0 HS0 ⊢) | ((with_reducible refine gate_callee (f := 102) rfl ?_); refine goesL_ (some 9) rfl rfl Try.func102 (by kernel_rfl) rfl #[.int .i64 ((2 * a0.toNat : Nat) : Int), .int .i64 ((a0.toNat : Nat) : Int), .int .i64 ((a1.toNat : Nat) : Int), .int .i64 ((1 : Nat) : Int), .int .i64 (-1), .func (.func 96) #[] #[.pointer (some ⟨W0.heap.size + 3, 0, none⟩), .pointer (some ⟨W0.heap.size + 2, 0, none⟩)]] rfl (by rw [HP.out, HN.out, HD.out]; (try simp only [List.map_toArray, List.map_cons, List.map_nil]); first | done | rfl) ?_; refine (RC.out W0 _ (Search.heap_alloc4_new _ _ _ _ _) (((below_alloc (Below.refl _ _) _).block _ (blk_lt (Search.heap_alloc3_new _ _ _ _))).trans (Search.heap_alloc3_new _ _ _ _)) (below_alloc (below_alloc (below_alloc (below_alloc (Below.refl _ _) _) _) _) _)).mono ?_; rintro e w5 ⟨rfl, ⟨A5, c5, hv5, hm5, ho5⟩, hb5⟩; refine ⟨_, rfl, ?_⟩; have hc5 := hv5.cell; have HO5 := Aside0.mk ho5; have HB5 := Aside0.mk hb5; clear hv5 ho5 hb5) | go_in)
      go_end0
      go_wp2
      go_ret2
      exact ⟨_, rfl, Kd.S_nil _ _ _ _ _, HB0.out.trans (by rw [← HS0.out]; exact HB5.out)⟩
    · rw [if_neg hl] at he
      obtain ⟨rfl, rfl⟩ := Prod.mk.inj he
      have bl1 : decide (600 < r.length) = false := decide_eq_false (by omega)
      have bl2 : decide (600 < (r.length : Int)) = false := decide_eq_false (by omega)
      clear hm h hc he ht hl
      go_enter Try.func32, Try.ntmps32
      go_wp2_with (first | ((with_reducible refine gate_callee (f := 68) rfl ?_); refine goesL_ (some 8) rfl rfl Try.func68 (by kernel_rfl) rfl #[.int .i64 a0, .int .i64 a1] rfl (by (try simp only [List.map_toArray, List.map_cons, List.map_nil]); first | done | rfl) ?_; refine (impl_soughtFrom.calls a0 a1 _ _ A0.out).mono ?_; rintro e w' ⟨rfl, ⟨nd, rfl⟩⟩; refine ⟨_, rfl, ?_⟩; have HB0 := Aside0.mk (pw_below_drewN (Below.refl w.heap.size w) nd); have HS0 := Aside0.mk (show (w.drewN nd).heap.size = w.heap.size from rfl); generalize w.drewN nd = W0 at HB0 HS0 ⊢) | ((with_reducible refine gate_callee (f := 102) rfl ?_); refine goesL_ (some 9) rfl rfl Try.func102 (by kernel_rfl) rfl #[.int .i64 ((2 * a0.toNat : Nat) : Int), .int .i64 ((a0.toNat : Nat) : Int), .int .i64 ((a1.toNat : Nat) : Int), .int .i64 ((1 : Nat) : Int), .int .i64 (-1), .func (.func 96) #[] #[.pointer (some ⟨W0.heap.size + 3, 0, none⟩), .pointer (some ⟨W0.heap.size + 2, 0, none⟩)]] rfl (by rw [HP.out, HN.out, HD.out]; (try simp only [List.map_toArray, List.map_cons, List.map_nil]); first | done | rfl) ?_; refine (RC.out W0 _ (Search.heap_alloc4_new _ _ _ _ _) (((below_alloc (Below.refl _ _) _).block _ (blk_lt (Search.heap_alloc3_new _ _ _ _))).trans (Search.heap_alloc3_new _ _ _ _)) (below_alloc (below_alloc (below_alloc (below_alloc (Below.refl _ _) _) _) _) _)).mono ?_; rintro e w5 ⟨rfl, ⟨A5, c5, hv5, hm5, ho5⟩, hb5⟩; refine ⟨_, rfl, ?_⟩; have hc5 := hv5.cell; have HO5 := Aside0.mk ho5; have HB5 := Aside0.mk hb5; clear hv5 ho5 hb5) | go_in)
      go_end0
      go_wp2
      go_ret2
      exact ⟨_, rfl, by rw [← HS0.out]; exact HO5.out, HB0.out.trans (by rw [← HS0.out]; exact HB5.out)⟩

/-! ### laws_FnExactAllLangford: function 8 -/
section
open Go.Proofs.Ytgpnhaaklhinlaa.Aid
theorem eqIntS_l0 (xs ys : List Int) (hx : xs.length ≤ 1048576) (hl : xs.length = ys.length) : ∀ (s t : List Int) (i : Nat), xs.drop i = s → ys.drop i = t → Ev (fun k => laws_eqIntS.l0 k xs ys (i : Int)) (decide (s = t))
  | [], t, i, h, h' => by
    have h1 := dropNil h
    have h2 : t = [] := by rw [← h']; simp; omega
    subst h2
    refine Ev.of1 (fun k => ?_)
    simp (disch := omega) only [if_true, if_false, Bool.false_eq_true, laws_eqIntS.l0, if_neg]
    simp
  | x :: s, [], i, h, h' => by
    have h1 := dropLt h
    have h2 := dropNil h'
    omega
  | x :: s, y :: t, i, h, h' => by
    obtain ⟨h1, h2, h3⟩ := dropCons h
    obtain ⟨h1', h2', h3'⟩ := dropCons h'
    by_cases c : x = y
    · refine Ev.step (f := fun k => laws_eqIntS.l0 k xs ys ((i + 1 : Nat) : Int)) (fun k => ?_) ((eqIntS_l0 xs ys hx hl s t (i + 1) h3 h3').cast (by simp [c]))
      simp (disch := omega) only [if_true, if_false, Bool.false_eq_true, laws_eqIntS.l0, if_pos, w64s, h2, h2']
    · refine Ev.of1 (fun k => ?_)
      simp (disch := omega) only [if_true, if_false, Bool.false_eq_true, laws_eqIntS.l0, if_pos, if_neg, h2, h2']
      simp [c]
theorem eqIntS_ev (xs ys : List Int) (hx : xs.length ≤ 1048576) : Ev (fun k => laws_eqIntS.f k xs ys) (decide (xs = ys)) := by
  by_cases c : xs.length = ys.length
  · refine Ev.congr (fun k => ?_) (eqIntS_l0 xs ys hx c xs ys 0 rfl rfl)
    unfold laws_eqIntS.f
    rw [if_pos (by omega)]
    rfl
  · refine Ev.all (fun k => ?_)
    unfold laws_eqIntS.f
    rw [if_neg (by omega)]
    have : xs ≠ ys := fun e => c (by rw [e])
    simp [this]
theorem eqIntS_same (xs : List Int) (hx : xs.length ≤ 1048576) : Ev (fun k => laws_eqIntS.f k xs xs) true := (eqIntS_ev xs xs hx).cast (by simp)
theorem dropConsL {xs : List (List Int)} {i : Nat} {x : List Int} {t : List (List Int)} (h : xs.drop i = x :: t) : i < xs.length ∧ rd_L1 xs (i : Int) = x ∧ xs.drop (i + 1) = t :=
  ⟨dropLt h, by simp [rd_L1, List.getD_eq_getElem?_getD, dropGet h], dropSucc h⟩
theorem memDrop {α : Type} {xs : List α} {i : Nat} {x : α} {t : List α} (h : xs.drop i = x :: t) : x ∈ xs := by
  rw [← List.take_append_drop i xs, h]
  simp
theorem eqIntSS_l0 (xs ys : List (List Int)) (hx : xs.length ≤ 1048576) (hm : ∀ x ∈ xs, x.length ≤ 1048576) (hl : xs.length = ys.length) : ∀ (s t : List (List Int)) (i : Nat), xs.drop i = s → ys.drop i = t → Ev (fun k => laws_eqIntSS.l0 k xs ys (i : Int)) (decide (s = t))
  | [], t, i, h, h' => by
    have h1 := dropNil h
    have h2 : t = [] := by rw [← h']; simp; omega
    subst h2
    refine Ev.of1 (fun k => ?_)
    simp (disch := omega) only [if_true, if_false, Bool.false_eq_true, laws_eqIntSS.l0, if_neg]
    simp
  | x :: s, [], i, h, h' => by
    have h1 := dropLt h
    have h2 := dropNil h'
    omega
  | x :: s, y :: t, i, h, h' => by
    obtain ⟨h1, h2, h3⟩ := dropConsL h
    obtain ⟨h1', h2', h3'⟩ := dropConsL h'
    refine Ev.step (f := fun k => (laws_eqIntS.f k x y).bind fun t120 => (if t120 = true then (laws_eqIntSS.l0 k xs ys ((i + 1 : Nat) : Int)) else (some false))) (fun k => ?_) (Ev.bind (eqIntS_ev x y (hm x (memDrop h))) ?_)
    · simp (disch := omega) only [if_true, if_false, Bool.false_eq_true, laws_eqIntSS.l0, if_pos, w64s, h2, h2']
    · by_cases c : x = y
      · simp only [c, decide_true, if_true]
        exact (eqIntSS_l0 xs ys hx hm hl s t (i + 1) h3 h3').cast (by simp)
      · simp only [c, decide_false, Bool.false_eq_true, if_false]
        exact (Ev.now _).cast (by simp [c])
theorem eqIntSS_ev (xs ys : List (List Int)) (hx : xs.length ≤ 1048576) (hm : ∀ x ∈ xs, x.length ≤ 1048576) : Ev (fun k => laws_eqIntSS.f k xs ys) (decide (xs = ys)) := by
  by_cases c : xs.length = ys.length
  · refine Ev.congr (fun k => ?_) (eqIntSS_l0 xs ys hx hm c xs ys 0 rfl rfl)
    unfold laws_eqIntSS.f
    rw [if_pos (by omega)]
    rfl
  · refine Ev.all (fun k => ?_)
    unfold laws_eqIntSS.f
    rw [if_neg (by omega)]
    have : xs ≠ ys := fun e => c (by rw [e])
    simp [this]
theorem eqIntSS_same (xs : List (List Int)) (hx : xs.length ≤ 1048576) (hm : ∀ x ∈ xs, x.length ≤ 1048576) : Ev (fun k => laws_eqIntSS.f k xs xs) true := (eqIntSS_ev xs xs hx hm).cast (by simp)
theorem heldIntS_l0 (xs : List Int) (hx : xs.length ≤ 1048576) : ∀ (n : Nat) (i : Nat) (m : Int), xs.drop i = upFrom n m → 0 ≤ m → m + n ≤ 9223372036854775807 → Ev (fun k => laws_heldIntS.l0 k xs m (i : Int)) (m + n)
  | 0, i, m, h, hm, hb => by
    have h1 := dropNil h
    refine Ev.of1 (fun k => ?_)
    simp (disch := omega) only [if_true, if_false, Bool.false_eq_true, laws_heldIntS.l0, if_neg]
    simp
  | n + 1, i, m, h, hm, hb => by
    obtain ⟨h1, h2, h3⟩ := dropCons (x := m) (t := upFrom n (m + 1)) h
    refine Ev.step (f := fun k => laws_heldIntS.l0 k xs (m + 1) ((i + 1 : Nat) : Int)) (fun k => ?_) ((heldIntS_l0 xs hx n (i + 1) (m + 1) h3 (by omega) (by omega)).cast (by omega))
    have e1 : wrap64 (m + 1) = m + 1 := w64 (by omega) (by omega)
    simp (disch := omega) only [if_true, if_false, Bool.false_eq_true, laws_heldIntS.l0, if_pos, w64s, e1, h2]
theorem heldIntS_ev (n : Nat) (hx : n ≤ 1048576) : Ev (fun k => laws_heldIntS.f k (upFrom n 1) 1) (1 + n) :=
  Ev.congr (fun k => rfl) (heldIntS_l0 (upFrom n 1) (by rw [upFrom_length]; exact hx) n 0 1 rfl (by omega) (by omega))
theorem heldIntS_from (xs : List Int) (n : Nat) (m : Int) (hx : xs = upFrom n m) (hn : n ≤ 1048576) (hm : 0 ≤ m) (hb : m + n ≤ 9223372036854775807) : Ev (fun k => laws_heldIntS.f k xs m) (m + n) := by
  subst hx
  exact Ev.congr (fun k => rfl) (heldIntS_l0 (upFrom n m) (by rw [upFrom_length]; exact hn) n 0 m rfl hm hb)
theorem heldIntSS_l0 (xs : List (List Int)) (hx : xs.length ≤ 1048576) : ∀ (t : List (List Int)) (i : Nat) (m : Int), xs.drop i = marksL m t → 0 ≤ m → m + (totalL t : Nat) ≤ 9223372036854775807 → (∀ x ∈ t, x.length ≤ 1048576) → Ev (fun k => laws_heldIntSS.l0 k xs m (i : Int)) (m + (totalL t : Nat))
  | [], i, m, h, hm, hb, ht => by
    have h1 := dropNil h
    refine Ev.of1 (fun k => ?_)
    simp (disch := omega) only [if_true, if_false, Bool.false_eq_true, laws_heldIntSS.l0, if_neg]
    simp [totalL]
  | x :: t, i, m, h, hm, hb, ht => by
    obtain ⟨h1, h2, h3⟩ := dropConsL (x := upFrom x.length m) (t := marksL (m + x.length) t) h
    simp only [totalL, Int.natCast_add] at hb ⊢
    refine Ev.step (f := fun k => (laws_heldIntS.f k (upFrom x.length m) m).bind fun y => (if y < 0 then (some (-1)) else (laws_heldIntSS.l0 k xs y ((i + 1 : Nat) : Int)))) (fun k => ?_) (Ev.bind (heldIntS_from _ x.length m rfl (ht x List.mem_cons_self) hm (by omega)) ?_)
    · simp (disch := omega) only [if_true, if_false, Bool.false_eq_true, laws_heldIntSS.l0, if_pos, w64s, h2]
    · refine Ev.congr (fun k => by rw [if_neg (by omega)]) ((heldIntSS_l0 xs hx t (i + 1) (m + x.length) h3 (by omega) (by omega) (fun y hy => ht y (List.mem_cons_of_mem _ hy))).cast (by omega))
theorem heldIntSS_ev (xs : List (List Int)) (hx : xs.length ≤ 1048576) (ht : totalL xs ≤ 1048576) : Ev (fun k => laws_heldIntSS.f k (marksL 1 xs) 1) (1 + (totalL xs : Nat)) :=
  Ev.congr (fun k => rfl) (heldIntSS_l0 (marksL 1 xs) (by rw [marksL_len]; exact hx) xs 0 1 rfl (by omega) (by omega) (fun x h => Nat.le_trans (totalL_mem xs x h) ht))
theorem held_at (K : Nat) (A : Option Addr) (c : Nat) (r : List (List Int)) (w : World) {b : Nat} {ok : Nat → Prop} (h : Kd.S (Kd.slice 3 (Kd.int .i64)) 22 w b ok (.slice A r.length c) (marksL 1 r)) (hh : laws_heldIntSS.f K (marksL 1 r) 1 = some (1 + (totalL r : Nat))) :
    Calls Try.prog 19 #[.slice A r.length c, .int .i64 1] w fun e w' => e = .returned (.int .i64 (1 + ((totalL r : Nat) : Int))) ∧ Drawn0 w w' := by
  have hr := Kd.R_reads' (Kd.S_R h)
  have hc := laws_heldIntSS.calls K A c (marksL 1 r) 1 _ w hr.2.2 (by rw [marksL_len]; exact hr.2.1) hh
  rw [marksL_len] at hc
  exact hc
end
/-- THE ONE PURE STATEMENT that is left: both come to one answer. -/
def laws_FnExactAllLangford.Pure : Prop := ∀ (a0 : Int) (a1 : Int), (Lit.int .i64 a0).wf = true → (Lit.int .i64 a1).wf = true → ∃ (k : Nat) (r : List (List Int)) (rb : Bool), spec_AllLangford.f a0 a1 = some (r, rb) ∧ impl_AllLangford.f a0 a1 = some (r, rb) ∧ r.length ≤ 1048576 ∧ totalL r ≤ 1048576
set_option maxHeartbeats 8000000 in
set_option maxRecDepth 100000 in
theorem laws_FnExactAllLangford.walk (P : laws_FnExactAllLangford.Pure) (a0 : Int) (a1 : Int) (w : World) (w0 : (Lit.int .i64 a0).wf = true) (w1 : (Lit.int .i64 a1).wf = true) :
    Calls Try.prog 8 #[.int .i64 a0, .int .i64 a1] w fun e w' => e = .returned (.bool true) ∧ Below w.heap.size w w' := by
  have HBw := Aside0.mk (Below.refl w.heap.size w)
  obtain ⟨K5, r, rb, hsp, him, hrl, hrt⟩ := P a0 a1 w0 w1
  have HSP := Aside0.mk hsp
  have HIM := Aside0.mk him
  have HRL := Aside0.mk (show r.length ≤ 1048576 ∧ totalL r ≤ 1048576 from ⟨hrl, hrt⟩)
  obtain ⟨K2, h2⟩ := eqIntSS_same r hrl (fun x hx => Nat.le_trans (totalL_mem r x hx) hrt)
  obtain ⟨K4, h4⟩ := heldIntSS_ev r hrl hrt
  have bm : decide (1 + ((totalL r : Nat) : Int) < 0) = false := decide_eq_false (by omega)
  have be : (rb != rb) = false := by cases rb <;> rfl
  have H2 := Aside0.mk (h2 K2 (Nat.le_refl _))
  have H4 := Aside0.mk (h4 K4 (Nat.le_refl _))
  clear hsp him hrl h2 h4 hrt w0 w1
  go_enter Try.func8, Try.ntmps8
  go_wp2_with (first | ((with_reducible refine gate_dst (N := 16) rfl ?_); refine goesL_ (some 16) rfl rfl Try.func31 (by kernel_rfl) rfl #[.int .i64 a0, .int .i64 a1] rfl (by (try simp only [List.map_toArray, List.map_cons, List.map_nil]); first | done | rfl) ?_; refine (spec_AllLangford.calls  a0 a1 r rb _  HSP.out).mono ?_; rintro e_ w1 ⟨v_, rfl, ho_, hb_⟩; refine ⟨_, rfl, ?_⟩; obtain ⟨Aw, cw, rfl⟩ := Kd.R_slice ho_; have n_HBw := Aside0.mk (below_step HBw.out hb_); clear HBw; have HBw := n_HBw; clear n_HBw; have HW := Aside0.mk (ho_); have HBw3 := Aside0.mk HBw.out; have HB3 := Aside0.mk (Below.refl w1.heap.size w1); clear ho_ hb_; have HB4 := Aside0.mk HB3.out; have HWC := Aside0.mk (Kd.R_reads' HW.out).2.2; have HWN := Aside0.mk (Kd.R_reads' HW.out).2.1; clear HW) | ((with_reducible refine gate_dst (N := 22) rfl ?_); refine goesL_ (some 22) rfl rfl Try.func32 (by kernel_rfl) rfl #[.int .i64 a0, .int .i64 a1] rfl (by (try simp only [List.map_toArray, List.map_cons, List.map_nil]); first | done | rfl) ?_; refine (impl_AllLangford.calls  a0 a1 r rb _  HIM.out).mono ?_; rintro e_ w2 ⟨v_, rfl, ho_, hb_⟩; refine ⟨_, rfl, ?_⟩; obtain ⟨Ag, cg, rfl⟩ := Kd.R_slice (Kd.S_R ho_); have n_HBw := Aside0.mk (below_step HBw.out hb_); have n_HB3 := Aside0.mk (below_step HB3.out hb_); clear HBw; clear HB3; have HBw := n_HBw; have HB3 := n_HB3; clear n_HBw; clear n_HB3; have HG := Aside0.mk (show Kd.S (Kd.slice 3 (Kd.int .i64)) 22 w2 w1.heap.size (fun q_ => w1.heap.size ≤ q_) (.slice Ag r.length cg) r from Kd.S_lower (Kd.S_mono (Kd.S_bound ho_) (fun q_ hq_ => hq_.2.1)) HB4.out.size); clear ho_ hb_) | ((with_reducible refine gate_dst (N := 27) rfl ?_); refine goesL_ (some 27) rfl rfl Try.func15 (by kernel_rfl) rfl #[.slice Ag r.length cg, .slice Aw r.length cw] rfl (by (try simp only [List.map_toArray, List.map_cons, List.map_nil]); first | done | rfl) ?_; refine (laws_eqIntSS.calls K2 Ag cg r Aw cw r true _ (Kd.R_reads' (Kd.S_R HG.out)).2.2 (Kd.R_reads' (Kd.S_R HG.out)).2.1 (Kd.C_below HWC.out HB3.out) HWN.out H2.out).mono ?_; rintro e_ w_ ⟨rfl, ⟨nd_, rfl⟩⟩; refine ⟨_, rfl, ?_⟩; have hb_ := pw_below_drewN (Below.refl w2.heap.size w2) nd_; generalize w2.drewN nd_ = w3 at hb_ ⊢; have n_HBw := Aside0.mk (below_step HBw.out hb_); have n_HB3 := Aside0.mk (below_step HB3.out hb_); have n_HG := Aside0.mk (Kd.S_below HG.out hb_); clear HBw; clear HB3; clear HG; have HBw := n_HBw; have HB3 := n_HB3; have HG := n_HG; clear n_HBw; clear n_HB3; clear n_HG; clear hb_) | ((with_reducible refine gate_dst (N := 36) rfl ?_); refine goesL_ (some 36) rfl rfl Try.func18 (by kernel_rfl) rfl #[.slice Ag r.length cg, .int .i64 1] rfl (by (try simp only [List.map_toArray, List.map_cons, List.map_nil]); first | done | rfl) ?_; refine (laws_markIntSS.calls (w0 := w1) (m := 1) (xs := r) HRL.out.1 HRL.out.2 (by omega) (by omega) _ HB3.out HG.out).mono ?_; rintro e_ w4 ⟨rfl, hs_, hb_, hk_⟩; refine ⟨_, rfl, ?_⟩; have n_HBw := Aside0.mk (below_step HBw3.out hb_); have n_HB3 := Aside0.mk (hb_); clear HBw; clear HB3; clear HG; have HBw := n_HBw; have HB3 := n_HB3; clear n_HBw; clear n_HB3; have HG := Aside0.mk hs_; clear hs_ hb_ hk_) | ((with_reducible refine gate_dst (N := 39) rfl ?_); refine goesL_ (some 39) rfl rfl Try.func19 (by kernel_rfl) rfl #[.slice Ag r.length cg, .int .i64 1] rfl (by (try simp only [List.map_toArray, List.map_cons, List.map_nil]); first | done | rfl) ?_; refine (held_at K4 Ag cg r _ HG.out H4.out).mono ?_; rintro e_ w_ ⟨rfl, ⟨nd_, rfl⟩⟩; refine ⟨_, rfl, ?_⟩; have hb_ := pw_below_drewN (Below.refl w4.heap.size w4) nd_; generalize w4.drewN nd_ = w5 at hb_ ⊢; have n_HBw := Aside0.mk (below_step HBw.out hb_); have n_HB3 := Aside0.mk (below_step HB3.out hb_); have n_HG := Aside0.mk (Kd.S_below HG.out hb_); clear HBw; clear HB3; clear HG; have HBw := n_HBw; have HB3 := n_HB3; have HG := n_HG; clear n_HBw; clear n_HB3; clear n_HG; clear hb_) | ((with_reducible refine gate_dst (N := 48) rfl ?_); refine goesL_ (some 48) rfl rfl Try.func32 (by kernel_rfl) rfl #[.int .i64 a0, .int .i64 a1] rfl (by (try simp only [List.map_toArray, List.map_cons, List.map_nil]); first | done | rfl) ?_; refine (impl_AllLangford.calls  a0 a1 r rb _  HIM.out).mono ?_; rintro e_ w6 ⟨v_, rfl, ho_, hb_⟩; refine ⟨_, rfl, ?_⟩; obtain ⟨Ah, ch, rfl⟩ := Kd.R_slice (Kd.S_R ho_); have n_HBw := Aside0.mk (below_step HBw.out hb_); have n_HB3 := Aside0.mk (below_step HB3.out hb_); have n_HG := Aside0.mk (Kd.S_below HG.out hb_); clear HBw; clear HB3; clear HG; have HBw := n_HBw; have HB3 := n_HB3; have HG := n_HG; clear n_HBw; clear n_HB3; clear n_HG; have HH := Aside0.mk ho_; clear ho_ hb_) | ((with_reducible refine gate_dst (N := 53) rfl ?_); refine goesL_ (some 53) rfl rfl Try.func15 (by kernel_rfl) rfl #[.slice Ah r.length ch, .slice Aw r.length cw] rfl (by (try simp only [List.map_toArray, List.map_cons, List.map_nil]); first | done | rfl) ?_; refine (laws_eqIntSS.calls K2 Ah ch r Aw cw r true _ (Kd.R_reads' (Kd.S_R HH.out)).2.2 (Kd.R_reads' (Kd.S_R HH.out)).2.1 (Kd.C_below HWC.out HB3.out) HWN.out H2.out).mono ?_; rintro e_ w_ ⟨rfl, ⟨nd_, rfl⟩⟩; refine ⟨_, rfl, ?_⟩; have hb_ := pw_below_drewN (Below.refl w6.heap.size w6) nd_; generalize w6.drewN nd_ = w7 at hb_ ⊢; have n_HBw := Aside0.mk (below_step HBw.out hb_); have n_HB3 := Aside0.mk (below_step HB3.out hb_); have n_HG := Aside0.mk (Kd.S_below HG.out hb_); clear HBw; clear HB3; clear HG; have HBw := n_HBw; have HB3 := n_HB3; have HG := n_HG; clear n_HBw; clear n_HB3; clear n_HG; clear hb_) | ((with_reducible refine gate_dst (N := 62) rfl ?_); refine goesL_ (some 62) rfl rfl Try.func19 (by kernel_rfl) rfl #[.slice Ag r.length cg, .int .i64 1] rfl (by (try simp only [List.map_toArray, List.map_cons, List.map_nil]); first | done | rfl) ?_; refine (held_at K4 Ag cg r _ HG.out H4.out).mono ?_; rintro e_ w_ ⟨rfl, ⟨nd_, rfl⟩⟩; refine ⟨_, rfl, ?_⟩; have hb_ := pw_below_drewN (Below.refl w7.heap.size w7) nd_; generalize w7.drewN nd_ = w8 at hb_ ⊢; have n_HBw := Aside0.mk (below_step HBw.out hb_); have n_HB3 := Aside0.mk (below_step HB3.out hb_); have n_HG := Aside0.mk (Kd.S_below HG.out hb_); clear HBw; clear HB3; clear HG; have HBw := n_HBw; have HB3 := n_HB3; have HG := n_HG; clear n_HBw; clear n_HB3; clear n_HG; clear hb_))
  go_ret
  exact ⟨rfl, HBw.out⟩

end Go.Proofs.Ytgpnhaaklhinlaa.PFnExactAllLangford
