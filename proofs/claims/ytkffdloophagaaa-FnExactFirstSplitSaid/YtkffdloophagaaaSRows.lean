/- The rows that a search begins with: the call of the search's first function. Conditions: none but those that each lemma states. -/
import Derived.Test.YtkffdloophagaaaFill
import Derived.Test.YtkffdloophagaaaSMake
import Derived.BigRegion
namespace Go.Proofs.Ytkffdloophagaaa.Search
open Go.RowKit Go.Proofs.YtkffdloophagaaaW.PrintWords Go.Proofs.YtkffdloophagaaaW.PrintLast Go.Proofs.YtkffdloophagaaaW.PrintMore
set_option linter.unusedVariables false
set_option linter.unusedSimpArgs false
/-- The row, x places in. -/
def rowAt (p x : Nat) : List Int := List.replicate x (-1) ++ List.replicate (p - x) 0
def leftAt (n d x : Nat) : List Int := (List.range x).map (fun i => ((d + i : Nat) : Int)) ++ List.replicate (n - x) 0
theorem rowAt_len {p x : Nat} (h : x ≤ p) : (rowAt p x).length = p := by simp [rowAt]; omega
theorem leftAt_len {n d x : Nat} (h : x ≤ n) : (leftAt n d x).length = n := by simp [leftAt]; omega
theorem set_append_len {α : Type} (a b : List α) (x v : α) : (a ++ x :: b).set a.length v = a ++ v :: b := by
  rw [List.set_append_right _ _ (Nat.le_refl _), Nat.sub_self]
  rfl
theorem rowAt_step {p x : Nat} (h : x < p) : (rowAt p x).set x (-1) = rowAt p (x + 1) := by
  have e : p - x = (p - (x + 1)) + 1 := by omega
  unfold rowAt
  rw [e, List.replicate_succ]
  have := set_append_len (List.replicate x (-1 : Int)) (List.replicate (p - (x + 1)) 0) 0 (-1)
  rw [List.length_replicate] at this
  rw [this, List.replicate_succ']
  simp
theorem leftAt_step {n d x : Nat} (h : x < n) : (leftAt n d x).set x ((d + x : Nat) : Int) = leftAt n d (x + 1) := by
  have e : n - x = (n - (x + 1)) + 1 := by omega
  unfold leftAt
  rw [e, List.replicate_succ]
  have := set_append_len ((List.range x).map (fun i => ((d + i : Nat) : Int))) (List.replicate (n - (x + 1)) 0) 0 ((d + x : Nat) : Int)
  rw [List.length_map, List.length_range] at this
  rw [this, List.range_succ]
  simp
/-- The row that the search begins with: every place free but the hole. -/
def row0 (p : Nat) (hole : Int) : List Int := if 0 ≤ hole then (List.replicate p (-1)).set hole.toNat 0 else List.replicate p (-1)
def left0 (n d : Nat) : List Int := (List.range n).map (fun i => ((d + i : Nat) : Int))
theorem wadd {a b : Nat} (ha : a ≤ 1000) (hb : b ≤ 1000) : wrap64 ((a : Int) + (b : Int)) = ((a + b : Nat) : Int) := by unfold wrap64; omega
set_option maxHeartbeats 8000000 in
set_option maxRecDepth 100000 in
theorem rows_calls {σ : Type} {f : FuncId} {cap : Array Value} {InvF : Nat → Nat → Nat → σ → World → Prop} {step : σ → List Int → σ × Bool} {live : σ → Prop} {B p n d sh : Nat} {hole : Int} {s : σ} {r : σ × Bool} (k : Nat) (w : World) (hp : p ≤ 100) (hn : n ≤ 100) (hd : d + n ≤ 100) (hsh : sh ≤ 1) (hh : hole < (p : Int)) (hB : B ≤ w.heap.size)
    (hC : ∀ R T L, w.heap.size ≤ R → w.heap.size ≤ T → w.heap.size ≤ L → R ≠ T → R ≠ L → T ≠ L → Clos Try.prog B R T L f cap (InvF R T L) step p live)
    (hI : ∀ R T L w', w.heap.size ≤ R → w.heap.size ≤ T → w.heap.size ≤ L → R ≠ T → R ≠ L → T ≠ L → R < w'.heap.size → T < w'.heap.size → L < w'.heap.size → Below w.heap.size w w' → InvF R T L s w')
    (hlive : live s) (h : fillF sh step k (row0 p hole) (left0 n d) s = some r) :
    Calls Try.prog 83 #[.int .i64 (p : Int), .int .i64 (n : Int), .int .i64 (d : Int), .int .i64 (sh : Int), .int .i64 hole, .func (.func f) #[] cap] w fun e w' => e = .returned (.tuple #[]) ∧ (∃ R T L, w.heap.size ≤ R ∧ w.heap.size ≤ T ∧ w.heap.size ≤ L ∧ InvF R T L r.1 w') ∧ Below B w w' := by
  have hm1 := mk_ints p hp
  have hm2 := mk_ints n hn
  have HP := Aside0.mk (show p ≤ 100 ∧ n ≤ 100 ∧ d + n ≤ 100 ∧ sh ≤ 1 ∧ hole < (p : Int) ∧ B ≤ w.heap.size from ⟨hp, hn, hd, hsh, hh, hB⟩)
  have HC := Aside0.mk hC
  have HI := Aside0.mk hI
  have HF := Aside0.mk h
  have HV := Aside0.mk hlive
  clear hp hn hd hsh hh hB hC hI hlive h
  go_enter Try.func83, Try.ntmps83
  go_wp2
  go_region
  all_goals go_wp2
  · have hR0 : Blk (((w.alloc (.cells (Array.replicate p (Value.int .i64 0)) 3 (0, 0))).alloc (.cells (Array.replicate n (Value.int .i64 0)) 3 (0, 0))).drew) (w.heap.size) (rowAt p 0) := by
      have h : Blk (((w.alloc (.cells (Array.replicate p (Value.int .i64 0)) 3 (0, 0))).alloc (.cells (Array.replicate n (Value.int .i64 0)) 3 (0, 0))).drew) (w.heap.size) (List.replicate p 0) := ((blk_new w p).alloc _)
      simpa [rowAt] using h
    have hL0 : Blk (((w.alloc (.cells (Array.replicate p (Value.int .i64 0)) 3 (0, 0))).alloc (.cells (Array.replicate n (Value.int .i64 0)) 3 (0, 0))).drew) (w.heap.size + 1) (leftAt n d 0) := by
      have h : Blk (((w.alloc (.cells (Array.replicate p (Value.int .i64 0)) 3 (0, 0))).alloc (.cells (Array.replicate n (Value.int .i64 0)) 3 (0, 0))).drew) (w.heap.size + 1) (List.replicate n 0) := (by have := blk_new (w.alloc (.cells (Array.replicate p (Value.int .i64 0)) 3 (0, 0))) n; rw [size_alloc] at this; exact this)
      simpa [leftAt] using h
    have hb0 : Below w.heap.size w (((w.alloc (.cells (Array.replicate p (Value.int .i64 0)) 3 (0, 0))).alloc (.cells (Array.replicate n (Value.int .i64 0)) 3 (0, 0))).drew) := below_drew (below_alloc (below_alloc (Below.refl _ _) _) _)
    have HR0 := Aside0.mk hR0
    have HL0 := Aside0.mk hL0
    have HB0 := Aside0.mk hb0
    clear hR0 hL0 hb0
    go_loopg [22] (p + 1) (fun kq v22 w' => ∃ x : Int, v22 = .int .i64 x ∧ Aside0 (0 ≤ x ∧ x ≤ (p : Int) ∧ kq + x.toNat = p + 1) ∧ Aside0 (Blk w' (w.heap.size) (rowAt p x.toNat)) ∧ Aside0 (Blk w' (w.heap.size + 1) (leftAt n d 0)) ∧ Aside0 (Below w.heap.size w w'))
    case atStart => exact ⟨0, rfl, ⟨by omega⟩, HR0, HL0, HB0⟩
    case round =>
      obtain ⟨x, rfl, HX, HR1, HL1, HB1⟩ := hrel
      cases gk with
      | zero => exact absurd HX.out (by omega)
      | succ k1 =>
        by_cases hx : x < (p : Int)
        · have cx : decide (x < (p : Int)) = true := decide_eq_true hx
          have p1 : (0 ≤ x) = True := eq_true HX.out.1
          have q1 : (x < (p : Int)) = True := eq_true hx
          have f1 := HR1.out.free x.toNat
          have g1 := HR1.out.cell (i := x.toNat) (by rw [rowAt_len (by have := HX.out; omega)]; have := HX.out; omega)
          have R2 := HR1.out.set x.toNat (-1)
          rw [rowAt_step (by have := HX.out; omega)] at R2
          have HR2 := Aside0.mk R2
          have HL2 := Aside0.mk (HL1.out.other (p := ⟨w.heap.size, x.toNat, none⟩) (v := .int .i64 (-1)) (by show (w.heap.size + 1) ≠ (w.heap.size); omega))
          have HB2 := Aside0.mk (HB1.out.setCell (p := ⟨w.heap.size, x.toNat, none⟩) (by show w.heap.size ≤ (w.heap.size); omega) (.int .i64 (-1)))
          have HXX := Aside0.mk hx
          clear R2 hx
          go_wp2
          go_roundg k1
          case measure => have := HX.out; omega
          case rel => exact ⟨x + 1, by rw [wsucc' HX.out.1 (by have := HXX.out; have := HP.out; omega)], ⟨by have := HX.out; have := HXX.out; omega⟩, by rw [show (x + 1).toNat = x.toNat + 1 by have := HX.out; omega]; exact HR2, HL2, HB2⟩
        · have cx : decide (x < (p : Int)) = false := decide_eq_false hx
          have R2 := HR1.out
          rw [show x.toNat = p by have := HX.out; omega, show rowAt p p = List.replicate p (-1) by simp [rowAt]] at R2
          have HR2 := Aside0.mk R2
          clear hx R2
          by_cases hh : 0 ≤ hole
          · have ch : decide (hole ≥ 0) = true := decide_eq_true hh
            have p2 : (0 ≤ hole) = True := eq_true hh
            have q2 : (hole < (p : Int)) = True := eq_true (by have := HP.out; omega)
            have f2 := HR2.out.free hole.toNat
            have g2 := HR2.out.cell (i := hole.toNat) (by rw [List.length_replicate]; have := HP.out; omega)
            have R3 := HR2.out.set hole.toNat 0
            rw [show (List.replicate p (-1)).set hole.toNat 0 = row0 p hole by simp [row0, hh]] at R3
            have HR3 := Aside0.mk R3
            have HL3 := Aside0.mk (HL1.out.other (p := ⟨w.heap.size, hole.toNat, none⟩) (v := .int .i64 0) (by show (w.heap.size + 1) ≠ (w.heap.size); omega))
            have HB3 := Aside0.mk (HB1.out.setCell (p := ⟨w.heap.size, hole.toNat, none⟩) (by show w.heap.size ≤ (w.heap.size); omega) (.int .i64 0))
            clear hh R3
            go_wp2
            go_loopg [36] (n + 1) (fun kq v36 w' => ∃ y : Int, v36 = .int .i64 y ∧ Aside0 (0 ≤ y ∧ y ≤ (n : Int) ∧ kq + y.toNat = n + 1) ∧ Aside0 (Blk w' (w.heap.size) (row0 p hole)) ∧ Aside0 (Blk w' (w.heap.size + 1) (leftAt n d y.toNat)) ∧ Aside0 (Below w.heap.size w w'))
            case atStart => exact ⟨0, rfl, ⟨by omega⟩, HR3, HL3, HB3⟩
            case round =>
              obtain ⟨y, rfl, HY, HR4, HL4, HB4⟩ := hrel
              cases gk with
              | zero => exact absurd HY.out (by omega)
              | succ k2 =>
                by_cases hy : y < (n : Int)
                · have cy : decide (y < (n : Int)) = true := decide_eq_true hy
                  have p3 : (0 ≤ y) = True := eq_true HY.out.1
                  have q3 : (y < (n : Int)) = True := eq_true hy
                  have f3 := HL4.out.free y.toNat
                  have g3 := HL4.out.cell (i := y.toNat) (by rw [leftAt_len (by have := HY.out; omega)]; have := HY.out; omega)
                  have hw : wrap64 ((d : Int) + y) = ((d + y.toNat : Nat) : Int) := by
                    rw [wsame (by have := HY.out; omega) (by have := HY.out; have := HP.out; omega)]
                    have := HY.out
                    omega
                  have L2 := HL4.out.set y.toNat (wrap64 ((d : Int) + y))
                  rw [show (leftAt n d y.toNat).set y.toNat (wrap64 ((d : Int) + y)) = leftAt n d (y.toNat + 1) by rw [hw]; exact leftAt_step (by have := HY.out; omega)] at L2
                  have HL5 := Aside0.mk L2
                  have HR5 := Aside0.mk (HR4.out.other (p := ⟨w.heap.size + 1, y.toNat, none⟩) (v := .int .i64 (wrap64 ((d : Int) + y))) (by show (w.heap.size) ≠ (w.heap.size + 1); omega))
                  have HB5 := Aside0.mk (HB4.out.setCell (p := ⟨w.heap.size + 1, y.toNat, none⟩) (by show w.heap.size ≤ (w.heap.size + 1); omega) (.int .i64 (wrap64 ((d : Int) + y))))
                  have HYY := Aside0.mk hy
                  clear L2 hy hw
                  go_wp2
                  go_roundg k2
                  case measure => have := HY.out; omega
                  case rel => exact ⟨y + 1, by rw [wsucc' HY.out.1 (by have := HYY.out; have := HP.out; omega)], ⟨by have := HY.out; have := HYY.out; omega⟩, HR5, by rw [show (y + 1).toNat = y.toNat + 1 by have := HY.out; omega]; exact HL5, HB5⟩
                · have cy : decide (y < (n : Int)) = false := decide_eq_false hy
                  have L2 := HL4.out
                  rw [show y.toNat = n by have := HY.out; omega, show leftAt n d n = left0 n d by simp [leftAt, left0]] at L2
                  have hRlt := HR4.out.lt
                  have hLlt := L2.lt
                  have hTs := size_alloc wr (.cells (Array.replicate p (Value.int .i64 0)) 3 (0, 0))
                  have hbb := below_alloc HB4.out (.cells (Array.replicate p (Value.int .i64 0)) 3 (0, 0))
                  have hsz := HB4.out.size
                  have FC := Aside0.mk (fill_calls (B := B) (R := w.heap.size) (T := wr.heap.size) (L := w.heap.size + 1) (told := List.replicate p 0) (sh := sh) (by omega) (by omega) (by omega) (by have := HP.out; omega) (by have := HP.out; omega) (HC.out (w.heap.size) wr.heap.size (w.heap.size + 1) (by omega) hsz (by omega) (by omega) (by omega) (by omega)) (rd_zeros p) (by simp) HP.out.2.2.2.1 HP.out.1 k (row0 p hole) (left0 n d) s (wr.alloc (.cells (Array.replicate p (Value.int .i64 0)) 3 (0, 0))) r (by unfold row0; split <;> simp) (by have := HP.out; simp [left0]; omega) (fun x hx => by
                    simp only [left0, List.mem_map, List.mem_range] at hx
                    obtain ⟨i, hi, rfl⟩ := hx
                    have := HP.out
                    omega) (HR4.out.alloc _) (blk_new wr p) (L2.alloc _) (HI.out (w.heap.size) wr.heap.size (w.heap.size + 1) _ (by omega) hsz (by omega) (by omega) (by omega) (by omega) (by omega) (by omega) (by omega) hbb) HV.out (by have := HP.out; omega) HF.out)
                  have HBB := Aside0.mk hbb
                  have HS := Aside0.mk hsz
                  clear hy L2 hRlt hLlt hTs hbb hsz
                  rw [show (left0 n d).length = n by simp [left0]] at FC
                  go_wp2_with (first | ((with_reducible refine gate_callee (f := 96) rfl ?_); refine goesL_ (some 52) rfl rfl Try.func96 (by kernel_rfl) rfl #[.slice (some ⟨w.heap.size, 0, none⟩) p p, .slice (some ⟨wr.heap.size, 0, none⟩) p p, .slice (some ⟨w.heap.size + 1, 0, none⟩) n n, .int .i64 (sh : Int), .func (.func f) #[] cap] rfl (by (try simp only [List.map_toArray, List.map_cons, List.map_nil]); first | done | rfl) ?_; refine (FC.out).mono ?_; rintro e w5 ⟨rfl, hi, hk⟩; refine ⟨_, rfl, ?_⟩))
                  go_end0
                  exact ⟨rfl, ⟨w.heap.size, wr.heap.size, w.heap.size + 1, by omega, HS.out, by omega, hi⟩, (below_wk HBB.out (by have := HP.out; omega)).trans hk.below⟩
          · have ch : decide (hole ≥ 0) = false := decide_eq_false hh
            have R3 := HR2.out
            rw [show List.replicate p (-1) = row0 p hole by simp [row0, hh]] at R3
            have HR3 := Aside0.mk R3
            have HL3 := HL1
            have HB3 := HB1
            clear hh R3
            go_wp2
            go_loopg [36] (n + 1) (fun kq v36 w' => ∃ y : Int, v36 = .int .i64 y ∧ Aside0 (0 ≤ y ∧ y ≤ (n : Int) ∧ kq + y.toNat = n + 1) ∧ Aside0 (Blk w' (w.heap.size) (row0 p hole)) ∧ Aside0 (Blk w' (w.heap.size + 1) (leftAt n d y.toNat)) ∧ Aside0 (Below w.heap.size w w'))
            case atStart => exact ⟨0, rfl, ⟨by omega⟩, HR3, HL3, HB3⟩
            case round =>
              obtain ⟨y, rfl, HY, HR4, HL4, HB4⟩ := hrel
              cases gk with
              | zero => exact absurd HY.out (by omega)
              | succ k2 =>
                by_cases hy : y < (n : Int)
                · have cy : decide (y < (n : Int)) = true := decide_eq_true hy
                  have p3 : (0 ≤ y) = True := eq_true HY.out.1
                  have q3 : (y < (n : Int)) = True := eq_true hy
                  have f3 := HL4.out.free y.toNat
                  have g3 := HL4.out.cell (i := y.toNat) (by rw [leftAt_len (by have := HY.out; omega)]; have := HY.out; omega)
                  have hw : wrap64 ((d : Int) + y) = ((d + y.toNat : Nat) : Int) := by
                    rw [wsame (by have := HY.out; omega) (by have := HY.out; have := HP.out; omega)]
                    have := HY.out
                    omega
                  have L2 := HL4.out.set y.toNat (wrap64 ((d : Int) + y))
                  rw [show (leftAt n d y.toNat).set y.toNat (wrap64 ((d : Int) + y)) = leftAt n d (y.toNat + 1) by rw [hw]; exact leftAt_step (by have := HY.out; omega)] at L2
                  have HL5 := Aside0.mk L2
                  have HR5 := Aside0.mk (HR4.out.other (p := ⟨w.heap.size + 1, y.toNat, none⟩) (v := .int .i64 (wrap64 ((d : Int) + y))) (by show (w.heap.size) ≠ (w.heap.size + 1); omega))
                  have HB5 := Aside0.mk (HB4.out.setCell (p := ⟨w.heap.size + 1, y.toNat, none⟩) (by show w.heap.size ≤ (w.heap.size + 1); omega) (.int .i64 (wrap64 ((d : Int) + y))))
                  have HYY := Aside0.mk hy
                  clear L2 hy hw
                  go_wp2
                  go_roundg k2
                  case measure => have := HY.out; omega
                  case rel => exact ⟨y + 1, by rw [wsucc' HY.out.1 (by have := HYY.out; have := HP.out; omega)], ⟨by have := HY.out; have := HYY.out; omega⟩, HR5, by rw [show (y + 1).toNat = y.toNat + 1 by have := HY.out; omega]; exact HL5, HB5⟩
                · have cy : decide (y < (n : Int)) = false := decide_eq_false hy
                  have L2 := HL4.out
                  rw [show y.toNat = n by have := HY.out; omega, show leftAt n d n = left0 n d by simp [leftAt, left0]] at L2
                  have hRlt := HR4.out.lt
                  have hLlt := L2.lt
                  have hTs := size_alloc wr (.cells (Array.replicate p (Value.int .i64 0)) 3 (0, 0))
                  have hbb := below_alloc HB4.out (.cells (Array.replicate p (Value.int .i64 0)) 3 (0, 0))
                  have hsz := HB4.out.size
                  have FC := Aside0.mk (fill_calls (B := B) (R := w.heap.size) (T := wr.heap.size) (L := w.heap.size + 1) (told := List.replicate p 0) (sh := sh) (by omega) (by omega) (by omega) (by have := HP.out; omega) (by have := HP.out; omega) (HC.out (w.heap.size) wr.heap.size (w.heap.size + 1) (by omega) hsz (by omega) (by omega) (by omega) (by omega)) (rd_zeros p) (by simp) HP.out.2.2.2.1 HP.out.1 k (row0 p hole) (left0 n d) s (wr.alloc (.cells (Array.replicate p (Value.int .i64 0)) 3 (0, 0))) r (by unfold row0; split <;> simp) (by have := HP.out; simp [left0]; omega) (fun x hx => by
                    simp only [left0, List.mem_map, List.mem_range] at hx
                    obtain ⟨i, hi, rfl⟩ := hx
                    have := HP.out
                    omega) (HR4.out.alloc _) (blk_new wr p) (L2.alloc _) (HI.out (w.heap.size) wr.heap.size (w.heap.size + 1) _ (by omega) hsz (by omega) (by omega) (by omega) (by omega) (by omega) (by omega) (by omega) hbb) HV.out (by have := HP.out; omega) HF.out)
                  have HBB := Aside0.mk hbb
                  have HS := Aside0.mk hsz
                  clear hy L2 hRlt hLlt hTs hbb hsz
                  rw [show (left0 n d).length = n by simp [left0]] at FC
                  go_wp2_with (first | ((with_reducible refine gate_callee (f := 96) rfl ?_); refine goesL_ (some 52) rfl rfl Try.func96 (by kernel_rfl) rfl #[.slice (some ⟨w.heap.size, 0, none⟩) p p, .slice (some ⟨wr.heap.size, 0, none⟩) p p, .slice (some ⟨w.heap.size + 1, 0, none⟩) n n, .int .i64 (sh : Int), .func (.func f) #[] cap] rfl (by (try simp only [List.map_toArray, List.map_cons, List.map_nil]); first | done | rfl) ?_; refine (FC.out).mono ?_; rintro e w5 ⟨rfl, hi, hk⟩; refine ⟨_, rfl, ?_⟩))
                  go_end0
                  exact ⟨rfl, ⟨w.heap.size, wr.heap.size, w.heap.size + 1, by omega, HS.out, by omega, hi⟩, (below_wk HBB.out (by have := HP.out; omega)).trans hk.below⟩
  · have hR0 : Blk (((w.alloc (.cells (Array.replicate n (Value.int .i64 0)) 3 (0, 0))).alloc (.cells (Array.replicate p (Value.int .i64 0)) 3 (0, 0))).drew) (w.heap.size + 1) (rowAt p 0) := by
      have h : Blk (((w.alloc (.cells (Array.replicate n (Value.int .i64 0)) 3 (0, 0))).alloc (.cells (Array.replicate p (Value.int .i64 0)) 3 (0, 0))).drew) (w.heap.size + 1) (List.replicate p 0) := (by have := blk_new (w.alloc (.cells (Array.replicate n (Value.int .i64 0)) 3 (0, 0))) p; rw [size_alloc] at this; exact this)
      simpa [rowAt] using h
    have hL0 : Blk (((w.alloc (.cells (Array.replicate n (Value.int .i64 0)) 3 (0, 0))).alloc (.cells (Array.replicate p (Value.int .i64 0)) 3 (0, 0))).drew) (w.heap.size) (leftAt n d 0) := by
      have h : Blk (((w.alloc (.cells (Array.replicate n (Value.int .i64 0)) 3 (0, 0))).alloc (.cells (Array.replicate p (Value.int .i64 0)) 3 (0, 0))).drew) (w.heap.size) (List.replicate n 0) := ((blk_new w n).alloc _)
      simpa [leftAt] using h
    have hb0 : Below w.heap.size w (((w.alloc (.cells (Array.replicate n (Value.int .i64 0)) 3 (0, 0))).alloc (.cells (Array.replicate p (Value.int .i64 0)) 3 (0, 0))).drew) := below_drew (below_alloc (below_alloc (Below.refl _ _) _) _)
    have HR0 := Aside0.mk hR0
    have HL0 := Aside0.mk hL0
    have HB0 := Aside0.mk hb0
    clear hR0 hL0 hb0
    go_loopg [22] (p + 1) (fun kq v22 w' => ∃ x : Int, v22 = .int .i64 x ∧ Aside0 (0 ≤ x ∧ x ≤ (p : Int) ∧ kq + x.toNat = p + 1) ∧ Aside0 (Blk w' (w.heap.size + 1) (rowAt p x.toNat)) ∧ Aside0 (Blk w' (w.heap.size) (leftAt n d 0)) ∧ Aside0 (Below w.heap.size w w'))
    case atStart => exact ⟨0, rfl, ⟨by omega⟩, HR0, HL0, HB0⟩
    case round =>
      obtain ⟨x, rfl, HX, HR1, HL1, HB1⟩ := hrel
      cases gk with
      | zero => exact absurd HX.out (by omega)
      | succ k1 =>
        by_cases hx : x < (p : Int)
        · have cx : decide (x < (p : Int)) = true := decide_eq_true hx
          have p1 : (0 ≤ x) = True := eq_true HX.out.1
          have q1 : (x < (p : Int)) = True := eq_true hx
          have f1 := HR1.out.free x.toNat
          have g1 := HR1.out.cell (i := x.toNat) (by rw [rowAt_len (by have := HX.out; omega)]; have := HX.out; omega)
          have R2 := HR1.out.set x.toNat (-1)
          rw [rowAt_step (by have := HX.out; omega)] at R2
          have HR2 := Aside0.mk R2
          have HL2 := Aside0.mk (HL1.out.other (p := ⟨w.heap.size + 1, x.toNat, none⟩) (v := .int .i64 (-1)) (by show (w.heap.size) ≠ (w.heap.size + 1); omega))
          have HB2 := Aside0.mk (HB1.out.setCell (p := ⟨w.heap.size + 1, x.toNat, none⟩) (by show w.heap.size ≤ (w.heap.size + 1); omega) (.int .i64 (-1)))
          have HXX := Aside0.mk hx
          clear R2 hx
          go_wp2
          go_roundg k1
          case measure => have := HX.out; omega
          case rel => exact ⟨x + 1, by rw [wsucc' HX.out.1 (by have := HXX.out; have := HP.out; omega)], ⟨by have := HX.out; have := HXX.out; omega⟩, by rw [show (x + 1).toNat = x.toNat + 1 by have := HX.out; omega]; exact HR2, HL2, HB2⟩
        · have cx : decide (x < (p : Int)) = false := decide_eq_false hx
          have R2 := HR1.out
          rw [show x.toNat = p by have := HX.out; omega, show rowAt p p = List.replicate p (-1) by simp [rowAt]] at R2
          have HR2 := Aside0.mk R2
          clear hx R2
          by_cases hh : 0 ≤ hole
          · have ch : decide (hole ≥ 0) = true := decide_eq_true hh
            have p2 : (0 ≤ hole) = True := eq_true hh
            have q2 : (hole < (p : Int)) = True := eq_true (by have := HP.out; omega)
            have f2 := HR2.out.free hole.toNat
            have g2 := HR2.out.cell (i := hole.toNat) (by rw [List.length_replicate]; have := HP.out; omega)
            have R3 := HR2.out.set hole.toNat 0
            rw [show (List.replicate p (-1)).set hole.toNat 0 = row0 p hole by simp [row0, hh]] at R3
            have HR3 := Aside0.mk R3
            have HL3 := Aside0.mk (HL1.out.other (p := ⟨w.heap.size + 1, hole.toNat, none⟩) (v := .int .i64 0) (by show (w.heap.size) ≠ (w.heap.size + 1); omega))
            have HB3 := Aside0.mk (HB1.out.setCell (p := ⟨w.heap.size + 1, hole.toNat, none⟩) (by show w.heap.size ≤ (w.heap.size + 1); omega) (.int .i64 0))
            clear hh R3
            go_wp2
            go_loopg [36] (n + 1) (fun kq v36 w' => ∃ y : Int, v36 = .int .i64 y ∧ Aside0 (0 ≤ y ∧ y ≤ (n : Int) ∧ kq + y.toNat = n + 1) ∧ Aside0 (Blk w' (w.heap.size + 1) (row0 p hole)) ∧ Aside0 (Blk w' (w.heap.size) (leftAt n d y.toNat)) ∧ Aside0 (Below w.heap.size w w'))
            case atStart => exact ⟨0, rfl, ⟨by omega⟩, HR3, HL3, HB3⟩
            case round =>
              obtain ⟨y, rfl, HY, HR4, HL4, HB4⟩ := hrel
              cases gk with
              | zero => exact absurd HY.out (by omega)
              | succ k2 =>
                by_cases hy : y < (n : Int)
                · have cy : decide (y < (n : Int)) = true := decide_eq_true hy
                  have p3 : (0 ≤ y) = True := eq_true HY.out.1
                  have q3 : (y < (n : Int)) = True := eq_true hy
                  have f3 := HL4.out.free y.toNat
                  have g3 := HL4.out.cell (i := y.toNat) (by rw [leftAt_len (by have := HY.out; omega)]; have := HY.out; omega)
                  have hw : wrap64 ((d : Int) + y) = ((d + y.toNat : Nat) : Int) := by
                    rw [wsame (by have := HY.out; omega) (by have := HY.out; have := HP.out; omega)]
                    have := HY.out
                    omega
                  have L2 := HL4.out.set y.toNat (wrap64 ((d : Int) + y))
                  rw [show (leftAt n d y.toNat).set y.toNat (wrap64 ((d : Int) + y)) = leftAt n d (y.toNat + 1) by rw [hw]; exact leftAt_step (by have := HY.out; omega)] at L2
                  have HL5 := Aside0.mk L2
                  have HR5 := Aside0.mk (HR4.out.other (p := ⟨w.heap.size, y.toNat, none⟩) (v := .int .i64 (wrap64 ((d : Int) + y))) (by show (w.heap.size + 1) ≠ (w.heap.size); omega))
                  have HB5 := Aside0.mk (HB4.out.setCell (p := ⟨w.heap.size, y.toNat, none⟩) (by show w.heap.size ≤ (w.heap.size); omega) (.int .i64 (wrap64 ((d : Int) + y))))
                  have HYY := Aside0.mk hy
                  clear L2 hy hw
                  go_wp2
                  go_roundg k2
                  case measure => have := HY.out; omega
                  case rel => exact ⟨y + 1, by rw [wsucc' HY.out.1 (by have := HYY.out; have := HP.out; omega)], ⟨by have := HY.out; have := HYY.out; omega⟩, HR5, by rw [show (y + 1).toNat = y.toNat + 1 by have := HY.out; omega]; exact HL5, HB5⟩
                · have cy : decide (y < (n : Int)) = false := decide_eq_false hy
                  have L2 := HL4.out
                  rw [show y.toNat = n by have := HY.out; omega, show leftAt n d n = left0 n d by simp [leftAt, left0]] at L2
                  have hRlt := HR4.out.lt
                  have hLlt := L2.lt
                  have hTs := size_alloc wr (.cells (Array.replicate p (Value.int .i64 0)) 3 (0, 0))
                  have hbb := below_alloc HB4.out (.cells (Array.replicate p (Value.int .i64 0)) 3 (0, 0))
                  have hsz := HB4.out.size
                  have FC := Aside0.mk (fill_calls (B := B) (R := w.heap.size + 1) (T := wr.heap.size) (L := w.heap.size) (told := List.replicate p 0) (sh := sh) (by omega) (by omega) (by omega) (by have := HP.out; omega) (by have := HP.out; omega) (HC.out (w.heap.size + 1) wr.heap.size (w.heap.size) (by omega) hsz (by omega) (by omega) (by omega) (by omega)) (rd_zeros p) (by simp) HP.out.2.2.2.1 HP.out.1 k (row0 p hole) (left0 n d) s (wr.alloc (.cells (Array.replicate p (Value.int .i64 0)) 3 (0, 0))) r (by unfold row0; split <;> simp) (by have := HP.out; simp [left0]; omega) (fun x hx => by
                    simp only [left0, List.mem_map, List.mem_range] at hx
                    obtain ⟨i, hi, rfl⟩ := hx
                    have := HP.out
                    omega) (HR4.out.alloc _) (blk_new wr p) (L2.alloc _) (HI.out (w.heap.size + 1) wr.heap.size (w.heap.size) _ (by omega) hsz (by omega) (by omega) (by omega) (by omega) (by omega) (by omega) (by omega) hbb) HV.out (by have := HP.out; omega) HF.out)
                  have HBB := Aside0.mk hbb
                  have HS := Aside0.mk hsz
                  clear hy L2 hRlt hLlt hTs hbb hsz
                  rw [show (left0 n d).length = n by simp [left0]] at FC
                  go_wp2_with (first | ((with_reducible refine gate_callee (f := 96) rfl ?_); refine goesL_ (some 52) rfl rfl Try.func96 (by kernel_rfl) rfl #[.slice (some ⟨w.heap.size + 1, 0, none⟩) p p, .slice (some ⟨wr.heap.size, 0, none⟩) p p, .slice (some ⟨w.heap.size, 0, none⟩) n n, .int .i64 (sh : Int), .func (.func f) #[] cap] rfl (by (try simp only [List.map_toArray, List.map_cons, List.map_nil]); first | done | rfl) ?_; refine (FC.out).mono ?_; rintro e w5 ⟨rfl, hi, hk⟩; refine ⟨_, rfl, ?_⟩))
                  go_end0
                  exact ⟨rfl, ⟨w.heap.size + 1, wr.heap.size, w.heap.size, by omega, HS.out, by omega, hi⟩, (below_wk HBB.out (by have := HP.out; omega)).trans hk.below⟩
          · have ch : decide (hole ≥ 0) = false := decide_eq_false hh
            have R3 := HR2.out
            rw [show List.replicate p (-1) = row0 p hole by simp [row0, hh]] at R3
            have HR3 := Aside0.mk R3
            have HL3 := HL1
            have HB3 := HB1
            clear hh R3
            go_wp2
            go_loopg [36] (n + 1) (fun kq v36 w' => ∃ y : Int, v36 = .int .i64 y ∧ Aside0 (0 ≤ y ∧ y ≤ (n : Int) ∧ kq + y.toNat = n + 1) ∧ Aside0 (Blk w' (w.heap.size + 1) (row0 p hole)) ∧ Aside0 (Blk w' (w.heap.size) (leftAt n d y.toNat)) ∧ Aside0 (Below w.heap.size w w'))
            case atStart => exact ⟨0, rfl, ⟨by omega⟩, HR3, HL3, HB3⟩
            case round =>
              obtain ⟨y, rfl, HY, HR4, HL4, HB4⟩ := hrel
              cases gk with
              | zero => exact absurd HY.out (by omega)
              | succ k2 =>
                by_cases hy : y < (n : Int)
                · have cy : decide (y < (n : Int)) = true := decide_eq_true hy
                  have p3 : (0 ≤ y) = True := eq_true HY.out.1
                  have q3 : (y < (n : Int)) = True := eq_true hy
                  have f3 := HL4.out.free y.toNat
                  have g3 := HL4.out.cell (i := y.toNat) (by rw [leftAt_len (by have := HY.out; omega)]; have := HY.out; omega)
                  have hw : wrap64 ((d : Int) + y) = ((d + y.toNat : Nat) : Int) := by
                    rw [wsame (by have := HY.out; omega) (by have := HY.out; have := HP.out; omega)]
                    have := HY.out
                    omega
                  have L2 := HL4.out.set y.toNat (wrap64 ((d : Int) + y))
                  rw [show (leftAt n d y.toNat).set y.toNat (wrap64 ((d : Int) + y)) = leftAt n d (y.toNat + 1) by rw [hw]; exact leftAt_step (by have := HY.out; omega)] at L2
                  have HL5 := Aside0.mk L2
                  have HR5 := Aside0.mk (HR4.out.other (p := ⟨w.heap.size, y.toNat, none⟩) (v := .int .i64 (wrap64 ((d : Int) + y))) (by show (w.heap.size + 1) ≠ (w.heap.size); omega))
                  have HB5 := Aside0.mk (HB4.out.setCell (p := ⟨w.heap.size, y.toNat, none⟩) (by show w.heap.size ≤ (w.heap.size); omega) (.int .i64 (wrap64 ((d : Int) + y))))
                  have HYY := Aside0.mk hy
                  clear L2 hy hw
                  go_wp2
                  go_roundg k2
                  case measure => have := HY.out; omega
                  case rel => exact ⟨y + 1, by rw [wsucc' HY.out.1 (by have := HYY.out; have := HP.out; omega)], ⟨by have := HY.out; have := HYY.out; omega⟩, HR5, by rw [show (y + 1).toNat = y.toNat + 1 by have := HY.out; omega]; exact HL5, HB5⟩
                · have cy : decide (y < (n : Int)) = false := decide_eq_false hy
                  have L2 := HL4.out
                  rw [show y.toNat = n by have := HY.out; omega, show leftAt n d n = left0 n d by simp [leftAt, left0]] at L2
                  have hRlt := HR4.out.lt
                  have hLlt := L2.lt
                  have hTs := size_alloc wr (.cells (Array.replicate p (Value.int .i64 0)) 3 (0, 0))
                  have hbb := below_alloc HB4.out (.cells (Array.replicate p (Value.int .i64 0)) 3 (0, 0))
                  have hsz := HB4.out.size
                  have FC := Aside0.mk (fill_calls (B := B) (R := w.heap.size + 1) (T := wr.heap.size) (L := w.heap.size) (told := List.replicate p 0) (sh := sh) (by omega) (by omega) (by omega) (by have := HP.out; omega) (by have := HP.out; omega) (HC.out (w.heap.size + 1) wr.heap.size (w.heap.size) (by omega) hsz (by omega) (by omega) (by omega) (by omega)) (rd_zeros p) (by simp) HP.out.2.2.2.1 HP.out.1 k (row0 p hole) (left0 n d) s (wr.alloc (.cells (Array.replicate p (Value.int .i64 0)) 3 (0, 0))) r (by unfold row0; split <;> simp) (by have := HP.out; simp [left0]; omega) (fun x hx => by
                    simp only [left0, List.mem_map, List.mem_range] at hx
                    obtain ⟨i, hi, rfl⟩ := hx
                    have := HP.out
                    omega) (HR4.out.alloc _) (blk_new wr p) (L2.alloc _) (HI.out (w.heap.size + 1) wr.heap.size (w.heap.size) _ (by omega) hsz (by omega) (by omega) (by omega) (by omega) (by omega) (by omega) (by omega) hbb) HV.out (by have := HP.out; omega) HF.out)
                  have HBB := Aside0.mk hbb
                  have HS := Aside0.mk hsz
                  clear hy L2 hRlt hLlt hTs hbb hsz
                  rw [show (left0 n d).length = n by simp [left0]] at FC
                  go_wp2_with (first | ((with_reducible refine gate_callee (f := 96) rfl ?_); refine goesL_ (some 52) rfl rfl Try.func96 (by kernel_rfl) rfl #[.slice (some ⟨w.heap.size + 1, 0, none⟩) p p, .slice (some ⟨wr.heap.size, 0, none⟩) p p, .slice (some ⟨w.heap.size, 0, none⟩) n n, .int .i64 (sh : Int), .func (.func f) #[] cap] rfl (by (try simp only [List.map_toArray, List.map_cons, List.map_nil]); first | done | rfl) ?_; refine (FC.out).mono ?_; rintro e w5 ⟨rfl, hi, hk⟩; refine ⟨_, rfl, ?_⟩))
                  go_end0
                  exact ⟨rfl, ⟨w.heap.size + 1, wr.heap.size, w.heap.size, by omega, HS.out, by omega, hi⟩, (below_wk HBB.out (by have := HP.out; omega)).trans hk.below⟩
end Go.Proofs.Ytkffdloophagaaa.Search
