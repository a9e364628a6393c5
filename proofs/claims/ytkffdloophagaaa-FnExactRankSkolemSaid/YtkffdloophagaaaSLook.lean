/- The reference's search: from a state in a block. Conditions: none but those that each lemma states. -/
import Derived.Test.YtkffdloophagaaaSBlk
import Derived.Test.YtkffdloophagaaaSOwn
import Derived.StillTailTactics
namespace Go.Proofs.Ytkffdloophagaaa.Search
open Go.RowKit Go.Proofs.YtkffdloophagaaaW.PrintWords Go.Proofs.YtkffdloophagaaaW.PrintLast Go.Proofs.YtkffdloophagaaaW.PrintMore
set_option linter.unusedVariables false
set_option linter.unusedSimpArgs false
/-- The block of a search's state. -/
def Look (w : World) (G R len : Nat) (fr to_ sh : Nat) (hole : Int) (used : Int) (most : Nat) (count : Int) (v : Value) : Prop :=
  w.heap[G]? = some (.cells #[.slice (some ⟨R, 0, none⟩) len len, .int .i64 (fr : Int), .int .i64 (to_ : Int), .int .i64 (sh : Int), .int .i64 hole, .int .i64 used, .int .i64 (most : Int), .int .i64 count, v] 45 (0, 0))
theorem Look.c0 {w G R len fr to_ sh hole used most count v} (h : Look w G R len fr to_ sh hole used most count v) : w.cell? ⟨G, 0, none⟩ = some (.slice (some ⟨R, 0, none⟩) len len) := by rw [cell_of_row w G 0 _ _ (0, 0) h]; rfl
theorem Look.c1 {w G R len fr to_ sh hole used most count v} (h : Look w G R len fr to_ sh hole used most count v) : w.cell? ⟨G, 1, none⟩ = some (.int .i64 (fr : Int)) := by rw [cell_of_row w G 1 _ _ (0, 0) h]; rfl
theorem Look.c2 {w G R len fr to_ sh hole used most count v} (h : Look w G R len fr to_ sh hole used most count v) : w.cell? ⟨G, 2, none⟩ = some (.int .i64 (to_ : Int)) := by rw [cell_of_row w G 2 _ _ (0, 0) h]; rfl
theorem Look.c3 {w G R len fr to_ sh hole used most count v} (h : Look w G R len fr to_ sh hole used most count v) : w.cell? ⟨G, 3, none⟩ = some (.int .i64 (sh : Int)) := by rw [cell_of_row w G 3 _ _ (0, 0) h]; rfl
theorem Look.c4 {w G R len fr to_ sh hole used most count v} (h : Look w G R len fr to_ sh hole used most count v) : w.cell? ⟨G, 4, none⟩ = some (.int .i64 hole) := by rw [cell_of_row w G 4 _ _ (0, 0) h]; rfl
theorem Look.c5 {w G R len fr to_ sh hole used most count v} (h : Look w G R len fr to_ sh hole used most count v) : w.cell? ⟨G, 5, none⟩ = some (.int .i64 used) := by rw [cell_of_row w G 5 _ _ (0, 0) h]; rfl
theorem Look.c6 {w G R len fr to_ sh hole used most count v} (h : Look w G R len fr to_ sh hole used most count v) : w.cell? ⟨G, 6, none⟩ = some (.int .i64 (most : Int)) := by rw [cell_of_row w G 6 _ _ (0, 0) h]; rfl
theorem Look.c7 {w G R len fr to_ sh hole used most count v} (h : Look w G R len fr to_ sh hole used most count v) : w.cell? ⟨G, 7, none⟩ = some (.int .i64 count) := by rw [cell_of_row w G 7 _ _ (0, 0) h]; rfl
theorem Look.c8 {w G R len fr to_ sh hole used most count v} (h : Look w G R len fr to_ sh hole used most count v) : w.cell? ⟨G, 8, none⟩ = some v := by rw [cell_of_row w G 8 _ _ (0, 0) h]; rfl
theorem Look.free {w G R len fr to_ sh hole used most count v} (h : Look w G R len fr to_ sh hole used most count v) (i : Nat) : w.frozen? ⟨G, i, none⟩ = false := frozen_of_row w G i _ _ h
theorem Look.set5 {w G R len fr to_ sh hole used most count v} (h : Look w G R len fr to_ sh hole used most count v) (u : Int) : Look (w.setCell ⟨G, 5, none⟩ (.int .i64 u)) G R len fr to_ sh hole u most count v := by
  unfold Look
  rw [heap_setCell_same w G 5 _ _ _ h]
  rfl
theorem Look.set7 {w G R len fr to_ sh hole used most count v} (h : Look w G R len fr to_ sh hole used most count v) (c : Int) : Look (w.setCell ⟨G, 7, none⟩ (.int .i64 c)) G R len fr to_ sh hole used most c v := by
  unfold Look
  rw [heap_setCell_same w G 7 _ _ _ h]
  rfl
theorem Look.set8 {w G R len fr to_ sh hole used most count v} (h : Look w G R len fr to_ sh hole used most count v) (u : Value) : Look (w.setCell ⟨G, 8, none⟩ u) G R len fr to_ sh hole used most count u := by
  unfold Look
  rw [heap_setCell_same w G 8 _ _ _ h]
  rfl
theorem Look.other {w G R len fr to_ sh hole used most count v} (h : Look w G R len fr to_ sh hole used most count v) {p : Addr} {u : Value} (hne : G ≠ p.block) : Look (w.setCell p u) G R len fr to_ sh hole used most count v := (heap_setCell_other w p G u hne).trans h
/-- The first place that is not filled and no hole, counted from i on. -/
def firstZero (hole : Int) : List Int → Nat → Option Nat
  | [], _ => none
  | x :: t, i => if x ≠ 0 ∨ (i : Int) = hole then firstZero hole t (i + 1) else some i
section
variable {σ : Type}
/-- The numbers from n on, r of them, at the place at_. -/
def lookL (sh : Nat) (hole : Int) (rec_ : List Int → Nat → σ → Option σ) (row : List Int) (used at_ : Nat) : Nat → Nat → σ → Option σ
  | 0, _, c => some c
  | r + 1, n, c =>
    if used.testBit n = true ∨ ¬ at_ + n + sh < row.length ∨ ((at_ + n + sh : Nat) : Int) = hole ∨ ¬ rd row ((at_ + n + sh : Nat) : Int) = 0 then lookL sh hole rec_ row used at_ r (n + 1) c
    else (rec_ ((row.set at_ (n : Int)).set (at_ + n + sh) (n : Int)) (used ||| 2 ^ n) c).bind fun c' => lookL sh hole rec_ row used at_ r (n + 1) c'
/-- What a search makes of its state: st is told each row that is found. -/
def lookF (fr to_ sh : Nat) (hole : Int) (st : σ → List Int → σ) : Nat → List Int → Nat → σ → Option σ
  | 0, _, _, _ => none
  | k + 1, row, used, c =>
    match firstZero hole row 0 with
    | none => some (st c row)
    | some at_ => lookL sh hole (lookF fr to_ sh hole st k) row used at_ (to_ + 1 - fr) fr c
end
/-- The reference counts each row, and keeps so many. -/
def lstep (most : Nat) (s : Int × List (List Int)) (row : List Int) : Int × List (List Int) := (wrap64 (s.1 + 1), if s.2.length < most then s.2 ++ [row] else s.2)
theorem bit_form (used n : Nat) (hn : n ≤ 64) : (((used : Int) / 2 ^ min n 64).tmod 2 == 1) = if used.testBit n = true then true else false := by
  rw [Nat.min_eq_left hn]
  have e : ((used : Int) / 2 ^ n) = ((used / 2 ^ n : Nat) : Int) := by simp
  have e2 : (((used / 2 ^ n : Nat) : Int)).tmod 2 = ((used / 2 ^ n % 2 : Nat) : Int) := rfl
  rw [e, e2, Nat.testBit_eq_decide_div_mod_eq]
  have := Nat.mod_two_eq_zero_or_one (used / 2 ^ n)
  rcases this with h | h <;> simp [h]
theorem firstZero_step (hole : Int) {row : List Int} {x : Nat} (h : x < row.length) : firstZero hole (row.drop x) x = if rd row (x : Int) ≠ 0 ∨ (x : Int) = hole then firstZero hole (row.drop (x + 1)) (x + 1) else some x := by
  rw [List.drop_eq_getElem_cons h, firstZero]
  simp [rd, List.getD_eq_getElem?_getD, h]
/-- The list that is kept: its rows lie apart from the state's blocks. -/
def Lst (w : World) (B G R : Nat) (v : Value) (ls : List (List Int)) : Prop := Kd.R (Kd.slice 3 (Kd.int .i64)) 29 w B (fun k => k ≠ G ∧ k ≠ R) v ls
theorem Lst.far {w : World} {B G R : Nat} {v : Value} {ls : List (List Int)} (h : Lst w B G R v ls) {p : Addr} (hp : p.block = G ∨ p.block = R) (u : Value) : Lst (w.setCell p u) B G R v ls :=
  Kd.R_far h (fun k hk e => hp.elim (fun g => hk.1 (e.trans g)) (fun g => hk.2 (e.trans g))) u
theorem Lst.drewN {w : World} {B G R : Nat} {v : Value} {ls : List (List Int)} (h : Lst w B G R v ls) (n : Nat) : Lst (w.drewN n) B G R v ls := Kd.R_drewN h n
theorem info_row : (Try.prog.info? 29).map (fun i => (i.zero, i.size, i.bytes)) = some (some (.slice none 0 0), 1, 24) := by kernel_rfl
/-- What a search leaves. -/
def LookPost (B G R : Nat) (row : List Int) (fr to_ sh : Nat) (hole : Int) (used : Nat) (most : Nat) (r : Int × List (List Int)) (w : World) (e : Ending) (w' : World) : Prop :=
  e = .returned (.tuple #[]) ∧ ∃ v', Look w' G R row.length fr to_ sh hole (used : Int) most r.1 v' ∧ Blk w' R row ∧ Lst w' B G R v' r.2 ∧ Below B w w'
theorem Look.lt {w G R len fr to_ sh hole used most count v} (h : Look w G R len fr to_ sh hole used most count v) : G < w.heap.size := lt_of_block h
theorem Look.below {w w1 : World} {G R len fr to_ sh hole used most count v} (h : Look w G R len fr to_ sh hole used most count v) (hb : Below w.heap.size w w1) : Look w1 G R len fr to_ sh hole used most count v := (hb.block G h.lt).trans h
theorem Blk.below {w w1 : World} {g : Nat} {xs : List Int} (h : Blk w g xs) (hb : Below w.heap.size w w1) : Blk w1 g xs := (hb.block g h.lt).trans h
theorem Lst.below {w w1 : World} {B G R : Nat} {v : Value} {ls : List (List Int)} (h : Lst w B G R v ls) (hb : Below w.heap.size w w1) : Lst w1 B G R v ls := Kd.R_below h hb
theorem below_low {B B' : Nat} {a b : World} (h : Below B' a b) (hB : B ≤ B') : Below B a b := ⟨h.os, h.tape, h.output, h.size, fun k hk => h.block k (by omega)⟩
theorem own_small {row : List Int} (h : row.length ≤ 100) : spec_l1Own.f row = some row := by
  unfold spec_l1Own.f
  simp
  omega
theorem cell_new {w : World} {o : Obj} {g i : Nat} {x : Value} (h : w.cell? ⟨g, i, none⟩ = some x) : (w.alloc o).cell? ⟨g, i, none⟩ = some x := (World.cell?_alloc_lt _ _ _ (World.block_lt_of_cell? _ _ h)).trans h
theorem bit_pow (n : Nat) (hn : n ≤ 40) : wrap64 (2 ^ min n 64) = ((2 ^ n : Nat) : Int) ∧ 2 ^ n < 2 ^ 41 := by
  have h1 : 2 ^ n < 2 ^ 41 := Nat.pow_lt_pow_right (by decide) (by omega)
  rw [Nat.min_eq_left (by omega)]
  have h2 : ((2 : Int) ^ n) = ((2 ^ n : Nat) : Int) := (Int.natCast_pow 2 n).symm
  rw [h2]
  have h3 : ((2 ^ n : Nat) : Int) < ((2199023255552 : Nat) : Int) := Int.ofNat_lt.2 (Nat.lt_of_lt_of_eq h1 (by decide))
  refine ⟨?_, h1⟩
  generalize ((2 ^ n : Nat) : Int) = z at *
  unfold wrap64
  have h4 : 0 ≤ z := by rw [← h2]; exact Int.pow_nonneg (by omega)
  omega
theorem w41 (n : Int) (h0 : 0 ≤ n) (h1 : n < 2 ^ 41) : IntKind.i64.wrap n = n := by
  rw [i64_w]; unfold wrap64; omega
theorem or_bit (used n : Nat) (hu : used < 2 ^ 41) (hn : n ≤ 40) : bits .or .i64 (used : Int) (wrap64 (2 ^ min n 64)) = ((used ||| 2 ^ n : Nat) : Int) := by
  rw [(bit_pow n hn).1]
  exact (bits_nat .i64 41 (by decide) w41 used (2 ^ n) hu (bit_pow n hn).2).2
theorem or_lt (used n : Nat) (hu : used < 2 ^ 41) (hn : n ≤ 40) : used ||| 2 ^ n < 2 ^ 41 := Nat.or_lt_two_pow hu (bit_pow n hn).2
theorem off_bit (used n : Nat) (hu : used < 2 ^ 41) (hn : n ≤ 40) (hb : ¬ used.testBit n = true) : bits .andNot .i64 ((used ||| 2 ^ n : Nat) : Int) (wrap64 (2 ^ min n 64)) = (used : Int) := by
  rw [(bit_pow n hn).1]
  have ho := or_lt used n hu hn
  have hp := (bit_pow n hn).2
  have e : (BitVec.ofNat 64 (used ||| 2 ^ n) &&& ~~~ (BitVec.ofNat 64 (2 ^ n))).toNat = used := by
    apply Nat.eq_of_testBit_eq
    intro i
    rw [BitVec.testBit_toNat, BitVec.getLsbD_and, BitVec.getLsbD_not, BitVec.getLsbD_ofNat, BitVec.getLsbD_ofNat, Nat.testBit_or]
    by_cases hi : i < 64
    · by_cases c : n = i
      · subst c
        simp [hi, Nat.testBit_two_pow_self] 
        simpa using hb
      · have : (2 ^ n).testBit i = false := by rw [Nat.testBit_two_pow]; simp [c]
        simp [hi, this]
    · have : used.testBit i = false := Nat.testBit_lt_two_pow (Nat.lt_of_lt_of_le hu (Nat.pow_le_pow_right (by decide) (by omega)))
      simp [hi, this]
  show IntKind.i64.wrap ((BitVec.ofInt 64 _ &&& ~~~ (BitVec.ofInt 64 _)).toNat : Int) = _
  rw [BitVec.ofInt_natCast, BitVec.ofInt_natCast]
  rw [e]
  exact w41 _ (by omega) (by exact_mod_cast hu)
set_option maxHeartbeats 8000000 in
set_option maxRecDepth 100000 in
theorem look_step {G R fr to_ sh most : Nat} {hole : Int} {B : Nat} (hGR : G ≠ R) (hBG : B ≤ G) (hBR : B ≤ R) (hft : fr ≤ to_ + 1) (hto : to_ ≤ 40) (hsh : sh ≤ 1) (hm : most ≤ 5000) (k : Nat) (IH : Aside0 (∀ (row : List Int) (used : Nat) (c : Int) (ls : List (List Int)) (v : Value) (r : Int × List (List Int)) (w : World), row.length ≤ 100 → used < 2 ^ 41 → Look w G R row.length fr to_ sh hole (used : Int) most c v → Blk w R row → Lst w B G R v ls → lookF fr to_ sh hole (lstep most) k row used (c, ls) = some r →
    Calls Try.prog 84 #[.pointer (some ⟨G, 0, none⟩)] w (LookPost B G R row fr to_ sh hole used most r w))) : ∀ (row : List Int) (used : Nat) (c : Int) (ls : List (List Int)) (v : Value) (r : Int × List (List Int)) (w : World), row.length ≤ 100 → used < 2 ^ 41 → Look w G R row.length fr to_ sh hole (used : Int) most c v → Blk w R row → Lst w B G R v ls → lookF fr to_ sh hole (lstep most) (k + 1) row used (c, ls) = some r →
    Calls Try.prog 84 #[.pointer (some ⟨G, 0, none⟩)] w (LookPost B G R row fr to_ sh hole used most r w) := by
  intro row used c ls v r w hl hu hL hR hS h
  have c0 := hL.c0
  have HL := Aside0.mk hL
  have HR := Aside0.mk hR
  have HS := Aside0.mk hS
  have HN := Aside0.mk (show G ≠ R ∧ B ≤ G ∧ B ≤ R ∧ row.length ≤ 100 ∧ fr ≤ to_ + 1 ∧ to_ ≤ 40 ∧ sh ≤ 1 ∧ most ≤ 5000 ∧ used < 2 ^ 41 from ⟨hGR, hBG, hBR, hl, hft, hto, hsh, hm, hu⟩)
  have HF := Aside0.mk h
  clear hL hR hS hGR hBG hBR hl hft hto hsh hm hu h
  go_enter Try.func84, Try.ntmps84
  go_wp2
  go_loopg [2] (row.length + 1) (fun kq v2 w' => ∃ x : Int, v2 = .int .i64 x ∧ Aside0 (0 ≤ x ∧ x ≤ (row.length : Int) ∧ kq + x.toNat = row.length + 1) ∧ Aside0 (firstZero hole row 0 = firstZero hole (row.drop x.toNat) x.toNat) ∧ w' = w)
  case atStart => exact ⟨0, rfl, ⟨by omega⟩, ⟨rfl⟩, rfl⟩
  case round =>
    obtain ⟨x, rfl, HX, HZ, rfl⟩ := hrel
    cases gk with
    | zero => exact absurd HX.out (by omega)
    | succ k1 =>
      by_cases hx : x < (row.length : Int)
      · have cx : decide (x < (row.length : Int)) = true := decide_eq_true hx
        have hnx : ((x.toNat : Nat) : Int) = x := Int.toNat_of_nonneg HX.out.1
        have hcx := HR.out.cell (i := x.toNat) (by have := HX.out; omega)
        have hz := HZ.out
        rw [firstZero_step hole (by have := HX.out; omega), hnx] at hz
        rw [hnx] at hcx
        have c4 := HL.out.c4
        have p1 : (0 ≤ x) = True := eq_true HX.out.1
        have q1 : (x < (row.length : Int)) = True := eq_true hx
        have HXX := Aside0.mk hx
        clear hx hnx
        by_cases hr0 : rd row x = 0
        · have b0 : (rd row x != 0) = false := bne_eq_false_iff_eq.2 hr0
          by_cases hh : x = hole
          · have b1 : (x == hole) = true := beq_iff_eq.2 hh
            rw [if_pos (.inr hh)] at hz
            have HZ1 := Aside0.mk hz
            clear hz hh hr0
            go_wp2
            go_roundg k1
            case measure => have := HX.out; omega
            case rel => exact ⟨x + 1, by rw [wsucc' HX.out.1 (by have := HXX.out; have := HN.out; omega)], ⟨by have := HX.out; have := HXX.out; omega⟩, by rw [show (x + 1).toNat = x.toNat + 1 by have := HX.out; omega]; exact HZ1, rfl⟩
          · have b1 : (x == hole) = false := beq_eq_false_iff_ne.2 hh
            rw [if_neg (fun g => g.elim (fun g => g hr0) hh)] at hz
            have be : (x == (row.length : Int)) = false := beq_eq_false_iff_ne.2 (by have := HXX.out; omega)
            have c1 := HL.out.c1
            have hf := HF.out
            rw [lookF, hz] at hf
            simp only [] at hf
            have HF1 := Aside0.mk hf
            have HR00 := Aside0.mk hr0
            clear hz hh hr0 hf
            go_wp2
            go_loopg [3] (to_ + 2 - fr) (fun kq v3 w' => ∃ (y cc : Int) (ls1 : List (List Int)) (v1 : Value), v3 = .int .i64 y ∧ Aside0 ((fr : Int) ≤ y ∧ y ≤ (to_ : Int) + 1 ∧ kq + y.toNat = to_ + 2) ∧ Aside0 (lookL sh hole (lookF fr to_ sh hole (lstep most) k) row used x.toNat (to_ + 1 - y.toNat) y.toNat (cc, ls1) = some r) ∧ Aside0 (Look w' G R row.length fr to_ sh hole (used : Int) most cc v1) ∧ Aside0 (Blk w' R row) ∧ Aside0 (Lst w' B G R v1 ls1) ∧ Aside0 (Below B wr w'))
            case atStart => exact ⟨fr, c, ls, v, rfl, ⟨by have := HN.out; omega⟩, HF1, HL, HR, HS, ⟨Below.refl _ _⟩⟩
            case round =>
              obtain ⟨y, cc, ls1, v1, rfl, HY, HH, HL1, HR1, HS1, HB1⟩ := hrel
              cases gk with
              | zero => exact absurd HY.out (by omega)
              | succ k2 =>
                have d2 := HL1.out.c2
                have d3 := HL1.out.c3
                have d5 := HL1.out.c5
                have d0 := HL1.out.c0
                have d4 := HL1.out.c4
                by_cases hy : y ≤ (to_ : Int)
                · have cy : decide (y ≤ (to_ : Int)) = true := decide_eq_true hy
                  have HYY := Aside0.mk hy
                  have py : (0 ≤ y) = True := eq_true (by have := HY.out; omega)
                  have py2 : decide (y < 0) = false := decide_eq_false (by have := HY.out; omega)
                  have py3 : ¬ y < 0 := by have := HY.out; omega
                  have hf := HH.out
                  rw [show to_ + 1 - y.toNat = (to_ - y.toNat) + 1 by have := HYY.out; have := HY.out; omega, lookL] at hf
                  obtain ⟨tx, hto⟩ : ∃ tx, tx = wrap64 (wrap64 (x + y) + (sh : Int)) := ⟨_, rfl⟩
                  have hto2 : tx = ((x.toNat + y.toNat + sh : Nat) : Int) := by
                    have := HX.out
                    have := HY.out
                    have := HYY.out
                    have := HN.out
                    rw [hto, wsame (n := x + y) (by omega) (by omega), wsame (by omega) (by omega)]
                    omega
                  have hto' := hto.symm
                  rw [← hto2] at hf
                  have T2 := Aside0.mk hto2
                  have hlt : x.toNat + y.toNat + sh < row.length ↔ tx < (row.length : Int) := by omega
                  simp only [hlt] at hf
                  clear hy hto hto2 hlt
                  by_cases hbit : used.testBit y.toNat = true
                  · rw [if_pos (.inl hbit)] at hf
                    have H1 := Aside0.mk hf
                    have bt := bit_form used y.toNat (by have := HYY.out; have := HY.out; have := HN.out; omega)
                    rw [if_pos hbit] at bt
                    clear hf hbit
                    go_wp2
                    go_roundg k2
                    case measure => have := HY.out; omega
                    case rel => exact ⟨y + 1, cc, ls1, v1, by rw [wsucc' (by have := HY.out; omega) (by have := HYY.out; have := HN.out; omega)], ⟨by have := HY.out; have := HYY.out; omega⟩, by rw [show (y + 1).toNat = y.toNat + 1 by have := HY.out; omega, show to_ + 1 - (y.toNat + 1) = to_ - y.toNat by omega]; exact H1, HL1, HR1, HS1, HB1⟩
                  · have bt := bit_form used y.toNat (by have := HYY.out; have := HY.out; have := HN.out; omega)
                    rw [if_neg hbit] at bt
                    by_cases c1 : tx < (row.length : Int)
                    · have c1b : decide (tx ≥ (row.length : Int)) = false := decide_eq_false (by omega)
                      by_cases c2 : tx = hole
                      · have c2b : (tx == hole) = true := beq_iff_eq.2 c2
                        rw [if_pos (.inr (.inr (.inl c2)))] at hf
                        have H1 := Aside0.mk hf
                        clear hf hbit c1 c2
                        go_wp2
                        go_roundg k2
                        case measure => have := HY.out; omega
                        case rel => exact ⟨y + 1, cc, ls1, v1, by rw [wsucc' (by have := HY.out; omega) (by have := HYY.out; have := HN.out; omega)], ⟨by have := HY.out; have := HYY.out; omega⟩, by rw [show (y + 1).toNat = y.toNat + 1 by have := HY.out; omega, show to_ + 1 - (y.toNat + 1) = to_ - y.toNat by omega]; exact H1, HL1, HR1, HS1, HB1⟩
                      · have c2b : (tx == hole) = false := beq_eq_false_iff_ne.2 c2
                        have tx0 : 0 ≤ tx := by have := T2.out; omega
                        have htx : ((tx.toNat : Nat) : Int) = tx := Int.toNat_of_nonneg tx0
                        have hct := HR1.out.cell (i := tx.toNat) (by omega)
                        rw [htx] at hct
                        have p2 : (0 ≤ tx) = True := eq_true tx0
                        have q2 : (tx < (row.length : Int)) = True := eq_true c1
                        by_cases c3 : rd row tx = 0
                        · have c3b : (rd row tx != 0) = false := bne_eq_false_iff_eq.2 c3
                          rw [if_neg (fun g => g.elim hbit (fun g => g.elim (fun g => g c1) (fun g => g.elim c2 (fun g => g c3))))] at hf
                          obtain ⟨⟨c2', ls2⟩, hrr, hf⟩ := Option.bind_eq_some_iff.1 hf
                          have hny : ((y.toNat : Nat) : Int) = y := Int.toNat_of_nonneg (by have := HY.out; omega)
                          have hsx : x.toNat + y.toNat + sh = tx.toNat := by have := T2.out; omega
                          rw [hny, hsx] at hrr
                          have HF2 := Aside0.mk hf
                          have HRR := Aside0.mk hrr
                          have HNY := Aside0.mk hny
                          have HSX := Aside0.mk hsx
                          have HC := Aside0.mk (show tx < (row.length : Int) ∧ rd row tx = 0 ∧ 0 ≤ tx from ⟨c1, c3, tx0⟩)
                          have HTX := Aside0.mk htx
                          have OB := Aside0.mk (or_bit used y.toNat HN.out.2.2.2.2.2.2.2.2 (by have := HYY.out; have := HN.out; omega))
                          have FB := Aside0.mk (off_bit used y.toNat HN.out.2.2.2.2.2.2.2.2 (by have := HYY.out; have := HN.out; omega) hbit)
                          have HU2 := Aside0.mk (or_lt used y.toNat HN.out.2.2.2.2.2.2.2.2 (by have := HYY.out; have := HN.out; omega))
                          have HL2 := Aside0.mk (HL1.out.below (below_drew (Below.refl _ _)))
                          have HR2 := Aside0.mk (HR1.out.below (below_drew (Below.refl _ _)))
                          have HS2 := Aside0.mk (HS1.out.below (below_drew (Below.refl _ _)))
                          have HB2 := Aside0.mk (below_drew HB1.out)
                          have HX2 := Aside0.mk (show x.toNat < row.length ∧ tx.toNat < row.length by have := HXX.out; have := HX.out; have := HC.out; omega)
                          have HXE := Aside0.mk (show row[x.toNat]? = some 0 by have h2 := HX2.out.1; rw [List.getElem?_eq_getElem h2]; have h1 : rd row x = 0 := HR00.out; simp only [rd, List.getD_eq_getElem?_getD, List.getElem?_eq_getElem h2, Option.getD_some] at h1; rw [h1])
                          have HTE := Aside0.mk (show row[tx.toNat]? = some 0 by have h2 := HX2.out.2; rw [List.getElem?_eq_getElem h2]; have h1 : rd row tx = 0 := c3; simp only [rd, List.getD_eq_getElem?_getD, List.getElem?_eq_getElem h2, Option.getD_some] at h1; rw [h1])
                          clear hf hrr hbit c1 c2 c3 tx0 htx hny hsx
                          go_wp2
                          refine start_ (n := 10) (S := fun w' => w'.cell? ⟨G, 5, none⟩ = some (.int .i64 (used : Int))) (ds := [9]) #[false, false, false, false, false, false, false, false, false, false] (by kernel_rfl) rfl rfl HL2.out.c5 (fun hHeld => ?_)
                          generalize (World.drew _) = w2 at HL2 HR2 HS2 HB2 hHeld ⊢
                          refine pure_ (i := 0) (N := some 125) (v := ?_) (a' := ?_) #[true, false, false, false, false, false, false, false, false, false] rfl rfl (by kernel_rfl) (fun _ _ _ h => h) (Or.inl ⟨by rfl, ?_⟩) ?_ ?_
                          rotate_left
                          · intro w'
                            go_simp
                            with_reducible rfl
                          rotate_left
                          · simp only [Act.put, List.setIfInBounds_toArray, List.set_cons_zero, List.set_cons_succ, i64_w, i32_w]
                            rfl
                          refine pure_ (i := 1) (N := some 126) (v := ?_) (a' := ?_) #[true, true, false, false, false, false, false, false, false, false] rfl rfl (by kernel_rfl) (fun _ _ _ h => h) (Or.inl ⟨by rfl, ?_⟩) ?_ ?_
                          rotate_left
                          · intro w'
                            go_simp
                            with_reducible rfl
                          rotate_left
                          · simp only [Act.put, List.setIfInBounds_toArray, List.set_cons_zero, List.set_cons_succ, i64_w, i32_w]
                            rfl
                          refine pure_ (i := 2) (N := some 127) (v := ?_) (a' := ?_) #[true, true, true, false, false, false, false, false, false, false] rfl rfl (by kernel_rfl) (fun _ _ _ h => h) (Or.inl ⟨by rfl, ?_⟩) ?_ ?_
                          rotate_left
                          · intro w'
                            go_simp
                            with_reducible rfl
                          rotate_left
                          · simp only [Act.put, List.setIfInBounds_toArray, List.set_cons_zero, List.set_cons_succ, i64_w, i32_w]
                            rfl
                          refine take_ (i := 3) (N := some 128) (v := ?_) (a' := ?_) #[true, true, true, true, false, false, false, false, false, false] rfl rfl (by kernel_rfl) (fun _ _ _ h => h) (Or.inl ⟨by rfl, ?_⟩) hHeld ?_ ?_
                          rotate_left
                          · intro w' s0
                            go_simp
                            with_reducible rfl
                          rotate_left
                          · simp only [Act.put, List.setIfInBounds_toArray, List.set_cons_zero, List.set_cons_succ, i64_w, i32_w]
                            rfl
                          refine pure_ (i := 4) (N := some 129) (v := ?_) (a' := ?_) #[true, true, true, true, true, false, false, false, false, false] rfl rfl (by kernel_rfl) (fun _ _ _ h => h) (Or.inl ⟨by rfl, ?_⟩) ?_ ?_
                          rotate_left
                          · intro w'
                            go_simp
                            with_reducible rfl
                          rotate_left
                          · simp only [Act.put, List.setIfInBounds_toArray, List.set_cons_zero, List.set_cons_succ, i64_w, i32_w]
                            rfl
                          refine pure_ (i := 5) (N := some 130) (v := ?_) (a' := ?_) #[true, true, true, true, true, true, false, false, false, false] rfl rfl (by kernel_rfl) (fun _ _ _ h => h) (Or.inl ⟨by rfl, ?_⟩) ?_ ?_
                          rotate_left
                          · intro w'
                            go_simp
                            with_reducible rfl
                          rotate_left
                          · simp only [Act.put, List.setIfInBounds_toArray, List.set_cons_zero, List.set_cons_succ, i64_w, i32_w]
                            rfl
                          refine pure_ (i := 6) (N := some 131) (v := ?_) (a' := ?_) #[true, true, true, true, true, true, true, false, false, false] rfl rfl (by kernel_rfl) (fun _ _ _ h => h) (Or.inl ⟨by rfl, ?_⟩) ?_ ?_
                          rotate_left
                          · intro w'
                            go_simp; rw [OB.out]
                            try with_reducible rfl
                          rotate_left
                          · simp only [Act.put, List.setIfInBounds_toArray, List.set_cons_zero, List.set_cons_succ, i64_w, i32_w]
                            rfl
                          refine pure_ (i := 7) (N := some 132) (v := ?_) (a' := ?_) #[true, true, true, true, true, true, true, true, false, false] rfl rfl (by kernel_rfl) (fun _ _ _ h => h) (Or.inl ⟨by rfl, ?_⟩) ?_ ?_
                          rotate_left
                          · intro w'
                            go_simp
                            with_reducible rfl
                          rotate_left
                          · simp only [Act.put, List.setIfInBounds_toArray, List.set_cons_zero, List.set_cons_succ, i64_w, i32_w]
                            rfl
                          refine pure_ (i := 8) (N := some 133) (v := ?_) (a' := ?_) #[true, true, true, true, true, true, true, true, true, false] rfl rfl (by kernel_rfl) (fun _ _ _ h => h) (Or.inl ⟨by rfl, ?_⟩) ?_ ?_
                          rotate_left
                          · intro w'
                            go_simp
                            with_reducible rfl
                          rotate_left
                          · simp only [Act.put, List.setIfInBounds_toArray, List.set_cons_zero, List.set_cons_succ, i64_w, i32_w]
                            rfl
                          have f5 := HL2.out.free 5
                          have d5 := HL2.out.c5
                          refine last_ (i := 9) (N := none) #[true, true, true, true, true, true, true, true, true, true] rfl rfl (by kernel_rfl) (by decide) (fun K hK => ?_)
                          refine skip_ (w1 := ?_) (by rfl) rfl ?_ ?_
                          rotate_left
                          · go_simp
                            rfl
                          refine hK.out _ _ ?_
                          clear hK K f5 d5
                          refine done_ (by kernel_rfl) ?_
                          have L3 := HL2.out.set5 ((used ||| 2 ^ y.toNat : Nat) : Int)
                          have R3 := HR2.out.other (p := ⟨G, 5, none⟩) (v := .int .i64 ((used ||| 2 ^ y.toNat : Nat) : Int)) (fun e => HN.out.1 e.symm)
                          have S3 := HS2.out.far (p := ⟨G, 5, none⟩) (.inl rfl) (.int .i64 ((used ||| 2 ^ y.toNat : Nat) : Int))
                          have B3 := HB2.out.setCell (p := ⟨G, 5, none⟩) HN.out.2.1 (.int .i64 ((used ||| 2 ^ y.toNat : Nat) : Int))
                          have a0 := L3.c0
                          have a1 := R3.free x.toNat
                          have a2 := R3.cell HX2.out.1
                          have L4 := L3.other (p := ⟨R, x.toNat, none⟩) (u := .int .i64 y) HN.out.1
                          have R4 := R3.set x.toNat y
                          have S4 := S3.far (p := ⟨R, x.toNat, none⟩) (.inr rfl) (.int .i64 y)
                          have B4 := B3.setCell (p := ⟨R, x.toNat, none⟩) HN.out.2.2.1 (.int .i64 y)
                          have a3 := L4.c0
                          have a4 := R4.free tx.toNat
                          have a5 := R4.cell (i := tx.toNat) (by simpa using HX2.out.2)
                          have L5 := L4.other (p := ⟨R, tx.toNat, none⟩) (u := .int .i64 y) HN.out.1
                          have R5 := R4.set tx.toNat y
                          have S5 := S4.far (p := ⟨R, tx.toNat, none⟩) (.inr rfl) (.int .i64 y)
                          have B5 := B4.setCell (p := ⟨R, tx.toNat, none⟩) HN.out.2.2.1 (.int .i64 y)
                          have ih := IH.out ((row.set x.toNat y).set tx.toNat y) (used ||| 2 ^ y.toNat) cc ls1 v1 (c2', ls2) _ (by simp only [List.length_set]; exact HN.out.2.2.2.1) HU2.out (by simp only [List.length_set]; exact L5) R5 S5 HRR.out
                          have IHC := Aside0.mk ih
                          have HB5 := Aside0.mk B5
                          clear L3 R3 S3 B3 L4 R4 S4 B4 L5 R5 S5 B5 ih
                          go_wp2_with (first | ((with_reducible refine gate_callee (f := 84) rfl ?_); refine goesL_ (some 149) rfl rfl Try.func84 (by kernel_rfl) rfl #[.pointer (some ⟨G, 0, none⟩)] rfl (by (try simp only [List.map_toArray, List.map_cons, List.map_nil]); first | done | rfl) ?_; refine (IHC.out).mono ?_; rintro e w5 ⟨rfl, v5, hl5, hr5, hs5, hb5⟩; refine ⟨_, rfl, ?_⟩; rw [List.length_set, List.length_set] at hl5; have b0 := hl5.c0; have b1 := hr5.free x.toNat; have b2 := hr5.cell (i := x.toNat) (by simpa using HX2.out.1); have L6 := hl5.other (p := ⟨R, x.toNat, none⟩) (u := .int .i64 0) HN.out.1; have R6 := hr5.set x.toNat 0; have b3 := L6.c0; have b4 := R6.free tx.toNat; have b5 := R6.cell (i := tx.toNat) (by simpa using HX2.out.2); have L7 := L6.other (p := ⟨R, tx.toNat, none⟩) (u := .int .i64 0) HN.out.1; have R7 := R6.set tx.toNat 0; rw [restore2 HXE.out HTE.out] at R7; have S7 := (hs5.far (p := ⟨R, x.toNat, none⟩) (.inr rfl) (.int .i64 0)).far (p := ⟨R, tx.toNat, none⟩) (.inr rfl) (.int .i64 0); have B7 := ((HB5.out.trans hb5).setCell (p := ⟨R, x.toNat, none⟩) HN.out.2.2.1 (.int .i64 0)).setCell (p := ⟨R, tx.toNat, none⟩) HN.out.2.2.1 (.int .i64 0); have HL7 := Aside0.mk L7; have HR7 := Aside0.mk R7; have HS7 := Aside0.mk S7; have HB7 := Aside0.mk B7; clear L6 R6 L7 R7 S7 B7 hl5 hr5 hs5 hb5))
                          have HL8 := Aside0.mk (HL7.out.below (below_drew (Below.refl _ _)))
                          have HR8 := Aside0.mk (HR7.out.below (below_drew (Below.refl _ _)))
                          have HS8 := Aside0.mk (HS7.out.below (below_drew (Below.refl _ _)))
                          have HB8 := Aside0.mk (below_drew HB7.out)
                          refine start_ (n := 10) (S := fun w' => w'.cell? ⟨G, 5, none⟩ = some (.int .i64 ((used ||| 2 ^ y.toNat : Nat) : Int))) (ds := [9]) #[false, false, false, false, false, false, false, false, false, false] (by kernel_rfl) rfl rfl HL8.out.c5 (fun hHeld => ?_)
                          generalize (World.drew _) = w8 at HL8 HR8 HS8 HB8 hHeld ⊢
                          refine pure_ (i := 0) (N := some 162) (v := ?_) (a' := ?_) #[true, false, false, false, false, false, false, false, false, false] rfl rfl (by kernel_rfl) (fun _ _ _ h => h) (Or.inl ⟨by rfl, ?_⟩) ?_ ?_
                          rotate_left
                          · intro w'
                            go_simp
                            with_reducible rfl
                          rotate_left
                          · simp only [Act.put, List.setIfInBounds_toArray, List.set_cons_zero, List.set_cons_succ, i64_w, i32_w]
                            rfl
                          refine pure_ (i := 1) (N := some 163) (v := ?_) (a' := ?_) #[true, true, false, false, false, false, false, false, false, false] rfl rfl (by kernel_rfl) (fun _ _ _ h => h) (Or.inl ⟨by rfl, ?_⟩) ?_ ?_
                          rotate_left
                          · intro w'
                            go_simp
                            with_reducible rfl
                          rotate_left
                          · simp only [Act.put, List.setIfInBounds_toArray, List.set_cons_zero, List.set_cons_succ, i64_w, i32_w]
                            rfl
                          refine pure_ (i := 2) (N := some 164) (v := ?_) (a' := ?_) #[true, true, true, false, false, false, false, false, false, false] rfl rfl (by kernel_rfl) (fun _ _ _ h => h) (Or.inl ⟨by rfl, ?_⟩) ?_ ?_
                          rotate_left
                          · intro w'
                            go_simp
                            with_reducible rfl
                          rotate_left
                          · simp only [Act.put, List.setIfInBounds_toArray, List.set_cons_zero, List.set_cons_succ, i64_w, i32_w]
                            rfl
                          refine take_ (i := 3) (N := some 165) (v := ?_) (a' := ?_) #[true, true, true, true, false, false, false, false, false, false] rfl rfl (by kernel_rfl) (fun _ _ _ h => h) (Or.inl ⟨by rfl, ?_⟩) hHeld ?_ ?_
                          rotate_left
                          · intro w' s0
                            go_simp
                            with_reducible rfl
                          rotate_left
                          · simp only [Act.put, List.setIfInBounds_toArray, List.set_cons_zero, List.set_cons_succ, i64_w, i32_w]
                            rfl
                          refine pure_ (i := 4) (N := some 166) (v := ?_) (a' := ?_) #[true, true, true, true, true, false, false, false, false, false] rfl rfl (by kernel_rfl) (fun _ _ _ h => h) (Or.inl ⟨by rfl, ?_⟩) ?_ ?_
                          rotate_left
                          · intro w'
                            go_simp
                            with_reducible rfl
                          rotate_left
                          · simp only [Act.put, List.setIfInBounds_toArray, List.set_cons_zero, List.set_cons_succ, i64_w, i32_w]
                            rfl
                          refine pure_ (i := 5) (N := some 167) (v := ?_) (a' := ?_) #[true, true, true, true, true, true, false, false, false, false] rfl rfl (by kernel_rfl) (fun _ _ _ h => h) (Or.inl ⟨by rfl, ?_⟩) ?_ ?_
                          rotate_left
                          · intro w'
                            go_simp
                            with_reducible rfl
                          rotate_left
                          · simp only [Act.put, List.setIfInBounds_toArray, List.set_cons_zero, List.set_cons_succ, i64_w, i32_w]
                            rfl
                          refine pure_ (i := 6) (N := some 168) (v := ?_) (a' := ?_) #[true, true, true, true, true, true, true, false, false, false] rfl rfl (by kernel_rfl) (fun _ _ _ h => h) (Or.inl ⟨by rfl, ?_⟩) ?_ ?_
                          rotate_left
                          · intro w'
                            go_simp; rw [FB.out]
                            try with_reducible rfl
                          rotate_left
                          · simp only [Act.put, List.setIfInBounds_toArray, List.set_cons_zero, List.set_cons_succ, i64_w, i32_w]
                            rfl
                          refine pure_ (i := 7) (N := some 169) (v := ?_) (a' := ?_) #[true, true, true, true, true, true, true, true, false, false] rfl rfl (by kernel_rfl) (fun _ _ _ h => h) (Or.inl ⟨by rfl, ?_⟩) ?_ ?_
                          rotate_left
                          · intro w'
                            go_simp
                            with_reducible rfl
                          rotate_left
                          · simp only [Act.put, List.setIfInBounds_toArray, List.set_cons_zero, List.set_cons_succ, i64_w, i32_w]
                            rfl
                          refine pure_ (i := 8) (N := some 170) (v := ?_) (a' := ?_) #[true, true, true, true, true, true, true, true, true, false] rfl rfl (by kernel_rfl) (fun _ _ _ h => h) (Or.inl ⟨by rfl, ?_⟩) ?_ ?_
                          rotate_left
                          · intro w'
                            go_simp
                            with_reducible rfl
                          rotate_left
                          · simp only [Act.put, List.setIfInBounds_toArray, List.set_cons_zero, List.set_cons_succ, i64_w, i32_w]
                            rfl
                          have f5 := HL8.out.free 5
                          have d5 := HL8.out.c5
                          refine last_ (i := 9) (N := none) #[true, true, true, true, true, true, true, true, true, true] rfl rfl (by kernel_rfl) (by decide) (fun K hK => ?_)
                          refine skip_ (w1 := ?_) (by rfl) rfl ?_ ?_
                          rotate_left
                          · go_simp
                            rfl
                          refine hK.out _ _ ?_
                          clear hK K f5 d5
                          refine done_ (by kernel_rfl) ?_
                          have HL9 := Aside0.mk (HL8.out.set5 (used : Int))
                          have HR9 := Aside0.mk (HR8.out.other (p := ⟨G, 5, none⟩) (v := .int .i64 (used : Int)) (fun e => HN.out.1 e.symm))
                          have HS9 := Aside0.mk (HS8.out.far (p := ⟨G, 5, none⟩) (.inl rfl) (.int .i64 (used : Int)))
                          have HB9 := Aside0.mk (HB8.out.setCell (p := ⟨G, 5, none⟩) HN.out.2.1 (.int .i64 (used : Int)))
                          go_wp2
                          go_roundg k2
                          case measure => have := HY.out; omega
                          case rel => exact ⟨y + 1, c2', ls2, v5, by rw [wsucc' (by have := HY.out; omega) (by have := HYY.out; have := HN.out; omega)], ⟨by have := HY.out; have := HYY.out; omega⟩, by rw [show (y + 1).toNat = y.toNat + 1 by have := HY.out; omega, show to_ + 1 - (y.toNat + 1) = to_ - y.toNat by omega]; exact HF2, HL9, HR9, HS9, HB9⟩
                        · have c3b : (rd row tx != 0) = true := bne_iff_ne.2 c3
                          rw [if_pos (.inr (.inr (.inr c3)))] at hf
                          have H1 := Aside0.mk hf
                          clear hf hbit c1 c2 c3 tx0 htx
                          go_wp2
                          go_roundg k2
                          case measure => have := HY.out; omega
                          case rel => exact ⟨y + 1, cc, ls1, v1, by rw [wsucc' (by have := HY.out; omega) (by have := HYY.out; have := HN.out; omega)], ⟨by have := HY.out; have := HYY.out; omega⟩, by rw [show (y + 1).toNat = y.toNat + 1 by have := HY.out; omega, show to_ + 1 - (y.toNat + 1) = to_ - y.toNat by omega]; exact H1, HL1, HR1, HS1, HB1⟩
                    · have c1b : decide (tx ≥ (row.length : Int)) = true := decide_eq_true (by omega)
                      rw [if_pos (.inr (.inl c1))] at hf
                      have H1 := Aside0.mk hf
                      clear hf hbit c1
                      go_wp2
                      go_roundg k2
                      case measure => have := HY.out; omega
                      case rel => exact ⟨y + 1, cc, ls1, v1, by rw [wsucc' (by have := HY.out; omega) (by have := HYY.out; have := HN.out; omega)], ⟨by have := HY.out; have := HYY.out; omega⟩, by rw [show (y + 1).toNat = y.toNat + 1 by have := HY.out; omega, show to_ + 1 - (y.toNat + 1) = to_ - y.toNat by omega]; exact H1, HL1, HR1, HS1, HB1⟩
                · have cy : decide (y ≤ (to_ : Int)) = false := decide_eq_false hy
                  have hf := HH.out
                  rw [show to_ + 1 - y.toNat = 0 by have := HY.out; omega, lookL] at hf
                  obtain rfl := Option.some.inj hf
                  clear hf hy
                  go_wp2
                  go_end0
                  exact ⟨rfl, _, HL1.out, HR1.out, HS1.out, HB1.out⟩
        · have b0 : (rd row x != 0) = true := bne_iff_ne.2 hr0
          rw [if_pos (.inl hr0)] at hz
          have HZ1 := Aside0.mk hz
          clear hz hr0
          go_wp2
          go_roundg k1
          case measure => have := HX.out; omega
          case rel => exact ⟨x + 1, by rw [wsucc' HX.out.1 (by have := HXX.out; have := HN.out; omega)], ⟨by have := HX.out; have := HXX.out; omega⟩, by rw [show (x + 1).toNat = x.toNat + 1 by have := HX.out; omega]; exact HZ1, rfl⟩
      · have cx : decide (x < (row.length : Int)) = false := decide_eq_false hx
        have be : (x == (row.length : Int)) = true := beq_iff_eq.2 (by have := HX.out; omega)
        have hz := HZ.out
        rw [List.drop_eq_nil_of_le (by have := HX.out; omega), firstZero] at hz
        have hf := HF.out
        rw [lookF, hz] at hf
        obtain rfl := Option.some.inj hf
        have c6 := HL.out.c6
        have c7 := HL.out.c7
        have c8 := HL.out.c8
        have f7 := HL.out.free 7
        have L7 := HL.out.set7 (wrap64 (c + 1))
        have d8 := L7.c8
        have d6 := L7.c6
        have d0 := L7.c0
        have g8 := L7.free 8
        have R7 := HR.out.other (p := ⟨G, 7, none⟩) (v := .int .i64 (wrap64 (c + 1))) (fun e => HN.out.1 e.symm)
        have S7 := HS.out.far (p := ⟨G, 7, none⟩) (.inl rfl) (.int .i64 (wrap64 (c + 1)))
        have B7 := (Below.refl B wr).setCell (p := ⟨G, 7, none⟩) HN.out.2.1 (.int .i64 (wrap64 (c + 1)))
        obtain ⟨A8, n8, rfl⟩ := Kd.R_slice HS.out
        have HL7 := Aside0.mk L7
        have HR7 := Aside0.mk R7
        have HS7 := Aside0.mk S7
        have HB7 := Aside0.mk B7
        clear hx hz hf L7 R7 S7 B7
        by_cases hlt : ls.length < most
        · have bl : decide ((ls.length : Int) < (most : Int)) = true := decide_eq_true (by omega)
          have bl2 : decide (ls.length < most) = true := decide_eq_true hlt
          have HLT := Aside0.mk hlt
          clear hlt
          go_wp2
          go_quiet (fail)
          simp only [Exit.inBlock, Exit.then]
          go_wp2
          have HL6 := Aside0.mk (HL7.out.below (below_drew (pw_below_drewN (Below.refl _ _) nq)))
          have HR6 := Aside0.mk (HR7.out.below (below_drew (pw_below_drewN (Below.refl _ _) nq)))
          have HS6 := Aside0.mk (HS7.out.below (below_drew (pw_below_drewN (Below.refl _ _) nq)))
          have HB6 := Aside0.mk (below_drew (pw_below_drewN HB7.out nq))
          refine start_ (n := 15) (S := fun w' => w'.cell? ⟨G, 8, none⟩ = some (.slice A8 ls.length n8) ∧ w'.cell? ⟨G, 0, none⟩ = some (.slice (some ⟨R, 0, none⟩) row.length row.length)) (ds := [14]) #[false, false, false, false, false, false, false, false, false, false, false, false, false, false, false] (by kernel_rfl) rfl rfl ⟨HL6.out.c8, HL6.out.c0⟩ (fun hHeld => ?_)
          generalize (World.drew _) = w6 at HL6 HR6 HS6 HB6 hHeld ⊢
          refine pure_ (i := 0) (N := some 56) (v := ?_) (a' := ?_) #[true, false, false, false, false, false, false, false, false, false, false, false, false, false, false] rfl rfl (by kernel_rfl) (fun _ _ _ h => h) (Or.inl ⟨by rfl, ?_⟩) ?_ ?_
          rotate_left
          · intro w'
            go_simp
            with_reducible rfl
          rotate_left
          · simp only [Act.put, List.setIfInBounds_toArray, List.set_cons_zero, List.set_cons_succ, i64_w, i32_w]
            rfl
          refine pure_ (i := 1) (N := some 57) (v := ?_) (a' := ?_) #[true, true, false, false, false, false, false, false, false, false, false, false, false, false, false] rfl rfl (by kernel_rfl) (fun _ _ _ h => h) (Or.inl ⟨by rfl, ?_⟩) ?_ ?_
          rotate_left
          · intro w'
            go_simp
            with_reducible rfl
          rotate_left
          · simp only [Act.put, List.setIfInBounds_toArray, List.set_cons_zero, List.set_cons_succ, i64_w, i32_w]
            rfl
          refine pure_ (i := 2) (N := some 58) (v := ?_) (a' := ?_) #[true, true, true, false, false, false, false, false, false, false, false, false, false, false, false] rfl rfl (by kernel_rfl) (fun _ _ _ h => h) (Or.inl ⟨by rfl, ?_⟩) ?_ ?_
          rotate_left
          · intro w'
            go_simp
            with_reducible rfl
          rotate_left
          · simp only [Act.put, List.setIfInBounds_toArray, List.set_cons_zero, List.set_cons_succ, i64_w, i32_w]
            rfl
          refine pure_ (i := 3) (N := some 59) (v := ?_) (a' := ?_) #[true, true, true, true, false, false, false, false, false, false, false, false, false, false, false] rfl rfl (by kernel_rfl) (fun _ _ _ h => h) (Or.inl ⟨by rfl, ?_⟩) ?_ ?_
          rotate_left
          · intro w'
            go_simp
            with_reducible rfl
          rotate_left
          · simp only [Act.put, List.setIfInBounds_toArray, List.set_cons_zero, List.set_cons_succ, i64_w, i32_w]
            rfl
          refine pure_ (i := 5) (N := some 61) (v := ?_) (a' := ?_) #[true, true, true, true, false, true, false, false, false, false, false, false, false, false, false] rfl rfl (by kernel_rfl) (fun _ _ _ h => h) (Or.inl ⟨by rfl, ?_⟩) ?_ ?_
          rotate_left
          · intro w'
            go_simp
            with_reducible rfl
          rotate_left
          · simp only [Act.put, List.setIfInBounds_toArray, List.set_cons_zero, List.set_cons_succ, i64_w, i32_w]
            rfl
          refine pure_ (i := 6) (N := some 62) (v := ?_) (a' := ?_) #[true, true, true, true, false, true, true, false, false, false, false, false, false, false, false] rfl rfl (by kernel_rfl) (fun _ _ _ h => h) (Or.inl ⟨by rfl, ?_⟩) ?_ ?_
          rotate_left
          · intro w'
            go_simp
            with_reducible rfl
          rotate_left
          · simp only [Act.put, List.setIfInBounds_toArray, List.set_cons_zero, List.set_cons_succ, i64_w, i32_w]
            rfl
          refine pure_ (i := 7) (N := some 63) (v := ?_) (a' := ?_) #[true, true, true, true, false, true, true, true, false, false, false, false, false, false, false] rfl rfl (by kernel_rfl) (fun _ _ _ h => h) (Or.inl ⟨by rfl, ?_⟩) ?_ ?_
          rotate_left
          · intro w'
            go_simp
            with_reducible rfl
          rotate_left
          · simp only [Act.put, List.setIfInBounds_toArray, List.set_cons_zero, List.set_cons_succ, i64_w, i32_w]
            rfl
          refine take_ (i := 4) (N := some 60) (v := ?_) (a' := ?_) #[true, true, true, true, true, true, true, true, false, false, false, false, false, false, false] rfl rfl (by kernel_rfl) (fun _ _ _ h => h) (Or.inl ⟨by rfl, ?_⟩) hHeld ?_ ?_
          rotate_left
          · rintro w' ⟨s0, s1⟩
            go_simp
            with_reducible rfl
          rotate_left
          · simp only [Act.put, List.setIfInBounds_toArray, List.set_cons_zero, List.set_cons_succ, i64_w, i32_w]
            rfl
          refine take_ (i := 8) (N := some 64) (v := ?_) (a' := ?_) #[true, true, true, true, true, true, true, true, true, false, false, false, false, false, false] rfl rfl (by kernel_rfl) (fun _ _ _ h => h) (Or.inl ⟨by rfl, ?_⟩) hHeld ?_ ?_
          rotate_left
          · rintro w' ⟨s0, s1⟩
            go_simp
            with_reducible rfl
          rotate_left
          · simp only [Act.put, List.setIfInBounds_toArray, List.set_cons_zero, List.set_cons_succ, i64_w, i32_w]
            rfl
          refine one_ (i := 9) (N := some 65) #[true, true, true, true, true, true, true, true, true, true, false, false, false, false, false] rfl rfl (by kernel_rfl) (by decide) (fun K hK => ?_)
          refine goes_ (f := 97) Try.func97 (by kernel_rfl) rfl #[.slice (some ⟨R, 0, none⟩) row.length row.length] (by rfl) rfl rfl (by first | rfl | (simp only [List.map_toArray, List.map_cons, List.map_nil]; rfl)) ?_
          refine (spec_l1Own.calls (some ⟨R, 0, none⟩) row.length row row _ (HR6.out.C (by have := HN.out; omega)) (Nat.le_refl _) (own_small (by have := HN.out; omega))).mono ?_
          rintro e w7 ⟨v7, rfl, ho7, hb7⟩
          refine ⟨_, rfl, ?_⟩
          obtain ⟨A7, n7, rfl⟩ := Kd.R_slice ho7
          have HL7' := Aside0.mk (HL6.out.below hb7)
          have HR7' := Aside0.mk (HR6.out.below hb7)
          have HS7' := Aside0.mk (HS6.out.below hb7)
          have HB7' := Aside0.mk (HB6.out.trans (below_low hb7 (by have := HL6.out.lt; have := HN.out; omega)))
          have HO7 := Aside0.mk ho7
          clear ho7 hb7
          refine hK.out _ _ ⟨HL7'.out.c8, HL7'.out.c0⟩ (fun hHeld => ?_)
          clear hK K
          refine norm_ (a' := ?_) ?_ ?_
          rotate_left
          · show Act.put _ (some 65) _ = _
            simp only [Act.put, List.setIfInBounds_toArray, List.set_cons_zero, List.set_cons_succ, i64_w, i32_w]
            rfl
          refine one_ (i := 10) (N := some 66) #[true, true, true, true, true, true, true, true, true, true, true, false, false, false, false] rfl rfl (by kernel_rfl) (by decide) (fun K hK => ?_)
          refine value_ (w1 := ?_) (v := ?_) (by rfl) rfl ?_ ?_
          rotate_left 2
          · go_simp
            constructor
            · rfl
            · rfl
          refine hK.out _ _ ⟨cell_new HL7'.out.c8, cell_new HL7'.out.c0⟩ (fun hHeld => ?_)
          clear hK K
          refine norm_ (a' := ?_) ?_ ?_
          rotate_left
          · show Act.put _ (some 66) _ = _
            simp only [Act.put, List.setIfInBounds_toArray, List.set_cons_zero, List.set_cons_succ, i64_w, i32_w]
            rfl
          refine one_ (i := 11) (N := some 67) #[true, true, true, true, true, true, true, true, true, true, true, true, false, false, false] rfl rfl (by kernel_rfl) (by decide) (fun K hK => ?_)
          refine Kd.R_append_step (Kd.slice 3 (Kd.int .i64)) (w0 := wr) B (by rfl) (.tmp 60) (.tmp 66) 39 29 (.slice none 0 0) 24 rfl Try.underlying39 info_row rfl (by decide) (by omega) (.slice A8 ls.length n8) ls row [.slice A7 row.length n7] (fun k => k ≠ G ∧ k ≠ R) (fun k => w6.heap.size ≤ k) rfl rfl ?aP ?aK ?aF ?aO ?aB ?aS ?aL ?_
          (case aP => exact Kd.M_row (Kd.R_lower (Kd.R_mono (Kd.R_bound HO7.out) (fun _ hk => hk.2.1)) (by have := HL6.out.lt; have := HN.out; omega)))
          (case aK => exact fun k hk => ⟨⟨by have := HL6.out.lt; omega, by have := HR6.out.lt; omega⟩, fun e => by have := Kd.R_lt HS6.out k e.symm; omega⟩)
          (case aF => exact fun k hk => ⟨by have := HL7'.out.lt; omega, by have := HR7'.out.lt; omega⟩)
          (case aO => exact HS7'.out)
          (case aB => exact HB7'.out)
          (case aS => have := HL7'.out.lt; have := HN.out; omega)
          (case aL => have := HLT.out; have := HN.out; omega)
          intro v9 w9 ho9 hb9 hg9 hat9
          have HL9 := Aside0.mk (show Look w9 G R row.length fr to_ sh hole (used : Int) most (wrap64 (c + 1)) _ from (hg9.block G HL7'.out.lt (fun e => (HS7'.out.1 G e.symm).1 rfl)).trans HL7'.out)
          have HR9 := Aside0.mk (show Blk w9 R row from (hg9.block R HR7'.out.lt (fun e => (HS7'.out.1 R e.symm).2 rfl)).trans HR7'.out)
          have HS9 := Aside0.mk ho9
          have HB9 := Aside0.mk hb9
          obtain ⟨A9, n9, rfl⟩ := Kd.R_slice ho9
          clear ho9 hb9 hg9 hat9
          refine hK.out _ _ ⟨HL9.out.c8, HL9.out.c0⟩ (fun hHeld => ?_)
          clear hK K
          refine norm_ (a' := ?_) ?_ ?_
          rotate_left
          · show Act.put _ (some 67) _ = _
            simp only [Act.put, List.setIfInBounds_toArray, List.set_cons_zero, List.set_cons_succ, i64_w, i32_w]
            rfl
          refine pure_ (i := 12) (N := some 68) (v := ?_) (a' := ?_) #[true, true, true, true, true, true, true, true, true, true, true, true, true, false, false] rfl rfl (by kernel_rfl) (fun _ _ _ h => h) (Or.inl ⟨by rfl, ?_⟩) ?_ ?_
          rotate_left
          · intro w'
            go_simp
            with_reducible rfl
          rotate_left
          · simp only [Act.put, List.setIfInBounds_toArray, List.set_cons_zero, List.set_cons_succ, i64_w, i32_w]
            rfl
          refine pure_ (i := 13) (N := some 69) (v := ?_) (a' := ?_) #[true, true, true, true, true, true, true, true, true, true, true, true, true, true, false] rfl rfl (by kernel_rfl) (fun _ _ _ h => h) (Or.inl ⟨by rfl, ?_⟩) ?_ ?_
          rotate_left
          · intro w'
            go_simp
            with_reducible rfl
          rotate_left
          · simp only [Act.put, List.setIfInBounds_toArray, List.set_cons_zero, List.set_cons_succ, i64_w, i32_w]
            rfl
          have f8 := HL9.out.free 8
          have d8 := HL9.out.c8
          refine last_ (i := 14) (N := none) #[true, true, true, true, true, true, true, true, true, true, true, true, true, true, true] rfl rfl (by kernel_rfl) (by decide) (fun K hK => ?_)
          refine skip_ (w1 := ?_) (by rfl) rfl ?_ ?_
          rotate_left
          · go_simp
            rfl
          refine hK.out _ _ ?_
          clear hK K
          refine done_ (by kernel_rfl) ?_
          have el : lstep most (c, ls) row = (wrap64 (c + 1), ls ++ [row]) := by simp [lstep, HLT.out]
          have EL := Aside0.mk el
          clear el
          (try simp only [Exit.inBlock, Exit.then])
          try go_wp2
          (try simp only [Exit.inBlock, Exit.then])
          first | go_end0 | refine bodyPost_ret (v := .tuple #[]) (by first | rfl | (simp [results]; done) | kernel_rfl) rfl ?_
          have ln9 : (ls ++ [row]).length = ls.length + 1 := by simp
          refine ⟨rfl, .slice A9 (ls.length + 1) n9, ?_⟩
          rw [EL.out]
          rw [ln9] at HS9
          exact ⟨HL9.out.set8 _, HR9.out.other (p := ⟨G, 8, none⟩) (fun e => HN.out.1 e.symm), Lst.far (h := HS9.out) (p := ⟨G, 8, none⟩) (.inl rfl) _, HB9.out.setCell (p := ⟨G, 8, none⟩) HN.out.2.1 _⟩
        · have bl : decide ((ls.length : Int) < (most : Int)) = false := decide_eq_false (by omega)
          have bl2 : decide (ls.length < most) = false := decide_eq_false hlt
          have EL := Aside0.mk (show (lstep most (c, ls) row).2 = ls by simp [lstep, hlt])
          clear hlt
          go_wp2
          repeat (go_quiet (fail); try go_wp2)
          (try simp only [Exit.inBlock, Exit.then])
          first | go_end0 | refine bodyPost_ret (v := .tuple #[]) (by first | rfl | (simp [results]; done) | kernel_rfl) rfl ?_
          exact ⟨rfl, _, HL7.out, HR7.out, by rw [EL.out]; exact HS7.out.drewN _, (pw_below_drewN HB7.out _)⟩
theorem look_calls {G R fr to_ sh most : Nat} {hole : Int} {B : Nat} (hGR : G ≠ R) (hBG : B ≤ G) (hBR : B ≤ R) (hft : fr ≤ to_ + 1) (hto : to_ ≤ 40) (hsh : sh ≤ 1) (hm : most ≤ 5000) : ∀ (k : Nat) (row : List Int) (used : Nat) (c : Int) (ls : List (List Int)) (v : Value) (r : Int × List (List Int)) (w : World), row.length ≤ 100 → used < 2 ^ 41 → Look w G R row.length fr to_ sh hole (used : Int) most c v → Blk w R row → Lst w B G R v ls → lookF fr to_ sh hole (lstep most) k row used (c, ls) = some r →
    Calls Try.prog 84 #[.pointer (some ⟨G, 0, none⟩)] w (LookPost B G R row fr to_ sh hole used most r w) := by
  intro k
  induction k with
  | zero => intro row used c ls v r w _ _ _ _ _ h; simp [lookF] at h
  | succ k ih => exact look_step hGR hBG hBR hft hto hsh hm k ⟨ih⟩
end Go.Proofs.Ytkffdloophagaaa.Search
