/- The search that fills a row's free places and hands each full row to a function value: a contract over every function value that keeps the row. Conditions: none but those that each lemma states. -/
import Derived.Test.YtkffdloophagaaaSBlk
namespace Go.Proofs.Ytkffdloophagaaa.Search
open Go.RowKit Go.Proofs.YtkffdloophagaaaW.PrintWords Go.Proofs.YtkffdloophagaaaW.PrintLast Go.Proofs.YtkffdloophagaaaW.PrintMore
set_option linter.unusedVariables false
set_option linter.unusedSimpArgs false
set_option maxHeartbeats 8000000 in
set_option maxRecDepth 100000 in
theorem fill_step {σ : Type} {f : FuncId} {cap : Array Value} {Inv : σ → World → Prop} {step : σ → List Int → σ × Bool} {live : σ → Prop} {B R T L len sh : Nat} (hRT : R ≠ T) (hRL : R ≠ L) (hTL : T ≠ L) (hBR : B ≤ R) (hBL : B ≤ L) (hC0 : Clos Try.prog B R T L f cap Inv step len live) {told : List Int} (hz : ∀ j : Nat, rd told j = 0) (htl : told.length = len) (hsh : sh ≤ 1) (hlen : len ≤ 100) (k : Nat) (IH : Aside0 (∀ (row left : List Int) (s : σ) (w : World) (r : σ × Bool), row.length = len → left.length ≤ 100 → (∀ x ∈ left, 0 ≤ x ∧ x ≤ 100) → Blk w R row → Blk w T told → Blk w L left → Inv s w → live s → B ≤ w.heap.size → fillF sh step k row left s = some r →
    Calls Try.prog 96 #[.slice (some ⟨R, 0, none⟩) len len, .slice (some ⟨T, 0, none⟩) len len, .slice (some ⟨L, 0, none⟩) left.length left.length, .int .i64 (sh : Int), .func (.func f) #[] cap] w fun e w' => e = .returned (.bool r.2) ∧ Inv r.1 w' ∧ KeepW B R T L w w')) :
    ∀ (row left : List Int) (s : σ) (w : World) (r : σ × Bool), row.length = len → left.length ≤ 100 → (∀ x ∈ left, 0 ≤ x ∧ x ≤ 100) → Blk w R row → Blk w T told → Blk w L left → Inv s w → live s → B ≤ w.heap.size → fillF sh step (k + 1) row left s = some r →
    Calls Try.prog 96 #[.slice (some ⟨R, 0, none⟩) len len, .slice (some ⟨T, 0, none⟩) len len, .slice (some ⟨L, 0, none⟩) left.length left.length, .int .i64 (sh : Int), .func (.func f) #[] cap] w fun e w' => e = .returned (.bool r.2) ∧ Inv r.1 w' ∧ KeepW B R T L w w' := by
  intro row left s w r hrl hll hlb hR hT hL hI hV0 hBW0 h
  subst hrl
  have hC := Aside0.mk hC0
  have HR := Aside0.mk hR
  have HT := Aside0.mk hT
  have HLL := Aside0.mk hL
  have HI := Aside0.mk hI
  have HV := Aside0.mk hV0
  have HBW := Aside0.mk hBW0
  have HL := Aside0.mk (show row.length ≤ 100 ∧ left.length ≤ 100 ∧ told.length = row.length ∧ sh ≤ 1 ∧ (∀ x ∈ left, 0 ≤ x ∧ x ≤ 100) from ⟨hlen, hll, htl, hsh, hlb⟩)
  have HZ := Aside0.mk hz
  have HN := Aside0.mk (show R ≠ T ∧ R ≠ L ∧ T ≠ L ∧ B ≤ R ∧ B ≤ L from ⟨hRT, hRL, hTL, hBR, hBL⟩)
  have IDX := Aside0.mk (show slices_Index_int_int.f (row.length + 1) row (-1) = some (match firstFree row 0 with | none => -1 | some j => (j : Int)) from index_free row (by omega) row 0 (row.length + 1) rfl (by omega))
  clear hRT hRL hTL hBR hBL hC0 hz htl hsh hlen hll hlb hR hT hL hI hV0 hBW0
  simp only [fillF] at h
  cases hf : firstFree row 0 with
  | none =>
    rw [hf] at h IDX
    obtain rfl := Option.some.inj h
    clear h hf
    go_enter Try.func96, Try.ntmps96
    go_wp2_with (first | ((with_reducible refine gate_callee (f := 108) rfl ?_); refine goesL_ (some 17) rfl rfl Try.func108 (by kernel_rfl) rfl #[.slice (some ⟨R, 0, none⟩) row.length row.length, .int .i64 (-1)] rfl (by (try simp only [List.map_toArray, List.map_cons, List.map_nil]); first | done | rfl) ?_; (with_reducible refine (slices_Index_int_int.calls (row.length + 1) _ _ row (-1) _ _ ?side1 ?side2 IDX.out).mono ?_); (case side1 => exact HR.out.C (by have := HL.out.1; omega)); (case side2 => exact Nat.le_refl _); rintro e w' ⟨rfl, ⟨nd, rfl⟩⟩; refine ⟨_, rfl, ?_⟩) | ((with_reducible refine gate_dst (N := 22) rfl ?_); refine goesC_ (some 22) rfl rfl hC.out.enters #[.slice (some ⟨R, 0, none⟩) row.length row.length] rfl rfl (by (try simp only [List.map_toArray, List.map_cons, List.map_nil]); first | done | rfl) ?_; refine (hC.out.call s row (w.drewN nd) HV.out (hC.out.keeps s w (w.drewN nd) HI.out (Nat.le_refl _) (fun _ _ _ _ => rfl)) HR.out rfl HBW.out).mono ?_; rintro e w' ⟨rfl, hi, hk⟩; refine ⟨_, rfl, ?_⟩))
    go_ret
    exact ⟨rfl, hi, ⟨(pw_below_drewN (Below.refl B w) nd).trans hk.below, hk.row, hk.told, hk.left⟩⟩
  | some at_ =>
    have hat := firstFree_lt row 0 at_ hf
    have hrow : row[at_]? = some (-1) := firstFree_at row 0 at_ hf
    rw [hf] at h IDX
    obtain ⟨ax, hax⟩ : ∃ ax : Int, ax = (at_ : Int) := ⟨_, rfl⟩
    have HAX := Aside0.mk hax
    have HAT := Aside0.mk hat
    have HROW := Aside0.mk hrow
    have b0 : decide (ax < 0) = false := decide_eq_false (by omega)
    simp only [] at h IDX
    rw [← hax] at IDX
    have H := Aside0.mk h
    obtain rfl : at_ = ax.toNat := by omega
    clear h hf hat hrow hax
    go_enter Try.func96, Try.ntmps96
    go_wp2_with (first | ((with_reducible refine gate_callee (f := 108) rfl ?_); refine goesL_ (some 17) rfl rfl Try.func108 (by kernel_rfl) rfl #[.slice (some ⟨R, 0, none⟩) row.length row.length, .int .i64 (-1)] rfl (by (try simp only [List.map_toArray, List.map_cons, List.map_nil]); first | done | rfl) ?_; (with_reducible refine (slices_Index_int_int.calls (row.length + 1) _ _ row (-1) _ _ ?side1 ?side2 IDX.out).mono ?_); (case side1 => exact HR.out.C (by have := HL.out.1; omega)); (case side2 => exact Nat.le_refl _); rintro e w' ⟨rfl, ⟨nd, rfl⟩⟩; refine ⟨_, rfl, ?_⟩))
    go_loopg [25] (left.length + 1) (fun kq v25 w' => ∃ (x : Int) (s' : σ), v25 = .int .i64 x ∧ Aside0 (0 ≤ x ∧ x ≤ (left.length : Int) ∧ kq + x.toNat = left.length + 1) ∧ Aside0 (fillL sh (fillF sh step k) row left ax.toNat (left.drop x.toNat) x.toNat s' = some r) ∧ Aside0 (Blk w' R row) ∧ Aside0 (Blk w' T told) ∧ Aside0 (Blk w' L left) ∧ Aside0 (Inv s' w' ∧ live s') ∧ Aside0 (KeepW B R T L w w'))
    case atStart => exact ⟨0, s, rfl, ⟨by omega⟩, H, HR, HT, HLL, ⟨hC.out.keeps s w _ HI.out (Nat.le_refl _) (fun _ _ _ _ => rfl), HV.out⟩, ⟨⟨pw_below_drewN (Below.refl B w) _, rfl, rfl, rfl⟩⟩⟩
    case round =>
      obtain ⟨x, s1, rfl, HX, HH, HR1, HT1, HL1, HI1, HK1⟩ := hrel
      cases gk with
      | zero => exact absurd HX.out (by omega)
      | succ k1 =>
        by_cases hx : x < (left.length : Int)
        · have cx : decide (x < (left.length : Int)) = true := decide_eq_true hx
          obtain ⟨n, hn⟩ : ∃ n, n = rd left x := ⟨_, rfl⟩
          have HLN := Aside0.mk (show left[x.toNat]? = some n by rw [hn]; have h : x.toNat < left.length := (by have := HX.out; omega); rw [List.getElem?_eq_getElem h]; simp [rd, List.getD_eq_getElem?_getD, h])
          have hnx : ((x.toNat : Nat) : Int) = x := Int.toNat_of_nonneg HX.out.1
          have hnt : x.toNat < left.length := by omega
          have hdr : left.drop x.toNat = n :: left.drop (x.toNat + 1) := by
            rw [List.drop_eq_getElem_cons hnt, hn]
            congr 1
            simp [rd, List.getD_eq_getElem?_getD, hnt]
          have hcx := HL1.out.cell hnt
          rw [hnx, ← hn] at hcx
          have hnb : 0 ≤ n ∧ n ≤ 100 := HL.out.2.2.2.2 n (by rw [show n = left[x.toNat] by rw [hn]; simp [rd, List.getD_eq_getElem?_getD, hnt]]; exact List.getElem_mem hnt)
          have h := HH.out
          rw [hdr] at h
          unfold fillL at h
          have p1 : (0 ≤ x) = True := eq_true HX.out.1
          have q1 : (x < (left.length : Int)) = True := eq_true hx
          have HNB := Aside0.mk hnb
          have HXX := Aside0.mk hx
          have HNX := Aside0.mk hnx
          clear hn hdr hnb hx hnx hnt
          by_cases c0 : n = 0
          · rw [if_pos (.inl c0)] at h
            have H1 := Aside0.mk h
            have c0b : (n == 0) = true := beq_iff_eq.2 c0
            have C0 := Aside0.mk c0
            clear h c0
            go_wp2
            go_roundg k1
            case measure => have := HX.out; omega
            case rel => exact ⟨x + 1, s1, by rw [wsucc' HX.out.1 (by have := HXX.out; have := HL.out; omega)], ⟨by have := HX.out; have := HXX.out; omega⟩, by rw [show (x + 1).toNat = x.toNat + 1 by have := HX.out; omega]; exact H1, HR1, HT1, HL1, HI1, HK1⟩
          · have c0b : (n == 0) = false := beq_eq_false_iff_ne.2 c0
            have C0 := Aside0.mk c0
            clear c0
            obtain ⟨tx, hto⟩ : ∃ tx, tx = wrap64 (wrap64 (ax + n) + (sh : Int)) := ⟨_, rfl⟩
            have hto2 : tx = ax + n + (sh : Int) := by
              rw [hto, wsame (n := ax + n) (by have := HAX.out; have := HNB.out; omega) (by have := HAX.out; have := HAT.out; have := HL.out; have := HNB.out; omega), wsame (by have := HAX.out; have := HNB.out; omega) (by have := HAX.out; have := HAT.out; have := HL.out; have := HNB.out; omega)]
            have hto' := hto.symm
            have h3 : ((ax.toNat : Nat) : Int) + n + (sh : Int) = tx := by rw [← HAX.out, hto2]
            rw [h3] at h
            have T2 := Aside0.mk hto2
            clear hto hto2 h3
            by_cases c1 : tx < (row.length : Int)
            · have c1b : decide (tx ≥ (row.length : Int)) = false := decide_eq_false (by omega)
              have tx0 : 0 ≤ tx := by have := T2.out; have := HAX.out; have := HNB.out; omega
              have hnt : tx.toNat < row.length := by omega
              have htx : ((tx.toNat : Nat) : Int) = tx := Int.toNat_of_nonneg tx0
              have hct := HR1.out.cell hnt
              rw [htx] at hct
              have p2 : (0 ≤ tx) = True := eq_true tx0
              have q2 : (tx < (row.length : Int)) = True := eq_true c1
              have C1 := Aside0.mk c1
              have HNT := Aside0.mk hnt
              have TX0 := Aside0.mk tx0
              have HTX := Aside0.mk htx
              clear hnt tx0 htx
              by_cases c2 : rd row tx = -1
              · rw [if_neg (fun g => g.elim C0.out (fun g => g.elim (fun g => g C1.out) (fun g => g c2)))] at h
                obtain ⟨⟨s2, b2⟩, hrr, h⟩ := Option.bind_eq_some_iff.1 h
                simp only [] at h
                have hbn := HAT.out
                have hat : ax.toNat < row.length := by omega
                have hne : ax.toNat ≠ tx.toNat := by have := T2.out; have := HAX.out; have := HNB.out; have := C0.out; omega
                have R1 := HR1.out.set ax.toNat n
                have R2 := R1.set tx.toNat n
                have LL2 := (HL1.out.other (p := ⟨R, ax.toNat, none⟩) (v := .int .i64 n) (fun e => HN.out.2.1 e.symm)).other (p := ⟨R, tx.toNat, none⟩) (v := .int .i64 n) (fun e => HN.out.2.1 e.symm)
                have LL3 := LL2.set x.toNat 0
                have R3 := R2.other (p := ⟨L, x.toNat, none⟩) (v := .int .i64 0) HN.out.2.1
                have TT3 := ((HT1.out.other (p := ⟨R, ax.toNat, none⟩) (v := .int .i64 n) (fun e => HN.out.1 e.symm)).other (p := ⟨R, tx.toNat, none⟩) (v := .int .i64 n) (fun e => HN.out.1 e.symm)).other (p := ⟨L, x.toNat, none⟩) (v := .int .i64 0) HN.out.2.2.1
                have f1 := HR1.out.free ax.toNat
                have f2 := R1.free tx.toNat
                have f3 := LL2.free x.toNat
                have g1 := HR1.out.cell hat
                have g2 := R1.cell (i := tx.toNat) (by simpa using HNT.out)
                have g3 := LL2.cell (i := x.toNat) (by have := HXX.out; have := HX.out; omega)
                have t1 := HT1.out.cell (i := ax.toNat) (by have := HL.out; omega)
                have t2 := HT1.out.cell (i := tx.toNat) (by have := HL.out; have := HNT.out; omega)
                rw [HZ.out] at t1 t2
                rw [HNX.out] at g3
                have p4 : (0 ≤ ax) = True := eq_true (by have := HAX.out; omega)
                have q4 : (ax < (row.length : Int)) = True := eq_true (by have := HAX.out; omega)
                have c2b : (rd row tx != -1) = false := bne_eq_false_iff_eq.2 c2
                have I3 : Inv s1 (((wr.setCell ⟨R, ax.toNat, none⟩ (.int .i64 n)).setCell ⟨R, tx.toNat, none⟩ (.int .i64 n)).setCell ⟨L, x.toNat, none⟩ (.int .i64 0)) := hC.out.keeps s1 wr _ HI1.out.1 (by simp [World.setCell]) (fun k hk1 hk2 _ => by rw [heap_setCell_other _ _ _ _ hk2, heap_setCell_other _ _ _ _ hk1, heap_setCell_other _ _ _ _ hk1])
                have B3 : B ≤ (((wr.setCell ⟨R, ax.toNat, none⟩ (.int .i64 n)).setCell ⟨R, tx.toNat, none⟩ (.int .i64 n)).setCell ⟨L, x.toNat, none⟩ (.int .i64 0)).heap.size := by
                  have := HBW.out
                  have := HK1.out.below.size
                  simp [World.setCell]
                  omega
                have ih := IH.out ((row.set ax.toNat n).set tx.toNat n) (left.set x.toNat 0) s1 _ (s2, b2) (by simp) (by rw [List.length_set]; exact HL.out.2.1) (fun y hy => by
                  rcases List.mem_or_eq_of_mem_set hy with h | h
                  · exact HL.out.2.2.2.2 y h
                  · omega) R3 TT3 LL3 I3 HI1.out.2 B3 hrr
                rw [List.length_set] at ih
                simp only [] at ih
                have IHC := Aside0.mk ih
                have HR3 := Aside0.mk R3
                have HL3 := Aside0.mk LL3
                have HT3 := Aside0.mk TT3
                have HTX2 := Aside0.mk (show row[tx.toNat]? = some (-1) by have h1 : rd row ((tx.toNat : Nat) : Int) = -1 := (by rw [HTX.out]; exact c2); have h2 := HNT.out; rw [List.getElem?_eq_getElem h2]; simp only [rd, List.getD_eq_getElem?_getD, Int.toNat_natCast, List.getElem?_eq_getElem h2, Option.getD_some] at h1; rw [h1])
                have HRR := Aside0.mk hrr
                have HH1 := Aside0.mk h
                have HNE := Aside0.mk hne
                have HAL := Aside0.mk hat
                have HC2 := Aside0.mk c2
                clear hat hbn hne R1 R2 LL2 LL3 R3 TT3 I3 B3 ih hrr h c1 c2
                cases b2 with
                | true =>
                  obtain rfl : (s2, true) = r := by simpa using HH1.out
                  go_wp2_with (first | ((with_reducible refine gate_callee (f := 96) rfl ?_); refine goesL_ (some 96) rfl rfl Try.func96 (by kernel_rfl) rfl #[.slice (some ⟨R, 0, none⟩) row.length row.length, .slice (some ⟨T, 0, none⟩) row.length row.length, .slice (some ⟨L, 0, none⟩) left.length left.length, .int .i64 (sh : Int), .func (.func f) #[] cap] rfl (by (try simp only [List.map_toArray, List.map_cons, List.map_nil]); first | done | rfl) ?_; refine (IHC.out).mono ?_; rintro e w5 ⟨rfl, hi, hk⟩; refine ⟨_, rfl, ?_⟩; have R5 : Blk w5 R _ := hk.row.trans HR3.out; have L5 : Blk w5 L _ := hk.left.trans HL3.out; have T5 : Blk w5 T _ := hk.told.trans HT3.out; have f4 := L5.free x.toNat; have g4 := L5.cell (i := x.toNat) (by rw [List.length_set]; have := HXX.out; have := HX.out; omega); have L6 := L5.set x.toNat n; have R6 := R5.other (p := ⟨L, x.toNat, none⟩) (v := .int .i64 n) HN.out.2.1; have f5 := R6.free ax.toNat; have g5 := R6.cell (i := ax.toNat) (by simpa using HAL.out); have R7 := R6.set ax.toNat (-1); have f6 := R7.free tx.toNat; have g6 := R7.cell (i := tx.toNat) (by simpa using HNT.out); have R8 := R7.set tx.toNat (-1); rw [restore2 HROW.out HTX2.out] at R8; rw [restore1 HLN.out] at L6; have L8 := (L6.other (p := ⟨R, ax.toNat, none⟩) (v := .int .i64 (-1)) (fun e => HN.out.2.1 e.symm)).other (p := ⟨R, tx.toNat, none⟩) (v := .int .i64 (-1)) (fun e => HN.out.2.1 e.symm); have T8 := ((T5.other (p := ⟨L, x.toNat, none⟩) (v := .int .i64 n) HN.out.2.2.1).other (p := ⟨R, ax.toNat, none⟩) (v := .int .i64 (-1)) (fun e => HN.out.1 e.symm)).other (p := ⟨R, tx.toNat, none⟩) (v := .int .i64 (-1)) (fun e => HN.out.1 e.symm); have HR8 := Aside0.mk R8; have HL8 := Aside0.mk L8; have HT8 := Aside0.mk T8; have HI5 := Aside0.mk hi; have HK5 := Aside0.mk hk; clear R5 L5 T5 L6 R6 R7 R8 L8 T8 hi hk))
                  have I8 : Inv s2 (((w5.setCell ⟨L, x.toNat, none⟩ (.int .i64 n)).setCell ⟨R, ax.toNat, none⟩ (.int .i64 (-1))).setCell ⟨R, tx.toNat, none⟩ (.int .i64 (-1))) := hC.out.keeps s2 w5 _ HI5.out (by simp [World.setCell]) (fun k hk1 hk2 _ => by rw [heap_setCell_other _ _ _ _ hk1, heap_setCell_other _ _ _ _ hk1, heap_setCell_other _ _ _ _ hk2])
                  have K8 : KeepW B R T L w (((w5.setCell ⟨L, x.toNat, none⟩ (.int .i64 n)).setCell ⟨R, ax.toNat, none⟩ (.int .i64 (-1))).setCell ⟨R, tx.toNat, none⟩ (.int .i64 (-1))) := ⟨HK1.out.below.trans ((keep3 (wr := wr) HN.out.2.2.2.1 HN.out.2.2.2.2 _ _ _).trans (HK5.out.below.trans (keep3' HN.out.2.2.2.1 HN.out.2.2.2.2 _ _ _))), HR8.out.trans HR.out.symm, HT8.out.trans HT.out.symm, HL8.out.trans HLL.out.symm⟩
                  go_ret
                  exact ⟨rfl, I8, K8⟩
                | false =>
                  have H1 := Aside0.mk (show fillL sh (fillF sh step k) row left ax.toNat (left.drop (x.toNat + 1)) (x.toNat + 1) s2 = some r by have := HH1.out; simpa using this)
                  go_wp2_with (first | ((with_reducible refine gate_callee (f := 96) rfl ?_); refine goesL_ (some 96) rfl rfl Try.func96 (by kernel_rfl) rfl #[.slice (some ⟨R, 0, none⟩) row.length row.length, .slice (some ⟨T, 0, none⟩) row.length row.length, .slice (some ⟨L, 0, none⟩) left.length left.length, .int .i64 (sh : Int), .func (.func f) #[] cap] rfl (by (try simp only [List.map_toArray, List.map_cons, List.map_nil]); first | done | rfl) ?_; refine (IHC.out).mono ?_; rintro e w5 ⟨rfl, hi, hk⟩; refine ⟨_, rfl, ?_⟩; have R5 : Blk w5 R _ := hk.row.trans HR3.out; have L5 : Blk w5 L _ := hk.left.trans HL3.out; have T5 : Blk w5 T _ := hk.told.trans HT3.out; have f4 := L5.free x.toNat; have g4 := L5.cell (i := x.toNat) (by rw [List.length_set]; have := HXX.out; have := HX.out; omega); have L6 := L5.set x.toNat n; have R6 := R5.other (p := ⟨L, x.toNat, none⟩) (v := .int .i64 n) HN.out.2.1; have f5 := R6.free ax.toNat; have g5 := R6.cell (i := ax.toNat) (by simpa using HAL.out); have R7 := R6.set ax.toNat (-1); have f6 := R7.free tx.toNat; have g6 := R7.cell (i := tx.toNat) (by simpa using HNT.out); have R8 := R7.set tx.toNat (-1); rw [restore2 HROW.out HTX2.out] at R8; rw [restore1 HLN.out] at L6; have L8 := (L6.other (p := ⟨R, ax.toNat, none⟩) (v := .int .i64 (-1)) (fun e => HN.out.2.1 e.symm)).other (p := ⟨R, tx.toNat, none⟩) (v := .int .i64 (-1)) (fun e => HN.out.2.1 e.symm); have T8 := ((T5.other (p := ⟨L, x.toNat, none⟩) (v := .int .i64 n) HN.out.2.2.1).other (p := ⟨R, ax.toNat, none⟩) (v := .int .i64 (-1)) (fun e => HN.out.1 e.symm)).other (p := ⟨R, tx.toNat, none⟩) (v := .int .i64 (-1)) (fun e => HN.out.1 e.symm); have HR8 := Aside0.mk R8; have HL8 := Aside0.mk L8; have HT8 := Aside0.mk T8; have HI5 := Aside0.mk hi; have HK5 := Aside0.mk hk; clear R5 L5 T5 L6 R6 R7 R8 L8 T8 hi hk))
                  have I8 : Inv s2 (((w5.setCell ⟨L, x.toNat, none⟩ (.int .i64 n)).setCell ⟨R, ax.toNat, none⟩ (.int .i64 (-1))).setCell ⟨R, tx.toNat, none⟩ (.int .i64 (-1))) := hC.out.keeps s2 w5 _ HI5.out (by simp [World.setCell]) (fun k hk1 hk2 _ => by rw [heap_setCell_other _ _ _ _ hk1, heap_setCell_other _ _ _ _ hk1, heap_setCell_other _ _ _ _ hk2])
                  have K8 : KeepW B R T L w (((w5.setCell ⟨L, x.toNat, none⟩ (.int .i64 n)).setCell ⟨R, ax.toNat, none⟩ (.int .i64 (-1))).setCell ⟨R, tx.toNat, none⟩ (.int .i64 (-1))) := ⟨HK1.out.below.trans ((keep3 (wr := wr) HN.out.2.2.2.1 HN.out.2.2.2.2 _ _ _).trans (HK5.out.below.trans (keep3' HN.out.2.2.2.1 HN.out.2.2.2.2 _ _ _))), HR8.out.trans HR.out.symm, HT8.out.trans HT.out.symm, HL8.out.trans HLL.out.symm⟩
                  go_roundg k1
                  case measure => have := HX.out; omega
                  case rel => exact ⟨x + 1, s2, by rw [wsucc' HX.out.1 (by have := HXX.out; have := HL.out; omega)], ⟨by have := HX.out; have := HXX.out; omega⟩, by rw [show (x + 1).toNat = x.toNat + 1 by have := HX.out; omega]; exact H1, HR8, HT8, HL8, ⟨I8, fillF_live hC.out.lives sh k _ _ _ _ HRR.out HI1.out.2 rfl⟩, ⟨K8⟩⟩
              · rw [if_pos (.inr (.inr c2))] at h
                have c2b : (rd row tx != -1) = true := bne_iff_ne.2 c2
                have H1 := Aside0.mk h
                clear h c1 c2
                go_wp2
                go_roundg k1
                case measure => have := HX.out; omega
                case rel => exact ⟨x + 1, s1, by rw [wsucc' HX.out.1 (by have := HXX.out; have := HL.out; omega)], ⟨by have := HX.out; have := HXX.out; omega⟩, by rw [show (x + 1).toNat = x.toNat + 1 by have := HX.out; omega]; exact H1, HR1, HT1, HL1, HI1, HK1⟩
            · have c1b : decide (tx ≥ (row.length : Int)) = true := decide_eq_true (by omega)
              rw [if_pos (.inr (.inl c1))] at h
              have H1 := Aside0.mk h
              clear h c1
              go_wp2
              go_roundg k1
              case measure => have := HX.out; omega
              case rel => exact ⟨x + 1, s1, by rw [wsucc' HX.out.1 (by have := HXX.out; have := HL.out; omega)], ⟨by have := HX.out; have := HXX.out; omega⟩, by rw [show (x + 1).toNat = x.toNat + 1 by have := HX.out; omega]; exact H1, HR1, HT1, HL1, HI1, HK1⟩
        · have cx : decide (x < (left.length : Int)) = false := decide_eq_false hx
          have h := HH.out
          rw [List.drop_eq_nil_of_le (by omega)] at h
          unfold fillL at h
          obtain rfl := Option.some.inj h
          clear h hx
          go_wp2
          go_ret
          exact ⟨rfl, HI1.out.1, HK1.out⟩
theorem fill_calls {σ : Type} {f : FuncId} {cap : Array Value} {Inv : σ → World → Prop} {step : σ → List Int → σ × Bool} {live : σ → Prop} {B R T L len sh : Nat} (hRT : R ≠ T) (hRL : R ≠ L) (hTL : T ≠ L) (hBR : B ≤ R) (hBL : B ≤ L) (hC0 : Clos Try.prog B R T L f cap Inv step len live) {told : List Int} (hz : ∀ j : Nat, rd told j = 0) (htl : told.length = len) (hsh : sh ≤ 1) (hlen : len ≤ 100) :
    ∀ (k : Nat) (row left : List Int) (s : σ) (w : World) (r : σ × Bool), row.length = len → left.length ≤ 100 → (∀ x ∈ left, 0 ≤ x ∧ x ≤ 100) → Blk w R row → Blk w T told → Blk w L left → Inv s w → live s → B ≤ w.heap.size → fillF sh step k row left s = some r →
    Calls Try.prog 96 #[.slice (some ⟨R, 0, none⟩) len len, .slice (some ⟨T, 0, none⟩) len len, .slice (some ⟨L, 0, none⟩) left.length left.length, .int .i64 (sh : Int), .func (.func f) #[] cap] w fun e w' => e = .returned (.bool r.2) ∧ Inv r.1 w' ∧ KeepW B R T L w w' := by
  intro k
  induction k with
  | zero => intro row left s w r _ _ _ _ _ _ _ _ _ h; simp [fillF] at h
  | succ k ih => exact fill_step hRT hRL hTL hBR hBL hC0 hz htl hsh hlen k ⟨ih⟩
end Go.Proofs.Ytkffdloophagaaa.Search
