/- Counting the rows that bear a pair. Conditions: none but those that each lemma states. -/
import Derived.Test.YtkffdloophagaaaSCount
namespace Go.Proofs.Ytkffdloophagaaa.Search
open Go.RowKit Go.Proofs.YtkffdloophagaaaW.PrintWords Go.Proofs.YtkffdloophagaaaW.PrintLast Go.Proofs.YtkffdloophagaaaW.PrintMore
set_option linter.unusedVariables false
set_option linter.unusedSimpArgs false
def InvP (A N C R T L : Nat) (at_ num : Int) (c : Int) (w : World) : Prop :=
  (A ≠ R ∧ A ≠ L ∧ N ≠ R ∧ N ≠ L ∧ C ≠ R ∧ C ≠ T ∧ C ≠ L ∧ A ≠ C ∧ N ≠ C) ∧ Var w A at_ ∧ Var w N num ∧ Var w C c
def pstep (at_ num : Int) (c : Int) (row : List Int) : Int × Bool := (if rd row at_ = num ∧ rd row (at_ + num) = num then wrap64 (c + 1) else c, false)
theorem Var.other {w : World} {C : Nat} {s : Int} (h : Var w C s) {p : Addr} {v : Value} (hne : C ≠ p.block) : Var (w.setCell p v) C s := (heap_setCell_other w p C v hne).trans h
theorem Var.drewN {w : World} {C : Nat} {s : Int} (h : Var w C s) (n : Nat) : Var (w.drewN n) C s := h
theorem InvP.step {A N C R T L : Nat} {at_ num c x : Int} {w : World} (h : InvP A N C R T L at_ num c w) : InvP A N C R T L at_ num x (w.setCell ⟨C, 0, none⟩ (.int .i64 x)) :=
  ⟨h.1, h.2.1.other h.1.2.2.2.2.2.2.2.1, h.2.2.1.other h.1.2.2.2.2.2.2.2.2, h.2.2.2.set x⟩
set_option maxRecDepth 100000 in
set_option maxHeartbeats 4000000 in
theorem pair_clos {B A N C R T L len : Nat} {at_ num : Int} (hB : B ≤ C) (hlen : len ≤ 100) (ha : 0 ≤ at_) (hn : 1 ≤ num) (hal : at_ + num < (len : Int)) : Clos Try.prog B R T L 85 #[.pointer (some ⟨A, 0, none⟩), .pointer (some ⟨N, 0, none⟩), .pointer (some ⟨C, 0, none⟩)] (InvP A N C R T L at_ num) (pstep at_ num) len where
  enters := ⟨_, Try.func85, by kernel_rfl, by kernel_rfl⟩
  keeps := fun s w w' h hs hk => ⟨h.1, (hk A h.1.1 h.1.2.1 h.2.1.lt).trans h.2.1, (hk N h.1.2.2.1 h.1.2.2.2.1 h.2.2.1.lt).trans h.2.2.1, (hk C h.1.2.2.2.2.1 h.1.2.2.2.2.2.2.1 h.2.2.2.lt).trans h.2.2.2⟩
  call := fun s xs w h hR hl hw => by
    subst hl
    obtain ⟨q, hq⟩ : ∃ q, q = at_ + num := ⟨_, rfl⟩
    have HQ := Aside0.mk hq
    have HI := Aside0.mk h
    have HB := Aside0.mk hB
    have cA := h.2.1.cell
    have cN := h.2.2.1.cell
    have cC := h.2.2.2.cell
    have fC := h.2.2.2.free
    have e1 : ((at_.toNat : Nat) : Int) = at_ := Int.toNat_of_nonneg ha
    have e2 : ((q.toNat : Nat) : Int) = q := Int.toNat_of_nonneg (by omega)
    have r1 := hR.cell (i := at_.toNat) (by omega)
    have r2 := hR.cell (i := q.toNat) (by omega)
    rw [e1] at r1
    rw [e2] at r2
    have p1 : (0 ≤ at_) = True := eq_true ha
    have q1 : (at_ < (xs.length : Int)) = True := eq_true (by omega)
    have p2 : (0 ≤ q) = True := eq_true (by omega)
    have q2 : (q < (xs.length : Int)) = True := eq_true (by omega)
    have hwq : wrap64 (at_ + num) = q := by unfold wrap64; omega
    by_cases c1 : rd xs at_ = num
    · have b1 : (rd xs at_ == num) = true := beq_iff_eq.2 c1
      by_cases c2 : rd xs q = num
      · have b2 : (rd xs q == num) = true := beq_iff_eq.2 c2
        have es : pstep at_ num s xs = (wrap64 (s + 1), false) := by unfold pstep; rw [← hq, if_pos ⟨c1, c2⟩]
        have ES := Aside0.mk es
        clear h hB hR hw hq e1 e2 c1 c2 es ha hn hal hlen
        go_enter Try.func85, Try.ntmps85
        go_wp2
        go_quiet (fail)
        (try simp only [Exit.inBlock, Exit.then])
        go_wp2
        go_ret
        rw [ES.out]
        exact ⟨rfl, InvP.step (w := w.drewN nq) (C := C) ⟨HI.out.1, HI.out.2.1, HI.out.2.2.1, HI.out.2.2.2⟩, ⟨(pw_below_drewN (Below.refl B w) nq).setCell (p := ⟨C, 0, none⟩) HB.out _, heap_setCell_other _ _ _ _ (fun e => HI.out.1.2.2.2.2.1 e.symm), heap_setCell_other _ _ _ _ (fun e => HI.out.1.2.2.2.2.2.1 e.symm), heap_setCell_other _ _ _ _ (fun e => HI.out.1.2.2.2.2.2.2.1 e.symm)⟩⟩
      · have b2 : (rd xs q == num) = false := beq_eq_false_iff_ne.2 c2
        have es : pstep at_ num s xs = (s, false) := by unfold pstep; rw [← hq, if_neg (fun g => c2 g.2)]
        have ES := Aside0.mk es
        clear h hB hR hw hq e1 e2 c1 c2 es ha hn hal hlen
        go_enter Try.func85, Try.ntmps85
        go_wp2
        go_quiet (fail)
        (try simp only [Exit.inBlock, Exit.then])
        go_wp2
        go_ret
        rw [ES.out]
        exact ⟨rfl, HI.out, ⟨pw_below_drewN (Below.refl B w) nq, rfl, rfl, rfl⟩⟩
    · have b1 : (rd xs at_ == num) = false := beq_eq_false_iff_ne.2 c1
      have es : pstep at_ num s xs = (s, false) := by unfold pstep; rw [if_neg (fun g => c1 g.1)]
      have ES := Aside0.mk es
      clear h hB hR hw hq e1 e2 c1 es ha hn hal hlen
      go_enter Try.func85, Try.ntmps85
      go_wp2
      go_quiet (fail)
      (try simp only [Exit.inBlock, Exit.then])
      go_wp2
      go_ret
      rw [ES.out]
      exact ⟨rfl, HI.out, ⟨pw_below_drewN (Below.refl B w) nq, rfl, rfl, rfl⟩⟩
/-- The count of the rows that bear a pair. -/
def pairF (p n : Nat) (at_ num : Int) : Option Int := (fillF 0 (pstep at_ num) 40 (row0 p (-1)) (left0 n 1) 0).map (·.1)
theorem pairRows {p n : Nat} {at_ num c : Int} {w : World} {A N C : Nat} (hp : p ≤ 100) (hn : n ≤ 90) (ha : 0 ≤ at_) (hnum : 1 ≤ num) (hal : at_ + num < (p : Int)) (hC : w.heap.size ≤ C) (hAC : A ≠ C ∧ N ≠ C) (hc : pairF p n at_ num = some c) (W : World) (vA : Var W A at_) (vN : Var W N num) (hv : Var W C 0) (hb : Below w.heap.size w W) :
    Calls Try.prog 83 #[.int .i64 (p : Int), .int .i64 (n : Int), .int .i64 ((1 : Nat) : Int), .int .i64 ((0 : Nat) : Int), .int .i64 (-1), .func (.func 85) #[] #[.pointer (some ⟨A, 0, none⟩), .pointer (some ⟨N, 0, none⟩), .pointer (some ⟨C, 0, none⟩)]] W fun e w' => e = .returned (.tuple #[]) ∧ Var w' C c ∧ Below w.heap.size w w' := by
  obtain ⟨r, hr, rfl⟩ := Option.map_eq_some_iff.1 hc
  have lA := vA.lt
  have lN := vN.lt
  have lC := hv.lt
  refine (rows_calls (InvF := fun R T L => InvP A N C R T L at_ num) (B := w.heap.size) 40 W hp (by omega) (by omega) (by omega) (by omega) hb.size (fun R T L hR hT hL _ _ _ => pair_clos hC hp ha hnum hal) (fun R T L w' hR hT hL _ _ _ _ _ _ hbb => ⟨⟨by omega, by omega, by omega, by omega, by omega, by omega, by omega, hAC.1, hAC.2⟩, (hbb.block A lA).trans vA, (hbb.block N lN).trans vN, (hbb.block C lC).trans hv⟩) hr).mono ?_
  rintro e w' ⟨rfl, ⟨R, T, L, _, _, _, hi⟩, hbb⟩
  exact ⟨rfl, hi.2.2.2, hb.trans hbb⟩
end Go.Proofs.Ytkffdloophagaaa.Search
