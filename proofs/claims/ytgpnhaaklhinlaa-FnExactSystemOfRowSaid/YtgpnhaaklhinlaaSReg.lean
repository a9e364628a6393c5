/- Steps through a region that draws, told shortly (defaults fill what the print writes out each time). Conditions: none but those that each lemma states. -/
import Derived.Test.YtgpnhaaklhinlaaWTab
import Derived.Test.YtgpnhaaklhinlaaWMore
import Derived.KernelRfl
namespace Go.RowKit
open Go.Proofs.YtgpnhaaklhinlaaW.PrintWords Go.Proofs.YtgpnhaaklhinlaaW.PrintLast
set_option linter.unusedVariables false
/-- The first n bits of b. -/
def mb (n b : Nat) : Array Bool := ((List.range n).map fun j => b.testBit j).toArray
variable {P : Program} {ops : Array Oper} {Q : Exit → Act → World → Prop} {md : Region.Mode} {S : World → Prop} {ds : List Nat} {T : Bool × List (List Nat × List Nat)}
/-- pure_ where the value is wanted. -/
theorem pureV (i n m b : Nat) {oi : Oper} {v : Value} {fuel : Nat} {l : Array Bool} {a a' : Act} {w : World} (HT : Aside0 (rtab md ops = T))
    (h : wpAnyLast P md ops Q S ds fuel (mb m b) a' w) (hi : ops[i]? = some oi := by exact rfl) (hN : oi.dst = some n := by exact rfl)
    (hc : anyT T l.toList (mb m b).toList i = true := by kernel_rfl) (hQ : ∀ c a w, Q (.panic c) (a.put oi.dst v) w → Q (.panic c) a w := by exact fun _ _ _ h => h)
    (hr : Region.wanted oi (yielded ops a.tmps) = true := by rfl) (hv : ∀ w, (execOp a.eval oi).run P w = .ok (.value v) w := by intro w'; go_simp; with_reducible rfl)
    (ha : a.put (some n) v = a' := by simp only [Act.put, List.setIfInBounds_toArray, List.set_cons_zero, List.set_cons_succ, i64_w, i32_w]; rfl) :
    wpAnyLast P md ops Q S ds (fuel + 1) l a w := pure_ (mb m b) hi hN (any_of HT.out hc) hQ (Or.inl ⟨hr, hv⟩) ha h
/-- pure_ where the value is not wanted. -/
theorem pureU (i n m b : Nat) {oi : Oper} {fuel : Nat} {l : Array Bool} {a a' : Act} {w : World} (HT : Aside0 (rtab md ops = T))
    (h : wpAnyLast P md ops Q S ds fuel (mb m b) a' w) (hi : ops[i]? = some oi := by exact rfl) (hN : oi.dst = some n := by exact rfl)
    (hc : anyT T l.toList (mb m b).toList i = true := by kernel_rfl) (hQ : ∀ c a w, Q (.panic c) (a.put oi.dst undef) w → Q (.panic c) a w := by exact fun _ _ _ h => h)
    (hr : Region.wanted oi (yielded ops a.tmps) = false := by rfl)
    (ha : a.put (some n) undef = a' := by simp only [Act.put, List.setIfInBounds_toArray, List.set_cons_zero, List.set_cons_succ, i64_w, i32_w]; rfl) :
    wpAnyLast P md ops Q S ds (fuel + 1) l a w := pure_ (mb m b) hi hN (any_of HT.out hc) hQ (Or.inr ⟨hr, rfl⟩) ha h
/-- take_ : the value's own equation is left to the caller. -/
theorem takeV (i n m b : Nat) {B : List Nat} {oi : Oper} {v : Value} {fuel : Nat} {l : Array Bool} {a a' : Act} {w : World} (HT : Aside0 (rtab md ops = T)) (HW : Aside0 (waitsOk T.2 B = true)) (hS : S w)
    (hi : ops[i]? = some oi) (hv : ∀ w, S w → (execOp a.eval oi).run P w = .ok (.value v) w) (h : wpAnyLast P md ops Q S ds fuel (mb m b) a' w) (hN : oi.dst = some n := by exact rfl)
    (hc : takeW T B ds l.toList (mb m b).toList i = true := by kernel_rfl) (hQ : ∀ c a w, Q (.panic c) (a.put oi.dst v) w → Q (.panic c) a w := by exact fun _ _ _ h => h)
    (hr : Region.wanted oi (yielded ops a.tmps) = true := by rfl)
    (ha : a.put (some n) v = a' := by simp only [Act.put, List.setIfInBounds_toArray, List.set_cons_zero, List.set_cons_succ, i64_w, i32_w]; rfl) :
    wpAnyLast P md ops Q S ds (fuel + 1) l a w := take_ (mb m b) hi hN (take_ofW HT.out HW.out hc) hQ (Or.inl ⟨hr, hv⟩) hS ha h
end Go.RowKit
