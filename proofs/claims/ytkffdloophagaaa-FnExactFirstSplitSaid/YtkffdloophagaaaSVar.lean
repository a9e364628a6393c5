/- Variables that function values hold. Conditions: none but those that each lemma states. -/
import Derived.Test.YtkffdloophagaaaSRows
namespace Go.Proofs.Ytkffdloophagaaa.Search
open Go.RowKit Go.Proofs.YtkffdloophagaaaW.PrintWords Go.Proofs.YtkffdloophagaaaW.PrintLast Go.Proofs.YtkffdloophagaaaW.PrintMore
set_option linter.unusedVariables false
set_option linter.unusedSimpArgs false
/-- A variable of a whole number that function values hold. -/
def Var (w : World) (C : Nat) (s : Int) : Prop := w.heap[C]? = some (.cells #[.int .i64 s] 3 (0, 0))
theorem heap_alloc3_new (w : World) (A B C : Obj) : (((w.alloc A).alloc B).alloc C).heap[w.heap.size + 2]? = some C := by
  have h := heap_alloc_new ((w.alloc A).alloc B) C
  have e : ((w.alloc A).alloc B).heap.size = w.heap.size + 2 := by rw [size_alloc, size_alloc]
  rw [e] at h
  exact h
theorem heap_alloc4_new (w : World) (A B C D : Obj) : ((((w.alloc A).alloc B).alloc C).alloc D).heap[w.heap.size + 3]? = some D := by
  have h := heap_alloc_new (((w.alloc A).alloc B).alloc C) D
  have e : (((w.alloc A).alloc B).alloc C).heap.size = w.heap.size + 3 := by rw [size_alloc, size_alloc, size_alloc]
  rw [e] at h
  exact h
theorem Var.cell {w : World} {C : Nat} {s : Int} (h : Var w C s) : w.cell? ⟨C, 0, none⟩ = some (.int .i64 s) := by
  rw [cell_of_row w C 0 _ 3 (0, 0) h]
  rfl
theorem Var.free {w : World} {C : Nat} {s : Int} (h : Var w C s) : w.frozen? ⟨C, 0, none⟩ = false := frozen_of_row w C 0 _ 3 h
theorem Var.set {w : World} {C : Nat} {s : Int} (h : Var w C s) (x : Int) : Var (w.setCell ⟨C, 0, none⟩ (.int .i64 x)) C x := by
  unfold Var
  rw [heap_setCell_same w C 0 _ 3 _ h]
  rfl
theorem Var.lt {w : World} {C : Nat} {s : Int} (h : Var w C s) : C < w.heap.size := lt_of_block h
/-- A variable of a slice that function values hold; ok: where its rows may lie. -/
def VarS (w : World) (C : Nat) (v : Value) : Prop := w.heap[C]? = some (.cells #[v] 29 (0, 0))
theorem VarS.cell {w : World} {C : Nat} {v : Value} (h : VarS w C v) : w.cell? ⟨C, 0, none⟩ = some v := by
  rw [cell_of_row w C 0 _ 29 (0, 0) h]
  rfl
theorem VarS.free {w : World} {C : Nat} {v : Value} (h : VarS w C v) : w.frozen? ⟨C, 0, none⟩ = false := frozen_of_row w C 0 _ 29 h
theorem VarS.set {w : World} {C : Nat} {v : Value} (h : VarS w C v) (x : Value) : VarS (w.setCell ⟨C, 0, none⟩ x) C x := by
  unfold VarS
  rw [heap_setCell_same w C 0 _ 29 _ h]
  rfl
theorem VarS.lt {w : World} {C : Nat} {v : Value} (h : VarS w C v) : C < w.heap.size := lt_of_block h
theorem VarS.below {w w1 : World} {C : Nat} {v : Value} (h : VarS w C v) (hb : Below w.heap.size w w1) : VarS w1 C v := (hb.block C h.lt).trans h
def cstep (s : Int) (_ : List Int) : Int × Bool := (wrap64 (s + 1), false)
/-- The count of all rows that a search finds. -/
def countF (sh p n d : Nat) (hole : Int) : Option Int := (fillF sh cstep 40 (row0 p hole) (left0 n d) 0).map (·.1)
def fstep (_ : List Int) (xs : List Int) : List Int × Bool := (xs, true)
end Go.Proofs.Ytkffdloophagaaa.Search
