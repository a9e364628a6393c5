/- Counting the rows that a search finds. Conditions: none but those that each lemma states. -/
import Derived.Test.YtkffdloophagaaaSRows
namespace Go.Proofs.Ytkffdloophagaaa.Search
open Go.RowKit Go.Proofs.YtkffdloophagaaaW.PrintWords Go.Proofs.YtkffdloophagaaaW.PrintLast Go.Proofs.YtkffdloophagaaaW.PrintMore
set_option linter.unusedVariables false
set_option linter.unusedSimpArgs false
/-- A variable of a whole number that function values hold. -/
def Var (w : World) (C : Nat) (s : Int) : Prop := w.heap[C]? = some (.cells #[.int .i64 s] 3 (0, 0))
theorem heap_alloc3_new (w : World) (A B C : Obj) : (((w.alloc A).alloc B).alloc C).heap[w.heap.size + 2]? = some C := by
  have h := heap_alloc_new ((w.alloc A).alloc B) C
  have e : ((w.alloc A).alloc B).heap.size = w.heap.size + 2 := by rw [size_alloc, size_alloc]
  rw [e] at h
  exact h
theorem Var.cell {w : World} {C : Nat} {s : Int} (h : Var w C s) : w.cell? ⟨C, 0, none⟩ = some (.int .i64 s) := by
  rw [cell_of_row w C 0 _ 3 (0, 0) h]
  rfl
theorem Var.free {w : World} {C : Nat} {s : Int} (h : Var w C s) : w.frozen? ⟨C, 0, none⟩ = false := frozen_of_row w C 0 _ 3 h
theorem Var.set {w : World} {C : Nat} {s : Int} (h : Var w C s) (x : Int) : Var (w.setCell ⟨C, 0, none⟩ (.int .i64 x)) C x := by
  unfold Var
  rw [heap_setCell_same w C 0 _ 3 _ h]
  rfl
theorem Var.lt {w : World} {C : Nat} {s : Int} (h : Var w C s) : C < w.heap.size := lt_of_block h
def InvC (C R T L : Nat) (s : Int) (w : World) : Prop := (C ≠ R ∧ C ≠ T ∧ C ≠ L) ∧ Var w C s
set_option maxRecDepth 100000 in
theorem count_clos {B C R T L len : Nat} (hB : B ≤ C) : Clos Try.prog B R T L 77 #[.pointer (some ⟨C, 0, none⟩)] (InvC C R T L) (fun s _ => (wrap64 (s + 1), false)) len where
  enters := ⟨_, Try.func77, by kernel_rfl, by kernel_rfl⟩
  keeps := fun s w w' h hs hk => ⟨h.1, (hk C h.1.1 h.1.2.2 h.2.lt).trans h.2⟩
  call := fun s xs w h hR hl hw => by
    have HH := Aside0.mk h
    have hc := h.2.cell
    have hf := h.2.free
    have HB := Aside0.mk hB
    clear h hB hR hl hw
    go_enter Try.func77, Try.ntmps77
    go_wp2
    go_ret
    refine ⟨rfl, ⟨HH.out.1, HH.out.2.set _⟩, ⟨(Below.refl B w).setCell (p := ⟨C, 0, none⟩) HB.out _, heap_setCell_other _ _ _ _ (fun e => HH.out.1.1 e.symm), heap_setCell_other _ _ _ _ (fun e => HH.out.1.2.1 e.symm), heap_setCell_other _ _ _ _ (fun e => HH.out.1.2.2 e.symm)⟩⟩
def cstep (s : Int) (_ : List Int) : Int × Bool := (wrap64 (s + 1), false)
/-- The count of all rows that a search finds. -/
def countF (sh p n d : Nat) (hole : Int) : Option Int := (fillF sh cstep 40 (row0 p hole) (left0 n d) 0).map (·.1)
theorem countRows {p n d sh : Nat} {hole c : Int} {w : World} {C : Nat} (hp : p ≤ 100) (hn : n ≤ 100) (hd : d + n ≤ 100) (hsh : sh ≤ 1) (hh : hole < (p : Int)) (hC : w.heap.size ≤ C) (hc : countF sh p n d hole = some c) (W : World) (hv : Var W C 0) (hb : Below w.heap.size w W) :
    Calls Try.prog 83 #[.int .i64 (p : Int), .int .i64 (n : Int), .int .i64 (d : Int), .int .i64 (sh : Int), .int .i64 hole, .func (.func 77) #[] #[.pointer (some ⟨C, 0, none⟩)]] W fun e w' => e = .returned (.tuple #[]) ∧ Var w' C c ∧ Below w.heap.size w w' := by
  obtain ⟨r, hr, rfl⟩ := Option.map_eq_some_iff.1 hc
  have hlt := hv.lt
  refine (rows_calls (InvF := InvC C) (B := w.heap.size) 40 W hp hn hd hsh hh hb.size (fun R T L hR hT hL _ _ _ => count_clos hC) (fun R T L w' hR hT hL _ _ _ _ _ _ hbb => ⟨⟨by omega, by omega, by omega⟩, (hbb.block C hlt).trans hv⟩) hr).mono ?_
  rintro e w' ⟨rfl, ⟨R, T, L, _, _, _, hi⟩, hbb⟩
  exact ⟨rfl, hi.2, hb.trans hbb⟩
end Go.Proofs.Ytkffdloophagaaa.Search
