/- Rows that are made. Conditions: none but those that each lemma states. -/
import Derived.Test.YtgpnhaaklhinlaaSBlk
namespace Go.Proofs.Ytgpnhaaklhinlaa.Search
open Go.RowKit Go.Proofs.YtgpnhaaklhinlaaW.PrintWords Go.Proofs.YtgpnhaaklhinlaaW.PrintLast Go.Proofs.YtgpnhaaklhinlaaW.PrintMore
set_option linter.unusedVariables false
set_option linter.unusedSimpArgs false
theorem infoInt : (Try.prog.info? 3).map (fun i => (i.zero, i.size, i.bytes)) = some (some (.int .i64 0), 1, 8) := by kernel_rfl
theorem made_zero (n : Nat) : madeCells (Value.int .i64 0).cells (n * 1) = Array.replicate n (Value.int .i64 0) := by
  apply Array.ext
  · simp [madeCells]
  · intro i h1 h2
    have h3 : i % 1 = 0 := by omega
    simp [madeCells, Value.cells, h3]
theorem mk_ints (n : Nat) (h1 : n ≤ 100) (w : World) : (Instr.makeSlice 22 (.int .i64 (n : Int)) (.int .i64 (n : Int))).run Try.prog w = .ok (.slice (some ⟨w.heap.size, 0, none⟩) n n) (w.alloc (.cells (Array.replicate n (Value.int .i64 0)) 3 (0, 0))) := by
  have e := infoInt
  cases hq : Try.prog.info? 3 with
  | none => simp [hq] at e
  | some i =>
    simp [hq] at e
    rw [run_make (P := Try.prog) (w := w) 22 3 i (.int .i64 0) Try.underlying22 hq e.1 .i64 .i64 n n (by omega) (Int.le_refl _) (by rw [e.2.2]; omega) (by omega), e.2.1, Int.toNat_natCast, made_zero]
theorem blk_new (w : World) (n : Nat) : Blk (w.alloc (.cells (Array.replicate n (Value.int .i64 0)) 3 (0, 0))) w.heap.size (List.replicate n 0) := by
  unfold Blk
  rw [heap_alloc_new, List.map_replicate]
  simp
theorem Blk.alloc {w : World} {g : Nat} {xs : List Int} (h : Blk w g xs) (o : Obj) : Blk (w.alloc o) g xs := ((below_alloc (Below.refl w.heap.size w) o).block g h.lt).trans h
theorem below_wk {B B' : Nat} {a b : World} (h : Below B' a b) (hB : B ≤ B') : Below B a b := ⟨h.os, h.tape, h.output, h.size, fun k hk => h.block k (by omega)⟩
theorem rd_zeros (p : Nat) (j : Nat) : rd (List.replicate p 0) (j : Int) = 0 := by
  simp only [rd, List.getD_eq_getElem?_getD, Int.toNat_natCast, List.getElem?_replicate]
  split <;> rfl
theorem size_alloc (w : World) (o : Obj) : (w.alloc o).heap.size = w.heap.size + 1 := by
  show (w.heap.push o).size = _
  simp
end Go.Proofs.Ytgpnhaaklhinlaa.Search
