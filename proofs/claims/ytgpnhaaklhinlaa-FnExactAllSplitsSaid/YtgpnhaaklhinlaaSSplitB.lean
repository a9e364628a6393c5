/- Rows of bools that are made. Conditions: none but those that each lemma states. -/
import Derived.Test.YtgpnhaaklhinlaaSMake
namespace Go.Proofs.Ytgpnhaaklhinlaa.Search
open Go.RowKit Go.Proofs.YtgpnhaaklhinlaaW.PrintWords Go.Proofs.YtgpnhaaklhinlaaW.PrintLast Go.Proofs.YtgpnhaaklhinlaaW.PrintMore
set_option linter.unusedVariables false
set_option linter.unusedSimpArgs false
theorem infoBool : (Try.prog.info? 4).map (fun i => (i.zero, i.size, i.bytes)) = some (some (.bool false), 1, 1) := by kernel_rfl
theorem made_false (n : Nat) : madeCells (Value.bool false).cells (n * 1) = Array.replicate n (Value.bool false) := by
  apply Array.ext
  · simp [madeCells]
  · intro i h1 h2
    have h3 : i % 1 = 0 := by omega
    simp [madeCells, Value.cells, h3]
theorem mk_bools (n : Nat) (h1 : n ≤ 100) (w : World) : (Instr.makeSlice 68 (.int .i64 (n : Int)) (.int .i64 (n : Int))).run Try.prog w = .ok (.slice (some ⟨w.heap.size, 0, none⟩) n n) (w.alloc (.cells (Array.replicate n (Value.bool false)) 4 (0, 0))) := by
  have e := infoBool
  cases hq : Try.prog.info? 4 with
  | none => simp [hq] at e
  | some i =>
    simp [hq] at e
    rw [run_make (P := Try.prog) (w := w) 68 4 i (.bool false) Try.underlying68 hq e.1 .i64 .i64 n n (by omega) (Int.le_refl _) (by rw [e.2.2]; omega) (by omega), e.2.1, Int.toNat_natCast, made_false]
end Go.Proofs.Ytgpnhaaklhinlaa.Search
