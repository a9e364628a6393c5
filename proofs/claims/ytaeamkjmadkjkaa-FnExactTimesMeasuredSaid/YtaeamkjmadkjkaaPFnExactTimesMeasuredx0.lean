-- Written by plug.py, a program of this session, over the kit's print of the function: checked by Lean alone.
import Derived.Test.YtaeamkjmadkjkaaProg
import Derived.Below
import Derived.Deep.Draws
import Derived.Deep.AppendLies
import Derived.Maps.AppendAt
import Derived.OwnWalk
import Derived.Laws.BytesArg
import Derived.Laws.MakeOwn
import Derived.Laws.OwnMore
import Derived.Deep.OwnRows
import Derived.Tactics
import Derived.Lib.ConvBytes
import Derived.Laws.Slices
import Derived.WalkKit
import Derived.KernelRfl
import Derived.RowKit3
import Derived.Deep.LoopGhost
import Derived.Deep.QuietTactic
import Derived.BigQuiet
import Derived.WideLaws
import Derived.Deep.DeepCutAuto
import Derived.Deep.CutBlock
import Derived.Deep.RegionHeld3
import Derived.Laws.Rows
import Derived.Lib.AppendStr
import Derived.ArgAppend
import Derived.Laws.IdiomCopy
import Derived.OrdersHeld
import Derived.Laws.BitsLemmas
import Derived.RowKit
import Derived.Lib.SliceRun
import Derived.Test.YtaeamkjmadkjkaaWWords
import Derived.Test.YtaeamkjmadkjkaaWLast
import Derived.Test.YtaeamkjmadkjkaaWTab
import Derived.Test.YtaeamkjmadkjkaaWFour
import Derived.Test.YtaeamkjmadkjkaaWQPut
import Derived.Test.YtaeamkjmadkjkaaWApart
import Derived.Test.YtaeamkjmadkjkaaWArr
import Derived.Test.YtaeamkjmadkjkaaWZeros
import Derived.Test.YtaeamkjmadkjkaaWFoot
import Derived.Test.YtaeamkjmadkjkaaWKept
import Derived.Test.YtaeamkjmadkjkaaWShare
import Derived.Test.YtaeamkjmadkjkaaWN
import Derived.Test.YtaeamkjmadkjkaaWFootNe
import Derived.Test.YtaeamkjmadkjkaaWAt
import Derived.Test.YtaeamkjmadkjkaaWEqStruct
import Derived.Test.YtaeamkjmadkjkaaWRepsOne
import Derived.Test.YtaeamkjmadkjkaaWInv
import Derived.Test.YtaeamkjmadkjkaaWInvWords
import Derived.Test.YtaeamkjmadkjkaaWGuard
import Derived.Test.YtaeamkjmadkjkaaWNEv
import Derived.Test.YtaeamkjmadkjkaaWMore
namespace Go.Proofs.Ytaeamkjmadkjkaa.PFnExactTimesMeasured
open Go.RowKit Go.Proofs.YtaeamkjmadkjkaaW.PrintWords Go.Proofs.YtaeamkjmadkjkaaW.PrintLast Go.Proofs.YtaeamkjmadkjkaaW.PrintMore
attribute [local go_sem] max2_int min2_int max_two min_two max_three min_three max_four min_four   -- for this text's walks alone
set_option linter.unusedVariables false
set_option linter.unusedSimpArgs false



def errW : Option Int → Value
  | none => .nilIface
  | some c => .iface 0 (.int .i64 c)
theorem errW_none : errW none = .nilIface := rfl
theorem errW_some (c : Int) : errW (some c) = .iface 0 (.int .i64 c) := rfl

theorem info3 : (Try.prog.info? 3).map (fun i => (i.zero, i.size, i.bytes)) = some (some (.int .i64 0), 1, 8) := by kernel_rfl
-- the values' own types

end Go.Proofs.Ytaeamkjmadkjkaa.PFnExactTimesMeasured
