/-
  No cell of these rows narrows 'for every input' (looked for: loops, veiled, ifaces, maps, wideKeys, modest, calm, conditions, laid).
  DERIVED. THE GIVEN ROWS OF THIS SEAT. 5 by the template 'for every input the law returns true; each argument reads behind the call as it read before'; 0 by the template 'total and deterministic' (their statements: YteepinopcmcklaaTotals.lean).
  GIVEN WITH THE SEED: the statements are not yours to turn. If you find one false, say at which input.
  Laid BY PROGRAM, IN A SANDBOX (cutbox-rows.mjs): the forced cells as the released guide's own fill.sh prints them over the translation f7945c4b83dbb72c… (all of the seat's roots in one cut). By AI agents, Wed Nov 11 2026. No macro, syntax, notation, axiom, sorry.
-/
import Derived.Test.YteepinopcmcklaaChecked
import GoSem.Claim
import GoSem.ClaimJoined
import GoSem.ClaimMapViews
import Derived.JoinedTies
import Derived.KernelRfl
namespace Go.Proofs.Yteepinopcmcklaa
/- THE CELL 'sum', in the pinned program and in every row, IS THE sha256 OF THE DUMP (.gsa) THAT YteepinopcmcklaaProg.lean LOADS. Nothing in Lean hashes anything: it is a label: what it is worth is what the hold of that sum in a sandbox is worth. -/
noncomputable def Try.pinned : Pinned := { name := "yteepinopcmcklaa", sum := "f7945c4b83dbb72c940d9d56dc7c6157fb98558895f00c94135fc90cf28e9f30", checked := Try.checked }
namespace Rows
def none {H : Type} : Left H := { results := [], args := [] }

/-- 'laws.FnExactAreDifferences': WHATEVER THE INPUT: true; the input reads as it did. -/
def fnExactAreDifferencesSpec : ChangeSpec := { name := "fnExactAreDifferences", fn := fun _ => fun
  | [d1, d2] => { results := [.lit (.bool true)], args := [d1, d2] }
  | _ => none }
def fnExactAreDifferencesRow : OpenClaim := { program := "yteepinopcmcklaa", sum := "f7945c4b83dbb72c940d9d56dc7c6157fb98558895f00c94135fc90cf28e9f30", func := "loop.example/g01232/laws.FnExactAreDifferences", spec := "fnExactAreDifferences", apart := false }
def FnExactAreDifferencesSaid : Prop := fnExactAreDifferencesRow.holds Try.pinned (OpenSpec.ofChange fnExactAreDifferencesSpec)

/-- ITS FALSE NEIGHBOUR: 'it returns false'. Refute it at one input. -/
def fnExactAreDifferencesWrong : ChangeSpec := { name := "fnExactAreDifferences", fn := fun _ => fun
  | [d1, d2] => { results := [.lit (.bool false)], args := [d1, d2] }
  | _ => none }
def FnExactAreDifferencesWrongFalsely : Prop := fnExactAreDifferencesRow.holds Try.pinned (OpenSpec.ofChange fnExactAreDifferencesWrong)

/-- 'laws.FnExactRowOfPairs': WHATEVER THE INPUT: true; the input reads as it did. -/
def fnExactRowOfPairsSpec : ChangeSpec := { name := "fnExactRowOfPairs", fn := fun _ => fun
  | [d1, d2] => { results := [.lit (.bool true)], args := [d1, d2] }
  | _ => none }
def fnExactRowOfPairsRow : OpenClaim := { program := "yteepinopcmcklaa", sum := "f7945c4b83dbb72c940d9d56dc7c6157fb98558895f00c94135fc90cf28e9f30", func := "loop.example/g01232/laws.FnExactRowOfPairs", spec := "fnExactRowOfPairs", apart := false }
def FnExactRowOfPairsSaid : Prop := fnExactRowOfPairsRow.holds Try.pinned (OpenSpec.ofChange fnExactRowOfPairsSpec)

/-- ITS FALSE NEIGHBOUR: 'it returns false'. Refute it at one input. -/
def fnExactRowOfPairsWrong : ChangeSpec := { name := "fnExactRowOfPairs", fn := fun _ => fun
  | [d1, d2] => { results := [.lit (.bool false)], args := [d1, d2] }
  | _ => none }
def FnExactRowOfPairsWrongFalsely : Prop := fnExactRowOfPairsRow.holds Try.pinned (OpenSpec.ofChange fnExactRowOfPairsWrong)

/-- 'laws.FnExactBlocksAt': WHATEVER THE INPUT: true; the input reads as it did. -/
def fnExactBlocksAtSpec : ChangeSpec := { name := "fnExactBlocksAt", fn := fun _ => fun
  | [d1, d2] => { results := [.lit (.bool true)], args := [d1, d2] }
  | _ => none }
def fnExactBlocksAtRow : OpenClaim := { program := "yteepinopcmcklaa", sum := "f7945c4b83dbb72c940d9d56dc7c6157fb98558895f00c94135fc90cf28e9f30", func := "loop.example/g01232/laws.FnExactBlocksAt", spec := "fnExactBlocksAt", apart := false }
def FnExactBlocksAtSaid : Prop := fnExactBlocksAtRow.holds Try.pinned (OpenSpec.ofChange fnExactBlocksAtSpec)

/-- ITS FALSE NEIGHBOUR: 'it returns false'. Refute it at one input. -/
def fnExactBlocksAtWrong : ChangeSpec := { name := "fnExactBlocksAt", fn := fun _ => fun
  | [d1, d2] => { results := [.lit (.bool false)], args := [d1, d2] }
  | _ => none }
def FnExactBlocksAtWrongFalsely : Prop := fnExactBlocksAtRow.holds Try.pinned (OpenSpec.ofChange fnExactBlocksAtWrong)

/-- 'laws.FnExactFirstSystem': WHATEVER THE INPUT: true; the input reads as it did. -/
def fnExactFirstSystemSpec : ChangeSpec := { name := "fnExactFirstSystem", fn := fun _ => fun
  | [d] => { results := [.lit (.bool true)], args := [d] }
  | _ => none }
def fnExactFirstSystemRow : OpenClaim := { program := "yteepinopcmcklaa", sum := "f7945c4b83dbb72c940d9d56dc7c6157fb98558895f00c94135fc90cf28e9f30", func := "loop.example/g01232/laws.FnExactFirstSystem", spec := "fnExactFirstSystem", recurses := true, apart := false }
def FnExactFirstSystemSaid : Prop := fnExactFirstSystemRow.holds Try.pinned (OpenSpec.ofChange fnExactFirstSystemSpec)

/-- ITS FALSE NEIGHBOUR: 'it returns false'. Refute it at one input. -/
def fnExactFirstSystemWrong : ChangeSpec := { name := "fnExactFirstSystem", fn := fun _ => fun
  | [d] => { results := [.lit (.bool false)], args := [d] }
  | _ => none }
def FnExactFirstSystemWrongFalsely : Prop := fnExactFirstSystemRow.holds Try.pinned (OpenSpec.ofChange fnExactFirstSystemWrong)

/-- 'laws.FnExactCrossingPairs': WHATEVER THE INPUT: true; the input reads as it did. -/
def fnExactCrossingPairsSpec : ChangeSpec := { name := "fnExactCrossingPairs", fn := fun _ => fun
  | [d] => { results := [.lit (.bool true)], args := [d] }
  | _ => none }
def fnExactCrossingPairsRow : OpenClaim := { program := "yteepinopcmcklaa", sum := "f7945c4b83dbb72c940d9d56dc7c6157fb98558895f00c94135fc90cf28e9f30", func := "loop.example/g01232/laws.FnExactCrossingPairs", spec := "fnExactCrossingPairs", apart := false }
def FnExactCrossingPairsSaid : Prop := fnExactCrossingPairsRow.holds Try.pinned (OpenSpec.ofChange fnExactCrossingPairsSpec)

/-- ITS FALSE NEIGHBOUR: 'it returns false'. Refute it at one input. -/
def fnExactCrossingPairsWrong : ChangeSpec := { name := "fnExactCrossingPairs", fn := fun _ => fun
  | [d] => { results := [.lit (.bool false)], args := [d] }
  | _ => none }
def FnExactCrossingPairsWrongFalsely : Prop := fnExactCrossingPairsRow.holds Try.pinned (OpenSpec.ofChange fnExactCrossingPairsWrong)

/- THE SECOND FORM. 'bulk': how many values and letters a reading holds, each counted each time it is reached (what is shared counts as often as it is met; a slice's spare places count too). A statement '..UptoSaid' is the law's where the arguments, and the package variables that the reading takes, are together of bulk at most 1048576: NARROWER than '..Said'. Prove '..Said' where nothing that the law and all that it calls make is longer than what came in: it says more and counts as full. Else prove '..UptoSaid'. A law counts once. -/
mutual
def uptoBulk {H : Type} : DataW H → Nat
  | .lit (.string bytes) => bytes.length + 1
  | .lit _ => 1
  | .nil => 1
  | .ptr d => uptoBulk d + 1
  | .slice elems spare => uptoBulkAll elems + uptoBulkAll spare + 1
  | .agg parts => uptoBulkAll parts + 1
  | .iface _ d => uptoBulk d + 1
  | .map entries => uptoBulkEntries entries + 1
  | .held _ => 1
def uptoBulkAll {H : Type} : List (DataW H) → Nat
  | [] => 0
  | d :: r => uptoBulk d + uptoBulkAll r
def uptoBulkEntries {H : Type} : List (Lit × DataW H) → Nat
  | [] => 0
  | x :: r => uptoBulkEntry x + uptoBulkEntries r
def uptoBulkEntry {H : Type} : Lit × DataW H → Nat
  | (.string bytes, d) => bytes.length + uptoBulk d + 1
  | (_, d) => uptoBulk d + 1
 end
def uptoSmall : (H : Type) → List (DataW H) → Bool := fun _ ds => decide (uptoBulkAll ds ≤ 1048576)
def OpenSpec.upto (s : _root_.Go.ChangeSpec) : _root_.Go.OpenSpec := { _root_.Go.OpenSpec.ofChange s with cond := some uptoSmall }

/-- 'laws.FnExactAreDifferences', WHERE WHAT IT READS IS OF BULK AT MOST 1048576: true; the input reads as it did. -/
def fnExactAreDifferencesUptoRow : OpenClaim := { program := "yteepinopcmcklaa", sum := "f7945c4b83dbb72c940d9d56dc7c6157fb98558895f00c94135fc90cf28e9f30", func := "loop.example/g01232/laws.FnExactAreDifferences", spec := "fnExactAreDifferences", apart := false, narrowed := true }
def FnExactAreDifferencesUptoSaid : Prop := fnExactAreDifferencesUptoRow.holds Try.pinned (OpenSpec.upto fnExactAreDifferencesSpec)

/-- 'laws.FnExactRowOfPairs', WHERE WHAT IT READS IS OF BULK AT MOST 1048576: true; the input reads as it did. -/
def fnExactRowOfPairsUptoRow : OpenClaim := { program := "yteepinopcmcklaa", sum := "f7945c4b83dbb72c940d9d56dc7c6157fb98558895f00c94135fc90cf28e9f30", func := "loop.example/g01232/laws.FnExactRowOfPairs", spec := "fnExactRowOfPairs", apart := false, narrowed := true }
def FnExactRowOfPairsUptoSaid : Prop := fnExactRowOfPairsUptoRow.holds Try.pinned (OpenSpec.upto fnExactRowOfPairsSpec)

/-- 'laws.FnExactBlocksAt', WHERE WHAT IT READS IS OF BULK AT MOST 1048576: true; the input reads as it did. -/
def fnExactBlocksAtUptoRow : OpenClaim := { program := "yteepinopcmcklaa", sum := "f7945c4b83dbb72c940d9d56dc7c6157fb98558895f00c94135fc90cf28e9f30", func := "loop.example/g01232/laws.FnExactBlocksAt", spec := "fnExactBlocksAt", apart := false, narrowed := true }
def FnExactBlocksAtUptoSaid : Prop := fnExactBlocksAtUptoRow.holds Try.pinned (OpenSpec.upto fnExactBlocksAtSpec)

/-- 'laws.FnExactFirstSystem', WHERE WHAT IT READS IS OF BULK AT MOST 1048576: true; the input reads as it did. -/
def fnExactFirstSystemUptoRow : OpenClaim := { program := "yteepinopcmcklaa", sum := "f7945c4b83dbb72c940d9d56dc7c6157fb98558895f00c94135fc90cf28e9f30", func := "loop.example/g01232/laws.FnExactFirstSystem", spec := "fnExactFirstSystem", recurses := true, apart := false, narrowed := true }
def FnExactFirstSystemUptoSaid : Prop := fnExactFirstSystemUptoRow.holds Try.pinned (OpenSpec.upto fnExactFirstSystemSpec)

/-- 'laws.FnExactCrossingPairs', WHERE WHAT IT READS IS OF BULK AT MOST 1048576: true; the input reads as it did. -/
def fnExactCrossingPairsUptoRow : OpenClaim := { program := "yteepinopcmcklaa", sum := "f7945c4b83dbb72c940d9d56dc7c6157fb98558895f00c94135fc90cf28e9f30", func := "loop.example/g01232/laws.FnExactCrossingPairs", spec := "fnExactCrossingPairs", apart := false, narrowed := true }
def FnExactCrossingPairsUptoSaid : Prop := fnExactCrossingPairsUptoRow.holds Try.pinned (OpenSpec.upto fnExactCrossingPairsSpec)

end Rows
end Go.Proofs.Yteepinopcmcklaa
