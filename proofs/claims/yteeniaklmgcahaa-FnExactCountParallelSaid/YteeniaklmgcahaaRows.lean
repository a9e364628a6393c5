/-
  No cell of these rows narrows 'for every input' (looked for: loops, veiled, ifaces, maps, wideKeys, modest, calm, conditions, laid).
  DERIVED. THE GIVEN ROWS OF THIS SEAT. 12 by the template 'for every input the law returns true; each argument reads behind the call as it read before'; 0 by the template 'total and deterministic' (their statements: YteeniaklmgcahaaTotals.lean).
  GIVEN WITH THE SEED: the statements are not yours to turn. If you find one false, say at which input.
  Laid BY PROGRAM, IN A SANDBOX (cutbox-rows.mjs): the forced cells as the released guide's own fill.sh prints them over the translation 2abf08c4e9064841… (all of the seat's roots in one cut). By AI agents, Wed Nov 11 2026. No macro, syntax, notation, axiom, sorry.
-/
import Derived.Test.YteeniaklmgcahaaChecked
import GoSem.Claim
import GoSem.ClaimJoined
import GoSem.ClaimMapViews
import Derived.JoinedTies
import Derived.KernelRfl
namespace Go.Proofs.Yteeniaklmgcahaa
/- THE CELL 'sum', in the pinned program and in every row, IS THE sha256 OF THE DUMP (.gsa) THAT YteeniaklmgcahaaProg.lean LOADS. Nothing in Lean hashes anything: it is a label: what it is worth is what the hold of that sum in a sandbox is worth. -/
noncomputable def Try.pinned : Pinned := { name := "yteeniaklmgcahaa", sum := "2abf08c4e90648417fb36cbfa47bf560dd7a6e035f71b3a469984cab1d1e444f", checked := Try.checked }
namespace Rows
def none {H : Type} : Left H := { results := [], args := [] }

/-- 'laws.FnExactMeasureWith': WHATEVER THE INPUT: true; the input reads as it did. -/
def fnExactMeasureWithSpec : ChangeSpec := { name := "fnExactMeasureWith", fn := fun _ => fun
  | [d1, d2] => { results := [.lit (.bool true)], args := [d1, d2] }
  | _ => none }
def fnExactMeasureWithRow : OpenClaim := { program := "yteeniaklmgcahaa", sum := "2abf08c4e90648417fb36cbfa47bf560dd7a6e035f71b3a469984cab1d1e444f", func := "loop.example/g01232/laws.FnExactMeasureWith", spec := "fnExactMeasureWith", apart := false }
def FnExactMeasureWithSaid : Prop := fnExactMeasureWithRow.holds Try.pinned (OpenSpec.ofChange fnExactMeasureWithSpec)

/-- ITS FALSE NEIGHBOUR: 'it returns false'. Refute it at one input. -/
def fnExactMeasureWithWrong : ChangeSpec := { name := "fnExactMeasureWith", fn := fun _ => fun
  | [d1, d2] => { results := [.lit (.bool false)], args := [d1, d2] }
  | _ => none }
def FnExactMeasureWithWrongFalsely : Prop := fnExactMeasureWithRow.holds Try.pinned (OpenSpec.ofChange fnExactMeasureWithWrong)

/-- 'laws.FnExactBackRow': WHATEVER THE INPUT: true; the input reads as it did. -/
def fnExactBackRowSpec : ChangeSpec := { name := "fnExactBackRow", fn := fun _ => fun
  | [d] => { results := [.lit (.bool true)], args := [d] }
  | _ => none }
def fnExactBackRowRow : OpenClaim := { program := "yteeniaklmgcahaa", sum := "2abf08c4e90648417fb36cbfa47bf560dd7a6e035f71b3a469984cab1d1e444f", func := "loop.example/g01232/laws.FnExactBackRow", spec := "fnExactBackRow", apart := false }
def FnExactBackRowSaid : Prop := fnExactBackRowRow.holds Try.pinned (OpenSpec.ofChange fnExactBackRowSpec)

/-- ITS FALSE NEIGHBOUR: 'it returns false'. Refute it at one input. -/
def fnExactBackRowWrong : ChangeSpec := { name := "fnExactBackRow", fn := fun _ => fun
  | [d] => { results := [.lit (.bool false)], args := [d] }
  | _ => none }
def FnExactBackRowWrongFalsely : Prop := fnExactBackRowRow.holds Try.pinned (OpenSpec.ofChange fnExactBackRowWrong)

/-- 'laws.FnExactIsDifferent': WHATEVER THE INPUT: true; the input reads as it did. -/
def fnExactIsDifferentSpec : ChangeSpec := { name := "fnExactIsDifferent", fn := fun _ => fun
  | [d] => { results := [.lit (.bool true)], args := [d] }
  | _ => none }
def fnExactIsDifferentRow : OpenClaim := { program := "yteeniaklmgcahaa", sum := "2abf08c4e90648417fb36cbfa47bf560dd7a6e035f71b3a469984cab1d1e444f", func := "loop.example/g01232/laws.FnExactIsDifferent", spec := "fnExactIsDifferent", apart := false }
def FnExactIsDifferentSaid : Prop := fnExactIsDifferentRow.holds Try.pinned (OpenSpec.ofChange fnExactIsDifferentSpec)

/-- ITS FALSE NEIGHBOUR: 'it returns false'. Refute it at one input. -/
def fnExactIsDifferentWrong : ChangeSpec := { name := "fnExactIsDifferent", fn := fun _ => fun
  | [d] => { results := [.lit (.bool false)], args := [d] }
  | _ => none }
def FnExactIsDifferentWrongFalsely : Prop := fnExactIsDifferentRow.holds Try.pinned (OpenSpec.ofChange fnExactIsDifferentWrong)

/-- 'laws.FnExactRaiseRow': WHATEVER THE INPUT: true; the input reads as it did. -/
def fnExactRaiseRowSpec : ChangeSpec := { name := "fnExactRaiseRow", fn := fun _ => fun
  | [d1, d2] => { results := [.lit (.bool true)], args := [d1, d2] }
  | _ => none }
def fnExactRaiseRowRow : OpenClaim := { program := "yteeniaklmgcahaa", sum := "2abf08c4e90648417fb36cbfa47bf560dd7a6e035f71b3a469984cab1d1e444f", func := "loop.example/g01232/laws.FnExactRaiseRow", spec := "fnExactRaiseRow", apart := false }
def FnExactRaiseRowSaid : Prop := fnExactRaiseRowRow.holds Try.pinned (OpenSpec.ofChange fnExactRaiseRowSpec)

/-- ITS FALSE NEIGHBOUR: 'it returns false'. Refute it at one input. -/
def fnExactRaiseRowWrong : ChangeSpec := { name := "fnExactRaiseRow", fn := fun _ => fun
  | [d1, d2] => { results := [.lit (.bool false)], args := [d1, d2] }
  | _ => none }
def FnExactRaiseRowWrongFalsely : Prop := fnExactRaiseRowRow.holds Try.pinned (OpenSpec.ofChange fnExactRaiseRowWrong)

/-- 'laws.FnExactRowOfPairs': WHATEVER THE INPUT: true; the input reads as it did. -/
def fnExactRowOfPairsSpec : ChangeSpec := { name := "fnExactRowOfPairs", fn := fun _ => fun
  | [d1, d2] => { results := [.lit (.bool true)], args := [d1, d2] }
  | _ => none }
def fnExactRowOfPairsRow : OpenClaim := { program := "yteeniaklmgcahaa", sum := "2abf08c4e90648417fb36cbfa47bf560dd7a6e035f71b3a469984cab1d1e444f", func := "loop.example/g01232/laws.FnExactRowOfPairs", spec := "fnExactRowOfPairs", apart := false }
def FnExactRowOfPairsSaid : Prop := fnExactRowOfPairsRow.holds Try.pinned (OpenSpec.ofChange fnExactRowOfPairsSpec)

/-- ITS FALSE NEIGHBOUR: 'it returns false'. Refute it at one input. -/
def fnExactRowOfPairsWrong : ChangeSpec := { name := "fnExactRowOfPairs", fn := fun _ => fun
  | [d1, d2] => { results := [.lit (.bool false)], args := [d1, d2] }
  | _ => none }
def FnExactRowOfPairsWrongFalsely : Prop := fnExactRowOfPairsRow.holds Try.pinned (OpenSpec.ofChange fnExactRowOfPairsWrong)

/-- 'laws.FnExactBlocksAt': WHATEVER THE INPUT: true; the input reads as it did. -/
def fnExactBlocksAtSpec : ChangeSpec := { name := "fnExactBlocksAt", fn := fun _ => fun
  | [d1, d2] => { results := [.lit (.bool true)], args := [d1, d2] }
  | _ => none }
def fnExactBlocksAtRow : OpenClaim := { program := "yteeniaklmgcahaa", sum := "2abf08c4e90648417fb36cbfa47bf560dd7a6e035f71b3a469984cab1d1e444f", func := "loop.example/g01232/laws.FnExactBlocksAt", spec := "fnExactBlocksAt", apart := false }
def FnExactBlocksAtSaid : Prop := fnExactBlocksAtRow.holds Try.pinned (OpenSpec.ofChange fnExactBlocksAtSpec)

/-- ITS FALSE NEIGHBOUR: 'it returns false'. Refute it at one input. -/
def fnExactBlocksAtWrong : ChangeSpec := { name := "fnExactBlocksAt", fn := fun _ => fun
  | [d1, d2] => { results := [.lit (.bool false)], args := [d1, d2] }
  | _ => none }
def FnExactBlocksAtWrongFalsely : Prop := fnExactBlocksAtRow.holds Try.pinned (OpenSpec.ofChange fnExactBlocksAtWrong)

/-- 'laws.FnExactFirstSystem': WHATEVER THE INPUT: true; the input reads as it did. -/
def fnExactFirstSystemSpec : ChangeSpec := { name := "fnExactFirstSystem", fn := fun _ => fun
  | [d] => { results := [.lit (.bool true)], args := [d] }
  | _ => none }
def fnExactFirstSystemRow : OpenClaim := { program := "yteeniaklmgcahaa", sum := "2abf08c4e90648417fb36cbfa47bf560dd7a6e035f71b3a469984cab1d1e444f", func := "loop.example/g01232/laws.FnExactFirstSystem", spec := "fnExactFirstSystem", recurses := true, apart := false }
def FnExactFirstSystemSaid : Prop := fnExactFirstSystemRow.holds Try.pinned (OpenSpec.ofChange fnExactFirstSystemSpec)

/-- ITS FALSE NEIGHBOUR: 'it returns false'. Refute it at one input. -/
def fnExactFirstSystemWrong : ChangeSpec := { name := "fnExactFirstSystem", fn := fun _ => fun
  | [d] => { results := [.lit (.bool false)], args := [d] }
  | _ => none }
def FnExactFirstSystemWrongFalsely : Prop := fnExactFirstSystemRow.holds Try.pinned (OpenSpec.ofChange fnExactFirstSystemWrong)

/-- 'laws.FnExactAreTripleSystem': WHATEVER THE INPUT: true; the input reads as it did. -/
def fnExactAreTripleSystemSpec : ChangeSpec := { name := "fnExactAreTripleSystem", fn := fun _ => fun
  | [d1, d2] => { results := [.lit (.bool true)], args := [d1, d2] }
  | _ => none }
def fnExactAreTripleSystemRow : OpenClaim := { program := "yteeniaklmgcahaa", sum := "2abf08c4e90648417fb36cbfa47bf560dd7a6e035f71b3a469984cab1d1e444f", func := "loop.example/g01232/laws.FnExactAreTripleSystem", spec := "fnExactAreTripleSystem", apart := false }
def FnExactAreTripleSystemSaid : Prop := fnExactAreTripleSystemRow.holds Try.pinned (OpenSpec.ofChange fnExactAreTripleSystemSpec)

/-- ITS FALSE NEIGHBOUR: 'it returns false'. Refute it at one input. -/
def fnExactAreTripleSystemWrong : ChangeSpec := { name := "fnExactAreTripleSystem", fn := fun _ => fun
  | [d1, d2] => { results := [.lit (.bool false)], args := [d1, d2] }
  | _ => none }
def FnExactAreTripleSystemWrongFalsely : Prop := fnExactAreTripleSystemRow.holds Try.pinned (OpenSpec.ofChange fnExactAreTripleSystemWrong)

/-- 'laws.FnExactAreSplits': WHATEVER THE INPUT: true; the input reads as it did. -/
def fnExactAreSplitsSpec : ChangeSpec := { name := "fnExactAreSplits", fn := fun _ => fun
  | [d1, d2] => { results := [.lit (.bool true)], args := [d1, d2] }
  | _ => none }
def fnExactAreSplitsRow : OpenClaim := { program := "yteeniaklmgcahaa", sum := "2abf08c4e90648417fb36cbfa47bf560dd7a6e035f71b3a469984cab1d1e444f", func := "loop.example/g01232/laws.FnExactAreSplits", spec := "fnExactAreSplits", apart := false }
def FnExactAreSplitsSaid : Prop := fnExactAreSplitsRow.holds Try.pinned (OpenSpec.ofChange fnExactAreSplitsSpec)

/-- ITS FALSE NEIGHBOUR: 'it returns false'. Refute it at one input. -/
def fnExactAreSplitsWrong : ChangeSpec := { name := "fnExactAreSplits", fn := fun _ => fun
  | [d1, d2] => { results := [.lit (.bool false)], args := [d1, d2] }
  | _ => none }
def FnExactAreSplitsWrongFalsely : Prop := fnExactAreSplitsRow.holds Try.pinned (OpenSpec.ofChange fnExactAreSplitsWrong)

/-- 'laws.FnExactAreDifferences': WHATEVER THE INPUT: true; the input reads as it did. -/
def fnExactAreDifferencesSpec : ChangeSpec := { name := "fnExactAreDifferences", fn := fun _ => fun
  | [d1, d2] => { results := [.lit (.bool true)], args := [d1, d2] }
  | _ => none }
def fnExactAreDifferencesRow : OpenClaim := { program := "yteeniaklmgcahaa", sum := "2abf08c4e90648417fb36cbfa47bf560dd7a6e035f71b3a469984cab1d1e444f", func := "loop.example/g01232/laws.FnExactAreDifferences", spec := "fnExactAreDifferences", apart := false }
def FnExactAreDifferencesSaid : Prop := fnExactAreDifferencesRow.holds Try.pinned (OpenSpec.ofChange fnExactAreDifferencesSpec)

/-- ITS FALSE NEIGHBOUR: 'it returns false'. Refute it at one input. -/
def fnExactAreDifferencesWrong : ChangeSpec := { name := "fnExactAreDifferences", fn := fun _ => fun
  | [d1, d2] => { results := [.lit (.bool false)], args := [d1, d2] }
  | _ => none }
def FnExactAreDifferencesWrongFalsely : Prop := fnExactAreDifferencesRow.holds Try.pinned (OpenSpec.ofChange fnExactAreDifferencesWrong)

/-- 'laws.FnExactThirdPoint': WHATEVER THE INPUT: true; the input reads as it did. -/
def fnExactThirdPointSpec : ChangeSpec := { name := "fnExactThirdPoint", fn := fun _ => fun
  | [d1, d2, d3, d4] => { results := [.lit (.bool true)], args := [d1, d2, d3, d4] }
  | _ => none }
def fnExactThirdPointRow : OpenClaim := { program := "yteeniaklmgcahaa", sum := "2abf08c4e90648417fb36cbfa47bf560dd7a6e035f71b3a469984cab1d1e444f", func := "loop.example/g01232/laws.FnExactThirdPoint", spec := "fnExactThirdPoint", apart := false }
def FnExactThirdPointSaid : Prop := fnExactThirdPointRow.holds Try.pinned (OpenSpec.ofChange fnExactThirdPointSpec)

/-- ITS FALSE NEIGHBOUR: 'it returns false'. Refute it at one input. -/
def fnExactThirdPointWrong : ChangeSpec := { name := "fnExactThirdPoint", fn := fun _ => fun
  | [d1, d2, d3, d4] => { results := [.lit (.bool false)], args := [d1, d2, d3, d4] }
  | _ => none }
def FnExactThirdPointWrongFalsely : Prop := fnExactThirdPointRow.holds Try.pinned (OpenSpec.ofChange fnExactThirdPointWrong)

/-- 'laws.FnExactCountParallel': WHATEVER THE INPUT: true; the input reads as it did. -/
def fnExactCountParallelSpec : ChangeSpec := { name := "fnExactCountParallel", fn := fun _ => fun
  | [d1, d2] => { results := [.lit (.bool true)], args := [d1, d2] }
  | _ => none }
def fnExactCountParallelRow : OpenClaim := { program := "yteeniaklmgcahaa", sum := "2abf08c4e90648417fb36cbfa47bf560dd7a6e035f71b3a469984cab1d1e444f", func := "loop.example/g01232/laws.FnExactCountParallel", spec := "fnExactCountParallel", recurses := true, apart := false }
def FnExactCountParallelSaid : Prop := fnExactCountParallelRow.holds Try.pinned (OpenSpec.ofChange fnExactCountParallelSpec)

/-- ITS FALSE NEIGHBOUR: 'it returns false'. Refute it at one input. -/
def fnExactCountParallelWrong : ChangeSpec := { name := "fnExactCountParallel", fn := fun _ => fun
  | [d1, d2] => { results := [.lit (.bool false)], args := [d1, d2] }
  | _ => none }
def FnExactCountParallelWrongFalsely : Prop := fnExactCountParallelRow.holds Try.pinned (OpenSpec.ofChange fnExactCountParallelWrong)

/- THE SECOND FORM. 'bulk': how many values and letters a reading holds, each counted each time it is reached (what is shared counts as often as it is met; a slice's spare places count too). A statement '..UptoSaid' is the law's where the arguments, and the package variables that the reading takes, are together of bulk at most 1048576: NARROWER than '..Said'. Prove '..Said' where nothing that the law and all that it calls make is longer than what came in: it says more and counts as full. Else prove '..UptoSaid'. A law counts once. -/
mutual
def uptoBulk {H : Type} : DataW H → Nat
  | .lit (.string bytes) => bytes.length + 1
  | .lit _ => 1
  | .nil => 1
  | .ptr d => uptoBulk d + 1
  | .slice elems spare => uptoBulkAll elems + uptoBulkAll spare + 1
  | .agg parts => uptoBulkAll parts + 1
  | .iface _ d => uptoBulk d + 1
  | .map entries => uptoBulkEntries entries + 1
  | .held _ => 1
def uptoBulkAll {H : Type} : List (DataW H) → Nat
  | [] => 0
  | d :: r => uptoBulk d + uptoBulkAll r
def uptoBulkEntries {H : Type} : List (Lit × DataW H) → Nat
  | [] => 0
  | x :: r => uptoBulkEntry x + uptoBulkEntries r
def uptoBulkEntry {H : Type} : Lit × DataW H → Nat
  | (.string bytes, d) => bytes.length + uptoBulk d + 1
  | (_, d) => uptoBulk d + 1
 end
def uptoSmall : (H : Type) → List (DataW H) → Bool := fun _ ds => decide (uptoBulkAll ds ≤ 1048576)
def OpenSpec.upto (s : _root_.Go.ChangeSpec) : _root_.Go.OpenSpec := { _root_.Go.OpenSpec.ofChange s with cond := some uptoSmall }

/-- 'laws.FnExactMeasureWith', WHERE WHAT IT READS IS OF BULK AT MOST 1048576: true; the input reads as it did. -/
def fnExactMeasureWithUptoRow : OpenClaim := { program := "yteeniaklmgcahaa", sum := "2abf08c4e90648417fb36cbfa47bf560dd7a6e035f71b3a469984cab1d1e444f", func := "loop.example/g01232/laws.FnExactMeasureWith", spec := "fnExactMeasureWith", apart := false, narrowed := true }
def FnExactMeasureWithUptoSaid : Prop := fnExactMeasureWithUptoRow.holds Try.pinned (OpenSpec.upto fnExactMeasureWithSpec)

/-- 'laws.FnExactBackRow', WHERE WHAT IT READS IS OF BULK AT MOST 1048576: true; the input reads as it did. -/
def fnExactBackRowUptoRow : OpenClaim := { program := "yteeniaklmgcahaa", sum := "2abf08c4e90648417fb36cbfa47bf560dd7a6e035f71b3a469984cab1d1e444f", func := "loop.example/g01232/laws.FnExactBackRow", spec := "fnExactBackRow", apart := false, narrowed := true }
def FnExactBackRowUptoSaid : Prop := fnExactBackRowUptoRow.holds Try.pinned (OpenSpec.upto fnExactBackRowSpec)

/-- 'laws.FnExactIsDifferent', WHERE WHAT IT READS IS OF BULK AT MOST 1048576: true; the input reads as it did. -/
def fnExactIsDifferentUptoRow : OpenClaim := { program := "yteeniaklmgcahaa", sum := "2abf08c4e90648417fb36cbfa47bf560dd7a6e035f71b3a469984cab1d1e444f", func := "loop.example/g01232/laws.FnExactIsDifferent", spec := "fnExactIsDifferent", apart := false, narrowed := true }
def FnExactIsDifferentUptoSaid : Prop := fnExactIsDifferentUptoRow.holds Try.pinned (OpenSpec.upto fnExactIsDifferentSpec)

/-- 'laws.FnExactRaiseRow', WHERE WHAT IT READS IS OF BULK AT MOST 1048576: true; the input reads as it did. -/
def fnExactRaiseRowUptoRow : OpenClaim := { program := "yteeniaklmgcahaa", sum := "2abf08c4e90648417fb36cbfa47bf560dd7a6e035f71b3a469984cab1d1e444f", func := "loop.example/g01232/laws.FnExactRaiseRow", spec := "fnExactRaiseRow", apart := false, narrowed := true }
def FnExactRaiseRowUptoSaid : Prop := fnExactRaiseRowUptoRow.holds Try.pinned (OpenSpec.upto fnExactRaiseRowSpec)

/-- 'laws.FnExactRowOfPairs', WHERE WHAT IT READS IS OF BULK AT MOST 1048576: true; the input reads as it did. -/
def fnExactRowOfPairsUptoRow : OpenClaim := { program := "yteeniaklmgcahaa", sum := "2abf08c4e90648417fb36cbfa47bf560dd7a6e035f71b3a469984cab1d1e444f", func := "loop.example/g01232/laws.FnExactRowOfPairs", spec := "fnExactRowOfPairs", apart := false, narrowed := true }
def FnExactRowOfPairsUptoSaid : Prop := fnExactRowOfPairsUptoRow.holds Try.pinned (OpenSpec.upto fnExactRowOfPairsSpec)

/-- 'laws.FnExactBlocksAt', WHERE WHAT IT READS IS OF BULK AT MOST 1048576: true; the input reads as it did. -/
def fnExactBlocksAtUptoRow : OpenClaim := { program := "yteeniaklmgcahaa", sum := "2abf08c4e90648417fb36cbfa47bf560dd7a6e035f71b3a469984cab1d1e444f", func := "loop.example/g01232/laws.FnExactBlocksAt", spec := "fnExactBlocksAt", apart := false, narrowed := true }
def FnExactBlocksAtUptoSaid : Prop := fnExactBlocksAtUptoRow.holds Try.pinned (OpenSpec.upto fnExactBlocksAtSpec)

/-- 'laws.FnExactFirstSystem', WHERE WHAT IT READS IS OF BULK AT MOST 1048576: true; the input reads as it did. -/
def fnExactFirstSystemUptoRow : OpenClaim := { program := "yteeniaklmgcahaa", sum := "2abf08c4e90648417fb36cbfa47bf560dd7a6e035f71b3a469984cab1d1e444f", func := "loop.example/g01232/laws.FnExactFirstSystem", spec := "fnExactFirstSystem", recurses := true, apart := false, narrowed := true }
def FnExactFirstSystemUptoSaid : Prop := fnExactFirstSystemUptoRow.holds Try.pinned (OpenSpec.upto fnExactFirstSystemSpec)

/-- 'laws.FnExactAreTripleSystem', WHERE WHAT IT READS IS OF BULK AT MOST 1048576: true; the input reads as it did. -/
def fnExactAreTripleSystemUptoRow : OpenClaim := { program := "yteeniaklmgcahaa", sum := "2abf08c4e90648417fb36cbfa47bf560dd7a6e035f71b3a469984cab1d1e444f", func := "loop.example/g01232/laws.FnExactAreTripleSystem", spec := "fnExactAreTripleSystem", apart := false, narrowed := true }
def FnExactAreTripleSystemUptoSaid : Prop := fnExactAreTripleSystemUptoRow.holds Try.pinned (OpenSpec.upto fnExactAreTripleSystemSpec)

/-- 'laws.FnExactAreSplits', WHERE WHAT IT READS IS OF BULK AT MOST 1048576: true; the input reads as it did. -/
def fnExactAreSplitsUptoRow : OpenClaim := { program := "yteeniaklmgcahaa", sum := "2abf08c4e90648417fb36cbfa47bf560dd7a6e035f71b3a469984cab1d1e444f", func := "loop.example/g01232/laws.FnExactAreSplits", spec := "fnExactAreSplits", apart := false, narrowed := true }
def FnExactAreSplitsUptoSaid : Prop := fnExactAreSplitsUptoRow.holds Try.pinned (OpenSpec.upto fnExactAreSplitsSpec)

/-- 'laws.FnExactAreDifferences', WHERE WHAT IT READS IS OF BULK AT MOST 1048576: true; the input reads as it did. -/
def fnExactAreDifferencesUptoRow : OpenClaim := { program := "yteeniaklmgcahaa", sum := "2abf08c4e90648417fb36cbfa47bf560dd7a6e035f71b3a469984cab1d1e444f", func := "loop.example/g01232/laws.FnExactAreDifferences", spec := "fnExactAreDifferences", apart := false, narrowed := true }
def FnExactAreDifferencesUptoSaid : Prop := fnExactAreDifferencesUptoRow.holds Try.pinned (OpenSpec.upto fnExactAreDifferencesSpec)

/-- 'laws.FnExactThirdPoint', WHERE WHAT IT READS IS OF BULK AT MOST 1048576: true; the input reads as it did. -/
def fnExactThirdPointUptoRow : OpenClaim := { program := "yteeniaklmgcahaa", sum := "2abf08c4e90648417fb36cbfa47bf560dd7a6e035f71b3a469984cab1d1e444f", func := "loop.example/g01232/laws.FnExactThirdPoint", spec := "fnExactThirdPoint", apart := false, narrowed := true }
def FnExactThirdPointUptoSaid : Prop := fnExactThirdPointUptoRow.holds Try.pinned (OpenSpec.upto fnExactThirdPointSpec)

/-- 'laws.FnExactCountParallel', WHERE WHAT IT READS IS OF BULK AT MOST 1048576: true; the input reads as it did. -/
def fnExactCountParallelUptoRow : OpenClaim := { program := "yteeniaklmgcahaa", sum := "2abf08c4e90648417fb36cbfa47bf560dd7a6e035f71b3a469984cab1d1e444f", func := "loop.example/g01232/laws.FnExactCountParallel", spec := "fnExactCountParallel", recurses := true, apart := false, narrowed := true }
def FnExactCountParallelUptoSaid : Prop := fnExactCountParallelUptoRow.holds Try.pinned (OpenSpec.upto fnExactCountParallelSpec)

end Rows
end Go.Proofs.Yteeniaklmgcahaa
