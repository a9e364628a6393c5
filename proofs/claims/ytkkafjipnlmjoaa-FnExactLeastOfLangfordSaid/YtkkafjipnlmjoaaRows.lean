/-
  No cell of these rows narrows 'for every input' (looked for: loops, veiled, ifaces, maps, wideKeys, modest, calm, conditions, laid).
  DERIVED. THE GIVEN ROWS OF THIS SEAT. 12 by the template 'for every input the law returns true; each argument reads behind the call as it read before'; 0 by the template 'total and deterministic' (their statements: YtkkafjipnlmjoaaTotals.lean).
  GIVEN WITH THE SEED: the statements are not yours to turn. If you find one false, say at which input.
  Laid BY PROGRAM, IN A SANDBOX (cutbox-rows.mjs): the forced cells as the released guide's own fill.sh prints them over the translation e918ff0ae242ca3c… (all of the seat's roots in one cut). By AI agents, Wed Nov 11 2026. No macro, syntax, notation, axiom, sorry.
-/
import Derived.Test.YtkkafjipnlmjoaaChecked
import GoSem.Claim
import GoSem.ClaimJoined
import GoSem.ClaimMapViews
import Derived.JoinedTies
import Derived.KernelRfl
namespace Go.Proofs.Ytkkafjipnlmjoaa
/- THE CELL 'sum', in the pinned program and in every row, IS THE sha256 OF THE DUMP (.gsa) THAT YtkkafjipnlmjoaaProg.lean LOADS. Nothing in Lean hashes anything: it is a label: what it is worth is what the hold of that sum in a sandbox is worth. -/
noncomputable def Try.pinned : Pinned := { name := "ytkkafjipnlmjoaa", sum := "e918ff0ae242ca3cfe12d84052d7a992000c5af14aab854e465079d04ff14be7", checked := Try.checked }
namespace Rows
def none {H : Type} : Left H := { results := [], args := [] }

/-- 'laws.FnExactIsPairRow': WHATEVER THE INPUT: true; the input reads as it did. -/
def fnExactIsPairRowSpec : ChangeSpec := { name := "fnExactIsPairRow", fn := fun _ => fun
  | [d] => { results := [.lit (.bool true)], args := [d] }
  | _ => none }
def fnExactIsPairRowRow : OpenClaim := { program := "ytkkafjipnlmjoaa", sum := "e918ff0ae242ca3cfe12d84052d7a992000c5af14aab854e465079d04ff14be7", func := "loop.example/g01232/laws.FnExactIsPairRow", spec := "fnExactIsPairRow", apart := false }
def FnExactIsPairRowSaid : Prop := fnExactIsPairRowRow.holds Try.pinned (OpenSpec.ofChange fnExactIsPairRowSpec)

/-- ITS FALSE NEIGHBOUR: 'it returns false'. Refute it at one input. -/
def fnExactIsPairRowWrong : ChangeSpec := { name := "fnExactIsPairRow", fn := fun _ => fun
  | [d] => { results := [.lit (.bool false)], args := [d] }
  | _ => none }
def FnExactIsPairRowWrongFalsely : Prop := fnExactIsPairRowRow.holds Try.pinned (OpenSpec.ofChange fnExactIsPairRowWrong)

/-- 'laws.FnExactPlacesOf': WHATEVER THE INPUT: true; the input reads as it did. -/
def fnExactPlacesOfSpec : ChangeSpec := { name := "fnExactPlacesOf", fn := fun _ => fun
  | [d1, d2] => { results := [.lit (.bool true)], args := [d1, d2] }
  | _ => none }
def fnExactPlacesOfRow : OpenClaim := { program := "ytkkafjipnlmjoaa", sum := "e918ff0ae242ca3cfe12d84052d7a992000c5af14aab854e465079d04ff14be7", func := "loop.example/g01232/laws.FnExactPlacesOf", spec := "fnExactPlacesOf", apart := false }
def FnExactPlacesOfSaid : Prop := fnExactPlacesOfRow.holds Try.pinned (OpenSpec.ofChange fnExactPlacesOfSpec)

/-- ITS FALSE NEIGHBOUR: 'it returns false'. Refute it at one input. -/
def fnExactPlacesOfWrong : ChangeSpec := { name := "fnExactPlacesOf", fn := fun _ => fun
  | [d1, d2] => { results := [.lit (.bool false)], args := [d1, d2] }
  | _ => none }
def FnExactPlacesOfWrongFalsely : Prop := fnExactPlacesOfRow.holds Try.pinned (OpenSpec.ofChange fnExactPlacesOfWrong)

/-- 'laws.FnExactSumOfPlaces': WHATEVER THE INPUT: true; the input reads as it did. -/
def fnExactSumOfPlacesSpec : ChangeSpec := { name := "fnExactSumOfPlaces", fn := fun _ => fun
  | [d] => { results := [.lit (.bool true)], args := [d] }
  | _ => none }
def fnExactSumOfPlacesRow : OpenClaim := { program := "ytkkafjipnlmjoaa", sum := "e918ff0ae242ca3cfe12d84052d7a992000c5af14aab854e465079d04ff14be7", func := "loop.example/g01232/laws.FnExactSumOfPlaces", spec := "fnExactSumOfPlaces", apart := false }
def FnExactSumOfPlacesSaid : Prop := fnExactSumOfPlacesRow.holds Try.pinned (OpenSpec.ofChange fnExactSumOfPlacesSpec)

/-- ITS FALSE NEIGHBOUR: 'it returns false'. Refute it at one input. -/
def fnExactSumOfPlacesWrong : ChangeSpec := { name := "fnExactSumOfPlaces", fn := fun _ => fun
  | [d] => { results := [.lit (.bool false)], args := [d] }
  | _ => none }
def FnExactSumOfPlacesWrongFalsely : Prop := fnExactSumOfPlacesRow.holds Try.pinned (OpenSpec.ofChange fnExactSumOfPlacesWrong)

/-- 'laws.FnExactFitsShift': WHATEVER THE INPUT: true; the input reads as it did. -/
def fnExactFitsShiftSpec : ChangeSpec := { name := "fnExactFitsShift", fn := fun _ => fun
  | [d1, d2] => { results := [.lit (.bool true)], args := [d1, d2] }
  | _ => none }
def fnExactFitsShiftRow : OpenClaim := { program := "ytkkafjipnlmjoaa", sum := "e918ff0ae242ca3cfe12d84052d7a992000c5af14aab854e465079d04ff14be7", func := "loop.example/g01232/laws.FnExactFitsShift", spec := "fnExactFitsShift", apart := false }
def FnExactFitsShiftSaid : Prop := fnExactFitsShiftRow.holds Try.pinned (OpenSpec.ofChange fnExactFitsShiftSpec)

/-- ITS FALSE NEIGHBOUR: 'it returns false'. Refute it at one input. -/
def fnExactFitsShiftWrong : ChangeSpec := { name := "fnExactFitsShift", fn := fun _ => fun
  | [d1, d2] => { results := [.lit (.bool false)], args := [d1, d2] }
  | _ => none }
def FnExactFitsShiftWrongFalsely : Prop := fnExactFitsShiftRow.holds Try.pinned (OpenSpec.ofChange fnExactFitsShiftWrong)

/-- 'laws.FnExactNumbersIn': WHATEVER THE INPUT: true; the input reads as it did. -/
def fnExactNumbersInSpec : ChangeSpec := { name := "fnExactNumbersIn", fn := fun _ => fun
  | [d] => { results := [.lit (.bool true)], args := [d] }
  | _ => none }
def fnExactNumbersInRow : OpenClaim := { program := "ytkkafjipnlmjoaa", sum := "e918ff0ae242ca3cfe12d84052d7a992000c5af14aab854e465079d04ff14be7", func := "loop.example/g01232/laws.FnExactNumbersIn", spec := "fnExactNumbersIn", apart := false }
def FnExactNumbersInSaid : Prop := fnExactNumbersInRow.holds Try.pinned (OpenSpec.ofChange fnExactNumbersInSpec)

/-- ITS FALSE NEIGHBOUR: 'it returns false'. Refute it at one input. -/
def fnExactNumbersInWrong : ChangeSpec := { name := "fnExactNumbersIn", fn := fun _ => fun
  | [d] => { results := [.lit (.bool false)], args := [d] }
  | _ => none }
def FnExactNumbersInWrongFalsely : Prop := fnExactNumbersInRow.holds Try.pinned (OpenSpec.ofChange fnExactNumbersInWrong)

/-- 'laws.FnExactDropNumber': WHATEVER THE INPUT: true; the input reads as it did. -/
def fnExactDropNumberSpec : ChangeSpec := { name := "fnExactDropNumber", fn := fun _ => fun
  | [d1, d2] => { results := [.lit (.bool true)], args := [d1, d2] }
  | _ => none }
def fnExactDropNumberRow : OpenClaim := { program := "ytkkafjipnlmjoaa", sum := "e918ff0ae242ca3cfe12d84052d7a992000c5af14aab854e465079d04ff14be7", func := "loop.example/g01232/laws.FnExactDropNumber", spec := "fnExactDropNumber", apart := false }
def FnExactDropNumberSaid : Prop := fnExactDropNumberRow.holds Try.pinned (OpenSpec.ofChange fnExactDropNumberSpec)

/-- ITS FALSE NEIGHBOUR: 'it returns false'. Refute it at one input. -/
def fnExactDropNumberWrong : ChangeSpec := { name := "fnExactDropNumber", fn := fun _ => fun
  | [d1, d2] => { results := [.lit (.bool false)], args := [d1, d2] }
  | _ => none }
def FnExactDropNumberWrongFalsely : Prop := fnExactDropNumberRow.holds Try.pinned (OpenSpec.ofChange fnExactDropNumberWrong)

/-- 'laws.FnExactPutNumber': WHATEVER THE INPUT: true; the input reads as it did. -/
def fnExactPutNumberSpec : ChangeSpec := { name := "fnExactPutNumber", fn := fun _ => fun
  | [d1, d2, d3, d4] => { results := [.lit (.bool true)], args := [d1, d2, d3, d4] }
  | _ => none }
def fnExactPutNumberRow : OpenClaim := { program := "ytkkafjipnlmjoaa", sum := "e918ff0ae242ca3cfe12d84052d7a992000c5af14aab854e465079d04ff14be7", func := "loop.example/g01232/laws.FnExactPutNumber", spec := "fnExactPutNumber", apart := false }
def FnExactPutNumberSaid : Prop := fnExactPutNumberRow.holds Try.pinned (OpenSpec.ofChange fnExactPutNumberSpec)

/-- ITS FALSE NEIGHBOUR: 'it returns false'. Refute it at one input. -/
def fnExactPutNumberWrong : ChangeSpec := { name := "fnExactPutNumber", fn := fun _ => fun
  | [d1, d2, d3, d4] => { results := [.lit (.bool false)], args := [d1, d2, d3, d4] }
  | _ => none }
def FnExactPutNumberWrongFalsely : Prop := fnExactPutNumberRow.holds Try.pinned (OpenSpec.ofChange fnExactPutNumberWrong)

/-- 'laws.FnExactIsSkolem': WHATEVER THE INPUT: true; the input reads as it did. -/
def fnExactIsSkolemSpec : ChangeSpec := { name := "fnExactIsSkolem", fn := fun _ => fun
  | [d] => { results := [.lit (.bool true)], args := [d] }
  | _ => none }
def fnExactIsSkolemRow : OpenClaim := { program := "ytkkafjipnlmjoaa", sum := "e918ff0ae242ca3cfe12d84052d7a992000c5af14aab854e465079d04ff14be7", func := "loop.example/g01232/laws.FnExactIsSkolem", spec := "fnExactIsSkolem", apart := false }
def FnExactIsSkolemSaid : Prop := fnExactIsSkolemRow.holds Try.pinned (OpenSpec.ofChange fnExactIsSkolemSpec)

/-- ITS FALSE NEIGHBOUR: 'it returns false'. Refute it at one input. -/
def fnExactIsSkolemWrong : ChangeSpec := { name := "fnExactIsSkolem", fn := fun _ => fun
  | [d] => { results := [.lit (.bool false)], args := [d] }
  | _ => none }
def FnExactIsSkolemWrongFalsely : Prop := fnExactIsSkolemRow.holds Try.pinned (OpenSpec.ofChange fnExactIsSkolemWrong)

/-- 'laws.FnExactLeastOfLangford': WHATEVER THE INPUT: true; the input reads as it did. -/
def fnExactLeastOfLangfordSpec : ChangeSpec := { name := "fnExactLeastOfLangford", fn := fun _ => fun
  | [d] => { results := [.lit (.bool true)], args := [d] }
  | _ => none }
def fnExactLeastOfLangfordRow : OpenClaim := { program := "ytkkafjipnlmjoaa", sum := "e918ff0ae242ca3cfe12d84052d7a992000c5af14aab854e465079d04ff14be7", func := "loop.example/g01232/laws.FnExactLeastOfLangford", spec := "fnExactLeastOfLangford", apart := false }
def FnExactLeastOfLangfordSaid : Prop := fnExactLeastOfLangfordRow.holds Try.pinned (OpenSpec.ofChange fnExactLeastOfLangfordSpec)

/-- ITS FALSE NEIGHBOUR: 'it returns false'. Refute it at one input. -/
def fnExactLeastOfLangfordWrong : ChangeSpec := { name := "fnExactLeastOfLangford", fn := fun _ => fun
  | [d] => { results := [.lit (.bool false)], args := [d] }
  | _ => none }
def FnExactLeastOfLangfordWrongFalsely : Prop := fnExactLeastOfLangfordRow.holds Try.pinned (OpenSpec.ofChange fnExactLeastOfLangfordWrong)

/-- 'laws.FnExactIsLangford': WHATEVER THE INPUT: true; the input reads as it did. -/
def fnExactIsLangfordSpec : ChangeSpec := { name := "fnExactIsLangford", fn := fun _ => fun
  | [d] => { results := [.lit (.bool true)], args := [d] }
  | _ => none }
def fnExactIsLangfordRow : OpenClaim := { program := "ytkkafjipnlmjoaa", sum := "e918ff0ae242ca3cfe12d84052d7a992000c5af14aab854e465079d04ff14be7", func := "loop.example/g01232/laws.FnExactIsLangford", spec := "fnExactIsLangford", apart := false }
def FnExactIsLangfordSaid : Prop := fnExactIsLangfordRow.holds Try.pinned (OpenSpec.ofChange fnExactIsLangfordSpec)

/-- ITS FALSE NEIGHBOUR: 'it returns false'. Refute it at one input. -/
def fnExactIsLangfordWrong : ChangeSpec := { name := "fnExactIsLangford", fn := fun _ => fun
  | [d] => { results := [.lit (.bool false)], args := [d] }
  | _ => none }
def FnExactIsLangfordWrongFalsely : Prop := fnExactIsLangfordRow.holds Try.pinned (OpenSpec.ofChange fnExactIsLangfordWrong)

/-- 'laws.FnExactIsHooked': WHATEVER THE INPUT: true; the input reads as it did. -/
def fnExactIsHookedSpec : ChangeSpec := { name := "fnExactIsHooked", fn := fun _ => fun
  | [d] => { results := [.lit (.bool true)], args := [d] }
  | _ => none }
def fnExactIsHookedRow : OpenClaim := { program := "ytkkafjipnlmjoaa", sum := "e918ff0ae242ca3cfe12d84052d7a992000c5af14aab854e465079d04ff14be7", func := "loop.example/g01232/laws.FnExactIsHooked", spec := "fnExactIsHooked", apart := false }
def FnExactIsHookedSaid : Prop := fnExactIsHookedRow.holds Try.pinned (OpenSpec.ofChange fnExactIsHookedSpec)

/-- ITS FALSE NEIGHBOUR: 'it returns false'. Refute it at one input. -/
def fnExactIsHookedWrong : ChangeSpec := { name := "fnExactIsHooked", fn := fun _ => fun
  | [d] => { results := [.lit (.bool false)], args := [d] }
  | _ => none }
def FnExactIsHookedWrongFalsely : Prop := fnExactIsHookedRow.holds Try.pinned (OpenSpec.ofChange fnExactIsHookedWrong)

/-- 'laws.FnExactCrossingPairs': WHATEVER THE INPUT: true; the input reads as it did. -/
def fnExactCrossingPairsSpec : ChangeSpec := { name := "fnExactCrossingPairs", fn := fun _ => fun
  | [d] => { results := [.lit (.bool true)], args := [d] }
  | _ => none }
def fnExactCrossingPairsRow : OpenClaim := { program := "ytkkafjipnlmjoaa", sum := "e918ff0ae242ca3cfe12d84052d7a992000c5af14aab854e465079d04ff14be7", func := "loop.example/g01232/laws.FnExactCrossingPairs", spec := "fnExactCrossingPairs", apart := false }
def FnExactCrossingPairsSaid : Prop := fnExactCrossingPairsRow.holds Try.pinned (OpenSpec.ofChange fnExactCrossingPairsSpec)

/-- ITS FALSE NEIGHBOUR: 'it returns false'. Refute it at one input. -/
def fnExactCrossingPairsWrong : ChangeSpec := { name := "fnExactCrossingPairs", fn := fun _ => fun
  | [d] => { results := [.lit (.bool false)], args := [d] }
  | _ => none }
def FnExactCrossingPairsWrongFalsely : Prop := fnExactCrossingPairsRow.holds Try.pinned (OpenSpec.ofChange fnExactCrossingPairsWrong)

/- THE SECOND FORM. 'bulk': how many values and letters a reading holds, each counted each time it is reached (what is shared counts as often as it is met; a slice's spare places count too). A statement '..UptoSaid' is the law's where the arguments, and the package variables that the reading takes, are together of bulk at most 1048576: NARROWER than '..Said'. Prove '..Said' where nothing that the law and all that it calls make is longer than what came in: it says more and counts as full. Else prove '..UptoSaid'. A law counts once. -/
mutual
def uptoBulk {H : Type} : DataW H → Nat
  | .lit (.string bytes) => bytes.length + 1
  | .lit _ => 1
  | .nil => 1
  | .ptr d => uptoBulk d + 1
  | .slice elems spare => uptoBulkAll elems + uptoBulkAll spare + 1
  | .agg parts => uptoBulkAll parts + 1
  | .iface _ d => uptoBulk d + 1
  | .map entries => uptoBulkEntries entries + 1
  | .held _ => 1
def uptoBulkAll {H : Type} : List (DataW H) → Nat
  | [] => 0
  | d :: r => uptoBulk d + uptoBulkAll r
def uptoBulkEntries {H : Type} : List (Lit × DataW H) → Nat
  | [] => 0
  | x :: r => uptoBulkEntry x + uptoBulkEntries r
def uptoBulkEntry {H : Type} : Lit × DataW H → Nat
  | (.string bytes, d) => bytes.length + uptoBulk d + 1
  | (_, d) => uptoBulk d + 1
 end
def uptoSmall : (H : Type) → List (DataW H) → Bool := fun _ ds => decide (uptoBulkAll ds ≤ 1048576)
def OpenSpec.upto (s : _root_.Go.ChangeSpec) : _root_.Go.OpenSpec := { _root_.Go.OpenSpec.ofChange s with cond := some uptoSmall }

/-- 'laws.FnExactIsPairRow', WHERE WHAT IT READS IS OF BULK AT MOST 1048576: true; the input reads as it did. -/
def fnExactIsPairRowUptoRow : OpenClaim := { program := "ytkkafjipnlmjoaa", sum := "e918ff0ae242ca3cfe12d84052d7a992000c5af14aab854e465079d04ff14be7", func := "loop.example/g01232/laws.FnExactIsPairRow", spec := "fnExactIsPairRow", apart := false, narrowed := true }
def FnExactIsPairRowUptoSaid : Prop := fnExactIsPairRowUptoRow.holds Try.pinned (OpenSpec.upto fnExactIsPairRowSpec)

/-- 'laws.FnExactPlacesOf', WHERE WHAT IT READS IS OF BULK AT MOST 1048576: true; the input reads as it did. -/
def fnExactPlacesOfUptoRow : OpenClaim := { program := "ytkkafjipnlmjoaa", sum := "e918ff0ae242ca3cfe12d84052d7a992000c5af14aab854e465079d04ff14be7", func := "loop.example/g01232/laws.FnExactPlacesOf", spec := "fnExactPlacesOf", apart := false, narrowed := true }
def FnExactPlacesOfUptoSaid : Prop := fnExactPlacesOfUptoRow.holds Try.pinned (OpenSpec.upto fnExactPlacesOfSpec)

/-- 'laws.FnExactSumOfPlaces', WHERE WHAT IT READS IS OF BULK AT MOST 1048576: true; the input reads as it did. -/
def fnExactSumOfPlacesUptoRow : OpenClaim := { program := "ytkkafjipnlmjoaa", sum := "e918ff0ae242ca3cfe12d84052d7a992000c5af14aab854e465079d04ff14be7", func := "loop.example/g01232/laws.FnExactSumOfPlaces", spec := "fnExactSumOfPlaces", apart := false, narrowed := true }
def FnExactSumOfPlacesUptoSaid : Prop := fnExactSumOfPlacesUptoRow.holds Try.pinned (OpenSpec.upto fnExactSumOfPlacesSpec)

/-- 'laws.FnExactFitsShift', WHERE WHAT IT READS IS OF BULK AT MOST 1048576: true; the input reads as it did. -/
def fnExactFitsShiftUptoRow : OpenClaim := { program := "ytkkafjipnlmjoaa", sum := "e918ff0ae242ca3cfe12d84052d7a992000c5af14aab854e465079d04ff14be7", func := "loop.example/g01232/laws.FnExactFitsShift", spec := "fnExactFitsShift", apart := false, narrowed := true }
def FnExactFitsShiftUptoSaid : Prop := fnExactFitsShiftUptoRow.holds Try.pinned (OpenSpec.upto fnExactFitsShiftSpec)

/-- 'laws.FnExactNumbersIn', WHERE WHAT IT READS IS OF BULK AT MOST 1048576: true; the input reads as it did. -/
def fnExactNumbersInUptoRow : OpenClaim := { program := "ytkkafjipnlmjoaa", sum := "e918ff0ae242ca3cfe12d84052d7a992000c5af14aab854e465079d04ff14be7", func := "loop.example/g01232/laws.FnExactNumbersIn", spec := "fnExactNumbersIn", apart := false, narrowed := true }
def FnExactNumbersInUptoSaid : Prop := fnExactNumbersInUptoRow.holds Try.pinned (OpenSpec.upto fnExactNumbersInSpec)

/-- 'laws.FnExactDropNumber', WHERE WHAT IT READS IS OF BULK AT MOST 1048576: true; the input reads as it did. -/
def fnExactDropNumberUptoRow : OpenClaim := { program := "ytkkafjipnlmjoaa", sum := "e918ff0ae242ca3cfe12d84052d7a992000c5af14aab854e465079d04ff14be7", func := "loop.example/g01232/laws.FnExactDropNumber", spec := "fnExactDropNumber", apart := false, narrowed := true }
def FnExactDropNumberUptoSaid : Prop := fnExactDropNumberUptoRow.holds Try.pinned (OpenSpec.upto fnExactDropNumberSpec)

/-- 'laws.FnExactPutNumber', WHERE WHAT IT READS IS OF BULK AT MOST 1048576: true; the input reads as it did. -/
def fnExactPutNumberUptoRow : OpenClaim := { program := "ytkkafjipnlmjoaa", sum := "e918ff0ae242ca3cfe12d84052d7a992000c5af14aab854e465079d04ff14be7", func := "loop.example/g01232/laws.FnExactPutNumber", spec := "fnExactPutNumber", apart := false, narrowed := true }
def FnExactPutNumberUptoSaid : Prop := fnExactPutNumberUptoRow.holds Try.pinned (OpenSpec.upto fnExactPutNumberSpec)

/-- 'laws.FnExactIsSkolem', WHERE WHAT IT READS IS OF BULK AT MOST 1048576: true; the input reads as it did. -/
def fnExactIsSkolemUptoRow : OpenClaim := { program := "ytkkafjipnlmjoaa", sum := "e918ff0ae242ca3cfe12d84052d7a992000c5af14aab854e465079d04ff14be7", func := "loop.example/g01232/laws.FnExactIsSkolem", spec := "fnExactIsSkolem", apart := false, narrowed := true }
def FnExactIsSkolemUptoSaid : Prop := fnExactIsSkolemUptoRow.holds Try.pinned (OpenSpec.upto fnExactIsSkolemSpec)

/-- 'laws.FnExactLeastOfLangford', WHERE WHAT IT READS IS OF BULK AT MOST 1048576: true; the input reads as it did. -/
def fnExactLeastOfLangfordUptoRow : OpenClaim := { program := "ytkkafjipnlmjoaa", sum := "e918ff0ae242ca3cfe12d84052d7a992000c5af14aab854e465079d04ff14be7", func := "loop.example/g01232/laws.FnExactLeastOfLangford", spec := "fnExactLeastOfLangford", apart := false, narrowed := true }
def FnExactLeastOfLangfordUptoSaid : Prop := fnExactLeastOfLangfordUptoRow.holds Try.pinned (OpenSpec.upto fnExactLeastOfLangfordSpec)

/-- 'laws.FnExactIsLangford', WHERE WHAT IT READS IS OF BULK AT MOST 1048576: true; the input reads as it did. -/
def fnExactIsLangfordUptoRow : OpenClaim := { program := "ytkkafjipnlmjoaa", sum := "e918ff0ae242ca3cfe12d84052d7a992000c5af14aab854e465079d04ff14be7", func := "loop.example/g01232/laws.FnExactIsLangford", spec := "fnExactIsLangford", apart := false, narrowed := true }
def FnExactIsLangfordUptoSaid : Prop := fnExactIsLangfordUptoRow.holds Try.pinned (OpenSpec.upto fnExactIsLangfordSpec)

/-- 'laws.FnExactIsHooked', WHERE WHAT IT READS IS OF BULK AT MOST 1048576: true; the input reads as it did. -/
def fnExactIsHookedUptoRow : OpenClaim := { program := "ytkkafjipnlmjoaa", sum := "e918ff0ae242ca3cfe12d84052d7a992000c5af14aab854e465079d04ff14be7", func := "loop.example/g01232/laws.FnExactIsHooked", spec := "fnExactIsHooked", apart := false, narrowed := true }
def FnExactIsHookedUptoSaid : Prop := fnExactIsHookedUptoRow.holds Try.pinned (OpenSpec.upto fnExactIsHookedSpec)

/-- 'laws.FnExactCrossingPairs', WHERE WHAT IT READS IS OF BULK AT MOST 1048576: true; the input reads as it did. -/
def fnExactCrossingPairsUptoRow : OpenClaim := { program := "ytkkafjipnlmjoaa", sum := "e918ff0ae242ca3cfe12d84052d7a992000c5af14aab854e465079d04ff14be7", func := "loop.example/g01232/laws.FnExactCrossingPairs", spec := "fnExactCrossingPairs", apart := false, narrowed := true }
def FnExactCrossingPairsUptoSaid : Prop := fnExactCrossingPairsUptoRow.holds Try.pinned (OpenSpec.upto fnExactCrossingPairsSpec)

end Rows
end Go.Proofs.Ytkkafjipnlmjoaa
