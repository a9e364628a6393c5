/-
  No cell of these rows narrows 'for every input' (looked for: loops, veiled, ifaces, maps, wideKeys, modest, calm, conditions, laid).
  DERIVED. THE GIVEN ROWS OF THIS SEAT. 12 by the template 'for every input the law returns true; each argument reads behind the call as it read before'; 0 by the template 'total and deterministic' (their statements: YtkffdloophagaaaTotals.lean).
  GIVEN WITH THE SEED: the statements are not yours to turn. If you find one false, say at which input.
  Laid BY PROGRAM, IN A SANDBOX (cutbox-rows.mjs): the forced cells as the released guide's own fill.sh prints them over the translation 75d01e8cf2db86f4… (all of the seat's roots in one cut). By AI agents, Wed Nov 11 2026. No macro, syntax, notation, axiom, sorry.
-/
import Derived.Test.YtkffdloophagaaaChecked
import GoSem.Claim
import GoSem.ClaimJoined
import GoSem.ClaimMapViews
import Derived.JoinedTies
import Derived.KernelRfl
namespace Go.Proofs.Ytkffdloophagaaa
/- THE CELL 'sum', in the pinned program and in every row, IS THE sha256 OF THE DUMP (.gsa) THAT YtkffdloophagaaaProg.lean LOADS. Nothing in Lean hashes anything: it is a label: what it is worth is what the hold of that sum in a sandbox is worth. -/
noncomputable def Try.pinned : Pinned := { name := "ytkffdloophagaaa", sum := "75d01e8cf2db86f4c8c96e774488e14e9c85d7c8a9fdb470a36f46ae7ba779ee", checked := Try.checked }
namespace Rows
def none {H : Type} : Left H := { results := [], args := [] }

/-- 'laws.FnExactCountSkolem': WHATEVER THE INPUT: true; the input reads as it did. -/
def fnExactCountSkolemSpec : ChangeSpec := { name := "fnExactCountSkolem", fn := fun _ => fun
  | [d] => { results := [.lit (.bool true)], args := [d] }
  | _ => none }
def fnExactCountSkolemRow : OpenClaim := { program := "ytkffdloophagaaa", sum := "75d01e8cf2db86f4c8c96e774488e14e9c85d7c8a9fdb470a36f46ae7ba779ee", func := "loop.example/g01232/laws.FnExactCountSkolem", spec := "fnExactCountSkolem", unfollowed := true, recurses := true, apart := false }
def FnExactCountSkolemSaid : Prop := fnExactCountSkolemRow.holds Try.pinned (OpenSpec.ofChange fnExactCountSkolemSpec)

/-- ITS FALSE NEIGHBOUR: 'it returns false'. Refute it at one input. -/
def fnExactCountSkolemWrong : ChangeSpec := { name := "fnExactCountSkolem", fn := fun _ => fun
  | [d] => { results := [.lit (.bool false)], args := [d] }
  | _ => none }
def FnExactCountSkolemWrongFalsely : Prop := fnExactCountSkolemRow.holds Try.pinned (OpenSpec.ofChange fnExactCountSkolemWrong)

/-- 'laws.FnExactCountHooked': WHATEVER THE INPUT: true; the input reads as it did. -/
def fnExactCountHookedSpec : ChangeSpec := { name := "fnExactCountHooked", fn := fun _ => fun
  | [d] => { results := [.lit (.bool true)], args := [d] }
  | _ => none }
def fnExactCountHookedRow : OpenClaim := { program := "ytkffdloophagaaa", sum := "75d01e8cf2db86f4c8c96e774488e14e9c85d7c8a9fdb470a36f46ae7ba779ee", func := "loop.example/g01232/laws.FnExactCountHooked", spec := "fnExactCountHooked", unfollowed := true, recurses := true, apart := false }
def FnExactCountHookedSaid : Prop := fnExactCountHookedRow.holds Try.pinned (OpenSpec.ofChange fnExactCountHookedSpec)

/-- ITS FALSE NEIGHBOUR: 'it returns false'. Refute it at one input. -/
def fnExactCountHookedWrong : ChangeSpec := { name := "fnExactCountHooked", fn := fun _ => fun
  | [d] => { results := [.lit (.bool false)], args := [d] }
  | _ => none }
def FnExactCountHookedWrongFalsely : Prop := fnExactCountHookedRow.holds Try.pinned (OpenSpec.ofChange fnExactCountHookedWrong)

/-- 'laws.FnExactCountLangford': WHATEVER THE INPUT: true; the input reads as it did. -/
def fnExactCountLangfordSpec : ChangeSpec := { name := "fnExactCountLangford", fn := fun _ => fun
  | [d1, d2] => { results := [.lit (.bool true)], args := [d1, d2] }
  | _ => none }
def fnExactCountLangfordRow : OpenClaim := { program := "ytkffdloophagaaa", sum := "75d01e8cf2db86f4c8c96e774488e14e9c85d7c8a9fdb470a36f46ae7ba779ee", func := "loop.example/g01232/laws.FnExactCountLangford", spec := "fnExactCountLangford", unfollowed := true, recurses := true, apart := false }
def FnExactCountLangfordSaid : Prop := fnExactCountLangfordRow.holds Try.pinned (OpenSpec.ofChange fnExactCountLangfordSpec)

/-- ITS FALSE NEIGHBOUR: 'it returns false'. Refute it at one input. -/
def fnExactCountLangfordWrong : ChangeSpec := { name := "fnExactCountLangford", fn := fun _ => fun
  | [d1, d2] => { results := [.lit (.bool false)], args := [d1, d2] }
  | _ => none }
def FnExactCountLangfordWrongFalsely : Prop := fnExactCountLangfordRow.holds Try.pinned (OpenSpec.ofChange fnExactCountLangfordWrong)

/-- 'laws.FnExactCountOneAt': WHATEVER THE INPUT: true; the input reads as it did. -/
def fnExactCountOneAtSpec : ChangeSpec := { name := "fnExactCountOneAt", fn := fun _ => fun
  | [d1, d2] => { results := [.lit (.bool true)], args := [d1, d2] }
  | _ => none }
def fnExactCountOneAtRow : OpenClaim := { program := "ytkffdloophagaaa", sum := "75d01e8cf2db86f4c8c96e774488e14e9c85d7c8a9fdb470a36f46ae7ba779ee", func := "loop.example/g01232/laws.FnExactCountOneAt", spec := "fnExactCountOneAt", unfollowed := true, recurses := true, apart := false }
def FnExactCountOneAtSaid : Prop := fnExactCountOneAtRow.holds Try.pinned (OpenSpec.ofChange fnExactCountOneAtSpec)

/-- ITS FALSE NEIGHBOUR: 'it returns false'. Refute it at one input. -/
def fnExactCountOneAtWrong : ChangeSpec := { name := "fnExactCountOneAt", fn := fun _ => fun
  | [d1, d2] => { results := [.lit (.bool false)], args := [d1, d2] }
  | _ => none }
def FnExactCountOneAtWrongFalsely : Prop := fnExactCountOneAtRow.holds Try.pinned (OpenSpec.ofChange fnExactCountOneAtWrong)

/-- 'laws.FnExactCountWithPair': WHATEVER THE INPUT: true; the input reads as it did. -/
def fnExactCountWithPairSpec : ChangeSpec := { name := "fnExactCountWithPair", fn := fun _ => fun
  | [d1, d2, d3] => { results := [.lit (.bool true)], args := [d1, d2, d3] }
  | _ => none }
def fnExactCountWithPairRow : OpenClaim := { program := "ytkffdloophagaaa", sum := "75d01e8cf2db86f4c8c96e774488e14e9c85d7c8a9fdb470a36f46ae7ba779ee", func := "loop.example/g01232/laws.FnExactCountWithPair", spec := "fnExactCountWithPair", unfollowed := true, recurses := true, apart := false }
def FnExactCountWithPairSaid : Prop := fnExactCountWithPairRow.holds Try.pinned (OpenSpec.ofChange fnExactCountWithPairSpec)

/-- ITS FALSE NEIGHBOUR: 'it returns false'. Refute it at one input. -/
def fnExactCountWithPairWrong : ChangeSpec := { name := "fnExactCountWithPair", fn := fun _ => fun
  | [d1, d2, d3] => { results := [.lit (.bool false)], args := [d1, d2, d3] }
  | _ => none }
def FnExactCountWithPairWrongFalsely : Prop := fnExactCountWithPairRow.holds Try.pinned (OpenSpec.ofChange fnExactCountWithPairWrong)

/-- 'laws.FnExactFirstSkolem': WHATEVER THE INPUT: true; the input reads as it did. -/
def fnExactFirstSkolemSpec : ChangeSpec := { name := "fnExactFirstSkolem", fn := fun _ => fun
  | [d] => { results := [.lit (.bool true)], args := [d] }
  | _ => none }
def fnExactFirstSkolemRow : OpenClaim := { program := "ytkffdloophagaaa", sum := "75d01e8cf2db86f4c8c96e774488e14e9c85d7c8a9fdb470a36f46ae7ba779ee", func := "loop.example/g01232/laws.FnExactFirstSkolem", spec := "fnExactFirstSkolem", unfollowed := true, recurses := true, apart := false }
def FnExactFirstSkolemSaid : Prop := fnExactFirstSkolemRow.holds Try.pinned (OpenSpec.ofChange fnExactFirstSkolemSpec)

/-- ITS FALSE NEIGHBOUR: 'it returns false'. Refute it at one input. -/
def fnExactFirstSkolemWrong : ChangeSpec := { name := "fnExactFirstSkolem", fn := fun _ => fun
  | [d] => { results := [.lit (.bool false)], args := [d] }
  | _ => none }
def FnExactFirstSkolemWrongFalsely : Prop := fnExactFirstSkolemRow.holds Try.pinned (OpenSpec.ofChange fnExactFirstSkolemWrong)

/-- 'laws.FnExactFirstHooked': WHATEVER THE INPUT: true; the input reads as it did. -/
def fnExactFirstHookedSpec : ChangeSpec := { name := "fnExactFirstHooked", fn := fun _ => fun
  | [d] => { results := [.lit (.bool true)], args := [d] }
  | _ => none }
def fnExactFirstHookedRow : OpenClaim := { program := "ytkffdloophagaaa", sum := "75d01e8cf2db86f4c8c96e774488e14e9c85d7c8a9fdb470a36f46ae7ba779ee", func := "loop.example/g01232/laws.FnExactFirstHooked", spec := "fnExactFirstHooked", unfollowed := true, recurses := true, apart := false }
def FnExactFirstHookedSaid : Prop := fnExactFirstHookedRow.holds Try.pinned (OpenSpec.ofChange fnExactFirstHookedSpec)

/-- ITS FALSE NEIGHBOUR: 'it returns false'. Refute it at one input. -/
def fnExactFirstHookedWrong : ChangeSpec := { name := "fnExactFirstHooked", fn := fun _ => fun
  | [d] => { results := [.lit (.bool false)], args := [d] }
  | _ => none }
def FnExactFirstHookedWrongFalsely : Prop := fnExactFirstHookedRow.holds Try.pinned (OpenSpec.ofChange fnExactFirstHookedWrong)

/-- 'laws.FnExactFirstLangford': WHATEVER THE INPUT: true; the input reads as it did. -/
def fnExactFirstLangfordSpec : ChangeSpec := { name := "fnExactFirstLangford", fn := fun _ => fun
  | [d1, d2] => { results := [.lit (.bool true)], args := [d1, d2] }
  | _ => none }
def fnExactFirstLangfordRow : OpenClaim := { program := "ytkffdloophagaaa", sum := "75d01e8cf2db86f4c8c96e774488e14e9c85d7c8a9fdb470a36f46ae7ba779ee", func := "loop.example/g01232/laws.FnExactFirstLangford", spec := "fnExactFirstLangford", unfollowed := true, recurses := true, apart := false }
def FnExactFirstLangfordSaid : Prop := fnExactFirstLangfordRow.holds Try.pinned (OpenSpec.ofChange fnExactFirstLangfordSpec)

/-- ITS FALSE NEIGHBOUR: 'it returns false'. Refute it at one input. -/
def fnExactFirstLangfordWrong : ChangeSpec := { name := "fnExactFirstLangford", fn := fun _ => fun
  | [d1, d2] => { results := [.lit (.bool false)], args := [d1, d2] }
  | _ => none }
def FnExactFirstLangfordWrongFalsely : Prop := fnExactFirstLangfordRow.holds Try.pinned (OpenSpec.ofChange fnExactFirstLangfordWrong)

/-- 'laws.FnExactNextSkolem': WHATEVER THE INPUT: true; the input reads as it did. -/
def fnExactNextSkolemSpec : ChangeSpec := { name := "fnExactNextSkolem", fn := fun _ => fun
  | [d] => { results := [.lit (.bool true)], args := [d] }
  | _ => none }
def fnExactNextSkolemRow : OpenClaim := { program := "ytkffdloophagaaa", sum := "75d01e8cf2db86f4c8c96e774488e14e9c85d7c8a9fdb470a36f46ae7ba779ee", func := "loop.example/g01232/laws.FnExactNextSkolem", spec := "fnExactNextSkolem", unfollowed := true, recurses := true, apart := false }
def FnExactNextSkolemSaid : Prop := fnExactNextSkolemRow.holds Try.pinned (OpenSpec.ofChange fnExactNextSkolemSpec)

/-- ITS FALSE NEIGHBOUR: 'it returns false'. Refute it at one input. -/
def fnExactNextSkolemWrong : ChangeSpec := { name := "fnExactNextSkolem", fn := fun _ => fun
  | [d] => { results := [.lit (.bool false)], args := [d] }
  | _ => none }
def FnExactNextSkolemWrongFalsely : Prop := fnExactNextSkolemRow.holds Try.pinned (OpenSpec.ofChange fnExactNextSkolemWrong)

/-- 'laws.FnExactRankSkolem': WHATEVER THE INPUT: true; the input reads as it did. -/
def fnExactRankSkolemSpec : ChangeSpec := { name := "fnExactRankSkolem", fn := fun _ => fun
  | [d] => { results := [.lit (.bool true)], args := [d] }
  | _ => none }
def fnExactRankSkolemRow : OpenClaim := { program := "ytkffdloophagaaa", sum := "75d01e8cf2db86f4c8c96e774488e14e9c85d7c8a9fdb470a36f46ae7ba779ee", func := "loop.example/g01232/laws.FnExactRankSkolem", spec := "fnExactRankSkolem", unfollowed := true, recurses := true, apart := false }
def FnExactRankSkolemSaid : Prop := fnExactRankSkolemRow.holds Try.pinned (OpenSpec.ofChange fnExactRankSkolemSpec)

/-- ITS FALSE NEIGHBOUR: 'it returns false'. Refute it at one input. -/
def fnExactRankSkolemWrong : ChangeSpec := { name := "fnExactRankSkolem", fn := fun _ => fun
  | [d] => { results := [.lit (.bool false)], args := [d] }
  | _ => none }
def FnExactRankSkolemWrongFalsely : Prop := fnExactRankSkolemRow.holds Try.pinned (OpenSpec.ofChange fnExactRankSkolemWrong)

/-- 'laws.FnExactCountSplits': WHATEVER THE INPUT: true; the input reads as it did. -/
def fnExactCountSplitsSpec : ChangeSpec := { name := "fnExactCountSplits", fn := fun _ => fun
  | [d] => { results := [.lit (.bool true)], args := [d] }
  | _ => none }
def fnExactCountSplitsRow : OpenClaim := { program := "ytkffdloophagaaa", sum := "75d01e8cf2db86f4c8c96e774488e14e9c85d7c8a9fdb470a36f46ae7ba779ee", func := "loop.example/g01232/laws.FnExactCountSplits", spec := "fnExactCountSplits", unfollowed := true, recurses := true, apart := false }
def FnExactCountSplitsSaid : Prop := fnExactCountSplitsRow.holds Try.pinned (OpenSpec.ofChange fnExactCountSplitsSpec)

/-- ITS FALSE NEIGHBOUR: 'it returns false'. Refute it at one input. -/
def fnExactCountSplitsWrong : ChangeSpec := { name := "fnExactCountSplits", fn := fun _ => fun
  | [d] => { results := [.lit (.bool false)], args := [d] }
  | _ => none }
def FnExactCountSplitsWrongFalsely : Prop := fnExactCountSplitsRow.holds Try.pinned (OpenSpec.ofChange fnExactCountSplitsWrong)

/-- 'laws.FnExactFirstSplit': WHATEVER THE INPUT: true; the input reads as it did. -/
def fnExactFirstSplitSpec : ChangeSpec := { name := "fnExactFirstSplit", fn := fun _ => fun
  | [d] => { results := [.lit (.bool true)], args := [d] }
  | _ => none }
def fnExactFirstSplitRow : OpenClaim := { program := "ytkffdloophagaaa", sum := "75d01e8cf2db86f4c8c96e774488e14e9c85d7c8a9fdb470a36f46ae7ba779ee", func := "loop.example/g01232/laws.FnExactFirstSplit", spec := "fnExactFirstSplit", unfollowed := true, recurses := true, apart := false }
def FnExactFirstSplitSaid : Prop := fnExactFirstSplitRow.holds Try.pinned (OpenSpec.ofChange fnExactFirstSplitSpec)

/-- ITS FALSE NEIGHBOUR: 'it returns false'. Refute it at one input. -/
def fnExactFirstSplitWrong : ChangeSpec := { name := "fnExactFirstSplit", fn := fun _ => fun
  | [d] => { results := [.lit (.bool false)], args := [d] }
  | _ => none }
def FnExactFirstSplitWrongFalsely : Prop := fnExactFirstSplitRow.holds Try.pinned (OpenSpec.ofChange fnExactFirstSplitWrong)

/- THE SECOND FORM. 'bulk': how many values and letters a reading holds, each counted each time it is reached (what is shared counts as often as it is met; a slice's spare places count too). A statement '..UptoSaid' is the law's where the arguments, and the package variables that the reading takes, are together of bulk at most 1048576: NARROWER than '..Said'. Prove '..Said' where nothing that the law and all that it calls make is longer than what came in: it says more and counts as full. Else prove '..UptoSaid'. A law counts once. -/
mutual
def uptoBulk {H : Type} : DataW H → Nat
  | .lit (.string bytes) => bytes.length + 1
  | .lit _ => 1
  | .nil => 1
  | .ptr d => uptoBulk d + 1
  | .slice elems spare => uptoBulkAll elems + uptoBulkAll spare + 1
  | .agg parts => uptoBulkAll parts + 1
  | .iface _ d => uptoBulk d + 1
  | .map entries => uptoBulkEntries entries + 1
  | .held _ => 1
def uptoBulkAll {H : Type} : List (DataW H) → Nat
  | [] => 0
  | d :: r => uptoBulk d + uptoBulkAll r
def uptoBulkEntries {H : Type} : List (Lit × DataW H) → Nat
  | [] => 0
  | x :: r => uptoBulkEntry x + uptoBulkEntries r
def uptoBulkEntry {H : Type} : Lit × DataW H → Nat
  | (.string bytes, d) => bytes.length + uptoBulk d + 1
  | (_, d) => uptoBulk d + 1
 end
def uptoSmall : (H : Type) → List (DataW H) → Bool := fun _ ds => decide (uptoBulkAll ds ≤ 1048576)
def OpenSpec.upto (s : _root_.Go.ChangeSpec) : _root_.Go.OpenSpec := { _root_.Go.OpenSpec.ofChange s with cond := some uptoSmall }

/-- 'laws.FnExactCountSkolem', WHERE WHAT IT READS IS OF BULK AT MOST 1048576: true; the input reads as it did. -/
def fnExactCountSkolemUptoRow : OpenClaim := { program := "ytkffdloophagaaa", sum := "75d01e8cf2db86f4c8c96e774488e14e9c85d7c8a9fdb470a36f46ae7ba779ee", func := "loop.example/g01232/laws.FnExactCountSkolem", spec := "fnExactCountSkolem", unfollowed := true, recurses := true, apart := false, narrowed := true }
def FnExactCountSkolemUptoSaid : Prop := fnExactCountSkolemUptoRow.holds Try.pinned (OpenSpec.upto fnExactCountSkolemSpec)

/-- 'laws.FnExactCountHooked', WHERE WHAT IT READS IS OF BULK AT MOST 1048576: true; the input reads as it did. -/
def fnExactCountHookedUptoRow : OpenClaim := { program := "ytkffdloophagaaa", sum := "75d01e8cf2db86f4c8c96e774488e14e9c85d7c8a9fdb470a36f46ae7ba779ee", func := "loop.example/g01232/laws.FnExactCountHooked", spec := "fnExactCountHooked", unfollowed := true, recurses := true, apart := false, narrowed := true }
def FnExactCountHookedUptoSaid : Prop := fnExactCountHookedUptoRow.holds Try.pinned (OpenSpec.upto fnExactCountHookedSpec)

/-- 'laws.FnExactCountLangford', WHERE WHAT IT READS IS OF BULK AT MOST 1048576: true; the input reads as it did. -/
def fnExactCountLangfordUptoRow : OpenClaim := { program := "ytkffdloophagaaa", sum := "75d01e8cf2db86f4c8c96e774488e14e9c85d7c8a9fdb470a36f46ae7ba779ee", func := "loop.example/g01232/laws.FnExactCountLangford", spec := "fnExactCountLangford", unfollowed := true, recurses := true, apart := false, narrowed := true }
def FnExactCountLangfordUptoSaid : Prop := fnExactCountLangfordUptoRow.holds Try.pinned (OpenSpec.upto fnExactCountLangfordSpec)

/-- 'laws.FnExactCountOneAt', WHERE WHAT IT READS IS OF BULK AT MOST 1048576: true; the input reads as it did. -/
def fnExactCountOneAtUptoRow : OpenClaim := { program := "ytkffdloophagaaa", sum := "75d01e8cf2db86f4c8c96e774488e14e9c85d7c8a9fdb470a36f46ae7ba779ee", func := "loop.example/g01232/laws.FnExactCountOneAt", spec := "fnExactCountOneAt", unfollowed := true, recurses := true, apart := false, narrowed := true }
def FnExactCountOneAtUptoSaid : Prop := fnExactCountOneAtUptoRow.holds Try.pinned (OpenSpec.upto fnExactCountOneAtSpec)

/-- 'laws.FnExactCountWithPair', WHERE WHAT IT READS IS OF BULK AT MOST 1048576: true; the input reads as it did. -/
def fnExactCountWithPairUptoRow : OpenClaim := { program := "ytkffdloophagaaa", sum := "75d01e8cf2db86f4c8c96e774488e14e9c85d7c8a9fdb470a36f46ae7ba779ee", func := "loop.example/g01232/laws.FnExactCountWithPair", spec := "fnExactCountWithPair", unfollowed := true, recurses := true, apart := false, narrowed := true }
def FnExactCountWithPairUptoSaid : Prop := fnExactCountWithPairUptoRow.holds Try.pinned (OpenSpec.upto fnExactCountWithPairSpec)

/-- 'laws.FnExactFirstSkolem', WHERE WHAT IT READS IS OF BULK AT MOST 1048576: true; the input reads as it did. -/
def fnExactFirstSkolemUptoRow : OpenClaim := { program := "ytkffdloophagaaa", sum := "75d01e8cf2db86f4c8c96e774488e14e9c85d7c8a9fdb470a36f46ae7ba779ee", func := "loop.example/g01232/laws.FnExactFirstSkolem", spec := "fnExactFirstSkolem", unfollowed := true, recurses := true, apart := false, narrowed := true }
def FnExactFirstSkolemUptoSaid : Prop := fnExactFirstSkolemUptoRow.holds Try.pinned (OpenSpec.upto fnExactFirstSkolemSpec)

/-- 'laws.FnExactFirstHooked', WHERE WHAT IT READS IS OF BULK AT MOST 1048576: true; the input reads as it did. -/
def fnExactFirstHookedUptoRow : OpenClaim := { program := "ytkffdloophagaaa", sum := "75d01e8cf2db86f4c8c96e774488e14e9c85d7c8a9fdb470a36f46ae7ba779ee", func := "loop.example/g01232/laws.FnExactFirstHooked", spec := "fnExactFirstHooked", unfollowed := true, recurses := true, apart := false, narrowed := true }
def FnExactFirstHookedUptoSaid : Prop := fnExactFirstHookedUptoRow.holds Try.pinned (OpenSpec.upto fnExactFirstHookedSpec)

/-- 'laws.FnExactFirstLangford', WHERE WHAT IT READS IS OF BULK AT MOST 1048576: true; the input reads as it did. -/
def fnExactFirstLangfordUptoRow : OpenClaim := { program := "ytkffdloophagaaa", sum := "75d01e8cf2db86f4c8c96e774488e14e9c85d7c8a9fdb470a36f46ae7ba779ee", func := "loop.example/g01232/laws.FnExactFirstLangford", spec := "fnExactFirstLangford", unfollowed := true, recurses := true, apart := false, narrowed := true }
def FnExactFirstLangfordUptoSaid : Prop := fnExactFirstLangfordUptoRow.holds Try.pinned (OpenSpec.upto fnExactFirstLangfordSpec)

/-- 'laws.FnExactNextSkolem', WHERE WHAT IT READS IS OF BULK AT MOST 1048576: true; the input reads as it did. -/
def fnExactNextSkolemUptoRow : OpenClaim := { program := "ytkffdloophagaaa", sum := "75d01e8cf2db86f4c8c96e774488e14e9c85d7c8a9fdb470a36f46ae7ba779ee", func := "loop.example/g01232/laws.FnExactNextSkolem", spec := "fnExactNextSkolem", unfollowed := true, recurses := true, apart := false, narrowed := true }
def FnExactNextSkolemUptoSaid : Prop := fnExactNextSkolemUptoRow.holds Try.pinned (OpenSpec.upto fnExactNextSkolemSpec)

/-- 'laws.FnExactRankSkolem', WHERE WHAT IT READS IS OF BULK AT MOST 1048576: true; the input reads as it did. -/
def fnExactRankSkolemUptoRow : OpenClaim := { program := "ytkffdloophagaaa", sum := "75d01e8cf2db86f4c8c96e774488e14e9c85d7c8a9fdb470a36f46ae7ba779ee", func := "loop.example/g01232/laws.FnExactRankSkolem", spec := "fnExactRankSkolem", unfollowed := true, recurses := true, apart := false, narrowed := true }
def FnExactRankSkolemUptoSaid : Prop := fnExactRankSkolemUptoRow.holds Try.pinned (OpenSpec.upto fnExactRankSkolemSpec)

/-- 'laws.FnExactCountSplits', WHERE WHAT IT READS IS OF BULK AT MOST 1048576: true; the input reads as it did. -/
def fnExactCountSplitsUptoRow : OpenClaim := { program := "ytkffdloophagaaa", sum := "75d01e8cf2db86f4c8c96e774488e14e9c85d7c8a9fdb470a36f46ae7ba779ee", func := "loop.example/g01232/laws.FnExactCountSplits", spec := "fnExactCountSplits", unfollowed := true, recurses := true, apart := false, narrowed := true }
def FnExactCountSplitsUptoSaid : Prop := fnExactCountSplitsUptoRow.holds Try.pinned (OpenSpec.upto fnExactCountSplitsSpec)

/-- 'laws.FnExactFirstSplit', WHERE WHAT IT READS IS OF BULK AT MOST 1048576: true; the input reads as it did. -/
def fnExactFirstSplitUptoRow : OpenClaim := { program := "ytkffdloophagaaa", sum := "75d01e8cf2db86f4c8c96e774488e14e9c85d7c8a9fdb470a36f46ae7ba779ee", func := "loop.example/g01232/laws.FnExactFirstSplit", spec := "fnExactFirstSplit", unfollowed := true, recurses := true, apart := false, narrowed := true }
def FnExactFirstSplitUptoSaid : Prop := fnExactFirstSplitUptoRow.holds Try.pinned (OpenSpec.upto fnExactFirstSplitSpec)

end Rows
end Go.Proofs.Ytkffdloophagaaa
