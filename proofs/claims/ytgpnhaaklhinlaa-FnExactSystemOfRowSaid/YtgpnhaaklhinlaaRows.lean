/-
  No cell of these rows narrows 'for every input' (looked for: loops, veiled, ifaces, maps, wideKeys, modest, calm, conditions, laid).
  DERIVED. THE GIVEN ROWS OF THIS SEAT. 9 by the template 'for every input the law returns true; each argument reads behind the call as it read before'; 0 by the template 'total and deterministic' (their statements: YtgpnhaaklhinlaaTotals.lean).
  GIVEN WITH THE SEED: the statements are not yours to turn. If you find one false, say at which input.
  Laid BY PROGRAM, IN A SANDBOX (cutbox-rows.mjs): the forced cells as the released guide's own fill.sh prints them over the translation 1f97334ddf836d85… (all of the seat's roots in one cut). By AI agents, Wed Nov 11 2026. No macro, syntax, notation, axiom, sorry.
-/
import Derived.Test.YtgpnhaaklhinlaaChecked
import GoSem.Claim
import GoSem.ClaimJoined
import GoSem.ClaimMapViews
import Derived.JoinedTies
import Derived.KernelRfl
namespace Go.Proofs.Ytgpnhaaklhinlaa
/- THE CELL 'sum', in the pinned program and in every row, IS THE sha256 OF THE DUMP (.gsa) THAT YtgpnhaaklhinlaaProg.lean LOADS. Nothing in Lean hashes anything: it is a label: what it is worth is what the hold of that sum in a sandbox is worth. -/
noncomputable def Try.pinned : Pinned := { name := "ytgpnhaaklhinlaa", sum := "1f97334ddf836d852f7c1d4df7f1c4747a4211583696f1b8b51b5d9ca00aa30f", checked := Try.checked }
namespace Rows
def none {H : Type} : Left H := { results := [], args := [] }

/-- 'laws.FnExactPairsOfRow': WHATEVER THE INPUT: true; the input reads as it did. -/
def fnExactPairsOfRowSpec : ChangeSpec := { name := "fnExactPairsOfRow", fn := fun _ => fun
  | [d] => { results := [.lit (.bool true)], args := [d] }
  | _ => none }
def fnExactPairsOfRowRow : OpenClaim := { program := "ytgpnhaaklhinlaa", sum := "1f97334ddf836d852f7c1d4df7f1c4747a4211583696f1b8b51b5d9ca00aa30f", func := "loop.example/g01232/laws.FnExactPairsOfRow", spec := "fnExactPairsOfRow", apart := false }
def FnExactPairsOfRowSaid : Prop := fnExactPairsOfRowRow.holds Try.pinned (OpenSpec.ofChange fnExactPairsOfRowSpec)

/-- ITS FALSE NEIGHBOUR: 'it returns false'. Refute it at one input. -/
def fnExactPairsOfRowWrong : ChangeSpec := { name := "fnExactPairsOfRow", fn := fun _ => fun
  | [d] => { results := [.lit (.bool false)], args := [d] }
  | _ => none }
def FnExactPairsOfRowWrongFalsely : Prop := fnExactPairsOfRowRow.holds Try.pinned (OpenSpec.ofChange fnExactPairsOfRowWrong)

/-- 'laws.FnExactTriplesOfRow': WHATEVER THE INPUT: true; the input reads as it did. -/
def fnExactTriplesOfRowSpec : ChangeSpec := { name := "fnExactTriplesOfRow", fn := fun _ => fun
  | [d] => { results := [.lit (.bool true)], args := [d] }
  | _ => none }
def fnExactTriplesOfRowRow : OpenClaim := { program := "ytgpnhaaklhinlaa", sum := "1f97334ddf836d852f7c1d4df7f1c4747a4211583696f1b8b51b5d9ca00aa30f", func := "loop.example/g01232/laws.FnExactTriplesOfRow", spec := "fnExactTriplesOfRow", apart := false }
def FnExactTriplesOfRowSaid : Prop := fnExactTriplesOfRowRow.holds Try.pinned (OpenSpec.ofChange fnExactTriplesOfRowSpec)

/-- ITS FALSE NEIGHBOUR: 'it returns false'. Refute it at one input. -/
def fnExactTriplesOfRowWrong : ChangeSpec := { name := "fnExactTriplesOfRow", fn := fun _ => fun
  | [d] => { results := [.lit (.bool false)], args := [d] }
  | _ => none }
def FnExactTriplesOfRowWrongFalsely : Prop := fnExactTriplesOfRowRow.holds Try.pinned (OpenSpec.ofChange fnExactTriplesOfRowWrong)

/-- 'laws.FnExactRowOfTriples': WHATEVER THE INPUT: true; the input reads as it did. -/
def fnExactRowOfTriplesSpec : ChangeSpec := { name := "fnExactRowOfTriples", fn := fun _ => fun
  | [d] => { results := [.lit (.bool true)], args := [d] }
  | _ => none }
def fnExactRowOfTriplesRow : OpenClaim := { program := "ytgpnhaaklhinlaa", sum := "1f97334ddf836d852f7c1d4df7f1c4747a4211583696f1b8b51b5d9ca00aa30f", func := "loop.example/g01232/laws.FnExactRowOfTriples", spec := "fnExactRowOfTriples", unfollowed := true, recurses := true, apart := false }
def FnExactRowOfTriplesSaid : Prop := fnExactRowOfTriplesRow.holds Try.pinned (OpenSpec.ofChange fnExactRowOfTriplesSpec)

/-- ITS FALSE NEIGHBOUR: 'it returns false'. Refute it at one input. -/
def fnExactRowOfTriplesWrong : ChangeSpec := { name := "fnExactRowOfTriples", fn := fun _ => fun
  | [d] => { results := [.lit (.bool false)], args := [d] }
  | _ => none }
def FnExactRowOfTriplesWrongFalsely : Prop := fnExactRowOfTriplesRow.holds Try.pinned (OpenSpec.ofChange fnExactRowOfTriplesWrong)

/-- 'laws.FnExactAllHooked': WHATEVER THE INPUT: true; the input reads as it did. -/
def fnExactAllHookedSpec : ChangeSpec := { name := "fnExactAllHooked", fn := fun _ => fun
  | [d] => { results := [.lit (.bool true)], args := [d] }
  | _ => none }
def fnExactAllHookedRow : OpenClaim := { program := "ytgpnhaaklhinlaa", sum := "1f97334ddf836d852f7c1d4df7f1c4747a4211583696f1b8b51b5d9ca00aa30f", func := "loop.example/g01232/laws.FnExactAllHooked", spec := "fnExactAllHooked", unfollowed := true, recurses := true, apart := false }
def FnExactAllHookedSaid : Prop := fnExactAllHookedRow.holds Try.pinned (OpenSpec.ofChange fnExactAllHookedSpec)

/-- ITS FALSE NEIGHBOUR: 'it returns false'. Refute it at one input. -/
def fnExactAllHookedWrong : ChangeSpec := { name := "fnExactAllHooked", fn := fun _ => fun
  | [d] => { results := [.lit (.bool false)], args := [d] }
  | _ => none }
def FnExactAllHookedWrongFalsely : Prop := fnExactAllHookedRow.holds Try.pinned (OpenSpec.ofChange fnExactAllHookedWrong)

/-- 'laws.FnExactAllSkolem': WHATEVER THE INPUT: true; the input reads as it did. -/
def fnExactAllSkolemSpec : ChangeSpec := { name := "fnExactAllSkolem", fn := fun _ => fun
  | [d] => { results := [.lit (.bool true)], args := [d] }
  | _ => none }
def fnExactAllSkolemRow : OpenClaim := { program := "ytgpnhaaklhinlaa", sum := "1f97334ddf836d852f7c1d4df7f1c4747a4211583696f1b8b51b5d9ca00aa30f", func := "loop.example/g01232/laws.FnExactAllSkolem", spec := "fnExactAllSkolem", unfollowed := true, recurses := true, apart := false }
def FnExactAllSkolemSaid : Prop := fnExactAllSkolemRow.holds Try.pinned (OpenSpec.ofChange fnExactAllSkolemSpec)

/-- ITS FALSE NEIGHBOUR: 'it returns false'. Refute it at one input. -/
def fnExactAllSkolemWrong : ChangeSpec := { name := "fnExactAllSkolem", fn := fun _ => fun
  | [d] => { results := [.lit (.bool false)], args := [d] }
  | _ => none }
def FnExactAllSkolemWrongFalsely : Prop := fnExactAllSkolemRow.holds Try.pinned (OpenSpec.ofChange fnExactAllSkolemWrong)

/-- 'laws.FnExactAllLangford': WHATEVER THE INPUT: true; the input reads as it did. -/
def fnExactAllLangfordSpec : ChangeSpec := { name := "fnExactAllLangford", fn := fun _ => fun
  | [d1, d2] => { results := [.lit (.bool true)], args := [d1, d2] }
  | _ => none }
def fnExactAllLangfordRow : OpenClaim := { program := "ytgpnhaaklhinlaa", sum := "1f97334ddf836d852f7c1d4df7f1c4747a4211583696f1b8b51b5d9ca00aa30f", func := "loop.example/g01232/laws.FnExactAllLangford", spec := "fnExactAllLangford", unfollowed := true, recurses := true, apart := false }
def FnExactAllLangfordSaid : Prop := fnExactAllLangfordRow.holds Try.pinned (OpenSpec.ofChange fnExactAllLangfordSpec)

/-- ITS FALSE NEIGHBOUR: 'it returns false'. Refute it at one input. -/
def fnExactAllLangfordWrong : ChangeSpec := { name := "fnExactAllLangford", fn := fun _ => fun
  | [d1, d2] => { results := [.lit (.bool false)], args := [d1, d2] }
  | _ => none }
def FnExactAllLangfordWrongFalsely : Prop := fnExactAllLangfordRow.holds Try.pinned (OpenSpec.ofChange fnExactAllLangfordWrong)

/-- 'laws.FnExactAllSplits': WHATEVER THE INPUT: true; the input reads as it did. -/
def fnExactAllSplitsSpec : ChangeSpec := { name := "fnExactAllSplits", fn := fun _ => fun
  | [d] => { results := [.lit (.bool true)], args := [d] }
  | _ => none }
def fnExactAllSplitsRow : OpenClaim := { program := "ytgpnhaaklhinlaa", sum := "1f97334ddf836d852f7c1d4df7f1c4747a4211583696f1b8b51b5d9ca00aa30f", func := "loop.example/g01232/laws.FnExactAllSplits", spec := "fnExactAllSplits", unfollowed := true, recurses := true, apart := false }
def FnExactAllSplitsSaid : Prop := fnExactAllSplitsRow.holds Try.pinned (OpenSpec.ofChange fnExactAllSplitsSpec)

/-- ITS FALSE NEIGHBOUR: 'it returns false'. Refute it at one input. -/
def fnExactAllSplitsWrong : ChangeSpec := { name := "fnExactAllSplits", fn := fun _ => fun
  | [d] => { results := [.lit (.bool false)], args := [d] }
  | _ => none }
def FnExactAllSplitsWrongFalsely : Prop := fnExactAllSplitsRow.holds Try.pinned (OpenSpec.ofChange fnExactAllSplitsWrong)

/-- 'laws.FnExactCircleBlocks': WHATEVER THE INPUT: true; the input reads as it did. -/
def fnExactCircleBlocksSpec : ChangeSpec := { name := "fnExactCircleBlocks", fn := fun _ => fun
  | [d1, d2] => { results := [.lit (.bool true)], args := [d1, d2] }
  | _ => none }
def fnExactCircleBlocksRow : OpenClaim := { program := "ytgpnhaaklhinlaa", sum := "1f97334ddf836d852f7c1d4df7f1c4747a4211583696f1b8b51b5d9ca00aa30f", func := "loop.example/g01232/laws.FnExactCircleBlocks", spec := "fnExactCircleBlocks", unfollowed := true, recurses := true, apart := false }
def FnExactCircleBlocksSaid : Prop := fnExactCircleBlocksRow.holds Try.pinned (OpenSpec.ofChange fnExactCircleBlocksSpec)

/-- ITS FALSE NEIGHBOUR: 'it returns false'. Refute it at one input. -/
def fnExactCircleBlocksWrong : ChangeSpec := { name := "fnExactCircleBlocks", fn := fun _ => fun
  | [d1, d2] => { results := [.lit (.bool false)], args := [d1, d2] }
  | _ => none }
def FnExactCircleBlocksWrongFalsely : Prop := fnExactCircleBlocksRow.holds Try.pinned (OpenSpec.ofChange fnExactCircleBlocksWrong)

/-- 'laws.FnExactSystemOfRow': WHATEVER THE INPUT: true; the input reads as it did. -/
def fnExactSystemOfRowSpec : ChangeSpec := { name := "fnExactSystemOfRow", fn := fun _ => fun
  | [d] => { results := [.lit (.bool true)], args := [d] }
  | _ => none }
def fnExactSystemOfRowRow : OpenClaim := { program := "ytgpnhaaklhinlaa", sum := "1f97334ddf836d852f7c1d4df7f1c4747a4211583696f1b8b51b5d9ca00aa30f", func := "loop.example/g01232/laws.FnExactSystemOfRow", spec := "fnExactSystemOfRow", unfollowed := true, recurses := true, apart := false }
def FnExactSystemOfRowSaid : Prop := fnExactSystemOfRowRow.holds Try.pinned (OpenSpec.ofChange fnExactSystemOfRowSpec)

/-- ITS FALSE NEIGHBOUR: 'it returns false'. Refute it at one input. -/
def fnExactSystemOfRowWrong : ChangeSpec := { name := "fnExactSystemOfRow", fn := fun _ => fun
  | [d] => { results := [.lit (.bool false)], args := [d] }
  | _ => none }
def FnExactSystemOfRowWrongFalsely : Prop := fnExactSystemOfRowRow.holds Try.pinned (OpenSpec.ofChange fnExactSystemOfRowWrong)

/- THE SECOND FORM. 'bulk': how many values and letters a reading holds, each counted each time it is reached (what is shared counts as often as it is met; a slice's spare places count too). A statement '..UptoSaid' is the law's where the arguments, and the package variables that the reading takes, are together of bulk at most 1048576: NARROWER than '..Said'. Prove '..Said' where nothing that the law and all that it calls make is longer than what came in: it says more and counts as full. Else prove '..UptoSaid'. A law counts once. -/
mutual
def uptoBulk {H : Type} : DataW H → Nat
  | .lit (.string bytes) => bytes.length + 1
  | .lit _ => 1
  | .nil => 1
  | .ptr d => uptoBulk d + 1
  | .slice elems spare => uptoBulkAll elems + uptoBulkAll spare + 1
  | .agg parts => uptoBulkAll parts + 1
  | .iface _ d => uptoBulk d + 1
  | .map entries => uptoBulkEntries entries + 1
  | .held _ => 1
def uptoBulkAll {H : Type} : List (DataW H) → Nat
  | [] => 0
  | d :: r => uptoBulk d + uptoBulkAll r
def uptoBulkEntries {H : Type} : List (Lit × DataW H) → Nat
  | [] => 0
  | x :: r => uptoBulkEntry x + uptoBulkEntries r
def uptoBulkEntry {H : Type} : Lit × DataW H → Nat
  | (.string bytes, d) => bytes.length + uptoBulk d + 1
  | (_, d) => uptoBulk d + 1
 end
def uptoSmall : (H : Type) → List (DataW H) → Bool := fun _ ds => decide (uptoBulkAll ds ≤ 1048576)
def OpenSpec.upto (s : _root_.Go.ChangeSpec) : _root_.Go.OpenSpec := { _root_.Go.OpenSpec.ofChange s with cond := some uptoSmall }

/-- 'laws.FnExactPairsOfRow', WHERE WHAT IT READS IS OF BULK AT MOST 1048576: true; the input reads as it did. -/
def fnExactPairsOfRowUptoRow : OpenClaim := { program := "ytgpnhaaklhinlaa", sum := "1f97334ddf836d852f7c1d4df7f1c4747a4211583696f1b8b51b5d9ca00aa30f", func := "loop.example/g01232/laws.FnExactPairsOfRow", spec := "fnExactPairsOfRow", apart := false, narrowed := true }
def FnExactPairsOfRowUptoSaid : Prop := fnExactPairsOfRowUptoRow.holds Try.pinned (OpenSpec.upto fnExactPairsOfRowSpec)

/-- 'laws.FnExactTriplesOfRow', WHERE WHAT IT READS IS OF BULK AT MOST 1048576: true; the input reads as it did. -/
def fnExactTriplesOfRowUptoRow : OpenClaim := { program := "ytgpnhaaklhinlaa", sum := "1f97334ddf836d852f7c1d4df7f1c4747a4211583696f1b8b51b5d9ca00aa30f", func := "loop.example/g01232/laws.FnExactTriplesOfRow", spec := "fnExactTriplesOfRow", apart := false, narrowed := true }
def FnExactTriplesOfRowUptoSaid : Prop := fnExactTriplesOfRowUptoRow.holds Try.pinned (OpenSpec.upto fnExactTriplesOfRowSpec)

/-- 'laws.FnExactRowOfTriples', WHERE WHAT IT READS IS OF BULK AT MOST 1048576: true; the input reads as it did. -/
def fnExactRowOfTriplesUptoRow : OpenClaim := { program := "ytgpnhaaklhinlaa", sum := "1f97334ddf836d852f7c1d4df7f1c4747a4211583696f1b8b51b5d9ca00aa30f", func := "loop.example/g01232/laws.FnExactRowOfTriples", spec := "fnExactRowOfTriples", unfollowed := true, recurses := true, apart := false, narrowed := true }
def FnExactRowOfTriplesUptoSaid : Prop := fnExactRowOfTriplesUptoRow.holds Try.pinned (OpenSpec.upto fnExactRowOfTriplesSpec)

/-- 'laws.FnExactAllHooked', WHERE WHAT IT READS IS OF BULK AT MOST 1048576: true; the input reads as it did. -/
def fnExactAllHookedUptoRow : OpenClaim := { program := "ytgpnhaaklhinlaa", sum := "1f97334ddf836d852f7c1d4df7f1c4747a4211583696f1b8b51b5d9ca00aa30f", func := "loop.example/g01232/laws.FnExactAllHooked", spec := "fnExactAllHooked", unfollowed := true, recurses := true, apart := false, narrowed := true }
def FnExactAllHookedUptoSaid : Prop := fnExactAllHookedUptoRow.holds Try.pinned (OpenSpec.upto fnExactAllHookedSpec)

/-- 'laws.FnExactAllSkolem', WHERE WHAT IT READS IS OF BULK AT MOST 1048576: true; the input reads as it did. -/
def fnExactAllSkolemUptoRow : OpenClaim := { program := "ytgpnhaaklhinlaa", sum := "1f97334ddf836d852f7c1d4df7f1c4747a4211583696f1b8b51b5d9ca00aa30f", func := "loop.example/g01232/laws.FnExactAllSkolem", spec := "fnExactAllSkolem", unfollowed := true, recurses := true, apart := false, narrowed := true }
def FnExactAllSkolemUptoSaid : Prop := fnExactAllSkolemUptoRow.holds Try.pinned (OpenSpec.upto fnExactAllSkolemSpec)

/-- 'laws.FnExactAllLangford', WHERE WHAT IT READS IS OF BULK AT MOST 1048576: true; the input reads as it did. -/
def fnExactAllLangfordUptoRow : OpenClaim := { program := "ytgpnhaaklhinlaa", sum := "1f97334ddf836d852f7c1d4df7f1c4747a4211583696f1b8b51b5d9ca00aa30f", func := "loop.example/g01232/laws.FnExactAllLangford", spec := "fnExactAllLangford", unfollowed := true, recurses := true, apart := false, narrowed := true }
def FnExactAllLangfordUptoSaid : Prop := fnExactAllLangfordUptoRow.holds Try.pinned (OpenSpec.upto fnExactAllLangfordSpec)

/-- 'laws.FnExactAllSplits', WHERE WHAT IT READS IS OF BULK AT MOST 1048576: true; the input reads as it did. -/
def fnExactAllSplitsUptoRow : OpenClaim := { program := "ytgpnhaaklhinlaa", sum := "1f97334ddf836d852f7c1d4df7f1c4747a4211583696f1b8b51b5d9ca00aa30f", func := "loop.example/g01232/laws.FnExactAllSplits", spec := "fnExactAllSplits", unfollowed := true, recurses := true, apart := false, narrowed := true }
def FnExactAllSplitsUptoSaid : Prop := fnExactAllSplitsUptoRow.holds Try.pinned (OpenSpec.upto fnExactAllSplitsSpec)

/-- 'laws.FnExactCircleBlocks', WHERE WHAT IT READS IS OF BULK AT MOST 1048576: true; the input reads as it did. -/
def fnExactCircleBlocksUptoRow : OpenClaim := { program := "ytgpnhaaklhinlaa", sum := "1f97334ddf836d852f7c1d4df7f1c4747a4211583696f1b8b51b5d9ca00aa30f", func := "loop.example/g01232/laws.FnExactCircleBlocks", spec := "fnExactCircleBlocks", unfollowed := true, recurses := true, apart := false, narrowed := true }
def FnExactCircleBlocksUptoSaid : Prop := fnExactCircleBlocksUptoRow.holds Try.pinned (OpenSpec.upto fnExactCircleBlocksSpec)

/-- 'laws.FnExactSystemOfRow', WHERE WHAT IT READS IS OF BULK AT MOST 1048576: true; the input reads as it did. -/
def fnExactSystemOfRowUptoRow : OpenClaim := { program := "ytgpnhaaklhinlaa", sum := "1f97334ddf836d852f7c1d4df7f1c4747a4211583696f1b8b51b5d9ca00aa30f", func := "loop.example/g01232/laws.FnExactSystemOfRow", spec := "fnExactSystemOfRow", unfollowed := true, recurses := true, apart := false, narrowed := true }
def FnExactSystemOfRowUptoSaid : Prop := fnExactSystemOfRowUptoRow.holds Try.pinned (OpenSpec.upto fnExactSystemOfRowSpec)

end Rows
end Go.Proofs.Ytgpnhaaklhinlaa
