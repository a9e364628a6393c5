/-
  No cell of these rows narrows 'for every input' (looked for: loops, veiled, ifaces, maps, wideKeys, modest, calm, conditions, laid).
  DERIVED. THE GIVEN ROWS OF THIS SEAT. 12 by the template 'for every input the law returns true; each argument reads behind the call as it read before'; 0 by the template 'total and deterministic' (their statements: YtaeamkjmadkjkaaTotals.lean).
  GIVEN WITH THE SEED: the statements are not yours to turn. If you find one false, say at which input.
  Laid BY PROGRAM, IN A SANDBOX (cutbox-rows.mjs): the forced cells as the released guide's own fill.sh prints them over the translation 7cb3225f13d1e363… (all of the seat's roots in one cut). By AI agents, Wed Nov 11 2026. No macro, syntax, notation, axiom, sorry.
-/
import Derived.Test.YtaeamkjmadkjkaaChecked
import GoSem.Claim
import GoSem.ClaimJoined
import GoSem.ClaimMapViews
import Derived.JoinedTies
import Derived.KernelRfl
namespace Go.Proofs.Ytaeamkjmadkjkaa
/- THE CELL 'sum', in the pinned program and in every row, IS THE sha256 OF THE DUMP (.gsa) THAT YtaeamkjmadkjkaaProg.lean LOADS. Nothing in Lean hashes anything: it is a label: what it is worth is what the hold of that sum in a sandbox is worth. -/
noncomputable def Try.pinned : Pinned := { name := "ytaeamkjmadkjkaa", sum := "7cb3225f13d1e3631be4a9a41c406b7daf0d4b42f25785ff7a5e15c8e9366aef", checked := Try.checked }
namespace Rows
def none {H : Type} : Left H := { results := [], args := [] }

/-- 'laws.FnExactConstants': WHATEVER THE INPUT: true; the input reads as it did. -/
def fnExactConstantsSpec : ChangeSpec := { name := "fnExactConstants", fn := fun _ => fun
  | [] => { results := [.lit (.bool true)], args := [] }
  | _ => none }
def fnExactConstantsRow : OpenClaim := { program := "ytaeamkjmadkjkaa", sum := "7cb3225f13d1e3631be4a9a41c406b7daf0d4b42f25785ff7a5e15c8e9366aef", func := "loop.example/g01232/laws.FnExactConstants", spec := "fnExactConstants", apart := false }
def FnExactConstantsSaid : Prop := fnExactConstantsRow.holds Try.pinned (OpenSpec.ofChange fnExactConstantsSpec)

/-- ITS FALSE NEIGHBOUR: 'it returns false'. Refute it at one input. -/
def fnExactConstantsWrong : ChangeSpec := { name := "fnExactConstants", fn := fun _ => fun
  | [] => { results := [.lit (.bool false)], args := [] }
  | _ => none }
def FnExactConstantsWrongFalsely : Prop := fnExactConstantsRow.holds Try.pinned (OpenSpec.ofChange fnExactConstantsWrong)

/-- 'laws.FnExactCountBlocks': WHATEVER THE INPUT: true; the input reads as it did. -/
def fnExactCountBlocksSpec : ChangeSpec := { name := "fnExactCountBlocks", fn := fun _ => fun
  | [d] => { results := [.lit (.bool true)], args := [d] }
  | _ => none }
def fnExactCountBlocksRow : OpenClaim := { program := "ytaeamkjmadkjkaa", sum := "7cb3225f13d1e3631be4a9a41c406b7daf0d4b42f25785ff7a5e15c8e9366aef", func := "loop.example/g01232/laws.FnExactCountBlocks", spec := "fnExactCountBlocks", apart := false }
def FnExactCountBlocksSaid : Prop := fnExactCountBlocksRow.holds Try.pinned (OpenSpec.ofChange fnExactCountBlocksSpec)

/-- ITS FALSE NEIGHBOUR: 'it returns false'. Refute it at one input. -/
def fnExactCountBlocksWrong : ChangeSpec := { name := "fnExactCountBlocks", fn := fun _ => fun
  | [d] => { results := [.lit (.bool false)], args := [d] }
  | _ => none }
def FnExactCountBlocksWrongFalsely : Prop := fnExactCountBlocksRow.holds Try.pinned (OpenSpec.ofChange fnExactCountBlocksWrong)

/-- 'laws.FnExactIsHookedThere': WHATEVER THE INPUT: true; the input reads as it did. -/
def fnExactIsHookedThereSpec : ChangeSpec := { name := "fnExactIsHookedThere", fn := fun _ => fun
  | [d] => { results := [.lit (.bool true)], args := [d] }
  | _ => none }
def fnExactIsHookedThereRow : OpenClaim := { program := "ytaeamkjmadkjkaa", sum := "7cb3225f13d1e3631be4a9a41c406b7daf0d4b42f25785ff7a5e15c8e9366aef", func := "loop.example/g01232/laws.FnExactIsHookedThere", spec := "fnExactIsHookedThere", apart := false }
def FnExactIsHookedThereSaid : Prop := fnExactIsHookedThereRow.holds Try.pinned (OpenSpec.ofChange fnExactIsHookedThereSpec)

/-- ITS FALSE NEIGHBOUR: 'it returns false'. Refute it at one input. -/
def fnExactIsHookedThereWrong : ChangeSpec := { name := "fnExactIsHookedThere", fn := fun _ => fun
  | [d] => { results := [.lit (.bool false)], args := [d] }
  | _ => none }
def FnExactIsHookedThereWrongFalsely : Prop := fnExactIsHookedThereRow.holds Try.pinned (OpenSpec.ofChange fnExactIsHookedThereWrong)

/-- 'laws.FnExactIsSkolemThere': WHATEVER THE INPUT: true; the input reads as it did. -/
def fnExactIsSkolemThereSpec : ChangeSpec := { name := "fnExactIsSkolemThere", fn := fun _ => fun
  | [d] => { results := [.lit (.bool true)], args := [d] }
  | _ => none }
def fnExactIsSkolemThereRow : OpenClaim := { program := "ytaeamkjmadkjkaa", sum := "7cb3225f13d1e3631be4a9a41c406b7daf0d4b42f25785ff7a5e15c8e9366aef", func := "loop.example/g01232/laws.FnExactIsSkolemThere", spec := "fnExactIsSkolemThere", apart := false }
def FnExactIsSkolemThereSaid : Prop := fnExactIsSkolemThereRow.holds Try.pinned (OpenSpec.ofChange fnExactIsSkolemThereSpec)

/-- ITS FALSE NEIGHBOUR: 'it returns false'. Refute it at one input. -/
def fnExactIsSkolemThereWrong : ChangeSpec := { name := "fnExactIsSkolemThere", fn := fun _ => fun
  | [d] => { results := [.lit (.bool false)], args := [d] }
  | _ => none }
def FnExactIsSkolemThereWrongFalsely : Prop := fnExactIsSkolemThereRow.holds Try.pinned (OpenSpec.ofChange fnExactIsSkolemThereWrong)

/-- 'laws.FnExactIsLangfordThere': WHATEVER THE INPUT: true; the input reads as it did. -/
def fnExactIsLangfordThereSpec : ChangeSpec := { name := "fnExactIsLangfordThere", fn := fun _ => fun
  | [d1, d2] => { results := [.lit (.bool true)], args := [d1, d2] }
  | _ => none }
def fnExactIsLangfordThereRow : OpenClaim := { program := "ytaeamkjmadkjkaa", sum := "7cb3225f13d1e3631be4a9a41c406b7daf0d4b42f25785ff7a5e15c8e9366aef", func := "loop.example/g01232/laws.FnExactIsLangfordThere", spec := "fnExactIsLangfordThere", apart := false }
def FnExactIsLangfordThereSaid : Prop := fnExactIsLangfordThereRow.holds Try.pinned (OpenSpec.ofChange fnExactIsLangfordThereSpec)

/-- ITS FALSE NEIGHBOUR: 'it returns false'. Refute it at one input. -/
def fnExactIsLangfordThereWrong : ChangeSpec := { name := "fnExactIsLangfordThere", fn := fun _ => fun
  | [d1, d2] => { results := [.lit (.bool false)], args := [d1, d2] }
  | _ => none }
def FnExactIsLangfordThereWrongFalsely : Prop := fnExactIsLangfordThereRow.holds Try.pinned (OpenSpec.ofChange fnExactIsLangfordThereWrong)

/-- 'laws.FnExactIsRow': WHATEVER THE INPUT: true; the input reads as it did. -/
def fnExactIsRowSpec : ChangeSpec := { name := "fnExactIsRow", fn := fun _ => fun
  | [d] => { results := [.lit (.bool true)], args := [d] }
  | _ => none }
def fnExactIsRowRow : OpenClaim := { program := "ytaeamkjmadkjkaa", sum := "7cb3225f13d1e3631be4a9a41c406b7daf0d4b42f25785ff7a5e15c8e9366aef", func := "loop.example/g01232/laws.FnExactIsRow", spec := "fnExactIsRow", apart := false }
def FnExactIsRowSaid : Prop := fnExactIsRowRow.holds Try.pinned (OpenSpec.ofChange fnExactIsRowSpec)

/-- ITS FALSE NEIGHBOUR: 'it returns false'. Refute it at one input. -/
def fnExactIsRowWrong : ChangeSpec := { name := "fnExactIsRow", fn := fun _ => fun
  | [d] => { results := [.lit (.bool false)], args := [d] }
  | _ => none }
def FnExactIsRowWrongFalsely : Prop := fnExactIsRowRow.holds Try.pinned (OpenSpec.ofChange fnExactIsRowWrong)

/-- 'laws.FnExactIsRuler': WHATEVER THE INPUT: true; the input reads as it did. -/
def fnExactIsRulerSpec : ChangeSpec := { name := "fnExactIsRuler", fn := fun _ => fun
  | [d] => { results := [.lit (.bool true)], args := [d] }
  | _ => none }
def fnExactIsRulerRow : OpenClaim := { program := "ytaeamkjmadkjkaa", sum := "7cb3225f13d1e3631be4a9a41c406b7daf0d4b42f25785ff7a5e15c8e9366aef", func := "loop.example/g01232/laws.FnExactIsRuler", spec := "fnExactIsRuler", apart := false }
def FnExactIsRulerSaid : Prop := fnExactIsRulerRow.holds Try.pinned (OpenSpec.ofChange fnExactIsRulerSpec)

/-- ITS FALSE NEIGHBOUR: 'it returns false'. Refute it at one input. -/
def fnExactIsRulerWrong : ChangeSpec := { name := "fnExactIsRuler", fn := fun _ => fun
  | [d] => { results := [.lit (.bool false)], args := [d] }
  | _ => none }
def FnExactIsRulerWrongFalsely : Prop := fnExactIsRulerRow.holds Try.pinned (OpenSpec.ofChange fnExactIsRulerWrong)

/-- 'laws.FnExactLengthOfRuler': WHATEVER THE INPUT: true; the input reads as it did. -/
def fnExactLengthOfRulerSpec : ChangeSpec := { name := "fnExactLengthOfRuler", fn := fun _ => fun
  | [d] => { results := [.lit (.bool true)], args := [d] }
  | _ => none }
def fnExactLengthOfRulerRow : OpenClaim := { program := "ytaeamkjmadkjkaa", sum := "7cb3225f13d1e3631be4a9a41c406b7daf0d4b42f25785ff7a5e15c8e9366aef", func := "loop.example/g01232/laws.FnExactLengthOfRuler", spec := "fnExactLengthOfRuler", apart := false }
def FnExactLengthOfRulerSaid : Prop := fnExactLengthOfRulerRow.holds Try.pinned (OpenSpec.ofChange fnExactLengthOfRulerSpec)

/-- ITS FALSE NEIGHBOUR: 'it returns false'. Refute it at one input. -/
def fnExactLengthOfRulerWrong : ChangeSpec := { name := "fnExactLengthOfRuler", fn := fun _ => fun
  | [d] => { results := [.lit (.bool false)], args := [d] }
  | _ => none }
def FnExactLengthOfRulerWrongFalsely : Prop := fnExactLengthOfRulerRow.holds Try.pinned (OpenSpec.ofChange fnExactLengthOfRulerWrong)

/-- 'laws.FnExactBackRuler': WHATEVER THE INPUT: true; the input reads as it did. -/
def fnExactBackRulerSpec : ChangeSpec := { name := "fnExactBackRuler", fn := fun _ => fun
  | [d] => { results := [.lit (.bool true)], args := [d] }
  | _ => none }
def fnExactBackRulerRow : OpenClaim := { program := "ytaeamkjmadkjkaa", sum := "7cb3225f13d1e3631be4a9a41c406b7daf0d4b42f25785ff7a5e15c8e9366aef", func := "loop.example/g01232/laws.FnExactBackRuler", spec := "fnExactBackRuler", apart := false }
def FnExactBackRulerSaid : Prop := fnExactBackRulerRow.holds Try.pinned (OpenSpec.ofChange fnExactBackRulerSpec)

/-- ITS FALSE NEIGHBOUR: 'it returns false'. Refute it at one input. -/
def fnExactBackRulerWrong : ChangeSpec := { name := "fnExactBackRuler", fn := fun _ => fun
  | [d] => { results := [.lit (.bool false)], args := [d] }
  | _ => none }
def FnExactBackRulerWrongFalsely : Prop := fnExactBackRulerRow.holds Try.pinned (OpenSpec.ofChange fnExactBackRulerWrong)

/-- 'laws.FnExactTimesMeasured': WHATEVER THE INPUT: true; the input reads as it did. -/
def fnExactTimesMeasuredSpec : ChangeSpec := { name := "fnExactTimesMeasured", fn := fun _ => fun
  | [d1, d2] => { results := [.lit (.bool true)], args := [d1, d2] }
  | _ => none }
def fnExactTimesMeasuredRow : OpenClaim := { program := "ytaeamkjmadkjkaa", sum := "7cb3225f13d1e3631be4a9a41c406b7daf0d4b42f25785ff7a5e15c8e9366aef", func := "loop.example/g01232/laws.FnExactTimesMeasured", spec := "fnExactTimesMeasured", apart := false }
def FnExactTimesMeasuredSaid : Prop := fnExactTimesMeasuredRow.holds Try.pinned (OpenSpec.ofChange fnExactTimesMeasuredSpec)

/-- ITS FALSE NEIGHBOUR: 'it returns false'. Refute it at one input. -/
def fnExactTimesMeasuredWrong : ChangeSpec := { name := "fnExactTimesMeasured", fn := fun _ => fun
  | [d1, d2] => { results := [.lit (.bool false)], args := [d1, d2] }
  | _ => none }
def FnExactTimesMeasuredWrongFalsely : Prop := fnExactTimesMeasuredRow.holds Try.pinned (OpenSpec.ofChange fnExactTimesMeasuredWrong)

/-- 'laws.FnExactIsDifferentAround': WHATEVER THE INPUT: true; the input reads as it did. -/
def fnExactIsDifferentAroundSpec : ChangeSpec := { name := "fnExactIsDifferentAround", fn := fun _ => fun
  | [d1, d2] => { results := [.lit (.bool true)], args := [d1, d2] }
  | _ => none }
def fnExactIsDifferentAroundRow : OpenClaim := { program := "ytaeamkjmadkjkaa", sum := "7cb3225f13d1e3631be4a9a41c406b7daf0d4b42f25785ff7a5e15c8e9366aef", func := "loop.example/g01232/laws.FnExactIsDifferentAround", spec := "fnExactIsDifferentAround", apart := false }
def FnExactIsDifferentAroundSaid : Prop := fnExactIsDifferentAroundRow.holds Try.pinned (OpenSpec.ofChange fnExactIsDifferentAroundSpec)

/-- ITS FALSE NEIGHBOUR: 'it returns false'. Refute it at one input. -/
def fnExactIsDifferentAroundWrong : ChangeSpec := { name := "fnExactIsDifferentAround", fn := fun _ => fun
  | [d1, d2] => { results := [.lit (.bool false)], args := [d1, d2] }
  | _ => none }
def FnExactIsDifferentAroundWrongFalsely : Prop := fnExactIsDifferentAroundRow.holds Try.pinned (OpenSpec.ofChange fnExactIsDifferentAroundWrong)

/-- 'laws.FnExactHolesIn': WHATEVER THE INPUT: true; the input reads as it did. -/
def fnExactHolesInSpec : ChangeSpec := { name := "fnExactHolesIn", fn := fun _ => fun
  | [d] => { results := [.lit (.bool true)], args := [d] }
  | _ => none }
def fnExactHolesInRow : OpenClaim := { program := "ytaeamkjmadkjkaa", sum := "7cb3225f13d1e3631be4a9a41c406b7daf0d4b42f25785ff7a5e15c8e9366aef", func := "loop.example/g01232/laws.FnExactHolesIn", spec := "fnExactHolesIn", apart := false }
def FnExactHolesInSaid : Prop := fnExactHolesInRow.holds Try.pinned (OpenSpec.ofChange fnExactHolesInSpec)

/-- ITS FALSE NEIGHBOUR: 'it returns false'. Refute it at one input. -/
def fnExactHolesInWrong : ChangeSpec := { name := "fnExactHolesIn", fn := fun _ => fun
  | [d] => { results := [.lit (.bool false)], args := [d] }
  | _ => none }
def FnExactHolesInWrongFalsely : Prop := fnExactHolesInRow.holds Try.pinned (OpenSpec.ofChange fnExactHolesInWrong)

/- THE SECOND FORM. 'bulk': how many values and letters a reading holds, each counted each time it is reached (what is shared counts as often as it is met; a slice's spare places count too). A statement '..UptoSaid' is the law's where the arguments, and the package variables that the reading takes, are together of bulk at most 1048576: NARROWER than '..Said'. Prove '..Said' where nothing that the law and all that it calls make is longer than what came in: it says more and counts as full. Else prove '..UptoSaid'. A law counts once. -/
mutual
def uptoBulk {H : Type} : DataW H → Nat
  | .lit (.string bytes) => bytes.length + 1
  | .lit _ => 1
  | .nil => 1
  | .ptr d => uptoBulk d + 1
  | .slice elems spare => uptoBulkAll elems + uptoBulkAll spare + 1
  | .agg parts => uptoBulkAll parts + 1
  | .iface _ d => uptoBulk d + 1
  | .map entries => uptoBulkEntries entries + 1
  | .held _ => 1
def uptoBulkAll {H : Type} : List (DataW H) → Nat
  | [] => 0
  | d :: r => uptoBulk d + uptoBulkAll r
def uptoBulkEntries {H : Type} : List (Lit × DataW H) → Nat
  | [] => 0
  | x :: r => uptoBulkEntry x + uptoBulkEntries r
def uptoBulkEntry {H : Type} : Lit × DataW H → Nat
  | (.string bytes, d) => bytes.length + uptoBulk d + 1
  | (_, d) => uptoBulk d + 1
 end
def uptoSmall : (H : Type) → List (DataW H) → Bool := fun _ ds => decide (uptoBulkAll ds ≤ 1048576)
def OpenSpec.upto (s : _root_.Go.ChangeSpec) : _root_.Go.OpenSpec := { _root_.Go.OpenSpec.ofChange s with cond := some uptoSmall }

/-- 'laws.FnExactConstants', WHERE WHAT IT READS IS OF BULK AT MOST 1048576: true; the input reads as it did. -/
def fnExactConstantsUptoRow : OpenClaim := { program := "ytaeamkjmadkjkaa", sum := "7cb3225f13d1e3631be4a9a41c406b7daf0d4b42f25785ff7a5e15c8e9366aef", func := "loop.example/g01232/laws.FnExactConstants", spec := "fnExactConstants", apart := false, narrowed := true }
def FnExactConstantsUptoSaid : Prop := fnExactConstantsUptoRow.holds Try.pinned (OpenSpec.upto fnExactConstantsSpec)

/-- 'laws.FnExactCountBlocks', WHERE WHAT IT READS IS OF BULK AT MOST 1048576: true; the input reads as it did. -/
def fnExactCountBlocksUptoRow : OpenClaim := { program := "ytaeamkjmadkjkaa", sum := "7cb3225f13d1e3631be4a9a41c406b7daf0d4b42f25785ff7a5e15c8e9366aef", func := "loop.example/g01232/laws.FnExactCountBlocks", spec := "fnExactCountBlocks", apart := false, narrowed := true }
def FnExactCountBlocksUptoSaid : Prop := fnExactCountBlocksUptoRow.holds Try.pinned (OpenSpec.upto fnExactCountBlocksSpec)

/-- 'laws.FnExactIsHookedThere', WHERE WHAT IT READS IS OF BULK AT MOST 1048576: true; the input reads as it did. -/
def fnExactIsHookedThereUptoRow : OpenClaim := { program := "ytaeamkjmadkjkaa", sum := "7cb3225f13d1e3631be4a9a41c406b7daf0d4b42f25785ff7a5e15c8e9366aef", func := "loop.example/g01232/laws.FnExactIsHookedThere", spec := "fnExactIsHookedThere", apart := false, narrowed := true }
def FnExactIsHookedThereUptoSaid : Prop := fnExactIsHookedThereUptoRow.holds Try.pinned (OpenSpec.upto fnExactIsHookedThereSpec)

/-- 'laws.FnExactIsSkolemThere', WHERE WHAT IT READS IS OF BULK AT MOST 1048576: true; the input reads as it did. -/
def fnExactIsSkolemThereUptoRow : OpenClaim := { program := "ytaeamkjmadkjkaa", sum := "7cb3225f13d1e3631be4a9a41c406b7daf0d4b42f25785ff7a5e15c8e9366aef", func := "loop.example/g01232/laws.FnExactIsSkolemThere", spec := "fnExactIsSkolemThere", apart := false, narrowed := true }
def FnExactIsSkolemThereUptoSaid : Prop := fnExactIsSkolemThereUptoRow.holds Try.pinned (OpenSpec.upto fnExactIsSkolemThereSpec)

/-- 'laws.FnExactIsLangfordThere', WHERE WHAT IT READS IS OF BULK AT MOST 1048576: true; the input reads as it did. -/
def fnExactIsLangfordThereUptoRow : OpenClaim := { program := "ytaeamkjmadkjkaa", sum := "7cb3225f13d1e3631be4a9a41c406b7daf0d4b42f25785ff7a5e15c8e9366aef", func := "loop.example/g01232/laws.FnExactIsLangfordThere", spec := "fnExactIsLangfordThere", apart := false, narrowed := true }
def FnExactIsLangfordThereUptoSaid : Prop := fnExactIsLangfordThereUptoRow.holds Try.pinned (OpenSpec.upto fnExactIsLangfordThereSpec)

/-- 'laws.FnExactIsRow', WHERE WHAT IT READS IS OF BULK AT MOST 1048576: true; the input reads as it did. -/
def fnExactIsRowUptoRow : OpenClaim := { program := "ytaeamkjmadkjkaa", sum := "7cb3225f13d1e3631be4a9a41c406b7daf0d4b42f25785ff7a5e15c8e9366aef", func := "loop.example/g01232/laws.FnExactIsRow", spec := "fnExactIsRow", apart := false, narrowed := true }
def FnExactIsRowUptoSaid : Prop := fnExactIsRowUptoRow.holds Try.pinned (OpenSpec.upto fnExactIsRowSpec)

/-- 'laws.FnExactIsRuler', WHERE WHAT IT READS IS OF BULK AT MOST 1048576: true; the input reads as it did. -/
def fnExactIsRulerUptoRow : OpenClaim := { program := "ytaeamkjmadkjkaa", sum := "7cb3225f13d1e3631be4a9a41c406b7daf0d4b42f25785ff7a5e15c8e9366aef", func := "loop.example/g01232/laws.FnExactIsRuler", spec := "fnExactIsRuler", apart := false, narrowed := true }
def FnExactIsRulerUptoSaid : Prop := fnExactIsRulerUptoRow.holds Try.pinned (OpenSpec.upto fnExactIsRulerSpec)

/-- 'laws.FnExactLengthOfRuler', WHERE WHAT IT READS IS OF BULK AT MOST 1048576: true; the input reads as it did. -/
def fnExactLengthOfRulerUptoRow : OpenClaim := { program := "ytaeamkjmadkjkaa", sum := "7cb3225f13d1e3631be4a9a41c406b7daf0d4b42f25785ff7a5e15c8e9366aef", func := "loop.example/g01232/laws.FnExactLengthOfRuler", spec := "fnExactLengthOfRuler", apart := false, narrowed := true }
def FnExactLengthOfRulerUptoSaid : Prop := fnExactLengthOfRulerUptoRow.holds Try.pinned (OpenSpec.upto fnExactLengthOfRulerSpec)

/-- 'laws.FnExactBackRuler', WHERE WHAT IT READS IS OF BULK AT MOST 1048576: true; the input reads as it did. -/
def fnExactBackRulerUptoRow : OpenClaim := { program := "ytaeamkjmadkjkaa", sum := "7cb3225f13d1e3631be4a9a41c406b7daf0d4b42f25785ff7a5e15c8e9366aef", func := "loop.example/g01232/laws.FnExactBackRuler", spec := "fnExactBackRuler", apart := false, narrowed := true }
def FnExactBackRulerUptoSaid : Prop := fnExactBackRulerUptoRow.holds Try.pinned (OpenSpec.upto fnExactBackRulerSpec)

/-- 'laws.FnExactTimesMeasured', WHERE WHAT IT READS IS OF BULK AT MOST 1048576: true; the input reads as it did. -/
def fnExactTimesMeasuredUptoRow : OpenClaim := { program := "ytaeamkjmadkjkaa", sum := "7cb3225f13d1e3631be4a9a41c406b7daf0d4b42f25785ff7a5e15c8e9366aef", func := "loop.example/g01232/laws.FnExactTimesMeasured", spec := "fnExactTimesMeasured", apart := false, narrowed := true }
def FnExactTimesMeasuredUptoSaid : Prop := fnExactTimesMeasuredUptoRow.holds Try.pinned (OpenSpec.upto fnExactTimesMeasuredSpec)

/-- 'laws.FnExactIsDifferentAround', WHERE WHAT IT READS IS OF BULK AT MOST 1048576: true; the input reads as it did. -/
def fnExactIsDifferentAroundUptoRow : OpenClaim := { program := "ytaeamkjmadkjkaa", sum := "7cb3225f13d1e3631be4a9a41c406b7daf0d4b42f25785ff7a5e15c8e9366aef", func := "loop.example/g01232/laws.FnExactIsDifferentAround", spec := "fnExactIsDifferentAround", apart := false, narrowed := true }
def FnExactIsDifferentAroundUptoSaid : Prop := fnExactIsDifferentAroundUptoRow.holds Try.pinned (OpenSpec.upto fnExactIsDifferentAroundSpec)

/-- 'laws.FnExactHolesIn', WHERE WHAT IT READS IS OF BULK AT MOST 1048576: true; the input reads as it did. -/
def fnExactHolesInUptoRow : OpenClaim := { program := "ytaeamkjmadkjkaa", sum := "7cb3225f13d1e3631be4a9a41c406b7daf0d4b42f25785ff7a5e15c8e9366aef", func := "loop.example/g01232/laws.FnExactHolesIn", spec := "fnExactHolesIn", apart := false, narrowed := true }
def FnExactHolesInUptoSaid : Prop := fnExactHolesInUptoRow.holds Try.pinned (OpenSpec.upto fnExactHolesInSpec)

end Rows
end Go.Proofs.Ytaeamkjmadkjkaa
