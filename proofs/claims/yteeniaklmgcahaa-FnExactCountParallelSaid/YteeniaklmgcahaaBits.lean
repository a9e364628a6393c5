/- Rows of bools, told by the bits of a number: shorter than the rows written out. Conditions: none. -/
import Derived.KernelRfl
namespace Go.RowKit
/-- The first n bits of b. -/
def mb (n b : Nat) : Array Bool := ((List.range n).map fun j => b.testBit j).toArray
end Go.RowKit
