/- What the references of layers 10 and 12 answer: the same as the program's. -/
import Derived.Test.YtfhebiceipgdmaaPLaw12c
set_option linter.unusedVariables false
set_option linter.unusedSimpArgs false
namespace Go.Proofs.Ytfhebiceipgdmaa
open Go.RowKit Vm
def idxB (a n:Int):Bool:=decide (0 ≤ a ∧ a < n)
end Go.Proofs.Ytfhebiceipgdmaa
