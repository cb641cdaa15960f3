/- What the reference of layer 12 answers: signatures, alterations, acts, facts, the whole. -/
import Derived.Test.YtfhebiceipgdmaaPRef12
set_option linter.unusedVariables false
set_option linter.unusedSimpArgs false
namespace Go.Proofs.Ytfhebiceipgdmaa
open Go.RowKit Vm
end Go.Proofs.Ytfhebiceipgdmaa
