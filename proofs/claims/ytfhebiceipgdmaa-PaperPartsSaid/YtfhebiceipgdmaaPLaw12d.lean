/- The laws of layer 12 (paper): the reference's Check, and PaperPuts, PaperTells. -/
import Derived.Test.YtfhebiceipgdmaaPRef12b
set_option linter.unusedVariables false
set_option linter.unusedSimpArgs false
namespace Go.Proofs.Ytfhebiceipgdmaa
open Go.RowKit Vm
end Go.Proofs.Ytfhebiceipgdmaa
