/- The laws of layer 12 (paper): PaperPuts, PaperTells. -/
import Derived.Test.YtfhebiceipgdmaaPLaw12d
set_option linter.unusedVariables false
set_option linter.unusedSimpArgs false
namespace Go.Proofs.Ytfhebiceipgdmaa
open Go.RowKit Vm
section
variable (hs:mallongelaw12_sane = some true)
include hs
end
end Go.Proofs.Ytfhebiceipgdmaa
