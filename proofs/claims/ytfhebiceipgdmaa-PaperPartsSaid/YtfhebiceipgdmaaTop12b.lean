/- The laws of layer 12, out of their parts: PaperParts, PaperPuts, PaperTells. -/
import Derived.Test.YtfhebiceipgdmaaTy
import Derived.Test.YtfhebiceipgdmaaSane12
import Derived.Test.YtfhebiceipgdmaaPLaw12e
set_option linter.unusedVariables false
namespace Go.Proofs.Ytfhebiceipgdmaa
open Vm
theorem top_parts12 (r:GRealm) (f:GFile) (w:GRealm.wf r) (t:GRealm.fit r) (w' : GFile.wf f) (t' : GFile.fit f):mallongelaw12_PaperParts r f = some true:=law12_parts sane12 r f (big_fit t) w
end Go.Proofs.Ytfhebiceipgdmaa
