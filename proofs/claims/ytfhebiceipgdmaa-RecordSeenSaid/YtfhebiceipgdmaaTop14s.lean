/- The laws of layer 14, out of their parts: RecordDays, RecordSeen. -/
import Derived.Test.YtfhebiceipgdmaaTy
import Derived.Test.YtfhebiceipgdmaaSane14
import Derived.Test.YtfhebiceipgdmaaPRec14f
set_option linter.unusedVariables false
namespace Go.Proofs.Ytfhebiceipgdmaa
open Vm
theorem VH (r:aA) (f:aB) (d:Int) (w:aA.wf r) (w' : aB.wf f) (wd:pE d):gC r f d = some true:=SC aDn r f d w
end Go.Proofs.Ytfhebiceipgdmaa
