/- The laws of layer 14, out of their parts: RecordDays, RecordSeen. -/
import Derived.Test.YtfhebiceipgdmaaTy
import Derived.Test.YtfhebiceipgdmaaSane14
import Derived.Test.YtfhebiceipgdmaaPRec14e
set_option linter.unusedVariables false
namespace Go.Proofs.Ytfhebiceipgdmaa
open Vm
theorem UZ (r:aA) (f:aB) (a b:Int) (w:aA.wf r) (w' : aB.wf f) (wa:pE a) (wb:pE b):gD r f a b = some true:=S4 aDn r f a b w
end Go.Proofs.Ytfhebiceipgdmaa
