/- The laws of layer 12, out of their parts. -/
import Derived.Test.YtfhebiceipgdmaaTy
import Derived.Test.YtfhebiceipgdmaaSane12
import Derived.Test.YtfhebiceipgdmaaPLaw12
set_option linter.unusedVariables false
namespace Go.Proofs.Ytfhebiceipgdmaa
open Vm
theorem top_struck12 (f:GFile) (day more:Int) (w:GFile.wf f) (wd:I64 day) (wm:I64 more):mallongelaw12_PaperStruck f day more = some true:=law12_struck sane12 f day more
end Go.Proofs.Ytfhebiceipgdmaa
