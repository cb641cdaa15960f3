/- The laws of layer 12, out of their parts. -/
import Derived.Test.YtfhebiceipgdmaaTy
import Derived.Test.YtfhebiceipgdmaaSane12
import Derived.Test.YtfhebiceipgdmaaPLaw12
import Derived.Test.YtfhebiceipgdmaaPLaw12b
set_option linter.unusedVariables false
namespace Go.Proofs.Ytfhebiceipgdmaa
open Vm
theorem top_less12 (r:GRealm) (f:GFile) (w:GRealm.wf r) (t:GRealm.fit r) (w' : GFile.wf f) (t' : GFile.fit f):mallongelaw12_PaperLess r f = some true:=law12_less sane12 r f (big_fit t) w
theorem top_sums12 (r:GRealm) (f:GFile) (sum:Int) (w:GRealm.wf r) (t:GRealm.fit r) (w' : GFile.wf f) (t' : GFile.fit f) (w1:I64 sum):mallongelaw12_PaperSums r f sum = some true:=law12_sums sane12 r f sum (big_fit t) w
end Go.Proofs.Ytfhebiceipgdmaa
