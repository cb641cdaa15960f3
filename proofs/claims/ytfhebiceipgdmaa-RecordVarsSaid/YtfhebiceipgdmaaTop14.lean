/- The laws of layer 14, out of their parts: RecordTells, RecordVars, RecordFacts. -/
import Derived.Test.YtfhebiceipgdmaaTy
import Derived.Test.YtfhebiceipgdmaaSane14
import Derived.Test.YtfhebiceipgdmaaPLaw14
set_option linter.unusedVariables false
namespace Go.Proofs.Ytfhebiceipgdmaa
open Vm
theorem top_tells14 (r:GRealm) (c:GCase) (d k a:Int) (w:GRealm.wf r) (w' : GCase.wf c) (wd:I64 d) (wk:I64 k) (wa:I64 a):mallongelaw14_RecordTells r c d k a = some true:=law14_tells sane14 r c d k a
theorem top_vars14 (r:GRealm) (c:GCase) (more:List GFact) (w:GRealm.wf r) (w' : GCase.wf c) (wm:Wl GFact.wf more):mallongelaw14_RecordVars r c more = some true:=law14_vars sane14 r c more
theorem top_facts14 (f:GFile) (x:GFact) (k a:Int) (w:GFile.wf f) (w' : GFact.wf x) (wk:I64 k) (wa:I64 a):mallongelaw14_RecordFacts f x k a = some true:=law14_facts sane14 f x k a
end Go.Proofs.Ytfhebiceipgdmaa
