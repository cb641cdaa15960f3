/- The laws of layer 12, out of their parts: PaperParts, PaperPuts, PaperTells. -/
import Derived.Test.YtfhebiceipgdmaaTy
import Derived.Test.YtfhebiceipgdmaaSane12
import Derived.Test.YtfhebiceipgdmaaPLaw12e
set_option linter.unusedVariables false
namespace Go.Proofs.Ytfhebiceipgdmaa
open Vm
theorem S6 (r:aA) (f:aB) (s:aX) (i day:Int) (w:aA.wf r) (t:aA.fit r) (w' : aB.wf f) (t' : aB.fit f) (ws:aX.wf s) (ts:aX.fit s) (wi:pL i) (wd:pL day):hX r f s i day = some true:=TG aKl r f s i day (aGy t) w w' ws
end Go.Proofs.Ytfhebiceipgdmaa
