/- UndoTells, out of its parts. -/
import Derived.Test.YtmekbfccmnjdcaaTy
import Derived.Test.YtmekbfccmnjdcaaSane45
import Derived.Test.YtmekbfccmnjdcaaPLaw45t
set_option linter.unusedVariables false
namespace Go.Proofs.Ytmekbfccmnjdcaa
open Vm
theorem top_tells45 (l:List GLean) (s:List Bool) (q:List Int) (a:Int) (st:Bool) (wl:Wl GLean.wf l) (ws:Wl (fun _=>True) s) (wq:Wl I64 q) (wa:I64 a):mallongelaw45_UndoTells l s q a st = some true:=law45_tells sane45 l s q a st
end Go.Proofs.Ytmekbfccmnjdcaa
