/- Five laws of layer 45, out of their parts. -/
import Derived.Test.YtmekbfccmnjdcaaTy
import Derived.Test.YtmekbfccmnjdcaaSane45
import Derived.Test.YtmekbfccmnjdcaaPLaw45c
set_option linter.unusedVariables false
namespace Go.Proofs.Ytmekbfccmnjdcaa
open Vm
theorem top_unique45 (l:List GLean) (s m:List Bool) (wl:Wl GLean.wf l) (ws:Wl (fun _=>True) s) (wm:Wl (fun _=>True) m):mallongelaw45_UndoUnique l s m = some true:=law45_unique sane45 l s m
theorem top_falls45 (l:List GLean) (s:List Bool) (m:List Int) (wl:Wl GLean.wf l) (ws:Wl (fun _=>True) s) (wm:Wl I64 m):mallongelaw45_UndoFalls l s m = some true:=law45_falls sane45 l s m
theorem top_back45 (l:List GLean) (s:List Bool) (m:List Int) (wl:Wl GLean.wf l) (ws:Wl (fun _=>True) s) (wm:Wl I64 m):mallongelaw45_UndoBack l s m = some true:=law45_back sane45 l s m
theorem top_proves45 (l:List GLean) (s:List Bool) (a:Int) (q:List Int) (wl:Wl GLean.wf l) (ws:Wl (fun _=>True) s) (wa:I64 a) (wq:Wl I64 q):mallongelaw45_UndoProves l s a q = some true:=law45_proves sane45 l s a q
theorem top_reaches45 (l:List GLean) (s:List Bool) (a:Int) (wl:Wl GLean.wf l) (ws:Wl (fun _=>True) s) (wa:I64 a):mallongelaw45_UndoReaches l s a = some true:=law45_reaches sane45 l s a
end Go.Proofs.Ytmekbfccmnjdcaa
