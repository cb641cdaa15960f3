/- The laws of layer 36, out of their parts. -/
import Derived.Test.YtjllkddmkdajcaaSane36
import Derived.Test.YtjllkddmkdajcaaPLaw36
set_option linter.unusedVariables false
namespace Go.Proofs.Ytjllkddmkdajcaa
open Vm
theorem top_stays36 (r:GRealm) (s:GShown) (day more:Int) (w:GRealm.wf r) (ws:GShown.wf s) (wd:I64 day) (wm:I64 more):mallongelaw36_RefuseStays r s day more = some true:=law36_stays sane36 r s day more w
theorem top_once36 (r:GRealm) (s:GShown) (day:Int) (w:GRealm.wf r) (ws:GShown.wf s) (wd:I64 day):mallongelaw36_RefuseOnce r s day = some true:=law36_once sane36 r s day w
theorem top_tells36 (r:GRealm) (s:GShown) (day:Int) (w:GRealm.wf r) (ws:GShown.wf s) (wd:I64 day):mallongelaw36_RefuseTells r s day = some true:=law36_tells sane36 r s day w
theorem top_names36 (r:GRealm) (s:GShown) (day:Int) (more:List Int) (less:Int) (w:GRealm.wf r) (ws:GShown.wf s) (wd:I64 day) (wm:Wl I64 more) (wl:I64 less):mallongelaw36_RefuseNames r s day more less = some true:=law36_names sane36 r s day more less w
theorem top_days36 (r:GRealm) (s:GShown) (w:GRealm.wf r) (ws:GShown.wf s):mallongelaw36_RefuseDays r s = some true:=law36_days sane36 r s w
end Go.Proofs.Ytjllkddmkdajcaa
