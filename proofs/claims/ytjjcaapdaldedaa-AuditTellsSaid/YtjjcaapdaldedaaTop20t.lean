/- AuditTells, out of its parts. -/
import Derived.Test.YtjjcaapdaldedaaTy
import Derived.Test.YtjjcaapdaldedaaSane20
import Derived.Test.YtjjcaapdaldedaaPAudit9
set_option linter.unusedVariables false
namespace Go.Proofs.Ytjjcaapdaldedaa
open Vm
theorem aA2 (r:aA) (h:aB) (w:aA.wf r) (wh:aB.wf h):jC r h = some true:=aAN aPj r h w
end Go.Proofs.Ytjjcaapdaldedaa
