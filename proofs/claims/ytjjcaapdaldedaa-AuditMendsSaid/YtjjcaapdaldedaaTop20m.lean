/- AuditMends, out of its parts. -/
import Derived.Test.YtjjcaapdaldedaaTy
import Derived.Test.YtjjcaapdaldedaaSane20
import Derived.Test.YtjjcaapdaldedaaPAudit10
set_option linter.unusedVariables false
namespace Go.Proofs.Ytjjcaapdaldedaa
open Vm
theorem X5 (r:aB) (w:aB.wf r):iF r = some true:=WM aLx r w
end Go.Proofs.Ytjjcaapdaldedaa
