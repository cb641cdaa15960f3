/- AuditShows, out of its parts. -/
import Derived.Test.YtjjcaapdaldedaaTy
import Derived.Test.YtjjcaapdaldedaaSane20
import Derived.Test.YtjjcaapdaldedaaPAudit5
set_option linter.unusedVariables false
namespace Go.Proofs.Ytjjcaapdaldedaa
open Vm
theorem O4 (r:aB) (which:Int) (w:aB.wf r) (wi:Ik .u8 which):iD r which = some true :=
 OH aF1 r which w (by
  have h1:(0:Int) <= which:=wi.1
  have h2:which <= 255:=wi.2
  omega)
end Go.Proofs.Ytjjcaapdaldedaa
