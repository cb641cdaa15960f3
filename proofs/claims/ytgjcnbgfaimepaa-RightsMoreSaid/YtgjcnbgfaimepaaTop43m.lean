/- RightsMore, out of its parts. -/
import Derived.Test.YtgjcnbgfaimepaaTy
import Derived.Test.YtgjcnbgfaimepaaSane43
import Derived.Test.YtgjcnbgfaimepaaPRight5
set_option linter.unusedVariables false
namespace Go.Proofs.Ytgjcnbgfaimepaa
open Vm
theorem aQb {n:Int} (w:Ik .u8 n):0 <= n ∧ n <= 255:=w
theorem Z6 (n:Int) (l:List aE) (k:Int) (wn:I64 n) (wl:Wl aE.wf l) (fl:Fl aE.fit 72 l) (wk:Ik .u8 k):gB n l k = some true:=aB8 aQ0 n l k (by have:=fl.1; omega) (by have:=aQb wk; omega)
end Go.Proofs.Ytgjcnbgfaimepaa
