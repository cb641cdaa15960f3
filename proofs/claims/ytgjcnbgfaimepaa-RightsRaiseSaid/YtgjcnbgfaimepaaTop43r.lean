/- RightsRaise, out of its parts. -/
import Derived.Test.YtgjcnbgfaimepaaTy
import Derived.Test.YtgjcnbgfaimepaaSane43
import Derived.Test.YtgjcnbgfaimepaaPRight13
set_option linter.unusedVariables false
namespace Go.Proofs.Ytgjcnbgfaimepaa
open Vm
theorem XZ (n:Int) (l:List aE) (a:List Int) (wn:I64 n) (wl:Wl aE.wf l) (fl:Fl aE.fit 72 l) (wa:Wl I64 a) (fa:Fl (fun _=>True) 8 a):gL n l a = some true:=XL aSi n l a (by have:=fl.1; omega) (by have:=fa.1; omega)
end Go.Proofs.Ytgjcnbgfaimepaa
