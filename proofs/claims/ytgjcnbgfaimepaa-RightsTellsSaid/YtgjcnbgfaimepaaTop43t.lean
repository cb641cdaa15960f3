/- RightsTells, out of its parts. -/
import Derived.Test.YtgjcnbgfaimepaaTy
import Derived.Test.YtgjcnbgfaimepaaSane43
import Derived.Test.YtgjcnbgfaimepaaPLaw43t
set_option linter.unusedVariables false
namespace Go.Proofs.Ytgjcnbgfaimepaa
open Vm
theorem aCw (n:Int) (l:List aF) (a s:List Int) (day:Int) (wn:I64 n) (wl:Wl aF.wf l) (fl:Fl aF.fit 72 l) (wa:Wl I64 a) (fa:Fl (fun _=>True) 8 a) (ws:Wl I64 s) (fs:Fl (fun _=>True) 8 s) (wd:I64 day):jW n l a s day = some true:=aC0 aRT n l a s day (by have:=fl.1; omega) (by have:=fa.1; omega)
end Go.Proofs.Ytgjcnbgfaimepaa
