/- FairNets, out of its parts. -/
import Derived.Test.YtiimibimkpimbaaTy
import Derived.Test.YtiimibimkpimbaaSane44
import Derived.Test.YtiimibimkpimbaaPLaw44n
set_option linter.unusedVariables false
namespace Go.Proofs.Ytiimibimkpimbaa
open Vm
theorem aKv {l:List aA} (w:Wl aA.wf l):∀ e ∈ l,dW e.Sum:=fun e he=>by
 have:=w.2 e he
 unfold aA.wf at this
 exact this.2.2.2.2.2.2.2.2
theorem XA (n r c:Int) (l:List aA) (wn:I64 n) (wr:I64 r) (wc:I64 c) (wl:Wl aA.wf l):jZ n r c l = some true:=XW aJi (aKv wl)
end Go.Proofs.Ytiimibimkpimbaa
