/- FairCut, out of its parts. -/
import Derived.Test.YtiimibimkpimbaaTy
import Derived.Test.YtiimibimkpimbaaSane44
import Derived.Test.YtiimibimkpimbaaPLaw44c
set_option linter.unusedVariables false
namespace Go.Proofs.Ytiimibimkpimbaa
open Vm
theorem aJk {l:List aA} (w:Wl aA.wf l):∀ e ∈ l,dY e.Sum:=fun e he=>by
 have:=w.2 e he
 unfold aA.wf at this
 exact this.2.2.2.2.2.2.2.2
theorem aBq (n r c:Int) (l:List aA) (room no:Int) (wn:WM n) (wr:WM r) (wc:WM c) (wl:Wl aA.wf l) (wm:WM room) (wo:WM no):kD n r c l room no = some true:=aBK aJu wn (aJk wl) room no
end Go.Proofs.Ytiimibimkpimbaa
