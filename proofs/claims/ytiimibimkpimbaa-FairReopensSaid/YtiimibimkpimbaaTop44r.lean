/- FairReopens, out of its parts. -/
import Derived.Test.YtiimibimkpimbaaTy
import Derived.Test.YtiimibimkpimbaaSane44
import Derived.Test.YtiimibimkpimbaaPLaw44r
set_option linter.unusedVariables false
namespace Go.Proofs.Ytiimibimkpimbaa
open Vm
theorem aI7 {l:List aA} (w:Wl aA.wf l):∀ e ∈ l,dP e.Sum:=fun e he=>by
 have:=w.2 e he
 unfold aA.wf at this
 exact this.2.2.2.2.2.2.2.2
theorem NF (n r c:Int) (l:List aA) (no day:Int) (wn:W7 n) (wr:W7 r) (wc:W7 c) (wl:Wl aA.wf l) (wo:W7 no) (wd:W7 day):iK n r c l no day = some true:=NQ aJT wn (aI7 wl) no day
end Go.Proofs.Ytiimibimkpimbaa
