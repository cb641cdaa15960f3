/- FairOrder, out of its parts. -/
import Derived.Test.YtiimibimkpimbaaTy
import Derived.Test.YtiimibimkpimbaaSane44
import Derived.Test.YtiimibimkpimbaaPLaw44o
set_option linter.unusedVariables false
namespace Go.Proofs.Ytiimibimkpimbaa
open Vm
theorem aIO {l:List aA} (w:Wl aA.wf l):∀ e ∈ l,dO e.Sum:=fun e he=>by
 have:=w.2 e he
 unfold aA.wf at this
 exact this.2.2.2.2.2.2.2.2
theorem aH6 {l:List Int} (w:Wl (Ik .u8) l):∀ x ∈ l,0 ≤ x ∧ x ≤ 255:=fun x hx=>w.2 x hx
theorem SU (n r c:Int) (l:List aA) (sw tw:List Int) (wn:I64 n) (wr:I64 r) (wc:I64 c) (wl:Wl aA.wf l) (ws:Wl (Ik .u8) sw) (wt:Wl (Ik .u8) tw):iS n r c l sw tw = some true:=QV aI6 wn (aIO wl) (aH6 ws) (aH6 wt)
end Go.Proofs.Ytiimibimkpimbaa
