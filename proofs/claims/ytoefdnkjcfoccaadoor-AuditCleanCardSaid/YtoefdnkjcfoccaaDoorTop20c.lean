/- The law. -/
import Derived.Test.YtoefdnkjcfoccaaDoorTy
import Derived.Test.YtoefdnkjcfoccaaDoorSane20
import Derived.Test.YtoefdnkjcfoccaaDoorPClean20
set_option linter.unusedVariables false
namespace Go.Proofs.YtoefdnkjcfoccaaDoor
open Vm
theorem ZJ (r:aB) (f q:Int) (P:List Int) (w:aB.wf r) (wf:PA f) (wq:PA q) (wp:Wl PA P):iD r f q P = some true:=aBv aSZ r f q P w
end Go.Proofs.YtoefdnkjcfoccaaDoor
