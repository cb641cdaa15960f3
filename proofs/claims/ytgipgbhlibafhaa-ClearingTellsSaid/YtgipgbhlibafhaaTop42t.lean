/- ClearingTells, out of its parts. -/
import Derived.Test.YtgipgbhlibafhaaTy
import Derived.Test.YtgipgbhlibafhaaSane42
import Derived.Test.YtgipgbhlibafhaaPLaw42t
set_option linter.unusedVariables false
namespace Go.Proofs.Ytgipgbhlibafhaa
open Vm
theorem top_tells42 (n:Int) (dues:List GDue) (x p:List Int) (wn:I64 n) (wd:Wl GDue.wf dues) (wx:Wl I64 x) (wp:Wl I64 p):mallongelaw42_ClearingTells n dues x p = some true:=law42_tells sane42 n dues x p
end Go.Proofs.Ytgipgbhlibafhaa
