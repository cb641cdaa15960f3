/- graph.next: what it answers. -/
import Derived.Test.YtgjcnbgfaimepaaVmF
set_option linter.unusedVariables false
set_option linter.unusedSimpArgs false
namespace Go.Proofs.Ytgjcnbgfaimepaa
namespace Vm
open Go.RowKit
def rM (x:Int):List Int->List Int
 | []=>[x]
 | y :: l=>if x < y then x :: y :: l else if x = y then y :: l else y :: rM x l
def AN (l:List Int):List Int:=l.foldl (fun s x=>rM x s) []
end Vm
end Go.Proofs.Ytgjcnbgfaimepaa
