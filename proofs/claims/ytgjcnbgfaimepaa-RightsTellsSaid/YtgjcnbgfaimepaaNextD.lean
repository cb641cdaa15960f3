/- graph.next: what it answers. -/
import Derived.Test.YtgjcnbgfaimepaaVmF
namespace Go.Proofs.Ytgjcnbgfaimepaa
namespace Vm
open Go.RowKit
def vI (x:Int):List Int->List Int
 | []=>[x]
 | y :: l=>if x < y then x :: y :: l else if x = y then y :: l else y :: vI x l
def G5 (l:List Int):List Int:=l.foldl (fun s x=>vI x s) []
end Vm
end Go.Proofs.Ytgjcnbgfaimepaa
