/- graph.next: what it answers. -/
import Derived.Test.YtmekbfccmnjdcaaVmF
set_option linter.unusedVariables false
set_option linter.unusedSimpArgs false
namespace Go.Proofs.Ytmekbfccmnjdcaa
namespace Vm
open Go.RowKit
def edgeD:List D→Option (Int × Int)
 | [.int .i64 a,.int .i64 b]=>some (a,b)
 | _=>none
def insU (x:Int):List Int→List Int
 | []=>[x]
 | y :: l=>if x < y then x :: y :: l else if x = y then y :: l else y :: insU x l
def sortU (l:List Int):List Int:=l.foldl (fun s x=>insU x s) []
def rowN (es:List (Int × Int)) (i:Int):List Int:=(es.filter fun e=>e.1 == i).map fun e=>e.2
def nextL (n:Nat) (es:List (Int × Int)):List (List Int):=(List.range n).map fun i=>sortU (rowN es (i:Nat))
def okE (n:Int) (es:List (Int × Int)):Bool:=decide (0 ≤ n ∧ n ≤ 100000 ∧ es.length ≤ 100000) && es.all fun e=>decide (0 ≤ e.1 ∧ e.1 < n)
def nextO:List D→Option D
 | [.int .i64 n,.sl rows]=>(mapM' edgeD rows).bind fun es=>if okE n es = true then some (.sl (cM (cL cI) (nextL n.toNat es))) else none
 | _=>none
theorem edges_cM {α:Type} (c:α→List D) (p:α→Int × Int) (h:∀ x,edgeD (c x) = some (p x)):∀ xs:List α,mapM' edgeD (cM c xs) = some (xs.map p)
 | []=>rfl
 | x :: xs=>by
  show mapM' edgeD (c x :: cM c xs) = _
  simp only [mapM',h x,edges_cM c p h xs]
  rfl
end Vm
end Go.Proofs.Ytmekbfccmnjdcaa
