/- The reference's closing: what it answers. -/
import Derived.Test.YtlpgfmnicomjjaaNextD
set_option linter.unusedVariables false
set_option linter.unusedSimpArgs false
namespace Go.Proofs.Ytlpgfmnicomjjaa
namespace Vm
open Go.RowKit
def edgP (es:List (Int × Int)) (a b:Int):Bool:=es.any fun e=>e.1 == a && e.2 == b
def firstL (f:Int→List Int):Int→Nat→List Int
 | _,0=>[]
 | b,d + 1=>if f b = [] then firstL f (b + 1) d else f b
def headI (l:List Int):Int:=l.getD 0 0
def lastI (l:List Int):Int:=l.getD (l.length - 1) 0
def closeL (es:List (Int × Int)) (n:Int):Nat→List Int→List Int
 | 0,l=>if edgP es (lastI l) (headI l) = true then l else []
 | m + 1,l=>firstL (fun b=>if edgP es (lastI l) b = true then closeL es n m (l ++ [b]) else []) (headI l + 1) (n - (headI l + 1)).toNat
def dIntsC:List (List D)→Option (List Int)
 | []=>some []
 | [.int .i64 n] :: r=>(dIntsC r).map fun l=>n :: l
 | _=>none
theorem dIntsC_cM:∀ l:List Int,dIntsC (cM cI l) = some l
 | []=>rfl
 | n :: l=>by
  show dIntsC ([.int .i64 n] :: cM cI l) = _
  simp [dIntsC,dIntsC_cM l]
def okC (n:Int) (es:List (Int × Int)) (l:List Int) (more:Int):Bool:=decide (-1000000 ≤ n ∧ n ≤ 100000 ∧ es.length ≤ 100000 ∧ 0 < l.length ∧ l.length + more.toNat ≤ 100000 ∧ 0 ≤ more ∧ -1000000 ≤ headI l ∧ headI l ≤ 1000000)
def closeO:List D→Option D
 | [.int .i64 n,.sl rows,.sl lr,.int .i64 more]=>(mapM' edgeD rows).bind fun es=>(dIntsC lr).bind fun l=>if okC n es l more = true then some (.sl (cM cI (closeL es n more.toNat l))) else none
 | _=>none
end Vm
end Go.Proofs.Ytlpgfmnicomjjaa
