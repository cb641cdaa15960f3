/- slices.Repeat of one number: what it answers. -/
import Derived.Test.YtgjcnbgfaimepaaVmF
set_option linter.unusedVariables false
set_option linter.unusedSimpArgs false
namespace Go.Proofs.Ytgjcnbgfaimepaa
namespace Vm
open Go.RowKit
def aO8 (e:Nat):List D->Option D
 | [.sl [[.int .i64 x]],.int .i64 n]=>if 0 <= n ∧ n <= 100000 then some (.own (.ref 0) [(e,1)] [List.replicate n.toNat [.int .i64 x]]) else none
 | _=>none
def aTH:List Int->Int->Option (List Int)
 | [x],n=>if 0 <= n ∧ n <= 100000 then some (List.replicate n.toNat x) else none
 | _,_=>none
theorem aNu (e:Nat) (n:Int):∀ a:List Int,aO8 e [.sl (cM cI a),.int .i64 n] = (aTH a n).map fun r=>.own (.ref 0) [(e,1)] [cM cI r]
 | []=>rfl
 | [x]=>by
  show (if _ then some _ else none) = Option.map _ (if _ then some _ else none)
  split
  ·simp only [Option.map_some]
   congr 3
   show List.replicate n.toNat [D.int .i64 x] = (List.replicate n.toNat x).map cI
   rw [List.map_replicate]
   rfl
  ·rfl
 | x :: y :: l=>rfl
end Vm
end Go.Proofs.Ytgjcnbgfaimepaa
