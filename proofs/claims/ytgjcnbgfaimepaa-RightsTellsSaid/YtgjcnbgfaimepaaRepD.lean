/- slices.Repeat of one number: what it answers. -/
import Derived.Test.YtgjcnbgfaimepaaVmF
namespace Go.Proofs.Ytgjcnbgfaimepaa
namespace Vm
open Go.RowKit
def aNw (e:Nat):List D->Option D
 | [.sl [[.int .i64 x]],.int .i64 n]=>if 0 <= n ∧ n <= 100000 then some (.own (.ref 0) [(e,1)] [List.replicate n.toNat [.int .i64 x]]) else none
 | _=>none
def aSb:List Int->Int->Option (List Int)
 | [x],n=>if 0 <= n ∧ n <= 100000 then some (List.replicate n.toNat x) else none
 | _,_=>none
theorem aOk (e:Nat) (n:Int):∀ a:List Int,aNw e [.sl (cM cI a),.int .i64 n] = (aSb a n).map fun r=>.own (.ref 0) [(e,1)] [cM cI r]
 | []=>rfl
 | [x]=>by
  show (if _ then some _ else none) = Option.map _ (if _ then some _ else none)
  split
  ·simp only [ä]
   congr 3
   show List.replicate n.toNat [D.int .i64 x] = (List.replicate n.toNat x).map cI
   rw [List.map_replicate]
   rfl
  ·rfl
 | x :: y :: l=>rfl
end Vm
end Go.Proofs.Ytgjcnbgfaimepaa
