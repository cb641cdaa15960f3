/- Lemmas on the answers. -/
import Derived.Test.YtoefdnkjcfoccaaDoorPAudit5
namespace Go.Proofs.YtoefdnkjcfoccaaDoor
open Go.RowKit Vm
def aCg (n:Nat) (seen:List Bool) (p:List Int):Prop:=seen.length = n ∧ ∀ x:Int,0 <= x->x < (n:Int)->seen[x.toNat]? = some (decide (x ∈ p))
theorem aCg.next {n:Nat} {seen:List Bool} {p:List Int} (h:aCg n seen p) {y:Int} (hy:0 <= y ∧ y < (n:Int)):aCg n (seen.set y.toNat true) (p ++ [y]):=by
 refine ⟨by simpa using h.1,fun x h0 h1=>?_⟩
 by_cases e:x = y
 ·subst e
  rw [List.getElem?_set_self (by have:=h.1; omega)]
  simp
 ·rw [List.getElem?_set_ne (by omega),h.2 x h0 h1]
  simp [e]
end Go.Proofs.YtoefdnkjcfoccaaDoor
