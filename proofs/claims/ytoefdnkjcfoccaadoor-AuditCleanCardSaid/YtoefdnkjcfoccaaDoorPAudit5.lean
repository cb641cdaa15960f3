/- Lemmas on the answers. -/
import Derived.Test.YtoefdnkjcfoccaaDoorPAudit4
namespace Go.Proofs.YtoefdnkjcfoccaaDoor
open Go.RowKit Vm
theorem aJ2 {r:aB} (f:XN r) (h:YI r):aIv r:=fun i hi=>⟨(f.orderL i hi).1,(h.orders.2 i hi).by_⟩
theorem aND {l:List Int} (i:Nat) (h:i < l.length):el (l.map oB) i = oB (el l i):=by simp [el,h]
theorem aDi (r:aB):∃ b,lA r = some b ∧ (b = true->XN r ∧ r.Orders.length <= 3):=by
 obtain ⟨b,e,h⟩:=aLj r
 unfold lA
 rw [e]
 cases b with
 | false=>exact ⟨false,rfl,fun h=>nomatch h⟩
 | true =>
  refine ⟨decide ((r.Orders.length:Int) <= 3),rfl,fun q=>⟨h rfl,?_⟩⟩
  have:=of_decide_eq_true q
  omega
theorem aHy (r:aB) (fw:XN r) (w:aB.wf r) (hn:r.Orders.length <= 3) {e:Int} (h:nX r = some (if e = 0 then FC r else [],e)):mD r = some (decide (e = 0) && decide ((FC r).length = 0)):=by
 unfold mD
 rw [h]
 simp only [À,beq_iff_eq]
 by_cases h0:e = 0
 ·subst h0
  simp only [Ë,decide_true,ĝ]
  rw [Bool.beq_eq_decide_eq]
  congr 1
  simp
 ·simp only [h0,È,decide_false,Bool.false_and]
end Go.Proofs.YtoefdnkjcfoccaaDoor
