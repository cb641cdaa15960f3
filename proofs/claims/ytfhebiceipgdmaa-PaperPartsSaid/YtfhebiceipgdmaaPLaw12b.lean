/- The laws of layer 12 (paper): PaperLess, PaperSums. -/
import Derived.Test.YtfhebiceipgdmaaPPaper2
set_option linter.unusedVariables false
set_option linter.unusedSimpArgs false
namespace Go.Proofs.Ytfhebiceipgdmaa
open Go.RowKit Vm
theorem el_take {α:Type} [Inhabited α] (l:List α) (n i:Nat) (h:i < n):el (l.take n) i = el l i:=by
 unfold el
 rw [List.getD_eq_getElem?_getD,List.getD_eq_getElem?_getD,List.getElem?_take_of_lt h]
section
variable (hs:mallongelaw12_sane = some true)
include hs
end
end Go.Proofs.Ytfhebiceipgdmaa
