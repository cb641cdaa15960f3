/- The laws of layer 12 (paper): PaperLess, PaperSums. -/
import Derived.Test.YtfhebiceipgdmaaPPaper2
set_option linter.unusedVariables false
set_option linter.unusedSimpArgs false
namespace Go.Proofs.Ytfhebiceipgdmaa
open Go.RowKit Vm
theorem Z5 {α:Type} [Inhabited α] (l:List α) (n i:Nat) (h:i < n):el (l.take n) i = el l i:=by
 unfold el
 rw [List.getD_eq_getElem?_getD,List.getD_eq_getElem?_getD,List.getElem?_take_of_lt h]
def FK (l:List bE) (s:Int) (i:Int):Int:=l.foldl (fun a x=>if x.At ≤ i then x.Sum else a) s
theorem aEQ (f:aB) (i:Int) (hl:f.Alters.length < 1000):lW f i = some (FK f.Alters f.Bill.Sum i):=by
 have l1:qJ f i f.Bill.Sum 0 = some (FK f.Alters f.Bill.Sum i):=by
  unfold qJ
  refine dB (step:=fun w=>jB f i w.1 w.2) (fun k:Nat=>(FK (f.Alters.take k) f.Bill.Sum i,(k:Int))) f.Alters.length (FK f.Alters f.Bill.Sum i) ?_ ?_
  ·intro k hk
   have e:FK (f.Alters.take (k + 1)) f.Bill.Sum i = if (el f.Alters k).At ≤ i then (el f.Alters k).Sum else FK (f.Alters.take k) f.Bill.Sum i:=by
    unfold FK
    rw [G6 _ _ hk,List.foldl_append]
    rfl
   simp only [jB,i8 hk,if_true,cY _ _ hk,Option.bind_some,b9 (show k < 9223372036854775807 by omega),e,decide_eq_true_eq]
   by_cases c:(el f.Alters k).At ≤ i
   ·rw [if_pos c,if_pos c]
   ·rw [if_neg c,if_neg c]
  ·simp only [jB,kH,if_false,List.take_length]
 unfold lW
 rw [l1]; rfl
theorem WV (l:List bE) (a:bE) (s i:Int):FK (l ++ [a]) s i = if a.At ≤ i then a.Sum else FK l s i:=by
 unfold FK
 rw [List.foldl_append]; rfl
section
variable (hs:fN = some true)
include hs
end
end Go.Proofs.Ytfhebiceipgdmaa
