/- The laws of layer 12 (paper): what is struck out. -/
import Derived.Test.YtfhebiceipgdmaaFn
import Derived.Test.YtfhebiceipgdmaaVmG
set_option linter.unusedVariables false
set_option linter.unusedSimpArgs false
namespace Go.Proofs.Ytfhebiceipgdmaa
open Go.RowKit Vm
theorem Z3 {α:Type} [Inhabited α] (l:List α) (i:Nat) (h:i < l.length):l.take (i + 1) = l.take i ++ [el l i]:=by
 rw [vL _ _ h]; simp [h]
theorem qB (a b c:Int):cR a b c = some (decide (b ≤ a ∧ a ≤ c)):=by
 unfold cR
 by_cases h:b ≤ a
 ·rw [if_pos (decide_eq_true (show a ≥ b from h))]; simp [h]
 ·rw [if_neg (fun q=>h (of_decide_eq_true q))]; simp [h]
end Go.Proofs.Ytfhebiceipgdmaa
