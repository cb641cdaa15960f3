/- The laws of layer 12 (paper): what is struck out. -/
import Derived.Test.YtfhebiceipgdmaaFn
import Derived.Test.YtfhebiceipgdmaaVmG
set_option linter.unusedVariables false
set_option linter.unusedSimpArgs false
namespace Go.Proofs.Ytfhebiceipgdmaa
open Go.RowKit Vm
theorem take_el12 {α:Type} [Inhabited α] (l:List α) (i:Nat) (h:i < l.length):l.take (i + 1) = l.take i ++ [el l i]:=by
 rw [el_lt _ _ h]; simp [h]
theorem few12_spec (f:GFile):∃ b,mallongeref12_Few f = some b ∧ (b = true→f.Signs.length ≤ 42 ∧ f.Alters.length ≤ 6 ∧ f.Acts.length ≤ 102 ∧ f.Facts.length ≤ 202):=by
 unfold mallongeref12_Few
 by_cases h1:(f.Signs.length:Int) ≤ 42
 ·rw [if_pos (decide_eq_true h1)]
  by_cases h2:(f.Alters.length:Int) ≤ 6
  ·rw [if_pos (decide_eq_true h2)]
   by_cases h3:(f.Acts.length:Int) ≤ 102
   ·rw [if_pos (decide_eq_true h3)]
    exact ⟨_,rfl,fun h=>⟨by omega,by omega,by omega,by have:=of_decide_eq_true h; omega⟩⟩
   ·rw [if_neg (fun q=>h3 (of_decide_eq_true q))]
    exact ⟨_,rfl,fun h=>by cases h⟩
  ·rw [if_neg (fun q=>h2 (of_decide_eq_true q))]
   exact ⟨_,rfl,fun h=>by cases h⟩
 ·rw [if_neg (fun q=>h1 (of_decide_eq_true q))]
  exact ⟨_,rfl,fun h=>by cases h⟩
theorem in_eq12 (a b c:Int):mpaper_in a b c = some (decide (b ≤ a ∧ a ≤ c)):=by
 unfold mpaper_in
 by_cases h:b ≤ a
 ·rw [if_pos (decide_eq_true (show a ≥ b from h))]; simp [h]
 ·rw [if_neg (fun q=>h (of_decide_eq_true q))]; simp [h]
end Go.Proofs.Ytfhebiceipgdmaa
