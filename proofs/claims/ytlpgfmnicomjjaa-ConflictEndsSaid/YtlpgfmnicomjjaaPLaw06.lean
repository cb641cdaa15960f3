/- The laws of layer 06 (graph): GraphReaches. -/
import Derived.Test.YtlpgfmnicomjjaaPGraph
set_option linter.unusedVariables false
set_option linter.unusedSimpArgs false
namespace Go.Proofs.Ytlpgfmnicomjjaa
open Go.RowKit Vm
def midG (n:Int) (es:List GArr2I):Prop:=n ≤ 40 ∧ es.length ≤ 200 ∧ rightG n es
instance (n:Int) (es:List GArr2I):Decidable (midG n es):=by unfold midG; exact inferInstance
theorem at_nat {α:Type} [Inhabited α] {l:List α} {n:Nat} {x:Int} (hl:l.length = n) (h:0 ≤ x ∧ x < (n:Int)):at? l x = some (el l x.toNat):=at_eq l x h.1 (by omega)
end Go.Proofs.Ytlpgfmnicomjjaa
