/- The laws of layer 06 (graph): GraphGrows. -/
import Derived.Test.YtlpgfmnicomjjaaPLaw06d
set_option linter.unusedVariables false
set_option linter.unusedSimpArgs false
namespace Go.Proofs.Ytlpgfmnicomjjaa
open Go.RowKit Vm
def ofH (n:Nat) (es:List GArr2I) (i:Nat) (of:List Int):Prop:=of.length = n ∧ ∀ x,x < n→∀ j,j < i→mutB es (el (leadsN n es) j) x = true→el of x = (j:Int)
theorem ofH.same {n:Nat} {es:List GArr2I} {of:List Int} (h:ofH n es (leadsN n es).length of) {x y:Nat} (hx:x < n) (hy:y < n) (hm:mutB es x y = true):el of x = el of y:=by
 obtain ⟨j,hj,q⟩:=lead_at (es:=es) hx
 rw [h.2 x hx j hj q,h.2 y hy j hj (mutB_trans q hm)]
end Go.Proofs.Ytlpgfmnicomjjaa
