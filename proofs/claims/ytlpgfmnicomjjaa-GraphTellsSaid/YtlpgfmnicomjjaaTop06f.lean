/- The laws of layer 06, out of their parts: GraphTells. -/
import Derived.Test.YtlpgfmnicomjjaaTy
import Derived.Test.YtlpgfmnicomjjaaSane06
import Derived.Test.YtlpgfmnicomjjaaPLaw06f
set_option linter.unusedVariables false
namespace Go.Proofs.Ytlpgfmnicomjjaa
open Vm
theorem top_tells06 (n:Int) (es:List GArr2I) (f:Int) (wn:I64 n) (we:Wl GArr2I.wf es) (wf:I64 f):mallongelaw06_GraphTells n es f = some true:=law06_tells sane06 n es f
end Go.Proofs.Ytlpgfmnicomjjaa
