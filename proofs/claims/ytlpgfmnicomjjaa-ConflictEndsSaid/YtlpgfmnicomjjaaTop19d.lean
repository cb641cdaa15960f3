/- The laws of layer 19, out of their parts: ConflictEnds. -/
import Derived.Test.YtlpgfmnicomjjaaTy
import Derived.Test.YtlpgfmnicomjjaaSane19
import Derived.Test.YtlpgfmnicomjjaaPLaw19d
set_option linter.unusedVariables false
namespace Go.Proofs.Ytlpgfmnicomjjaa
open Vm
theorem top_ends19 (r:GRealm) (forum ask:Int) (pl:List Int) (w:GRealm.wf r) (wf:I64 forum) (wa:I64 ask) (wp:Wl I64 pl):mallongelaw19_ConflictEnds r forum ask pl = some true:=law_ends sane19 r forum ask pl w
end Go.Proofs.Ytlpgfmnicomjjaa
