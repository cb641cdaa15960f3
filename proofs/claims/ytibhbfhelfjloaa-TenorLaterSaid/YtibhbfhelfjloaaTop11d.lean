/- The laws of layer 11, out of their parts: TenorLater. -/
import Derived.Test.YtibhbfhelfjloaaTy
import Derived.Test.YtibhbfhelfjloaaSane11
import Derived.Test.YtibhbfhelfjloaaPLaw11d
set_option linter.unusedVariables false
namespace Go.Proofs.Ytibhbfhelfjloaa
open Vm
theorem top_later11 (r:GRealm) (b:GBill) (s g:GArr2I) (w:GRealm.wf r) (wb:GBill.wf b) (w1:GArr2I.wf s) (w2:GArr2I.wf g):mallongelaw11_TenorLater r b s g = some true:=law11_later sane11 r b s g w
end Go.Proofs.Ytibhbfhelfjloaa
