/- The laws of law 19, out of their parts. -/
import Derived.Test.YtdjfaepokfdihaaSane19
import Derived.Test.YtdjfaepokfdihaaPLaw19
set_option linter.unusedVariables false
namespace Go.Proofs.Ytdjfaepokfdihaa
open Vm
theorem top_local (r : GRealm) (forum ask : Int) (pl : List Int) (order : Int) (other : GOrder) (w : GRealm.wf r) (wf : I64 forum) (wa : I64 ask) (wp : Wl I64 pl) (wd : I64 order) (wo : GOrder.wf other) : mallongelaw19_ConflictLocal r forum ask pl order other = some true :=
  law_local sane19 r forum ask pl order other w wp wo
end Go.Proofs.Ytdjfaepokfdihaa
