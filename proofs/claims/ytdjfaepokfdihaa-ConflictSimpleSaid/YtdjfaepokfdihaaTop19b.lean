/- More laws of law 19, out of their parts. -/
import Derived.Test.YtdjfaepokfdihaaSane19
import Derived.Test.YtdjfaepokfdihaaPLaw19b
set_option linter.unusedVariables false
namespace Go.Proofs.Ytdjfaepokfdihaa
open Vm
theorem top_path (r : GRealm) (forum ask : Int) (pl : List Int) (w : GRealm.wf r) (wf : I64 forum) (wa : I64 ask) (wp : Wl I64 pl) : mallongelaw19_ConflictPath r forum ask pl = some true :=
  law_path sane19 r forum ask pl w
theorem top_simple (r : GRealm) (forum ask : Int) (pl : List Int) (w : GRealm.wf r) (wf : I64 forum) (wa : I64 ask) (wp : Wl I64 pl) : mallongelaw19_ConflictSimple r forum ask pl = some true :=
  law_simple sane19 r forum ask pl w
end Go.Proofs.Ytdjfaepokfdihaa
