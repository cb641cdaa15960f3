/- More laws of law 19, out of their parts. -/
import Derived.Test.YtdjfaepokfdihaaSane19
import Derived.Test.YtdjfaepokfdihaaPLaw19c
set_option linter.unusedVariables false
namespace Go.Proofs.Ytdjfaepokfdihaa
open Vm
theorem top_tells (r : GRealm) (order ask : Int) (pl : List Int) (w : GRealm.wf r) (wf : I64 order) (wa : I64 ask) (wp : Wl I64 pl) : mallongelaw19_ConflictTells r order ask pl = some true :=
  law_tells sane19 r order ask pl w
end Go.Proofs.Ytdjfaepokfdihaa
