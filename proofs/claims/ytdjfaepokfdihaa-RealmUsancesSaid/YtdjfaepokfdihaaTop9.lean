/- The laws of layer 9, out of their parts. -/
import Derived.Test.YtdjfaepokfdihaaSane09
import Derived.Test.YtdjfaepokfdihaaPLaw9
set_option linter.unusedVariables false
namespace Go.Proofs.Ytdjfaepokfdihaa
open Vm
theorem top_tells9 (r : GRealm) (a b : Int) (name : ByteArray) (w : GRealm.wf r) (wa : I64 a) (wb : I64 b) (wn : Ws name) : mallongelaw09_RealmTells r a b name = some true := law9_tells sane09 r a b name w
theorem top_finds9 (r : GRealm) (w : GRealm.wf r) : mallongelaw09_RealmFinds r = some true := law9_finds sane09 r w
theorem top_members9 (r : GRealm) (w : GRealm.wf r) : mallongelaw09_RealmMembers r = some true := law9_members sane09 r w
theorem top_usances9 (r : GRealm) (a b first : Int) (w : GRealm.wf r) (wa : I64 a) (wb : I64 b) (wf : I64 first) : mallongelaw09_RealmUsances r a b first = some true := law9_usances sane09 r a b first w
theorem top_less9 (r : GRealm) (i : Int) (w : GRealm.wf r) (wi : I64 i) : mallongelaw09_RealmLess r i = some true := law9_less sane09 r i w
end Go.Proofs.Ytdjfaepokfdihaa
