/- What is told of functions is so. Printed by a program. -/
import Derived.Test.YtiimibimkpimbaaTab
import Derived.Test.YtiimibimkpimbaaRepA
import Derived.Test.YtiimibimkpimbaaSortA
set_option linter.unusedVariables false
set_option linter.unusedSimpArgs false
namespace Go.Proofs.Ytiimibimkpimbaa
open Vm
open Go.RowKit
open Go.Deep
theorem aLq:∀ ds x t,o31 ds = some x->iO 0 ds = some t->FB Try.prog 31 ds t x:=W8
theorem aKL:∀ ds x,o66 ds = some x->DU Try.prog 66 ds x:=aEa
end Go.Proofs.Ytiimibimkpimbaa
