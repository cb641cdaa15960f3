/- What is told of functions is so. Printed by a program. -/
import Derived.Test.YtiimibimkpimbaaTab
import Derived.Test.YtiimibimkpimbaaRepA
import Derived.Test.YtiimibimkpimbaaSortA
set_option linter.unusedVariables false
set_option linter.unusedSimpArgs false
namespace Go.Proofs.Ytiimibimkpimbaa
open Vm
open Go.RowKit
open Go.Deep
theorem aKW:∀ ds x t,o31 ds = some x→iF 0 ds = some t→FQ Try.prog 31 ds t x:=XA
theorem aLi:∀ ds x,o66 ds = some x→DA Try.prog 66 ds x:=aFj
end Go.Proofs.Ytiimibimkpimbaa
