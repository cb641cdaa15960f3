/- What is told of functions is so. Printed by a program. -/
import Derived.Test.YtiimibimkpimbaaTab
import Derived.Test.YtiimibimkpimbaaRepA
import Derived.Test.YtiimibimkpimbaaSortA
set_option linter.unusedVariables false
set_option linter.unusedSimpArgs false
namespace Go.Proofs.Ytiimibimkpimbaa
open Vm
open Go.RowKit
open Go.Deep
theorem aKI:∀ ds x t,o31 ds = some x→hZ 0 ds = some t→E0 Try.prog 31 ds t x:=WO
theorem aJZ:∀ ds x,o66 ds = some x→CJ Try.prog 66 ds x:=aCt
end Go.Proofs.Ytiimibimkpimbaa
