/- What is told of functions is so. Printed by a program. -/
import Derived.Test.YtiimibimkpimbaaTab
import Derived.Test.YtiimibimkpimbaaRepA
import Derived.Test.YtiimibimkpimbaaSortA
set_option linter.unusedVariables false
set_option linter.unusedSimpArgs false
namespace Go.Proofs.Ytiimibimkpimbaa
open Vm
open Go.RowKit
open Go.Deep
theorem aJ4:∀ ds x t,o31 ds = some x→iG 0 ds = some t→FA Try.prog 31 ds t x:=V7
theorem aJ5:∀ ds x,o66 ds = some x→CN Try.prog 66 ds x:=aBU
end Go.Proofs.Ytiimibimkpimbaa
