/- What is told of functions is so. Printed by a program. -/
import Derived.Test.YtgipgbhlibafhaaTab
import Derived.Test.YtgipgbhlibafhaaRepA
set_option linter.unusedVariables false
set_option linter.unusedSimpArgs false
namespace Go.Proofs.Ytgipgbhlibafhaa
open Vm
open Go.RowKit
open Go.Deep
theorem tok114:∀ ds x,o114 ds = some x→Sound Try.prog 114 ds x:=rep_told
end Go.Proofs.Ytgipgbhlibafhaa
