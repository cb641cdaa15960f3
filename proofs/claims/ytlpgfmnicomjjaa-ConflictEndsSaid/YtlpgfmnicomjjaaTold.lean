/- What is told of functions is so. Printed by a program. -/
import Derived.Test.YtlpgfmnicomjjaaTab
import Derived.Test.YtlpgfmnicomjjaaNextA
set_option linter.unusedVariables false
set_option linter.unusedSimpArgs false
namespace Go.Proofs.Ytlpgfmnicomjjaa
open Vm
open Go.RowKit
open Go.Deep
theorem tok55:∀ ds x,o55 ds = some x→Sound Try.prog 55 ds x:=next_told
end Go.Proofs.Ytlpgfmnicomjjaa
