/- Ascending lists, each number once. -/
import Derived.Test.YtmekbfccmnjdcaaNextD
import Derived.Lib.SlicesCompact
set_option linter.unusedVariables false
set_option linter.unusedSimpArgs false
namespace Go.Proofs.Ytmekbfccmnjdcaa
namespace Vm
open Go.RowKit
end Vm
end Go.Proofs.Ytmekbfccmnjdcaa
