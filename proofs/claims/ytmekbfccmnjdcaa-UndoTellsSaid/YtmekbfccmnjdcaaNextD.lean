/- graph.next: what it answers. -/
import Derived.Test.YtmekbfccmnjdcaaVmF
set_option linter.unusedVariables false
set_option linter.unusedSimpArgs false
namespace Go.Proofs.Ytmekbfccmnjdcaa
namespace Vm
open Go.RowKit
end Vm
end Go.Proofs.Ytmekbfccmnjdcaa
