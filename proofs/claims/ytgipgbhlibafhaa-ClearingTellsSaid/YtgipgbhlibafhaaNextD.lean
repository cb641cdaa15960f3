/- graph.next: what it answers. -/
import Derived.Test.YtgipgbhlibafhaaVmF
set_option linter.unusedVariables false
set_option linter.unusedSimpArgs false
namespace Go.Proofs.Ytgipgbhlibafhaa
namespace Vm
open Go.RowKit
end Vm
end Go.Proofs.Ytgipgbhlibafhaa
