/- graph.next: what it answers. -/
import Derived.Test.YtiimibimkpimbaaVmF
set_option linter.unusedVariables false
set_option linter.unusedSimpArgs false
namespace Go.Proofs.Ytiimibimkpimbaa
namespace Vm
open Go.RowKit
end Vm
end Go.Proofs.Ytiimibimkpimbaa
