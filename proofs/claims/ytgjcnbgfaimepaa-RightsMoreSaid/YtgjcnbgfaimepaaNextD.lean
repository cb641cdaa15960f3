/- graph.next: what it answers. -/
import Derived.Test.YtgjcnbgfaimepaaVmF
set_option linter.unusedVariables false
set_option linter.unusedSimpArgs false
namespace Go.Proofs.Ytgjcnbgfaimepaa
namespace Vm
open Go.RowKit
end Vm
end Go.Proofs.Ytgjcnbgfaimepaa
