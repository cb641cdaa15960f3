/- Lemmas on the answers. -/
import Derived.Test.YtoefdnkjcfoccaaDoorPRealm
import Derived.Test.YtoefdnkjcfoccaaDoorVmG
namespace Go.Proofs.YtoefdnkjcfoccaaDoor
open Go.RowKit Vm
end Go.Proofs.YtoefdnkjcfoccaaDoor
