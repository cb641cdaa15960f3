/- The walk of the reference's Valid. The walks of the reference's plain functions of layer 4: leap, Length, days, Date, Day, Weekday, AddMonths. The walks of the reference's Day, Weekday, AddMonths. -/
import Derived.Test.YtibhbfhelfjloaaCalP
import Derived.Test.YtibhbfhelfjloaaCalM
set_option linter.unusedVariables false
namespace Go.Proofs.Ytibhbfhelfjloaa
open Go.RowKit
end Go.Proofs.Ytibhbfhelfjloaa
set_option linter.unusedVariables false
namespace Go.Proofs.Ytibhbfhelfjloaa
open Go.RowKit
namespace Cal
end Cal
end Go.Proofs.Ytibhbfhelfjloaa
set_option linter.unusedVariables false
namespace Go.Proofs.Ytibhbfhelfjloaa
open Go.RowKit
end Go.Proofs.Ytibhbfhelfjloaa
