/- The example. -/
import Derived.Test.YtoefdnkjcfoccaaDoorLnk
import Derived.KernelRfl
set_option linter.unusedVariables false
namespace Go.Proofs.YtoefdnkjcfoccaaDoor
open Vm
theorem aSZ:gS = some true:=by
 have h:Vm.call TT 5 [] = some (.bool true):=yS.2 ⟨60,by kernel_rfl⟩
 rw [AO] at h
 cases e:gS with
 | none=>rw [e] at h; cases h
 | some b=>rw [e] at h; cases b <;> first | rfl | cases h
end Go.Proofs.YtoefdnkjcfoccaaDoor
