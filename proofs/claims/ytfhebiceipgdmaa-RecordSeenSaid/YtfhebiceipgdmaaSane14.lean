/- The sanity function of law 14 holds: the small machine runs it. -/
import Derived.Test.YtfhebiceipgdmaaLnk
import Derived.KernelRfl
set_option linter.unusedVariables false
namespace Go.Proofs.Ytfhebiceipgdmaa
open Vm
theorem aDn:eW = some true:=by
 have h:Vm.call TT 14 [] = some (.bool true):=vW.2 ⟨80,by kernel_rfl⟩
 rw [uI] at h
 cases e:eW with
 | none=>rw [e] at h; cases h
 | some b=>rw [e] at h; cases b <;> first | rfl | cases h
end Go.Proofs.Ytfhebiceipgdmaa
