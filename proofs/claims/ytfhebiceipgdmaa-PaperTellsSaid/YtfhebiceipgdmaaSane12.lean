/- The sanity function of law 12 holds: the small machine runs it. -/
import Derived.Test.YtfhebiceipgdmaaLnk
import Derived.KernelRfl
set_option linter.unusedVariables false
namespace Go.Proofs.Ytfhebiceipgdmaa
open Vm
theorem aKl:fN = some true:=by
 have h:Vm.call TT 27 [] = some (.bool true):=zZ.2 ⟨80,by kernel_rfl⟩
 rw [xN] at h
 cases e:fN with
 | none=>rw [e] at h; cases h
 | some b=>rw [e] at h; cases b <;> first | rfl | cases h
end Go.Proofs.Ytfhebiceipgdmaa
