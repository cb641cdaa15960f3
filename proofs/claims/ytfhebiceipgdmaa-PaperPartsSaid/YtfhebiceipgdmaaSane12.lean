/- The sanity function of law 12 holds: the small machine runs it. -/
import Derived.Test.YtfhebiceipgdmaaLnk
import Derived.KernelRfl
set_option linter.unusedVariables false
namespace Go.Proofs.Ytfhebiceipgdmaa
open Vm
theorem sane12:mallongelaw12_sane = some true:=by
 have h:Vm.call TT 27 [] = some (.bool true):=call_iff.2 ⟨80,by kernel_rfl⟩
 rw [c_mallongelaw12_sane] at h
 cases e:mallongelaw12_sane with
 | none=>rw [e] at h; cases h
 | some b=>rw [e] at h; cases b <;> first | rfl | cases h
end Go.Proofs.Ytfhebiceipgdmaa
