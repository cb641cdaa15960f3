/- The sanity function of law 11 holds: the small machine runs it. -/
import Derived.Test.YtibhbfhelfjloaaLnk
import Derived.KernelRfl
set_option linter.unusedVariables false
namespace Go.Proofs.Ytibhbfhelfjloaa
open Vm
theorem sane11:mallongelaw11_sane = some true:=by
 have h:Vm.call TT 11 [] = some (.bool true):=call_iff.2 ⟨80,by kernel_rfl⟩
 rw [c_mallongelaw11_sane] at h
 cases e:mallongelaw11_sane with
 | none=>rw [e] at h; cases h
 | some b=>rw [e] at h; cases b <;> first | rfl | cases h
end Go.Proofs.Ytibhbfhelfjloaa
