/- The sanity function of law 45 holds: the small machine runs it. -/
import Derived.Test.YtmekbfccmnjdcaaLnk
import Derived.KernelRfl
set_option linter.unusedVariables false
namespace Go.Proofs.Ytmekbfccmnjdcaa
open Vm
theorem sane45:mallongelaw45_sane = some true:=by
 have h:Vm.call TT 12 [] = some (.bool true):=call_iff.2 ⟨80,by kernel_rfl⟩
 rw [c_mallongelaw45_sane] at h
 cases e:mallongelaw45_sane with
 | none=>rw [e] at h; cases h
 | some b=>rw [e] at h; cases b <;> first | rfl | cases h
end Go.Proofs.Ytmekbfccmnjdcaa
