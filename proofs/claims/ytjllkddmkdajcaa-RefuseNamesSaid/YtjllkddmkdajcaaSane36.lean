/- The sanity function of law 36 holds: the small machine runs it. -/
import Derived.Test.YtjllkddmkdajcaaLnk
import Derived.KernelRfl
set_option linter.unusedVariables false
namespace Go.Proofs.Ytjllkddmkdajcaa
open Vm
theorem sane36:mallongelaw36_sane = some true:=by
 have h:Vm.call TT 13 [] = some (.bool true):=call_iff.2 ⟨80,by kernel_rfl⟩
 rw [c_mallongelaw36_sane] at h
 cases e:mallongelaw36_sane with
 | none=>rw [e] at h; cases h
 | some b=>rw [e] at h; cases b <;> first | rfl | cases h
end Go.Proofs.Ytjllkddmkdajcaa
