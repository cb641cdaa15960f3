/- The sanity function of law 42 holds: the small machine runs it. -/
import Derived.Test.YtgipgbhlibafhaaLnk
import Derived.KernelRfl
set_option linter.unusedVariables false
namespace Go.Proofs.Ytgipgbhlibafhaa
open Vm
theorem sane42:mallongelaw42_sane = some true:=by
 have h:Vm.call TT 13 [] = some (.bool true):=call_iff.2 ⟨80,by kernel_rfl⟩
 rw [c_mallongelaw42_sane] at h
 cases e:mallongelaw42_sane with
 | none=>rw [e] at h; cases h
 | some b=>rw [e] at h; cases b <;> first | rfl | cases h
end Go.Proofs.Ytgipgbhlibafhaa
