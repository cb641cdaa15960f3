/- The sanity function of law 06 holds: the small machine runs it. -/
import Derived.Test.YtlpgfmnicomjjaaLnk
import Derived.KernelRfl
set_option linter.unusedVariables false
namespace Go.Proofs.Ytlpgfmnicomjjaa
open Vm
theorem sane06:mallongelaw06_sane = some true:=by
 have h:Vm.call TT 23 [] = some (.bool true):=call_iff.2 ⟨80,by kernel_rfl⟩
 rw [c_mallongelaw06_sane] at h
 cases e:mallongelaw06_sane with
 | none=>rw [e] at h; cases h
 | some b=>rw [e] at h; cases b <;> first | rfl | cases h
end Go.Proofs.Ytlpgfmnicomjjaa
