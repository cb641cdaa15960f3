/- The sanity function of law 19 holds: the small machine runs it. -/
import Derived.Test.YtlpgfmnicomjjaaLnk
import Derived.KernelRfl
set_option linter.unusedVariables false
namespace Go.Proofs.Ytlpgfmnicomjjaa
open Vm
theorem sane19:mallongelaw19_sane = some true:=by
 have h:Vm.call TT 39 [] = some (.bool true):=call_iff.2 ⟨60,by kernel_rfl⟩
 rw [c_mallongelaw19_sane] at h
 cases e:mallongelaw19_sane with
 | none=>rw [e] at h; cases h
 | some b=>rw [e] at h; cases b <;> first | rfl | cases h
end Go.Proofs.Ytlpgfmnicomjjaa
