/- The sanity function of law 9 holds: the small machine runs it. -/
import Derived.Test.YtdjfaepokfdihaaLnk
import Derived.KernelRfl
set_option linter.unusedVariables false
namespace Go.Proofs.Ytdjfaepokfdihaa
open Vm
theorem sane09 : mallongelaw09_sane = some true := by
  have h : Vm.call TT 13 [] = some (.bool true) := call_iff.2 ⟨60, by kernel_rfl⟩
  rw [c_mallongelaw09_sane] at h
  cases e : mallongelaw09_sane with
  | none => rw [e] at h; cases h
  | some b => rw [e] at h; cases b <;> first | rfl | cases h
end Go.Proofs.Ytdjfaepokfdihaa
