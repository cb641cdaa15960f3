/- The sanity function of law 20 holds: the small machine runs it. -/
import Derived.Test.YtjjcaapdaldedaaLnk
import Derived.KernelRfl
set_option linter.unusedVariables false
namespace Go.Proofs.Ytjjcaapdaldedaa
open Vm
theorem aLx:gR = some true:=by
 have h:Vm.call TT 6 [] = some (.bool true):=xB.2 ⟨60,by kernel_rfl⟩
 rw [xK] at h
 cases e:gR with
 | none=>rw [e] at h; cases h
 | some b=>rw [e] at h; cases b <;> first | rfl | cases h
end Go.Proofs.Ytjjcaapdaldedaa
