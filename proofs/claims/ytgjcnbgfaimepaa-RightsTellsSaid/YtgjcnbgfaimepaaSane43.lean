/- The sanity function of law 43 holds: the small machine runs it. -/
import Derived.Test.YtgjcnbgfaimepaaLnk
import Derived.KernelRfl
set_option linter.unusedVariables false
namespace Go.Proofs.Ytgjcnbgfaimepaa
open Vm
theorem aRT:j5 = some true:=by
 have h:Vm.call TT 8 [] = some (.bool true):=AR.2 ⟨80,by kernel_rfl⟩
 rw [DE] at h
 cases e:j5 with
 | none=>rw [e] at h; cases h
 | some b=>rw [e] at h; cases b <;> first | rfl | cases h
end Go.Proofs.Ytgjcnbgfaimepaa
