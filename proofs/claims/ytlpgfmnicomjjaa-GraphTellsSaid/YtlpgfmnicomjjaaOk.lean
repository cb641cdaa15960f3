/- The table tells the truth: what the small machine answers, the program answers. Printed by a program. -/
import Derived.Test.YtlpgfmnicomjjaaVmG
import Derived.Test.YtlpgfmnicomjjaaTab
import Derived.Test.YtlpgfmnicomjjaaTold
set_option linter.unusedVariables false
set_option linter.unusedSimpArgs false
namespace Go.Proofs.Ytlpgfmnicomjjaa
open Vm
open Go.RowKit
open Go.ChangeShapes Go.WideShapes Go.Deep
set_option maxRecDepth 100000
theorem tt_ok:AllL (OkDef Try.prog) TL :=
 ⟨okCode Try.func54 lw54,⟨okCode Try.func56 lw56,⟨okCode Try.func25 lw25,⟨okCode Try.func27 lw27,⟨okCode Try.func59 lw59,⟨okCode Try.func31 lw31,⟨okCode Try.func58 lw58,⟨okCode Try.func29 lw29,⟨okCode Try.func28 lw28,⟨okCode Try.func34 lw34,⟨okCode Try.func33 lw33,⟨okCode Try.func23 lw23,⟨okCode Try.func24 lw24,⟨okCode Try.func57 lw57,⟨okCode Try.func26 lw26,⟨okCode Try.func30 lw30,⟨okCode Try.func32 lw32,⟨okCode Try.func35 lw35,⟨okCode Try.func6 lw6,⟨okTold tok55,⟨okTold tok60,trivial⟩⟩⟩⟩⟩⟩⟩⟩⟩⟩⟩⟩⟩⟩⟩⟩⟩⟩⟩⟩⟩
theorem tt_sound {f:Nat} {ds:List D} {x:D} (e:Vm.call TT f ds = some x) (hl:lentAt 0 ds = none):Sound Try.prog f ds x :=
 call_sound (T:=TT) (fun f sf h=>(AllL.lk tt_ok (f:=f) (x:=.code sf) h).1 sf rfl) (fun f o h=>(AllL.lk tt_ok (f:=f) (x:=.told o) h).2 o rfl) Try.checked.mixed e hl
end Go.Proofs.Ytlpgfmnicomjjaa
