/- The table tells the truth: what the small machine answers, the program answers. Printed by a program. -/
import Derived.Test.YtlpgfmnicomjjaaVmG
import Derived.Test.YtlpgfmnicomjjaaTab
import Derived.Test.YtlpgfmnicomjjaaTold
set_option linter.unusedVariables false
set_option linter.unusedSimpArgs false
namespace Go.Proofs.Ytlpgfmnicomjjaa
open Vm
open Go.RowKit
open Go.ChangeShapes Go.WideShapes Go.Deep
set_option maxRecDepth 100000
theorem tt_ok:AllL (OkDef Try.prog) TL :=
 ⟨okCode Try.func61 lw61,⟨okCode Try.func95 lw95,⟨okCode Try.func109 lw109,⟨okCode Try.func94 lw94,⟨okCode Try.func73 lw73,⟨okCode Try.func44 lw44,⟨okCode Try.func56 lw56,⟨okCode Try.func74 lw74,⟨okCode Try.func42 lw42,⟨okCode Try.func27 lw27,⟨okCode Try.func39 lw39,⟨okCode Try.func40 lw40,⟨okCode Try.func62 lw62,⟨okCode Try.func107 lw107,⟨okCode Try.func126 lw126,⟨okCode Try.func108 lw108,⟨okCode Try.func92 lw92,⟨okCode Try.func64 lw64,⟨okCode Try.func63 lw63,⟨okCode Try.func67 lw67,⟨okCode Try.func93 lw93,⟨okCode Try.func66 lw66,⟨okCode Try.func65 lw65,⟨okCode Try.func68 lw68,⟨okCode Try.func70 lw70,⟨okCode Try.func69 lw69,⟨okCode Try.func71 lw71,⟨okCode Try.func72 lw72,⟨okCode Try.func41 lw41,⟨okCode Try.func54 lw54,⟨okCode Try.func58 lw58,⟨okCode Try.func29 lw29,⟨okCode Try.func43 lw43,⟨okCode Try.func59 lw59,⟨okCode Try.func31 lw31,⟨okCode Try.func12 lw12,⟨okTold tok55,trivial⟩⟩⟩⟩⟩⟩⟩⟩⟩⟩⟩⟩⟩⟩⟩⟩⟩⟩⟩⟩⟩⟩⟩⟩⟩⟩⟩⟩⟩⟩⟩⟩⟩⟩⟩⟩⟩
theorem tt_sound {f:Nat} {ds:List D} {x:D} (e:Vm.call TT f ds = some x) (hl:lentAt 0 ds = none):Sound Try.prog f ds x :=
 call_sound (T:=TT) (fun f sf h=>(AllL.lk tt_ok (f:=f) (x:=.code sf) h).1 sf rfl) (fun f o h=>(AllL.lk tt_ok (f:=f) (x:=.told o) h).2 o rfl) Try.checked.mixed e hl
end Go.Proofs.Ytlpgfmnicomjjaa
