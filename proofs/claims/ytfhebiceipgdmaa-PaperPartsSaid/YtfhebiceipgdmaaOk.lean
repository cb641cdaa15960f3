/- The table tells the truth: what the small machine answers, the program answers. Printed by a program. -/
import Derived.Test.YtfhebiceipgdmaaVmG
import Derived.Test.YtfhebiceipgdmaaTab
import Derived.Test.YtfhebiceipgdmaaTold
set_option linter.unusedVariables false
set_option linter.unusedSimpArgs false
namespace Go.Proofs.Ytfhebiceipgdmaa
open Vm
open Go.RowKit
open Go.ChangeShapes Go.WideShapes Go.Deep
set_option maxRecDepth 100000
theorem tt_ok:AllL (OkDef Try.prog) TL :=
 ⟨okCode Try.func56 lw56,⟨okCode Try.func91 lw91,⟨okCode Try.func115 lw115,⟨okCode Try.func121 lw121,⟨okCode Try.func116 lw116,⟨okCode Try.func109 lw109,⟨okCode Try.func93 lw93,⟨okCode Try.func92 lw92,⟨okCode Try.func74 lw74,⟨okCode Try.func110 lw110,⟨okCode Try.func95 lw95,⟨okCode Try.func94 lw94,⟨okCode Try.func96 lw96,⟨okCode Try.func98 lw98,⟨okCode Try.func97 lw97,⟨okCode Try.func99 lw99,⟨okCode Try.func100 lw100,⟨okCode Try.func75 lw75,⟨okCode Try.func76 lw76,⟨okCode Try.func77 lw77,⟨okCode Try.func78 lw78,⟨okCode Try.func57 lw57,⟨okCode Try.func59 lw59,⟨okCode Try.func66 lw66,⟨okCode Try.func117 lw117,⟨okCode Try.func111 lw111,⟨okCode Try.func101 lw101,⟨okCode Try.func79 lw79,⟨okCode Try.func58 lw58,⟨okCode Try.func80 lw80,⟨okCode Try.func60 lw60,⟨okCode Try.func102 lw102,⟨okCode Try.func82 lw82,⟨okCode Try.func81 lw81,⟨okCode Try.func61 lw61,⟨okCode Try.func29 lw29,⟨okCode Try.func30 lw30,⟨okCode Try.func33 lw33,⟨okCode Try.func37 lw37,⟨okCode Try.func32 lw32,⟨okCode Try.func34 lw34,⟨okCode Try.func27 lw27,⟨okCode Try.func28 lw28,⟨okCode Try.func7 lw7,⟨okTold tok62,⟨okTold tok63,⟨okTold tok64,⟨okTold tok65,trivial⟩⟩⟩⟩⟩⟩⟩⟩⟩⟩⟩⟩⟩⟩⟩⟩⟩⟩⟩⟩⟩⟩⟩⟩⟩⟩⟩⟩⟩⟩⟩⟩⟩⟩⟩⟩⟩⟩⟩⟩⟩⟩⟩⟩⟩⟩⟩⟩
theorem tt_sound {f:Nat} {ds:List D} {x:D} (e:Vm.call TT f ds = some x):Sound Try.prog f ds x :=
 call_sound (T:=TT) (fun f sf h=>(AllL.lk tt_ok (f:=f) (x:=.code sf) h).1 sf rfl) (fun f o h=>(AllL.lk tt_ok (f:=f) (x:=.told o) h).2 o rfl) Try.checked.mixed e
end Go.Proofs.Ytfhebiceipgdmaa
