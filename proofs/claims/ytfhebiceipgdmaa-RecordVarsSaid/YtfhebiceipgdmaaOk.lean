/- The table tells the truth: what the small machine answers, the program answers. Printed by a program. -/
import Derived.Test.YtfhebiceipgdmaaVmG
import Derived.Test.YtfhebiceipgdmaaTab
set_option linter.unusedVariables false
set_option linter.unusedSimpArgs false
namespace Go.Proofs.Ytfhebiceipgdmaa
open Vm
open Go.RowKit
open Go.ChangeShapes Go.WideShapes Go.Deep
set_option maxRecDepth 100000
theorem tt_ok:AllL (OkDef Try.prog) TL :=
 ⟨okCode Try.func44 lw44,⟨okCode Try.func48 lw48,⟨okCode Try.func22 lw22,⟨okCode Try.func45 lw45,⟨okCode Try.func50 lw50,⟨okCode Try.func73 lw73,⟨okCode Try.func49 lw49,⟨okCode Try.func74 lw74,⟨okCode Try.func51 lw51,⟨okCode Try.func47 lw47,⟨okCode Try.func19 lw19,⟨okCodeG Try.func25 lw25,⟨okCode Try.func46 lw46,⟨okCode Try.func17 lw17,⟨okCode Try.func14 lw14,⟨okCode Try.func15 lw15,⟨okCode Try.func16 lw16,⟨okCode Try.func18 lw18,⟨okCode Try.func20 lw20,⟨okCode Try.func23 lw23,⟨okCode Try.func21 lw21,⟨okCode Try.func52 lw52,⟨okCode Try.func53 lw53,⟨okCode Try.func54 lw54,⟨okCode Try.func69 lw69,⟨okCode Try.func55 lw55,⟨okCode Try.func26 lw26,⟨okCode Try.func24 lw24,⟨okCode Try.func3 lw3,⟨okCode Try.func4 lw4,⟨okCode Try.func5 lw5,trivial⟩⟩⟩⟩⟩⟩⟩⟩⟩⟩⟩⟩⟩⟩⟩⟩⟩⟩⟩⟩⟩⟩⟩⟩⟩⟩⟩⟩⟩⟩⟩
theorem tt_sound {f:Nat} {ds:List D} {x:D} (e:Vm.call TT f ds = some x) (hl:lentAt 0 ds = none):Sound Try.prog f ds x :=
 call_sound (T:=TT) (fun f sf h=>(AllL.lk tt_ok (f:=f) (x:=.code sf) h).1 sf rfl) (fun f o h=>(AllL.lk tt_ok (f:=f) (x:=.told o) h).2 o rfl) Try.checked.mixed e hl
end Go.Proofs.Ytfhebiceipgdmaa
