/- The table tells the truth: what the small machine answers, the program answers. Printed by a program. -/
import Derived.Test.YtibhbfhelfjloaaVmG
import Derived.Test.YtibhbfhelfjloaaTab
import Derived.Test.YtibhbfhelfjloaaTold
set_option linter.unusedVariables false
set_option linter.unusedSimpArgs false
namespace Go.Proofs.Ytibhbfhelfjloaa
open Vm
open Go.RowKit
open Go.ChangeShapes Go.WideShapes Go.Deep
set_option maxRecDepth 100000
theorem tt_ok:AllL (OkDef Try.prog) TL :=
 ⟨okCode Try.func36 lw36,⟨okCode Try.func38 lw38,⟨okCode Try.func74 lw74,⟨okCode Try.func82 lw82,⟨okCode Try.func75 lw75,⟨okCode Try.func63 lw63,⟨okCode Try.func40 lw40,⟨okCode Try.func39 lw39,⟨okCode Try.func43 lw43,⟨okCode Try.func64 lw64,⟨okCode Try.func42 lw42,⟨okCode Try.func41 lw41,⟨okCode Try.func44 lw44,⟨okCode Try.func46 lw46,⟨okCode Try.func45 lw45,⟨okCode Try.func47 lw47,⟨okCode Try.func48 lw48,⟨okCode Try.func13 lw13,⟨okCode Try.func49 lw49,⟨okCode Try.func50 lw50,⟨okCode Try.func37 lw37,⟨okCode Try.func65 lw65,⟨okCode Try.func66 lw66,⟨okCode Try.func51 lw51,⟨okCode Try.func67 lw67,⟨okCode Try.func68 lw68,⟨okCode Try.func52 lw52,⟨okCode Try.func14 lw14,⟨okCode Try.func15 lw15,⟨okCode Try.func11 lw11,⟨okCode Try.func12 lw12,⟨okCode Try.func3 lw3,⟨okTold tok76,⟨okTold tok69,trivial⟩⟩⟩⟩⟩⟩⟩⟩⟩⟩⟩⟩⟩⟩⟩⟩⟩⟩⟩⟩⟩⟩⟩⟩⟩⟩⟩⟩⟩⟩⟩⟩⟩⟩
theorem tt_sound {f:Nat} {ds:List D} {x:D} (e:Vm.call TT f ds = some x):Sound Try.prog f ds x :=
 call_sound (T:=TT) (fun f sf h=>(AllL.lk tt_ok (f:=f) (x:=.code sf) h).1 sf rfl) (fun f o h=>(AllL.lk tt_ok (f:=f) (x:=.told o) h).2 o rfl) Try.checked.mixed e
end Go.Proofs.Ytibhbfhelfjloaa
