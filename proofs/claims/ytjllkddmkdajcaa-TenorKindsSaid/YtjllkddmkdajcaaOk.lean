/- The table tells the truth: what the small machine answers, the program answers. Printed by a program. -/
import Derived.Test.YtjllkddmkdajcaaVmG
import Derived.Test.YtjllkddmkdajcaaTab
import Derived.Test.YtjllkddmkdajcaaTold
set_option linter.unusedVariables false
set_option linter.unusedSimpArgs false
namespace Go.Proofs.Ytjllkddmkdajcaa
open Vm
open Go.RowKit
open Go.ChangeShapes Go.WideShapes Go.Deep
set_option maxRecDepth 100000
theorem tt_ok:AllL (OkDef Try.prog) TL :=
 ⟨okCode Try.func45 lw45,⟨okCode Try.func55 lw55,⟨okCode Try.func105 lw105,⟨okCode Try.func117 lw117,⟨okCode Try.func106 lw106,⟨okCode Try.func88 lw88,⟨okCode Try.func57 lw57,⟨okCode Try.func56 lw56,⟨okCode Try.func60 lw60,⟨okCode Try.func89 lw89,⟨okCode Try.func59 lw59,⟨okCode Try.func58 lw58,⟨okCode Try.func61 lw61,⟨okCode Try.func63 lw63,⟨okCode Try.func62 lw62,⟨okCode Try.func64 lw64,⟨okCode Try.func65 lw65,⟨okCode Try.func27 lw27,⟨okCode Try.func46 lw46,⟨okCode Try.func47 lw47,⟨okCode Try.func25 lw25,⟨okCode Try.func78 lw78,⟨okCode Try.func29 lw29,⟨okCode Try.func48 lw48,⟨okCode Try.func28 lw28,⟨okCode Try.func79 lw79,⟨okCode Try.func49 lw49,⟨okCode Try.func21 lw21,⟨okCode Try.func23 lw23,⟨okCode Try.func20 lw20,⟨okCode Try.func14 lw14,⟨okCode Try.func119 lw119,⟨okCode Try.func113 lw113,⟨okCode Try.func114 lw114,⟨okCode Try.func101 lw101,⟨okCode Try.func68 lw68,⟨okCode Try.func115 lw115,⟨okCode Try.func102 lw102,⟨okCode Try.func81 lw81,⟨okCode Try.func82 lw82,⟨okCode Try.func103 lw103,⟨okCode Try.func83 lw83,⟨okCode Try.func84 lw84,⟨okCode Try.func85 lw85,⟨okCode Try.func50 lw50,⟨okCode Try.func51 lw51,⟨okCode Try.func52 lw52,⟨okCode Try.func26 lw26,⟨okCode Try.func53 lw53,⟨okCode Try.func36 lw36,⟨okCode Try.func86 lw86,⟨okCode Try.func54 lw54,⟨okCode Try.func22 lw22,⟨okCode Try.func24 lw24,⟨okCode Try.func5 lw5,⟨okCode Try.func7 lw7,⟨okCode Try.func8 lw8,⟨okCode Try.func38 lw38,⟨okCode Try.func11 lw11,⟨okTold tok100,⟨okTold tok80,⟨okTold tok70,⟨okTold tok87,⟨okTold tok37,trivial⟩⟩⟩⟩⟩⟩⟩⟩⟩⟩⟩⟩⟩⟩⟩⟩⟩⟩⟩⟩⟩⟩⟩⟩⟩⟩⟩⟩⟩⟩⟩⟩⟩⟩⟩⟩⟩⟩⟩⟩⟩⟩⟩⟩⟩⟩⟩⟩⟩⟩⟩⟩⟩⟩⟩⟩⟩⟩⟩⟩⟩⟩⟩⟩
theorem tt_sound {f:Nat} {ds:List D} {x:D} (e:Vm.call TT f ds = some x):Sound Try.prog f ds x :=
 call_sound (T:=TT) (fun f sf h=>(AllL.lk tt_ok (f:=f) (x:=.code sf) h).1 sf rfl) (fun f o h=>(AllL.lk tt_ok (f:=f) (x:=.told o) h).2 o rfl) Try.checked.mixed e
end Go.Proofs.Ytjllkddmkdajcaa
