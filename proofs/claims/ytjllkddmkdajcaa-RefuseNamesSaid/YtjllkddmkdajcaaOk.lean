/- The table tells the truth: what the small machine answers, the program answers. Printed by a program. -/
import Derived.Test.YtjllkddmkdajcaaVmG
import Derived.Test.YtjllkddmkdajcaaTab
import Derived.Test.YtjllkddmkdajcaaTold
set_option linter.unusedVariables false
set_option linter.unusedSimpArgs false
namespace Go.Proofs.Ytjllkddmkdajcaa
open Vm
open Go.RowKit
open Go.ChangeShapes Go.WideShapes Go.Deep
set_option maxRecDepth 100000
theorem tt_ok:AllL (OkDef Try.prog) TL :=
 ⟨okCode Try.func41 lw41,⟨okCode Try.func55 lw55,⟨okCode Try.func105 lw105,⟨okCode Try.func117 lw117,⟨okCode Try.func106 lw106,⟨okCode Try.func88 lw88,⟨okCode Try.func57 lw57,⟨okCode Try.func56 lw56,⟨okCode Try.func60 lw60,⟨okCode Try.func89 lw89,⟨okCode Try.func59 lw59,⟨okCode Try.func58 lw58,⟨okCode Try.func61 lw61,⟨okCode Try.func63 lw63,⟨okCode Try.func62 lw62,⟨okCode Try.func64 lw64,⟨okCode Try.func65 lw65,⟨okCode Try.func27 lw27,⟨okCode Try.func96 lw96,⟨okCode Try.func99 lw99,⟨okCode Try.func98 lw98,⟨okCode Try.func110 lw110,⟨okCode Try.func97 lw97,⟨okCode Try.func76 lw76,⟨okCode Try.func74 lw74,⟨okCode Try.func42 lw42,⟨okCode Try.func43 lw43,⟨okCode Try.func18 lw18,⟨okCode Try.func17 lw17,⟨okCode Try.func40 lw40,⟨okCode Try.func16 lw16,⟨okCode Try.func13 lw13,⟨okCode Try.func14 lw14,⟨okCode Try.func15 lw15,⟨okCode Try.func44 lw44,⟨okCode Try.func19 lw19,⟨okCode Try.func3 lw3,⟨okCode Try.func4 lw4,⟨okCode Try.func119 lw119,⟨okCode Try.func113 lw113,⟨okCode Try.func114 lw114,⟨okCode Try.func101 lw101,⟨okCode Try.func68 lw68,⟨okCode Try.func115 lw115,⟨okCode Try.func102 lw102,⟨okCode Try.func81 lw81,⟨okCode Try.func82 lw82,⟨okCode Try.func103 lw103,⟨okCode Try.func83 lw83,⟨okCode Try.func84 lw84,⟨okCode Try.func85 lw85,⟨okCode Try.func50 lw50,⟨okCode Try.func69 lw69,⟨okCode Try.func32 lw32,⟨okCode Try.func30 lw30,⟨okCode Try.func35 lw35,⟨okCode Try.func67 lw67,⟨okCode Try.func31 lw31,⟨okCode Try.func34 lw34,⟨okCode Try.func33 lw33,⟨okCode Try.func9 lw9,⟨okCode Try.func10 lw10,⟨okCode Try.func12 lw12,⟨okTold tok75,⟨okTold tok77,⟨okTold tok66,⟨okTold tok39,⟨okTold tok37,trivial⟩⟩⟩⟩⟩⟩⟩⟩⟩⟩⟩⟩⟩⟩⟩⟩⟩⟩⟩⟩⟩⟩⟩⟩⟩⟩⟩⟩⟩⟩⟩⟩⟩⟩⟩⟩⟩⟩⟩⟩⟩⟩⟩⟩⟩⟩⟩⟩⟩⟩⟩⟩⟩⟩⟩⟩⟩⟩⟩⟩⟩⟩⟩⟩⟩⟩⟩⟩
theorem tt_sound {f:Nat} {ds:List D} {x:D} (e:Vm.call TT f ds = some x):Sound Try.prog f ds x :=
 call_sound (T:=TT) (fun f sf h=>(AllL.lk tt_ok (f:=f) (x:=.code sf) h).1 sf rfl) (fun f o h=>(AllL.lk tt_ok (f:=f) (x:=.told o) h).2 o rfl) Try.checked.mixed e
end Go.Proofs.Ytjllkddmkdajcaa
