/- The table tells the truth: what the small machine answers, the program answers. Printed by a program. -/
import Derived.Test.YtgipgbhlibafhaaVmG
import Derived.Test.YtgipgbhlibafhaaTab
import Derived.Test.YtgipgbhlibafhaaTold
set_option linter.unusedVariables false
set_option linter.unusedSimpArgs false
namespace Go.Proofs.Ytgipgbhlibafhaa
open Vm
open Go.RowKit
open Go.ChangeShapes Go.WideShapes Go.Deep
set_option maxRecDepth 100000
theorem tt_ok:AllL (OkDef Try.prog) TL :=
 ⟨okCode Try.func18 lw18,⟨okCode Try.func57 lw57,⟨okCode Try.func111 lw111,⟨okCode Try.func89 lw89,⟨okCodeG Try.func88 lw88,⟨okCode Try.func90 lw90,⟨okCode Try.func51 lw51,⟨okCode Try.func91 lw91,⟨okCode Try.func113 lw113,⟨okCode Try.func92 lw92,⟨okCodeG Try.func52 lw52,⟨okCode Try.func53 lw53,⟨okCode Try.func15 lw15,⟨okCode Try.func17 lw17,⟨okCode Try.func22 lw22,⟨okCode Try.func50 lw50,⟨okCode Try.func20 lw20,⟨okCode Try.func13 lw13,⟨okCode Try.func14 lw14,⟨okCode Try.func19 lw19,⟨okCode Try.func94 lw94,⟨okCode Try.func95 lw95,⟨okCode Try.func96 lw96,⟨okCode Try.func97 lw97,⟨okCode Try.func54 lw54,⟨okCode Try.func55 lw55,⟨okCode Try.func56 lw56,⟨okCode Try.func16 lw16,⟨okCode Try.func21 lw21,⟨okCode Try.func24 lw24,⟨okCode Try.func23 lw23,⟨okCode Try.func3 lw3,⟨okTold tok114,trivial⟩⟩⟩⟩⟩⟩⟩⟩⟩⟩⟩⟩⟩⟩⟩⟩⟩⟩⟩⟩⟩⟩⟩⟩⟩⟩⟩⟩⟩⟩⟩⟩⟩
theorem tt_sound {f:Nat} {ds:List D} {x:D} (e:Vm.call TT f ds = some x) (hl:lentAt 0 ds = none):Sound Try.prog f ds x :=
 call_sound (T:=TT) (fun f sf h=>(AllL.lk tt_ok (f:=f) (x:=.code sf) h).1 sf rfl) (fun f o h=>(AllL.lk tt_ok (f:=f) (x:=.told o) h).2 o rfl) Try.checked.mixed e hl
end Go.Proofs.Ytgipgbhlibafhaa
