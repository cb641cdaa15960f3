/- The table tells the truth: what the small machine answers, the program answers. Printed by a program. -/
import Derived.Test.YtiimibimkpimbaaVmG
import Derived.Test.YtiimibimkpimbaaTab
import Derived.Test.YtiimibimkpimbaaTold
set_option linter.unusedVariables false
set_option linter.unusedSimpArgs false
namespace Go.Proofs.Ytiimibimkpimbaa
open Vm
open Go.RowKit
open Go.ChangeShapes Go.WideShapes Go.Deep
set_option maxRecDepth 100000
theorem aIa:PO (SQ Try.prog) TL :=
 ⟨iW Try.func19 aLY,⟨iW Try.func38 aLl,⟨iW Try.func21 aLO,⟨iW Try.func20 aL0,⟨iW Try.func42 aLR,⟨iW Try.func40 aLE,⟨iW Try.func26 aLj,⟨iW Try.func30 aLr,⟨iW Try.func28 aLT,⟨iW Try.func41 aLF,⟨iW Try.func29 aLk,⟨iW Try.func27 aLq,⟨iW Try.func25 aLw,⟨F2 Try.func14 aLi,⟨iW Try.func67 aLV,⟨iW Try.func69 aLK,⟨iW Try.func33 aLh,⟨iW Try.func37 aLp,⟨iW Try.func63 aLL,⟨iW Try.func46 aLQ,⟨F2 Try.func45 aLS,⟨iW Try.func47 aLs,⟨iW Try.func34 aLZ,⟨iW Try.func48 aLu,⟨iW Try.func65 aLC,⟨iW Try.func49 aLg,⟨F2 Try.func35 aLG,⟨iW Try.func36 aLy,⟨iW Try.func16 aLx,⟨iW Try.func70 aLt,⟨F2 Try.func10 aLP,⟨iW Try.func12 aLU,⟨F2 Try.func13 aLW,⟨iW Try.func8 lw8,⟨iW Try.func9 lw9,⟨iW Try.func5 lw5,⟨aHd aJ4,⟨aI1 aJ5,trivial⟩⟩⟩⟩⟩⟩⟩⟩⟩⟩⟩⟩⟩⟩⟩⟩⟩⟩⟩⟩⟩⟩⟩⟩⟩⟩⟩⟩⟩⟩⟩⟩⟩⟩⟩⟩⟩⟩
theorem aCT {f:Nat} {ds:List D} {x:D} (e:Vm.call TT f ds = some x) (hl:iG 0 ds = none):CN Try.prog f ds x :=
 U9 (T:=TT) (fun f sf h=>(PO.lk aIa (f:=f) (x:=.code sf) h).1 sf rfl) (fun f d h=>(PO.lk aIa (f:=f) (x:=d) h).2) Try.checked.mixed e hl
end Go.Proofs.Ytiimibimkpimbaa
