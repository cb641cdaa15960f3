/- The table tells the truth: what the small machine answers, the program answers. Printed by a program. -/
import Derived.Test.YtiimibimkpimbaaVmG
import Derived.Test.YtiimibimkpimbaaTab
import Derived.Test.YtiimibimkpimbaaTold
set_option linter.unusedVariables false
set_option linter.unusedSimpArgs false
namespace Go.Proofs.Ytiimibimkpimbaa
open Vm
open Go.RowKit
open Go.ChangeShapes Go.WideShapes Go.Deep
set_option maxRecDepth 100000
theorem aId:QD (TW Try.prog) TL :=
 ⟨iD Try.func19 aLt,⟨iD Try.func38 aLU,⟨iD Try.func21 aLI,⟨iD Try.func20 aL3,⟨iD Try.func42 aLZ,⟨iD Try.func40 aLM,⟨iD Try.func26 aLR,⟨iD Try.func30 aLW,⟨iD Try.func28 aL9,⟨iD Try.func41 aLz,⟨iD Try.func29 aLA,⟨iD Try.func27 aL2,⟨iD Try.func25 aLu,⟨FX Try.func14 aLv,⟨iD Try.func67 aLG,⟨iD Try.func69 aLQ,⟨iD Try.func33 aLY,⟨iD Try.func37 aLq,⟨iD Try.func63 aLD,⟨iD Try.func46 aL5,⟨FX Try.func45 aLB,⟨iD Try.func47 aLr,⟨iD Try.func34 aL8,⟨iD Try.func48 aLy,⟨iD Try.func65 aLP,⟨iD Try.func49 aL6,⟨FX Try.func35 aL1,⟨iD Try.func36 aLV,⟨iD Try.func16 aLO,⟨iD Try.func70 aLE,⟨FX Try.func10 aLN,⟨iD Try.func12 aLS,⟨FX Try.func13 aLp,⟨iD Try.func8 lw8,⟨iD Try.func9 lw9,⟨iD Try.func11 aMb,⟨iD Try.func3 lw3,⟨aFN aKI,⟨aJe aJZ,trivial⟩⟩⟩⟩⟩⟩⟩⟩⟩⟩⟩⟩⟩⟩⟩⟩⟩⟩⟩⟩⟩⟩⟩⟩⟩⟩⟩⟩⟩⟩⟩⟩⟩⟩⟩⟩⟩⟩⟩
theorem aB6 {f:Nat} {ds:List D} {x:D} (e:Vm.call TT f ds = some x) (hl:hZ 0 ds = none):CJ Try.prog f ds x :=
 XE (T:=TT) (fun f sf h=>(QD.lk aId (f:=f) (x:=.code sf) h).1 sf rfl) (fun f d h=>(QD.lk aId (f:=f) (x:=d) h).2) Try.checked.mixed e hl
end Go.Proofs.Ytiimibimkpimbaa
