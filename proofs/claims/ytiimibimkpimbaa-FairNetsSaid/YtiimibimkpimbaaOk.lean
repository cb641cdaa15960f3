/- The table tells the truth: what the small machine answers, the program answers. Printed by a program. -/
import Derived.Test.YtiimibimkpimbaaVmG
import Derived.Test.YtiimibimkpimbaaTab
import Derived.Test.YtiimibimkpimbaaTold
set_option linter.unusedVariables false
set_option linter.unusedSimpArgs false
namespace Go.Proofs.Ytiimibimkpimbaa
open Vm
open Go.RowKit
open Go.ChangeShapes Go.WideShapes Go.Deep
set_option maxRecDepth 100000
theorem aI5:QL (RU Try.prog) TL :=
 ⟨iQ Try.func19 aMm,⟨iQ Try.func38 aMJ,⟨iQ Try.func21 aL9,⟨iQ Try.func20 aMg,⟨iQ Try.func42 aMf,⟨iQ Try.func40 aMe,⟨iQ Try.func26 aMB,⟨iQ Try.func30 aMx,⟨iQ Try.func28 aMS,⟨iQ Try.func41 aMk,⟨iQ Try.func29 aMt,⟨iQ Try.func27 aMC,⟨iQ Try.func25 aMO,⟨G0 Try.func14 aMP,⟨iQ Try.func67 aMb,⟨iQ Try.func69 aMN,⟨iQ Try.func33 aMA,⟨iQ Try.func37 aMD,⟨iQ Try.func63 aML,⟨iQ Try.func46 aMu,⟨G0 Try.func45 aMj,⟨iQ Try.func47 aME,⟨iQ Try.func34 aMp,⟨iQ Try.func48 aMd,⟨iQ Try.func65 aMy,⟨iQ Try.func49 aMr,⟨G0 Try.func35 aL6,⟨iQ Try.func36 aMM,⟨iQ Try.func16 aMw,⟨iQ Try.func70 aMn,⟨G0 Try.func10 aMz,⟨iQ Try.func12 aMR,⟨G0 Try.func13 aMT,⟨iQ Try.func8 lw8,⟨iQ Try.func9 lw9,⟨iQ Try.func11 aMh,⟨iQ Try.func15 aMv,⟨iQ Try.func4 lw4,⟨aIc aLd,⟨aJj aKH,trivial⟩⟩⟩⟩⟩⟩⟩⟩⟩⟩⟩⟩⟩⟩⟩⟩⟩⟩⟩⟩⟩⟩⟩⟩⟩⟩⟩⟩⟩⟩⟩⟩⟩⟩⟩⟩⟩⟩⟩⟩
theorem aCZ {f:Nat} {ds:List D} {x:D} (e:Vm.call TT f ds = some x) (hl:iO 0 ds = none):DB Try.prog f ds x :=
 X4 (T:=TT) (fun f sf h=>(QL.lk aI5 (f:=f) (x:=.code sf) h).1 sf rfl) (fun f d h=>(QL.lk aI5 (f:=f) (x:=d) h).2) Try.checked.mixed e hl
end Go.Proofs.Ytiimibimkpimbaa
