/- The table tells the truth: what the small machine answers, the program answers. Printed by a program. -/
import Derived.Test.YtiimibimkpimbaaVmG
import Derived.Test.YtiimibimkpimbaaTab
import Derived.Test.YtiimibimkpimbaaTold
set_option linter.unusedVariables false
set_option linter.unusedSimpArgs false
namespace Go.Proofs.Ytiimibimkpimbaa
open Vm
open Go.RowKit
open Go.ChangeShapes Go.WideShapes Go.Deep
set_option maxRecDepth 100000
theorem aIK:PQ (TC Try.prog) TL :=
 ⟨hU Try.func19 aMt,⟨hU Try.func38 aMl,⟨hU Try.func21 aMB,⟨hU Try.func20 aMr,⟨hU Try.func42 aLT,⟨hU Try.func40 aMd,⟨hU Try.func26 aMf,⟨hU Try.func30 aMv,⟨hU Try.func28 aMA,⟨hU Try.func41 aMw,⟨hU Try.func29 aMn,⟨hU Try.func27 aMi,⟨hU Try.func25 aLW,⟨GY Try.func14 aLY,⟨hU Try.func67 aMe,⟨hU Try.func69 aMa,⟨hU Try.func33 aLQ,⟨hU Try.func37 aL2,⟨hU Try.func63 aMC,⟨hU Try.func46 aLZ,⟨GY Try.func45 aL4,⟨hU Try.func47 aL7,⟨hU Try.func34 aME,⟨hU Try.func48 aMh,⟨hU Try.func65 aMc,⟨hU Try.func49 aL0,⟨GY Try.func35 aMm,⟨hU Try.func36 aLS,⟨hU Try.func16 aMq,⟨hU Try.func70 aMo,⟨GY Try.func10 aMp,⟨hU Try.func12 aMk,⟨GY Try.func13 aMs,⟨hU Try.func8 lw8,⟨hU Try.func9 lw9,⟨hU Try.func11 aMu,⟨hU Try.func15 aMy,⟨hU Try.func18 aLX,⟨hU Try.func7 lw7,⟨aFV aKW,⟨aI4 aLi,trivial⟩⟩⟩⟩⟩⟩⟩⟩⟩⟩⟩⟩⟩⟩⟩⟩⟩⟩⟩⟩⟩⟩⟩⟩⟩⟩⟩⟩⟩⟩⟩⟩⟩⟩⟩⟩⟩⟩⟩⟩⟩
theorem aCB {f:Nat} {ds:List D} {x:D} (e:Vm.call TT f ds = some x) (hl:iF 0 ds = none):DA Try.prog f ds x :=
 VT (T:=TT) (fun f sf h=>(PQ.lk aIK (f:=f) (x:=.code sf) h).1 sf rfl) (fun f d h=>(PQ.lk aIK (f:=f) (x:=d) h).2) Try.checked.mixed e hl
end Go.Proofs.Ytiimibimkpimbaa
