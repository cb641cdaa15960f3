/- The table tells the truth: what the small machine answers, the program answers. Printed by a program. -/
import Derived.Test.YtiimibimkpimbaaVmG
import Derived.Test.YtiimibimkpimbaaTab
import Derived.Test.YtiimibimkpimbaaTold
set_option linter.unusedVariables false
set_option linter.unusedSimpArgs false
namespace Go.Proofs.Ytiimibimkpimbaa
open Vm
open Go.RowKit
open Go.ChangeShapes Go.WideShapes Go.Deep
set_option maxRecDepth 100000
theorem aIG:RD (RT Try.prog) TL :=
 ⟨iF Try.func19 aMC,⟨iF Try.func38 aMa,⟨iF Try.func21 aMF,⟨iF Try.func20 aMw,⟨iF Try.func42 aMq,⟨iF Try.func40 aMt,⟨iF Try.func26 aMy,⟨iF Try.func30 aMl,⟨iF Try.func28 aMJ,⟨iF Try.func41 aMc,⟨iF Try.func29 aMk,⟨iF Try.func27 aMg,⟨iF Try.func25 aMf,⟨F2 Try.func14 aMD,⟨iF Try.func67 aLX,⟨iF Try.func69 aMo,⟨iF Try.func33 aL5,⟨iF Try.func37 aL7,⟨iF Try.func63 aMb,⟨iF Try.func46 aMu,⟨F2 Try.func45 aLZ,⟨iF Try.func47 aMj,⟨iF Try.func34 aME,⟨iF Try.func48 aL4,⟨iF Try.func65 aMp,⟨iF Try.func49 aL1,⟨F2 Try.func35 aMx,⟨iF Try.func36 aL2,⟨iF Try.func16 aMB,⟨iF Try.func70 aL0,⟨F2 Try.func10 aLV,⟨iF Try.func12 aMm,⟨F2 Try.func13 aMs,⟨iF Try.func8 lw8,⟨iF Try.func9 lw9,⟨iF Try.func11 aMi,⟨iF Try.func15 aLW,⟨iF Try.func17 aMn,⟨iF Try.func6 lw6,⟨aGo aLq,⟨aJV aKL,trivial⟩⟩⟩⟩⟩⟩⟩⟩⟩⟩⟩⟩⟩⟩⟩⟩⟩⟩⟩⟩⟩⟩⟩⟩⟩⟩⟩⟩⟩⟩⟩⟩⟩⟩⟩⟩⟩⟩⟩⟩⟩
theorem aDn {f:Nat} {ds:List D} {x:D} (e:Vm.call TT f ds = some x) (hl:iO 0 ds = none):DU Try.prog f ds x :=
 W5 (T:=TT) (fun f sf h=>(RD.lk aIG (f:=f) (x:=.code sf) h).1 sf rfl) (fun f d h=>(RD.lk aIG (f:=f) (x:=d) h).2) Try.checked.mixed e hl
end Go.Proofs.Ytiimibimkpimbaa
