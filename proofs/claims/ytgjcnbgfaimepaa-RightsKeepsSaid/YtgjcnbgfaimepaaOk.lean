/- The table tells the truth: what the small machine answers, the program answers. Printed by a program. -/
import Derived.Test.YtgjcnbgfaimepaaVmG
import Derived.Test.YtgjcnbgfaimepaaTab
import Derived.Test.YtgjcnbgfaimepaaTold
set_option linter.unusedVariables false
set_option linter.unusedSimpArgs false
namespace Go.Proofs.Ytgjcnbgfaimepaa
open Vm
open Go.RowKit
open Go.ChangeShapes Go.WideShapes Go.Deep
set_option maxRecDepth 100000
theorem aPr:VT (aDG Try.prog) TL :=
 ⟨cZ Try.func35 aT4,⟨cZ Try.func53 aTR,⟨cZ Try.func54 aTh,⟨cZ Try.func55 aTB,⟨cZ Try.func19 aS3,⟨cZ Try.func37 aTH,⟨cZ Try.func73 aTM,⟨cZ Try.func44 aTb,⟨cZ Try.func82 aTp,⟨cZ Try.func105 aSi,⟨cZ Try.func81 aTf,⟨cZ Try.func60 aTq,⟨cZ Try.func64 aTG,⟨cZ Try.func106 aSt,⟨cZ Try.func84 aTx,⟨PK Try.func83 aTm,⟨cZ Try.func85 aT1,⟨cZ Try.func61 aS6,⟨cZ Try.func86 aTU,⟨cZ Try.func108 aRy,⟨cZ Try.func87 aTi,⟨PK Try.func62 aTT,⟨cZ Try.func63 aTN,⟨cZ Try.func25 aS7,⟨cZ Try.func38 aTu,⟨cZ Try.func10 aTc,⟨PK Try.func21 aTC,⟨cZ Try.func43 aS5,⟨cZ Try.func72 aT0,⟨cZ Try.func27 aTE,⟨cZ Try.func77 aTJ,⟨cZ Try.func76 aTe,⟨cZ Try.func48 aTg,⟨cZ Try.func47 aTw,⟨cZ Try.func75 aTA,⟨cZ Try.func46 aTy,⟨PK Try.func12 aTK,⟨cZ Try.func14 aTP,⟨cZ Try.func16 aTS,⟨cZ Try.func52 aTL,⟨cZ Try.func17 aTz,⟨cZ Try.func23 aTd,⟨cZ Try.func8 lw8,⟨cZ Try.func26 aTW,⟨cZ Try.func36 aTZ,⟨cZ Try.func29 aTv,⟨cZ Try.func59 aTn,⟨cZ Try.func22 aT3,⟨cZ Try.func9 lw9,⟨cZ Try.func30 aTo,⟨cZ Try.func31 aTD,⟨cZ Try.func6 lw6,⟨aJo aPN,⟨aJo aSc,trivial⟩⟩⟩⟩⟩⟩⟩⟩⟩⟩⟩⟩⟩⟩⟩⟩⟩⟩⟩⟩⟩⟩⟩⟩⟩⟩⟩⟩⟩⟩⟩⟩⟩⟩⟩⟩⟩⟩⟩⟩⟩⟩⟩⟩⟩⟩⟩⟩⟩⟩⟩⟩⟩⟩
theorem aKU {f:Nat} {ds:List D} {x:D} (e:Vm.call TT f ds = some x) (hl:iV 0 ds = none):B2 Try.prog f ds x :=
 aAa (T:=TT) (fun f sf h=>(VT.lk aPr (f:=f) (x:=.code sf) h).1 sf rfl) (fun f d h=>(VT.lk aPr (f:=f) (x:=d) h).2) Try.checked.mixed e hl
end Go.Proofs.Ytgjcnbgfaimepaa
