/- The table tells the truth: what the small machine answers, the program answers. Printed by a program. -/
import Derived.Test.YtgjcnbgfaimepaaVmG
import Derived.Test.YtgjcnbgfaimepaaTab
import Derived.Test.YtgjcnbgfaimepaaTold
set_option linter.unusedVariables false
set_option linter.unusedSimpArgs false
namespace Go.Proofs.Ytgjcnbgfaimepaa
open Vm
open Go.RowKit
open Go.ChangeShapes Go.WideShapes Go.Deep
set_option maxRecDepth 100000
theorem aO1:TQ (aCE Try.prog) TL :=
 ⟨c7 Try.func35 aTv,⟨c7 Try.func53 aTj,⟨c7 Try.func54 aTl,⟨c7 Try.func55 aTc,⟨c7 Try.func19 aSN,⟨c7 Try.func37 aTw,⟨c7 Try.func73 aTi,⟨c7 Try.func44 aSR,⟨c7 Try.func82 aTy,⟨c7 Try.func105 aRD,⟨c7 Try.func81 aS3,⟨c7 Try.func60 aSS,⟨c7 Try.func64 aSX,⟨c7 Try.func106 aR2,⟨c7 Try.func84 aTa,⟨OE Try.func83 aSK,⟨c7 Try.func85 aSP,⟨c7 Try.func61 aSH,⟨c7 Try.func86 aS5,⟨c7 Try.func108 aSk,⟨c7 Try.func87 aST,⟨OE Try.func62 aS9,⟨c7 Try.func63 aTm,⟨c7 Try.func25 aSU,⟨c7 Try.func38 aS0,⟨c7 Try.func10 aS8,⟨OE Try.func21 aTf,⟨c7 Try.func43 aTk,⟨c7 Try.func72 aTx,⟨c7 Try.func27 aTD,⟨c7 Try.func77 aTA,⟨c7 Try.func76 aTo,⟨c7 Try.func48 aSO,⟨c7 Try.func47 aSV,⟨c7 Try.func75 aSI,⟨c7 Try.func46 aTt,⟨OE Try.func12 aTq,⟨c7 Try.func14 aTE,⟨c7 Try.func16 aTp,⟨c7 Try.func52 aSJ,⟨c7 Try.func17 aS6,⟨c7 Try.func23 aSE,⟨c7 Try.func8 lw8,⟨c7 Try.func26 aSQ,⟨c7 Try.func36 aSW,⟨c7 Try.func29 aSZ,⟨c7 Try.func59 aTg,⟨c7 Try.func22 aTu,⟨c7 Try.func9 lw9,⟨c7 Try.func4 lw4,⟨aH7 aQz,⟨aH7 aRR,trivial⟩⟩⟩⟩⟩⟩⟩⟩⟩⟩⟩⟩⟩⟩⟩⟩⟩⟩⟩⟩⟩⟩⟩⟩⟩⟩⟩⟩⟩⟩⟩⟩⟩⟩⟩⟩⟩⟩⟩⟩⟩⟩⟩⟩⟩⟩⟩⟩⟩⟩⟩⟩
theorem aID {f:Nat} {ds:List D} {x:D} (e:Vm.call TT f ds = some x) (hl:iU 0 ds = none):BH Try.prog f ds x :=
 aB6 (T:=TT) (fun f sf h=>(TQ.lk aO1 (f:=f) (x:=.code sf) h).1 sf rfl) (fun f d h=>(TQ.lk aO1 (f:=f) (x:=d) h).2) Try.checked.mixed e hl
end Go.Proofs.Ytgjcnbgfaimepaa
