/- The table tells the truth: what the small machine answers, the program answers. Printed by a program. -/
import Derived.Test.YtgjcnbgfaimepaaVmG
import Derived.Test.YtgjcnbgfaimepaaTab
import Derived.Test.YtgjcnbgfaimepaaTold
set_option linter.unusedVariables false
set_option linter.unusedSimpArgs false
namespace Go.Proofs.Ytgjcnbgfaimepaa
open Vm
open Go.RowKit
open Go.ChangeShapes Go.WideShapes Go.Deep
set_option maxRecDepth 100000
theorem aP3:VK (aEr Try.prog) TL :=
 ⟨cP Try.func35 aUS,⟨cP Try.func53 aTQ,⟨cP Try.func54 aUJ,⟨cP Try.func55 aUu,⟨cP Try.func19 aT0,⟨cP Try.func37 aTU,⟨cP Try.func73 aT2,⟨cP Try.func44 aUa,⟨cP Try.func82 aTZ,⟨cP Try.func105 aS4,⟨cP Try.func81 aUO,⟨cP Try.func60 aTW,⟨cP Try.func64 aUf,⟨cP Try.func106 aTb,⟨cP Try.func84 aUz,⟨P5 Try.func83 aUB,⟨cP Try.func85 aUK,⟨cP Try.func61 aTX,⟨cP Try.func86 aUH,⟨cP Try.func108 aSe,⟨cP Try.func87 aUv,⟨P5 Try.func62 aUg,⟨cP Try.func63 aTR,⟨cP Try.func25 aUt,⟨cP Try.func38 aT6,⟨cP Try.func10 aTV,⟨P5 Try.func21 aUk,⟨cP Try.func43 aUT,⟨cP Try.func72 aUp,⟨cP Try.func27 aT7,⟨cP Try.func77 aUU,⟨cP Try.func76 aT1,⟨cP Try.func48 aUh,⟨cP Try.func47 aUA,⟨cP Try.func75 aUL,⟨cP Try.func46 aUc,⟨P5 Try.func12 aUP,⟨cP Try.func14 aTT,⟨cP Try.func16 aUw,⟨cP Try.func52 aUF,⟨cP Try.func17 aUl,⟨cP Try.func23 aUe,⟨cP Try.func8 lw8,⟨cP Try.func26 aT3,⟨cP Try.func36 aUC,⟨cP Try.func29 aUD,⟨cP Try.func59 aUo,⟨cP Try.func22 aUG,⟨cP Try.func9 lw9,⟨cP Try.func66 aUx,⟨cP Try.func89 aUN,⟨cP Try.func32 aUq,⟨cP Try.func33 aUy,⟨cP Try.func34 aUR,⟨cP Try.func7 lw7,⟨aBh aRd,⟨aBh aS3,⟨aBh aTc,trivial⟩⟩⟩⟩⟩⟩⟩⟩⟩⟩⟩⟩⟩⟩⟩⟩⟩⟩⟩⟩⟩⟩⟩⟩⟩⟩⟩⟩⟩⟩⟩⟩⟩⟩⟩⟩⟩⟩⟩⟩⟩⟩⟩⟩⟩⟩⟩⟩⟩⟩⟩⟩⟩⟩⟩⟩⟩⟩
theorem aJB {f:Nat} {ds:List D} {x:D} (e:Vm.call TT f ds = some x) (hl:jB 0 ds = none):BX Try.prog f ds x :=
 aBz (T:=TT) (fun f sf h=>(VK.lk aP3 (f:=f) (x:=.code sf) h).1 sf rfl) (fun f d h=>(VK.lk aP3 (f:=f) (x:=d) h).2) Try.checked.mixed e hl
end Go.Proofs.Ytgjcnbgfaimepaa
