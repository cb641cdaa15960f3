/- The table tells the truth: what the small machine answers, the program answers. Printed by a program. -/
import Derived.Test.YtgjcnbgfaimepaaVmG
import Derived.Test.YtgjcnbgfaimepaaTab
import Derived.Test.YtgjcnbgfaimepaaTold
set_option linter.unusedVariables false
set_option linter.unusedSimpArgs false
namespace Go.Proofs.Ytgjcnbgfaimepaa
open Vm
open Go.RowKit
open Go.ChangeShapes Go.WideShapes Go.Deep
set_option maxRecDepth 100000
theorem aQr:VW (aDY Try.prog) TL :=
 ⟨dJ Try.func35 aU1,⟨dJ Try.func53 aUm,⟨dJ Try.func54 aU0,⟨dJ Try.func55 aUU,⟨dJ Try.func19 aT9,⟨dJ Try.func37 aUN,⟨dJ Try.func73 aUT,⟨dJ Try.func44 aUL,⟨dJ Try.func82 aUW,⟨dJ Try.func105 aTd,⟨dJ Try.func81 aUq,⟨dJ Try.func60 aUp,⟨dJ Try.func64 aUk,⟨dJ Try.func106 aTl,⟨dJ Try.func84 aUx,⟨P4 Try.func83 aUy,⟨dJ Try.func85 aUB,⟨dJ Try.func61 aUH,⟨dJ Try.func86 aUK,⟨dJ Try.func108 aTx,⟨dJ Try.func87 aUJ,⟨P4 Try.func62 aUD,⟨dJ Try.func63 aUE,⟨dJ Try.func25 aUv,⟨dJ Try.func38 aU5,⟨dJ Try.func10 aU2,⟨P4 Try.func21 aU3,⟨dJ Try.func43 aUw,⟨dJ Try.func72 aU4,⟨dJ Try.func27 aT8,⟨dJ Try.func77 aUI,⟨dJ Try.func76 aUo,⟨dJ Try.func48 aUs,⟨dJ Try.func47 aUR,⟨dJ Try.func75 aUi,⟨dJ Try.func46 aUG,⟨P4 Try.func12 aUF,⟨dJ Try.func14 aUZ,⟨dJ Try.func16 aUu,⟨dJ Try.func52 aUe,⟨dJ Try.func17 aUA,⟨dJ Try.func23 aUg,⟨dJ Try.func8 lw8,⟨dJ Try.func26 aUr,⟨dJ Try.func36 aUt,⟨dJ Try.func29 aU6,⟨dJ Try.func59 aUM,⟨dJ Try.func22 aUz,⟨dJ Try.func9 lw9,⟨dJ Try.func28 aU8,⟨dJ Try.func5 lw5,⟨aIH aR7,⟨aIH aSW,trivial⟩⟩⟩⟩⟩⟩⟩⟩⟩⟩⟩⟩⟩⟩⟩⟩⟩⟩⟩⟩⟩⟩⟩⟩⟩⟩⟩⟩⟩⟩⟩⟩⟩⟩⟩⟩⟩⟩⟩⟩⟩⟩⟩⟩⟩⟩⟩⟩⟩⟩⟩⟩⟩
theorem aJh {f:Nat} {ds:List D} {x:D} (e:Vm.call TT f ds = some x) (hl:jH 0 ds = none):CF Try.prog f ds x :=
 aC2 (T:=TT) (fun f sf h=>(VW.lk aQr (f:=f) (x:=.code sf) h).1 sf rfl) (fun f d h=>(VW.lk aQr (f:=f) (x:=d) h).2) Try.checked.mixed e hl
end Go.Proofs.Ytgjcnbgfaimepaa
