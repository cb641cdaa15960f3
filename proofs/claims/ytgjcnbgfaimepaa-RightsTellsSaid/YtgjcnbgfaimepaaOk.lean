/- The table tells the truth: what the small machine answers, the program answers. Printed by a program. -/
import Derived.Test.YtgjcnbgfaimepaaVmG
import Derived.Test.YtgjcnbgfaimepaaTab
import Derived.Test.YtgjcnbgfaimepaaTold
set_option linter.unusedVariables false
set_option linter.unusedSimpArgs false
namespace Go.Proofs.Ytgjcnbgfaimepaa
open Vm
open Go.RowKit
open Go.ChangeShapes Go.WideShapes Go.Deep
set_option maxRecDepth 100000
theorem aQj:aBZ (aGw Try.prog) TL :=
 ⟨bQ Try.func35 aU9,⟨bQ Try.func53 aVa,⟨bQ Try.func54 aUu,⟨bQ Try.func55 aUg,⟨bQ Try.func19 aU0,⟨bQ Try.func37 aUl,⟨bQ Try.func73 aU5,⟨bQ Try.func44 aUv,⟨bQ Try.func82 aUs,⟨bQ Try.func105 aTq,⟨bQ Try.func81 aUQ,⟨bQ Try.func60 aVb,⟨bQ Try.func64 aUB,⟨bQ Try.func106 aTI,⟨bQ Try.func84 aU8,⟨W9 Try.func83 aT6,⟨bQ Try.func85 aUS,⟨bQ Try.func61 aUj,⟨bQ Try.func86 aUn,⟨bQ Try.func108 aTG,⟨bQ Try.func87 aUP,⟨W9 Try.func62 aUC,⟨bQ Try.func63 aUp,⟨bQ Try.func25 aUL,⟨bQ Try.func38 aT1,⟨bQ Try.func10 aUM,⟨W9 Try.func21 aUX,⟨bQ Try.func43 aUd,⟨bQ Try.func72 aVc,⟨bQ Try.func27 aUJ,⟨bQ Try.func77 aUk,⟨bQ Try.func76 aUt,⟨bQ Try.func48 aUm,⟨bQ Try.func47 aT2,⟨bQ Try.func75 aUb,⟨bQ Try.func46 aVf,⟨W9 Try.func12 aTZ,⟨bQ Try.func14 aT0,⟨bQ Try.func16 aUi,⟨bQ Try.func52 aUK,⟨bQ Try.func17 aUa,⟨bQ Try.func23 aT3,⟨bQ Try.func8 lw8,⟨bQ Try.func26 aUz,⟨bQ Try.func36 aUA,⟨bQ Try.func29 aVg,⟨bQ Try.func59 aUc,⟨bQ Try.func22 aUE,⟨bQ Try.func9 lw9,⟨bQ Try.func56 aUN,⟨bQ Try.func20 aUo,⟨bQ Try.func39 aU3,⟨bQ Try.func40 aT9,⟨bQ Try.func91 aT4,⟨bQ Try.func92 aUW,⟨bQ Try.func93 aT5,⟨bQ Try.func94 aUD,⟨bQ Try.func69 aUy,⟨bQ Try.func70 aU7,⟨bQ Try.func71 aUZ,⟨bQ Try.func41 aUG,⟨bQ Try.func11 aU2,⟨bQ Try.func34 aUe,⟨bQ Try.func78 aUU,⟨bQ Try.func50 aU6,⟨bQ Try.func51 aUR,⟨bQ Try.func13 aUH,⟨bQ Try.func15 aUr,⟨bQ Try.func18 aUq,⟨bQ Try.func24 aT8,⟨bQ Try.func3 lw3,⟨aMw aQ0,⟨aMw aSF,trivial⟩⟩⟩⟩⟩⟩⟩⟩⟩⟩⟩⟩⟩⟩⟩⟩⟩⟩⟩⟩⟩⟩⟩⟩⟩⟩⟩⟩⟩⟩⟩⟩⟩⟩⟩⟩⟩⟩⟩⟩⟩⟩⟩⟩⟩⟩⟩⟩⟩⟩⟩⟩⟩⟩⟩⟩⟩⟩⟩⟩⟩⟩⟩⟩⟩⟩⟩⟩⟩⟩⟩⟩⟩
theorem aLc {f:Nat} {ds:List D} {x:D} (e:Vm.call TT f ds = some x) (hl:mO 0 ds = none):HV Try.prog f ds x :=
 aFX (T:=TT) (fun f sf h=>(aBZ.lk aQj (f:=f) (x:=.code sf) h).1 sf rfl) (fun f d h=>(aBZ.lk aQj (f:=f) (x:=d) h).2) Try.checked.mixed e hl
end Go.Proofs.Ytgjcnbgfaimepaa
