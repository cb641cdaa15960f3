/- The table tells the truth: what the small machine answers, the program answers. Printed by a program. -/
import Derived.Test.YtjjcaapdaldedaaVmG
import Derived.Test.YtjjcaapdaldedaaTab
import Derived.Test.YtjjcaapdaldedaaTold
set_option linter.unusedVariables false
set_option linter.unusedSimpArgs false
namespace Go.Proofs.Ytjjcaapdaldedaa
open Vm
open Go.RowKit
open Go.ChangeShapes Go.WideShapes Go.Deep
set_option maxRecDepth 100000
theorem aNK:ZY (aEi Try.prog) TL :=
 ⟨bG Try.func15 aR0,⟨bG Try.func16 aRw,⟨bG Try.func28 aRb,⟨bG Try.func71 aRX,⟨bG Try.func79 aRc,⟨bG Try.func72 aR9,⟨bG Try.func57 aRm,⟨bG Try.func30 aSa,⟨bG Try.func29 aRh,⟨bG Try.func33 aSi,⟨bG Try.func58 aRE,⟨bG Try.func32 aRS,⟨bG Try.func31 aRe,⟨bG Try.func34 aRg,⟨bG Try.func36 aRj,⟨bG Try.func35 aRf,⟨bG Try.func37 aSk,⟨bG Try.func38 aRR,⟨bG Try.func18 aSc,⟨bG Try.func43 aRr,⟨bG Try.func54 aRM,⟨bG Try.func68 aRu,⟨bG Try.func53 aSg,⟨bG Try.func25 aRq,⟨bG Try.func60 aRF,⟨bG Try.func44 aRy,⟨bG Try.func80 aRx,⟨bG Try.func73 aRH,⟨bG Try.func59 aSe,⟨bG Try.func41 aSm,⟨aLF Try.func19 aR2,⟨bG Try.func8 lw8,⟨bG Try.func27 aRY,⟨bG Try.func22 aRW,⟨bG Try.func10 aRK,⟨bG Try.func67 aR8,⟨bG Try.func77 aRJ,⟨bG Try.func66 aSn,⟨bG Try.func51 aRv,⟨bG Try.func52 aRO,⟨bG Try.func23 aRp,⟨bG Try.func24 aSh,⟨bG Try.func11 aRd,⟨bG Try.func13 aRi,⟨bG Try.func6 lw6,⟨bG Try.func17 aRk,⟨bG Try.func7 lw7,⟨bG Try.func81 aRo,⟨bG Try.func74 aR4,⟨bG Try.func75 aRz,⟨bG Try.func61 aRs,⟨bG Try.func63 aRI,⟨bG Try.func76 aRN,⟨bG Try.func62 aSp,⟨bG Try.func45 aSf,⟨bG Try.func46 aRD,⟨bG Try.func64 aSq,⟨bG Try.func47 aRZ,⟨bG Try.func48 aSj,⟨bG Try.func49 aRA,⟨bG Try.func20 aRU,⟨bG Try.func69 aRL,⟨bG Try.func78 aR7,⟨bG Try.func70 aR6,⟨bG Try.func55 aRl,⟨bG Try.func56 aR5,⟨bG Try.func26 aRB,⟨bG Try.func65 aSd,⟨bG Try.func50 aRP,⟨bG Try.func21 aRG,⟨bG Try.func9 lw9,⟨bG Try.func12 aRV,⟨bG Try.func14 aSb,⟨bG Try.func3 lw3,⟨aOs aPq,trivial⟩⟩⟩⟩⟩⟩⟩⟩⟩⟩⟩⟩⟩⟩⟩⟩⟩⟩⟩⟩⟩⟩⟩⟩⟩⟩⟩⟩⟩⟩⟩⟩⟩⟩⟩⟩⟩⟩⟩⟩⟩⟩⟩⟩⟩⟩⟩⟩⟩⟩⟩⟩⟩⟩⟩⟩⟩⟩⟩⟩⟩⟩⟩⟩⟩⟩⟩⟩⟩⟩⟩⟩⟩⟩⟩
theorem aJ0 {f:Nat} {ds:List D} {x:D} (e:Vm.call TT f ds = some x) (hl:nR 0 ds = none):JY Try.prog f ds x :=
 aC6 (T:=TT) (fun f sf h=>(ZY.lk aNK (f:=f) (x:=.code sf) h).1 sf rfl) (fun f d h=>(ZY.lk aNK (f:=f) (x:=d) h).2) Try.checked.mixed e hl
end Go.Proofs.Ytjjcaapdaldedaa
