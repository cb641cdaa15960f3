/- The table tells the truth: what the small machine answers, the program answers. Printed by a program. -/
import Derived.Test.YtfhebiceipgdmaaVmG
import Derived.Test.YtfhebiceipgdmaaTab
import Derived.Test.YtfhebiceipgdmaaTold
set_option linter.unusedVariables false
set_option linter.unusedSimpArgs false
namespace Go.Proofs.Ytfhebiceipgdmaa
open Vm
open Go.RowKit
open Go.ChangeShapes Go.WideShapes Go.Deep
set_option maxRecDepth 100000
theorem aJf:Q0 (aCy Try.prog) TL :=
 ⟨cN Try.func56 aMY,⟨cN Try.func91 aMC,⟨cN Try.func115 aK5,⟨cN Try.func121 aKY,⟨cN Try.func116 aLs,⟨cN Try.func109 aLL,⟨cN Try.func93 aNe,⟨cN Try.func92 aM1,⟨cN Try.func74 aNq,⟨cN Try.func110 aLY,⟨cN Try.func95 aMJ,⟨cN Try.func94 aNh,⟨cN Try.func96 aNf,⟨cN Try.func98 aNz,⟨cN Try.func97 aMO,⟨cN Try.func99 aNa,⟨cN Try.func100 aLv,⟨cN Try.func75 aMH,⟨cN Try.func76 aMV,⟨cN Try.func77 aMA,⟨cN Try.func78 aNj,⟨cN Try.func57 aNA,⟨cN Try.func59 aM3,⟨cN Try.func66 aMW,⟨cN Try.func117 aLZ,⟨cN Try.func111 aK0,⟨cN Try.func101 aMh,⟨cN Try.func79 aMS,⟨cN Try.func58 aNp,⟨cN Try.func80 aNu,⟨cN Try.func60 aMM,⟨cN Try.func102 aKL,⟨cN Try.func82 aM4,⟨cN Try.func81 aNg,⟨cN Try.func61 aM0,⟨cN Try.func29 aMz,⟨cN Try.func30 aM2,⟨cN Try.func33 aNx,⟨cN Try.func37 aMU,⟨cN Try.func32 aME,⟨cN Try.func34 aNd,⟨cN Try.func27 aM6,⟨cN Try.func28 aNi,⟨cN Try.func122 aMf,⟨cN Try.func118 aMj,⟨cN Try.func119 aLS,⟨cN Try.func112 aLC,⟨cN Try.func69 aNy,⟨cN Try.func120 aLB,⟨cN Try.func113 aLh,⟨cN Try.func103 aMp,⟨cN Try.func104 aMq,⟨cN Try.func114 aLa,⟨cN Try.func105 aLI,⟨cN Try.func106 aLg,⟨cN Try.func107 aK9,⟨cN Try.func83 aMG,⟨cN Try.func84 aNc,⟨cN Try.func85 aNt,⟨cN Try.func86 aMQ,⟨cN Try.func87 aML,⟨cN Try.func88 aM7,⟨cN Try.func67 aMN,⟨cN Try.func72 aMX,⟨cN Try.func108 aLx,⟨cN Try.func89 aNl,⟨cN Try.func68 aMZ,⟨cN Try.func90 aNB,⟨cN Try.func70 aMT,⟨cN Try.func71 aMD,⟨cN Try.func36 aNn,⟨cN Try.func35 aM5,⟨cN Try.func31 aMK,⟨cN Try.func38 aNb,⟨cN Try.func40 aMI,⟨cN Try.func41 aMB,⟨cN Try.func39 aNk,⟨cN Try.func42 aMF,⟨cN Try.func43 aNs,⟨cN Try.func10 aNm,⟨Q4 aLi,⟨Q4 aLK,⟨Q4 aMe,⟨Q4 aLO,trivial⟩⟩⟩⟩⟩⟩⟩⟩⟩⟩⟩⟩⟩⟩⟩⟩⟩⟩⟩⟩⟩⟩⟩⟩⟩⟩⟩⟩⟩⟩⟩⟩⟩⟩⟩⟩⟩⟩⟩⟩⟩⟩⟩⟩⟩⟩⟩⟩⟩⟩⟩⟩⟩⟩⟩⟩⟩⟩⟩⟩⟩⟩⟩⟩⟩⟩⟩⟩⟩⟩⟩⟩⟩⟩⟩⟩⟩⟩⟩⟩⟩⟩⟩⟩
theorem aE0 {f:Nat} {ds:List D} {x:D} (e:Vm.call TT f ds = some x):rZ Try.prog f ds x :=
 XK (T:=TT) (fun f sf h=>(Q0.lk aJf (f:=f) (x:=.code sf) h).1 sf rfl) (fun f o h=>(Q0.lk aJf (f:=f) (x:=.told o) h).2 o rfl) Try.checked.mixed e
end Go.Proofs.Ytfhebiceipgdmaa
