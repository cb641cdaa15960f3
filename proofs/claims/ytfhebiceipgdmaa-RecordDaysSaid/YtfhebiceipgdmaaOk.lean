/- The table tells the truth: what the small machine answers, the program answers. Printed by a program. -/
import Derived.Test.YtfhebiceipgdmaaVmG
import Derived.Test.YtfhebiceipgdmaaTab
set_option linter.unusedVariables false
set_option linter.unusedSimpArgs false
namespace Go.Proofs.Ytfhebiceipgdmaa
open Vm
open Go.RowKit
open Go.ChangeShapes Go.WideShapes Go.Deep
set_option maxRecDepth 100000
theorem aHq:OP (aAR Try.prog) TL :=
 ⟨dC Try.func44 aKM,⟨dC Try.func48 aKJ,⟨dC Try.func22 aLh,⟨dC Try.func45 aLs,⟨dC Try.func50 aLu,⟨dC Try.func73 aLv,⟨dC Try.func49 aLf,⟨dC Try.func74 aLq,⟨dC Try.func51 aLi,⟨dC Try.func47 aJc,⟨dC Try.func19 aKX,⟨aG8 Try.func25 aLe,⟨dC Try.func46 aKK,⟨dC Try.func17 aLb,⟨dC Try.func14 aKL,⟨dC Try.func15 aKZ,⟨dC Try.func16 aLk,⟨dC Try.func21 aK3,⟨dC Try.func91 aK0,⟨dC Try.func115 aKk,⟨dC Try.func121 aJq,⟨dC Try.func116 aJp,⟨dC Try.func109 aKc,⟨dC Try.func93 aK2,⟨dC Try.func92 aKF,⟨dC Try.func110 aJD,⟨dC Try.func95 aKR,⟨dC Try.func94 aLa,⟨dC Try.func96 aLn,⟨dC Try.func98 aKW,⟨dC Try.func97 aKV,⟨dC Try.func99 aLp,⟨dC Try.func100 aJQ,⟨dC Try.func75 aLo,⟨dC Try.func76 aK6,⟨dC Try.func77 aLg,⟨dC Try.func78 aLt,⟨dC Try.func57 aKT,⟨dC Try.func59 aLd,⟨dC Try.func66 aKH,⟨dC Try.func117 aJL,⟨dC Try.func111 aKs,⟨dC Try.func101 aJ5,⟨dC Try.func79 aK5,⟨dC Try.func58 aKG,⟨dC Try.func80 aLj,⟨dC Try.func60 aKU,⟨dC Try.func102 aJu,⟨dC Try.func82 aKP,⟨dC Try.func81 aKC,⟨dC Try.func61 aKN,⟨dC Try.func29 aK7,⟨dC Try.func12 aLl,⟨dC Try.func13 aK1,trivial⟩⟩⟩⟩⟩⟩⟩⟩⟩⟩⟩⟩⟩⟩⟩⟩⟩⟩⟩⟩⟩⟩⟩⟩⟩⟩⟩⟩⟩⟩⟩⟩⟩⟩⟩⟩⟩⟩⟩⟩⟩⟩⟩⟩⟩⟩⟩⟩⟩⟩⟩⟩⟩⟩
theorem RP {f:Nat} {ds:List D} {x:D} (e:Vm.call TT f ds = some x) (hl:lH 0 ds = none):AB Try.prog f ds x :=
 UU (T:=TT) (fun f sf h=>(OP.lk aHq (f:=f) (x:=.code sf) h).1 sf rfl) (fun f o h=>(OP.lk aHq (f:=f) (x:=.told o) h).2 o rfl) Try.checked.mixed e hl
end Go.Proofs.Ytfhebiceipgdmaa
