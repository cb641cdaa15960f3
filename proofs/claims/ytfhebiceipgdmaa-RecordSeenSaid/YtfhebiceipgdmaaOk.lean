/- The table tells the truth: what the small machine answers, the program answers. Printed by a program. -/
import Derived.Test.YtfhebiceipgdmaaVmG
import Derived.Test.YtfhebiceipgdmaaTab
set_option linter.unusedVariables false
set_option linter.unusedSimpArgs false
namespace Go.Proofs.Ytfhebiceipgdmaa
open Vm
open Go.RowKit
open Go.ChangeShapes Go.WideShapes Go.Deep
set_option maxRecDepth 100000
theorem aHC:OD (aCt Try.prog) TL :=
 ⟨dE Try.func44 aLb,⟨dE Try.func48 aKX,⟨dE Try.func22 aLh,⟨dE Try.func45 aKT,⟨dE Try.func50 aKP,⟨dE Try.func73 aLf,⟨dE Try.func49 aKK,⟨dE Try.func74 aK6,⟨dE Try.func51 aKD,⟨dE Try.func47 aKn,⟨dE Try.func19 aK2,⟨aGv Try.func25 aLj,⟨dE Try.func46 aKU,⟨dE Try.func17 aLs,⟨dE Try.func14 aKY,⟨dE Try.func15 aK7,⟨dE Try.func16 aKO,⟨dE Try.func21 aLd,⟨dE Try.func91 aK4,⟨dE Try.func115 aJ6,⟨dE Try.func121 aJL,⟨dE Try.func116 aKl,⟨dE Try.func109 aKe,⟨dE Try.func93 aLu,⟨dE Try.func92 aKQ,⟨dE Try.func110 aJi,⟨dE Try.func95 aKF,⟨dE Try.func94 aLe,⟨dE Try.func96 aLp,⟨dE Try.func98 aKV,⟨dE Try.func97 aLi,⟨dE Try.func99 aKI,⟨dE Try.func100 aJB,⟨dE Try.func75 aKL,⟨dE Try.func76 aKN,⟨dE Try.func77 aKM,⟨dE Try.func78 aLn,⟨dE Try.func57 aLk,⟨dE Try.func59 aK1,⟨dE Try.func66 aLm,⟨dE Try.func117 aKo,⟨dE Try.func111 aJe,⟨dE Try.func101 aJZ,⟨dE Try.func79 aLo,⟨dE Try.func58 aKG,⟨dE Try.func80 aK9,⟨dE Try.func60 aLg,⟨dE Try.func102 aKt,⟨dE Try.func82 aLa,⟨dE Try.func81 aK5,⟨dE Try.func61 aK0,⟨dE Try.func29 aK3,⟨dE Try.func12 aKC,⟨dE Try.func13 aLr,trivial⟩⟩⟩⟩⟩⟩⟩⟩⟩⟩⟩⟩⟩⟩⟩⟩⟩⟩⟩⟩⟩⟩⟩⟩⟩⟩⟩⟩⟩⟩⟩⟩⟩⟩⟩⟩⟩⟩⟩⟩⟩⟩⟩⟩⟩⟩⟩⟩⟩⟩⟩⟩⟩⟩
theorem O8 {f:Nat} {ds:List D} {x:D} (e:Vm.call TT f ds = some x) (hl:lF 0 ds = none):zY Try.prog f ds x :=
 T7 (T:=TT) (fun f sf h=>(OD.lk aHC (f:=f) (x:=.code sf) h).1 sf rfl) (fun f o h=>(OD.lk aHC (f:=f) (x:=.told o) h).2 o rfl) Try.checked.mixed e hl
end Go.Proofs.Ytfhebiceipgdmaa
