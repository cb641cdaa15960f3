/- The table tells the truth: what the small machine answers, the program answers. Printed by a program. -/
import Derived.Test.YtjjcaapdaldedaaVmG
import Derived.Test.YtjjcaapdaldedaaTab
import Derived.Test.YtjjcaapdaldedaaTold
set_option linter.unusedVariables false
set_option linter.unusedSimpArgs false
namespace Go.Proofs.Ytjjcaapdaldedaa
open Vm
open Go.RowKit
open Go.ChangeShapes Go.WideShapes Go.Deep
set_option maxRecDepth 100000
theorem aFt:NX (UH Try.prog) TL :=
 ⟨fF Try.func15 aIE,⟨fF Try.func16 aID,⟨fF Try.func28 aIN,⟨fF Try.func71 aI7,⟨fF Try.func79 aIw,⟨fF Try.func72 aIG,⟨fF Try.func57 aIk,⟨fF Try.func30 aIB,⟨fF Try.func29 aIY,⟨fF Try.func33 aIp,⟨fF Try.func58 aIl,⟨fF Try.func32 aIC,⟨fF Try.func31 aIJ,⟨fF Try.func34 aIX,⟨fF Try.func36 aIm,⟨fF Try.func35 aI4,⟨fF Try.func37 aIZ,⟨fF Try.func38 aIM,⟨fF Try.func18 aIR,⟨fF Try.func43 aIT,⟨fF Try.func54 aIS,⟨fF Try.func68 aIL,⟨fF Try.func53 aI0,⟨fF Try.func25 aIr,⟨fF Try.func60 aIA,⟨fF Try.func44 aIv,⟨fF Try.func80 aIH,⟨fF Try.func73 aI6,⟨fF Try.func59 aIU,⟨fF Try.func41 aIQ,⟨aEg Try.func19 aIP,⟨fF Try.func8 lw8,⟨fF Try.func27 aIz,⟨fF Try.func22 aJa,⟨fF Try.func10 aIt,⟨fF Try.func67 aIs,⟨fF Try.func77 aI2,⟨fF Try.func66 aI1,⟨fF Try.func51 aIF,⟨fF Try.func52 aIW,⟨fF Try.func23 aI9,⟨fF Try.func24 aIK,⟨fF Try.func11 aI5,⟨fF Try.func13 aJb,⟨fF Try.func6 lw6,⟨fF Try.func17 aI8,⟨fF Try.func7 lw7,⟨fF Try.func4 lw4,⟨aF5 aHc,trivial⟩⟩⟩⟩⟩⟩⟩⟩⟩⟩⟩⟩⟩⟩⟩⟩⟩⟩⟩⟩⟩⟩⟩⟩⟩⟩⟩⟩⟩⟩⟩⟩⟩⟩⟩⟩⟩⟩⟩⟩⟩⟩⟩⟩⟩⟩⟩⟩⟩
theorem aB4 {f:Nat} {ds:List D} {x:D} (e:Vm.call TT f ds = some x) (hl:kP 0 ds = none):BT Try.prog f ds x :=
 TS (T:=TT) (fun f sf h=>(NX.lk aFt (f:=f) (x:=.code sf) h).1 sf rfl) (fun f d h=>(NX.lk aFt (f:=f) (x:=d) h).2) Try.checked.mixed e hl
end Go.Proofs.Ytjjcaapdaldedaa
