/- The table tells the truth: what the small machine answers, the program answers. Printed by a program. -/
import Derived.Test.YtjjcaapdaldedaaVmG
import Derived.Test.YtjjcaapdaldedaaTab
import Derived.Test.YtjjcaapdaldedaaTold
set_option linter.unusedVariables false
set_option linter.unusedSimpArgs false
namespace Go.Proofs.Ytjjcaapdaldedaa
open Vm
open Go.RowKit
open Go.ChangeShapes Go.WideShapes Go.Deep
set_option maxRecDepth 100000
theorem aJ7:UK (aAW Try.prog) TL :=
 ⟨dE Try.func15 aNr,⟨dE Try.func16 aNG,⟨dE Try.func28 aNg,⟨dE Try.func71 aNd,⟨dE Try.func79 aNU,⟨dE Try.func72 aNv,⟨dE Try.func57 aNn,⟨dE Try.func30 aNN,⟨dE Try.func29 aNK,⟨dE Try.func33 aNi,⟨dE Try.func58 aNt,⟨dE Try.func32 aNS,⟨dE Try.func31 aNE,⟨dE Try.func34 aNP,⟨dE Try.func36 aNR,⟨dE Try.func35 aNB,⟨dE Try.func37 aNz,⟨dE Try.func38 aNa,⟨dE Try.func18 aNp,⟨dE Try.func43 aNL,⟨dE Try.func54 aM7,⟨dE Try.func68 aNO,⟨dE Try.func53 aNc,⟨dE Try.func25 aNb,⟨dE Try.func60 aNx,⟨dE Try.func44 aNm,⟨dE Try.func80 aM9,⟨dE Try.func73 aNA,⟨dE Try.func59 aNQ,⟨dE Try.func41 aM6,⟨aAV Try.func19 aM8,⟨dE Try.func8 lw8,⟨dE Try.func27 aNj,⟨dE Try.func22 aNT,⟨dE Try.func10 aNC,⟨dE Try.func67 aNJ,⟨dE Try.func77 aNI,⟨dE Try.func66 aNk,⟨dE Try.func51 aNM,⟨dE Try.func52 aND,⟨dE Try.func23 aNH,⟨dE Try.func24 aNl,⟨dE Try.func11 aNe,⟨dE Try.func13 aNV,⟨dE Try.func6 lw6,⟨dE Try.func17 aNw,⟨dE Try.func7 lw7,⟨aAV Try.func5 lw5,⟨aKU aML,trivial⟩⟩⟩⟩⟩⟩⟩⟩⟩⟩⟩⟩⟩⟩⟩⟩⟩⟩⟩⟩⟩⟩⟩⟩⟩⟩⟩⟩⟩⟩⟩⟩⟩⟩⟩⟩⟩⟩⟩⟩⟩⟩⟩⟩⟩⟩⟩⟩⟩
theorem aEb {f:Nat} {ds:List D} {x:D} (e:Vm.call TT f ds = some x) (hl:lN 0 ds = none):E5 Try.prog f ds x :=
 aAt (T:=TT) (fun f sf h=>(UK.lk aJ7 (f:=f) (x:=.code sf) h).1 sf rfl) (fun f d h=>(UK.lk aJ7 (f:=f) (x:=d) h).2) Try.checked.mixed e hl
end Go.Proofs.Ytjjcaapdaldedaa
