/- The table tells the truth: what the small machine answers, the program answers. Printed by a program. -/
import Derived.Test.YtdjfaepokfdihaaRd
import Derived.Test.YtdjfaepokfdihaaTab
set_option linter.unusedVariables false
set_option linter.unusedSimpArgs false
namespace Go.Proofs.Ytdjfaepokfdihaa
open Vm
open Go.RowKit
open Go.ChangeShapes Go.WideShapes Go.Deep
set_option maxRecDepth 100000
theorem tt_ok : AllL (OkDef Try.prog) TL :=
  ⟨okCode Try.func60 lw60, ⟨okCode Try.func75 lw75, ⟨okCode Try.func85 lw85, ⟨okCode Try.func74 lw74, ⟨okCode Try.func61 lw61, ⟨okCode Try.func33 lw33, ⟨okCode Try.func76 lw76, ⟨okCode Try.func62 lw62, ⟨okCode Try.func31 lw31, ⟨okCode Try.func35 lw35, ⟨okCode Try.func30 lw30, ⟨okCode Try.func14 lw14, ⟨okCode Try.func39 lw39, ⟨okCode Try.func80 lw80, ⟨okCode Try.func88 lw88, ⟨okCode Try.func81 lw81, ⟨okCode Try.func69 lw69, ⟨okCode Try.func41 lw41, ⟨okCode Try.func40 lw40, ⟨okCode Try.func44 lw44, ⟨okCode Try.func70 lw70, ⟨okCode Try.func43 lw43, ⟨okCode Try.func42 lw42, ⟨okCode Try.func45 lw45, ⟨okCode Try.func47 lw47, ⟨okCode Try.func46 lw46, ⟨okCode Try.func48 lw48, ⟨okCode Try.func49 lw49, ⟨okCode Try.func17 lw17, ⟨okCode Try.func55 lw55, ⟨okCode Try.func63 lw63, ⟨okCode Try.func64 lw64, ⟨okCode Try.func34 lw34, ⟨okCode Try.func32 lw32, ⟨okCode Try.func8 lw8, ⟨okCode Try.func9 lw9, ⟨okCode Try.func10 lw10, ⟨okCode Try.func11 lw11, trivial⟩⟩⟩⟩⟩⟩⟩⟩⟩⟩⟩⟩⟩⟩⟩⟩⟩⟩⟩⟩⟩⟩⟩⟩⟩⟩⟩⟩⟩⟩⟩⟩⟩⟩⟩⟩⟩⟩
theorem tt_sound {f : Nat} {ds : List D} {x : D} (e : Vm.call TT f ds = some x) : Sound Try.prog f ds x :=
  call_sound (T := TT) (fun f sf h => (AllL.lk tt_ok (f := f) (x := .code sf) h).1 sf rfl) (fun f o h => (AllL.lk tt_ok (f := f) (x := .told o) h).2 o rfl) Try.checked.mixed e
end Go.Proofs.Ytdjfaepokfdihaa
