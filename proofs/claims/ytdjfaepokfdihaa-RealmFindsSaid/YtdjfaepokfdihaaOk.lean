/- The table tells the truth: what the small machine answers, the program answers. Printed by a program. -/
import Derived.Test.YtdjfaepokfdihaaRd
import Derived.Test.YtdjfaepokfdihaaTab
set_option linter.unusedVariables false
set_option linter.unusedSimpArgs false
namespace Go.Proofs.Ytdjfaepokfdihaa
open Vm
open Go.RowKit
open Go.ChangeShapes Go.WideShapes Go.Deep
set_option maxRecDepth 100000
theorem tt_ok : AllL (OkDef Try.prog) TL :=
  ⟨okCode Try.func38 lw38, ⟨okCode Try.func15 lw15, ⟨okCode Try.func39 lw39, ⟨okCode Try.func80 lw80, ⟨okCode Try.func88 lw88, ⟨okCode Try.func81 lw81, ⟨okCode Try.func69 lw69, ⟨okCode Try.func41 lw41, ⟨okCode Try.func40 lw40, ⟨okCode Try.func44 lw44, ⟨okCode Try.func70 lw70, ⟨okCode Try.func43 lw43, ⟨okCode Try.func42 lw42, ⟨okCode Try.func45 lw45, ⟨okCode Try.func47 lw47, ⟨okCode Try.func46 lw46, ⟨okCode Try.func48 lw48, ⟨okCode Try.func49 lw49, ⟨okCode Try.func17 lw17, ⟨okCode Try.func19 lw19, ⟨okCode Try.func22 lw22, ⟨okCode Try.func21 lw21, ⟨okCode Try.func24 lw24, ⟨okCode Try.func59 lw59, ⟨okCode Try.func58 lw58, ⟨okCode Try.func28 lw28, ⟨okCode Try.func57 lw57, ⟨okCode Try.func56 lw56, ⟨okCode Try.func26 lw26, ⟨okCode Try.func13 lw13, ⟨okCode Try.func14 lw14, ⟨okCode Try.func16 lw16, ⟨okCode Try.func89 lw89, ⟨okCode Try.func82 lw82, ⟨okCode Try.func83 lw83, ⟨okCode Try.func71 lw71, ⟨okCode Try.func55 lw55, ⟨okCode Try.func84 lw84, ⟨okCode Try.func72 lw72, ⟨okCode Try.func50 lw50, ⟨okCode Try.func51 lw51, ⟨okCode Try.func73 lw73, ⟨okCode Try.func52 lw52, ⟨okCode Try.func53 lw53, ⟨okCode Try.func54 lw54, ⟨okCode Try.func18 lw18, ⟨okCode Try.func20 lw20, ⟨okCode Try.func23 lw23, ⟨okCode Try.func25 lw25, ⟨okCode Try.func27 lw27, ⟨okCode Try.func29 lw29, ⟨okCode Try.func3 lw3, ⟨okCode Try.func4 lw4, ⟨okCode Try.func5 lw5, ⟨okCode Try.func6 lw6, ⟨okCode Try.func7 lw7, trivial⟩⟩⟩⟩⟩⟩⟩⟩⟩⟩⟩⟩⟩⟩⟩⟩⟩⟩⟩⟩⟩⟩⟩⟩⟩⟩⟩⟩⟩⟩⟩⟩⟩⟩⟩⟩⟩⟩⟩⟩⟩⟩⟩⟩⟩⟩⟩⟩⟩⟩⟩⟩⟩⟩⟩⟩
theorem tt_sound {f : Nat} {ds : List D} {x : D} (e : Vm.call TT f ds = some x) : Sound Try.prog f ds x :=
  call_sound (T := TT) (fun f sf h => (AllL.lk tt_ok (f := f) (x := .code sf) h).1 sf rfl) (fun f o h => (AllL.lk tt_ok (f := f) (x := .told o) h).2 o rfl) Try.checked.mixed e
end Go.Proofs.Ytdjfaepokfdihaa
