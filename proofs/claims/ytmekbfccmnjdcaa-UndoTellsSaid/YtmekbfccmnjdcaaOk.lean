/- The table tells the truth: what the small machine answers, the program answers. Printed by a program. -/
import Derived.Test.YtmekbfccmnjdcaaVmG
import Derived.Test.YtmekbfccmnjdcaaTab
import Derived.Test.YtmekbfccmnjdcaaTold
set_option linter.unusedVariables false
set_option linter.unusedSimpArgs false
namespace Go.Proofs.Ytmekbfccmnjdcaa
open Vm
open Go.RowKit
open Go.ChangeShapes Go.WideShapes Go.Deep
set_option maxRecDepth 100000
theorem tq_ok {o:List D→Option D} (ho:∀ ds x t,o ds = some x→lentAt 0 ds = some t→SoundL Try.prog 48 ds t x):AllL (OkDef Try.prog) (TLQ o) :=
 ⟨okCode Try.func44 lw44,⟨okCode Try.func49 lw49,⟨okCode Try.func17 lw17,⟨okCode Try.func74 lw74,⟨okCode Try.func112 lw112,⟨okCode Try.func73 lw73,⟨okCode Try.func47 lw47,⟨okCode Try.func79 lw79,⟨okCode Try.func113 lw113,⟨okCode Try.func78 lw78,⟨okCode Try.func54 lw54,⟨okCode Try.func45 lw45,⟨okCodeG Try.func14 lw14,⟨okCode Try.func16 lw16,⟨okCodeG Try.func20 lw20,⟨okCode Try.func19 lw19,⟨okCode Try.func75 lw75,⟨okCodeG Try.func22 lw22,⟨okCodeG Try.func24 lw24,⟨okCode Try.func77 lw77,⟨okCode Try.func53 lw53,⟨okCode Try.func26 lw26,⟨okCode Try.func12 lw12,⟨okCode Try.func13 lw13,⟨okCode Try.func29 lw29,⟨okCode Try.func18 lw18,⟨okCode Try.func30 lw30,⟨okCode Try.func50 lw50,⟨okCode Try.func21 lw21,⟨okToldL ho,⟨okCode Try.func15 lw15,⟨okCode Try.func52 lw52,⟨okCode Try.func23 lw23,⟨okCode Try.func25 lw25,⟨okCode Try.func31 lw31,⟨okCode Try.func27 lw27,⟨okCode Try.func3 lw3,⟨okTold tok76,trivial⟩⟩⟩⟩⟩⟩⟩⟩⟩⟩⟩⟩⟩⟩⟩⟩⟩⟩⟩⟩⟩⟩⟩⟩⟩⟩⟩⟩⟩⟩⟩⟩⟩⟩⟩⟩⟩⟩
theorem rec_sound:∀ (n:Nat) (ds:List D) (x:D) (t:Nat),oRec n ds = some x→lentAt 0 ds = some t→SoundL Try.prog 48 ds t x
 | 0,ds,x,t,e,hl=>(by cases e)
 | n + 1,ds,x,t,e,hl=>runL_sound (T:=TQ (oRec n)) (fun f sf h=>(AllL.lk (tq_ok (rec_sound n)) (f:=f) (x:=.code sf) h).1 sf rfl) (fun f d h=>(AllL.lk (tq_ok (rec_sound n)) (f:=f) (x:=d) h).2) Try.checked.mixed Try.func48 lw48.g e hl
theorem tt_ok:AllL (OkDef Try.prog) TL:=tq_ok (rec_sound 1000)
theorem tt_sound {f:Nat} {ds:List D} {x:D} (e:Vm.call TT f ds = some x) (hl:lentAt 0 ds = none):Sound Try.prog f ds x :=
 call_sound (T:=TT) (fun f sf h=>(AllL.lk tt_ok (f:=f) (x:=.code sf) h).1 sf rfl) (fun f d h=>(AllL.lk tt_ok (f:=f) (x:=d) h).2) Try.checked.mixed e hl
end Go.Proofs.Ytmekbfccmnjdcaa
