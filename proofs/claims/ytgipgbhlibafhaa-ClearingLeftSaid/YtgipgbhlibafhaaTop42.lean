/- The laws of layer 42, out of their parts. -/
import Derived.Test.YtgipgbhlibafhaaTy
import Derived.Test.YtgipgbhlibafhaaSane42
import Derived.Test.YtgipgbhlibafhaaPLaw42b
set_option linter.unusedVariables false
namespace Go.Proofs.Ytgipgbhlibafhaa
open Vm
theorem top_best42 (n:Int) (dues:List GDue) (other:List Int) (wn:I64 n) (wd:Wl GDue.wf dues) (wo:Wl I64 other):mallongelaw42_ClearingBest n dues other = some true:=law42_best sane42 n dues other
theorem top_proved42 (n:Int) (dues:List GDue) (x p:List Int) (wn:I64 n) (wd:Wl GDue.wf dues) (wx:Wl I64 x) (wp:Wl I64 p):mallongelaw42_ClearingProved n dues x p = some true:=law42_proved sane42 n dues x p
theorem top_addMore42 (n:Int) (dues:List GDue) (d:GDue) (i e:Int) (wn:I64 n) (wd:Wl GDue.wf dues) (fd:Fl GDue.fit 24 dues) (wm:GDue.wf d) (tm:GDue.fit d) (wi:I64 i) (we:I64 e):mallongelaw42_ClearingMore n dues d i e = some true:=law42_more sane42 n dues d i e (by have:=fd.1; omega)
theorem top_left42 (n:Int) (dues:List GDue) (wn:I64 n) (wd:Wl GDue.wf dues):mallongelaw42_ClearingLeft n dues = some true:=law42_left sane42 n dues
end Go.Proofs.Ytgipgbhlibafhaa
