/- The laws of layer 06, out of their parts. -/
import Derived.Test.YtlpgfmnicomjjaaTy
import Derived.Test.YtlpgfmnicomjjaaSane06
import Derived.Test.YtlpgfmnicomjjaaPLaw06e
set_option linter.unusedVariables false
namespace Go.Proofs.Ytlpgfmnicomjjaa
open Vm
theorem top_reaches06 (n:Int) (es:List GArr2I) (f:Int) (set:List Bool) (wn:I64 n) (we:Wl GArr2I.wf es) (wf:I64 f) (ws:Wl (fun _=>True) set):mallongelaw06_GraphReaches n es f set = some true:=law06_reaches sane06 n es f set
theorem top_orders06 (n:Int) (es:List GArr2I) (wn:I64 n) (we:Wl GArr2I.wf es):mallongelaw06_GraphOrders n es = some true:=law06_orders sane06 n es
theorem top_shortest06 (n:Int) (es:List GArr2I) (w:List Int) (wn:I64 n) (we:Wl GArr2I.wf es) (ww:Wl I64 w):mallongelaw06_GraphShortest n es w = some true:=law06_shortest sane06 n es w
theorem top_groups06 (n:Int) (es:List GArr2I) (a b:Int) (wn:I64 n) (we:Wl GArr2I.wf es) (wa:I64 a) (wb:I64 b):mallongelaw06_GraphGroups n es a b = some true:=law06_groups sane06 n es a b
theorem top_grows06 (n:Int) (es:List GArr2I) (f:Int) (x:GArr2I) (wn:I64 n) (we:Wl GArr2I.wf es) (fe:Fl GArr2I.fit 16 es) (wf:I64 f) (wx:GArr2I.wf x) (tx:GArr2I.fit x):mallongelaw06_GraphGrows n es f x = some true:=law06_grows sane06 n es f x (by have:=fe.1; omega)
end Go.Proofs.Ytlpgfmnicomjjaa
