/- The laws of layer 11, out of their parts. -/
import Derived.Test.YtjllkddmkdajcaaSane11
import Derived.Test.YtjllkddmkdajcaaPLaw11b
import Derived.Test.YtjllkddmkdajcaaPLaw11c
set_option linter.unusedVariables false
namespace Go.Proofs.Ytjllkddmkdajcaa
open Vm
theorem top_tells11 (r:GRealm) (b:GBill) (seen grace city day:Int) (w:GRealm.wf r) (wb:GBill.wf b) (w1:I64 seen) (w2:I64 grace) (w3:I64 city) (w4:I64 day):mallongelaw11_TenorTells r b seen grace city day = some true:=law11_tells sane11 r b seen grace city day w
theorem top_first11 (r:GRealm) (b:GBill) (seen grace:Int) (w:GRealm.wf r) (wb:GBill.wf b) (w1:I64 seen) (w2:I64 grace):mallongelaw11_TenorFirst r b seen grace = some true:=law11_first sane11 r b seen grace w
theorem top_halts11 (r:GRealm) (b:GBill) (seen grace:Int) (halt:GHalt) (shut:Int) (w:GRealm.wf r) (wb:GBill.wf b) (w1:I64 seen) (w2:I64 grace) (wh:GHalt.wf halt) (ws:I64 shut):mallongelaw11_TenorHalts r b seen grace halt shut = some true:=law11_halts sane11 r b seen grace halt shut w wh ws
theorem top_kinds11 (r:GRealm) (b:GBill) (n seen grace:Int) (w:GRealm.wf r) (wb:GBill.wf b) (w1:I64 n) (w2:I64 seen) (w3:I64 grace):mallongelaw11_TenorKinds r b n seen grace = some true:=law11_kinds sane11 r b n seen grace w
end Go.Proofs.Ytjllkddmkdajcaa
