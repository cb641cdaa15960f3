/- Code and answers agree. -/
import Derived.Test.YtoefdnkjcfoccaaDoorLnk6
set_option linter.unusedVariables false
set_option linter.unusedSimpArgs false
namespace Go.Proofs.YtoefdnkjcfoccaaDoor
open Vm
open Go.RowKit
set_option maxRecDepth 100000
set_option maxHeartbeats 4000000
attribute [local congr] qD s6 qG s9
theorem BP (a2:Int) (x6:aJ):KF TT 9 [.agg x6.cells,.int .i64 a2,.sl []] (oH x6 a2 []) (fun (r:aH × Int)=>.tup [b9 (aH.cells r.1),dI r.2]):=kF (HN x6 a2 []) (fun _=>rfl) (fun _=>rfl)
theorem DJ (a0:aB) (a1 a2:Int) (a3:List Int):Vm.call TT 4 [.agg a0.cells,.int .i64 a1,.int .i64 a2,.sl (cM cI a3)] = (iD a0 a1 a2 a3).map fun (r:Bool)=>.bool r:=by
 refine (aW (show TT 4 = some (.code ⟨4,82,[.tmp 8],bd4,false,false⟩) from rfl) _ rfl rfl).trans ?_
 show bM TT bd4 ⟨[(0,b9 a0.cells),(1,dI a1),(2,dI a2),(3,.d (.sl (cM cI a3)))],[]⟩ _ = _
 unfold bd4 iD
 have u:=aN (aN @H7 (aN @KC @HM)) (aN @R6 (aN @IZ @BP))
 exact iV
end Go.Proofs.YtoefdnkjcfoccaaDoor
