/- The functions of the small machine compute the plain definitions. Printed by a program. -/
import Derived.Test.YtibhbfhelfjloaaLnk3
set_option linter.unusedVariables false
set_option linter.unusedSimpArgs false
namespace Go.Proofs.Ytibhbfhelfjloaa
open Vm
open Go.RowKit
set_option maxRecDepth 100000
set_option maxHeartbeats 4000000
attribute [local congr] condK_congr opsK_congr opsDK_congr valK_congr
theorem e_mallongelaw11_TenorLater_j1 {β:Type} (a0:GRealm) (a1:GBill) (r1:Bool) (r4:Int × Int) (k:Ex→St→Option β):evK TT c_mallongelaw11_TenorLater_j1 ⟨[(4,.ptr 4 0),(5,.ptr 5 0),(9,.d (.bool r1)),(10,.d (.int .i64 r4.1)),(11,.d (.int .i64 r4.2))],[(4,some (.box (dcells (GRealm.cells a0)))),(5,some (.box (dcells (GBill.cells a1))))]⟩ k = (mallongelaw11_TenorLater_j1 a0 a1 r1 r4).bind (fun (r:Bool)=>k .ret ⟨[(8,.d (.bool r))],[]⟩):=by
 simp -implicitDefEqProofs (decide:=true) (maxSteps:=2000000) only [c_mallongelaw11_TenorLater_j1,mallongelaw11_TenorLater_j1,↓k_mallongelaw11_sane,↓k_mallongeref09_Few,↓k_mrealm_Check,↓k_mtenor_Due,↓k_mtenor_Settle,↓DN,↓DR,DQ,DP,↓reduceIte,Int.reduceToNat,Nat.reduceBEq,Nat.reduceAdd,Nat.reduceLT,Nat.reduceLeDiff,Nat.reduceEqDiff,Int.reduceEq,ne_eq,not_false_eq_true,reduceCtorEq,specL,specO,specP,beq_self_eq_true,List.length_cons,List.length_nil,cM_length,Bool.not_true,Bool.not_false,if_true,if_false,List.replicate_succ,List.replicate_zero,dcells_len,Option.bind_some,none_bind,Option.map_some,Option.map_none,Sum.elim_inl,Sum.elim_inr,sized_cI,sized_cB,sized_cS,sized_cL,sized_cK,stepR_none,stepR_inl,stepR_inr,elim_stepR,stepR_ite,stepR_bind,ite_bind,ite_map,Vm.bind_map,elim_bind,elim_map,Option.bind_assoc]
 all_goals try simp only [gIf_eq]
 all_goals try rfl
theorem c_mallongelaw11_TenorLater (a0:GRealm) (a1:GBill) (a2:GArr2I) (a3:GArr2I):Vm.call TT 3 [.agg (GRealm.cells a0),.agg (GBill.cells a1),.agg (GArr2I.cells a2),.agg (GArr2I.cells a3)] = (mallongelaw11_TenorLater a0 a1 a2 a3).map fun (r:Bool)=>.bool r:=by
 refine (call_eqF (show TT 3 = some (.code ⟨4,94,[.tmp 8],bd3,false⟩) from rfl) _ rfl).trans ?_
 show evK TT bd3 ⟨[(0,aggD (GRealm.cells a0)),(1,aggD (GBill.cells a1)),(2,aggD (GArr2I.cells a2)),(3,aggD (GArr2I.cells a3))],[]⟩ _ = _
 simp -implicitDefEqProofs (decide:=true) (maxSteps:=2000000) only [bd3,mallongelaw11_TenorLater,↓e_mallongelaw11_TenorLater_j1,↓k_mallongelaw11_sane,↓k_mallongeref09_Few,↓k_mrealm_Check,↓k_mtenor_Due,↓k_mtenor_Settle,↓DN,↓DR,DQ,DP,↓reduceIte,Int.reduceToNat,Nat.reduceBEq,Nat.reduceAdd,Nat.reduceLT,Nat.reduceLeDiff,Nat.reduceEqDiff,Int.reduceEq,ne_eq,not_false_eq_true,reduceCtorEq,specL,specO,specP,beq_self_eq_true,List.length_cons,List.length_nil,cM_length,Bool.not_true,Bool.not_false,if_true,if_false,List.replicate_succ,List.replicate_zero,dcells_len,Option.bind_some,none_bind,Option.map_some,Option.map_none,Sum.elim_inl,Sum.elim_inr,sized_cI,sized_cB,sized_cS,sized_cL,sized_cK,stepR_none,stepR_inl,stepR_inr,elim_stepR,stepR_ite,stepR_bind,ite_bind,ite_map,Vm.bind_map,elim_bind,elim_map,Option.bind_assoc]
 all_goals try simp only [gIf_eq]
 all_goals try rfl
end Go.Proofs.Ytibhbfhelfjloaa
