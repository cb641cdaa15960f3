/- The function that calls itself computes its plain definition, where the calls of itself are told. Printed by a program. -/
import Derived.Test.YtmekbfccmnjdcaaFn
set_option linter.unusedVariables false
set_option linter.unusedSimpArgs false
namespace Go.Proofs.Ytmekbfccmnjdcaa
open Vm
open Go.RowKit
set_option maxRecDepth 100000
set_option maxHeartbeats 4000000
attribute [local congr] condK_congr opsK_congr opsDK_congr valK_congr
class RecO [RecF] where
 o:List D→Option D
 ok:∀ (a0:List GLean) (a1:List Bool) (a2:Int) (a3:List Bool),o [.sl (cM GLean.cells a0),.sl (cM cB a1),.int .i64 a2,.own (.ref 0) [(4,1)] [cM cB a3]] = (RecF.run a0 a1 a2 a3).map fun (r:(List Bool))=>.own (.tup []) [(4,1)] [cM cB r]
noncomputable def TQI [RecF] [RecO]:Tbl:=TQ RecO.o
namespace Q
section
variable [RecF] [RecO]
theorem c_RecF.run (a0:List GLean) (a1:List Bool) (a2:Int) (a3:List Bool):Vm.call TQI 48 [.sl (cM GLean.cells a0),.sl (cM cB a1),.int .i64 a2,.own (.ref 0) [(4,1)] [cM cB a3]] = (RecF.run a0 a1 a2 a3).map fun (r:(List Bool))=>.own (.tup []) [(4,1)] [cM cB r]:=(call_toldL (show TQI 48 = some (.toldL RecO.o) from rfl) _ rfl).trans (RecO.ok a0 a1 a2 a3)
theorem h_mallongeref45_All_l1 (a0:List Int) (a1:List Bool) (p1:Int):evK TQI b_mallongeref45_All_l1 ⟨[(0,.d (.sl (cM cI a0))),(1,.d (.sl (cM cB a1))),(5,.d (.int .i64 p1))],[]⟩ (fun e s=>some (e,s)) = stepR (fun (w:Int)=>(⟨[(0,.d (.sl (cM cI a0))),(1,.d (.sl (cM cB a1))),(5,.d (.int .i64 w))],[]⟩ : St)) (fun (r:Unit ⊕ Unit)=>Sum.elim (fun (z:Unit)=>(((.exit 0),⟨[],[]⟩):Ex × St)) (fun (z:Unit)=>((.ret,⟨[(4,.d (.bool false))],[]⟩):Ex × St)) r) (mallongeref45_All_l1_s a0 a1 p1):=by
 simp -implicitDefEqProofs (decide:=true) (maxSteps:=2000000) only [b_mallongeref45_All_l1,mallongeref45_All_l1_s,↓DN,↓DR,DQ,DP,↓reduceIte,Int.reduceToNat,Nat.reduceBEq,Nat.reduceAdd,Nat.reduceLT,Nat.reduceLeDiff,Nat.reduceEqDiff,Int.reduceEq,ne_eq,not_false_eq_true,reduceCtorEq,specL,specO,specP,beq_self_eq_true,List.length_cons,List.length_nil,cM_length,Bool.not_true,Bool.not_false,if_true,if_false,List.replicate_succ,List.replicate_zero,dcells_len,Option.bind_some,none_bind,Option.map_some,Option.map_none,Sum.elim_inl,Sum.elim_inr,sized_cI,sized_cB,sized_cS,sized_cL,sized_cK,stepR_none,stepR_inl,stepR_inr,elim_stepR,stepR_ite,stepR_bind,ite_bind,ite_map,Vm.bind_map,elim_bind,elim_map,Option.bind_assoc]
 all_goals try simp only [gIf_eq]
 all_goals try rfl
theorem e_mallongeref45_All_l1 {β:Type} (a0:List Int) (a1:List Bool) (p1:Int) (k:Ex→St→Option β):evK TQI c_mallongeref45_All_l1 ⟨[(0,.d (.sl (cM cI a0))),(1,.d (.sl (cM cB a1))),(5,.d (.int .i64 p1))],[]⟩ k = (mallongeref45_All_l1 a0 a1 p1).bind (fun (r:Unit ⊕ Unit)=>Sum.elim (fun (z:Unit)=>k (.exit 0) ⟨[],[]⟩) (fun (z:Unit)=>k .ret ⟨[(4,.d (.bool false))],[]⟩) r):=by
 have hh:=fun (w:Int)=>h_mallongeref45_All_l1 a0 a1 w
 have h:=fun ho=>evK_loop (T:=TQI) (k:=k) (c:=b_mallongeref45_All_l1) (step:=(fun (w:Int)=>mallongeref45_All_l1_s a0 a1 w)) _ _ ho hh p1
 refine Eq.trans (h (fun r s e=>by have q:=congrArg Prod.fst e; rcases r with x | x <;> cases q)) ?_
 unfold mallongeref45_All_l1
 exact bind_congr' _ fun x=>by rcases x with x | x <;> rfl
theorem c_mallongeref45_All (a0:List Int) (a1:List Bool):Vm.call TQI 30 [.sl (cM cI a0),.sl (cM cB a1)] = (mallongeref45_All a0 a1).map fun (r:Bool)=>.bool r:=by
 refine (call_eqF (show TQI 30 = some (.code ⟨2,20,[.tmp 4],bd30,false,false⟩) from rfl) _ rfl rfl).trans ?_
 show evK TQI bd30 ⟨[(0,.d (.sl (cM cI a0))),(1,.d (.sl (cM cB a1)))],[]⟩ _ = _
 simp -implicitDefEqProofs (decide:=true) (maxSteps:=2000000) only [bd30,mallongeref45_All,↓e_mallongeref45_All_l1,↓DN,↓DR,DQ,DP,↓reduceIte,Int.reduceToNat,Nat.reduceBEq,Nat.reduceAdd,Nat.reduceLT,Nat.reduceLeDiff,Nat.reduceEqDiff,Int.reduceEq,ne_eq,not_false_eq_true,reduceCtorEq,specL,specO,specP,beq_self_eq_true,List.length_cons,List.length_nil,cM_length,Bool.not_true,Bool.not_false,if_true,if_false,List.replicate_succ,List.replicate_zero,dcells_len,Option.bind_some,none_bind,Option.map_some,Option.map_none,Sum.elim_inl,Sum.elim_inr,sized_cI,sized_cB,sized_cS,sized_cL,sized_cK,stepR_none,stepR_inl,stepR_inr,elim_stepR,stepR_ite,stepR_bind,ite_bind,ite_map,Vm.bind_map,elim_bind,elim_map,Option.bind_assoc]
 all_goals try simp only [gIf_eq]
 all_goals try rfl
theorem k_mallongeref45_All {β:Type} (a0:List Int) (a1:List Bool) (d:Nat) (bl:List (Nat × Option Blk)) (fz:List (Nat × Option Blk)) (k:V→Option β) (kw:V→List (Nat × Option Blk)→Option β):callF TQI d bl 30 [.sl (cM cI a0),.sl (cM cB a1)] fz k kw = (mallongeref45_All a0 a1).bind fun (r:Bool)=>k (.d (.bool r)):=by
 have h:=c_mallongeref45_All a0 a1
 exact callF_flat h (fun _=>rfl) fz
theorem kl_mallongeref45_firstB_1 {β:Type} (a0:List GLean) (a1:List Bool) (p8:List Bool) (x11:Int) (bl:List (Nat × Option Blk)) (kw:V→List (Nat × Option Blk)→Option β):lendF TQI bl 48 900000 0 [.sl (cM GLean.cells a0),.sl (cM cB a1),.int .i64 x11,.own (.ref 0) [(4,1)] [cM cB p8]] kw = (RecF.run a0 a1 x11 p8).bind fun (r:(List Bool))=>blkK bl 900000 fun b=>backBK 0 4 1 (cM cB r) b fun b2=>kw (.tup []) [(900000,b2)]:=lendF_own (c_RecF.run a0 a1 x11 p8) (fun _=>rfl) (fun _=>flat_cM _ (fun _=>rfl) _) 900000 0
theorem h_mallongeref45_firstB_l1 (a0:List GLean) (a1:List Bool) (x5:List Int) (p7:Int) (p8:List Bool):evK TQI b_mallongeref45_first_l1 ⟨[(0,.d (.sl (cM GLean.cells a0))),(1,.d (.sl (cM cB a1))),(3,.own 900000 0),(9,.d (.sl (cM cI x5))),(10,.d (.int .i64 p7))],[(900000,some (.rows 0 4 1 (cM cB p8)))]⟩ (fun e s=>some (e,s)) = stepR (fun (w:Int × (List Bool))=>(⟨[(0,.d (.sl (cM GLean.cells a0))),(1,.d (.sl (cM cB a1))),(3,.own 900000 0),(9,.d (.sl (cM cI x5))),(10,.d (.int .i64 w.1))],[(900000,some (.rows 0 4 1 (cM cB w.2)))]⟩ : St)) (fun (r:(List Bool))=>(((.exit 2),⟨[(3,.own 900000 0)],[(900000,some (.rows 0 4 1 (cM cB r)))]⟩):Ex × St)) (mallongeref45_firstB_l1_s a0 a1 x5 p7 p8):=by
 simp -implicitDefEqProofs (decide:=true) (maxSteps:=2000000) only [b_mallongeref45_first_l1,mallongeref45_firstB_l1_s,↓k_mallongeref45_All,↓kl_mallongeref45_firstB_1,↓DN,↓DR,DQ,DP,↓reduceIte,Int.reduceToNat,Nat.reduceBEq,Nat.reduceAdd,Nat.reduceLT,Nat.reduceLeDiff,Nat.reduceEqDiff,Int.reduceEq,ne_eq,not_false_eq_true,reduceCtorEq,specL,specO,specP,beq_self_eq_true,List.length_cons,List.length_nil,cM_length,Bool.not_true,Bool.not_false,if_true,if_false,List.replicate_succ,List.replicate_zero,dcells_len,Option.bind_some,none_bind,Option.map_some,Option.map_none,Sum.elim_inl,Sum.elim_inr,sized_cI,sized_cB,sized_cS,sized_cL,sized_cK,stepR_none,stepR_inl,stepR_inr,elim_stepR,stepR_ite,stepR_bind,ite_bind,ite_map,Vm.bind_map,elim_bind,elim_map,Option.bind_assoc]
 all_goals try simp only [gIf_eq]
 all_goals try rfl
theorem e_mallongeref45_firstB_l1 {β:Type} (a0:List GLean) (a1:List Bool) (x5:List Int) (p7:Int) (p8:List Bool) (k:Ex→St→Option β):evK TQI c_mallongeref45_first_l1 ⟨[(0,.d (.sl (cM GLean.cells a0))),(1,.d (.sl (cM cB a1))),(3,.own 900000 0),(9,.d (.sl (cM cI x5))),(10,.d (.int .i64 p7))],[(900000,some (.rows 0 4 1 (cM cB p8)))]⟩ k = (mallongeref45_firstB_l1 a0 a1 x5 p7 p8).bind (fun (r:(List Bool))=>k (.exit 2) ⟨[(3,.own 900000 0)],[(900000,some (.rows 0 4 1 (cM cB r)))]⟩):=by
 have hh:=fun (w:Int × (List Bool))=>h_mallongeref45_firstB_l1 a0 a1 x5 w.1 w.2
 have h:=fun ho=>evK_loop (T:=TQI) (k:=k) (c:=b_mallongeref45_first_l1) (step:=(fun (w:Int × (List Bool))=>mallongeref45_firstB_l1_s a0 a1 x5 w.1 w.2)) _ _ ho hh (p7,p8)
 refine Eq.trans (h (fun r s e=>by have q:=congrArg Prod.fst e; rcases r with x <;> cases q)) ?_
 unfold mallongeref45_firstB_l1
 exact bind_congr' _ fun x=>by rcases x with x <;> rfl
theorem h_mallongeref45_firstB_l2 (a0:List GLean) (a1:List Bool) (a2:Int) (a3:List Bool) (p2:Int):evK TQI b_mallongeref45_first_l2 ⟨[(0,.d (.sl (cM GLean.cells a0))),(1,.d (.sl (cM cB a1))),(2,.d (.int .i64 a2)),(3,.own 900000 0),(8,.d (.int .i64 p2))],[(900000,some (.rows 0 4 1 (cM cB (a3.set a2.toNat true))))]⟩ (fun e s=>some (e,s)) = stepR (fun (w:Int)=>(⟨[(0,.d (.sl (cM GLean.cells a0))),(1,.d (.sl (cM cB a1))),(2,.d (.int .i64 a2)),(3,.own 900000 0),(8,.d (.int .i64 w))],[(900000,some (.rows 0 4 1 (cM cB (a3.set a2.toNat true))))]⟩ : St)) (fun (r:Unit ⊕ ((List Bool)))=>Sum.elim (fun (z:Unit)=>(((.exit 0),⟨[(3,.own 900000 0)],[(900000,some (.rows 0 4 1 (cM cB (a3.set a2.toNat true))))]⟩):Ex × St)) (fun (z:(List Bool))=>((.ret,⟨[(3,.own 900000 0)],[(900000,some (.rows 0 4 1 (cM cB z)))]⟩):Ex × St)) r) (mallongeref45_firstB_l2_s a0 a1 a2 a3 p2):=by
 simp -implicitDefEqProofs (decide:=true) (maxSteps:=2000000) only [b_mallongeref45_first_l2,mallongeref45_firstB_l2_s,↓e_mallongeref45_firstB_l1,↓k_mallongeref45_All,↓kl_mallongeref45_firstB_1,↓DN,↓DR,DQ,DP,↓reduceIte,Int.reduceToNat,Nat.reduceBEq,Nat.reduceAdd,Nat.reduceLT,Nat.reduceLeDiff,Nat.reduceEqDiff,Int.reduceEq,ne_eq,not_false_eq_true,reduceCtorEq,specL,specO,specP,beq_self_eq_true,List.length_cons,List.length_nil,cM_length,Bool.not_true,Bool.not_false,if_true,if_false,List.replicate_succ,List.replicate_zero,dcells_len,Option.bind_some,none_bind,Option.map_some,Option.map_none,Sum.elim_inl,Sum.elim_inr,sized_cI,sized_cB,sized_cS,sized_cL,sized_cK,stepR_none,stepR_inl,stepR_inr,elim_stepR,stepR_ite,stepR_bind,ite_bind,ite_map,Vm.bind_map,elim_bind,elim_map,Option.bind_assoc]
 all_goals try simp only [gIf_eq]
 all_goals try rfl
theorem e_mallongeref45_firstB_l2 {β:Type} (a0:List GLean) (a1:List Bool) (a2:Int) (a3:List Bool) (p2:Int) (k:Ex→St→Option β):evK TQI c_mallongeref45_first_l2 ⟨[(0,.d (.sl (cM GLean.cells a0))),(1,.d (.sl (cM cB a1))),(2,.d (.int .i64 a2)),(3,.own 900000 0),(8,.d (.int .i64 p2))],[(900000,some (.rows 0 4 1 (cM cB (a3.set a2.toNat true))))]⟩ k = (mallongeref45_firstB_l2 a0 a1 a2 a3 p2).bind (fun (r:Unit ⊕ ((List Bool)))=>Sum.elim (fun (z:Unit)=>k (.exit 0) ⟨[(3,.own 900000 0)],[(900000,some (.rows 0 4 1 (cM cB (a3.set a2.toNat true))))]⟩) (fun (z:(List Bool))=>k .ret ⟨[(3,.own 900000 0)],[(900000,some (.rows 0 4 1 (cM cB z)))]⟩) r):=by
 have hh:=fun (w:Int)=>h_mallongeref45_firstB_l2 a0 a1 a2 a3 w
 have h:=fun ho=>evK_loop (T:=TQI) (k:=k) (c:=b_mallongeref45_first_l2) (step:=(fun (w:Int)=>mallongeref45_firstB_l2_s a0 a1 a2 a3 w)) _ _ ho hh p2
 refine Eq.trans (h (fun r s e=>by have q:=congrArg Prod.fst e; rcases r with x | x <;> cases q)) ?_
 unfold mallongeref45_firstB_l2
 exact bind_congr' _ fun x=>by rcases x with x | x <;> rfl
theorem c_mallongeref45_firstB (a0:List GLean) (a1:List Bool) (a2:Int) (a3:List Bool):runL TQI sf48 [.sl (cM GLean.cells a0),.sl (cM cB a1),.int .i64 a2,.own (.ref 0) [(4,1)] [cM cB a3]] = (mallongeref45_firstB a0 a1 a2 a3).map fun (r:(List Bool))=>.own (.tup []) [(4,1)] [cM cB r]:=by
 refine (runL_eq (T:=TQI) (np:=4) (nt:=57) (res:=[]) (body:=bd48) (fs:=false) _ rfl rfl rfl).trans ?_
 show evK TQI bd48 ⟨[(3,.own 900000 0),(0,.d (.sl (cM GLean.cells a0))),(1,.d (.sl (cM cB a1))),(2,.d (.int .i64 a2)),(3,.d (.own (.ref 0) [(4,1)] [cM cB a3]))],[(900000,some (.rows 0 4 1 (cM cB a3)))]⟩ _ = _
 simp -implicitDefEqProofs (decide:=true) (maxSteps:=2000000) only [bd48,mallongeref45_firstB,↓e_mallongeref45_firstB_l1,↓e_mallongeref45_firstB_l2,↓k_mallongeref45_All,↓kl_mallongeref45_firstB_1,↓DN,↓DR,DQ,DP,↓reduceIte,Int.reduceToNat,Nat.reduceBEq,Nat.reduceAdd,Nat.reduceLT,Nat.reduceLeDiff,Nat.reduceEqDiff,Int.reduceEq,ne_eq,not_false_eq_true,reduceCtorEq,specL,specO,specP,beq_self_eq_true,List.length_cons,List.length_nil,cM_length,Bool.not_true,Bool.not_false,if_true,if_false,List.replicate_succ,List.replicate_zero,dcells_len,Option.bind_some,none_bind,Option.map_some,Option.map_none,Sum.elim_inl,Sum.elim_inr,sized_cI,sized_cB,sized_cS,sized_cL,sized_cK,stepR_none,stepR_inl,stepR_inr,elim_stepR,stepR_ite,stepR_bind,ite_bind,ite_map,Vm.bind_map,elim_bind,elim_map,Option.bind_assoc]
 all_goals try simp only [gIf_eq]
 all_goals try rfl
end
end Q
theorem recN_ok:∀ (n:Nat) (a0:List GLean) (a1:List Bool) (a2:Int) (a3:List Bool),oRec n [.sl (cM GLean.cells a0),.sl (cM cB a1),.int .i64 a2,.own (.ref 0) [(4,1)] [cM cB a3]] = (recN n a0 a1 a2 a3).map fun (r:(List Bool))=>.own (.tup []) [(4,1)] [cM cB r]
 | 0,_,_,_,_=>rfl
 | n + 1,a0,a1,a2,a3=>@Q.c_mallongeref45_firstB ⟨recN n⟩ (@RecO.mk ⟨recN n⟩ (oRec n) (recN_ok n)) a0 a1 a2 a3
theorem c_mallongeref45_first (a0:List GLean) (a1:List Bool) (a2:Int) (a3:List Bool):Vm.call TT 48 [.sl (cM GLean.cells a0),.sl (cM cB a1),.int .i64 a2,.own (.ref 0) [(4,1)] [cM cB a3]] = (mallongeref45_first a0 a1 a2 a3).map fun (r:(List Bool))=>.own (.tup []) [(4,1)] [cM cB r]:=(call_toldL (show TT 48 = some (.toldL oF) from rfl) _ rfl).trans (recN_ok 1000 a0 a1 a2 a3)
end Go.Proofs.Ytmekbfccmnjdcaa
