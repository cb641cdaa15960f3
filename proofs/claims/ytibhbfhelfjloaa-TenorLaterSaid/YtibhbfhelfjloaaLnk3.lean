/- The functions of the small machine compute the plain definitions. Printed by a program. -/
import Derived.Test.YtibhbfhelfjloaaLnk2
set_option linter.unusedVariables false
set_option linter.unusedSimpArgs false
namespace Go.Proofs.Ytibhbfhelfjloaa
open Vm
open Go.RowKit
set_option maxRecDepth 100000
set_option maxHeartbeats 4000000
attribute [local congr] condK_congr opsK_congr opsDK_congr valK_congr
theorem c_mcalendar_AddMonths (a0:Int) (a1:Int):Vm.call TT 76 [.int .i64 a0,.int .i64 a1] = (mcalendar_AddMonths a0 a1).map fun (r:Int × Int)=>.tup [.int .i64 r.1,.int .i64 r.2] :=
 (call_told (show TT 76 = some (.told o76) from rfl) _).trans rfl
theorem k_mcalendar_AddMonths {β:Type} (a0:Int) (a1:Int) (d:Nat) (bl:List (Nat × Option Blk)) (fz:List (Nat × Option Blk)) (k:V→Option β) (kw:V→List (Nat × Option Blk)→Option β):callF TT d bl 76 [.int .i64 a0,.int .i64 a1] fz k kw = (mcalendar_AddMonths a0 a1).bind fun (r:Int × Int)=>k (.tup [.d (.int .i64 r.1),.d (.int .i64 r.2)]):=by
 have h:=c_mcalendar_AddMonths a0 a1
 exact callF_flat h (fun _=>rfl) fz
theorem c_mtenor_after (a0:Int) (a1:GTenor):Vm.call TT 65 [.int .i64 a0,.agg (GTenor.cells a1)] = (mtenor_after a0 a1).map fun (r:Int × Int)=>.tup [.int .i64 r.1,.int .i64 r.2]:=by
 refine (call_eqF (show TT 65 = some (.code ⟨2,27,[.tmp 4,.tmp 5],bd65,false⟩) from rfl) _ rfl).trans ?_
 show evK TT bd65 ⟨[(0,.d (.int .i64 a0)),(1,aggD (GTenor.cells a1))],[]⟩ _ = _
 simp -implicitDefEqProofs (decide:=true) (maxSteps:=2000000) only [bd65,mtenor_after,↓k_mcalendar_AddMonths,↓DN,↓DR,DQ,DP,↓reduceIte,Int.reduceToNat,Nat.reduceBEq,Nat.reduceAdd,Nat.reduceLT,Nat.reduceLeDiff,Nat.reduceEqDiff,Int.reduceEq,ne_eq,not_false_eq_true,reduceCtorEq,specL,specO,specP,beq_self_eq_true,List.length_cons,List.length_nil,cM_length,Bool.not_true,Bool.not_false,if_true,if_false,List.replicate_succ,List.replicate_zero,dcells_len,Option.bind_some,none_bind,Option.map_some,Option.map_none,Sum.elim_inl,Sum.elim_inr,sized_cI,sized_cB,sized_cS,sized_cL,sized_cK,stepR_none,stepR_inl,stepR_inr,elim_stepR,stepR_ite,stepR_bind,ite_bind,ite_map,Vm.bind_map,elim_bind,elim_map,Option.bind_assoc]
 all_goals try simp only [gIf_eq]
 all_goals try rfl
theorem k_mtenor_after {β:Type} (a0:Int) (a1:GTenor) (d:Nat) (bl:List (Nat × Option Blk)) (fz:List (Nat × Option Blk)) (k:V→Option β) (kw:V→List (Nat × Option Blk)→Option β):callF TT d bl 65 [.int .i64 a0,.agg (GTenor.cells a1)] fz k kw = (mtenor_after a0 a1).bind fun (r:Int × Int)=>k (.tup [.d (.int .i64 r.1),.d (.int .i64 r.2)]):=by
 have h:=c_mtenor_after a0 a1
 exact callF_flat h (fun _=>rfl) fz
theorem h_mrealm_Usance_l1 (a0:GRealm) (a1:Int) (a2:Int) (p1:Int):evK TT b_mrealm_Usance_l1 ⟨[(1,.d (.int .i64 a1)),(2,.d (.int .i64 a2)),(11,.d (.sl (cM GUsance.cells a0.Usances))),(12,.d (.int .i64 (a0.Usances.length:Int))),(13,.d (.int .i64 p1))],[]⟩ (fun e s=>some (e,s)) = stepR (fun (w:Int)=>(⟨[(1,.d (.int .i64 a1)),(2,.d (.int .i64 a2)),(11,.d (.sl (cM GUsance.cells a0.Usances))),(12,.d (.int .i64 (a0.Usances.length:Int))),(13,.d (.int .i64 w))],[]⟩ : St)) (fun (r:Unit ⊕ Int)=>Sum.elim (fun (z:Unit)=>(((.exit 0),⟨[],[]⟩):Ex × St)) (fun (z:Int)=>((.ret,⟨[(6,.d (.int .i64 z)),(7,.d (.int .i64 0))],[]⟩):Ex × St)) r) (mrealm_Usance_l1_s a0 a1 a2 p1):=by
 simp -implicitDefEqProofs (decide:=true) (maxSteps:=2000000) only [b_mrealm_Usance_l1,mrealm_Usance_l1_s,↓DN,↓DR,DQ,DP,↓reduceIte,Int.reduceToNat,Nat.reduceBEq,Nat.reduceAdd,Nat.reduceLT,Nat.reduceLeDiff,Nat.reduceEqDiff,Int.reduceEq,ne_eq,not_false_eq_true,reduceCtorEq,specL,specO,specP,beq_self_eq_true,List.length_cons,List.length_nil,cM_length,Bool.not_true,Bool.not_false,if_true,if_false,List.replicate_succ,List.replicate_zero,dcells_len,Option.bind_some,none_bind,Option.map_some,Option.map_none,Sum.elim_inl,Sum.elim_inr,sized_cI,sized_cB,sized_cS,sized_cL,sized_cK,stepR_none,stepR_inl,stepR_inr,elim_stepR,stepR_ite,stepR_bind,ite_bind,ite_map,Vm.bind_map,elim_bind,elim_map,Option.bind_assoc]
 all_goals try simp only [gIf_eq]
 all_goals try rfl
theorem e_mrealm_Usance_l1 {β:Type} (a0:GRealm) (a1:Int) (a2:Int) (p1:Int) (k:Ex→St→Option β):evK TT c_mrealm_Usance_l1 ⟨[(1,.d (.int .i64 a1)),(2,.d (.int .i64 a2)),(11,.d (.sl (cM GUsance.cells a0.Usances))),(12,.d (.int .i64 (a0.Usances.length:Int))),(13,.d (.int .i64 p1))],[]⟩ k = (mrealm_Usance_l1 a0 a1 a2 p1).bind (fun (r:Unit ⊕ Int)=>Sum.elim (fun (z:Unit)=>k (.exit 0) ⟨[],[]⟩) (fun (z:Int)=>k .ret ⟨[(6,.d (.int .i64 z)),(7,.d (.int .i64 0))],[]⟩) r):=by
 have hh:=fun (w:Int)=>h_mrealm_Usance_l1 a0 a1 a2 w
 have h:=fun ho=>evK_loop (T:=TT) (k:=k) (c:=b_mrealm_Usance_l1) (step:=(fun (w:Int)=>mrealm_Usance_l1_s a0 a1 a2 w)) _ _ ho hh p1
 refine Eq.trans (h (fun r s e=>by have q:=congrArg Prod.fst e; rcases r with x | x <;> cases q)) ?_
 unfold mrealm_Usance_l1
 exact bind_congr' _ fun x=>by rcases x with x | x <;> rfl
theorem c_mrealm_Usance (a0:GRealm) (a1:Int) (a2:Int):Vm.call TT 66 [.agg (GRealm.cells a0),.int .i64 a1,.int .i64 a2] = (mrealm_Usance a0 a1 a2).map fun (r:Int × Int)=>.tup [.int .i64 r.1,.int .i64 r.2]:=by
 refine (call_eqF (show TT 66 = some (.code ⟨3,30,[.tmp 6,.tmp 7],bd66,false⟩) from rfl) _ rfl).trans ?_
 show evK TT bd66 ⟨[(0,aggD (GRealm.cells a0)),(1,.d (.int .i64 a1)),(2,.d (.int .i64 a2))],[]⟩ _ = _
 simp -implicitDefEqProofs (decide:=true) (maxSteps:=2000000) only [bd66,mrealm_Usance,↓e_mrealm_Usance_l1,↓DN,↓DR,DQ,DP,↓reduceIte,Int.reduceToNat,Nat.reduceBEq,Nat.reduceAdd,Nat.reduceLT,Nat.reduceLeDiff,Nat.reduceEqDiff,Int.reduceEq,ne_eq,not_false_eq_true,reduceCtorEq,specL,specO,specP,beq_self_eq_true,List.length_cons,List.length_nil,cM_length,Bool.not_true,Bool.not_false,if_true,if_false,List.replicate_succ,List.replicate_zero,dcells_len,Option.bind_some,none_bind,Option.map_some,Option.map_none,Sum.elim_inl,Sum.elim_inr,sized_cI,sized_cB,sized_cS,sized_cL,sized_cK,stepR_none,stepR_inl,stepR_inr,elim_stepR,stepR_ite,stepR_bind,ite_bind,ite_map,Vm.bind_map,elim_bind,elim_map,Option.bind_assoc]
 all_goals try simp only [gIf_eq]
 all_goals try rfl
theorem k_mrealm_Usance {β:Type} (a0:GRealm) (a1:Int) (a2:Int) (d:Nat) (bl:List (Nat × Option Blk)) (fz:List (Nat × Option Blk)) (k:V→Option β) (kw:V→List (Nat × Option Blk)→Option β):callF TT d bl 66 [.agg (GRealm.cells a0),.int .i64 a1,.int .i64 a2] fz k kw = (mrealm_Usance a0 a1 a2).bind fun (r:Int × Int)=>k (.tup [.d (.int .i64 r.1),.d (.int .i64 r.2)]):=by
 have h:=c_mrealm_Usance a0 a1 a2
 exact callF_flat h (fun _=>rfl) fz
theorem c_mtenor_base (a0:GRealm) (a1:GBill) (a2:Int):Vm.call TT 51 [.agg (GRealm.cells a0),.agg (GBill.cells a1),.int .i64 a2] = (mtenor_base a0 a1 a2).map fun (r:Int × Int)=>.tup [.int .i64 r.1,.int .i64 r.2]:=by
 refine (call_eqF (show TT 51 = some (.code ⟨3,52,[.tmp 6,.tmp 7],bd51,false⟩) from rfl) _ rfl).trans ?_
 show evK TT bd51 ⟨[(0,aggD (GRealm.cells a0)),(1,aggD (GBill.cells a1)),(2,.d (.int .i64 a2))],[]⟩ _ = _
 simp -implicitDefEqProofs (decide:=true) (maxSteps:=2000000) only [bd51,mtenor_base,↓k_mtenor_after,↓k_mrealm_Usance,↓DN,↓DR,DQ,DP,↓reduceIte,Int.reduceToNat,Nat.reduceBEq,Nat.reduceAdd,Nat.reduceLT,Nat.reduceLeDiff,Nat.reduceEqDiff,Int.reduceEq,ne_eq,not_false_eq_true,reduceCtorEq,specL,specO,specP,beq_self_eq_true,List.length_cons,List.length_nil,cM_length,Bool.not_true,Bool.not_false,if_true,if_false,List.replicate_succ,List.replicate_zero,dcells_len,Option.bind_some,none_bind,Option.map_some,Option.map_none,Sum.elim_inl,Sum.elim_inr,sized_cI,sized_cB,sized_cS,sized_cL,sized_cK,stepR_none,stepR_inl,stepR_inr,elim_stepR,stepR_ite,stepR_bind,ite_bind,ite_map,Vm.bind_map,elim_bind,elim_map,Option.bind_assoc]
 all_goals try simp only [gIf_eq]
 all_goals try rfl
theorem k_mtenor_base {β:Type} (a0:GRealm) (a1:GBill) (a2:Int) (d:Nat) (bl:List (Nat × Option Blk)) (fz:List (Nat × Option Blk)) (k:V→Option β) (kw:V→List (Nat × Option Blk)→Option β):callF TT d bl 51 [.agg (GRealm.cells a0),.agg (GBill.cells a1),.int .i64 a2] fz k kw = (mtenor_base a0 a1 a2).bind fun (r:Int × Int)=>k (.tup [.d (.int .i64 r.1),.d (.int .i64 r.2)]):=by
 have h:=c_mtenor_base a0 a1 a2
 exact callF_flat h (fun _=>rfl) fz
theorem c_mrealm_OrderAt (a0:GRealm) (a1:Int):Vm.call TT 67 [.agg (GRealm.cells a0),.int .i64 a1] = (mrealm_OrderAt a0 a1).map fun (r:Int)=>.int .i64 r:=by
 refine (call_eqF (show TT 67 = some (.code ⟨2,17,[.tmp 4],bd67,false⟩) from rfl) _ rfl).trans ?_
 show evK TT bd67 ⟨[(0,aggD (GRealm.cells a0)),(1,.d (.int .i64 a1))],[]⟩ _ = _
 simp -implicitDefEqProofs (decide:=true) (maxSteps:=2000000) only [bd67,mrealm_OrderAt,↓k_mrealm_in,↓DN,↓DR,DQ,DP,↓reduceIte,Int.reduceToNat,Nat.reduceBEq,Nat.reduceAdd,Nat.reduceLT,Nat.reduceLeDiff,Nat.reduceEqDiff,Int.reduceEq,ne_eq,not_false_eq_true,reduceCtorEq,specL,specO,specP,beq_self_eq_true,List.length_cons,List.length_nil,cM_length,Bool.not_true,Bool.not_false,if_true,if_false,List.replicate_succ,List.replicate_zero,dcells_len,Option.bind_some,none_bind,Option.map_some,Option.map_none,Sum.elim_inl,Sum.elim_inr,sized_cI,sized_cB,sized_cS,sized_cL,sized_cK,stepR_none,stepR_inl,stepR_inr,elim_stepR,stepR_ite,stepR_bind,ite_bind,ite_map,Vm.bind_map,elim_bind,elim_map,Option.bind_assoc]
 all_goals try simp only [gIf_eq]
 all_goals try rfl
theorem k_mrealm_OrderAt {β:Type} (a0:GRealm) (a1:Int) (d:Nat) (bl:List (Nat × Option Blk)) (fz:List (Nat × Option Blk)) (k:V→Option β) (kw:V→List (Nat × Option Blk)→Option β):callF TT d bl 67 [.agg (GRealm.cells a0),.int .i64 a1] fz k kw = (mrealm_OrderAt a0 a1).bind fun (r:Int)=>k (.d (.int .i64 r)):=by
 have h:=c_mrealm_OrderAt a0 a1
 exact callF_flat h (fun _=>rfl) fz
theorem h_mtenor_skip_l1 (a0:GRealm) (a1:Int) (p3:Int) (p4:Bool) (p5:Int):evK TT b_mtenor_skip_l1 ⟨[(1,.d (.int .i64 a1)),(2,.d (.int .i64 p3)),(3,.ptr 3 0),(7,.d (.bool p4)),(12,.d (.sl (cM GHalt.cells a0.Halts))),(13,.d (.int .i64 (a0.Halts.length:Int))),(14,.d (.int .i64 p5))],[(3,some (.box (dcells (GRealm.cells a0))))]⟩ (fun e s=>some (e,s)) = stepR (fun (w:Int × Bool × Int)=>(⟨[(1,.d (.int .i64 a1)),(2,.d (.int .i64 w.1)),(3,.ptr 3 0),(7,.d (.bool w.2.1)),(12,.d (.sl (cM GHalt.cells a0.Halts))),(13,.d (.int .i64 (a0.Halts.length:Int))),(14,.d (.int .i64 w.2.2))],[(3,some (.box (dcells (GRealm.cells a0))))]⟩ : St)) (fun (r:Int × Bool)=>(((.exit 2),⟨[(1,.d (.int .i64 a1)),(2,.d (.int .i64 r.1)),(3,.ptr 3 0),(7,.d (.bool r.2))],[(3,some (.box (dcells (GRealm.cells a0))))]⟩):Ex × St)) (mtenor_skip_l1_s a0 a1 p3 p4 p5):=by
 simp -implicitDefEqProofs (decide:=true) (maxSteps:=2000000) only [b_mtenor_skip_l1,mtenor_skip_l1_s,↓DN,↓DR,DQ,DP,↓reduceIte,Int.reduceToNat,Nat.reduceBEq,Nat.reduceAdd,Nat.reduceLT,Nat.reduceLeDiff,Nat.reduceEqDiff,Int.reduceEq,ne_eq,not_false_eq_true,reduceCtorEq,specL,specO,specP,beq_self_eq_true,List.length_cons,List.length_nil,cM_length,Bool.not_true,Bool.not_false,if_true,if_false,List.replicate_succ,List.replicate_zero,dcells_len,Option.bind_some,none_bind,Option.map_some,Option.map_none,Sum.elim_inl,Sum.elim_inr,sized_cI,sized_cB,sized_cS,sized_cL,sized_cK,stepR_none,stepR_inl,stepR_inr,elim_stepR,stepR_ite,stepR_bind,ite_bind,ite_map,Vm.bind_map,elim_bind,elim_map,Option.bind_assoc]
 all_goals try simp only [gIf_eq]
 all_goals try rfl
theorem e_mtenor_skip_l1 {β:Type} (a0:GRealm) (a1:Int) (p3:Int) (p4:Bool) (p5:Int) (k:Ex→St→Option β):evK TT c_mtenor_skip_l1 ⟨[(1,.d (.int .i64 a1)),(2,.d (.int .i64 p3)),(3,.ptr 3 0),(7,.d (.bool p4)),(12,.d (.sl (cM GHalt.cells a0.Halts))),(13,.d (.int .i64 (a0.Halts.length:Int))),(14,.d (.int .i64 p5))],[(3,some (.box (dcells (GRealm.cells a0))))]⟩ k = (mtenor_skip_l1 a0 a1 p3 p4 p5).bind (fun (r:Int × Bool)=>k (.exit 2) ⟨[(1,.d (.int .i64 a1)),(2,.d (.int .i64 r.1)),(3,.ptr 3 0),(7,.d (.bool r.2))],[(3,some (.box (dcells (GRealm.cells a0))))]⟩):=by
 have hh:=fun (w:Int × Bool × Int)=>h_mtenor_skip_l1 a0 a1 w.1 w.2.1 w.2.2
 have h:=fun ho=>evK_loop (T:=TT) (k:=k) (c:=b_mtenor_skip_l1) (step:=(fun (w:Int × Bool × Int)=>mtenor_skip_l1_s a0 a1 w.1 w.2.1 w.2.2)) _ _ ho hh (p3,p4,p5)
 refine Eq.trans (h (fun r s e=>by have q:=congrArg Prod.fst e; rcases r with x <;> cases q)) ?_
 unfold mtenor_skip_l1
 exact bind_congr' _ fun x=>by rcases x with x <;> rfl
theorem h_mtenor_skip_l2 (a0:GRealm) (a1:Int) (p1:Int) (p2:Bool):evK TT b_mtenor_skip_l2 ⟨[(1,.d (.int .i64 a1)),(2,.d (.int .i64 p1)),(3,.ptr 3 0),(7,.d (.bool p2))],[(3,some (.box (dcells (GRealm.cells a0))))]⟩ (fun e s=>some (e,s)) = stepR (fun (w:Int × Bool)=>(⟨[(1,.d (.int .i64 a1)),(2,.d (.int .i64 w.1)),(3,.ptr 3 0),(7,.d (.bool w.2))],[(3,some (.box (dcells (GRealm.cells a0))))]⟩ : St)) (fun (r:Int)=>(((.exit 0),⟨[(2,.d (.int .i64 r))],[]⟩):Ex × St)) (mtenor_skip_l2_s a0 a1 p1 p2):=by
 simp -implicitDefEqProofs (decide:=true) (maxSteps:=2000000) only [b_mtenor_skip_l2,mtenor_skip_l2_s,↓e_mtenor_skip_l1,↓DN,↓DR,DQ,DP,↓reduceIte,Int.reduceToNat,Nat.reduceBEq,Nat.reduceAdd,Nat.reduceLT,Nat.reduceLeDiff,Nat.reduceEqDiff,Int.reduceEq,ne_eq,not_false_eq_true,reduceCtorEq,specL,specO,specP,beq_self_eq_true,List.length_cons,List.length_nil,cM_length,Bool.not_true,Bool.not_false,if_true,if_false,List.replicate_succ,List.replicate_zero,dcells_len,Option.bind_some,none_bind,Option.map_some,Option.map_none,Sum.elim_inl,Sum.elim_inr,sized_cI,sized_cB,sized_cS,sized_cL,sized_cK,stepR_none,stepR_inl,stepR_inr,elim_stepR,stepR_ite,stepR_bind,ite_bind,ite_map,Vm.bind_map,elim_bind,elim_map,Option.bind_assoc]
 all_goals try simp only [gIf_eq]
 all_goals try rfl
theorem e_mtenor_skip_l2 {β:Type} (a0:GRealm) (a1:Int) (p1:Int) (p2:Bool) (k:Ex→St→Option β):evK TT c_mtenor_skip_l2 ⟨[(1,.d (.int .i64 a1)),(2,.d (.int .i64 p1)),(3,.ptr 3 0),(7,.d (.bool p2))],[(3,some (.box (dcells (GRealm.cells a0))))]⟩ k = (mtenor_skip_l2 a0 a1 p1 p2).bind (fun (r:Int)=>k (.exit 0) ⟨[(2,.d (.int .i64 r))],[]⟩):=by
 have hh:=fun (w:Int × Bool)=>h_mtenor_skip_l2 a0 a1 w.1 w.2
 have h:=fun ho=>evK_loop (T:=TT) (k:=k) (c:=b_mtenor_skip_l2) (step:=(fun (w:Int × Bool)=>mtenor_skip_l2_s a0 a1 w.1 w.2)) _ _ ho hh (p1,p2)
 refine Eq.trans (h (fun r s e=>by have q:=congrArg Prod.fst e; rcases r with x <;> cases q)) ?_
 unfold mtenor_skip_l2
 exact bind_congr' _ fun x=>by rcases x with x <;> rfl
theorem c_mtenor_skip (a0:GRealm) (a1:Int) (a2:Int):Vm.call TT 68 [.agg (GRealm.cells a0),.int .i64 a1,.int .i64 a2] = (mtenor_skip a0 a1 a2).map fun (r:Int)=>.int .i64 r:=by
 refine (call_eqF (show TT 68 = some (.code ⟨3,39,[.tmp 6],bd68,false⟩) from rfl) _ rfl).trans ?_
 show evK TT bd68 ⟨[(0,aggD (GRealm.cells a0)),(1,.d (.int .i64 a1)),(2,.d (.int .i64 a2))],[]⟩ _ = _
 simp -implicitDefEqProofs (decide:=true) (maxSteps:=2000000) only [bd68,mtenor_skip,↓e_mtenor_skip_l1,↓e_mtenor_skip_l2,↓DN,↓DR,DQ,DP,↓reduceIte,Int.reduceToNat,Nat.reduceBEq,Nat.reduceAdd,Nat.reduceLT,Nat.reduceLeDiff,Nat.reduceEqDiff,Int.reduceEq,ne_eq,not_false_eq_true,reduceCtorEq,specL,specO,specP,beq_self_eq_true,List.length_cons,List.length_nil,cM_length,Bool.not_true,Bool.not_false,if_true,if_false,List.replicate_succ,List.replicate_zero,dcells_len,Option.bind_some,none_bind,Option.map_some,Option.map_none,Sum.elim_inl,Sum.elim_inr,sized_cI,sized_cB,sized_cS,sized_cL,sized_cK,stepR_none,stepR_inl,stepR_inr,elim_stepR,stepR_ite,stepR_bind,ite_bind,ite_map,Vm.bind_map,elim_bind,elim_map,Option.bind_assoc]
 all_goals try simp only [gIf_eq]
 all_goals try rfl
theorem k_mtenor_skip {β:Type} (a0:GRealm) (a1:Int) (a2:Int) (d:Nat) (bl:List (Nat × Option Blk)) (fz:List (Nat × Option Blk)) (k:V→Option β) (kw:V→List (Nat × Option Blk)→Option β):callF TT d bl 68 [.agg (GRealm.cells a0),.int .i64 a1,.int .i64 a2] fz k kw = (mtenor_skip a0 a1 a2).bind fun (r:Int)=>k (.d (.int .i64 r)):=by
 have h:=c_mtenor_skip a0 a1 a2
 exact callF_flat h (fun _=>rfl) fz
theorem c_mcalendar_Next (a0:GCity) (a1:Int):Vm.call TT 69 [.agg (GCity.cells a0),.int .i64 a1] = (mcalendar_Next a0 a1).map fun (r:Int × Int)=>.tup [.int .i64 r.1,.int .i64 r.2]:=by
 refine (call_told (show TT 69 = some (.told o69) from rfl) _).trans ?_
 simp only [o69,GCity.cells,dTown_mk,mcalendar_Next,gTown]
 split <;> rfl
theorem k_mcalendar_Next {β:Type} (a0:GCity) (a1:Int) (d:Nat) (bl:List (Nat × Option Blk)) (fz:List (Nat × Option Blk)) (k:V→Option β) (kw:V→List (Nat × Option Blk)→Option β):callF TT d bl 69 [.agg (GCity.cells a0),.int .i64 a1] fz k kw = (mcalendar_Next a0 a1).bind fun (r:Int × Int)=>k (.tup [.d (.int .i64 r.1),.d (.int .i64 r.2)]):=by
 have h:=c_mcalendar_Next a0 a1
 exact callF_flat h (fun _=>rfl) fz
theorem h_mtenor_settle_l1 (a0:GRealm) (a1:Int) (r1:Int) (p2:Int):evK TT b_mtenor_settle_l1 ⟨[(1,.d (.int .i64 a1)),(2,.d (.int .i64 p2)),(3,.ptr 3 0),(8,.d (.int .i64 r1))],[(3,some (.box (dcells (GRealm.cells a0))))]⟩ (fun e s=>some (e,s)) = stepR (fun (w:Int)=>(⟨[(1,.d (.int .i64 a1)),(2,.d (.int .i64 w)),(3,.ptr 3 0),(8,.d (.int .i64 r1))],[(3,some (.box (dcells (GRealm.cells a0))))]⟩ : St)) (fun (r:Int × Int)=>((.ret,⟨[(6,.d (.int .i64 r.1)),(7,.d (.int .i64 r.2))],[]⟩):Ex × St)) (mtenor_settle_l1_s a0 a1 r1 p2):=by
 simp -implicitDefEqProofs (decide:=true) (maxSteps:=2000000) only [b_mtenor_settle_l1,mtenor_settle_l1_s,↓k_mrealm_OrderAt,↓k_mtenor_skip,↓k_mcalendar_Next,↓DN,↓DR,DQ,DP,↓reduceIte,Int.reduceToNat,Nat.reduceBEq,Nat.reduceAdd,Nat.reduceLT,Nat.reduceLeDiff,Nat.reduceEqDiff,Int.reduceEq,ne_eq,not_false_eq_true,reduceCtorEq,specL,specO,specP,beq_self_eq_true,List.length_cons,List.length_nil,cM_length,Bool.not_true,Bool.not_false,if_true,if_false,List.replicate_succ,List.replicate_zero,dcells_len,Option.bind_some,none_bind,Option.map_some,Option.map_none,Sum.elim_inl,Sum.elim_inr,sized_cI,sized_cB,sized_cS,sized_cL,sized_cK,stepR_none,stepR_inl,stepR_inr,elim_stepR,stepR_ite,stepR_bind,ite_bind,ite_map,Vm.bind_map,elim_bind,elim_map,Option.bind_assoc]
 all_goals try simp only [gIf_eq]
 all_goals try rfl
theorem e_mtenor_settle_l1 {β:Type} (a0:GRealm) (a1:Int) (r1:Int) (p2:Int) (k:Ex→St→Option β):evK TT c_mtenor_settle_l1 ⟨[(1,.d (.int .i64 a1)),(2,.d (.int .i64 p2)),(3,.ptr 3 0),(8,.d (.int .i64 r1))],[(3,some (.box (dcells (GRealm.cells a0))))]⟩ k = (mtenor_settle_l1 a0 a1 r1 p2).bind (fun (r:Int × Int)=>k .ret ⟨[(6,.d (.int .i64 r.1)),(7,.d (.int .i64 r.2))],[]⟩):=by
 have hh:=fun (w:Int)=>h_mtenor_settle_l1 a0 a1 r1 w
 have h:=fun ho=>evK_loop (T:=TT) (k:=k) (c:=b_mtenor_settle_l1) (step:=(fun (w:Int)=>mtenor_settle_l1_s a0 a1 r1 w)) _ _ ho hh p2
 refine Eq.trans (h (fun r s e=>by have q:=congrArg Prod.fst e; rcases r with x <;> cases q)) ?_
 unfold mtenor_settle_l1
 exact bind_congr' _ fun x=>by rcases x with x <;> rfl
theorem c_mtenor_settle (a0:GRealm) (a1:Int) (a2:Int):Vm.call TT 52 [.agg (GRealm.cells a0),.int .i64 a1,.int .i64 a2] = (mtenor_settle a0 a1 a2).map fun (r:Int × Int)=>.tup [.int .i64 r.1,.int .i64 r.2]:=by
 refine (call_eqF (show TT 52 = some (.code ⟨3,35,[.tmp 6,.tmp 7],bd52,false⟩) from rfl) _ rfl).trans ?_
 show evK TT bd52 ⟨[(0,aggD (GRealm.cells a0)),(1,.d (.int .i64 a1)),(2,.d (.int .i64 a2))],[]⟩ _ = _
 simp -implicitDefEqProofs (decide:=true) (maxSteps:=2000000) only [bd52,mtenor_settle,↓e_mtenor_settle_l1,↓k_mrealm_OrderAt,↓k_mtenor_skip,↓k_mcalendar_Next,↓DN,↓DR,DQ,DP,↓reduceIte,Int.reduceToNat,Nat.reduceBEq,Nat.reduceAdd,Nat.reduceLT,Nat.reduceLeDiff,Nat.reduceEqDiff,Int.reduceEq,ne_eq,not_false_eq_true,reduceCtorEq,specL,specO,specP,beq_self_eq_true,List.length_cons,List.length_nil,cM_length,Bool.not_true,Bool.not_false,if_true,if_false,List.replicate_succ,List.replicate_zero,dcells_len,Option.bind_some,none_bind,Option.map_some,Option.map_none,Sum.elim_inl,Sum.elim_inr,sized_cI,sized_cB,sized_cS,sized_cL,sized_cK,stepR_none,stepR_inl,stepR_inr,elim_stepR,stepR_ite,stepR_bind,ite_bind,ite_map,Vm.bind_map,elim_bind,elim_map,Option.bind_assoc]
 all_goals try simp only [gIf_eq]
 all_goals try rfl
theorem k_mtenor_settle {β:Type} (a0:GRealm) (a1:Int) (a2:Int) (d:Nat) (bl:List (Nat × Option Blk)) (fz:List (Nat × Option Blk)) (k:V→Option β) (kw:V→List (Nat × Option Blk)→Option β):callF TT d bl 52 [.agg (GRealm.cells a0),.int .i64 a1,.int .i64 a2] fz k kw = (mtenor_settle a0 a1 a2).bind fun (r:Int × Int)=>k (.tup [.d (.int .i64 r.1),.d (.int .i64 r.2)]):=by
 have h:=c_mtenor_settle a0 a1 a2
 exact callF_flat h (fun _=>rfl) fz
theorem e_mtenor_Due_j1 {β:Type} (a0:GRealm) (a1:GBill) (a2:Int) (a3:Int) (k:Ex→St→Option β):evK TT c_mtenor_Due_j1 ⟨[(2,.d (.int .i64 a2)),(3,.d (.int .i64 a3)),(4,.ptr 4 0),(5,.ptr 5 0),(10,.ptr 10 0)],[(4,some (.box (dcells (GRealm.cells a0)))),(5,some (.box (dcells (GBill.cells a1)))),(10,some (.box (dcells (GTenor.cells a1.Tenor))))]⟩ k = (mtenor_Due_j1 a0 a1 a2 a3).bind (fun (r:Unit ⊕ Int)=>Sum.elim (fun (z:Unit)=>k .normal ⟨[(2,.d (.int .i64 a2)),(3,.d (.int .i64 a3)),(4,.ptr 4 0),(5,.ptr 5 0)],[(4,some (.box (dcells (GRealm.cells a0)))),(5,some (.box (dcells (GBill.cells a1))))]⟩) (fun (z:Int)=>k .ret ⟨[(8,.d (.int .i64 0)),(9,.d (.int .i64 z))],[]⟩) r):=by
 simp -implicitDefEqProofs (decide:=true) (maxSteps:=2000000) only [c_mtenor_Due_j1,mtenor_Due_j1,↓k_mrealm_Check,↓k_mtenor_Sights,↓k_mtenor_isCity,↓k_mtenor_isDay,↓k_mtenor_base,↓k_mtenor_settle,↓DN,↓DR,DQ,DP,↓reduceIte,Int.reduceToNat,Nat.reduceBEq,Nat.reduceAdd,Nat.reduceLT,Nat.reduceLeDiff,Nat.reduceEqDiff,Int.reduceEq,ne_eq,not_false_eq_true,reduceCtorEq,specL,specO,specP,beq_self_eq_true,List.length_cons,List.length_nil,cM_length,Bool.not_true,Bool.not_false,if_true,if_false,List.replicate_succ,List.replicate_zero,dcells_len,Option.bind_some,none_bind,Option.map_some,Option.map_none,Sum.elim_inl,Sum.elim_inr,sized_cI,sized_cB,sized_cS,sized_cL,sized_cK,stepR_none,stepR_inl,stepR_inr,elim_stepR,stepR_ite,stepR_bind,ite_bind,ite_map,Vm.bind_map,elim_bind,elim_map,Option.bind_assoc]
 all_goals try simp only [gIf_eq]
 all_goals try rfl
theorem e_mtenor_Due_j2 {β:Type} (a0:GRealm) (a1:GBill) (a2:Int) (a3:Int) (k:Ex→St→Option β):evK TT c_mtenor_Due_j2 ⟨[(2,.d (.int .i64 a2)),(3,.d (.int .i64 a3)),(4,.ptr 4 0),(5,.ptr 5 0),(10,.ptr 10 0)],[(4,some (.box (dcells (GRealm.cells a0)))),(5,some (.box (dcells (GBill.cells a1)))),(10,some (.box (dcells (GTenor.cells a1.Tenor))))]⟩ k = (mtenor_Due_j2 a0 a1 a2 a3).bind (fun (r:Unit ⊕ Int)=>Sum.elim (fun (z:Unit)=>k .normal ⟨[(2,.d (.int .i64 a2)),(3,.d (.int .i64 a3)),(4,.ptr 4 0),(5,.ptr 5 0)],[(4,some (.box (dcells (GRealm.cells a0)))),(5,some (.box (dcells (GBill.cells a1))))]⟩) (fun (z:Int)=>k .ret ⟨[(8,.d (.int .i64 0)),(9,.d (.int .i64 z))],[]⟩) r):=by
 simp -implicitDefEqProofs (decide:=true) (maxSteps:=2000000) only [c_mtenor_Due_j2,mtenor_Due_j2,↓e_mtenor_Due_j1,↓k_mrealm_Check,↓k_mtenor_Sights,↓k_mtenor_isCity,↓k_mtenor_isDay,↓k_mtenor_base,↓k_mtenor_settle,↓DN,↓DR,DQ,DP,↓reduceIte,Int.reduceToNat,Nat.reduceBEq,Nat.reduceAdd,Nat.reduceLT,Nat.reduceLeDiff,Nat.reduceEqDiff,Int.reduceEq,ne_eq,not_false_eq_true,reduceCtorEq,specL,specO,specP,beq_self_eq_true,List.length_cons,List.length_nil,cM_length,Bool.not_true,Bool.not_false,if_true,if_false,List.replicate_succ,List.replicate_zero,dcells_len,Option.bind_some,none_bind,Option.map_some,Option.map_none,Sum.elim_inl,Sum.elim_inr,sized_cI,sized_cB,sized_cS,sized_cL,sized_cK,stepR_none,stepR_inl,stepR_inr,elim_stepR,stepR_ite,stepR_bind,ite_bind,ite_map,Vm.bind_map,elim_bind,elim_map,Option.bind_assoc]
 all_goals try simp only [gIf_eq]
 all_goals try rfl
theorem c_mtenor_Due (a0:GRealm) (a1:GBill) (a2:Int) (a3:Int):Vm.call TT 14 [.agg (GRealm.cells a0),.agg (GBill.cells a1),.int .i64 a2,.int .i64 a3] = (mtenor_Due a0 a1 a2 a3).map fun (r:Int × Int)=>.tup [.int .i64 r.1,.int .i64 r.2]:=by
 refine (call_eqF (show TT 14 = some (.code ⟨4,109,[.tmp 8,.tmp 9],bd14,false⟩) from rfl) _ rfl).trans ?_
 show evK TT bd14 ⟨[(0,aggD (GRealm.cells a0)),(1,aggD (GBill.cells a1)),(2,.d (.int .i64 a2)),(3,.d (.int .i64 a3))],[]⟩ _ = _
 simp -implicitDefEqProofs (decide:=true) (maxSteps:=2000000) only [bd14,mtenor_Due,↓e_mtenor_Due_j1,↓e_mtenor_Due_j2,↓k_mrealm_Check,↓k_mtenor_Sights,↓k_mtenor_isCity,↓k_mtenor_isDay,↓k_mtenor_base,↓k_mtenor_settle,↓DN,↓DR,DQ,DP,↓reduceIte,Int.reduceToNat,Nat.reduceBEq,Nat.reduceAdd,Nat.reduceLT,Nat.reduceLeDiff,Nat.reduceEqDiff,Int.reduceEq,ne_eq,not_false_eq_true,reduceCtorEq,specL,specO,specP,beq_self_eq_true,List.length_cons,List.length_nil,cM_length,Bool.not_true,Bool.not_false,if_true,if_false,List.replicate_succ,List.replicate_zero,dcells_len,Option.bind_some,none_bind,Option.map_some,Option.map_none,Sum.elim_inl,Sum.elim_inr,sized_cI,sized_cB,sized_cS,sized_cL,sized_cK,stepR_none,stepR_inl,stepR_inr,elim_stepR,stepR_ite,stepR_bind,ite_bind,ite_map,Vm.bind_map,elim_bind,elim_map,Option.bind_assoc]
 all_goals try simp only [gIf_eq]
 all_goals try rfl
theorem k_mtenor_Due {β:Type} (a0:GRealm) (a1:GBill) (a2:Int) (a3:Int) (d:Nat) (bl:List (Nat × Option Blk)) (fz:List (Nat × Option Blk)) (k:V→Option β) (kw:V→List (Nat × Option Blk)→Option β):callF TT d bl 14 [.agg (GRealm.cells a0),.agg (GBill.cells a1),.int .i64 a2,.int .i64 a3] fz k kw = (mtenor_Due a0 a1 a2 a3).bind fun (r:Int × Int)=>k (.tup [.d (.int .i64 r.1),.d (.int .i64 r.2)]):=by
 have h:=c_mtenor_Due a0 a1 a2 a3
 exact callF_flat h (fun _=>rfl) fz
theorem c_mtenor_Settle (a0:GRealm) (a1:Int) (a2:Int):Vm.call TT 15 [.agg (GRealm.cells a0),.int .i64 a1,.int .i64 a2] = (mtenor_Settle a0 a1 a2).map fun (r:Int × Int)=>.tup [.int .i64 r.1,.int .i64 r.2]:=by
 refine (call_eqF (show TT 15 = some (.code ⟨3,28,[.tmp 6,.tmp 7],bd15,false⟩) from rfl) _ rfl).trans ?_
 show evK TT bd15 ⟨[(0,aggD (GRealm.cells a0)),(1,.d (.int .i64 a1)),(2,.d (.int .i64 a2))],[]⟩ _ = _
 simp -implicitDefEqProofs (decide:=true) (maxSteps:=2000000) only [bd15,mtenor_Settle,↓k_mrealm_Check,↓k_mtenor_isCity,↓k_mtenor_isDay,↓k_mtenor_settle,↓DN,↓DR,DQ,DP,↓reduceIte,Int.reduceToNat,Nat.reduceBEq,Nat.reduceAdd,Nat.reduceLT,Nat.reduceLeDiff,Nat.reduceEqDiff,Int.reduceEq,ne_eq,not_false_eq_true,reduceCtorEq,specL,specO,specP,beq_self_eq_true,List.length_cons,List.length_nil,cM_length,Bool.not_true,Bool.not_false,if_true,if_false,List.replicate_succ,List.replicate_zero,dcells_len,Option.bind_some,none_bind,Option.map_some,Option.map_none,Sum.elim_inl,Sum.elim_inr,sized_cI,sized_cB,sized_cS,sized_cL,sized_cK,stepR_none,stepR_inl,stepR_inr,elim_stepR,stepR_ite,stepR_bind,ite_bind,ite_map,Vm.bind_map,elim_bind,elim_map,Option.bind_assoc]
 all_goals try simp only [gIf_eq]
 all_goals try rfl
theorem k_mtenor_Settle {β:Type} (a0:GRealm) (a1:Int) (a2:Int) (d:Nat) (bl:List (Nat × Option Blk)) (fz:List (Nat × Option Blk)) (k:V→Option β) (kw:V→List (Nat × Option Blk)→Option β):callF TT d bl 15 [.agg (GRealm.cells a0),.int .i64 a1,.int .i64 a2] fz k kw = (mtenor_Settle a0 a1 a2).bind fun (r:Int × Int)=>k (.tup [.d (.int .i64 r.1),.d (.int .i64 r.2)]):=by
 have h:=c_mtenor_Settle a0 a1 a2
 exact callF_flat h (fun _=>rfl) fz
theorem kv_mallongelaw11_sane_1 {β:Type} (r1:GRealm) (d:Nat) (bl:List (Nat × Option Blk)) (fz:List (Nat × Option Blk)) (k:V→Option β) (kw:V→List (Nat × Option Blk)→Option β):callF TT d bl 14 [.agg (GRealm.cells r1),.agg [.int .i64 0,.int .i64 0,.int .i64 0,.int .i64 0,.int .i64 0,.int .i64 2,.int .i64 3,.int .i64 0,.int .i64 3,.int .i64 0,.int .i64 0,.int .i64 0,.int .i64 0,.int .i64 0,.int .i64 0],.int .i64 (-1),.int .i64 0] fz k kw = (mtenor_Due r1 (GBill.mk 0 0 0 0 0 (GTenor.mk 2 3 0) 3 0 0 0 0 0 0) (-1) 0).bind fun (r:Int × Int)=>k (.tup [.d (.int .i64 r.1),.d (.int .i64 r.2)]):=by
 have h:=c_mtenor_Due r1 (GBill.mk 0 0 0 0 0 (GTenor.mk 2 3 0) 3 0 0 0 0 0 0) (-1) 0
 exact callF_flat h (fun _=>rfl) fz
theorem kv_mallongelaw11_sane_2 {β:Type} (r1:GRealm) (d:Nat) (bl:List (Nat × Option Blk)) (fz:List (Nat × Option Blk)) (k:V→Option β) (kw:V→List (Nat × Option Blk)→Option β):callF TT d bl 14 [.agg (GRealm.cells r1),.agg [.int .i64 0,.int .i64 0,.int .i64 0,.int .i64 0,.int .i64 0,.int .i64 2,.int .i64 3,.int .i64 0,.int .i64 3,.int .i64 0,.int .i64 0,.int .i64 0,.int .i64 0,.int .i64 0,.int .i64 0],.int .i64 (-1),.int .i64 1] fz k kw = (mtenor_Due r1 (GBill.mk 0 0 0 0 0 (GTenor.mk 2 3 0) 3 0 0 0 0 0 0) (-1) 1).bind fun (r:Int × Int)=>k (.tup [.d (.int .i64 r.1),.d (.int .i64 r.2)]):=by
 have h:=c_mtenor_Due r1 (GBill.mk 0 0 0 0 0 (GTenor.mk 2 3 0) 3 0 0 0 0 0 0) (-1) 1
 exact callF_flat h (fun _=>rfl) fz
theorem kv_mallongelaw11_sane_3 {β:Type} (r1:GRealm) (d:Nat) (bl:List (Nat × Option Blk)) (fz:List (Nat × Option Blk)) (k:V→Option β) (kw:V→List (Nat × Option Blk)→Option β):callF TT d bl 14 [.agg (GRealm.cells r1),.agg [.int .i64 0,.int .i64 0,.int .i64 0,.int .i64 0,.int .i64 0,.int .i64 1,.int .i64 2,.int .i64 0,.int .i64 3,.int .i64 0,.int .i64 0,.int .i64 0,.int .i64 0,.int .i64 0,.int .i64 0],.int .i64 4,.int .i64 0] fz k kw = (mtenor_Due r1 (GBill.mk 0 0 0 0 0 (GTenor.mk 1 2 0) 3 0 0 0 0 0 0) 4 0).bind fun (r:Int × Int)=>k (.tup [.d (.int .i64 r.1),.d (.int .i64 r.2)]):=by
 have h:=c_mtenor_Due r1 (GBill.mk 0 0 0 0 0 (GTenor.mk 1 2 0) 3 0 0 0 0 0 0) 4 0
 exact callF_flat h (fun _=>rfl) fz
theorem kv_mallongelaw11_sane_4 {β:Type} (r1:GRealm) (d:Nat) (bl:List (Nat × Option Blk)) (fz:List (Nat × Option Blk)) (k:V→Option β) (kw:V→List (Nat × Option Blk)→Option β):callF TT d bl 14 [.agg (GRealm.cells r1),.agg [.int .i64 0,.int .i64 0,.int .i64 0,.int .i64 0,.int .i64 0,.int .i64 1,.int .i64 2,.int .i64 0,.int .i64 3,.int .i64 0,.int .i64 0,.int .i64 0,.int .i64 0,.int .i64 0,.int .i64 0],.int .i64 (-1),.int .i64 0] fz k kw = (mtenor_Due r1 (GBill.mk 0 0 0 0 0 (GTenor.mk 1 2 0) 3 0 0 0 0 0 0) (-1) 0).bind fun (r:Int × Int)=>k (.tup [.d (.int .i64 r.1),.d (.int .i64 r.2)]):=by
 have h:=c_mtenor_Due r1 (GBill.mk 0 0 0 0 0 (GTenor.mk 1 2 0) 3 0 0 0 0 0 0) (-1) 0
 exact callF_flat h (fun _=>rfl) fz
theorem kv_mallongelaw11_sane_5 {β:Type} (d:Nat) (bl:List (Nat × Option Blk)) (fz:List (Nat × Option Blk)) (k:V→Option β) (kw:V→List (Nat × Option Blk)→Option β):callF TT d bl 37 [.agg [.int .i64 1,.int .i64 2,.int .i64 0]] fz k kw = (mtenor_Sights (GTenor.mk 1 2 0)).bind fun (r:Bool)=>k (.d (.bool r)):=by
 have h:=c_mtenor_Sights (GTenor.mk 1 2 0)
 exact callF_flat h (fun _=>rfl) fz
theorem kv_mallongelaw11_sane_6 {β:Type} (d:Nat) (bl:List (Nat × Option Blk)) (fz:List (Nat × Option Blk)) (k:V→Option β) (kw:V→List (Nat × Option Blk)→Option β):callF TT d bl 37 [.agg [.int .i64 2,.int .i64 3,.int .i64 0]] fz k kw = (mtenor_Sights (GTenor.mk 2 3 0)).bind fun (r:Bool)=>k (.d (.bool r)):=by
 have h:=c_mtenor_Sights (GTenor.mk 2 3 0)
 exact callF_flat h (fun _=>rfl) fz
theorem e_mallongelaw11_sane_j1 {β:Type} (r2:Int × Int) (r3:Int × Int) (r4:Int × Int) (r6:Int × Int) (r7:Int × Int) (p8:Bool) (k:Ex→St→Option β):evK TT c_mallongelaw11_sane_j1 ⟨[(2,.ptr 2 0),(3,.ptr 3 0),(4,.d (.int .i64 r2.1)),(6,.d (.int .i64 r3.1)),(8,.d (.int .i64 r4.1)),(12,.d (.int .i64 r6.1)),(14,.d (.int .i64 r7.1)),(16,.d (.bool p8))],[(2,some (.box [.d (.int .i64 0),.d (.int .i64 0),.d (.int .i64 0),.d (.int .i64 0),.d (.int .i64 0),.d (.int .i64 2),.d (.int .i64 3),.d (.int .i64 0),.d (.int .i64 3),.d (.int .i64 0),.d (.int .i64 0),.d (.int .i64 0),.d (.int .i64 0),.d (.int .i64 0),.d (.int .i64 0)])),(3,some (.box [.d (.int .i64 0),.d (.int .i64 0),.d (.int .i64 0),.d (.int .i64 0),.d (.int .i64 0),.d (.int .i64 1),.d (.int .i64 2),.d (.int .i64 0),.d (.int .i64 3),.d (.int .i64 0),.d (.int .i64 0),.d (.int .i64 0),.d (.int .i64 0),.d (.int .i64 0),.d (.int .i64 0)]))]⟩ k = (mallongelaw11_sane_j1 r2 r3 r4 r6 r7 p8).bind (fun (r:Bool)=>k .ret ⟨[(0,.d (.bool r))],[]⟩):=by
 simp -implicitDefEqProofs (decide:=true) (maxSteps:=2000000) only [c_mallongelaw11_sane_j1,mallongelaw11_sane_j1,↓k_mtenor_Due,↓k_mtenor_Settle,↓k_mallongelaw11_example,↓k_mtenor_Sights,↓kv_mallongelaw11_sane_1,↓kv_mallongelaw11_sane_2,↓kv_mallongelaw11_sane_3,↓kv_mallongelaw11_sane_4,↓kv_mallongelaw11_sane_5,↓kv_mallongelaw11_sane_6,↓DN,↓DR,DQ,DP,↓reduceIte,Int.reduceToNat,Nat.reduceBEq,Nat.reduceAdd,Nat.reduceLT,Nat.reduceLeDiff,Nat.reduceEqDiff,Int.reduceEq,ne_eq,not_false_eq_true,reduceCtorEq,specL,specO,specP,beq_self_eq_true,List.length_cons,List.length_nil,cM_length,Bool.not_true,Bool.not_false,if_true,if_false,List.replicate_succ,List.replicate_zero,dcells_len,Option.bind_some,none_bind,Option.map_some,Option.map_none,Sum.elim_inl,Sum.elim_inr,sized_cI,sized_cB,sized_cS,sized_cL,sized_cK,stepR_none,stepR_inl,stepR_inr,elim_stepR,stepR_ite,stepR_bind,ite_bind,ite_map,Vm.bind_map,elim_bind,elim_map,Option.bind_assoc]
 all_goals try simp only [gIf_eq]
 all_goals try rfl
theorem c_mallongelaw11_sane:Vm.call TT 11 [] = (mallongelaw11_sane).map fun (r:Bool)=>.bool r:=by
 refine (call_eqF (show TT 11 = some (.code ⟨0,110,[.tmp 0],bd11,false⟩) from rfl) _ rfl).trans ?_
 show evK TT bd11 ⟨[],[]⟩ _ = _
 simp -implicitDefEqProofs (decide:=true) (maxSteps:=2000000) only [bd11,mallongelaw11_sane,↓e_mallongelaw11_sane_j1,↓k_mtenor_Due,↓k_mtenor_Settle,↓k_mallongelaw11_example,↓k_mtenor_Sights,↓kv_mallongelaw11_sane_1,↓kv_mallongelaw11_sane_2,↓kv_mallongelaw11_sane_3,↓kv_mallongelaw11_sane_4,↓kv_mallongelaw11_sane_5,↓kv_mallongelaw11_sane_6,↓DN,↓DR,DQ,DP,↓reduceIte,Int.reduceToNat,Nat.reduceBEq,Nat.reduceAdd,Nat.reduceLT,Nat.reduceLeDiff,Nat.reduceEqDiff,Int.reduceEq,ne_eq,not_false_eq_true,reduceCtorEq,specL,specO,specP,beq_self_eq_true,List.length_cons,List.length_nil,cM_length,Bool.not_true,Bool.not_false,if_true,if_false,List.replicate_succ,List.replicate_zero,dcells_len,Option.bind_some,none_bind,Option.map_some,Option.map_none,Sum.elim_inl,Sum.elim_inr,sized_cI,sized_cB,sized_cS,sized_cL,sized_cK,stepR_none,stepR_inl,stepR_inr,elim_stepR,stepR_ite,stepR_bind,ite_bind,ite_map,Vm.bind_map,elim_bind,elim_map,Option.bind_assoc]
 all_goals try simp only [gIf_eq]
 all_goals try rfl
theorem k_mallongelaw11_sane {β:Type} (d:Nat) (bl:List (Nat × Option Blk)) (fz:List (Nat × Option Blk)) (k:V→Option β) (kw:V→List (Nat × Option Blk)→Option β):callF TT d bl 11 [] fz k kw = (mallongelaw11_sane).bind fun (r:Bool)=>k (.d (.bool r)):=by
 have h:=c_mallongelaw11_sane
 exact callF_flat h (fun _=>rfl) fz
theorem h_mallongeref09_Few_l1 (a0:GRealm) (p1:Int):evK TT b_mallongeref09_Few_l1 ⟨[(1,.ptr 1 0),(3,.d (.int .i64 p1))],[(1,some (.box (dcells (GRealm.cells a0))))]⟩ (fun e s=>some (e,s)) = stepR (fun (w:Int)=>(⟨[(1,.ptr 1 0),(3,.d (.int .i64 w))],[(1,some (.box (dcells (GRealm.cells a0))))]⟩ : St)) (fun (r:Unit ⊕ Unit)=>Sum.elim (fun (z:Unit)=>(((.exit 0),⟨[(1,.ptr 1 0)],[(1,some (.box (dcells (GRealm.cells a0))))]⟩):Ex × St)) (fun (z:Unit)=>((.ret,⟨[(2,.d (.bool false))],[]⟩):Ex × St)) r) (mallongeref09_Few_l1_s a0 p1):=by
 simp -implicitDefEqProofs (decide:=true) (maxSteps:=2000000) only [b_mallongeref09_Few_l1,mallongeref09_Few_l1_s,↓DN,↓DR,DQ,DP,↓reduceIte,Int.reduceToNat,Nat.reduceBEq,Nat.reduceAdd,Nat.reduceLT,Nat.reduceLeDiff,Nat.reduceEqDiff,Int.reduceEq,ne_eq,not_false_eq_true,reduceCtorEq,specL,specO,specP,beq_self_eq_true,List.length_cons,List.length_nil,cM_length,Bool.not_true,Bool.not_false,if_true,if_false,List.replicate_succ,List.replicate_zero,dcells_len,Option.bind_some,none_bind,Option.map_some,Option.map_none,Sum.elim_inl,Sum.elim_inr,sized_cI,sized_cB,sized_cS,sized_cL,sized_cK,stepR_none,stepR_inl,stepR_inr,elim_stepR,stepR_ite,stepR_bind,ite_bind,ite_map,Vm.bind_map,elim_bind,elim_map,Option.bind_assoc]
 all_goals try simp only [gIf_eq]
 all_goals try rfl
theorem e_mallongeref09_Few_l1 {β:Type} (a0:GRealm) (p1:Int) (k:Ex→St→Option β):evK TT c_mallongeref09_Few_l1 ⟨[(1,.ptr 1 0),(3,.d (.int .i64 p1))],[(1,some (.box (dcells (GRealm.cells a0))))]⟩ k = (mallongeref09_Few_l1 a0 p1).bind (fun (r:Unit ⊕ Unit)=>Sum.elim (fun (z:Unit)=>k (.exit 0) ⟨[(1,.ptr 1 0)],[(1,some (.box (dcells (GRealm.cells a0))))]⟩) (fun (z:Unit)=>k .ret ⟨[(2,.d (.bool false))],[]⟩) r):=by
 have hh:=fun (w:Int)=>h_mallongeref09_Few_l1 a0 w
 have h:=fun ho=>evK_loop (T:=TT) (k:=k) (c:=b_mallongeref09_Few_l1) (step:=(fun (w:Int)=>mallongeref09_Few_l1_s a0 w)) _ _ ho hh p1
 refine Eq.trans (h (fun r s e=>by have q:=congrArg Prod.fst e; rcases r with x | x <;> cases q)) ?_
 unfold mallongeref09_Few_l1
 exact bind_congr' _ fun x=>by rcases x with x | x <;> rfl
theorem h_mallongeref09_Few_l2 (a0:GRealm) (p8:Int):evK TT b_mallongeref09_Few_l2 ⟨[(1,.ptr 1 0),(4,.d (.int .i64 p8))],[(1,some (.box (dcells (GRealm.cells a0))))]⟩ (fun e s=>some (e,s)) = stepR (fun (w:Int)=>(⟨[(1,.ptr 1 0),(4,.d (.int .i64 w))],[(1,some (.box (dcells (GRealm.cells a0))))]⟩ : St)) (fun (r:Unit ⊕ Unit)=>Sum.elim (fun (z:Unit)=>(((.exit 2),⟨[(1,.ptr 1 0)],[(1,some (.box (dcells (GRealm.cells a0))))]⟩):Ex × St)) (fun (z:Unit)=>((.ret,⟨[(2,.d (.bool false))],[]⟩):Ex × St)) r) (mallongeref09_Few_l2_s a0 p8):=by
 simp -implicitDefEqProofs (decide:=true) (maxSteps:=2000000) only [b_mallongeref09_Few_l2,mallongeref09_Few_l2_s,↓e_mallongeref09_Few_l1,↓DN,↓DR,DQ,DP,↓reduceIte,Int.reduceToNat,Nat.reduceBEq,Nat.reduceAdd,Nat.reduceLT,Nat.reduceLeDiff,Nat.reduceEqDiff,Int.reduceEq,ne_eq,not_false_eq_true,reduceCtorEq,specL,specO,specP,beq_self_eq_true,List.length_cons,List.length_nil,cM_length,Bool.not_true,Bool.not_false,if_true,if_false,List.replicate_succ,List.replicate_zero,dcells_len,Option.bind_some,none_bind,Option.map_some,Option.map_none,Sum.elim_inl,Sum.elim_inr,sized_cI,sized_cB,sized_cS,sized_cL,sized_cK,stepR_none,stepR_inl,stepR_inr,elim_stepR,stepR_ite,stepR_bind,ite_bind,ite_map,Vm.bind_map,elim_bind,elim_map,Option.bind_assoc]
 all_goals try simp only [gIf_eq]
 all_goals try rfl
theorem e_mallongeref09_Few_l2 {β:Type} (a0:GRealm) (p8:Int) (k:Ex→St→Option β):evK TT c_mallongeref09_Few_l2 ⟨[(1,.ptr 1 0),(4,.d (.int .i64 p8))],[(1,some (.box (dcells (GRealm.cells a0))))]⟩ k = (mallongeref09_Few_l2 a0 p8).bind (fun (r:Unit ⊕ Unit)=>Sum.elim (fun (z:Unit)=>k (.exit 2) ⟨[(1,.ptr 1 0)],[(1,some (.box (dcells (GRealm.cells a0))))]⟩) (fun (z:Unit)=>k .ret ⟨[(2,.d (.bool false))],[]⟩) r):=by
 have hh:=fun (w:Int)=>h_mallongeref09_Few_l2 a0 w
 have h:=fun ho=>evK_loop (T:=TT) (k:=k) (c:=b_mallongeref09_Few_l2) (step:=(fun (w:Int)=>mallongeref09_Few_l2_s a0 w)) _ _ ho hh p8
 refine Eq.trans (h (fun r s e=>by have q:=congrArg Prod.fst e; rcases r with x | x <;> cases q)) ?_
 unfold mallongeref09_Few_l2
 exact bind_congr' _ fun x=>by rcases x with x | x <;> rfl
theorem c_mallongeref09_Few (a0:GRealm):Vm.call TT 12 [.agg (GRealm.cells a0)] = (mallongeref09_Few a0).map fun (r:Bool)=>.bool r:=by
 refine (call_eqF (show TT 12 = some (.code ⟨1,119,[.tmp 2],bd12,false⟩) from rfl) _ rfl).trans ?_
 show evK TT bd12 ⟨[(0,aggD (GRealm.cells a0))],[]⟩ _ = _
 simp -implicitDefEqProofs (decide:=true) (maxSteps:=2000000) only [bd12,mallongeref09_Few,↓e_mallongeref09_Few_l1,↓e_mallongeref09_Few_l2,↓DN,↓DR,DQ,DP,↓reduceIte,Int.reduceToNat,Nat.reduceBEq,Nat.reduceAdd,Nat.reduceLT,Nat.reduceLeDiff,Nat.reduceEqDiff,Int.reduceEq,ne_eq,not_false_eq_true,reduceCtorEq,specL,specO,specP,beq_self_eq_true,List.length_cons,List.length_nil,cM_length,Bool.not_true,Bool.not_false,if_true,if_false,List.replicate_succ,List.replicate_zero,dcells_len,Option.bind_some,none_bind,Option.map_some,Option.map_none,Sum.elim_inl,Sum.elim_inr,sized_cI,sized_cB,sized_cS,sized_cL,sized_cK,stepR_none,stepR_inl,stepR_inr,elim_stepR,stepR_ite,stepR_bind,ite_bind,ite_map,Vm.bind_map,elim_bind,elim_map,Option.bind_assoc]
 all_goals try simp only [gIf_eq]
 all_goals try rfl
theorem k_mallongeref09_Few {β:Type} (a0:GRealm) (d:Nat) (bl:List (Nat × Option Blk)) (fz:List (Nat × Option Blk)) (k:V→Option β) (kw:V→List (Nat × Option Blk)→Option β):callF TT d bl 12 [.agg (GRealm.cells a0)] fz k kw = (mallongeref09_Few a0).bind fun (r:Bool)=>k (.d (.bool r)):=by
 have h:=c_mallongeref09_Few a0
 exact callF_flat h (fun _=>rfl) fz
end Go.Proofs.Ytibhbfhelfjloaa
