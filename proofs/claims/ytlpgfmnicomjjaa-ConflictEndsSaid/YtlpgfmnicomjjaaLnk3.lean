/- The functions of the small machine compute the plain definitions. Printed by a program. -/
import Derived.Test.YtlpgfmnicomjjaaLnk2
set_option linter.unusedVariables false
set_option linter.unusedSimpArgs false
namespace Go.Proofs.Ytlpgfmnicomjjaa
open Vm
open Go.RowKit
set_option maxRecDepth 100000
set_option maxHeartbeats 4000000
attribute [local congr] condK_congr opsK_congr opsDK_congr valK_congr
theorem c_mrealm_Check_3_s1 (a0:Int) (a1:GRealm):Vm.call TT 68 [.int .i64 a0,.ptr (GRealm.cells a1) 0] = (mrealm_Check_3_s1 a0 a1).map fun (r:Bool)=>.bool r:=by
 refine (call_eqF (show TT 68 = some (.code ⟨2,26,[.tmp 3],bd68,false,false⟩) from rfl) _ rfl rfl).trans ?_
 show evK TT bd68 ⟨[(0,.d (.int .i64 a0)),(1,.d (.ptr (GRealm.cells a1) 0))],[]⟩ _ = _
 simp -implicitDefEqProofs (decide:=true) (maxSteps:=2000000) only [bd68,mrealm_Check_3_s1,↓k_mrealm_in,↓DN,↓DR,DQ,DP,↓reduceIte,Int.reduceToNat,Nat.reduceBEq,Nat.reduceAdd,Nat.reduceLT,Nat.reduceLeDiff,Nat.reduceEqDiff,Int.reduceEq,ne_eq,not_false_eq_true,reduceCtorEq,specL,specO,specP,beq_self_eq_true,List.length_cons,List.length_nil,cM_length,Bool.not_true,Bool.not_false,if_true,if_false,List.replicate_succ,List.replicate_zero,dcells_len,Option.bind_some,none_bind,Option.map_some,Option.map_none,Sum.elim_inl,Sum.elim_inr,sized_cI,sized_cB,sized_cS,sized_cL,sized_cK,stepR_none,stepR_inl,stepR_inr,elim_stepR,stepR_ite,stepR_bind,ite_bind,ite_map,Vm.bind_map,elim_bind,elim_map,Option.bind_assoc]
 all_goals try simp only [gIf_eq]
 all_goals try rfl
theorem k_mrealm_Check_3_s1 {β:Type} (a0:Int) (a1:GRealm) (d:Nat) (bl:List (Nat × Option Blk)) (fz:List (Nat × Option Blk)) (k:V→Option β) (kw:V→List (Nat × Option Blk)→Option β):callF TT d bl 68 [.int .i64 a0,.ptr (GRealm.cells a1) 0] fz k kw = (mrealm_Check_3_s1 a0 a1).bind fun (r:Bool)=>k (.d (.bool r)):=by
 have h:=c_mrealm_Check_3_s1 a0 a1
 exact callF_flat h (fun _=>rfl) fz
theorem h_mrealm_fits_s3_l1 (a0:List ByteArray) (a2:GRealm) (p1:Int):evK TT b_mrealm_fits_l1 ⟨[(0,.d (.sl (cM cS a0))),(2,.d (.fn 68 [.ptr (GRealm.cells a2) 0])),(14,.d (.int .i64 (a0.length:Int))),(15,.d (.int .i64 p1))],[]⟩ (fun e s=>some (e,s)) = stepR (fun (w:Int)=>(⟨[(0,.d (.sl (cM cS a0))),(2,.d (.fn 68 [.ptr (GRealm.cells a2) 0])),(14,.d (.int .i64 (a0.length:Int))),(15,.d (.int .i64 w))],[]⟩ : St)) (fun (r:Unit ⊕ Int)=>Sum.elim (fun (z:Unit)=>(((.exit 0),⟨[],[]⟩):Ex × St)) (fun (z:Int)=>((.ret,⟨[(6,.d (.int .i64 z))],[]⟩):Ex × St)) r) (mrealm_fits_s3_l1_s a0 a2 p1):=by
 simp -implicitDefEqProofs (decide:=true) (maxSteps:=2000000) only [b_mrealm_fits_l1,mrealm_fits_s3_l1_s,↓k_mrealm_Check_3_s1,↓k_mrealm_named,↓DN,↓DR,DQ,DP,↓reduceIte,Int.reduceToNat,Nat.reduceBEq,Nat.reduceAdd,Nat.reduceLT,Nat.reduceLeDiff,Nat.reduceEqDiff,Int.reduceEq,ne_eq,not_false_eq_true,reduceCtorEq,specL,specO,specP,beq_self_eq_true,List.length_cons,List.length_nil,cM_length,Bool.not_true,Bool.not_false,if_true,if_false,List.replicate_succ,List.replicate_zero,dcells_len,Option.bind_some,none_bind,Option.map_some,Option.map_none,Sum.elim_inl,Sum.elim_inr,sized_cI,sized_cB,sized_cS,sized_cL,sized_cK,stepR_none,stepR_inl,stepR_inr,elim_stepR,stepR_ite,stepR_bind,ite_bind,ite_map,Vm.bind_map,elim_bind,elim_map,Option.bind_assoc]
 all_goals try simp only [gIf_eq]
 all_goals try rfl
theorem e_mrealm_fits_s3_l1 {β:Type} (a0:List ByteArray) (a2:GRealm) (p1:Int) (k:Ex→St→Option β):evK TT c_mrealm_fits_l1 ⟨[(0,.d (.sl (cM cS a0))),(2,.d (.fn 68 [.ptr (GRealm.cells a2) 0])),(14,.d (.int .i64 (a0.length:Int))),(15,.d (.int .i64 p1))],[]⟩ k = (mrealm_fits_s3_l1 a0 a2 p1).bind (fun (r:Unit ⊕ Int)=>Sum.elim (fun (z:Unit)=>k (.exit 0) ⟨[],[]⟩) (fun (z:Int)=>k .ret ⟨[(6,.d (.int .i64 z))],[]⟩) r):=by
 have hh:=fun (w:Int)=>h_mrealm_fits_s3_l1 a0 a2 w
 have h:=fun ho=>evK_loop (T:=TT) (k:=k) (c:=b_mrealm_fits_l1) (step:=(fun (w:Int)=>mrealm_fits_s3_l1_s a0 a2 w)) _ _ ho hh p1
 refine Eq.trans (h (fun r s e=>by have q:=congrArg Prod.fst e; rcases r with x | x <;> cases q)) ?_
 unfold mrealm_fits_s3_l1
 exact bind_congr' _ fun x=>by rcases x with x | x <;> rfl
theorem c_mrealm_fits_s3 (a0:List ByteArray) (a1:Int) (a2:GRealm):Vm.call TT 63 [.sl (cM cS a0),.int .i64 a1,.fn 68 [.ptr (GRealm.cells a2) 0]] = (mrealm_fits_s3 a0 a1 a2).map fun (r:Int)=>.int .i64 r:=by
 refine (call_eqF (show TT 63 = some (.code ⟨3,29,[.tmp 6],bd63,false,false⟩) from rfl) _ rfl rfl).trans ?_
 show evK TT bd63 ⟨[(0,.d (.sl (cM cS a0))),(1,.d (.int .i64 a1)),(2,.d (.fn 68 [.ptr (GRealm.cells a2) 0]))],[]⟩ _ = _
 simp -implicitDefEqProofs (decide:=true) (maxSteps:=2000000) only [bd63,mrealm_fits_s3,↓e_mrealm_fits_s3_l1,↓k_mrealm_Check_3_s1,↓k_mrealm_named,↓DN,↓DR,DQ,DP,↓reduceIte,Int.reduceToNat,Nat.reduceBEq,Nat.reduceAdd,Nat.reduceLT,Nat.reduceLeDiff,Nat.reduceEqDiff,Int.reduceEq,ne_eq,not_false_eq_true,reduceCtorEq,specL,specO,specP,beq_self_eq_true,List.length_cons,List.length_nil,cM_length,Bool.not_true,Bool.not_false,if_true,if_false,List.replicate_succ,List.replicate_zero,dcells_len,Option.bind_some,none_bind,Option.map_some,Option.map_none,Sum.elim_inl,Sum.elim_inr,sized_cI,sized_cB,sized_cS,sized_cL,sized_cK,stepR_none,stepR_inl,stepR_inr,elim_stepR,stepR_ite,stepR_bind,ite_bind,ite_map,Vm.bind_map,elim_bind,elim_map,Option.bind_assoc]
 all_goals try simp only [gIf_eq]
 all_goals try rfl
theorem k_mrealm_fits_s3 {β:Type} (a0:List ByteArray) (a1:Int) (a2:GRealm) (d:Nat) (bl:List (Nat × Option Blk)) (fz:List (Nat × Option Blk)) (k:V→Option β) (kw:V→List (Nat × Option Blk)→Option β):callF TT d bl 63 [.sl (cM cS a0),.int .i64 a1,.fn 68 [.ptr (GRealm.cells a2) 0]] fz k kw = (mrealm_fits_s3 a0 a1 a2).bind fun (r:Int)=>k (.d (.int .i64 r)):=by
 have h:=c_mrealm_fits_s3 a0 a1 a2
 exact callF_flat h (fun _=>rfl) fz
theorem h_mrealm_order_l1 (a0:GOrder) (p1:Int) (p2:List Int):evK TT b_mrealm_order_l1 ⟨[(1,.ptr 1 0),(3,.own 20 0),(4,.nil),(10,.d (.sl (cM GChoice.cells a0.Choices))),(11,.d (.int .i64 (a0.Choices.length:Int))),(12,.d (.int .i64 p1))],[(1,some (.box (dcells (GOrder.cells a0)))),(20,some (.rows 0 3 1 (cM cI p2)))]⟩ (fun e s=>some (e,s)) = stepR (fun (w:Int × (List Int))=>(⟨[(1,.ptr 1 0),(3,.own 20 0),(4,.nil),(10,.d (.sl (cM GChoice.cells a0.Choices))),(11,.d (.int .i64 (a0.Choices.length:Int))),(12,.d (.int .i64 w.1))],[(1,some (.box (dcells (GOrder.cells a0)))),(20,some (.rows 0 3 1 (cM cI w.2)))]⟩ : St)) (fun (r:((List Int)) ⊕ Unit)=>Sum.elim (fun (z:(List Int))=>(((.exit 0),⟨[(1,.ptr 1 0),(3,.own 20 0),(4,.nil)],[(1,some (.box (dcells (GOrder.cells a0)))),(20,some (.rows 0 3 1 (cM cI z)))]⟩):Ex × St)) (fun (z:Unit)=>((.ret,⟨[(2,.d (.bool false))],[]⟩):Ex × St)) r) (mrealm_order_l1_s a0 p1 p2):=by
 simp -implicitDefEqProofs (decide:=true) (maxSteps:=2000000) only [b_mrealm_order_l1,mrealm_order_l1_s,↓k_mrealm_in,↓k_mrealm_rising,↓DN,↓DR,DQ,DP,↓reduceIte,Int.reduceToNat,Nat.reduceBEq,Nat.reduceAdd,Nat.reduceLT,Nat.reduceLeDiff,Nat.reduceEqDiff,Int.reduceEq,ne_eq,not_false_eq_true,reduceCtorEq,specL,specO,specP,beq_self_eq_true,List.length_cons,List.length_nil,cM_length,Bool.not_true,Bool.not_false,if_true,if_false,List.replicate_succ,List.replicate_zero,dcells_len,Option.bind_some,none_bind,Option.map_some,Option.map_none,Sum.elim_inl,Sum.elim_inr,sized_cI,sized_cB,sized_cS,sized_cL,sized_cK,stepR_none,stepR_inl,stepR_inr,elim_stepR,stepR_ite,stepR_bind,ite_bind,ite_map,Vm.bind_map,elim_bind,elim_map,Option.bind_assoc]
 all_goals try simp only [gIf_eq]
 all_goals try rfl
theorem e_mrealm_order_l1 {β:Type} (a0:GOrder) (p1:Int) (p2:List Int) (k:Ex→St→Option β):evK TT c_mrealm_order_l1 ⟨[(1,.ptr 1 0),(3,.own 20 0),(4,.nil),(10,.d (.sl (cM GChoice.cells a0.Choices))),(11,.d (.int .i64 (a0.Choices.length:Int))),(12,.d (.int .i64 p1))],[(1,some (.box (dcells (GOrder.cells a0)))),(20,some (.rows 0 3 1 (cM cI p2)))]⟩ k = (mrealm_order_l1 a0 p1 p2).bind (fun (r:((List Int)) ⊕ Unit)=>Sum.elim (fun (z:(List Int))=>k (.exit 0) ⟨[(1,.ptr 1 0),(3,.own 20 0),(4,.nil)],[(1,some (.box (dcells (GOrder.cells a0)))),(20,some (.rows 0 3 1 (cM cI z)))]⟩) (fun (z:Unit)=>k .ret ⟨[(2,.d (.bool false))],[]⟩) r):=by
 have hh:=fun (w:Int × (List Int))=>h_mrealm_order_l1 a0 w.1 w.2
 have h:=fun ho=>evK_loop (T:=TT) (k:=k) (c:=b_mrealm_order_l1) (step:=(fun (w:Int × (List Int))=>mrealm_order_l1_s a0 w.1 w.2)) _ _ ho hh (p1,p2)
 refine Eq.trans (h (fun r s e=>by have q:=congrArg Prod.fst e; rcases r with x | x <;> cases q)) ?_
 unfold mrealm_order_l1
 exact bind_congr' _ fun x=>by rcases x with x | x <;> rfl
theorem h_mrealm_order_l2 (a0:GOrder) (z7:(List Int)) (p9:Int) (p10:List Int):evK TT b_mrealm_order_l2 ⟨[(3,.own 20 0),(4,.own 37 0),(27,.d (.sl (cM GRule.cells a0.Rules))),(28,.d (.int .i64 (a0.Rules.length:Int))),(29,.d (.int .i64 p9))],[(20,some (.rows 0 3 1 (cM cI z7))),(37,some (.rows 0 3 1 (cM cI p10)))]⟩ (fun e s=>some (e,s)) = stepR (fun (w:Int × (List Int))=>(⟨[(3,.own 20 0),(4,.own 37 0),(27,.d (.sl (cM GRule.cells a0.Rules))),(28,.d (.int .i64 (a0.Rules.length:Int))),(29,.d (.int .i64 w.1))],[(20,some (.rows 0 3 1 (cM cI z7))),(37,some (.rows 0 3 1 (cM cI w.2)))]⟩ : St)) (fun (r:(List Int))=>(((.exit 2),⟨[(3,.own 20 0),(4,.own 37 0)],[(20,some (.rows 0 3 1 (cM cI z7))),(37,some (.rows 0 3 1 (cM cI r)))]⟩):Ex × St)) (mrealm_order_l2_s a0 z7 p9 p10):=by
 simp -implicitDefEqProofs (decide:=true) (maxSteps:=2000000) only [b_mrealm_order_l2,mrealm_order_l2_s,↓e_mrealm_order_l1,↓k_mrealm_in,↓k_mrealm_rising,↓DN,↓DR,DQ,DP,↓reduceIte,Int.reduceToNat,Nat.reduceBEq,Nat.reduceAdd,Nat.reduceLT,Nat.reduceLeDiff,Nat.reduceEqDiff,Int.reduceEq,ne_eq,not_false_eq_true,reduceCtorEq,specL,specO,specP,beq_self_eq_true,List.length_cons,List.length_nil,cM_length,Bool.not_true,Bool.not_false,if_true,if_false,List.replicate_succ,List.replicate_zero,dcells_len,Option.bind_some,none_bind,Option.map_some,Option.map_none,Sum.elim_inl,Sum.elim_inr,sized_cI,sized_cB,sized_cS,sized_cL,sized_cK,stepR_none,stepR_inl,stepR_inr,elim_stepR,stepR_ite,stepR_bind,ite_bind,ite_map,Vm.bind_map,elim_bind,elim_map,Option.bind_assoc]
 all_goals try simp only [gIf_eq]
 all_goals try rfl
theorem e_mrealm_order_l2 {β:Type} (a0:GOrder) (z7:(List Int)) (p9:Int) (p10:List Int) (k:Ex→St→Option β):evK TT c_mrealm_order_l2 ⟨[(3,.own 20 0),(4,.own 37 0),(27,.d (.sl (cM GRule.cells a0.Rules))),(28,.d (.int .i64 (a0.Rules.length:Int))),(29,.d (.int .i64 p9))],[(20,some (.rows 0 3 1 (cM cI z7))),(37,some (.rows 0 3 1 (cM cI p10)))]⟩ k = (mrealm_order_l2 a0 z7 p9 p10).bind (fun (r:(List Int))=>k (.exit 2) ⟨[(3,.own 20 0),(4,.own 37 0)],[(20,some (.rows 0 3 1 (cM cI z7))),(37,some (.rows 0 3 1 (cM cI r)))]⟩):=by
 have hh:=fun (w:Int × (List Int))=>h_mrealm_order_l2 a0 z7 w.1 w.2
 have h:=fun ho=>evK_loop (T:=TT) (k:=k) (c:=b_mrealm_order_l2) (step:=(fun (w:Int × (List Int))=>mrealm_order_l2_s a0 z7 w.1 w.2)) _ _ ho hh (p9,p10)
 refine Eq.trans (h (fun r s e=>by have q:=congrArg Prod.fst e; rcases r with x <;> cases q)) ?_
 unfold mrealm_order_l2
 exact bind_congr' _ fun x=>by rcases x with x <;> rfl
theorem c_mrealm_order (a0:GOrder):Vm.call TT 70 [.agg (GOrder.cells a0)] = (mrealm_order a0).map fun (r:Bool)=>.bool r:=by
 refine (call_eqF (show TT 70 = some (.code ⟨1,45,[.tmp 2],bd70,false,false⟩) from rfl) _ rfl rfl).trans ?_
 show evK TT bd70 ⟨[(0,aggD (GOrder.cells a0))],[]⟩ _ = _
 simp -implicitDefEqProofs (decide:=true) (maxSteps:=2000000) only [bd70,mrealm_order,↓e_mrealm_order_l1,↓e_mrealm_order_l2,↓k_mrealm_in,↓k_mrealm_rising,↓DN,↓DR,DQ,DP,↓reduceIte,Int.reduceToNat,Nat.reduceBEq,Nat.reduceAdd,Nat.reduceLT,Nat.reduceLeDiff,Nat.reduceEqDiff,Int.reduceEq,ne_eq,not_false_eq_true,reduceCtorEq,specL,specO,specP,beq_self_eq_true,List.length_cons,List.length_nil,cM_length,Bool.not_true,Bool.not_false,if_true,if_false,List.replicate_succ,List.replicate_zero,dcells_len,Option.bind_some,none_bind,Option.map_some,Option.map_none,Sum.elim_inl,Sum.elim_inr,sized_cI,sized_cB,sized_cS,sized_cL,sized_cK,stepR_none,stepR_inl,stepR_inr,elim_stepR,stepR_ite,stepR_bind,ite_bind,ite_map,Vm.bind_map,elim_bind,elim_map,Option.bind_assoc]
 all_goals try simp only [gIf_eq]
 all_goals try rfl
theorem k_mrealm_order {β:Type} (a0:GOrder) (d:Nat) (bl:List (Nat × Option Blk)) (fz:List (Nat × Option Blk)) (k:V→Option β) (kw:V→List (Nat × Option Blk)→Option β):callF TT d bl 70 [.agg (GOrder.cells a0)] fz k kw = (mrealm_order a0).bind fun (r:Bool)=>k (.d (.bool r)):=by
 have h:=c_mrealm_order a0
 exact callF_flat h (fun _=>rfl) fz
theorem c_mrealm_Check_4_s1 (a0:Int) (a1:GRealm):Vm.call TT 69 [.int .i64 a0,.ptr (GRealm.cells a1) 0] = (mrealm_Check_4_s1 a0 a1).map fun (r:Bool)=>.bool r:=by
 refine (call_eqF (show TT 69 = some (.code ⟨2,10,[.tmp 3],bd69,false,false⟩) from rfl) _ rfl rfl).trans ?_
 show evK TT bd69 ⟨[(0,.d (.int .i64 a0)),(1,.d (.ptr (GRealm.cells a1) 0))],[]⟩ _ = _
 simp -implicitDefEqProofs (decide:=true) (maxSteps:=2000000) only [bd69,mrealm_Check_4_s1,↓k_mrealm_order,↓DN,↓DR,DQ,DP,↓reduceIte,Int.reduceToNat,Nat.reduceBEq,Nat.reduceAdd,Nat.reduceLT,Nat.reduceLeDiff,Nat.reduceEqDiff,Int.reduceEq,ne_eq,not_false_eq_true,reduceCtorEq,specL,specO,specP,beq_self_eq_true,List.length_cons,List.length_nil,cM_length,Bool.not_true,Bool.not_false,if_true,if_false,List.replicate_succ,List.replicate_zero,dcells_len,Option.bind_some,none_bind,Option.map_some,Option.map_none,Sum.elim_inl,Sum.elim_inr,sized_cI,sized_cB,sized_cS,sized_cL,sized_cK,stepR_none,stepR_inl,stepR_inr,elim_stepR,stepR_ite,stepR_bind,ite_bind,ite_map,Vm.bind_map,elim_bind,elim_map,Option.bind_assoc]
 all_goals try simp only [gIf_eq]
 all_goals try rfl
theorem k_mrealm_Check_4_s1 {β:Type} (a0:Int) (a1:GRealm) (d:Nat) (bl:List (Nat × Option Blk)) (fz:List (Nat × Option Blk)) (k:V→Option β) (kw:V→List (Nat × Option Blk)→Option β):callF TT d bl 69 [.int .i64 a0,.ptr (GRealm.cells a1) 0] fz k kw = (mrealm_Check_4_s1 a0 a1).bind fun (r:Bool)=>k (.d (.bool r)):=by
 have h:=c_mrealm_Check_4_s1 a0 a1
 exact callF_flat h (fun _=>rfl) fz
theorem h_mrealm_fits_s4_l1 (a0:List ByteArray) (a2:GRealm) (p1:Int):evK TT b_mrealm_fits_l1 ⟨[(0,.d (.sl (cM cS a0))),(2,.d (.fn 69 [.ptr (GRealm.cells a2) 0])),(14,.d (.int .i64 (a0.length:Int))),(15,.d (.int .i64 p1))],[]⟩ (fun e s=>some (e,s)) = stepR (fun (w:Int)=>(⟨[(0,.d (.sl (cM cS a0))),(2,.d (.fn 69 [.ptr (GRealm.cells a2) 0])),(14,.d (.int .i64 (a0.length:Int))),(15,.d (.int .i64 w))],[]⟩ : St)) (fun (r:Unit ⊕ Int)=>Sum.elim (fun (z:Unit)=>(((.exit 0),⟨[],[]⟩):Ex × St)) (fun (z:Int)=>((.ret,⟨[(6,.d (.int .i64 z))],[]⟩):Ex × St)) r) (mrealm_fits_s4_l1_s a0 a2 p1):=by
 simp -implicitDefEqProofs (decide:=true) (maxSteps:=2000000) only [b_mrealm_fits_l1,mrealm_fits_s4_l1_s,↓k_mrealm_Check_4_s1,↓k_mrealm_named,↓DN,↓DR,DQ,DP,↓reduceIte,Int.reduceToNat,Nat.reduceBEq,Nat.reduceAdd,Nat.reduceLT,Nat.reduceLeDiff,Nat.reduceEqDiff,Int.reduceEq,ne_eq,not_false_eq_true,reduceCtorEq,specL,specO,specP,beq_self_eq_true,List.length_cons,List.length_nil,cM_length,Bool.not_true,Bool.not_false,if_true,if_false,List.replicate_succ,List.replicate_zero,dcells_len,Option.bind_some,none_bind,Option.map_some,Option.map_none,Sum.elim_inl,Sum.elim_inr,sized_cI,sized_cB,sized_cS,sized_cL,sized_cK,stepR_none,stepR_inl,stepR_inr,elim_stepR,stepR_ite,stepR_bind,ite_bind,ite_map,Vm.bind_map,elim_bind,elim_map,Option.bind_assoc]
 all_goals try simp only [gIf_eq]
 all_goals try rfl
theorem e_mrealm_fits_s4_l1 {β:Type} (a0:List ByteArray) (a2:GRealm) (p1:Int) (k:Ex→St→Option β):evK TT c_mrealm_fits_l1 ⟨[(0,.d (.sl (cM cS a0))),(2,.d (.fn 69 [.ptr (GRealm.cells a2) 0])),(14,.d (.int .i64 (a0.length:Int))),(15,.d (.int .i64 p1))],[]⟩ k = (mrealm_fits_s4_l1 a0 a2 p1).bind (fun (r:Unit ⊕ Int)=>Sum.elim (fun (z:Unit)=>k (.exit 0) ⟨[],[]⟩) (fun (z:Int)=>k .ret ⟨[(6,.d (.int .i64 z))],[]⟩) r):=by
 have hh:=fun (w:Int)=>h_mrealm_fits_s4_l1 a0 a2 w
 have h:=fun ho=>evK_loop (T:=TT) (k:=k) (c:=b_mrealm_fits_l1) (step:=(fun (w:Int)=>mrealm_fits_s4_l1_s a0 a2 w)) _ _ ho hh p1
 refine Eq.trans (h (fun r s e=>by have q:=congrArg Prod.fst e; rcases r with x | x <;> cases q)) ?_
 unfold mrealm_fits_s4_l1
 exact bind_congr' _ fun x=>by rcases x with x | x <;> rfl
theorem c_mrealm_fits_s4 (a0:List ByteArray) (a1:Int) (a2:GRealm):Vm.call TT 63 [.sl (cM cS a0),.int .i64 a1,.fn 69 [.ptr (GRealm.cells a2) 0]] = (mrealm_fits_s4 a0 a1 a2).map fun (r:Int)=>.int .i64 r:=by
 refine (call_eqF (show TT 63 = some (.code ⟨3,29,[.tmp 6],bd63,false,false⟩) from rfl) _ rfl rfl).trans ?_
 show evK TT bd63 ⟨[(0,.d (.sl (cM cS a0))),(1,.d (.int .i64 a1)),(2,.d (.fn 69 [.ptr (GRealm.cells a2) 0]))],[]⟩ _ = _
 simp -implicitDefEqProofs (decide:=true) (maxSteps:=2000000) only [bd63,mrealm_fits_s4,↓e_mrealm_fits_s4_l1,↓k_mrealm_Check_4_s1,↓k_mrealm_named,↓DN,↓DR,DQ,DP,↓reduceIte,Int.reduceToNat,Nat.reduceBEq,Nat.reduceAdd,Nat.reduceLT,Nat.reduceLeDiff,Nat.reduceEqDiff,Int.reduceEq,ne_eq,not_false_eq_true,reduceCtorEq,specL,specO,specP,beq_self_eq_true,List.length_cons,List.length_nil,cM_length,Bool.not_true,Bool.not_false,if_true,if_false,List.replicate_succ,List.replicate_zero,dcells_len,Option.bind_some,none_bind,Option.map_some,Option.map_none,Sum.elim_inl,Sum.elim_inr,sized_cI,sized_cB,sized_cS,sized_cL,sized_cK,stepR_none,stepR_inl,stepR_inr,elim_stepR,stepR_ite,stepR_bind,ite_bind,ite_map,Vm.bind_map,elim_bind,elim_map,Option.bind_assoc]
 all_goals try simp only [gIf_eq]
 all_goals try rfl
theorem k_mrealm_fits_s4 {β:Type} (a0:List ByteArray) (a1:Int) (a2:GRealm) (d:Nat) (bl:List (Nat × Option Blk)) (fz:List (Nat × Option Blk)) (k:V→Option β) (kw:V→List (Nat × Option Blk)→Option β):callF TT d bl 63 [.sl (cM cS a0),.int .i64 a1,.fn 69 [.ptr (GRealm.cells a2) 0]] fz k kw = (mrealm_fits_s4 a0 a1 a2).bind fun (r:Int)=>k (.d (.int .i64 r)):=by
 have h:=c_mrealm_fits_s4 a0 a1 a2
 exact callF_flat h (fun _=>rfl) fz
theorem h_mrealm_usances_l1 (a0:GRealm) (p1:Int) (x2:GUsance) (p5:Int):evK TT b_mrealm_usances_l1 ⟨[(1,.ptr 1 0),(4,.ptr 4 0),(12,.d (.sl (cM GUsance.cells a0.Usances))),(13,.d (.int .i64 (a0.Usances.length:Int))),(14,.d (.int .i64 p1)),(48,.d (.sl (cM GUsance.cells (sliceL a0.Usances 0 p1)))),(49,.d (.int .i64 ((sliceL a0.Usances 0 p1).length:Int))),(50,.d (.int .i64 p5))],[(1,some (.box (dcells (GRealm.cells a0)))),(4,some (.box (dcells (GUsance.cells x2))))]⟩ (fun e s=>some (e,s)) = stepR (fun (w:Int)=>(⟨[(1,.ptr 1 0),(4,.ptr 4 0),(12,.d (.sl (cM GUsance.cells a0.Usances))),(13,.d (.int .i64 (a0.Usances.length:Int))),(14,.d (.int .i64 p1)),(48,.d (.sl (cM GUsance.cells (sliceL a0.Usances 0 p1)))),(49,.d (.int .i64 ((sliceL a0.Usances 0 p1).length:Int))),(50,.d (.int .i64 w))],[(1,some (.box (dcells (GRealm.cells a0)))),(4,some (.box (dcells (GUsance.cells x2))))]⟩ : St)) (fun (r:Unit ⊕ Unit)=>Sum.elim (fun (z:Unit)=>(((.exit 2),⟨[(1,.ptr 1 0),(12,.d (.sl (cM GUsance.cells a0.Usances))),(13,.d (.int .i64 (a0.Usances.length:Int))),(14,.d (.int .i64 p1))],[(1,some (.box (dcells (GRealm.cells a0))))]⟩):Ex × St)) (fun (z:Unit)=>((.ret,⟨[(2,.d (.int .i64 5))],[]⟩):Ex × St)) r) (mrealm_usances_l1_s a0 p1 x2 p5):=by
 simp -implicitDefEqProofs (decide:=true) (maxSteps:=2000000) only [b_mrealm_usances_l1,mrealm_usances_l1_s,↓k_mrealm_in,↓DN,↓DR,DQ,DP,↓reduceIte,Int.reduceToNat,Nat.reduceBEq,Nat.reduceAdd,Nat.reduceLT,Nat.reduceLeDiff,Nat.reduceEqDiff,Int.reduceEq,ne_eq,not_false_eq_true,reduceCtorEq,specL,specO,specP,beq_self_eq_true,List.length_cons,List.length_nil,cM_length,Bool.not_true,Bool.not_false,if_true,if_false,List.replicate_succ,List.replicate_zero,dcells_len,Option.bind_some,none_bind,Option.map_some,Option.map_none,Sum.elim_inl,Sum.elim_inr,sized_cI,sized_cB,sized_cS,sized_cL,sized_cK,stepR_none,stepR_inl,stepR_inr,elim_stepR,stepR_ite,stepR_bind,ite_bind,ite_map,Vm.bind_map,elim_bind,elim_map,Option.bind_assoc]
 all_goals try simp only [gIf_eq]
 all_goals try rfl
theorem e_mrealm_usances_l1 {β:Type} (a0:GRealm) (p1:Int) (x2:GUsance) (p5:Int) (k:Ex→St→Option β):evK TT c_mrealm_usances_l1 ⟨[(1,.ptr 1 0),(4,.ptr 4 0),(12,.d (.sl (cM GUsance.cells a0.Usances))),(13,.d (.int .i64 (a0.Usances.length:Int))),(14,.d (.int .i64 p1)),(48,.d (.sl (cM GUsance.cells (sliceL a0.Usances 0 p1)))),(49,.d (.int .i64 ((sliceL a0.Usances 0 p1).length:Int))),(50,.d (.int .i64 p5))],[(1,some (.box (dcells (GRealm.cells a0)))),(4,some (.box (dcells (GUsance.cells x2))))]⟩ k = (mrealm_usances_l1 a0 p1 x2 p5).bind (fun (r:Unit ⊕ Unit)=>Sum.elim (fun (z:Unit)=>k (.exit 2) ⟨[(1,.ptr 1 0),(12,.d (.sl (cM GUsance.cells a0.Usances))),(13,.d (.int .i64 (a0.Usances.length:Int))),(14,.d (.int .i64 p1))],[(1,some (.box (dcells (GRealm.cells a0))))]⟩) (fun (z:Unit)=>k .ret ⟨[(2,.d (.int .i64 5))],[]⟩) r):=by
 have hh:=fun (w:Int)=>h_mrealm_usances_l1 a0 p1 x2 w
 have h:=fun ho=>evK_loop (T:=TT) (k:=k) (c:=b_mrealm_usances_l1) (step:=(fun (w:Int)=>mrealm_usances_l1_s a0 p1 x2 w)) _ _ ho hh p5
 refine Eq.trans (h (fun r s e=>by have q:=congrArg Prod.fst e; rcases r with x | x <;> cases q)) ?_
 unfold mrealm_usances_l1
 exact bind_congr' _ fun x=>by rcases x with x | x <;> rfl
theorem h_mrealm_usances_l2 (a0:GRealm) (p1:Int):evK TT b_mrealm_usances_l2 ⟨[(1,.ptr 1 0),(12,.d (.sl (cM GUsance.cells a0.Usances))),(13,.d (.int .i64 (a0.Usances.length:Int))),(14,.d (.int .i64 p1))],[(1,some (.box (dcells (GRealm.cells a0))))]⟩ (fun e s=>some (e,s)) = stepR (fun (w:Int)=>(⟨[(1,.ptr 1 0),(12,.d (.sl (cM GUsance.cells a0.Usances))),(13,.d (.int .i64 (a0.Usances.length:Int))),(14,.d (.int .i64 w))],[(1,some (.box (dcells (GRealm.cells a0))))]⟩ : St)) (fun (r:Unit ⊕ Int)=>Sum.elim (fun (z:Unit)=>(((.exit 0),⟨[],[]⟩):Ex × St)) (fun (z:Int)=>((.ret,⟨[(2,.d (.int .i64 z))],[]⟩):Ex × St)) r) (mrealm_usances_l2_s a0 p1):=by
 simp -implicitDefEqProofs (decide:=true) (maxSteps:=2000000) only [b_mrealm_usances_l2,mrealm_usances_l2_s,↓e_mrealm_usances_l1,↓k_mrealm_in,↓DN,↓DR,DQ,DP,↓reduceIte,Int.reduceToNat,Nat.reduceBEq,Nat.reduceAdd,Nat.reduceLT,Nat.reduceLeDiff,Nat.reduceEqDiff,Int.reduceEq,ne_eq,not_false_eq_true,reduceCtorEq,specL,specO,specP,beq_self_eq_true,List.length_cons,List.length_nil,cM_length,Bool.not_true,Bool.not_false,if_true,if_false,List.replicate_succ,List.replicate_zero,dcells_len,Option.bind_some,none_bind,Option.map_some,Option.map_none,Sum.elim_inl,Sum.elim_inr,sized_cI,sized_cB,sized_cS,sized_cL,sized_cK,stepR_none,stepR_inl,stepR_inr,elim_stepR,stepR_ite,stepR_bind,ite_bind,ite_map,Vm.bind_map,elim_bind,elim_map,Option.bind_assoc]
 all_goals try simp only [gIf_eq]
 all_goals try rfl
theorem e_mrealm_usances_l2 {β:Type} (a0:GRealm) (p1:Int) (k:Ex→St→Option β):evK TT c_mrealm_usances_l2 ⟨[(1,.ptr 1 0),(12,.d (.sl (cM GUsance.cells a0.Usances))),(13,.d (.int .i64 (a0.Usances.length:Int))),(14,.d (.int .i64 p1))],[(1,some (.box (dcells (GRealm.cells a0))))]⟩ k = (mrealm_usances_l2 a0 p1).bind (fun (r:Unit ⊕ Int)=>Sum.elim (fun (z:Unit)=>k (.exit 0) ⟨[],[]⟩) (fun (z:Int)=>k .ret ⟨[(2,.d (.int .i64 z))],[]⟩) r):=by
 have hh:=fun (w:Int)=>h_mrealm_usances_l2 a0 w
 have h:=fun ho=>evK_loop (T:=TT) (k:=k) (c:=b_mrealm_usances_l2) (step:=(fun (w:Int)=>mrealm_usances_l2_s a0 w)) _ _ ho hh p1
 refine Eq.trans (h (fun r s e=>by have q:=congrArg Prod.fst e; rcases r with x | x <;> cases q)) ?_
 unfold mrealm_usances_l2
 exact bind_congr' _ fun x=>by rcases x with x | x <;> rfl
theorem c_mrealm_usances (a0:GRealm):Vm.call TT 71 [.agg (GRealm.cells a0)] = (mrealm_usances a0).map fun (r:Int)=>.int .i64 r:=by
 refine (call_eqF (show TT 71 = some (.code ⟨1,68,[.tmp 2],bd71,false,false⟩) from rfl) _ rfl rfl).trans ?_
 show evK TT bd71 ⟨[(0,aggD (GRealm.cells a0))],[]⟩ _ = _
 simp -implicitDefEqProofs (decide:=true) (maxSteps:=2000000) only [bd71,mrealm_usances,↓e_mrealm_usances_l1,↓e_mrealm_usances_l2,↓k_mrealm_in,↓DN,↓DR,DQ,DP,↓reduceIte,Int.reduceToNat,Nat.reduceBEq,Nat.reduceAdd,Nat.reduceLT,Nat.reduceLeDiff,Nat.reduceEqDiff,Int.reduceEq,ne_eq,not_false_eq_true,reduceCtorEq,specL,specO,specP,beq_self_eq_true,List.length_cons,List.length_nil,cM_length,Bool.not_true,Bool.not_false,if_true,if_false,List.replicate_succ,List.replicate_zero,dcells_len,Option.bind_some,none_bind,Option.map_some,Option.map_none,Sum.elim_inl,Sum.elim_inr,sized_cI,sized_cB,sized_cS,sized_cL,sized_cK,stepR_none,stepR_inl,stepR_inr,elim_stepR,stepR_ite,stepR_bind,ite_bind,ite_map,Vm.bind_map,elim_bind,elim_map,Option.bind_assoc]
 all_goals try simp only [gIf_eq]
 all_goals try rfl
theorem k_mrealm_usances {β:Type} (a0:GRealm) (d:Nat) (bl:List (Nat × Option Blk)) (fz:List (Nat × Option Blk)) (k:V→Option β) (kw:V→List (Nat × Option Blk)→Option β):callF TT d bl 71 [.agg (GRealm.cells a0)] fz k kw = (mrealm_usances a0).bind fun (r:Int)=>k (.d (.int .i64 r)):=by
 have h:=c_mrealm_usances a0
 exact callF_flat h (fun _=>rfl) fz
theorem h_mrealm_rest_l1 (a0:GRealm) (p1:Int):evK TT b_mrealm_rest_l1 ⟨[(1,.ptr 1 0),(12,.d (.sl (cM GRate.cells a0.Rates))),(13,.d (.int .i64 (a0.Rates.length:Int))),(14,.d (.int .i64 p1))],[(1,some (.box (dcells (GRealm.cells a0))))]⟩ (fun e s=>some (e,s)) = stepR (fun (w:Int)=>(⟨[(1,.ptr 1 0),(12,.d (.sl (cM GRate.cells a0.Rates))),(13,.d (.int .i64 (a0.Rates.length:Int))),(14,.d (.int .i64 w))],[(1,some (.box (dcells (GRealm.cells a0))))]⟩ : St)) (fun (r:Unit ⊕ Unit)=>Sum.elim (fun (z:Unit)=>(((.exit 0),⟨[(1,.ptr 1 0)],[(1,some (.box (dcells (GRealm.cells a0))))]⟩):Ex × St)) (fun (z:Unit)=>((.ret,⟨[(2,.d (.int .i64 1))],[]⟩):Ex × St)) r) (mrealm_rest_l1_s a0 p1):=by
 simp -implicitDefEqProofs (decide:=true) (maxSteps:=2000000) only [b_mrealm_rest_l1,mrealm_rest_l1_s,↓k_mrealm_in,↓DN,↓DR,DQ,DP,↓reduceIte,Int.reduceToNat,Nat.reduceBEq,Nat.reduceAdd,Nat.reduceLT,Nat.reduceLeDiff,Nat.reduceEqDiff,Int.reduceEq,ne_eq,not_false_eq_true,reduceCtorEq,specL,specO,specP,beq_self_eq_true,List.length_cons,List.length_nil,cM_length,Bool.not_true,Bool.not_false,if_true,if_false,List.replicate_succ,List.replicate_zero,dcells_len,Option.bind_some,none_bind,Option.map_some,Option.map_none,Sum.elim_inl,Sum.elim_inr,sized_cI,sized_cB,sized_cS,sized_cL,sized_cK,stepR_none,stepR_inl,stepR_inr,elim_stepR,stepR_ite,stepR_bind,ite_bind,ite_map,Vm.bind_map,elim_bind,elim_map,Option.bind_assoc]
 all_goals try simp only [gIf_eq]
 all_goals try rfl
theorem e_mrealm_rest_l1 {β:Type} (a0:GRealm) (p1:Int) (k:Ex→St→Option β):evK TT c_mrealm_rest_l1 ⟨[(1,.ptr 1 0),(12,.d (.sl (cM GRate.cells a0.Rates))),(13,.d (.int .i64 (a0.Rates.length:Int))),(14,.d (.int .i64 p1))],[(1,some (.box (dcells (GRealm.cells a0))))]⟩ k = (mrealm_rest_l1 a0 p1).bind (fun (r:Unit ⊕ Unit)=>Sum.elim (fun (z:Unit)=>k (.exit 0) ⟨[(1,.ptr 1 0)],[(1,some (.box (dcells (GRealm.cells a0))))]⟩) (fun (z:Unit)=>k .ret ⟨[(2,.d (.int .i64 1))],[]⟩) r):=by
 have hh:=fun (w:Int)=>h_mrealm_rest_l1 a0 w
 have h:=fun ho=>evK_loop (T:=TT) (k:=k) (c:=b_mrealm_rest_l1) (step:=(fun (w:Int)=>mrealm_rest_l1_s a0 w)) _ _ ho hh p1
 refine Eq.trans (h (fun r s e=>by have q:=congrArg Prod.fst e; rcases r with x | x <;> cases q)) ?_
 unfold mrealm_rest_l1
 exact bind_congr' _ fun x=>by rcases x with x | x <;> rfl
theorem h_mrealm_rest_l2 (a0:GRealm) (p11:Int):evK TT b_mrealm_rest_l2 ⟨[(1,.ptr 1 0),(67,.d (.sl (cM GHalt.cells a0.Halts))),(68,.d (.int .i64 (a0.Halts.length:Int))),(69,.d (.int .i64 p11))],[(1,some (.box (dcells (GRealm.cells a0))))]⟩ (fun e s=>some (e,s)) = stepR (fun (w:Int)=>(⟨[(1,.ptr 1 0),(67,.d (.sl (cM GHalt.cells a0.Halts))),(68,.d (.int .i64 (a0.Halts.length:Int))),(69,.d (.int .i64 w))],[(1,some (.box (dcells (GRealm.cells a0))))]⟩ : St)) (fun (r:Unit ⊕ Unit)=>Sum.elim (fun (z:Unit)=>(((.exit 2),⟨[],[]⟩):Ex × St)) (fun (z:Unit)=>((.ret,⟨[(2,.d (.int .i64 1))],[]⟩):Ex × St)) r) (mrealm_rest_l2_s a0 p11):=by
 simp -implicitDefEqProofs (decide:=true) (maxSteps:=2000000) only [b_mrealm_rest_l2,mrealm_rest_l2_s,↓e_mrealm_rest_l1,↓k_mrealm_in,↓DN,↓DR,DQ,DP,↓reduceIte,Int.reduceToNat,Nat.reduceBEq,Nat.reduceAdd,Nat.reduceLT,Nat.reduceLeDiff,Nat.reduceEqDiff,Int.reduceEq,ne_eq,not_false_eq_true,reduceCtorEq,specL,specO,specP,beq_self_eq_true,List.length_cons,List.length_nil,cM_length,Bool.not_true,Bool.not_false,if_true,if_false,List.replicate_succ,List.replicate_zero,dcells_len,Option.bind_some,none_bind,Option.map_some,Option.map_none,Sum.elim_inl,Sum.elim_inr,sized_cI,sized_cB,sized_cS,sized_cL,sized_cK,stepR_none,stepR_inl,stepR_inr,elim_stepR,stepR_ite,stepR_bind,ite_bind,ite_map,Vm.bind_map,elim_bind,elim_map,Option.bind_assoc]
 all_goals try simp only [gIf_eq]
 all_goals try rfl
theorem e_mrealm_rest_l2 {β:Type} (a0:GRealm) (p11:Int) (k:Ex→St→Option β):evK TT c_mrealm_rest_l2 ⟨[(1,.ptr 1 0),(67,.d (.sl (cM GHalt.cells a0.Halts))),(68,.d (.int .i64 (a0.Halts.length:Int))),(69,.d (.int .i64 p11))],[(1,some (.box (dcells (GRealm.cells a0))))]⟩ k = (mrealm_rest_l2 a0 p11).bind (fun (r:Unit ⊕ Unit)=>Sum.elim (fun (z:Unit)=>k (.exit 2) ⟨[],[]⟩) (fun (z:Unit)=>k .ret ⟨[(2,.d (.int .i64 1))],[]⟩) r):=by
 have hh:=fun (w:Int)=>h_mrealm_rest_l2 a0 w
 have h:=fun ho=>evK_loop (T:=TT) (k:=k) (c:=b_mrealm_rest_l2) (step:=(fun (w:Int)=>mrealm_rest_l2_s a0 w)) _ _ ho hh p11
 refine Eq.trans (h (fun r s e=>by have q:=congrArg Prod.fst e; rcases r with x | x <;> cases q)) ?_
 unfold mrealm_rest_l2
 exact bind_congr' _ fun x=>by rcases x with x | x <;> rfl
theorem c_mrealm_rest (a0:GRealm):Vm.call TT 72 [.agg (GRealm.cells a0)] = (mrealm_rest a0).map fun (r:Int)=>.int .i64 r:=by
 refine (call_eqF (show TT 72 = some (.code ⟨1,98,[.tmp 2],bd72,false,false⟩) from rfl) _ rfl rfl).trans ?_
 show evK TT bd72 ⟨[(0,aggD (GRealm.cells a0))],[]⟩ _ = _
 simp -implicitDefEqProofs (decide:=true) (maxSteps:=2000000) only [bd72,mrealm_rest,↓e_mrealm_rest_l1,↓e_mrealm_rest_l2,↓k_mrealm_in,↓DN,↓DR,DQ,DP,↓reduceIte,Int.reduceToNat,Nat.reduceBEq,Nat.reduceAdd,Nat.reduceLT,Nat.reduceLeDiff,Nat.reduceEqDiff,Int.reduceEq,ne_eq,not_false_eq_true,reduceCtorEq,specL,specO,specP,beq_self_eq_true,List.length_cons,List.length_nil,cM_length,Bool.not_true,Bool.not_false,if_true,if_false,List.replicate_succ,List.replicate_zero,dcells_len,Option.bind_some,none_bind,Option.map_some,Option.map_none,Sum.elim_inl,Sum.elim_inr,sized_cI,sized_cB,sized_cS,sized_cL,sized_cK,stepR_none,stepR_inl,stepR_inr,elim_stepR,stepR_ite,stepR_bind,ite_bind,ite_map,Vm.bind_map,elim_bind,elim_map,Option.bind_assoc]
 all_goals try simp only [gIf_eq]
 all_goals try rfl
theorem k_mrealm_rest {β:Type} (a0:GRealm) (d:Nat) (bl:List (Nat × Option Blk)) (fz:List (Nat × Option Blk)) (k:V→Option β) (kw:V→List (Nat × Option Blk)→Option β):callF TT d bl 72 [.agg (GRealm.cells a0)] fz k kw = (mrealm_rest a0).bind fun (r:Int)=>k (.d (.int .i64 r)):=by
 have h:=c_mrealm_rest a0
 exact callF_flat h (fun _=>rfl) fz
theorem h_mrealm_Check_l1 (a0:GRealm) (r1:(List ByteArray) × (List ByteArray) × (List ByteArray)) (p4:Int):evK TT b_mrealm_Check_l1 ⟨[(1,.d (.ptr (GRealm.cells a0) 0)),(4,.d (.sl (cM cS r1.2.1))),(5,.d (.sl (cM cS r1.2.2))),(36,.d (.sl (cM GGroup.cells a0.Groups))),(37,.d (.int .i64 (a0.Groups.length:Int))),(38,.d (.int .i64 p4))],[]⟩ (fun e s=>some (e,s)) = stepR (fun (w:Int)=>(⟨[(1,.d (.ptr (GRealm.cells a0) 0)),(4,.d (.sl (cM cS r1.2.1))),(5,.d (.sl (cM cS r1.2.2))),(36,.d (.sl (cM GGroup.cells a0.Groups))),(37,.d (.int .i64 (a0.Groups.length:Int))),(38,.d (.int .i64 w))],[]⟩ : St)) (fun (r:Unit ⊕ Unit)=>Sum.elim (fun (z:Unit)=>(((.exit 0),⟨[(1,.d (.ptr (GRealm.cells a0) 0)),(4,.d (.sl (cM cS r1.2.1))),(5,.d (.sl (cM cS r1.2.2)))],[]⟩):Ex × St)) (fun (z:Unit)=>((.ret,⟨[(2,.d (.int .i64 1))],[]⟩):Ex × St)) r) (mrealm_Check_l1_s a0 r1 p4):=by
 simp -implicitDefEqProofs (decide:=true) (maxSteps:=2000000) only [b_mrealm_Check_l1,mrealm_Check_l1_s,↓k_mrealm_names,↓k_mrealm_fits_s1,↓k_mrealm_fits_s2,↓k_mrealm_fits_s3,↓k_mrealm_fits_s4,↓k_mrealm_in,↓k_mrealm_usances,↓k_mrealm_rest,↓DN,↓DR,DQ,DP,↓reduceIte,Int.reduceToNat,Nat.reduceBEq,Nat.reduceAdd,Nat.reduceLT,Nat.reduceLeDiff,Nat.reduceEqDiff,Int.reduceEq,ne_eq,not_false_eq_true,reduceCtorEq,specL,specO,specP,beq_self_eq_true,List.length_cons,List.length_nil,cM_length,Bool.not_true,Bool.not_false,if_true,if_false,List.replicate_succ,List.replicate_zero,dcells_len,Option.bind_some,none_bind,Option.map_some,Option.map_none,Sum.elim_inl,Sum.elim_inr,sized_cI,sized_cB,sized_cS,sized_cL,sized_cK,stepR_none,stepR_inl,stepR_inr,elim_stepR,stepR_ite,stepR_bind,ite_bind,ite_map,Vm.bind_map,elim_bind,elim_map,Option.bind_assoc]
 all_goals try simp only [gIf_eq]
 all_goals try rfl
theorem e_mrealm_Check_l1 {β:Type} (a0:GRealm) (r1:(List ByteArray) × (List ByteArray) × (List ByteArray)) (p4:Int) (k:Ex→St→Option β):evK TT c_mrealm_Check_l1 ⟨[(1,.d (.ptr (GRealm.cells a0) 0)),(4,.d (.sl (cM cS r1.2.1))),(5,.d (.sl (cM cS r1.2.2))),(36,.d (.sl (cM GGroup.cells a0.Groups))),(37,.d (.int .i64 (a0.Groups.length:Int))),(38,.d (.int .i64 p4))],[]⟩ k = (mrealm_Check_l1 a0 r1 p4).bind (fun (r:Unit ⊕ Unit)=>Sum.elim (fun (z:Unit)=>k (.exit 0) ⟨[(1,.d (.ptr (GRealm.cells a0) 0)),(4,.d (.sl (cM cS r1.2.1))),(5,.d (.sl (cM cS r1.2.2)))],[]⟩) (fun (z:Unit)=>k .ret ⟨[(2,.d (.int .i64 1))],[]⟩) r):=by
 have hh:=fun (w:Int)=>h_mrealm_Check_l1 a0 r1 w
 have h:=fun ho=>evK_loop (T:=TT) (k:=k) (c:=b_mrealm_Check_l1) (step:=(fun (w:Int)=>mrealm_Check_l1_s a0 r1 w)) _ _ ho hh p4
 refine Eq.trans (h (fun r s e=>by have q:=congrArg Prod.fst e; rcases r with x | x <;> cases q)) ?_
 unfold mrealm_Check_l1
 exact bind_congr' _ fun x=>by rcases x with x | x <;> rfl
theorem c_mrealm_Check (a0:GRealm):Vm.call TT 41 [.agg (GRealm.cells a0)] = (mrealm_Check a0).map fun (r:Int)=>.int .i64 r:=by
 refine (call_eqF (show TT 41 = some (.code ⟨1,66,[.tmp 2],bd41,false,false⟩) from rfl) _ rfl rfl).trans ?_
 show evK TT bd41 ⟨[(0,aggD (GRealm.cells a0))],[]⟩ _ = _
 simp -implicitDefEqProofs (decide:=true) (maxSteps:=2000000) only [bd41,mrealm_Check,↓e_mrealm_Check_l1,↓k_mrealm_names,↓k_mrealm_fits_s1,↓k_mrealm_fits_s2,↓k_mrealm_fits_s3,↓k_mrealm_fits_s4,↓k_mrealm_in,↓k_mrealm_usances,↓k_mrealm_rest,↓DN,↓DR,DQ,DP,↓reduceIte,Int.reduceToNat,Nat.reduceBEq,Nat.reduceAdd,Nat.reduceLT,Nat.reduceLeDiff,Nat.reduceEqDiff,Int.reduceEq,ne_eq,not_false_eq_true,reduceCtorEq,specL,specO,specP,beq_self_eq_true,List.length_cons,List.length_nil,cM_length,Bool.not_true,Bool.not_false,if_true,if_false,List.replicate_succ,List.replicate_zero,dcells_len,Option.bind_some,none_bind,Option.map_some,Option.map_none,Sum.elim_inl,Sum.elim_inr,sized_cI,sized_cB,sized_cS,sized_cL,sized_cK,stepR_none,stepR_inl,stepR_inr,elim_stepR,stepR_ite,stepR_bind,ite_bind,ite_map,Vm.bind_map,elim_bind,elim_map,Option.bind_assoc]
 all_goals try simp only [gIf_eq]
 all_goals try rfl
theorem k_mrealm_Check {β:Type} (a0:GRealm) (d:Nat) (bl:List (Nat × Option Blk)) (fz:List (Nat × Option Blk)) (k:V→Option β) (kw:V→List (Nat × Option Blk)→Option β):callF TT d bl 41 [.agg (GRealm.cells a0)] fz k kw = (mrealm_Check a0).bind fun (r:Int)=>k (.d (.int .i64 r)):=by
 have h:=c_mrealm_Check a0
 exact callF_flat h (fun _=>rfl) fz
theorem h_mgraph_right_l1 (a0:Int) (a1:List GArr2I) (p1:Int):evK TT b_mgraph_right_l1 ⟨[(0,.d (.int .i64 a0)),(18,.d (.sl (cM GArr2I.cells a1))),(19,.d (.int .i64 (a1.length:Int))),(20,.d (.int .i64 p1))],[]⟩ (fun e s=>some (e,s)) = stepR (fun (w:Int)=>(⟨[(0,.d (.int .i64 a0)),(18,.d (.sl (cM GArr2I.cells a1))),(19,.d (.int .i64 (a1.length:Int))),(20,.d (.int .i64 w))],[]⟩ : St)) (fun (r:Unit ⊕ Unit)=>Sum.elim (fun (z:Unit)=>(((.exit 0),⟨[],[]⟩):Ex × St)) (fun (z:Unit)=>((.ret,⟨[(4,.d (.bool false))],[]⟩):Ex × St)) r) (mgraph_right_l1_s a0 a1 p1):=by
 simp -implicitDefEqProofs (decide:=true) (maxSteps:=2000000) only [b_mgraph_right_l1,mgraph_right_l1_s,↓DN,↓DR,DQ,DP,↓reduceIte,Int.reduceToNat,Nat.reduceBEq,Nat.reduceAdd,Nat.reduceLT,Nat.reduceLeDiff,Nat.reduceEqDiff,Int.reduceEq,ne_eq,not_false_eq_true,reduceCtorEq,specL,specO,specP,beq_self_eq_true,List.length_cons,List.length_nil,cM_length,Bool.not_true,Bool.not_false,if_true,if_false,List.replicate_succ,List.replicate_zero,dcells_len,Option.bind_some,none_bind,Option.map_some,Option.map_none,Sum.elim_inl,Sum.elim_inr,sized_cI,sized_cB,sized_cS,sized_cL,sized_cK,stepR_none,stepR_inl,stepR_inr,elim_stepR,stepR_ite,stepR_bind,ite_bind,ite_map,Vm.bind_map,elim_bind,elim_map,Option.bind_assoc]
 all_goals try simp only [gIf_eq]
 all_goals try rfl
theorem e_mgraph_right_l1 {β:Type} (a0:Int) (a1:List GArr2I) (p1:Int) (k:Ex→St→Option β):evK TT c_mgraph_right_l1 ⟨[(0,.d (.int .i64 a0)),(18,.d (.sl (cM GArr2I.cells a1))),(19,.d (.int .i64 (a1.length:Int))),(20,.d (.int .i64 p1))],[]⟩ k = (mgraph_right_l1 a0 a1 p1).bind (fun (r:Unit ⊕ Unit)=>Sum.elim (fun (z:Unit)=>k (.exit 0) ⟨[],[]⟩) (fun (z:Unit)=>k .ret ⟨[(4,.d (.bool false))],[]⟩) r):=by
 have hh:=fun (w:Int)=>h_mgraph_right_l1 a0 a1 w
 have h:=fun ho=>evK_loop (T:=TT) (k:=k) (c:=b_mgraph_right_l1) (step:=(fun (w:Int)=>mgraph_right_l1_s a0 a1 w)) _ _ ho hh p1
 refine Eq.trans (h (fun r s e=>by have q:=congrArg Prod.fst e; rcases r with x | x <;> cases q)) ?_
 unfold mgraph_right_l1
 exact bind_congr' _ fun x=>by rcases x with x | x <;> rfl
theorem c_mgraph_right (a0:Int) (a1:List GArr2I):Vm.call TT 54 [.int .i64 a0,.sl (cM GArr2I.cells a1)] = (mgraph_right a0 a1).map fun (r:Bool)=>.bool r:=by
 refine (call_eqF (show TT 54 = some (.code ⟨2,45,[.tmp 4],bd54,false,false⟩) from rfl) _ rfl rfl).trans ?_
 show evK TT bd54 ⟨[(0,.d (.int .i64 a0)),(1,.d (.sl (cM GArr2I.cells a1)))],[]⟩ _ = _
 simp -implicitDefEqProofs (decide:=true) (maxSteps:=2000000) only [bd54,mgraph_right,↓e_mgraph_right_l1,↓DN,↓DR,DQ,DP,↓reduceIte,Int.reduceToNat,Nat.reduceBEq,Nat.reduceAdd,Nat.reduceLT,Nat.reduceLeDiff,Nat.reduceEqDiff,Int.reduceEq,ne_eq,not_false_eq_true,reduceCtorEq,specL,specO,specP,beq_self_eq_true,List.length_cons,List.length_nil,cM_length,Bool.not_true,Bool.not_false,if_true,if_false,List.replicate_succ,List.replicate_zero,dcells_len,Option.bind_some,none_bind,Option.map_some,Option.map_none,Sum.elim_inl,Sum.elim_inr,sized_cI,sized_cB,sized_cS,sized_cL,sized_cK,stepR_none,stepR_inl,stepR_inr,elim_stepR,stepR_ite,stepR_bind,ite_bind,ite_map,Vm.bind_map,elim_bind,elim_map,Option.bind_assoc]
 all_goals try simp only [gIf_eq]
 all_goals try rfl
theorem k_mgraph_right {β:Type} (a0:Int) (a1:List GArr2I) (d:Nat) (bl:List (Nat × Option Blk)) (fz:List (Nat × Option Blk)) (k:V→Option β) (kw:V→List (Nat × Option Blk)→Option β):callF TT d bl 54 [.int .i64 a0,.sl (cM GArr2I.cells a1)] fz k kw = (mgraph_right a0 a1).bind fun (r:Bool)=>k (.d (.bool r)):=by
 have h:=c_mgraph_right a0 a1
 exact callF_flat h (fun _=>rfl) fz
theorem c_mgraph_next (a0:Int) (a1:List GArr2I):Vm.call TT 55 [.int .i64 a0,.sl (cM GArr2I.cells a1)] = (mgraph_next a0 a1).map fun (r:(List (List Int)))=>.sl (cM (cL cI) r):=by
 refine (call_told (show TT 55 = some (.told o55) from rfl) _ rfl).trans ?_
 have h:=edges_cM GArr2I.cells (fun e=>(e.e0,e.e1)) (fun x=>rfl) a1
 simp only [o55,nextO,h,Option.bind_some,mgraph_next]
 split <;> rfl
theorem k_mgraph_next {β:Type} (a0:Int) (a1:List GArr2I) (d:Nat) (bl:List (Nat × Option Blk)) (fz:List (Nat × Option Blk)) (k:V→Option β) (kw:V→List (Nat × Option Blk)→Option β):callF TT d bl 55 [.int .i64 a0,.sl (cM GArr2I.cells a1)] fz k kw = (mgraph_next a0 a1).bind fun (r:(List (List Int)))=>fzK fz (.d (.sl (cM (cL cI) r))) k kw:=by
 have h:=c_mgraph_next a0 a1
 exact callF_deep h (fun _=>rfl) (fun _=>rfl) fz
theorem h_mgraph_reach_l1 (a0:List (List Int)) (x5:List Int) (p6:Int) (p7:List Bool) (p8:List Int):evK TT b_mgraph_reach_l1 ⟨[(0,.d (.sl (cM (cL cI) a0))),(5,.own 12 0),(6,.own 17 0),(29,.d (.sl (cM cI x5))),(30,.d (.int .i64 (x5.length:Int))),(31,.d (.int .i64 p6))],[(12,some (.rows 0 4 1 (cM cB p7))),(17,some (.rows 0 3 1 (cM cI p8)))]⟩ (fun e s=>some (e,s)) = stepR (fun (w:Int × (List Bool) × (List Int))=>(⟨[(0,.d (.sl (cM (cL cI) a0))),(5,.own 12 0),(6,.own 17 0),(29,.d (.sl (cM cI x5))),(30,.d (.int .i64 (x5.length:Int))),(31,.d (.int .i64 w.1))],[(12,some (.rows 0 4 1 (cM cB w.2.1))),(17,some (.rows 0 3 1 (cM cI w.2.2)))]⟩ : St)) (fun (r:(List Bool) × (List Int))=>(((.exit 2),⟨[(0,.d (.sl (cM (cL cI) a0))),(5,.own 12 0),(6,.own 17 0)],[(12,some (.rows 0 4 1 (cM cB r.1))),(17,some (.rows 0 3 1 (cM cI r.2)))]⟩):Ex × St)) (mgraph_reach_l1_s a0 x5 p6 p7 p8):=by
 simp -implicitDefEqProofs (decide:=true) (maxSteps:=2000000) only [b_mgraph_reach_l1,mgraph_reach_l1_s,↓DN,↓DR,DQ,DP,↓reduceIte,Int.reduceToNat,Nat.reduceBEq,Nat.reduceAdd,Nat.reduceLT,Nat.reduceLeDiff,Nat.reduceEqDiff,Int.reduceEq,ne_eq,not_false_eq_true,reduceCtorEq,specL,specO,specP,beq_self_eq_true,List.length_cons,List.length_nil,cM_length,Bool.not_true,Bool.not_false,if_true,if_false,List.replicate_succ,List.replicate_zero,dcells_len,Option.bind_some,none_bind,Option.map_some,Option.map_none,Sum.elim_inl,Sum.elim_inr,sized_cI,sized_cB,sized_cS,sized_cL,sized_cK,stepR_none,stepR_inl,stepR_inr,elim_stepR,stepR_ite,stepR_bind,ite_bind,ite_map,Vm.bind_map,elim_bind,elim_map,Option.bind_assoc]
 all_goals try simp only [gIf_eq]
 all_goals try rfl
theorem e_mgraph_reach_l1 {β:Type} (a0:List (List Int)) (x5:List Int) (p6:Int) (p7:List Bool) (p8:List Int) (k:Ex→St→Option β):evK TT c_mgraph_reach_l1 ⟨[(0,.d (.sl (cM (cL cI) a0))),(5,.own 12 0),(6,.own 17 0),(29,.d (.sl (cM cI x5))),(30,.d (.int .i64 (x5.length:Int))),(31,.d (.int .i64 p6))],[(12,some (.rows 0 4 1 (cM cB p7))),(17,some (.rows 0 3 1 (cM cI p8)))]⟩ k = (mgraph_reach_l1 a0 x5 p6 p7 p8).bind (fun (r:(List Bool) × (List Int))=>k (.exit 2) ⟨[(0,.d (.sl (cM (cL cI) a0))),(5,.own 12 0),(6,.own 17 0)],[(12,some (.rows 0 4 1 (cM cB r.1))),(17,some (.rows 0 3 1 (cM cI r.2)))]⟩):=by
 have hh:=fun (w:Int × (List Bool) × (List Int))=>h_mgraph_reach_l1 a0 x5 w.1 w.2.1 w.2.2
 have h:=fun ho=>evK_loop (T:=TT) (k:=k) (c:=b_mgraph_reach_l1) (step:=(fun (w:Int × (List Bool) × (List Int))=>mgraph_reach_l1_s a0 x5 w.1 w.2.1 w.2.2)) _ _ ho hh (p6,p7,p8)
 refine Eq.trans (h (fun r s e=>by have q:=congrArg Prod.fst e; rcases r with x <;> cases q)) ?_
 unfold mgraph_reach_l1
 exact bind_congr' _ fun x=>by rcases x with x <;> rfl
theorem h_mgraph_reach_l2 (a0:List (List Int)) (p2:List Bool) (p3:List Int):evK TT b_mgraph_reach_l2 ⟨[(0,.d (.sl (cM (cL cI) a0))),(5,.own 12 0),(6,.own 17 0)],[(12,some (.rows 0 4 1 (cM cB p2))),(17,some (.rows 0 3 1 (cM cI p3)))]⟩ (fun e s=>some (e,s)) = stepR (fun (w:(List Bool) × (List Int))=>(⟨[(0,.d (.sl (cM (cL cI) a0))),(5,.own 12 0),(6,.own 17 0)],[(12,some (.rows 0 4 1 (cM cB w.1))),(17,some (.rows 0 3 1 (cM cI w.2)))]⟩ : St)) (fun (r:(List Bool))=>(((.exit 0),⟨[(5,.own 12 0)],[(12,some (.rows 0 4 1 (cM cB r)))]⟩):Ex × St)) (mgraph_reach_l2_s a0 p2 p3):=by
 simp -implicitDefEqProofs (decide:=true) (maxSteps:=2000000) only [b_mgraph_reach_l2,mgraph_reach_l2_s,↓e_mgraph_reach_l1,↓DN,↓DR,DQ,DP,↓reduceIte,Int.reduceToNat,Nat.reduceBEq,Nat.reduceAdd,Nat.reduceLT,Nat.reduceLeDiff,Nat.reduceEqDiff,Int.reduceEq,ne_eq,not_false_eq_true,reduceCtorEq,specL,specO,specP,beq_self_eq_true,List.length_cons,List.length_nil,cM_length,Bool.not_true,Bool.not_false,if_true,if_false,List.replicate_succ,List.replicate_zero,dcells_len,Option.bind_some,none_bind,Option.map_some,Option.map_none,Sum.elim_inl,Sum.elim_inr,sized_cI,sized_cB,sized_cS,sized_cL,sized_cK,stepR_none,stepR_inl,stepR_inr,elim_stepR,stepR_ite,stepR_bind,ite_bind,ite_map,Vm.bind_map,elim_bind,elim_map,Option.bind_assoc]
 all_goals try simp only [gIf_eq]
 all_goals try rfl
theorem e_mgraph_reach_l2 {β:Type} (a0:List (List Int)) (p2:List Bool) (p3:List Int) (k:Ex→St→Option β):evK TT c_mgraph_reach_l2 ⟨[(0,.d (.sl (cM (cL cI) a0))),(5,.own 12 0),(6,.own 17 0)],[(12,some (.rows 0 4 1 (cM cB p2))),(17,some (.rows 0 3 1 (cM cI p3)))]⟩ k = (mgraph_reach_l2 a0 p2 p3).bind (fun (r:(List Bool))=>k (.exit 0) ⟨[(5,.own 12 0)],[(12,some (.rows 0 4 1 (cM cB r)))]⟩):=by
 have hh:=fun (w:(List Bool) × (List Int))=>h_mgraph_reach_l2 a0 w.1 w.2
 have h:=fun ho=>evK_loop (T:=TT) (k:=k) (c:=b_mgraph_reach_l2) (step:=(fun (w:(List Bool) × (List Int))=>mgraph_reach_l2_s a0 w.1 w.2)) _ _ ho hh (p2,p3)
 refine Eq.trans (h (fun r s e=>by have q:=congrArg Prod.fst e; rcases r with x <;> cases q)) ?_
 unfold mgraph_reach_l2
 exact bind_congr' _ fun x=>by rcases x with x <;> rfl
theorem c_mgraph_reach (a0:List (List Int)) (a1:Int):Vm.call TT 58 [.sl (cM (cL cI) a0),.int .i64 a1] = (mgraph_reach a0 a1).map fun (r:(List Bool))=>.sl (cM cB r):=by
 refine (call_eqF (show TT 58 = some (.code ⟨2,49,[.tmp 4],bd58,false,false⟩) from rfl) _ rfl rfl).trans ?_
 show evK TT bd58 ⟨[(0,.d (.sl (cM (cL cI) a0))),(1,.d (.int .i64 a1))],[]⟩ _ = _
 simp -implicitDefEqProofs (decide:=true) (maxSteps:=2000000) only [bd58,mgraph_reach,↓e_mgraph_reach_l1,↓e_mgraph_reach_l2,↓DN,↓DR,DQ,DP,↓reduceIte,Int.reduceToNat,Nat.reduceBEq,Nat.reduceAdd,Nat.reduceLT,Nat.reduceLeDiff,Nat.reduceEqDiff,Int.reduceEq,ne_eq,not_false_eq_true,reduceCtorEq,specL,specO,specP,beq_self_eq_true,List.length_cons,List.length_nil,cM_length,Bool.not_true,Bool.not_false,if_true,if_false,List.replicate_succ,List.replicate_zero,dcells_len,Option.bind_some,none_bind,Option.map_some,Option.map_none,Sum.elim_inl,Sum.elim_inr,sized_cI,sized_cB,sized_cS,sized_cL,sized_cK,stepR_none,stepR_inl,stepR_inr,elim_stepR,stepR_ite,stepR_bind,ite_bind,ite_map,Vm.bind_map,elim_bind,elim_map,Option.bind_assoc]
 all_goals try simp only [gIf_eq]
 all_goals try rfl
theorem k_mgraph_reach {β:Type} (a0:List (List Int)) (a1:Int) (d:Nat) (bl:List (Nat × Option Blk)) (fz:List (Nat × Option Blk)) (k:V→Option β) (kw:V→List (Nat × Option Blk)→Option β):callF TT d bl 58 [.sl (cM (cL cI) a0),.int .i64 a1] fz k kw = (mgraph_reach a0 a1).bind fun (r:(List Bool))=>fzK fz (.d (.sl (cM cB r))) k kw:=by
 have h:=c_mgraph_reach a0 a1
 exact callF_deep h (fun _=>rfl) (fun _=>rfl) fz
theorem c_mgraph_Reach (a0:Int) (a1:List GArr2I) (a2:Int):Vm.call TT 29 [.int .i64 a0,.sl (cM GArr2I.cells a1),.int .i64 a2] = (mgraph_Reach a0 a1 a2).map fun (r:(List Bool))=>.sl (cM cB r):=by
 refine (call_eqF (show TT 29 = some (.code ⟨3,25,[.tmp 6],bd29,false,false⟩) from rfl) _ rfl rfl).trans ?_
 show evK TT bd29 ⟨[(0,.d (.int .i64 a0)),(1,.d (.sl (cM GArr2I.cells a1))),(2,.d (.int .i64 a2))],[]⟩ _ = _
 simp -implicitDefEqProofs (decide:=true) (maxSteps:=2000000) only [bd29,mgraph_Reach,↓k_mgraph_right,↓k_mgraph_next,↓k_mgraph_reach,↓DN,↓DR,DQ,DP,↓reduceIte,Int.reduceToNat,Nat.reduceBEq,Nat.reduceAdd,Nat.reduceLT,Nat.reduceLeDiff,Nat.reduceEqDiff,Int.reduceEq,ne_eq,not_false_eq_true,reduceCtorEq,specL,specO,specP,beq_self_eq_true,List.length_cons,List.length_nil,cM_length,Bool.not_true,Bool.not_false,if_true,if_false,List.replicate_succ,List.replicate_zero,dcells_len,Option.bind_some,none_bind,Option.map_some,Option.map_none,Sum.elim_inl,Sum.elim_inr,sized_cI,sized_cB,sized_cS,sized_cL,sized_cK,stepR_none,stepR_inl,stepR_inr,elim_stepR,stepR_ite,stepR_bind,ite_bind,ite_map,Vm.bind_map,elim_bind,elim_map,Option.bind_assoc]
 all_goals try simp only [gIf_eq]
 all_goals try rfl
theorem k_mgraph_Reach {β:Type} (a0:Int) (a1:List GArr2I) (a2:Int) (d:Nat) (bl:List (Nat × Option Blk)) (fz:List (Nat × Option Blk)) (k:V→Option β) (kw:V→List (Nat × Option Blk)→Option β):callF TT d bl 29 [.int .i64 a0,.sl (cM GArr2I.cells a1),.int .i64 a2] fz k kw = (mgraph_Reach a0 a1 a2).bind fun (r:(List Bool))=>fzK fz (.d (.sl (cM cB r))) k kw:=by
 have h:=c_mgraph_Reach a0 a1 a2
 exact callF_deep h (fun _=>rfl) (fun _=>rfl) fz
end Go.Proofs.Ytlpgfmnicomjjaa
