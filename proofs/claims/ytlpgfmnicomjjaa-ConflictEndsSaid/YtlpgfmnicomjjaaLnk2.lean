/- The functions of the small machine compute the plain definitions. Printed by a program. -/
import Derived.Test.YtlpgfmnicomjjaaLnk1
set_option linter.unusedVariables false
set_option linter.unusedSimpArgs false
namespace Go.Proofs.Ytlpgfmnicomjjaa
open Vm
open Go.RowKit
set_option maxRecDepth 100000
set_option maxHeartbeats 4000000
attribute [local congr] condK_congr opsK_congr opsDK_congr valK_congr
theorem h_mrealm_names_l1 (a0:GRealm) (p1:Int) (p2:List ByteArray):evK TT b_mrealm_names_l1 ⟨[(1,.ptr 1 0),(2,.own 22 0),(3,.nil),(4,.nil),(12,.d (.sl (cM GCity.cells a0.Cities))),(13,.d (.int .i64 (a0.Cities.length:Int))),(14,.d (.int .i64 p1))],[(1,some (.box (dcells (GRealm.cells a0)))),(22,some (.rows 0 9 1 (cM cS p2)))]⟩ (fun e s=>some (e,s)) = stepR (fun (w:Int × (List ByteArray))=>(⟨[(1,.ptr 1 0),(2,.own 22 0),(3,.nil),(4,.nil),(12,.d (.sl (cM GCity.cells a0.Cities))),(13,.d (.int .i64 (a0.Cities.length:Int))),(14,.d (.int .i64 w.1))],[(1,some (.box (dcells (GRealm.cells a0)))),(22,some (.rows 0 9 1 (cM cS w.2)))]⟩ : St)) (fun (r:(List ByteArray))=>(((.exit 0),⟨[(1,.ptr 1 0),(2,.own 22 0),(3,.nil),(4,.nil)],[(1,some (.box (dcells (GRealm.cells a0)))),(22,some (.rows 0 9 1 (cM cS r)))]⟩):Ex × St)) (mrealm_names_l1_s a0 p1 p2):=by
 simp -implicitDefEqProofs (decide:=true) (maxSteps:=2000000) only [b_mrealm_names_l1,mrealm_names_l1_s,↓DN,↓DR,DQ,DP,↓reduceIte,Int.reduceToNat,Nat.reduceBEq,Nat.reduceAdd,Nat.reduceLT,Nat.reduceLeDiff,Nat.reduceEqDiff,Int.reduceEq,ne_eq,not_false_eq_true,reduceCtorEq,specL,specO,specP,beq_self_eq_true,List.length_cons,List.length_nil,cM_length,Bool.not_true,Bool.not_false,if_true,if_false,List.replicate_succ,List.replicate_zero,dcells_len,Option.bind_some,none_bind,Option.map_some,Option.map_none,Sum.elim_inl,Sum.elim_inr,sized_cI,sized_cB,sized_cS,sized_cL,sized_cK,stepR_none,stepR_inl,stepR_inr,elim_stepR,stepR_ite,stepR_bind,ite_bind,ite_map,Vm.bind_map,elim_bind,elim_map,Option.bind_assoc]
 all_goals try simp only [gIf_eq]
 all_goals try rfl
theorem e_mrealm_names_l1 {β:Type} (a0:GRealm) (p1:Int) (p2:List ByteArray) (k:Ex→St→Option β):evK TT c_mrealm_names_l1 ⟨[(1,.ptr 1 0),(2,.own 22 0),(3,.nil),(4,.nil),(12,.d (.sl (cM GCity.cells a0.Cities))),(13,.d (.int .i64 (a0.Cities.length:Int))),(14,.d (.int .i64 p1))],[(1,some (.box (dcells (GRealm.cells a0)))),(22,some (.rows 0 9 1 (cM cS p2)))]⟩ k = (mrealm_names_l1 a0 p1 p2).bind (fun (r:(List ByteArray))=>k (.exit 0) ⟨[(1,.ptr 1 0),(2,.own 22 0),(3,.nil),(4,.nil)],[(1,some (.box (dcells (GRealm.cells a0)))),(22,some (.rows 0 9 1 (cM cS r)))]⟩):=by
 have hh:=fun (w:Int × (List ByteArray))=>h_mrealm_names_l1 a0 w.1 w.2
 have h:=fun ho=>evK_loop (T:=TT) (k:=k) (c:=b_mrealm_names_l1) (step:=(fun (w:Int × (List ByteArray))=>mrealm_names_l1_s a0 w.1 w.2)) _ _ ho hh (p1,p2)
 refine Eq.trans (h (fun r s e=>by have q:=congrArg Prod.fst e; rcases r with x <;> cases q)) ?_
 unfold mrealm_names_l1
 exact bind_congr' _ fun x=>by rcases x with x <;> rfl
theorem h_mrealm_names_l2 (a0:GRealm) (r5:(List ByteArray)) (p6:Int) (p7:List ByteArray):evK TT b_mrealm_names_l2 ⟨[(1,.ptr 1 0),(2,.own 22 0),(3,.own 35 0),(4,.nil),(25,.d (.sl (cM GFirm.cells a0.Firms))),(26,.d (.int .i64 (a0.Firms.length:Int))),(27,.d (.int .i64 p6))],[(1,some (.box (dcells (GRealm.cells a0)))),(22,some (.rows 0 9 1 (cM cS r5))),(35,some (.rows 0 9 1 (cM cS p7)))]⟩ (fun e s=>some (e,s)) = stepR (fun (w:Int × (List ByteArray))=>(⟨[(1,.ptr 1 0),(2,.own 22 0),(3,.own 35 0),(4,.nil),(25,.d (.sl (cM GFirm.cells a0.Firms))),(26,.d (.int .i64 (a0.Firms.length:Int))),(27,.d (.int .i64 w.1))],[(1,some (.box (dcells (GRealm.cells a0)))),(22,some (.rows 0 9 1 (cM cS r5))),(35,some (.rows 0 9 1 (cM cS w.2)))]⟩ : St)) (fun (r:(List ByteArray))=>(((.exit 2),⟨[(1,.ptr 1 0),(2,.own 22 0),(3,.own 35 0),(4,.nil)],[(1,some (.box (dcells (GRealm.cells a0)))),(22,some (.rows 0 9 1 (cM cS r5))),(35,some (.rows 0 9 1 (cM cS r)))]⟩):Ex × St)) (mrealm_names_l2_s a0 r5 p6 p7):=by
 simp -implicitDefEqProofs (decide:=true) (maxSteps:=2000000) only [b_mrealm_names_l2,mrealm_names_l2_s,↓e_mrealm_names_l1,↓DN,↓DR,DQ,DP,↓reduceIte,Int.reduceToNat,Nat.reduceBEq,Nat.reduceAdd,Nat.reduceLT,Nat.reduceLeDiff,Nat.reduceEqDiff,Int.reduceEq,ne_eq,not_false_eq_true,reduceCtorEq,specL,specO,specP,beq_self_eq_true,List.length_cons,List.length_nil,cM_length,Bool.not_true,Bool.not_false,if_true,if_false,List.replicate_succ,List.replicate_zero,dcells_len,Option.bind_some,none_bind,Option.map_some,Option.map_none,Sum.elim_inl,Sum.elim_inr,sized_cI,sized_cB,sized_cS,sized_cL,sized_cK,stepR_none,stepR_inl,stepR_inr,elim_stepR,stepR_ite,stepR_bind,ite_bind,ite_map,Vm.bind_map,elim_bind,elim_map,Option.bind_assoc]
 all_goals try simp only [gIf_eq]
 all_goals try rfl
theorem e_mrealm_names_l2 {β:Type} (a0:GRealm) (r5:(List ByteArray)) (p6:Int) (p7:List ByteArray) (k:Ex→St→Option β):evK TT c_mrealm_names_l2 ⟨[(1,.ptr 1 0),(2,.own 22 0),(3,.own 35 0),(4,.nil),(25,.d (.sl (cM GFirm.cells a0.Firms))),(26,.d (.int .i64 (a0.Firms.length:Int))),(27,.d (.int .i64 p6))],[(1,some (.box (dcells (GRealm.cells a0)))),(22,some (.rows 0 9 1 (cM cS r5))),(35,some (.rows 0 9 1 (cM cS p7)))]⟩ k = (mrealm_names_l2 a0 r5 p6 p7).bind (fun (r:(List ByteArray))=>k (.exit 2) ⟨[(1,.ptr 1 0),(2,.own 22 0),(3,.own 35 0),(4,.nil)],[(1,some (.box (dcells (GRealm.cells a0)))),(22,some (.rows 0 9 1 (cM cS r5))),(35,some (.rows 0 9 1 (cM cS r)))]⟩):=by
 have hh:=fun (w:Int × (List ByteArray))=>h_mrealm_names_l2 a0 r5 w.1 w.2
 have h:=fun ho=>evK_loop (T:=TT) (k:=k) (c:=b_mrealm_names_l2) (step:=(fun (w:Int × (List ByteArray))=>mrealm_names_l2_s a0 r5 w.1 w.2)) _ _ ho hh (p6,p7)
 refine Eq.trans (h (fun r s e=>by have q:=congrArg Prod.fst e; rcases r with x <;> cases q)) ?_
 unfold mrealm_names_l2
 exact bind_congr' _ fun x=>by rcases x with x <;> rfl
theorem h_mrealm_names_l3 (a0:GRealm) (r10:(List ByteArray)) (r5:(List ByteArray)) (p11:Int) (p12:List ByteArray):evK TT b_mrealm_names_l3 ⟨[(2,.own 22 0),(3,.own 35 0),(4,.own 48 0),(38,.d (.sl (cM GOrder.cells a0.Orders))),(39,.d (.int .i64 (a0.Orders.length:Int))),(40,.d (.int .i64 p11))],[(22,some (.rows 0 9 1 (cM cS r5))),(35,some (.rows 0 9 1 (cM cS r10))),(48,some (.rows 0 9 1 (cM cS p12)))]⟩ (fun e s=>some (e,s)) = stepR (fun (w:Int × (List ByteArray))=>(⟨[(2,.own 22 0),(3,.own 35 0),(4,.own 48 0),(38,.d (.sl (cM GOrder.cells a0.Orders))),(39,.d (.int .i64 (a0.Orders.length:Int))),(40,.d (.int .i64 w.1))],[(22,some (.rows 0 9 1 (cM cS r5))),(35,some (.rows 0 9 1 (cM cS r10))),(48,some (.rows 0 9 1 (cM cS w.2)))]⟩ : St)) (fun (r:(List ByteArray))=>(((.exit 4),⟨[(2,.own 22 0),(3,.own 35 0),(4,.own 48 0)],[(22,some (.rows 0 9 1 (cM cS r5))),(35,some (.rows 0 9 1 (cM cS r10))),(48,some (.rows 0 9 1 (cM cS r)))]⟩):Ex × St)) (mrealm_names_l3_s a0 r10 r5 p11 p12):=by
 simp -implicitDefEqProofs (decide:=true) (maxSteps:=2000000) only [b_mrealm_names_l3,mrealm_names_l3_s,↓e_mrealm_names_l1,↓e_mrealm_names_l2,↓DN,↓DR,DQ,DP,↓reduceIte,Int.reduceToNat,Nat.reduceBEq,Nat.reduceAdd,Nat.reduceLT,Nat.reduceLeDiff,Nat.reduceEqDiff,Int.reduceEq,ne_eq,not_false_eq_true,reduceCtorEq,specL,specO,specP,beq_self_eq_true,List.length_cons,List.length_nil,cM_length,Bool.not_true,Bool.not_false,if_true,if_false,List.replicate_succ,List.replicate_zero,dcells_len,Option.bind_some,none_bind,Option.map_some,Option.map_none,Sum.elim_inl,Sum.elim_inr,sized_cI,sized_cB,sized_cS,sized_cL,sized_cK,stepR_none,stepR_inl,stepR_inr,elim_stepR,stepR_ite,stepR_bind,ite_bind,ite_map,Vm.bind_map,elim_bind,elim_map,Option.bind_assoc]
 all_goals try simp only [gIf_eq]
 all_goals try rfl
theorem e_mrealm_names_l3 {β:Type} (a0:GRealm) (r10:(List ByteArray)) (r5:(List ByteArray)) (p11:Int) (p12:List ByteArray) (k:Ex→St→Option β):evK TT c_mrealm_names_l3 ⟨[(2,.own 22 0),(3,.own 35 0),(4,.own 48 0),(38,.d (.sl (cM GOrder.cells a0.Orders))),(39,.d (.int .i64 (a0.Orders.length:Int))),(40,.d (.int .i64 p11))],[(22,some (.rows 0 9 1 (cM cS r5))),(35,some (.rows 0 9 1 (cM cS r10))),(48,some (.rows 0 9 1 (cM cS p12)))]⟩ k = (mrealm_names_l3 a0 r10 r5 p11 p12).bind (fun (r:(List ByteArray))=>k (.exit 4) ⟨[(2,.own 22 0),(3,.own 35 0),(4,.own 48 0)],[(22,some (.rows 0 9 1 (cM cS r5))),(35,some (.rows 0 9 1 (cM cS r10))),(48,some (.rows 0 9 1 (cM cS r)))]⟩):=by
 have hh:=fun (w:Int × (List ByteArray))=>h_mrealm_names_l3 a0 r10 r5 w.1 w.2
 have h:=fun ho=>evK_loop (T:=TT) (k:=k) (c:=b_mrealm_names_l3) (step:=(fun (w:Int × (List ByteArray))=>mrealm_names_l3_s a0 r10 r5 w.1 w.2)) _ _ ho hh (p11,p12)
 refine Eq.trans (h (fun r s e=>by have q:=congrArg Prod.fst e; rcases r with x <;> cases q)) ?_
 unfold mrealm_names_l3
 exact bind_congr' _ fun x=>by rcases x with x <;> rfl
theorem c_mrealm_names (a0:GRealm):Vm.call TT 62 [.agg (GRealm.cells a0)] = (mrealm_names a0).map fun (r:(List ByteArray) × (List ByteArray) × (List ByteArray))=>.tup [.sl (cM cS r.1),.sl (cM cS r.2.1),.sl (cM cS r.2.2)]:=by
 refine (call_eqF (show TT 62 = some (.code ⟨1,53,[.tmp 2,.tmp 3,.tmp 4],bd62,false,false⟩) from rfl) _ rfl rfl).trans ?_
 show evK TT bd62 ⟨[(0,aggD (GRealm.cells a0))],[]⟩ _ = _
 simp -implicitDefEqProofs (decide:=true) (maxSteps:=2000000) only [bd62,mrealm_names,↓e_mrealm_names_l1,↓e_mrealm_names_l2,↓e_mrealm_names_l3,↓DN,↓DR,DQ,DP,↓reduceIte,Int.reduceToNat,Nat.reduceBEq,Nat.reduceAdd,Nat.reduceLT,Nat.reduceLeDiff,Nat.reduceEqDiff,Int.reduceEq,ne_eq,not_false_eq_true,reduceCtorEq,specL,specO,specP,beq_self_eq_true,List.length_cons,List.length_nil,cM_length,Bool.not_true,Bool.not_false,if_true,if_false,List.replicate_succ,List.replicate_zero,dcells_len,Option.bind_some,none_bind,Option.map_some,Option.map_none,Sum.elim_inl,Sum.elim_inr,sized_cI,sized_cB,sized_cS,sized_cL,sized_cK,stepR_none,stepR_inl,stepR_inr,elim_stepR,stepR_ite,stepR_bind,ite_bind,ite_map,Vm.bind_map,elim_bind,elim_map,Option.bind_assoc]
 all_goals try simp only [gIf_eq]
 all_goals try rfl
theorem k_mrealm_names {β:Type} (a0:GRealm) (d:Nat) (bl:List (Nat × Option Blk)) (fz:List (Nat × Option Blk)) (k:V→Option β) (kw:V→List (Nat × Option Blk)→Option β):callF TT d bl 62 [.agg (GRealm.cells a0)] fz k kw = (mrealm_names a0).bind fun (r:(List ByteArray) × (List ByteArray) × (List ByteArray))=>fzK fz (.tup [.d (.sl (cM cS r.1)),.d (.sl (cM cS r.2.1)),.d (.sl (cM cS r.2.2))]) k kw:=by
 have h:=c_mrealm_names a0
 exact callF_deep h (fun _=>rfl) (fun _=>rfl) fz
theorem e_mrealm_isName_j1 {β:Type} (a0:ByteArray) (p1:Int) (x2:Int) (p3:Bool) (k:Ex→St→Option β):evK TT c_mrealm_isName_j1 ⟨[(3,.d (.int .i64 p1)),(4,.d (.int .u8 x2)),(5,.d (.bool p3)),(14,.d (.sl (cM (cK .u8) (bytesL a0)))),(15,.d (.int .i64 ((bytesL a0).length:Int))),(16,.d (.int .i64 p1))],[]⟩ k = (mrealm_isName_j1 a0 p1 x2 p3).bind (fun (r:Unit ⊕ Unit)=>Sum.elim (fun (z:Unit)=>k .normal ⟨[(14,.d (.sl (cM (cK .u8) (bytesL a0)))),(15,.d (.int .i64 ((bytesL a0).length:Int))),(16,.d (.int .i64 p1))],[]⟩) (fun (z:Unit)=>k .ret ⟨[(2,.d (.bool false))],[]⟩) r):=by
 simp -implicitDefEqProofs (decide:=true) (maxSteps:=2000000) only [c_mrealm_isName_j1,mrealm_isName_j1,↓DN,↓DR,DQ,DP,↓reduceIte,Int.reduceToNat,Nat.reduceBEq,Nat.reduceAdd,Nat.reduceLT,Nat.reduceLeDiff,Nat.reduceEqDiff,Int.reduceEq,ne_eq,not_false_eq_true,reduceCtorEq,specL,specO,specP,beq_self_eq_true,List.length_cons,List.length_nil,cM_length,Bool.not_true,Bool.not_false,if_true,if_false,List.replicate_succ,List.replicate_zero,dcells_len,Option.bind_some,none_bind,Option.map_some,Option.map_none,Sum.elim_inl,Sum.elim_inr,sized_cI,sized_cB,sized_cS,sized_cL,sized_cK,stepR_none,stepR_inl,stepR_inr,elim_stepR,stepR_ite,stepR_bind,ite_bind,ite_map,Vm.bind_map,elim_bind,elim_map,Option.bind_assoc]
 all_goals try simp only [gIf_eq]
 all_goals try rfl
theorem h_mrealm_isName_l2 (a0:ByteArray) (p1:Int):evK TT b_mrealm_isName_l2 ⟨[(14,.d (.sl (cM (cK .u8) (bytesL a0)))),(15,.d (.int .i64 ((bytesL a0).length:Int))),(16,.d (.int .i64 p1))],[]⟩ (fun e s=>some (e,s)) = stepR (fun (w:Int)=>(⟨[(14,.d (.sl (cM (cK .u8) (bytesL a0)))),(15,.d (.int .i64 ((bytesL a0).length:Int))),(16,.d (.int .i64 w))],[]⟩ : St)) (fun (r:Unit ⊕ Unit)=>Sum.elim (fun (z:Unit)=>(((.exit 0),⟨[],[]⟩):Ex × St)) (fun (z:Unit)=>((.ret,⟨[(2,.d (.bool false))],[]⟩):Ex × St)) r) (mrealm_isName_l2_s a0 p1):=by
 simp -implicitDefEqProofs (decide:=true) (maxSteps:=2000000) only [b_mrealm_isName_l2,mrealm_isName_l2_s,↓e_mrealm_isName_j1,↓DN,↓DR,DQ,DP,↓reduceIte,Int.reduceToNat,Nat.reduceBEq,Nat.reduceAdd,Nat.reduceLT,Nat.reduceLeDiff,Nat.reduceEqDiff,Int.reduceEq,ne_eq,not_false_eq_true,reduceCtorEq,specL,specO,specP,beq_self_eq_true,List.length_cons,List.length_nil,cM_length,Bool.not_true,Bool.not_false,if_true,if_false,List.replicate_succ,List.replicate_zero,dcells_len,Option.bind_some,none_bind,Option.map_some,Option.map_none,Sum.elim_inl,Sum.elim_inr,sized_cI,sized_cB,sized_cS,sized_cL,sized_cK,stepR_none,stepR_inl,stepR_inr,elim_stepR,stepR_ite,stepR_bind,ite_bind,ite_map,Vm.bind_map,elim_bind,elim_map,Option.bind_assoc]
 all_goals try simp only [gIf_eq]
 all_goals try rfl
theorem e_mrealm_isName_l2 {β:Type} (a0:ByteArray) (p1:Int) (k:Ex→St→Option β):evK TT c_mrealm_isName_l2 ⟨[(14,.d (.sl (cM (cK .u8) (bytesL a0)))),(15,.d (.int .i64 ((bytesL a0).length:Int))),(16,.d (.int .i64 p1))],[]⟩ k = (mrealm_isName_l2 a0 p1).bind (fun (r:Unit ⊕ Unit)=>Sum.elim (fun (z:Unit)=>k (.exit 0) ⟨[],[]⟩) (fun (z:Unit)=>k .ret ⟨[(2,.d (.bool false))],[]⟩) r):=by
 have hh:=fun (w:Int)=>h_mrealm_isName_l2 a0 w
 have h:=fun ho=>evK_loop (T:=TT) (k:=k) (c:=b_mrealm_isName_l2) (step:=(fun (w:Int)=>mrealm_isName_l2_s a0 w)) _ _ ho hh p1
 refine Eq.trans (h (fun r s e=>by have q:=congrArg Prod.fst e; rcases r with x | x <;> cases q)) ?_
 unfold mrealm_isName_l2
 exact bind_congr' _ fun x=>by rcases x with x | x <;> rfl
theorem c_mrealm_isName (a0:ByteArray):Vm.call TT 107 [.str a0] = (mrealm_isName a0).map fun (r:Bool)=>.bool r:=by
 refine (call_eqF (show TT 107 = some (.code ⟨1,54,[.tmp 2],bd107,false,false⟩) from rfl) _ rfl rfl).trans ?_
 show evK TT bd107 ⟨[(0,.d (.str a0))],[]⟩ _ = _
 simp -implicitDefEqProofs (decide:=true) (maxSteps:=2000000) only [bd107,mrealm_isName,↓e_mrealm_isName_j1,↓e_mrealm_isName_l2,↓DN,↓DR,DQ,DP,↓reduceIte,Int.reduceToNat,Nat.reduceBEq,Nat.reduceAdd,Nat.reduceLT,Nat.reduceLeDiff,Nat.reduceEqDiff,Int.reduceEq,ne_eq,not_false_eq_true,reduceCtorEq,specL,specO,specP,beq_self_eq_true,List.length_cons,List.length_nil,cM_length,Bool.not_true,Bool.not_false,if_true,if_false,List.replicate_succ,List.replicate_zero,dcells_len,Option.bind_some,none_bind,Option.map_some,Option.map_none,Sum.elim_inl,Sum.elim_inr,sized_cI,sized_cB,sized_cS,sized_cL,sized_cK,stepR_none,stepR_inl,stepR_inr,elim_stepR,stepR_ite,stepR_bind,ite_bind,ite_map,Vm.bind_map,elim_bind,elim_map,Option.bind_assoc]
 all_goals try simp only [gIf_eq]
 all_goals try rfl
theorem k_mrealm_isName {β:Type} (a0:ByteArray) (d:Nat) (bl:List (Nat × Option Blk)) (fz:List (Nat × Option Blk)) (k:V→Option β) (kw:V→List (Nat × Option Blk)→Option β):callF TT d bl 107 [.str a0] fz k kw = (mrealm_isName a0).bind fun (r:Bool)=>k (.d (.bool r)):=by
 have h:=c_mrealm_isName a0
 exact callF_flat h (fun _=>rfl) fz
theorem h_mslices_Index_string_string_l1 (a0:List ByteArray) (a1:ByteArray) (p1:Int):evK TT b_mslices_Index_string_string_l1 ⟨[(0,.d (.sl (cM cS a0))),(1,.d (.str a1)),(7,.d (.int .i64 (a0.length:Int))),(8,.d (.int .i64 p1))],[]⟩ (fun e s=>some (e,s)) = stepR (fun (w:Int)=>(⟨[(0,.d (.sl (cM cS a0))),(1,.d (.str a1)),(7,.d (.int .i64 (a0.length:Int))),(8,.d (.int .i64 w))],[]⟩ : St)) (fun (r:Unit ⊕ Int)=>Sum.elim (fun (z:Unit)=>(((.exit 0),⟨[],[]⟩):Ex × St)) (fun (z:Int)=>((.ret,⟨[(4,.d (.int .i64 z))],[]⟩):Ex × St)) r) (mslices_Index_string_string_l1_s a0 a1 p1):=by
 simp -implicitDefEqProofs (decide:=true) (maxSteps:=2000000) only [b_mslices_Index_string_string_l1,mslices_Index_string_string_l1_s,↓DN,↓DR,DQ,DP,↓reduceIte,Int.reduceToNat,Nat.reduceBEq,Nat.reduceAdd,Nat.reduceLT,Nat.reduceLeDiff,Nat.reduceEqDiff,Int.reduceEq,ne_eq,not_false_eq_true,reduceCtorEq,specL,specO,specP,beq_self_eq_true,List.length_cons,List.length_nil,cM_length,Bool.not_true,Bool.not_false,if_true,if_false,List.replicate_succ,List.replicate_zero,dcells_len,Option.bind_some,none_bind,Option.map_some,Option.map_none,Sum.elim_inl,Sum.elim_inr,sized_cI,sized_cB,sized_cS,sized_cL,sized_cK,stepR_none,stepR_inl,stepR_inr,elim_stepR,stepR_ite,stepR_bind,ite_bind,ite_map,Vm.bind_map,elim_bind,elim_map,Option.bind_assoc]
 all_goals try simp only [gIf_eq]
 all_goals try rfl
theorem e_mslices_Index_string_string_l1 {β:Type} (a0:List ByteArray) (a1:ByteArray) (p1:Int) (k:Ex→St→Option β):evK TT c_mslices_Index_string_string_l1 ⟨[(0,.d (.sl (cM cS a0))),(1,.d (.str a1)),(7,.d (.int .i64 (a0.length:Int))),(8,.d (.int .i64 p1))],[]⟩ k = (mslices_Index_string_string_l1 a0 a1 p1).bind (fun (r:Unit ⊕ Int)=>Sum.elim (fun (z:Unit)=>k (.exit 0) ⟨[],[]⟩) (fun (z:Int)=>k .ret ⟨[(4,.d (.int .i64 z))],[]⟩) r):=by
 have hh:=fun (w:Int)=>h_mslices_Index_string_string_l1 a0 a1 w
 have h:=fun ho=>evK_loop (T:=TT) (k:=k) (c:=b_mslices_Index_string_string_l1) (step:=(fun (w:Int)=>mslices_Index_string_string_l1_s a0 a1 w)) _ _ ho hh p1
 refine Eq.trans (h (fun r s e=>by have q:=congrArg Prod.fst e; rcases r with x | x <;> cases q)) ?_
 unfold mslices_Index_string_string_l1
 exact bind_congr' _ fun x=>by rcases x with x | x <;> rfl
theorem c_mslices_Index_string_string (a0:List ByteArray) (a1:ByteArray):Vm.call TT 126 [.sl (cM cS a0),.str a1] = (mslices_Index_string_string a0 a1).map fun (r:Int)=>.int .i64 r:=by
 refine (call_eqF (show TT 126 = some (.code ⟨2,19,[.tmp 4],bd126,false,false⟩) from rfl) _ rfl rfl).trans ?_
 show evK TT bd126 ⟨[(0,.d (.sl (cM cS a0))),(1,.d (.str a1))],[]⟩ _ = _
 simp -implicitDefEqProofs (decide:=true) (maxSteps:=2000000) only [bd126,mslices_Index_string_string,↓e_mslices_Index_string_string_l1,↓DN,↓DR,DQ,DP,↓reduceIte,Int.reduceToNat,Nat.reduceBEq,Nat.reduceAdd,Nat.reduceLT,Nat.reduceLeDiff,Nat.reduceEqDiff,Int.reduceEq,ne_eq,not_false_eq_true,reduceCtorEq,specL,specO,specP,beq_self_eq_true,List.length_cons,List.length_nil,cM_length,Bool.not_true,Bool.not_false,if_true,if_false,List.replicate_succ,List.replicate_zero,dcells_len,Option.bind_some,none_bind,Option.map_some,Option.map_none,Sum.elim_inl,Sum.elim_inr,sized_cI,sized_cB,sized_cS,sized_cL,sized_cK,stepR_none,stepR_inl,stepR_inr,elim_stepR,stepR_ite,stepR_bind,ite_bind,ite_map,Vm.bind_map,elim_bind,elim_map,Option.bind_assoc]
 all_goals try simp only [gIf_eq]
 all_goals try rfl
theorem k_mslices_Index_string_string {β:Type} (a0:List ByteArray) (a1:ByteArray) (d:Nat) (bl:List (Nat × Option Blk)) (fz:List (Nat × Option Blk)) (k:V→Option β) (kw:V→List (Nat × Option Blk)→Option β):callF TT d bl 126 [.sl (cM cS a0),.str a1] fz k kw = (mslices_Index_string_string a0 a1).bind fun (r:Int)=>k (.d (.int .i64 r)):=by
 have h:=c_mslices_Index_string_string a0 a1
 exact callF_flat h (fun _=>rfl) fz
theorem c_mslices_Contains_string_string (a0:List ByteArray) (a1:ByteArray):Vm.call TT 108 [.sl (cM cS a0),.str a1] = (mslices_Contains_string_string a0 a1).map fun (r:Bool)=>.bool r:=by
 refine (call_eqF (show TT 108 = some (.code ⟨2,9,[.tmp 4],bd108,false,false⟩) from rfl) _ rfl rfl).trans ?_
 show evK TT bd108 ⟨[(0,.d (.sl (cM cS a0))),(1,.d (.str a1))],[]⟩ _ = _
 simp -implicitDefEqProofs (decide:=true) (maxSteps:=2000000) only [bd108,mslices_Contains_string_string,↓k_mslices_Index_string_string,↓DN,↓DR,DQ,DP,↓reduceIte,Int.reduceToNat,Nat.reduceBEq,Nat.reduceAdd,Nat.reduceLT,Nat.reduceLeDiff,Nat.reduceEqDiff,Int.reduceEq,ne_eq,not_false_eq_true,reduceCtorEq,specL,specO,specP,beq_self_eq_true,List.length_cons,List.length_nil,cM_length,Bool.not_true,Bool.not_false,if_true,if_false,List.replicate_succ,List.replicate_zero,dcells_len,Option.bind_some,none_bind,Option.map_some,Option.map_none,Sum.elim_inl,Sum.elim_inr,sized_cI,sized_cB,sized_cS,sized_cL,sized_cK,stepR_none,stepR_inl,stepR_inr,elim_stepR,stepR_ite,stepR_bind,ite_bind,ite_map,Vm.bind_map,elim_bind,elim_map,Option.bind_assoc]
 all_goals try simp only [gIf_eq]
 all_goals try rfl
theorem k_mslices_Contains_string_string {β:Type} (a0:List ByteArray) (a1:ByteArray) (d:Nat) (bl:List (Nat × Option Blk)) (fz:List (Nat × Option Blk)) (k:V→Option β) (kw:V→List (Nat × Option Blk)→Option β):callF TT d bl 108 [.sl (cM cS a0),.str a1] fz k kw = (mslices_Contains_string_string a0 a1).bind fun (r:Bool)=>k (.d (.bool r)):=by
 have h:=c_mslices_Contains_string_string a0 a1
 exact callF_flat h (fun _=>rfl) fz
theorem c_mrealm_named (a0:List ByteArray) (a1:Int):Vm.call TT 92 [.sl (cM cS a0),.int .i64 a1] = (mrealm_named a0 a1).map fun (r:Int)=>.int .i64 r:=by
 refine (call_eqF (show TT 92 = some (.code ⟨2,19,[.tmp 4],bd92,false,false⟩) from rfl) _ rfl rfl).trans ?_
 show evK TT bd92 ⟨[(0,.d (.sl (cM cS a0))),(1,.d (.int .i64 a1))],[]⟩ _ = _
 simp -implicitDefEqProofs (decide:=true) (maxSteps:=2000000) only [bd92,mrealm_named,↓k_mrealm_isName,↓k_mslices_Contains_string_string,↓DN,↓DR,DQ,DP,↓reduceIte,Int.reduceToNat,Nat.reduceBEq,Nat.reduceAdd,Nat.reduceLT,Nat.reduceLeDiff,Nat.reduceEqDiff,Int.reduceEq,ne_eq,not_false_eq_true,reduceCtorEq,specL,specO,specP,beq_self_eq_true,List.length_cons,List.length_nil,cM_length,Bool.not_true,Bool.not_false,if_true,if_false,List.replicate_succ,List.replicate_zero,dcells_len,Option.bind_some,none_bind,Option.map_some,Option.map_none,Sum.elim_inl,Sum.elim_inr,sized_cI,sized_cB,sized_cS,sized_cL,sized_cK,stepR_none,stepR_inl,stepR_inr,elim_stepR,stepR_ite,stepR_bind,ite_bind,ite_map,Vm.bind_map,elim_bind,elim_map,Option.bind_assoc]
 all_goals try simp only [gIf_eq]
 all_goals try rfl
theorem k_mrealm_named {β:Type} (a0:List ByteArray) (a1:Int) (d:Nat) (bl:List (Nat × Option Blk)) (fz:List (Nat × Option Blk)) (k:V→Option β) (kw:V→List (Nat × Option Blk)→Option β):callF TT d bl 92 [.sl (cM cS a0),.int .i64 a1] fz k kw = (mrealm_named a0 a1).bind fun (r:Int)=>k (.d (.int .i64 r)):=by
 have h:=c_mrealm_named a0 a1
 exact callF_flat h (fun _=>rfl) fz
theorem c_mrealm_Check_1 (a0:Int):Vm.call TT 64 [.int .i64 a0] = (mrealm_Check_1 a0).map fun (r:Bool)=>.bool r:=by
 refine (call_eqF (show TT 64 = some (.code ⟨1,3,[.tmp 2],bd64,false,false⟩) from rfl) _ rfl rfl).trans ?_
 show evK TT bd64 ⟨[(0,.d (.int .i64 a0))],[]⟩ _ = _
 simp -implicitDefEqProofs (decide:=true) (maxSteps:=2000000) only [bd64,mrealm_Check_1,↓DN,↓DR,DQ,DP,↓reduceIte,Int.reduceToNat,Nat.reduceBEq,Nat.reduceAdd,Nat.reduceLT,Nat.reduceLeDiff,Nat.reduceEqDiff,Int.reduceEq,ne_eq,not_false_eq_true,reduceCtorEq,specL,specO,specP,beq_self_eq_true,List.length_cons,List.length_nil,cM_length,Bool.not_true,Bool.not_false,if_true,if_false,List.replicate_succ,List.replicate_zero,dcells_len,Option.bind_some,none_bind,Option.map_some,Option.map_none,Sum.elim_inl,Sum.elim_inr,sized_cI,sized_cB,sized_cS,sized_cL,sized_cK,stepR_none,stepR_inl,stepR_inr,elim_stepR,stepR_ite,stepR_bind,ite_bind,ite_map,Vm.bind_map,elim_bind,elim_map,Option.bind_assoc]
 all_goals try simp only [gIf_eq]
 all_goals try rfl
theorem k_mrealm_Check_1 {β:Type} (a0:Int) (d:Nat) (bl:List (Nat × Option Blk)) (fz:List (Nat × Option Blk)) (k:V→Option β) (kw:V→List (Nat × Option Blk)→Option β):callF TT d bl 64 [.int .i64 a0] fz k kw = (mrealm_Check_1 a0).bind fun (r:Bool)=>k (.d (.bool r)):=by
 have h:=c_mrealm_Check_1 a0
 exact callF_flat h (fun _=>rfl) fz
theorem h_mrealm_fits_s1_l1 (a0:List ByteArray) (p1:Int):evK TT b_mrealm_fits_l1 ⟨[(0,.d (.sl (cM cS a0))),(2,.d (.fn 64 [])),(14,.d (.int .i64 (a0.length:Int))),(15,.d (.int .i64 p1))],[]⟩ (fun e s=>some (e,s)) = stepR (fun (w:Int)=>(⟨[(0,.d (.sl (cM cS a0))),(2,.d (.fn 64 [])),(14,.d (.int .i64 (a0.length:Int))),(15,.d (.int .i64 w))],[]⟩ : St)) (fun (r:Unit ⊕ Int)=>Sum.elim (fun (z:Unit)=>(((.exit 0),⟨[],[]⟩):Ex × St)) (fun (z:Int)=>((.ret,⟨[(6,.d (.int .i64 z))],[]⟩):Ex × St)) r) (mrealm_fits_s1_l1_s a0 p1):=by
 simp -implicitDefEqProofs (decide:=true) (maxSteps:=2000000) only [b_mrealm_fits_l1,mrealm_fits_s1_l1_s,↓k_mrealm_Check_1,↓k_mrealm_named,↓DN,↓DR,DQ,DP,↓reduceIte,Int.reduceToNat,Nat.reduceBEq,Nat.reduceAdd,Nat.reduceLT,Nat.reduceLeDiff,Nat.reduceEqDiff,Int.reduceEq,ne_eq,not_false_eq_true,reduceCtorEq,specL,specO,specP,beq_self_eq_true,List.length_cons,List.length_nil,cM_length,Bool.not_true,Bool.not_false,if_true,if_false,List.replicate_succ,List.replicate_zero,dcells_len,Option.bind_some,none_bind,Option.map_some,Option.map_none,Sum.elim_inl,Sum.elim_inr,sized_cI,sized_cB,sized_cS,sized_cL,sized_cK,stepR_none,stepR_inl,stepR_inr,elim_stepR,stepR_ite,stepR_bind,ite_bind,ite_map,Vm.bind_map,elim_bind,elim_map,Option.bind_assoc]
 all_goals try simp only [gIf_eq]
 all_goals try rfl
theorem e_mrealm_fits_s1_l1 {β:Type} (a0:List ByteArray) (p1:Int) (k:Ex→St→Option β):evK TT c_mrealm_fits_l1 ⟨[(0,.d (.sl (cM cS a0))),(2,.d (.fn 64 [])),(14,.d (.int .i64 (a0.length:Int))),(15,.d (.int .i64 p1))],[]⟩ k = (mrealm_fits_s1_l1 a0 p1).bind (fun (r:Unit ⊕ Int)=>Sum.elim (fun (z:Unit)=>k (.exit 0) ⟨[],[]⟩) (fun (z:Int)=>k .ret ⟨[(6,.d (.int .i64 z))],[]⟩) r):=by
 have hh:=fun (w:Int)=>h_mrealm_fits_s1_l1 a0 w
 have h:=fun ho=>evK_loop (T:=TT) (k:=k) (c:=b_mrealm_fits_l1) (step:=(fun (w:Int)=>mrealm_fits_s1_l1_s a0 w)) _ _ ho hh p1
 refine Eq.trans (h (fun r s e=>by have q:=congrArg Prod.fst e; rcases r with x | x <;> cases q)) ?_
 unfold mrealm_fits_s1_l1
 exact bind_congr' _ fun x=>by rcases x with x | x <;> rfl
theorem c_mrealm_fits_s1 (a0:List ByteArray) (a1:Int):Vm.call TT 63 [.sl (cM cS a0),.int .i64 a1,.fn 64 []] = (mrealm_fits_s1 a0 a1).map fun (r:Int)=>.int .i64 r:=by
 refine (call_eqF (show TT 63 = some (.code ⟨3,29,[.tmp 6],bd63,false,false⟩) from rfl) _ rfl rfl).trans ?_
 show evK TT bd63 ⟨[(0,.d (.sl (cM cS a0))),(1,.d (.int .i64 a1)),(2,.d (.fn 64 []))],[]⟩ _ = _
 simp -implicitDefEqProofs (decide:=true) (maxSteps:=2000000) only [bd63,mrealm_fits_s1,↓e_mrealm_fits_s1_l1,↓k_mrealm_Check_1,↓k_mrealm_named,↓DN,↓DR,DQ,DP,↓reduceIte,Int.reduceToNat,Nat.reduceBEq,Nat.reduceAdd,Nat.reduceLT,Nat.reduceLeDiff,Nat.reduceEqDiff,Int.reduceEq,ne_eq,not_false_eq_true,reduceCtorEq,specL,specO,specP,beq_self_eq_true,List.length_cons,List.length_nil,cM_length,Bool.not_true,Bool.not_false,if_true,if_false,List.replicate_succ,List.replicate_zero,dcells_len,Option.bind_some,none_bind,Option.map_some,Option.map_none,Sum.elim_inl,Sum.elim_inr,sized_cI,sized_cB,sized_cS,sized_cL,sized_cK,stepR_none,stepR_inl,stepR_inr,elim_stepR,stepR_ite,stepR_bind,ite_bind,ite_map,Vm.bind_map,elim_bind,elim_map,Option.bind_assoc]
 all_goals try simp only [gIf_eq]
 all_goals try rfl
theorem k_mrealm_fits_s1 {β:Type} (a0:List ByteArray) (a1:Int) (d:Nat) (bl:List (Nat × Option Blk)) (fz:List (Nat × Option Blk)) (k:V→Option β) (kw:V→List (Nat × Option Blk)→Option β):callF TT d bl 63 [.sl (cM cS a0),.int .i64 a1,.fn 64 []] fz k kw = (mrealm_fits_s1 a0 a1).bind fun (r:Int)=>k (.d (.int .i64 r)):=by
 have h:=c_mrealm_fits_s1 a0 a1
 exact callF_flat h (fun _=>rfl) fz
theorem c_mrealm_in (a0:Int) (a1:Int):Vm.call TT 67 [.int .i64 a0,.int .i64 a1] = (mrealm_in a0 a1).map fun (r:Bool)=>.bool r:=by
 refine (call_eqF (show TT 67 = some (.code ⟨2,12,[.tmp 4],bd67,false,false⟩) from rfl) _ rfl rfl).trans ?_
 show evK TT bd67 ⟨[(0,.d (.int .i64 a0)),(1,.d (.int .i64 a1))],[]⟩ _ = _
 simp -implicitDefEqProofs (decide:=true) (maxSteps:=2000000) only [bd67,mrealm_in,↓DN,↓DR,DQ,DP,↓reduceIte,Int.reduceToNat,Nat.reduceBEq,Nat.reduceAdd,Nat.reduceLT,Nat.reduceLeDiff,Nat.reduceEqDiff,Int.reduceEq,ne_eq,not_false_eq_true,reduceCtorEq,specL,specO,specP,beq_self_eq_true,List.length_cons,List.length_nil,cM_length,Bool.not_true,Bool.not_false,if_true,if_false,List.replicate_succ,List.replicate_zero,dcells_len,Option.bind_some,none_bind,Option.map_some,Option.map_none,Sum.elim_inl,Sum.elim_inr,sized_cI,sized_cB,sized_cS,sized_cL,sized_cK,stepR_none,stepR_inl,stepR_inr,elim_stepR,stepR_ite,stepR_bind,ite_bind,ite_map,Vm.bind_map,elim_bind,elim_map,Option.bind_assoc]
 all_goals try simp only [gIf_eq]
 all_goals try rfl
theorem k_mrealm_in {β:Type} (a0:Int) (a1:Int) (d:Nat) (bl:List (Nat × Option Blk)) (fz:List (Nat × Option Blk)) (k:V→Option β) (kw:V→List (Nat × Option Blk)→Option β):callF TT d bl 67 [.int .i64 a0,.int .i64 a1] fz k kw = (mrealm_in a0 a1).bind fun (r:Bool)=>k (.d (.bool r)):=by
 have h:=c_mrealm_in a0 a1
 exact callF_flat h (fun _=>rfl) fz
theorem h_mrealm_rising_l1 (a0:List Int) (a1:Int) (a2:Int) (p1:Int):evK TT b_mrealm_rising_l1 ⟨[(0,.d (.sl (cM cI a0))),(1,.d (.int .i64 a1)),(2,.d (.int .i64 a2)),(9,.d (.sl (cM cI a0))),(10,.d (.int .i64 (a0.length:Int))),(11,.d (.int .i64 p1))],[]⟩ (fun e s=>some (e,s)) = stepR (fun (w:Int)=>(⟨[(0,.d (.sl (cM cI a0))),(1,.d (.int .i64 a1)),(2,.d (.int .i64 a2)),(9,.d (.sl (cM cI a0))),(10,.d (.int .i64 (a0.length:Int))),(11,.d (.int .i64 w))],[]⟩ : St)) (fun (r:Unit ⊕ Unit)=>Sum.elim (fun (z:Unit)=>(((.exit 0),⟨[],[]⟩):Ex × St)) (fun (z:Unit)=>((.ret,⟨[(6,.d (.bool false))],[]⟩):Ex × St)) r) (mrealm_rising_l1_s a0 a1 a2 p1):=by
 simp -implicitDefEqProofs (decide:=true) (maxSteps:=2000000) only [b_mrealm_rising_l1,mrealm_rising_l1_s,↓DN,↓DR,DQ,DP,↓reduceIte,Int.reduceToNat,Nat.reduceBEq,Nat.reduceAdd,Nat.reduceLT,Nat.reduceLeDiff,Nat.reduceEqDiff,Int.reduceEq,ne_eq,not_false_eq_true,reduceCtorEq,specL,specO,specP,beq_self_eq_true,List.length_cons,List.length_nil,cM_length,Bool.not_true,Bool.not_false,if_true,if_false,List.replicate_succ,List.replicate_zero,dcells_len,Option.bind_some,none_bind,Option.map_some,Option.map_none,Sum.elim_inl,Sum.elim_inr,sized_cI,sized_cB,sized_cS,sized_cL,sized_cK,stepR_none,stepR_inl,stepR_inr,elim_stepR,stepR_ite,stepR_bind,ite_bind,ite_map,Vm.bind_map,elim_bind,elim_map,Option.bind_assoc]
 all_goals try simp only [gIf_eq]
 all_goals try rfl
theorem e_mrealm_rising_l1 {β:Type} (a0:List Int) (a1:Int) (a2:Int) (p1:Int) (k:Ex→St→Option β):evK TT c_mrealm_rising_l1 ⟨[(0,.d (.sl (cM cI a0))),(1,.d (.int .i64 a1)),(2,.d (.int .i64 a2)),(9,.d (.sl (cM cI a0))),(10,.d (.int .i64 (a0.length:Int))),(11,.d (.int .i64 p1))],[]⟩ k = (mrealm_rising_l1 a0 a1 a2 p1).bind (fun (r:Unit ⊕ Unit)=>Sum.elim (fun (z:Unit)=>k (.exit 0) ⟨[],[]⟩) (fun (z:Unit)=>k .ret ⟨[(6,.d (.bool false))],[]⟩) r):=by
 have hh:=fun (w:Int)=>h_mrealm_rising_l1 a0 a1 a2 w
 have h:=fun ho=>evK_loop (T:=TT) (k:=k) (c:=b_mrealm_rising_l1) (step:=(fun (w:Int)=>mrealm_rising_l1_s a0 a1 a2 w)) _ _ ho hh p1
 refine Eq.trans (h (fun r s e=>by have q:=congrArg Prod.fst e; rcases r with x | x <;> cases q)) ?_
 unfold mrealm_rising_l1
 exact bind_congr' _ fun x=>by rcases x with x | x <;> rfl
theorem c_mrealm_rising (a0:List Int) (a1:Int) (a2:Int):Vm.call TT 93 [.sl (cM cI a0),.int .i64 a1,.int .i64 a2] = (mrealm_rising a0 a1 a2).map fun (r:Bool)=>.bool r:=by
 refine (call_eqF (show TT 93 = some (.code ⟨3,38,[.tmp 6],bd93,false,false⟩) from rfl) _ rfl rfl).trans ?_
 show evK TT bd93 ⟨[(0,.d (.sl (cM cI a0))),(1,.d (.int .i64 a1)),(2,.d (.int .i64 a2))],[]⟩ _ = _
 simp -implicitDefEqProofs (decide:=true) (maxSteps:=2000000) only [bd93,mrealm_rising,↓e_mrealm_rising_l1,↓DN,↓DR,DQ,DP,↓reduceIte,Int.reduceToNat,Nat.reduceBEq,Nat.reduceAdd,Nat.reduceLT,Nat.reduceLeDiff,Nat.reduceEqDiff,Int.reduceEq,ne_eq,not_false_eq_true,reduceCtorEq,specL,specO,specP,beq_self_eq_true,List.length_cons,List.length_nil,cM_length,Bool.not_true,Bool.not_false,if_true,if_false,List.replicate_succ,List.replicate_zero,dcells_len,Option.bind_some,none_bind,Option.map_some,Option.map_none,Sum.elim_inl,Sum.elim_inr,sized_cI,sized_cB,sized_cS,sized_cL,sized_cK,stepR_none,stepR_inl,stepR_inr,elim_stepR,stepR_ite,stepR_bind,ite_bind,ite_map,Vm.bind_map,elim_bind,elim_map,Option.bind_assoc]
 all_goals try simp only [gIf_eq]
 all_goals try rfl
theorem k_mrealm_rising {β:Type} (a0:List Int) (a1:Int) (a2:Int) (d:Nat) (bl:List (Nat × Option Blk)) (fz:List (Nat × Option Blk)) (k:V→Option β) (kw:V→List (Nat × Option Blk)→Option β):callF TT d bl 93 [.sl (cM cI a0),.int .i64 a1,.int .i64 a2] fz k kw = (mrealm_rising a0 a1 a2).bind fun (r:Bool)=>k (.d (.bool r)):=by
 have h:=c_mrealm_rising a0 a1 a2
 exact callF_flat h (fun _=>rfl) fz
theorem h_mrealm_city_l1 (a0:GRealm) (a1:GCity) (p1:Int):evK TT b_mrealm_city_l1 ⟨[(2,.ptr 2 0),(3,.ptr 3 0),(8,.d (.sl (cM cI a1.Feasts))),(9,.d (.int .i64 (a1.Feasts.length:Int))),(10,.d (.int .i64 p1))],[(2,some (.box (dcells (GRealm.cells a0)))),(3,some (.box (dcells (GCity.cells a1))))]⟩ (fun e s=>some (e,s)) = stepR (fun (w:Int)=>(⟨[(2,.ptr 2 0),(3,.ptr 3 0),(8,.d (.sl (cM cI a1.Feasts))),(9,.d (.int .i64 (a1.Feasts.length:Int))),(10,.d (.int .i64 w))],[(2,some (.box (dcells (GRealm.cells a0)))),(3,some (.box (dcells (GCity.cells a1))))]⟩ : St)) (fun (r:Unit ⊕ Unit)=>Sum.elim (fun (z:Unit)=>(((.exit 0),⟨[(2,.ptr 2 0),(3,.ptr 3 0)],[(2,some (.box (dcells (GRealm.cells a0)))),(3,some (.box (dcells (GCity.cells a1))))]⟩):Ex × St)) (fun (z:Unit)=>((.ret,⟨[(4,.d (.bool false))],[]⟩):Ex × St)) r) (mrealm_city_l1_s a0 a1 p1):=by
 simp -implicitDefEqProofs (decide:=true) (maxSteps:=2000000) only [b_mrealm_city_l1,mrealm_city_l1_s,↓k_mrealm_in,↓k_mrealm_rising,↓DN,↓DR,DQ,DP,↓reduceIte,Int.reduceToNat,Nat.reduceBEq,Nat.reduceAdd,Nat.reduceLT,Nat.reduceLeDiff,Nat.reduceEqDiff,Int.reduceEq,ne_eq,not_false_eq_true,reduceCtorEq,specL,specO,specP,beq_self_eq_true,List.length_cons,List.length_nil,cM_length,Bool.not_true,Bool.not_false,if_true,if_false,List.replicate_succ,List.replicate_zero,dcells_len,Option.bind_some,none_bind,Option.map_some,Option.map_none,Sum.elim_inl,Sum.elim_inr,sized_cI,sized_cB,sized_cS,sized_cL,sized_cK,stepR_none,stepR_inl,stepR_inr,elim_stepR,stepR_ite,stepR_bind,ite_bind,ite_map,Vm.bind_map,elim_bind,elim_map,Option.bind_assoc]
 all_goals try simp only [gIf_eq]
 all_goals try rfl
theorem e_mrealm_city_l1 {β:Type} (a0:GRealm) (a1:GCity) (p1:Int) (k:Ex→St→Option β):evK TT c_mrealm_city_l1 ⟨[(2,.ptr 2 0),(3,.ptr 3 0),(8,.d (.sl (cM cI a1.Feasts))),(9,.d (.int .i64 (a1.Feasts.length:Int))),(10,.d (.int .i64 p1))],[(2,some (.box (dcells (GRealm.cells a0)))),(3,some (.box (dcells (GCity.cells a1))))]⟩ k = (mrealm_city_l1 a0 a1 p1).bind (fun (r:Unit ⊕ Unit)=>Sum.elim (fun (z:Unit)=>k (.exit 0) ⟨[(2,.ptr 2 0),(3,.ptr 3 0)],[(2,some (.box (dcells (GRealm.cells a0)))),(3,some (.box (dcells (GCity.cells a1))))]⟩) (fun (z:Unit)=>k .ret ⟨[(4,.d (.bool false))],[]⟩) r):=by
 have hh:=fun (w:Int)=>h_mrealm_city_l1 a0 a1 w
 have h:=fun ho=>evK_loop (T:=TT) (k:=k) (c:=b_mrealm_city_l1) (step:=(fun (w:Int)=>mrealm_city_l1_s a0 a1 w)) _ _ ho hh p1
 refine Eq.trans (h (fun r s e=>by have q:=congrArg Prod.fst e; rcases r with x | x <;> cases q)) ?_
 unfold mrealm_city_l1
 exact bind_congr' _ fun x=>by rcases x with x | x <;> rfl
theorem c_mrealm_city (a0:GRealm) (a1:GCity):Vm.call TT 66 [.agg (GRealm.cells a0),.agg (GCity.cells a1)] = (mrealm_city a0 a1).map fun (r:Bool)=>.bool r:=by
 refine (call_eqF (show TT 66 = some (.code ⟨2,64,[.tmp 4],bd66,false,false⟩) from rfl) _ rfl rfl).trans ?_
 show evK TT bd66 ⟨[(0,aggD (GRealm.cells a0)),(1,aggD (GCity.cells a1))],[]⟩ _ = _
 simp -implicitDefEqProofs (decide:=true) (maxSteps:=2000000) only [bd66,mrealm_city,↓e_mrealm_city_l1,↓k_mrealm_in,↓k_mrealm_rising,↓DN,↓DR,DQ,DP,↓reduceIte,Int.reduceToNat,Nat.reduceBEq,Nat.reduceAdd,Nat.reduceLT,Nat.reduceLeDiff,Nat.reduceEqDiff,Int.reduceEq,ne_eq,not_false_eq_true,reduceCtorEq,specL,specO,specP,beq_self_eq_true,List.length_cons,List.length_nil,cM_length,Bool.not_true,Bool.not_false,if_true,if_false,List.replicate_succ,List.replicate_zero,dcells_len,Option.bind_some,none_bind,Option.map_some,Option.map_none,Sum.elim_inl,Sum.elim_inr,sized_cI,sized_cB,sized_cS,sized_cL,sized_cK,stepR_none,stepR_inl,stepR_inr,elim_stepR,stepR_ite,stepR_bind,ite_bind,ite_map,Vm.bind_map,elim_bind,elim_map,Option.bind_assoc]
 all_goals try simp only [gIf_eq]
 all_goals try rfl
theorem k_mrealm_city {β:Type} (a0:GRealm) (a1:GCity) (d:Nat) (bl:List (Nat × Option Blk)) (fz:List (Nat × Option Blk)) (k:V→Option β) (kw:V→List (Nat × Option Blk)→Option β):callF TT d bl 66 [.agg (GRealm.cells a0),.agg (GCity.cells a1)] fz k kw = (mrealm_city a0 a1).bind fun (r:Bool)=>k (.d (.bool r)):=by
 have h:=c_mrealm_city a0 a1
 exact callF_flat h (fun _=>rfl) fz
theorem c_mrealm_Check_2_s1 (a0:Int) (a1:GRealm):Vm.call TT 65 [.int .i64 a0,.ptr (GRealm.cells a1) 0] = (mrealm_Check_2_s1 a0 a1).map fun (r:Bool)=>.bool r:=by
 refine (call_eqF (show TT 65 = some (.code ⟨2,11,[.tmp 3],bd65,false,false⟩) from rfl) _ rfl rfl).trans ?_
 show evK TT bd65 ⟨[(0,.d (.int .i64 a0)),(1,.d (.ptr (GRealm.cells a1) 0))],[]⟩ _ = _
 simp -implicitDefEqProofs (decide:=true) (maxSteps:=2000000) only [bd65,mrealm_Check_2_s1,↓k_mrealm_city,↓DN,↓DR,DQ,DP,↓reduceIte,Int.reduceToNat,Nat.reduceBEq,Nat.reduceAdd,Nat.reduceLT,Nat.reduceLeDiff,Nat.reduceEqDiff,Int.reduceEq,ne_eq,not_false_eq_true,reduceCtorEq,specL,specO,specP,beq_self_eq_true,List.length_cons,List.length_nil,cM_length,Bool.not_true,Bool.not_false,if_true,if_false,List.replicate_succ,List.replicate_zero,dcells_len,Option.bind_some,none_bind,Option.map_some,Option.map_none,Sum.elim_inl,Sum.elim_inr,sized_cI,sized_cB,sized_cS,sized_cL,sized_cK,stepR_none,stepR_inl,stepR_inr,elim_stepR,stepR_ite,stepR_bind,ite_bind,ite_map,Vm.bind_map,elim_bind,elim_map,Option.bind_assoc]
 all_goals try simp only [gIf_eq]
 all_goals try rfl
theorem k_mrealm_Check_2_s1 {β:Type} (a0:Int) (a1:GRealm) (d:Nat) (bl:List (Nat × Option Blk)) (fz:List (Nat × Option Blk)) (k:V→Option β) (kw:V→List (Nat × Option Blk)→Option β):callF TT d bl 65 [.int .i64 a0,.ptr (GRealm.cells a1) 0] fz k kw = (mrealm_Check_2_s1 a0 a1).bind fun (r:Bool)=>k (.d (.bool r)):=by
 have h:=c_mrealm_Check_2_s1 a0 a1
 exact callF_flat h (fun _=>rfl) fz
theorem h_mrealm_fits_s2_l1 (a0:List ByteArray) (a2:GRealm) (p1:Int):evK TT b_mrealm_fits_l1 ⟨[(0,.d (.sl (cM cS a0))),(2,.d (.fn 65 [.ptr (GRealm.cells a2) 0])),(14,.d (.int .i64 (a0.length:Int))),(15,.d (.int .i64 p1))],[]⟩ (fun e s=>some (e,s)) = stepR (fun (w:Int)=>(⟨[(0,.d (.sl (cM cS a0))),(2,.d (.fn 65 [.ptr (GRealm.cells a2) 0])),(14,.d (.int .i64 (a0.length:Int))),(15,.d (.int .i64 w))],[]⟩ : St)) (fun (r:Unit ⊕ Int)=>Sum.elim (fun (z:Unit)=>(((.exit 0),⟨[],[]⟩):Ex × St)) (fun (z:Int)=>((.ret,⟨[(6,.d (.int .i64 z))],[]⟩):Ex × St)) r) (mrealm_fits_s2_l1_s a0 a2 p1):=by
 simp -implicitDefEqProofs (decide:=true) (maxSteps:=2000000) only [b_mrealm_fits_l1,mrealm_fits_s2_l1_s,↓k_mrealm_Check_2_s1,↓k_mrealm_named,↓DN,↓DR,DQ,DP,↓reduceIte,Int.reduceToNat,Nat.reduceBEq,Nat.reduceAdd,Nat.reduceLT,Nat.reduceLeDiff,Nat.reduceEqDiff,Int.reduceEq,ne_eq,not_false_eq_true,reduceCtorEq,specL,specO,specP,beq_self_eq_true,List.length_cons,List.length_nil,cM_length,Bool.not_true,Bool.not_false,if_true,if_false,List.replicate_succ,List.replicate_zero,dcells_len,Option.bind_some,none_bind,Option.map_some,Option.map_none,Sum.elim_inl,Sum.elim_inr,sized_cI,sized_cB,sized_cS,sized_cL,sized_cK,stepR_none,stepR_inl,stepR_inr,elim_stepR,stepR_ite,stepR_bind,ite_bind,ite_map,Vm.bind_map,elim_bind,elim_map,Option.bind_assoc]
 all_goals try simp only [gIf_eq]
 all_goals try rfl
theorem e_mrealm_fits_s2_l1 {β:Type} (a0:List ByteArray) (a2:GRealm) (p1:Int) (k:Ex→St→Option β):evK TT c_mrealm_fits_l1 ⟨[(0,.d (.sl (cM cS a0))),(2,.d (.fn 65 [.ptr (GRealm.cells a2) 0])),(14,.d (.int .i64 (a0.length:Int))),(15,.d (.int .i64 p1))],[]⟩ k = (mrealm_fits_s2_l1 a0 a2 p1).bind (fun (r:Unit ⊕ Int)=>Sum.elim (fun (z:Unit)=>k (.exit 0) ⟨[],[]⟩) (fun (z:Int)=>k .ret ⟨[(6,.d (.int .i64 z))],[]⟩) r):=by
 have hh:=fun (w:Int)=>h_mrealm_fits_s2_l1 a0 a2 w
 have h:=fun ho=>evK_loop (T:=TT) (k:=k) (c:=b_mrealm_fits_l1) (step:=(fun (w:Int)=>mrealm_fits_s2_l1_s a0 a2 w)) _ _ ho hh p1
 refine Eq.trans (h (fun r s e=>by have q:=congrArg Prod.fst e; rcases r with x | x <;> cases q)) ?_
 unfold mrealm_fits_s2_l1
 exact bind_congr' _ fun x=>by rcases x with x | x <;> rfl
theorem c_mrealm_fits_s2 (a0:List ByteArray) (a1:Int) (a2:GRealm):Vm.call TT 63 [.sl (cM cS a0),.int .i64 a1,.fn 65 [.ptr (GRealm.cells a2) 0]] = (mrealm_fits_s2 a0 a1 a2).map fun (r:Int)=>.int .i64 r:=by
 refine (call_eqF (show TT 63 = some (.code ⟨3,29,[.tmp 6],bd63,false,false⟩) from rfl) _ rfl rfl).trans ?_
 show evK TT bd63 ⟨[(0,.d (.sl (cM cS a0))),(1,.d (.int .i64 a1)),(2,.d (.fn 65 [.ptr (GRealm.cells a2) 0]))],[]⟩ _ = _
 simp -implicitDefEqProofs (decide:=true) (maxSteps:=2000000) only [bd63,mrealm_fits_s2,↓e_mrealm_fits_s2_l1,↓k_mrealm_Check_2_s1,↓k_mrealm_named,↓DN,↓DR,DQ,DP,↓reduceIte,Int.reduceToNat,Nat.reduceBEq,Nat.reduceAdd,Nat.reduceLT,Nat.reduceLeDiff,Nat.reduceEqDiff,Int.reduceEq,ne_eq,not_false_eq_true,reduceCtorEq,specL,specO,specP,beq_self_eq_true,List.length_cons,List.length_nil,cM_length,Bool.not_true,Bool.not_false,if_true,if_false,List.replicate_succ,List.replicate_zero,dcells_len,Option.bind_some,none_bind,Option.map_some,Option.map_none,Sum.elim_inl,Sum.elim_inr,sized_cI,sized_cB,sized_cS,sized_cL,sized_cK,stepR_none,stepR_inl,stepR_inr,elim_stepR,stepR_ite,stepR_bind,ite_bind,ite_map,Vm.bind_map,elim_bind,elim_map,Option.bind_assoc]
 all_goals try simp only [gIf_eq]
 all_goals try rfl
theorem k_mrealm_fits_s2 {β:Type} (a0:List ByteArray) (a1:Int) (a2:GRealm) (d:Nat) (bl:List (Nat × Option Blk)) (fz:List (Nat × Option Blk)) (k:V→Option β) (kw:V→List (Nat × Option Blk)→Option β):callF TT d bl 63 [.sl (cM cS a0),.int .i64 a1,.fn 65 [.ptr (GRealm.cells a2) 0]] fz k kw = (mrealm_fits_s2 a0 a1 a2).bind fun (r:Int)=>k (.d (.int .i64 r)):=by
 have h:=c_mrealm_fits_s2 a0 a1 a2
 exact callF_flat h (fun _=>rfl) fz
end Go.Proofs.Ytlpgfmnicomjjaa
