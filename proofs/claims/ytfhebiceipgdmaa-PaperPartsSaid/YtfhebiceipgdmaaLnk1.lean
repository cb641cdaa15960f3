/- The functions of the small machine compute the plain definitions. Printed by a program. -/
import Derived.Test.YtfhebiceipgdmaaFn
set_option linter.unusedVariables false
set_option linter.unusedSimpArgs false
namespace Go.Proofs.Ytfhebiceipgdmaa
open Vm
open Go.RowKit
set_option maxRecDepth 100000
set_option maxHeartbeats 4000000
attribute [local congr] condK_congr opsK_congr opsDK_congr valK_congr
theorem c_mallongelaw12_example:Vm.call TT 56 [] = (mallongelaw12_example).map fun (r:GRealm × GFile)=>.tup [.agg (GRealm.cells r.1),.agg (GFile.cells r.2)]:=by
 refine (call_eqF (show TT 56 = some (.code ⟨0,25,[.cell 0 8 true,.cell 1 19 true],bd56,false⟩) from rfl) _ rfl).trans ?_
 show evK TT bd56 ⟨[],[]⟩ _ = _
 simp -implicitDefEqProofs (decide:=true) (maxSteps:=2000000) only [bd56,mallongelaw12_example,↓DN,↓DR,DQ,DP,↓reduceIte,Int.reduceToNat,Nat.reduceBEq,Nat.reduceAdd,Nat.reduceLT,Nat.reduceLeDiff,Nat.reduceEqDiff,Int.reduceEq,ne_eq,not_false_eq_true,reduceCtorEq,specL,specO,specP,beq_self_eq_true,List.length_cons,List.length_nil,cM_length,Bool.not_true,Bool.not_false,if_true,if_false,List.replicate_succ,List.replicate_zero,dcells_len,Option.bind_some,none_bind,Option.map_some,Option.map_none,Sum.elim_inl,Sum.elim_inr,sized_cI,sized_cB,sized_cS,sized_cL,sized_cK,stepR_none,stepR_inl,stepR_inr,elim_stepR,stepR_ite,stepR_bind,ite_bind,ite_map,bind_map,elim_bind,elim_map,Option.bind_assoc]
 all_goals try simp only [gIf_eq]
 all_goals try rfl
theorem k_mallongelaw12_example {β:Type} (d:Nat) (bl:List (Nat × Option Blk)) (fz:List (Nat × Option Blk)) (k:V→Option β) (kw:V→List (Nat × Option Blk)→Option β):callF TT d bl 56 [] fz k kw = (mallongelaw12_example).bind fun (r:GRealm × GFile)=>fzK fz (.tup [aggD (GRealm.cells r.1),aggD (GFile.cells r.2)]) k kw:=by
 have h:=c_mallongelaw12_example
 exact callF_deep h (fun _=>rfl) (fun _=>rfl) fz
theorem c_mslices_Clone_api_Sign_api_Sign (a0:List GSign):Vm.call TT 62 [.sl (cM GSign.cells a0)] = (mslices_Clone_api_Sign_api_Sign a0).map fun (r:(List GSign))=>.own (.ref 0) [(66,9)] [cM GSign.cells r]:=by
 refine (call_told (show TT 62 = some (.told o62) from rfl) _).trans ?_
 have h1:sized 9 (cM GSign.cells a0) = true:=sized_cM _ _ (fun x=>by rfl) a0
 have h2:atoms (cM GSign.cells a0) = true:=atoms_cM _ _ (fun x=>rfl)
 have h3:(cM GSign.cells a0).length = a0.length:=List.length_map ..
 simp only [o62,cloneW,h1,h2,h3,true_and,mslices_Clone_api_Sign_api_Sign]
 split <;> rfl
theorem c_mslices_Clone_api_Alter_api_Alter (a0:List GAlter):Vm.call TT 63 [.sl (cM GAlter.cells a0)] = (mslices_Clone_api_Alter_api_Alter a0).map fun (r:(List GAlter))=>.own (.ref 0) [(72,2)] [cM GAlter.cells r]:=by
 refine (call_told (show TT 63 = some (.told o63) from rfl) _).trans ?_
 have h1:sized 2 (cM GAlter.cells a0) = true:=sized_cM _ _ (fun x=>by rfl) a0
 have h2:atoms (cM GAlter.cells a0) = true:=atoms_cM _ _ (fun x=>rfl)
 have h3:(cM GAlter.cells a0).length = a0.length:=List.length_map ..
 simp only [o63,cloneW,h1,h2,h3,true_and,mslices_Clone_api_Alter_api_Alter]
 split <;> rfl
theorem c_mslices_Clone_api_Act_api_Act (a0:List GAct):Vm.call TT 64 [.sl (cM GAct.cells a0)] = (mslices_Clone_api_Act_api_Act a0).map fun (r:(List GAct))=>.own (.ref 0) [(81,9)] [cM GAct.cells r]:=by
 refine (call_told (show TT 64 = some (.told o64) from rfl) _).trans ?_
 have h1:sized 9 (cM GAct.cells a0) = true:=sized_cM _ _ (fun x=>by rfl) a0
 have h2:atoms (cM GAct.cells a0) = true:=atoms_cM _ _ (fun x=>rfl)
 have h3:(cM GAct.cells a0).length = a0.length:=List.length_map ..
 simp only [o64,cloneW,h1,h2,h3,true_and,mslices_Clone_api_Act_api_Act]
 split <;> rfl
theorem c_mslices_Clone_api_Fact_api_Fact (a0:List GFact):Vm.call TT 65 [.sl (cM GFact.cells a0)] = (mslices_Clone_api_Fact_api_Fact a0).map fun (r:(List GFact))=>.own (.ref 0) [(58,3)] [cM GFact.cells r]:=by
 refine (call_told (show TT 65 = some (.told o65) from rfl) _).trans ?_
 have h1:sized 3 (cM GFact.cells a0) = true:=sized_cM _ _ (fun x=>by rfl) a0
 have h2:atoms (cM GFact.cells a0) = true:=atoms_cM _ _ (fun x=>rfl)
 have h3:(cM GFact.cells a0).length = a0.length:=List.length_map ..
 simp only [o65,cloneW,h1,h2,h3,true_and,mslices_Clone_api_Fact_api_Fact]
 split <;> rfl
theorem h_mrealm_names_l1 (a0:GRealm) (p1:Int) (p2:List ByteArray):evK TT b_mrealm_names_l1 ⟨[(1,.ptr 1 0),(2,.own 22 0),(3,.nil),(4,.nil),(12,.d (.sl (cM GCity.cells a0.Cities))),(13,.d (.int .i64 (a0.Cities.length:Int))),(14,.d (.int .i64 p1))],[(1,some (.box (dcells (GRealm.cells a0)))),(22,some (.rows 0 9 1 (cM cS p2)))]⟩ (fun e s=>some (e,s)) = stepR (fun (w:Int × (List ByteArray))=>(⟨[(1,.ptr 1 0),(2,.own 22 0),(3,.nil),(4,.nil),(12,.d (.sl (cM GCity.cells a0.Cities))),(13,.d (.int .i64 (a0.Cities.length:Int))),(14,.d (.int .i64 w.1))],[(1,some (.box (dcells (GRealm.cells a0)))),(22,some (.rows 0 9 1 (cM cS w.2)))]⟩ : St)) (fun (r:(List ByteArray))=>(((.exit 0),⟨[(1,.ptr 1 0),(2,.own 22 0),(3,.nil),(4,.nil)],[(1,some (.box (dcells (GRealm.cells a0)))),(22,some (.rows 0 9 1 (cM cS r)))]⟩):Ex × St)) (mrealm_names_l1_s a0 p1 p2):=by
 simp -implicitDefEqProofs (decide:=true) (maxSteps:=2000000) only [b_mrealm_names_l1,mrealm_names_l1_s,↓DN,↓DR,DQ,DP,↓reduceIte,Int.reduceToNat,Nat.reduceBEq,Nat.reduceAdd,Nat.reduceLT,Nat.reduceLeDiff,Nat.reduceEqDiff,Int.reduceEq,ne_eq,not_false_eq_true,reduceCtorEq,specL,specO,specP,beq_self_eq_true,List.length_cons,List.length_nil,cM_length,Bool.not_true,Bool.not_false,if_true,if_false,List.replicate_succ,List.replicate_zero,dcells_len,Option.bind_some,none_bind,Option.map_some,Option.map_none,Sum.elim_inl,Sum.elim_inr,sized_cI,sized_cB,sized_cS,sized_cL,sized_cK,stepR_none,stepR_inl,stepR_inr,elim_stepR,stepR_ite,stepR_bind,ite_bind,ite_map,bind_map,elim_bind,elim_map,Option.bind_assoc]
 all_goals try simp only [gIf_eq]
 all_goals try rfl
theorem e_mrealm_names_l1 {β:Type} (a0:GRealm) (p1:Int) (p2:List ByteArray) (k:Ex→St→Option β):evK TT c_mrealm_names_l1 ⟨[(1,.ptr 1 0),(2,.own 22 0),(3,.nil),(4,.nil),(12,.d (.sl (cM GCity.cells a0.Cities))),(13,.d (.int .i64 (a0.Cities.length:Int))),(14,.d (.int .i64 p1))],[(1,some (.box (dcells (GRealm.cells a0)))),(22,some (.rows 0 9 1 (cM cS p2)))]⟩ k = (mrealm_names_l1 a0 p1 p2).bind (fun (r:(List ByteArray))=>k (.exit 0) ⟨[(1,.ptr 1 0),(2,.own 22 0),(3,.nil),(4,.nil)],[(1,some (.box (dcells (GRealm.cells a0)))),(22,some (.rows 0 9 1 (cM cS r)))]⟩):=by
 have hh:=fun (w:Int × (List ByteArray))=>h_mrealm_names_l1 a0 w.1 w.2
 have h:=fun ho=>evK_loop (T:=TT) (k:=k) (c:=b_mrealm_names_l1) (step:=(fun (w:Int × (List ByteArray))=>mrealm_names_l1_s a0 w.1 w.2)) _ _ ho hh (p1,p2)
 refine Eq.trans (h (fun r s e=>by have q:=congrArg Prod.fst e; rcases r with x <;> cases q)) ?_
 unfold mrealm_names_l1
 exact bind_congr' _ fun x=>by rcases x with x <;> rfl
theorem h_mrealm_names_l2 (a0:GRealm) (r5:(List ByteArray)) (p6:Int) (p7:List ByteArray):evK TT b_mrealm_names_l2 ⟨[(1,.ptr 1 0),(2,.own 22 0),(3,.own 35 0),(4,.nil),(25,.d (.sl (cM GFirm.cells a0.Firms))),(26,.d (.int .i64 (a0.Firms.length:Int))),(27,.d (.int .i64 p6))],[(1,some (.box (dcells (GRealm.cells a0)))),(22,some (.rows 0 9 1 (cM cS r5))),(35,some (.rows 0 9 1 (cM cS p7)))]⟩ (fun e s=>some (e,s)) = stepR (fun (w:Int × (List ByteArray))=>(⟨[(1,.ptr 1 0),(2,.own 22 0),(3,.own 35 0),(4,.nil),(25,.d (.sl (cM GFirm.cells a0.Firms))),(26,.d (.int .i64 (a0.Firms.length:Int))),(27,.d (.int .i64 w.1))],[(1,some (.box (dcells (GRealm.cells a0)))),(22,some (.rows 0 9 1 (cM cS r5))),(35,some (.rows 0 9 1 (cM cS w.2)))]⟩ : St)) (fun (r:(List ByteArray))=>(((.exit 2),⟨[(1,.ptr 1 0),(2,.own 22 0),(3,.own 35 0),(4,.nil)],[(1,some (.box (dcells (GRealm.cells a0)))),(22,some (.rows 0 9 1 (cM cS r5))),(35,some (.rows 0 9 1 (cM cS r)))]⟩):Ex × St)) (mrealm_names_l2_s a0 r5 p6 p7):=by
 simp -implicitDefEqProofs (decide:=true) (maxSteps:=2000000) only [b_mrealm_names_l2,mrealm_names_l2_s,↓e_mrealm_names_l1,↓DN,↓DR,DQ,DP,↓reduceIte,Int.reduceToNat,Nat.reduceBEq,Nat.reduceAdd,Nat.reduceLT,Nat.reduceLeDiff,Nat.reduceEqDiff,Int.reduceEq,ne_eq,not_false_eq_true,reduceCtorEq,specL,specO,specP,beq_self_eq_true,List.length_cons,List.length_nil,cM_length,Bool.not_true,Bool.not_false,if_true,if_false,List.replicate_succ,List.replicate_zero,dcells_len,Option.bind_some,none_bind,Option.map_some,Option.map_none,Sum.elim_inl,Sum.elim_inr,sized_cI,sized_cB,sized_cS,sized_cL,sized_cK,stepR_none,stepR_inl,stepR_inr,elim_stepR,stepR_ite,stepR_bind,ite_bind,ite_map,bind_map,elim_bind,elim_map,Option.bind_assoc]
 all_goals try simp only [gIf_eq]
 all_goals try rfl
theorem e_mrealm_names_l2 {β:Type} (a0:GRealm) (r5:(List ByteArray)) (p6:Int) (p7:List ByteArray) (k:Ex→St→Option β):evK TT c_mrealm_names_l2 ⟨[(1,.ptr 1 0),(2,.own 22 0),(3,.own 35 0),(4,.nil),(25,.d (.sl (cM GFirm.cells a0.Firms))),(26,.d (.int .i64 (a0.Firms.length:Int))),(27,.d (.int .i64 p6))],[(1,some (.box (dcells (GRealm.cells a0)))),(22,some (.rows 0 9 1 (cM cS r5))),(35,some (.rows 0 9 1 (cM cS p7)))]⟩ k = (mrealm_names_l2 a0 r5 p6 p7).bind (fun (r:(List ByteArray))=>k (.exit 2) ⟨[(1,.ptr 1 0),(2,.own 22 0),(3,.own 35 0),(4,.nil)],[(1,some (.box (dcells (GRealm.cells a0)))),(22,some (.rows 0 9 1 (cM cS r5))),(35,some (.rows 0 9 1 (cM cS r)))]⟩):=by
 have hh:=fun (w:Int × (List ByteArray))=>h_mrealm_names_l2 a0 r5 w.1 w.2
 have h:=fun ho=>evK_loop (T:=TT) (k:=k) (c:=b_mrealm_names_l2) (step:=(fun (w:Int × (List ByteArray))=>mrealm_names_l2_s a0 r5 w.1 w.2)) _ _ ho hh (p6,p7)
 refine Eq.trans (h (fun r s e=>by have q:=congrArg Prod.fst e; rcases r with x <;> cases q)) ?_
 unfold mrealm_names_l2
 exact bind_congr' _ fun x=>by rcases x with x <;> rfl
theorem h_mrealm_names_l3 (a0:GRealm) (r10:(List ByteArray)) (r5:(List ByteArray)) (p11:Int) (p12:List ByteArray):evK TT b_mrealm_names_l3 ⟨[(2,.own 22 0),(3,.own 35 0),(4,.own 48 0),(38,.d (.sl (cM GOrder.cells a0.Orders))),(39,.d (.int .i64 (a0.Orders.length:Int))),(40,.d (.int .i64 p11))],[(22,some (.rows 0 9 1 (cM cS r5))),(35,some (.rows 0 9 1 (cM cS r10))),(48,some (.rows 0 9 1 (cM cS p12)))]⟩ (fun e s=>some (e,s)) = stepR (fun (w:Int × (List ByteArray))=>(⟨[(2,.own 22 0),(3,.own 35 0),(4,.own 48 0),(38,.d (.sl (cM GOrder.cells a0.Orders))),(39,.d (.int .i64 (a0.Orders.length:Int))),(40,.d (.int .i64 w.1))],[(22,some (.rows 0 9 1 (cM cS r5))),(35,some (.rows 0 9 1 (cM cS r10))),(48,some (.rows 0 9 1 (cM cS w.2)))]⟩ : St)) (fun (r:(List ByteArray))=>(((.exit 4),⟨[(2,.own 22 0),(3,.own 35 0),(4,.own 48 0)],[(22,some (.rows 0 9 1 (cM cS r5))),(35,some (.rows 0 9 1 (cM cS r10))),(48,some (.rows 0 9 1 (cM cS r)))]⟩):Ex × St)) (mrealm_names_l3_s a0 r10 r5 p11 p12):=by
 simp -implicitDefEqProofs (decide:=true) (maxSteps:=2000000) only [b_mrealm_names_l3,mrealm_names_l3_s,↓e_mrealm_names_l1,↓e_mrealm_names_l2,↓DN,↓DR,DQ,DP,↓reduceIte,Int.reduceToNat,Nat.reduceBEq,Nat.reduceAdd,Nat.reduceLT,Nat.reduceLeDiff,Nat.reduceEqDiff,Int.reduceEq,ne_eq,not_false_eq_true,reduceCtorEq,specL,specO,specP,beq_self_eq_true,List.length_cons,List.length_nil,cM_length,Bool.not_true,Bool.not_false,if_true,if_false,List.replicate_succ,List.replicate_zero,dcells_len,Option.bind_some,none_bind,Option.map_some,Option.map_none,Sum.elim_inl,Sum.elim_inr,sized_cI,sized_cB,sized_cS,sized_cL,sized_cK,stepR_none,stepR_inl,stepR_inr,elim_stepR,stepR_ite,stepR_bind,ite_bind,ite_map,bind_map,elim_bind,elim_map,Option.bind_assoc]
 all_goals try simp only [gIf_eq]
 all_goals try rfl
theorem e_mrealm_names_l3 {β:Type} (a0:GRealm) (r10:(List ByteArray)) (r5:(List ByteArray)) (p11:Int) (p12:List ByteArray) (k:Ex→St→Option β):evK TT c_mrealm_names_l3 ⟨[(2,.own 22 0),(3,.own 35 0),(4,.own 48 0),(38,.d (.sl (cM GOrder.cells a0.Orders))),(39,.d (.int .i64 (a0.Orders.length:Int))),(40,.d (.int .i64 p11))],[(22,some (.rows 0 9 1 (cM cS r5))),(35,some (.rows 0 9 1 (cM cS r10))),(48,some (.rows 0 9 1 (cM cS p12)))]⟩ k = (mrealm_names_l3 a0 r10 r5 p11 p12).bind (fun (r:(List ByteArray))=>k (.exit 4) ⟨[(2,.own 22 0),(3,.own 35 0),(4,.own 48 0)],[(22,some (.rows 0 9 1 (cM cS r5))),(35,some (.rows 0 9 1 (cM cS r10))),(48,some (.rows 0 9 1 (cM cS r)))]⟩):=by
 have hh:=fun (w:Int × (List ByteArray))=>h_mrealm_names_l3 a0 r10 r5 w.1 w.2
 have h:=fun ho=>evK_loop (T:=TT) (k:=k) (c:=b_mrealm_names_l3) (step:=(fun (w:Int × (List ByteArray))=>mrealm_names_l3_s a0 r10 r5 w.1 w.2)) _ _ ho hh (p11,p12)
 refine Eq.trans (h (fun r s e=>by have q:=congrArg Prod.fst e; rcases r with x <;> cases q)) ?_
 unfold mrealm_names_l3
 exact bind_congr' _ fun x=>by rcases x with x <;> rfl
theorem c_mrealm_names (a0:GRealm):Vm.call TT 91 [.agg (GRealm.cells a0)] = (mrealm_names a0).map fun (r:(List ByteArray) × (List ByteArray) × (List ByteArray))=>.tup [.sl (cM cS r.1),.sl (cM cS r.2.1),.sl (cM cS r.2.2)]:=by
 refine (call_eqF (show TT 91 = some (.code ⟨1,53,[.tmp 2,.tmp 3,.tmp 4],bd91,false⟩) from rfl) _ rfl).trans ?_
 show evK TT bd91 ⟨[(0,aggD (GRealm.cells a0))],[]⟩ _ = _
 simp -implicitDefEqProofs (decide:=true) (maxSteps:=2000000) only [bd91,mrealm_names,↓e_mrealm_names_l1,↓e_mrealm_names_l2,↓e_mrealm_names_l3,↓DN,↓DR,DQ,DP,↓reduceIte,Int.reduceToNat,Nat.reduceBEq,Nat.reduceAdd,Nat.reduceLT,Nat.reduceLeDiff,Nat.reduceEqDiff,Int.reduceEq,ne_eq,not_false_eq_true,reduceCtorEq,specL,specO,specP,beq_self_eq_true,List.length_cons,List.length_nil,cM_length,Bool.not_true,Bool.not_false,if_true,if_false,List.replicate_succ,List.replicate_zero,dcells_len,Option.bind_some,none_bind,Option.map_some,Option.map_none,Sum.elim_inl,Sum.elim_inr,sized_cI,sized_cB,sized_cS,sized_cL,sized_cK,stepR_none,stepR_inl,stepR_inr,elim_stepR,stepR_ite,stepR_bind,ite_bind,ite_map,bind_map,elim_bind,elim_map,Option.bind_assoc]
 all_goals try simp only [gIf_eq]
 all_goals try rfl
theorem k_mrealm_names {β:Type} (a0:GRealm) (d:Nat) (bl:List (Nat × Option Blk)) (fz:List (Nat × Option Blk)) (k:V→Option β) (kw:V→List (Nat × Option Blk)→Option β):callF TT d bl 91 [.agg (GRealm.cells a0)] fz k kw = (mrealm_names a0).bind fun (r:(List ByteArray) × (List ByteArray) × (List ByteArray))=>fzK fz (.tup [.d (.sl (cM cS r.1)),.d (.sl (cM cS r.2.1)),.d (.sl (cM cS r.2.2))]) k kw:=by
 have h:=c_mrealm_names a0
 exact callF_deep h (fun _=>rfl) (fun _=>rfl) fz
theorem e_mrealm_isName_j1 {β:Type} (a0:ByteArray) (p1:Int) (x2:Int) (p3:Bool) (k:Ex→St→Option β):evK TT c_mrealm_isName_j1 ⟨[(3,.d (.int .i64 p1)),(4,.d (.int .u8 x2)),(5,.d (.bool p3)),(14,.d (.sl (cM (cK .u8) (bytesL a0)))),(15,.d (.int .i64 ((bytesL a0).length:Int))),(16,.d (.int .i64 p1))],[]⟩ k = (mrealm_isName_j1 a0 p1 x2 p3).bind (fun (r:Unit ⊕ Unit)=>Sum.elim (fun (z:Unit)=>k .normal ⟨[(14,.d (.sl (cM (cK .u8) (bytesL a0)))),(15,.d (.int .i64 ((bytesL a0).length:Int))),(16,.d (.int .i64 p1))],[]⟩) (fun (z:Unit)=>k .ret ⟨[(2,.d (.bool false))],[]⟩) r):=by
 simp -implicitDefEqProofs (decide:=true) (maxSteps:=2000000) only [c_mrealm_isName_j1,mrealm_isName_j1,↓DN,↓DR,DQ,DP,↓reduceIte,Int.reduceToNat,Nat.reduceBEq,Nat.reduceAdd,Nat.reduceLT,Nat.reduceLeDiff,Nat.reduceEqDiff,Int.reduceEq,ne_eq,not_false_eq_true,reduceCtorEq,specL,specO,specP,beq_self_eq_true,List.length_cons,List.length_nil,cM_length,Bool.not_true,Bool.not_false,if_true,if_false,List.replicate_succ,List.replicate_zero,dcells_len,Option.bind_some,none_bind,Option.map_some,Option.map_none,Sum.elim_inl,Sum.elim_inr,sized_cI,sized_cB,sized_cS,sized_cL,sized_cK,stepR_none,stepR_inl,stepR_inr,elim_stepR,stepR_ite,stepR_bind,ite_bind,ite_map,bind_map,elim_bind,elim_map,Option.bind_assoc]
 all_goals try simp only [gIf_eq]
 all_goals try rfl
theorem h_mrealm_isName_l2 (a0:ByteArray) (p1:Int):evK TT b_mrealm_isName_l2 ⟨[(14,.d (.sl (cM (cK .u8) (bytesL a0)))),(15,.d (.int .i64 ((bytesL a0).length:Int))),(16,.d (.int .i64 p1))],[]⟩ (fun e s=>some (e,s)) = stepR (fun (w:Int)=>(⟨[(14,.d (.sl (cM (cK .u8) (bytesL a0)))),(15,.d (.int .i64 ((bytesL a0).length:Int))),(16,.d (.int .i64 w))],[]⟩ : St)) (fun (r:Unit ⊕ Unit)=>Sum.elim (fun (z:Unit)=>(((.exit 0),⟨[],[]⟩):Ex × St)) (fun (z:Unit)=>((.ret,⟨[(2,.d (.bool false))],[]⟩):Ex × St)) r) (mrealm_isName_l2_s a0 p1):=by
 simp -implicitDefEqProofs (decide:=true) (maxSteps:=2000000) only [b_mrealm_isName_l2,mrealm_isName_l2_s,↓e_mrealm_isName_j1,↓DN,↓DR,DQ,DP,↓reduceIte,Int.reduceToNat,Nat.reduceBEq,Nat.reduceAdd,Nat.reduceLT,Nat.reduceLeDiff,Nat.reduceEqDiff,Int.reduceEq,ne_eq,not_false_eq_true,reduceCtorEq,specL,specO,specP,beq_self_eq_true,List.length_cons,List.length_nil,cM_length,Bool.not_true,Bool.not_false,if_true,if_false,List.replicate_succ,List.replicate_zero,dcells_len,Option.bind_some,none_bind,Option.map_some,Option.map_none,Sum.elim_inl,Sum.elim_inr,sized_cI,sized_cB,sized_cS,sized_cL,sized_cK,stepR_none,stepR_inl,stepR_inr,elim_stepR,stepR_ite,stepR_bind,ite_bind,ite_map,bind_map,elim_bind,elim_map,Option.bind_assoc]
 all_goals try simp only [gIf_eq]
 all_goals try rfl
theorem e_mrealm_isName_l2 {β:Type} (a0:ByteArray) (p1:Int) (k:Ex→St→Option β):evK TT c_mrealm_isName_l2 ⟨[(14,.d (.sl (cM (cK .u8) (bytesL a0)))),(15,.d (.int .i64 ((bytesL a0).length:Int))),(16,.d (.int .i64 p1))],[]⟩ k = (mrealm_isName_l2 a0 p1).bind (fun (r:Unit ⊕ Unit)=>Sum.elim (fun (z:Unit)=>k (.exit 0) ⟨[],[]⟩) (fun (z:Unit)=>k .ret ⟨[(2,.d (.bool false))],[]⟩) r):=by
 have hh:=fun (w:Int)=>h_mrealm_isName_l2 a0 w
 have h:=fun ho=>evK_loop (T:=TT) (k:=k) (c:=b_mrealm_isName_l2) (step:=(fun (w:Int)=>mrealm_isName_l2_s a0 w)) _ _ ho hh p1
 refine Eq.trans (h (fun r s e=>by have q:=congrArg Prod.fst e; rcases r with x | x <;> cases q)) ?_
 unfold mrealm_isName_l2
 exact bind_congr' _ fun x=>by rcases x with x | x <;> rfl
theorem c_mrealm_isName (a0:ByteArray):Vm.call TT 115 [.str a0] = (mrealm_isName a0).map fun (r:Bool)=>.bool r:=by
 refine (call_eqF (show TT 115 = some (.code ⟨1,54,[.tmp 2],bd115,false⟩) from rfl) _ rfl).trans ?_
 show evK TT bd115 ⟨[(0,.d (.str a0))],[]⟩ _ = _
 simp -implicitDefEqProofs (decide:=true) (maxSteps:=2000000) only [bd115,mrealm_isName,↓e_mrealm_isName_j1,↓e_mrealm_isName_l2,↓DN,↓DR,DQ,DP,↓reduceIte,Int.reduceToNat,Nat.reduceBEq,Nat.reduceAdd,Nat.reduceLT,Nat.reduceLeDiff,Nat.reduceEqDiff,Int.reduceEq,ne_eq,not_false_eq_true,reduceCtorEq,specL,specO,specP,beq_self_eq_true,List.length_cons,List.length_nil,cM_length,Bool.not_true,Bool.not_false,if_true,if_false,List.replicate_succ,List.replicate_zero,dcells_len,Option.bind_some,none_bind,Option.map_some,Option.map_none,Sum.elim_inl,Sum.elim_inr,sized_cI,sized_cB,sized_cS,sized_cL,sized_cK,stepR_none,stepR_inl,stepR_inr,elim_stepR,stepR_ite,stepR_bind,ite_bind,ite_map,bind_map,elim_bind,elim_map,Option.bind_assoc]
 all_goals try simp only [gIf_eq]
 all_goals try rfl
theorem k_mrealm_isName {β:Type} (a0:ByteArray) (d:Nat) (bl:List (Nat × Option Blk)) (fz:List (Nat × Option Blk)) (k:V→Option β) (kw:V→List (Nat × Option Blk)→Option β):callF TT d bl 115 [.str a0] fz k kw = (mrealm_isName a0).bind fun (r:Bool)=>k (.d (.bool r)):=by
 have h:=c_mrealm_isName a0
 exact callF_flat h (fun _=>rfl) fz
theorem h_mslices_Index_string_string_l1 (a0:List ByteArray) (a1:ByteArray) (p1:Int):evK TT b_mslices_Index_string_string_l1 ⟨[(0,.d (.sl (cM cS a0))),(1,.d (.str a1)),(7,.d (.int .i64 (a0.length:Int))),(8,.d (.int .i64 p1))],[]⟩ (fun e s=>some (e,s)) = stepR (fun (w:Int)=>(⟨[(0,.d (.sl (cM cS a0))),(1,.d (.str a1)),(7,.d (.int .i64 (a0.length:Int))),(8,.d (.int .i64 w))],[]⟩ : St)) (fun (r:Unit ⊕ Int)=>Sum.elim (fun (z:Unit)=>(((.exit 0),⟨[],[]⟩):Ex × St)) (fun (z:Int)=>((.ret,⟨[(4,.d (.int .i64 z))],[]⟩):Ex × St)) r) (mslices_Index_string_string_l1_s a0 a1 p1):=by
 simp -implicitDefEqProofs (decide:=true) (maxSteps:=2000000) only [b_mslices_Index_string_string_l1,mslices_Index_string_string_l1_s,↓DN,↓DR,DQ,DP,↓reduceIte,Int.reduceToNat,Nat.reduceBEq,Nat.reduceAdd,Nat.reduceLT,Nat.reduceLeDiff,Nat.reduceEqDiff,Int.reduceEq,ne_eq,not_false_eq_true,reduceCtorEq,specL,specO,specP,beq_self_eq_true,List.length_cons,List.length_nil,cM_length,Bool.not_true,Bool.not_false,if_true,if_false,List.replicate_succ,List.replicate_zero,dcells_len,Option.bind_some,none_bind,Option.map_some,Option.map_none,Sum.elim_inl,Sum.elim_inr,sized_cI,sized_cB,sized_cS,sized_cL,sized_cK,stepR_none,stepR_inl,stepR_inr,elim_stepR,stepR_ite,stepR_bind,ite_bind,ite_map,bind_map,elim_bind,elim_map,Option.bind_assoc]
 all_goals try simp only [gIf_eq]
 all_goals try rfl
theorem e_mslices_Index_string_string_l1 {β:Type} (a0:List ByteArray) (a1:ByteArray) (p1:Int) (k:Ex→St→Option β):evK TT c_mslices_Index_string_string_l1 ⟨[(0,.d (.sl (cM cS a0))),(1,.d (.str a1)),(7,.d (.int .i64 (a0.length:Int))),(8,.d (.int .i64 p1))],[]⟩ k = (mslices_Index_string_string_l1 a0 a1 p1).bind (fun (r:Unit ⊕ Int)=>Sum.elim (fun (z:Unit)=>k (.exit 0) ⟨[],[]⟩) (fun (z:Int)=>k .ret ⟨[(4,.d (.int .i64 z))],[]⟩) r):=by
 have hh:=fun (w:Int)=>h_mslices_Index_string_string_l1 a0 a1 w
 have h:=fun ho=>evK_loop (T:=TT) (k:=k) (c:=b_mslices_Index_string_string_l1) (step:=(fun (w:Int)=>mslices_Index_string_string_l1_s a0 a1 w)) _ _ ho hh p1
 refine Eq.trans (h (fun r s e=>by have q:=congrArg Prod.fst e; rcases r with x | x <;> cases q)) ?_
 unfold mslices_Index_string_string_l1
 exact bind_congr' _ fun x=>by rcases x with x | x <;> rfl
theorem c_mslices_Index_string_string (a0:List ByteArray) (a1:ByteArray):Vm.call TT 121 [.sl (cM cS a0),.str a1] = (mslices_Index_string_string a0 a1).map fun (r:Int)=>.int .i64 r:=by
 refine (call_eqF (show TT 121 = some (.code ⟨2,19,[.tmp 4],bd121,false⟩) from rfl) _ rfl).trans ?_
 show evK TT bd121 ⟨[(0,.d (.sl (cM cS a0))),(1,.d (.str a1))],[]⟩ _ = _
 simp -implicitDefEqProofs (decide:=true) (maxSteps:=2000000) only [bd121,mslices_Index_string_string,↓e_mslices_Index_string_string_l1,↓DN,↓DR,DQ,DP,↓reduceIte,Int.reduceToNat,Nat.reduceBEq,Nat.reduceAdd,Nat.reduceLT,Nat.reduceLeDiff,Nat.reduceEqDiff,Int.reduceEq,ne_eq,not_false_eq_true,reduceCtorEq,specL,specO,specP,beq_self_eq_true,List.length_cons,List.length_nil,cM_length,Bool.not_true,Bool.not_false,if_true,if_false,List.replicate_succ,List.replicate_zero,dcells_len,Option.bind_some,none_bind,Option.map_some,Option.map_none,Sum.elim_inl,Sum.elim_inr,sized_cI,sized_cB,sized_cS,sized_cL,sized_cK,stepR_none,stepR_inl,stepR_inr,elim_stepR,stepR_ite,stepR_bind,ite_bind,ite_map,bind_map,elim_bind,elim_map,Option.bind_assoc]
 all_goals try simp only [gIf_eq]
 all_goals try rfl
theorem k_mslices_Index_string_string {β:Type} (a0:List ByteArray) (a1:ByteArray) (d:Nat) (bl:List (Nat × Option Blk)) (fz:List (Nat × Option Blk)) (k:V→Option β) (kw:V→List (Nat × Option Blk)→Option β):callF TT d bl 121 [.sl (cM cS a0),.str a1] fz k kw = (mslices_Index_string_string a0 a1).bind fun (r:Int)=>k (.d (.int .i64 r)):=by
 have h:=c_mslices_Index_string_string a0 a1
 exact callF_flat h (fun _=>rfl) fz
theorem c_mslices_Contains_string_string (a0:List ByteArray) (a1:ByteArray):Vm.call TT 116 [.sl (cM cS a0),.str a1] = (mslices_Contains_string_string a0 a1).map fun (r:Bool)=>.bool r:=by
 refine (call_eqF (show TT 116 = some (.code ⟨2,9,[.tmp 4],bd116,false⟩) from rfl) _ rfl).trans ?_
 show evK TT bd116 ⟨[(0,.d (.sl (cM cS a0))),(1,.d (.str a1))],[]⟩ _ = _
 simp -implicitDefEqProofs (decide:=true) (maxSteps:=2000000) only [bd116,mslices_Contains_string_string,↓k_mslices_Index_string_string,↓DN,↓DR,DQ,DP,↓reduceIte,Int.reduceToNat,Nat.reduceBEq,Nat.reduceAdd,Nat.reduceLT,Nat.reduceLeDiff,Nat.reduceEqDiff,Int.reduceEq,ne_eq,not_false_eq_true,reduceCtorEq,specL,specO,specP,beq_self_eq_true,List.length_cons,List.length_nil,cM_length,Bool.not_true,Bool.not_false,if_true,if_false,List.replicate_succ,List.replicate_zero,dcells_len,Option.bind_some,none_bind,Option.map_some,Option.map_none,Sum.elim_inl,Sum.elim_inr,sized_cI,sized_cB,sized_cS,sized_cL,sized_cK,stepR_none,stepR_inl,stepR_inr,elim_stepR,stepR_ite,stepR_bind,ite_bind,ite_map,bind_map,elim_bind,elim_map,Option.bind_assoc]
 all_goals try simp only [gIf_eq]
 all_goals try rfl
theorem k_mslices_Contains_string_string {β:Type} (a0:List ByteArray) (a1:ByteArray) (d:Nat) (bl:List (Nat × Option Blk)) (fz:List (Nat × Option Blk)) (k:V→Option β) (kw:V→List (Nat × Option Blk)→Option β):callF TT d bl 116 [.sl (cM cS a0),.str a1] fz k kw = (mslices_Contains_string_string a0 a1).bind fun (r:Bool)=>k (.d (.bool r)):=by
 have h:=c_mslices_Contains_string_string a0 a1
 exact callF_flat h (fun _=>rfl) fz
theorem c_mrealm_named (a0:List ByteArray) (a1:Int):Vm.call TT 109 [.sl (cM cS a0),.int .i64 a1] = (mrealm_named a0 a1).map fun (r:Int)=>.int .i64 r:=by
 refine (call_eqF (show TT 109 = some (.code ⟨2,19,[.tmp 4],bd109,false⟩) from rfl) _ rfl).trans ?_
 show evK TT bd109 ⟨[(0,.d (.sl (cM cS a0))),(1,.d (.int .i64 a1))],[]⟩ _ = _
 simp -implicitDefEqProofs (decide:=true) (maxSteps:=2000000) only [bd109,mrealm_named,↓k_mrealm_isName,↓k_mslices_Contains_string_string,↓DN,↓DR,DQ,DP,↓reduceIte,Int.reduceToNat,Nat.reduceBEq,Nat.reduceAdd,Nat.reduceLT,Nat.reduceLeDiff,Nat.reduceEqDiff,Int.reduceEq,ne_eq,not_false_eq_true,reduceCtorEq,specL,specO,specP,beq_self_eq_true,List.length_cons,List.length_nil,cM_length,Bool.not_true,Bool.not_false,if_true,if_false,List.replicate_succ,List.replicate_zero,dcells_len,Option.bind_some,none_bind,Option.map_some,Option.map_none,Sum.elim_inl,Sum.elim_inr,sized_cI,sized_cB,sized_cS,sized_cL,sized_cK,stepR_none,stepR_inl,stepR_inr,elim_stepR,stepR_ite,stepR_bind,ite_bind,ite_map,bind_map,elim_bind,elim_map,Option.bind_assoc]
 all_goals try simp only [gIf_eq]
 all_goals try rfl
theorem k_mrealm_named {β:Type} (a0:List ByteArray) (a1:Int) (d:Nat) (bl:List (Nat × Option Blk)) (fz:List (Nat × Option Blk)) (k:V→Option β) (kw:V→List (Nat × Option Blk)→Option β):callF TT d bl 109 [.sl (cM cS a0),.int .i64 a1] fz k kw = (mrealm_named a0 a1).bind fun (r:Int)=>k (.d (.int .i64 r)):=by
 have h:=c_mrealm_named a0 a1
 exact callF_flat h (fun _=>rfl) fz
theorem c_mrealm_Check_1 (a0:Int):Vm.call TT 93 [.int .i64 a0] = (mrealm_Check_1 a0).map fun (r:Bool)=>.bool r:=by
 refine (call_eqF (show TT 93 = some (.code ⟨1,3,[.tmp 2],bd93,false⟩) from rfl) _ rfl).trans ?_
 show evK TT bd93 ⟨[(0,.d (.int .i64 a0))],[]⟩ _ = _
 simp -implicitDefEqProofs (decide:=true) (maxSteps:=2000000) only [bd93,mrealm_Check_1,↓DN,↓DR,DQ,DP,↓reduceIte,Int.reduceToNat,Nat.reduceBEq,Nat.reduceAdd,Nat.reduceLT,Nat.reduceLeDiff,Nat.reduceEqDiff,Int.reduceEq,ne_eq,not_false_eq_true,reduceCtorEq,specL,specO,specP,beq_self_eq_true,List.length_cons,List.length_nil,cM_length,Bool.not_true,Bool.not_false,if_true,if_false,List.replicate_succ,List.replicate_zero,dcells_len,Option.bind_some,none_bind,Option.map_some,Option.map_none,Sum.elim_inl,Sum.elim_inr,sized_cI,sized_cB,sized_cS,sized_cL,sized_cK,stepR_none,stepR_inl,stepR_inr,elim_stepR,stepR_ite,stepR_bind,ite_bind,ite_map,bind_map,elim_bind,elim_map,Option.bind_assoc]
 all_goals try simp only [gIf_eq]
 all_goals try rfl
theorem k_mrealm_Check_1 {β:Type} (a0:Int) (d:Nat) (bl:List (Nat × Option Blk)) (fz:List (Nat × Option Blk)) (k:V→Option β) (kw:V→List (Nat × Option Blk)→Option β):callF TT d bl 93 [.int .i64 a0] fz k kw = (mrealm_Check_1 a0).bind fun (r:Bool)=>k (.d (.bool r)):=by
 have h:=c_mrealm_Check_1 a0
 exact callF_flat h (fun _=>rfl) fz
theorem h_mrealm_fits_s1_l1 (a0:List ByteArray) (p1:Int):evK TT b_mrealm_fits_l1 ⟨[(0,.d (.sl (cM cS a0))),(2,.d (.fn 93 [])),(14,.d (.int .i64 (a0.length:Int))),(15,.d (.int .i64 p1))],[]⟩ (fun e s=>some (e,s)) = stepR (fun (w:Int)=>(⟨[(0,.d (.sl (cM cS a0))),(2,.d (.fn 93 [])),(14,.d (.int .i64 (a0.length:Int))),(15,.d (.int .i64 w))],[]⟩ : St)) (fun (r:Unit ⊕ Int)=>Sum.elim (fun (z:Unit)=>(((.exit 0),⟨[],[]⟩):Ex × St)) (fun (z:Int)=>((.ret,⟨[(6,.d (.int .i64 z))],[]⟩):Ex × St)) r) (mrealm_fits_s1_l1_s a0 p1):=by
 simp -implicitDefEqProofs (decide:=true) (maxSteps:=2000000) only [b_mrealm_fits_l1,mrealm_fits_s1_l1_s,↓k_mrealm_Check_1,↓k_mrealm_named,↓DN,↓DR,DQ,DP,↓reduceIte,Int.reduceToNat,Nat.reduceBEq,Nat.reduceAdd,Nat.reduceLT,Nat.reduceLeDiff,Nat.reduceEqDiff,Int.reduceEq,ne_eq,not_false_eq_true,reduceCtorEq,specL,specO,specP,beq_self_eq_true,List.length_cons,List.length_nil,cM_length,Bool.not_true,Bool.not_false,if_true,if_false,List.replicate_succ,List.replicate_zero,dcells_len,Option.bind_some,none_bind,Option.map_some,Option.map_none,Sum.elim_inl,Sum.elim_inr,sized_cI,sized_cB,sized_cS,sized_cL,sized_cK,stepR_none,stepR_inl,stepR_inr,elim_stepR,stepR_ite,stepR_bind,ite_bind,ite_map,bind_map,elim_bind,elim_map,Option.bind_assoc]
 all_goals try simp only [gIf_eq]
 all_goals try rfl
theorem e_mrealm_fits_s1_l1 {β:Type} (a0:List ByteArray) (p1:Int) (k:Ex→St→Option β):evK TT c_mrealm_fits_l1 ⟨[(0,.d (.sl (cM cS a0))),(2,.d (.fn 93 [])),(14,.d (.int .i64 (a0.length:Int))),(15,.d (.int .i64 p1))],[]⟩ k = (mrealm_fits_s1_l1 a0 p1).bind (fun (r:Unit ⊕ Int)=>Sum.elim (fun (z:Unit)=>k (.exit 0) ⟨[],[]⟩) (fun (z:Int)=>k .ret ⟨[(6,.d (.int .i64 z))],[]⟩) r):=by
 have hh:=fun (w:Int)=>h_mrealm_fits_s1_l1 a0 w
 have h:=fun ho=>evK_loop (T:=TT) (k:=k) (c:=b_mrealm_fits_l1) (step:=(fun (w:Int)=>mrealm_fits_s1_l1_s a0 w)) _ _ ho hh p1
 refine Eq.trans (h (fun r s e=>by have q:=congrArg Prod.fst e; rcases r with x | x <;> cases q)) ?_
 unfold mrealm_fits_s1_l1
 exact bind_congr' _ fun x=>by rcases x with x | x <;> rfl
theorem c_mrealm_fits_s1 (a0:List ByteArray) (a1:Int):Vm.call TT 92 [.sl (cM cS a0),.int .i64 a1,.fn 93 []] = (mrealm_fits_s1 a0 a1).map fun (r:Int)=>.int .i64 r:=by
 refine (call_eqF (show TT 92 = some (.code ⟨3,29,[.tmp 6],bd92,false⟩) from rfl) _ rfl).trans ?_
 show evK TT bd92 ⟨[(0,.d (.sl (cM cS a0))),(1,.d (.int .i64 a1)),(2,.d (.fn 93 []))],[]⟩ _ = _
 simp -implicitDefEqProofs (decide:=true) (maxSteps:=2000000) only [bd92,mrealm_fits_s1,↓e_mrealm_fits_s1_l1,↓k_mrealm_Check_1,↓k_mrealm_named,↓DN,↓DR,DQ,DP,↓reduceIte,Int.reduceToNat,Nat.reduceBEq,Nat.reduceAdd,Nat.reduceLT,Nat.reduceLeDiff,Nat.reduceEqDiff,Int.reduceEq,ne_eq,not_false_eq_true,reduceCtorEq,specL,specO,specP,beq_self_eq_true,List.length_cons,List.length_nil,cM_length,Bool.not_true,Bool.not_false,if_true,if_false,List.replicate_succ,List.replicate_zero,dcells_len,Option.bind_some,none_bind,Option.map_some,Option.map_none,Sum.elim_inl,Sum.elim_inr,sized_cI,sized_cB,sized_cS,sized_cL,sized_cK,stepR_none,stepR_inl,stepR_inr,elim_stepR,stepR_ite,stepR_bind,ite_bind,ite_map,bind_map,elim_bind,elim_map,Option.bind_assoc]
 all_goals try simp only [gIf_eq]
 all_goals try rfl
theorem k_mrealm_fits_s1 {β:Type} (a0:List ByteArray) (a1:Int) (d:Nat) (bl:List (Nat × Option Blk)) (fz:List (Nat × Option Blk)) (k:V→Option β) (kw:V→List (Nat × Option Blk)→Option β):callF TT d bl 92 [.sl (cM cS a0),.int .i64 a1,.fn 93 []] fz k kw = (mrealm_fits_s1 a0 a1).bind fun (r:Int)=>k (.d (.int .i64 r)):=by
 have h:=c_mrealm_fits_s1 a0 a1
 exact callF_flat h (fun _=>rfl) fz
end Go.Proofs.Ytfhebiceipgdmaa
