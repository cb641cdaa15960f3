/- The functions of the small machine compute the plain definitions. Printed by a program. -/
import Derived.Test.YtjllkddmkdajcaaLnk5
set_option linter.unusedVariables false
set_option linter.unusedSimpArgs false
namespace Go.Proofs.Ytjllkddmkdajcaa
open Vm
open Go.RowKit
set_option maxRecDepth 100000
set_option maxHeartbeats 4000000
attribute [local congr] condK_congr opsK_congr opsDK_congr valK_congr
theorem c_mallongeref36_Last (a0:GRealm) (a1:GShown):Vm.call TT 30 [.agg (GRealm.cells a0),.agg (GShown.cells a1)] = (mallongeref36_Last a0 a1).map fun (r:Int × Int)=>.tup [.int .i64 r.1,.int .i64 r.2]:=by
 refine (call_eqF (show TT 30 = some (.code ⟨2,24,[.tmp 4,.tmp 5],bd30,false⟩) from rfl) _ rfl).trans ?_
 show evK TT bd30 ⟨[(0,aggD (GRealm.cells a0)),(1,aggD (GShown.cells a1))],[]⟩ _ = _
 simp -implicitDefEqProofs (decide:=true) (maxSteps:=2000000) only [bd30,mallongeref36_Last,↓k_mallongeref36_Check,↓k_mallongeref04_Plus,↓DN,↓DR,DQ,DP,↓reduceIte,Int.reduceToNat,Nat.reduceBEq,Nat.reduceAdd,Nat.reduceLT,Nat.reduceLeDiff,Nat.reduceEqDiff,Int.reduceEq,reduceCtorEq,specL,specO,specP,beq_self_eq_true,List.length_cons,List.length_nil,cM_length,Bool.not_true,Bool.not_false,if_true,if_false,List.replicate_succ,List.replicate_zero,dcells_len,Option.bind_some,none_bind,Option.map_some,Option.map_none,Sum.elim_inl,Sum.elim_inr,sized_cI,sized_cB,sized_cS,sized_cL,sized_cK,stepR_none,stepR_inl,stepR_inr,elim_stepR,stepR_ite,stepR_bind,ite_bind,ite_map,bind_map,elim_bind,elim_map,Option.bind_assoc]
 all_goals try simp only [gIf_eq]
 all_goals try rfl
theorem k_mallongeref36_Last {β:Type} (a0:GRealm) (a1:GShown) (d:Nat) (bl:List (Nat × Option Blk)) (fz:List (Nat × Option Blk)) (k:V→Option β) (kw:V→List (Nat × Option Blk)→Option β):callF TT d bl 30 [.agg (GRealm.cells a0),.agg (GShown.cells a1)] fz k kw = (mallongeref36_Last a0 a1).bind fun (r:Int × Int)=>k (.tup [.d (.int .i64 r.1),.d (.int .i64 r.2)]):=by
 have h:=c_mallongeref36_Last a0 a1
 exact callF_flat h (fun _=>rfl) fz
theorem e_mallongeref36_Missing_j1 {β:Type} (a1:GShown) (p2:Int) (p3:List (List Int)) (p7:Bool) (k:Ex→St→Option β):evK TT c_mallongeref36_Missing_j1 ⟨[(3,.ptr 3 0),(5,.own 43 0),(6,.d (.int .i64 p2)),(7,.d (.bool p7))],[(3,some (.box (dcells (GShown.cells a1)))),(43,some (.rows 0 47 1 (cM (cL cI) p3)))]⟩ k = (mallongeref36_Missing_j1 a1 p2 p3 p7).bind (fun (r:(List (List Int)))=>k .normal ⟨[(3,.ptr 3 0),(5,.own 43 0),(6,.d (.int .i64 p2))],[(3,some (.box (dcells (GShown.cells a1)))),(43,some (.rows 0 47 1 (cM (cL cI) r)))]⟩):=by
 simp -implicitDefEqProofs (decide:=true) (maxSteps:=2000000) only [c_mallongeref36_Missing_j1,mallongeref36_Missing_j1,↓k_mallongeref36_Has,↓k_mallongeref36_Check,↓DN,↓DR,DQ,DP,↓reduceIte,Int.reduceToNat,Nat.reduceBEq,Nat.reduceAdd,Nat.reduceLT,Nat.reduceLeDiff,Nat.reduceEqDiff,Int.reduceEq,reduceCtorEq,specL,specO,specP,beq_self_eq_true,List.length_cons,List.length_nil,cM_length,Bool.not_true,Bool.not_false,if_true,if_false,List.replicate_succ,List.replicate_zero,dcells_len,Option.bind_some,none_bind,Option.map_some,Option.map_none,Sum.elim_inl,Sum.elim_inr,sized_cI,sized_cB,sized_cS,sized_cL,sized_cK,stepR_none,stepR_inl,stepR_inr,elim_stepR,stepR_ite,stepR_bind,ite_bind,ite_map,bind_map,elim_bind,elim_map,Option.bind_assoc]
 all_goals try simp only [gIf_eq]
 all_goals try rfl
theorem h_mallongeref36_Missing_l2 (a1:GShown) (p2:Int) (p3:List (List Int)):evK TT b_mallongeref36_Missing_l2 ⟨[(3,.ptr 3 0),(5,.own 43 0),(6,.d (.int .i64 p2))],[(3,some (.box (dcells (GShown.cells a1)))),(43,some (.rows 0 47 1 (cM (cL cI) p3)))]⟩ (fun e s=>some (e,s)) = stepR (fun (w:Int × (List (List Int)))=>(⟨[(3,.ptr 3 0),(5,.own 43 0),(6,.d (.int .i64 w.1))],[(3,some (.box (dcells (GShown.cells a1)))),(43,some (.rows 0 47 1 (cM (cL cI) w.2)))]⟩ : St)) (fun (r:(List (List Int)))=>(((.exit 0),⟨[(5,.own 43 0)],[(43,some (.rows 0 47 1 (cM (cL cI) r)))]⟩):Ex × St)) (mallongeref36_Missing_l2_s a1 p2 p3):=by
 simp -implicitDefEqProofs (decide:=true) (maxSteps:=2000000) only [b_mallongeref36_Missing_l2,mallongeref36_Missing_l2_s,↓e_mallongeref36_Missing_j1,↓k_mallongeref36_Has,↓k_mallongeref36_Check,↓DN,↓DR,DQ,DP,↓reduceIte,Int.reduceToNat,Nat.reduceBEq,Nat.reduceAdd,Nat.reduceLT,Nat.reduceLeDiff,Nat.reduceEqDiff,Int.reduceEq,reduceCtorEq,specL,specO,specP,beq_self_eq_true,List.length_cons,List.length_nil,cM_length,Bool.not_true,Bool.not_false,if_true,if_false,List.replicate_succ,List.replicate_zero,dcells_len,Option.bind_some,none_bind,Option.map_some,Option.map_none,Sum.elim_inl,Sum.elim_inr,sized_cI,sized_cB,sized_cS,sized_cL,sized_cK,stepR_none,stepR_inl,stepR_inr,elim_stepR,stepR_ite,stepR_bind,ite_bind,ite_map,bind_map,elim_bind,elim_map,Option.bind_assoc]
 all_goals try simp only [gIf_eq]
 all_goals try rfl
theorem e_mallongeref36_Missing_l2 {β:Type} (a1:GShown) (p2:Int) (p3:List (List Int)) (k:Ex→St→Option β):evK TT c_mallongeref36_Missing_l2 ⟨[(3,.ptr 3 0),(5,.own 43 0),(6,.d (.int .i64 p2))],[(3,some (.box (dcells (GShown.cells a1)))),(43,some (.rows 0 47 1 (cM (cL cI) p3)))]⟩ k = (mallongeref36_Missing_l2 a1 p2 p3).bind (fun (r:(List (List Int)))=>k (.exit 0) ⟨[(5,.own 43 0)],[(43,some (.rows 0 47 1 (cM (cL cI) r)))]⟩):=by
 have hh:=fun (w:Int × (List (List Int)))=>h_mallongeref36_Missing_l2 a1 w.1 w.2
 have h:=fun ho=>evK_loop (T:=TT) (k:=k) (c:=b_mallongeref36_Missing_l2) (step:=(fun (w:Int × (List (List Int)))=>mallongeref36_Missing_l2_s a1 w.1 w.2)) _ _ ho hh (p2,p3)
 refine Eq.trans (h (fun r s e=>by have q:=congrArg Prod.fst e; rcases r with x <;> cases q)) ?_
 unfold mallongeref36_Missing_l2
 exact bind_congr' _ fun x=>by rcases x with x <;> rfl
theorem c_mallongeref36_Missing (a0:GRealm) (a1:GShown):Vm.call TT 35 [.agg (GRealm.cells a0),.agg (GShown.cells a1)] = (mallongeref36_Missing a0 a1).map fun (r:(List (List Int)))=>.sl (cM (cL cI) r):=by
 refine (call_eqF (show TT 35 = some (.code ⟨2,45,[.tmp 4],bd35,false⟩) from rfl) _ rfl).trans ?_
 show evK TT bd35 ⟨[(0,aggD (GRealm.cells a0)),(1,aggD (GShown.cells a1))],[]⟩ _ = _
 simp -implicitDefEqProofs (decide:=true) (maxSteps:=2000000) only [bd35,mallongeref36_Missing,↓e_mallongeref36_Missing_j1,↓e_mallongeref36_Missing_l2,↓k_mallongeref36_Has,↓k_mallongeref36_Check,↓DN,↓DR,DQ,DP,↓reduceIte,Int.reduceToNat,Nat.reduceBEq,Nat.reduceAdd,Nat.reduceLT,Nat.reduceLeDiff,Nat.reduceEqDiff,Int.reduceEq,reduceCtorEq,specL,specO,specP,beq_self_eq_true,List.length_cons,List.length_nil,cM_length,Bool.not_true,Bool.not_false,if_true,if_false,List.replicate_succ,List.replicate_zero,dcells_len,Option.bind_some,none_bind,Option.map_some,Option.map_none,Sum.elim_inl,Sum.elim_inr,sized_cI,sized_cB,sized_cS,sized_cL,sized_cK,stepR_none,stepR_inl,stepR_inr,elim_stepR,stepR_ite,stepR_bind,ite_bind,ite_map,bind_map,elim_bind,elim_map,Option.bind_assoc]
 all_goals try simp only [gIf_eq]
 all_goals try rfl
theorem k_mallongeref36_Missing {β:Type} (a0:GRealm) (a1:GShown) (d:Nat) (bl:List (Nat × Option Blk)) (fz:List (Nat × Option Blk)) (k:V→Option β) (kw:V→List (Nat × Option Blk)→Option β):callF TT d bl 35 [.agg (GRealm.cells a0),.agg (GShown.cells a1)] fz k kw = (mallongeref36_Missing a0 a1).bind fun (r:(List (List Int)))=>fzK fz (.d (.sl (cM (cL cI) r))) k kw:=by
 have h:=c_mallongeref36_Missing a0 a1
 exact callF_deep h (fun _=>rfl) (fun _=>rfl) fz
theorem c_mallongeref36_Refused (a0:GRealm) (a1:GShown):Vm.call TT 67 [.agg (GRealm.cells a0),.agg (GShown.cells a1)] = (mallongeref36_Refused a0 a1).map fun (r:Int)=>.int .i64 r:=by
 refine (call_eqF (show TT 67 = some (.code ⟨2,46,[.tmp 4],bd67,false⟩) from rfl) _ rfl).trans ?_
 show evK TT bd67 ⟨[(0,aggD (GRealm.cells a0)),(1,aggD (GShown.cells a1))],[]⟩ _ = _
 simp -implicitDefEqProofs (decide:=true) (maxSteps:=2000000) only [bd67,mallongeref36_Refused,↓k_mallongeref36_Last,↓k_mallongeref36_Missing,↓DN,↓DR,DQ,DP,↓reduceIte,Int.reduceToNat,Nat.reduceBEq,Nat.reduceAdd,Nat.reduceLT,Nat.reduceLeDiff,Nat.reduceEqDiff,Int.reduceEq,reduceCtorEq,specL,specO,specP,beq_self_eq_true,List.length_cons,List.length_nil,cM_length,Bool.not_true,Bool.not_false,if_true,if_false,List.replicate_succ,List.replicate_zero,dcells_len,Option.bind_some,none_bind,Option.map_some,Option.map_none,Sum.elim_inl,Sum.elim_inr,sized_cI,sized_cB,sized_cS,sized_cL,sized_cK,stepR_none,stepR_inl,stepR_inr,elim_stepR,stepR_ite,stepR_bind,ite_bind,ite_map,bind_map,elim_bind,elim_map,Option.bind_assoc]
 all_goals try simp only [gIf_eq]
 all_goals try rfl
theorem k_mallongeref36_Refused {β:Type} (a0:GRealm) (a1:GShown) (d:Nat) (bl:List (Nat × Option Blk)) (fz:List (Nat × Option Blk)) (k:V→Option β) (kw:V→List (Nat × Option Blk)→Option β):callF TT d bl 67 [.agg (GRealm.cells a0),.agg (GShown.cells a1)] fz k kw = (mallongeref36_Refused a0 a1).bind fun (r:Int)=>k (.d (.int .i64 r)):=by
 have h:=c_mallongeref36_Refused a0 a1
 exact callF_flat h (fun _=>rfl) fz
theorem c_mallongeref36_Bound (a0:GRealm) (a1:GShown) (a2:Int):Vm.call TT 31 [.agg (GRealm.cells a0),.agg (GShown.cells a1),.int .i64 a2] = (mallongeref36_Bound a0 a1 a2).map fun (r:Int × Int)=>.tup [.int .i64 r.1,.int .i64 r.2]:=by
 refine (call_eqF (show TT 31 = some (.code ⟨3,45,[.tmp 6,.tmp 7],bd31,false⟩) from rfl) _ rfl).trans ?_
 show evK TT bd31 ⟨[(0,aggD (GRealm.cells a0)),(1,aggD (GShown.cells a1)),(2,.d (.int .i64 a2))],[]⟩ _ = _
 simp -implicitDefEqProofs (decide:=true) (maxSteps:=2000000) only [bd31,mallongeref36_Bound,↓k_mallongeref36_Last,↓k_mallongeref36_Refused,↓DN,↓DR,DQ,DP,↓reduceIte,Int.reduceToNat,Nat.reduceBEq,Nat.reduceAdd,Nat.reduceLT,Nat.reduceLeDiff,Nat.reduceEqDiff,Int.reduceEq,reduceCtorEq,specL,specO,specP,beq_self_eq_true,List.length_cons,List.length_nil,cM_length,Bool.not_true,Bool.not_false,if_true,if_false,List.replicate_succ,List.replicate_zero,dcells_len,Option.bind_some,none_bind,Option.map_some,Option.map_none,Sum.elim_inl,Sum.elim_inr,sized_cI,sized_cB,sized_cS,sized_cL,sized_cK,stepR_none,stepR_inl,stepR_inr,elim_stepR,stepR_ite,stepR_bind,ite_bind,ite_map,bind_map,elim_bind,elim_map,Option.bind_assoc]
 all_goals try simp only [gIf_eq]
 all_goals try rfl
theorem k_mallongeref36_Bound {β:Type} (a0:GRealm) (a1:GShown) (a2:Int) (d:Nat) (bl:List (Nat × Option Blk)) (fz:List (Nat × Option Blk)) (k:V→Option β) (kw:V→List (Nat × Option Blk)→Option β):callF TT d bl 31 [.agg (GRealm.cells a0),.agg (GShown.cells a1),.int .i64 a2] fz k kw = (mallongeref36_Bound a0 a1 a2).bind fun (r:Int × Int)=>k (.tup [.d (.int .i64 r.1),.d (.int .i64 r.2)]):=by
 have h:=c_mallongeref36_Bound a0 a1 a2
 exact callF_flat h (fun _=>rfl) fz
theorem kv_mrefuse_Missing_1 {β:Type} (a1:GShown) (d:Nat) (bl:List (Nat × Option Blk)) (fz:List (Nat × Option Blk)) (k:V→Option β) (kw:V→List (Nat × Option Blk)→Option β):callF TT d bl 43 [.sl (cM (cL cI) a1.Found),.agg [.int .i64 0,.sl []]] fz k kw = (mrefuse_missing a1.Found (GWarning.mk 0 [])).bind fun (r:(List (List Int)))=>fzK fz (.d (.sl (cM (cL cI) r))) k kw:=by
 have h:=c_mrefuse_missing a1.Found (GWarning.mk 0 [])
 exact callF_deep h (fun _=>rfl) (fun _=>rfl) fz
theorem c_mrefuse_Missing (a0:GRealm) (a1:GShown):Vm.call TT 34 [.agg (GRealm.cells a0),.agg (GShown.cells a1)] = (mrefuse_Missing a0 a1).map fun (r:(List (List Int)))=>.sl (cM (cL cI) r):=by
 refine (call_eqF (show TT 34 = some (.code ⟨2,24,[.tmp 4],bd34,false⟩) from rfl) _ rfl).trans ?_
 show evK TT bd34 ⟨[(0,aggD (GRealm.cells a0)),(1,aggD (GShown.cells a1))],[]⟩ _ = _
 simp -implicitDefEqProofs (decide:=true) (maxSteps:=2000000) only [bd34,mrefuse_Missing,↓k_mrefuse_Check,↓k_mrefuse_missing,↓kv_mrefuse_Missing_1,↓DN,↓DR,DQ,DP,↓reduceIte,Int.reduceToNat,Nat.reduceBEq,Nat.reduceAdd,Nat.reduceLT,Nat.reduceLeDiff,Nat.reduceEqDiff,Int.reduceEq,reduceCtorEq,specL,specO,specP,beq_self_eq_true,List.length_cons,List.length_nil,cM_length,Bool.not_true,Bool.not_false,if_true,if_false,List.replicate_succ,List.replicate_zero,dcells_len,Option.bind_some,none_bind,Option.map_some,Option.map_none,Sum.elim_inl,Sum.elim_inr,sized_cI,sized_cB,sized_cS,sized_cL,sized_cK,stepR_none,stepR_inl,stepR_inr,elim_stepR,stepR_ite,stepR_bind,ite_bind,ite_map,bind_map,elim_bind,elim_map,Option.bind_assoc]
 all_goals try simp only [gIf_eq]
 all_goals try rfl
theorem k_mrefuse_Missing {β:Type} (a0:GRealm) (a1:GShown) (d:Nat) (bl:List (Nat × Option Blk)) (fz:List (Nat × Option Blk)) (k:V→Option β) (kw:V→List (Nat × Option Blk)→Option β):callF TT d bl 34 [.agg (GRealm.cells a0),.agg (GShown.cells a1)] fz k kw = (mrefuse_Missing a0 a1).bind fun (r:(List (List Int)))=>fzK fz (.d (.sl (cM (cL cI) r))) k kw:=by
 have h:=c_mrefuse_Missing a0 a1
 exact callF_deep h (fun _=>rfl) (fun _=>rfl) fz
theorem h_mallongeref06_SameLists_l1 (a0:List (List Int)) (a1:List (List Int)) (p1:Int):evK TT b_mallongeref06_SameLists_l1 ⟨[(0,.d (.sl (cM (cL cI) a0))),(1,.d (.sl (cM (cL cI) a1))),(5,.d (.int .i64 p1))],[]⟩ (fun e s=>some (e,s)) = stepR (fun (w:Int)=>(⟨[(0,.d (.sl (cM (cL cI) a0))),(1,.d (.sl (cM (cL cI) a1))),(5,.d (.int .i64 w))],[]⟩ : St)) (fun (r:Unit ⊕ Unit)=>Sum.elim (fun (z:Unit)=>(((.exit 0),⟨[],[]⟩):Ex × St)) (fun (z:Unit)=>((.ret,⟨[(4,.d (.bool false))],[]⟩):Ex × St)) r) (mallongeref06_SameLists_l1_s a0 a1 p1):=by
 simp -implicitDefEqProofs (decide:=true) (maxSteps:=2000000) only [b_mallongeref06_SameLists_l1,mallongeref06_SameLists_l1_s,↓k_mallongeref06_SameInts,↓DN,↓DR,DQ,DP,↓reduceIte,Int.reduceToNat,Nat.reduceBEq,Nat.reduceAdd,Nat.reduceLT,Nat.reduceLeDiff,Nat.reduceEqDiff,Int.reduceEq,reduceCtorEq,specL,specO,specP,beq_self_eq_true,List.length_cons,List.length_nil,cM_length,Bool.not_true,Bool.not_false,if_true,if_false,List.replicate_succ,List.replicate_zero,dcells_len,Option.bind_some,none_bind,Option.map_some,Option.map_none,Sum.elim_inl,Sum.elim_inr,sized_cI,sized_cB,sized_cS,sized_cL,sized_cK,stepR_none,stepR_inl,stepR_inr,elim_stepR,stepR_ite,stepR_bind,ite_bind,ite_map,bind_map,elim_bind,elim_map,Option.bind_assoc]
 all_goals try simp only [gIf_eq]
 all_goals try rfl
theorem e_mallongeref06_SameLists_l1 {β:Type} (a0:List (List Int)) (a1:List (List Int)) (p1:Int) (k:Ex→St→Option β):evK TT c_mallongeref06_SameLists_l1 ⟨[(0,.d (.sl (cM (cL cI) a0))),(1,.d (.sl (cM (cL cI) a1))),(5,.d (.int .i64 p1))],[]⟩ k = (mallongeref06_SameLists_l1 a0 a1 p1).bind (fun (r:Unit ⊕ Unit)=>Sum.elim (fun (z:Unit)=>k (.exit 0) ⟨[],[]⟩) (fun (z:Unit)=>k .ret ⟨[(4,.d (.bool false))],[]⟩) r):=by
 have hh:=fun (w:Int)=>h_mallongeref06_SameLists_l1 a0 a1 w
 have h:=fun ho=>evK_loop (T:=TT) (k:=k) (c:=b_mallongeref06_SameLists_l1) (step:=(fun (w:Int)=>mallongeref06_SameLists_l1_s a0 a1 w)) _ _ ho hh p1
 refine Eq.trans (h (fun r s e=>by have q:=congrArg Prod.fst e; rcases r with x | x <;> cases q)) ?_
 unfold mallongeref06_SameLists_l1
 exact bind_congr' _ fun x=>by rcases x with x | x <;> rfl
theorem c_mallongeref06_SameLists (a0:List (List Int)) (a1:List (List Int)):Vm.call TT 33 [.sl (cM (cL cI) a0),.sl (cM (cL cI) a1)] = (mallongeref06_SameLists a0 a1).map fun (r:Bool)=>.bool r:=by
 refine (call_eqF (show TT 33 = some (.code ⟨2,27,[.tmp 4],bd33,false⟩) from rfl) _ rfl).trans ?_
 show evK TT bd33 ⟨[(0,.d (.sl (cM (cL cI) a0))),(1,.d (.sl (cM (cL cI) a1)))],[]⟩ _ = _
 simp -implicitDefEqProofs (decide:=true) (maxSteps:=2000000) only [bd33,mallongeref06_SameLists,↓e_mallongeref06_SameLists_l1,↓k_mallongeref06_SameInts,↓DN,↓DR,DQ,DP,↓reduceIte,Int.reduceToNat,Nat.reduceBEq,Nat.reduceAdd,Nat.reduceLT,Nat.reduceLeDiff,Nat.reduceEqDiff,Int.reduceEq,reduceCtorEq,specL,specO,specP,beq_self_eq_true,List.length_cons,List.length_nil,cM_length,Bool.not_true,Bool.not_false,if_true,if_false,List.replicate_succ,List.replicate_zero,dcells_len,Option.bind_some,none_bind,Option.map_some,Option.map_none,Sum.elim_inl,Sum.elim_inr,sized_cI,sized_cB,sized_cS,sized_cL,sized_cK,stepR_none,stepR_inl,stepR_inr,elim_stepR,stepR_ite,stepR_bind,ite_bind,ite_map,bind_map,elim_bind,elim_map,Option.bind_assoc]
 all_goals try simp only [gIf_eq]
 all_goals try rfl
theorem k_mallongeref06_SameLists {β:Type} (a0:List (List Int)) (a1:List (List Int)) (d:Nat) (bl:List (Nat × Option Blk)) (fz:List (Nat × Option Blk)) (k:V→Option β) (kw:V→List (Nat × Option Blk)→Option β):callF TT d bl 33 [.sl (cM (cL cI) a0),.sl (cM (cL cI) a1)] fz k kw = (mallongeref06_SameLists a0 a1).bind fun (r:Bool)=>k (.d (.bool r)):=by
 have h:=c_mallongeref06_SameLists a0 a1
 exact callF_flat h (fun _=>rfl) fz
theorem c_mallongelaw36_RefuseTells (a0:GRealm) (a1:GShown) (a2:Int):Vm.call TT 9 [.agg (GRealm.cells a0),.agg (GShown.cells a1),.int .i64 a2] = (mallongelaw36_RefuseTells a0 a1 a2).map fun (r:Bool)=>.bool r:=by
 refine (call_eqF (show TT 9 = some (.code ⟨3,91,[.tmp 6],bd9,false⟩) from rfl) _ rfl).trans ?_
 show evK TT bd9 ⟨[(0,aggD (GRealm.cells a0)),(1,aggD (GShown.cells a1)),(2,.d (.int .i64 a2))],[]⟩ _ = _
 simp -implicitDefEqProofs (decide:=true) (maxSteps:=2000000) only [bd9,mallongelaw36_RefuseTells,↓k_mallongelaw36_sane,↓k_mallongeref09_Few,↓k_mallongeref36_Few,↓k_mrefuse_Check,↓k_mrefuse_Last,↓k_mrefuse_Bound,↓k_mallongeref36_Last,↓k_mallongeref36_Bound,↓k_mallongeref36_Check,↓k_mallongeref06_SameLists,↓k_mrefuse_Missing,↓k_mallongeref36_Missing,↓DN,↓DR,DQ,DP,↓reduceIte,Int.reduceToNat,Nat.reduceBEq,Nat.reduceAdd,Nat.reduceLT,Nat.reduceLeDiff,Nat.reduceEqDiff,Int.reduceEq,reduceCtorEq,specL,specO,specP,beq_self_eq_true,List.length_cons,List.length_nil,cM_length,Bool.not_true,Bool.not_false,if_true,if_false,List.replicate_succ,List.replicate_zero,dcells_len,Option.bind_some,none_bind,Option.map_some,Option.map_none,Sum.elim_inl,Sum.elim_inr,sized_cI,sized_cB,sized_cS,sized_cL,sized_cK,stepR_none,stepR_inl,stepR_inr,elim_stepR,stepR_ite,stepR_bind,ite_bind,ite_map,bind_map,elim_bind,elim_map,Option.bind_assoc]
 all_goals try simp only [gIf_eq]
 all_goals try rfl
theorem kv_mallongelaw36_RefuseNames_1 {β:Type} (a0:GRealm) (a1:GShown) (a2:Int) (a3:List Int) (d:Nat) (bl:List (Nat × Option Blk)) (fz:List (Nat × Option Blk)) (k:V→Option β) (kw:V→List (Nat × Option Blk)→Option β):callF TT d bl 18 [.agg (GRealm.cells a0),.agg [.int .i64 a1.City,.int .i64 a1.Arrived,.sl (cM (cL cI) ((([]:List (List Int)) ++ a1.Found) ++ [a3])),.sl (cM GWarning.cells a1.Warnings)],.int .i64 a2] fz k kw = (mrefuse_Bound a0 (GShown.mk a1.City a1.Arrived ((([]:List (List Int)) ++ a1.Found) ++ [a3]) a1.Warnings) a2).bind fun (r:Int × Int)=>k (.tup [.d (.int .i64 r.1),.d (.int .i64 r.2)]):=by
 have h:=c_mrefuse_Bound a0 (GShown.mk a1.City a1.Arrived ((([]:List (List Int)) ++ a1.Found) ++ [a3]) a1.Warnings) a2
 exact callF_flat h (fun _=>rfl) fz
theorem kv_mallongelaw36_RefuseNames_2 {β:Type} (a0:GRealm) (a1:GShown) (a3:List Int) (d:Nat) (bl:List (Nat × Option Blk)) (fz:List (Nat × Option Blk)) (k:V→Option β) (kw:V→List (Nat × Option Blk)→Option β):callF TT d bl 34 [.agg (GRealm.cells a0),.agg [.int .i64 a1.City,.int .i64 a1.Arrived,.sl (cM (cL cI) ((([]:List (List Int)) ++ a1.Found) ++ [a3])),.sl (cM GWarning.cells a1.Warnings)]] fz k kw = (mrefuse_Missing a0 (GShown.mk a1.City a1.Arrived ((([]:List (List Int)) ++ a1.Found) ++ [a3]) a1.Warnings)).bind fun (r:(List (List Int)))=>fzK fz (.d (.sl (cM (cL cI) r))) k kw:=by
 have h:=c_mrefuse_Missing a0 (GShown.mk a1.City a1.Arrived ((([]:List (List Int)) ++ a1.Found) ++ [a3]) a1.Warnings)
 exact callF_deep h (fun _=>rfl) (fun _=>rfl) fz
theorem kv_mallongelaw36_RefuseNames_3 {β:Type} (a0:GRealm) (a1:GShown) (a2:Int) (a3:List Int) (x14:GWarning) (x15:GWarning) (d:Nat) (bl:List (Nat × Option Blk)) (fz:List (Nat × Option Blk)) (k:V→Option β) (kw:V→List (Nat × Option Blk)→Option β):callF TT d bl 18 [.agg (GRealm.cells a0),.agg [.int .i64 a1.City,.int .i64 a1.Arrived,.sl (cM (cL cI) a1.Found),.sl (cM GWarning.cells ((([]:List GWarning) ++ a1.Warnings).set 0 (GWarning.mk x15.Day ((([]:List (List Int)) ++ x14.Names) ++ [a3]))))],.int .i64 a2] fz k kw = (mrefuse_Bound a0 (GShown.mk a1.City a1.Arrived a1.Found ((([]:List GWarning) ++ a1.Warnings).set 0 (GWarning.mk x15.Day ((([]:List (List Int)) ++ x14.Names) ++ [a3])))) a2).bind fun (r:Int × Int)=>k (.tup [.d (.int .i64 r.1),.d (.int .i64 r.2)]):=by
 have h:=c_mrefuse_Bound a0 (GShown.mk a1.City a1.Arrived a1.Found ((([]:List GWarning) ++ a1.Warnings).set 0 (GWarning.mk x15.Day ((([]:List (List Int)) ++ x14.Names) ++ [a3])))) a2
 exact callF_flat h (fun _=>rfl) fz
theorem kv_mallongelaw36_RefuseNames_4 {β:Type} (a0:GRealm) (a1:GShown) (a2:Int) (a4:Int) (d:Nat) (bl:List (Nat × Option Blk)) (fz:List (Nat × Option Blk)) (k:V→Option β) (kw:V→List (Nat × Option Blk)→Option β):callF TT d bl 18 [.agg (GRealm.cells a0),.agg [.int .i64 a1.City,.int .i64 a1.Arrived,.sl (cM (cL cI) ((([]:List (List Int)) ++ (sliceL a1.Found 0 a4)) ++ (sliceL a1.Found (IntKind.wrap .i64 (a4 + 1)) (a1.Found.length:Int)))),.sl (cM GWarning.cells a1.Warnings)],.int .i64 a2] fz k kw = (mrefuse_Bound a0 (GShown.mk a1.City a1.Arrived ((([]:List (List Int)) ++ (sliceL a1.Found 0 a4)) ++ (sliceL a1.Found (IntKind.wrap .i64 (a4 + 1)) (a1.Found.length:Int))) a1.Warnings) a2).bind fun (r:Int × Int)=>k (.tup [.d (.int .i64 r.1),.d (.int .i64 r.2)]):=by
 have h:=c_mrefuse_Bound a0 (GShown.mk a1.City a1.Arrived ((([]:List (List Int)) ++ (sliceL a1.Found 0 a4)) ++ (sliceL a1.Found (IntKind.wrap .i64 (a4 + 1)) (a1.Found.length:Int))) a1.Warnings) a2
 exact callF_flat h (fun _=>rfl) fz
theorem e_mallongelaw36_RefuseNames_j1 {β:Type} (a0:GRealm) (a1:GShown) (a2:Int) (a4:Int) (r1:Bool) (k:Ex→St→Option β):evK TT c_mallongelaw36_RefuseNames_j1 ⟨[(2,.d (.int .i64 a2)),(4,.d (.int .i64 a4)),(5,.ptr 5 0),(6,.ptr 6 0),(11,.d (.bool r1))],[(5,some (.box (dcells (GRealm.cells a0)))),(6,some (.box (dcells (GShown.cells a1))))]⟩ k = (mallongelaw36_RefuseNames_j1 a0 a1 a2 a4 r1).bind (fun (r:Bool)=>k .ret ⟨[(10,.d (.bool r))],[]⟩):=by
 simp -implicitDefEqProofs (decide:=true) (maxSteps:=2000000) only [c_mallongelaw36_RefuseNames_j1,mallongelaw36_RefuseNames_j1,↓k_mallongelaw36_sane,↓k_mallongeref09_Few,↓k_mallongeref36_Few,↓k_mrefuse_Check,↓k_mrefuse_Bound,↓k_mallongeref36_Has,↓k_mrefuse_Missing,↓kv_mallongelaw36_RefuseNames_1,↓kv_mallongelaw36_RefuseNames_2,↓kv_mallongelaw36_RefuseNames_3,↓kv_mallongelaw36_RefuseNames_4,↓DN,↓DR,DQ,DP,↓reduceIte,Int.reduceToNat,Nat.reduceBEq,Nat.reduceAdd,Nat.reduceLT,Nat.reduceLeDiff,Nat.reduceEqDiff,Int.reduceEq,reduceCtorEq,specL,specO,specP,beq_self_eq_true,List.length_cons,List.length_nil,cM_length,Bool.not_true,Bool.not_false,if_true,if_false,List.replicate_succ,List.replicate_zero,dcells_len,Option.bind_some,none_bind,Option.map_some,Option.map_none,Sum.elim_inl,Sum.elim_inr,sized_cI,sized_cB,sized_cS,sized_cL,sized_cK,stepR_none,stepR_inl,stepR_inr,elim_stepR,stepR_ite,stepR_bind,ite_bind,ite_map,bind_map,elim_bind,elim_map,Option.bind_assoc]
 all_goals try simp only [gIf_eq]
 all_goals try rfl
theorem e_mallongelaw36_RefuseNames_j2 {β:Type} (a0:GRealm) (a1:GShown) (a2:Int) (a3:List Int) (a4:Int) (r1:Bool) (k:Ex→St→Option β):evK TT c_mallongelaw36_RefuseNames_j2 ⟨[(2,.d (.int .i64 a2)),(3,.d (.sl (cM cI a3))),(4,.d (.int .i64 a4)),(5,.ptr 5 0),(6,.ptr 6 0),(11,.d (.bool r1))],[(5,some (.box (dcells (GRealm.cells a0)))),(6,some (.box (dcells (GShown.cells a1))))]⟩ k = (mallongelaw36_RefuseNames_j2 a0 a1 a2 a3 a4 r1).bind (fun (r:Bool)=>k .ret ⟨[(10,.d (.bool r))],[]⟩):=by
 simp -implicitDefEqProofs (decide:=true) (maxSteps:=2000000) only [c_mallongelaw36_RefuseNames_j2,mallongelaw36_RefuseNames_j2,↓e_mallongelaw36_RefuseNames_j1,↓k_mallongelaw36_sane,↓k_mallongeref09_Few,↓k_mallongeref36_Few,↓k_mrefuse_Check,↓k_mrefuse_Bound,↓k_mallongeref36_Has,↓k_mrefuse_Missing,↓kv_mallongelaw36_RefuseNames_1,↓kv_mallongelaw36_RefuseNames_2,↓kv_mallongelaw36_RefuseNames_3,↓kv_mallongelaw36_RefuseNames_4,↓DN,↓DR,DQ,DP,↓reduceIte,Int.reduceToNat,Nat.reduceBEq,Nat.reduceAdd,Nat.reduceLT,Nat.reduceLeDiff,Nat.reduceEqDiff,Int.reduceEq,reduceCtorEq,specL,specO,specP,beq_self_eq_true,List.length_cons,List.length_nil,cM_length,Bool.not_true,Bool.not_false,if_true,if_false,List.replicate_succ,List.replicate_zero,dcells_len,Option.bind_some,none_bind,Option.map_some,Option.map_none,Sum.elim_inl,Sum.elim_inr,sized_cI,sized_cB,sized_cS,sized_cL,sized_cK,stepR_none,stepR_inl,stepR_inr,elim_stepR,stepR_ite,stepR_bind,ite_bind,ite_map,bind_map,elim_bind,elim_map,Option.bind_assoc]
 all_goals try simp only [gIf_eq]
 all_goals try rfl
theorem c_mallongelaw36_RefuseNames (a0:GRealm) (a1:GShown) (a2:Int) (a3:List Int) (a4:Int):Vm.call TT 10 [.agg (GRealm.cells a0),.agg (GShown.cells a1),.int .i64 a2,.sl (cM cI a3),.int .i64 a4] = (mallongelaw36_RefuseNames a0 a1 a2 a3 a4).map fun (r:Bool)=>.bool r:=by
 refine (call_eqF (show TT 10 = some (.code ⟨5,202,[.tmp 10],bd10,false⟩) from rfl) _ rfl).trans ?_
 show evK TT bd10 ⟨[(0,aggD (GRealm.cells a0)),(1,aggD (GShown.cells a1)),(2,.d (.int .i64 a2)),(3,.d (.sl (cM cI a3))),(4,.d (.int .i64 a4))],[]⟩ _ = _
 simp -implicitDefEqProofs (decide:=true) (maxSteps:=2000000) only [bd10,mallongelaw36_RefuseNames,↓e_mallongelaw36_RefuseNames_j1,↓e_mallongelaw36_RefuseNames_j2,↓k_mallongelaw36_sane,↓k_mallongeref09_Few,↓k_mallongeref36_Few,↓k_mrefuse_Check,↓k_mrefuse_Bound,↓k_mallongeref36_Has,↓k_mrefuse_Missing,↓kv_mallongelaw36_RefuseNames_1,↓kv_mallongelaw36_RefuseNames_2,↓kv_mallongelaw36_RefuseNames_3,↓kv_mallongelaw36_RefuseNames_4,↓DN,↓DR,DQ,DP,↓reduceIte,Int.reduceToNat,Nat.reduceBEq,Nat.reduceAdd,Nat.reduceLT,Nat.reduceLeDiff,Nat.reduceEqDiff,Int.reduceEq,reduceCtorEq,specL,specO,specP,beq_self_eq_true,List.length_cons,List.length_nil,cM_length,Bool.not_true,Bool.not_false,if_true,if_false,List.replicate_succ,List.replicate_zero,dcells_len,Option.bind_some,none_bind,Option.map_some,Option.map_none,Sum.elim_inl,Sum.elim_inr,sized_cI,sized_cB,sized_cS,sized_cL,sized_cK,stepR_none,stepR_inl,stepR_inr,elim_stepR,stepR_ite,stepR_bind,ite_bind,ite_map,bind_map,elim_bind,elim_map,Option.bind_assoc]
 all_goals try simp only [gIf_eq]
 all_goals try rfl
theorem c_mcalendar_Count (a0:GCity) (a1:Int) (a2:Int):Vm.call TT 39 [.agg (GCity.cells a0),.int .i64 a1,.int .i64 a2] = (mcalendar_Count a0 a1 a2).map fun (r:Int × Int)=>.tup [.int .i64 r.1,.int .i64 r.2]:=by
 refine (call_told (show TT 39 = some (.told o39) from rfl) _).trans ?_
 simp only [o39,GCity.cells,dTown_mk,mcalendar_Count,gTown]
 split <;> rfl
theorem k_mcalendar_Count {β:Type} (a0:GCity) (a1:Int) (a2:Int) (d:Nat) (bl:List (Nat × Option Blk)) (fz:List (Nat × Option Blk)) (k:V→Option β) (kw:V→List (Nat × Option Blk)→Option β):callF TT d bl 39 [.agg (GCity.cells a0),.int .i64 a1,.int .i64 a2] fz k kw = (mcalendar_Count a0 a1 a2).bind fun (r:Int × Int)=>k (.tup [.d (.int .i64 r.1),.d (.int .i64 r.2)]):=by
 have h:=c_mcalendar_Count a0 a1 a2
 exact callF_flat h (fun _=>rfl) fz
theorem c_mcalendar_Open (a0:GCity) (a1:Int):Vm.call TT 37 [.agg (GCity.cells a0),.int .i64 a1] = (mcalendar_Open a0 a1).map fun (r:Bool × Int)=>.tup [.bool r.1,.int .i64 r.2]:=by
 refine (call_told (show TT 37 = some (.told o37) from rfl) _).trans ?_
 simp only [o37,GCity.cells,dTown_mk,mcalendar_Open,gTown]
 split <;> rfl
theorem k_mcalendar_Open {β:Type} (a0:GCity) (a1:Int) (d:Nat) (bl:List (Nat × Option Blk)) (fz:List (Nat × Option Blk)) (k:V→Option β) (kw:V→List (Nat × Option Blk)→Option β):callF TT d bl 37 [.agg (GCity.cells a0),.int .i64 a1] fz k kw = (mcalendar_Open a0 a1).bind fun (r:Bool × Int)=>k (.tup [.d (.bool r.1),.d (.int .i64 r.2)]):=by
 have h:=c_mcalendar_Open a0 a1
 exact callF_flat h (fun _=>rfl) fz
theorem c_mallongelaw36_RefuseDays (a0:GRealm) (a1:GShown):Vm.call TT 12 [.agg (GRealm.cells a0),.agg (GShown.cells a1)] = (mallongelaw36_RefuseDays a0 a1).map fun (r:Bool)=>.bool r:=by
 refine (call_eqF (show TT 12 = some (.code ⟨2,90,[.tmp 4],bd12,false⟩) from rfl) _ rfl).trans ?_
 show evK TT bd12 ⟨[(0,aggD (GRealm.cells a0)),(1,aggD (GShown.cells a1))],[]⟩ _ = _
 simp -implicitDefEqProofs (decide:=true) (maxSteps:=2000000) only [bd12,mallongelaw36_RefuseDays,↓k_mallongelaw36_sane,↓k_mallongeref09_Few,↓k_mallongeref36_Few,↓k_mrefuse_Check,↓k_mrefuse_Last,↓k_mcalendar_Open,↓k_mcalendar_Count,↓DN,↓DR,DQ,DP,↓reduceIte,Int.reduceToNat,Nat.reduceBEq,Nat.reduceAdd,Nat.reduceLT,Nat.reduceLeDiff,Nat.reduceEqDiff,Int.reduceEq,reduceCtorEq,specL,specO,specP,beq_self_eq_true,List.length_cons,List.length_nil,cM_length,Bool.not_true,Bool.not_false,if_true,if_false,List.replicate_succ,List.replicate_zero,dcells_len,Option.bind_some,none_bind,Option.map_some,Option.map_none,Sum.elim_inl,Sum.elim_inr,sized_cI,sized_cB,sized_cS,sized_cL,sized_cK,stepR_none,stepR_inl,stepR_inr,elim_stepR,stepR_ite,stepR_bind,ite_bind,ite_map,bind_map,elim_bind,elim_map,Option.bind_assoc]
 all_goals try simp only [gIf_eq]
 all_goals try rfl
end Go.Proofs.Ytjllkddmkdajcaa
