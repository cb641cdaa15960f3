/- The functions of the small machine compute the plain definitions. Printed by a program. -/
import Derived.Test.YtjllkddmkdajcaaLnk2
set_option linter.unusedVariables false
set_option linter.unusedSimpArgs false
namespace Go.Proofs.Ytjllkddmkdajcaa
open Vm
open Go.RowKit
set_option maxRecDepth 100000
set_option maxHeartbeats 4000000
attribute [local congr] condK_congr opsK_congr opsDK_congr valK_congr
theorem h_mslices_IndexFunc_int_int_s1_l1 (a0:List (List Int)) (a1:List Int) (p1:Int):evK TT b_mslices_IndexFunc_int_int_l1 ⟨[(0,.d (.sl (cM (cL cI) a0))),(1,.d (.fn 98 [.ptr [.sl (cM cI a1)] 0])),(7,.d (.int .i64 (a0.length:Int))),(8,.d (.int .i64 p1))],[]⟩ (fun e s=>some (e,s)) = stepR (fun (w:Int)=>(⟨[(0,.d (.sl (cM (cL cI) a0))),(1,.d (.fn 98 [.ptr [.sl (cM cI a1)] 0])),(7,.d (.int .i64 (a0.length:Int))),(8,.d (.int .i64 w))],[]⟩ : St)) (fun (r:Unit ⊕ Int)=>Sum.elim (fun (z:Unit)=>(((.exit 0),⟨[],[]⟩):Ex × St)) (fun (z:Int)=>((.ret,⟨[(4,.d (.int .i64 z))],[]⟩):Ex × St)) r) (mslices_IndexFunc_int_int_s1_l1_s a0 a1 p1):=by
 simp -implicitDefEqProofs (decide:=true) (maxSteps:=2000000) only [b_mslices_IndexFunc_int_int_l1,mslices_IndexFunc_int_int_s1_l1_s,↓k_mrefuse_has_1_s1,↓DN,↓DR,DQ,DP,↓reduceIte,Int.reduceToNat,Nat.reduceBEq,Nat.reduceAdd,Nat.reduceLT,Nat.reduceLeDiff,Nat.reduceEqDiff,Int.reduceEq,reduceCtorEq,specL,specO,specP,beq_self_eq_true,List.length_cons,List.length_nil,cM_length,Bool.not_true,Bool.not_false,if_true,if_false,List.replicate_succ,List.replicate_zero,dcells_len,Option.bind_some,none_bind,Option.map_some,Option.map_none,Sum.elim_inl,Sum.elim_inr,sized_cI,sized_cB,sized_cS,sized_cL,sized_cK,stepR_none,stepR_inl,stepR_inr,elim_stepR,stepR_ite,stepR_bind,ite_bind,ite_map,bind_map,elim_bind,elim_map,Option.bind_assoc]
 all_goals try simp only [gIf_eq]
 all_goals try rfl
theorem e_mslices_IndexFunc_int_int_s1_l1 {β:Type} (a0:List (List Int)) (a1:List Int) (p1:Int) (k:Ex→St→Option β):evK TT c_mslices_IndexFunc_int_int_l1 ⟨[(0,.d (.sl (cM (cL cI) a0))),(1,.d (.fn 98 [.ptr [.sl (cM cI a1)] 0])),(7,.d (.int .i64 (a0.length:Int))),(8,.d (.int .i64 p1))],[]⟩ k = (mslices_IndexFunc_int_int_s1_l1 a0 a1 p1).bind (fun (r:Unit ⊕ Int)=>Sum.elim (fun (z:Unit)=>k (.exit 0) ⟨[],[]⟩) (fun (z:Int)=>k .ret ⟨[(4,.d (.int .i64 z))],[]⟩) r):=by
 have hh:=fun (w:Int)=>h_mslices_IndexFunc_int_int_s1_l1 a0 a1 w
 have h:=fun ho=>evK_loop (T:=TT) (k:=k) (c:=b_mslices_IndexFunc_int_int_l1) (step:=(fun (w:Int)=>mslices_IndexFunc_int_int_s1_l1_s a0 a1 w)) _ _ ho hh p1
 refine Eq.trans (h (fun r s e=>by have q:=congrArg Prod.fst e; rcases r with x | x <;> cases q)) ?_
 unfold mslices_IndexFunc_int_int_s1_l1
 exact bind_congr' _ fun x=>by rcases x with x | x <;> rfl
theorem c_mslices_IndexFunc_int_int_s1 (a0:List (List Int)) (a1:List Int):Vm.call TT 110 [.sl (cM (cL cI) a0),.fn 98 [.ptr [.sl (cM cI a1)] 0]] = (mslices_IndexFunc_int_int_s1 a0 a1).map fun (r:Int)=>.int .i64 r:=by
 refine (call_eqF (show TT 110 = some (.code ⟨2,19,[.tmp 4],bd110,false⟩) from rfl) _ rfl).trans ?_
 show evK TT bd110 ⟨[(0,.d (.sl (cM (cL cI) a0))),(1,.d (.fn 98 [.ptr [.sl (cM cI a1)] 0]))],[]⟩ _ = _
 simp -implicitDefEqProofs (decide:=true) (maxSteps:=2000000) only [bd110,mslices_IndexFunc_int_int_s1,↓e_mslices_IndexFunc_int_int_s1_l1,↓k_mrefuse_has_1_s1,↓DN,↓DR,DQ,DP,↓reduceIte,Int.reduceToNat,Nat.reduceBEq,Nat.reduceAdd,Nat.reduceLT,Nat.reduceLeDiff,Nat.reduceEqDiff,Int.reduceEq,reduceCtorEq,specL,specO,specP,beq_self_eq_true,List.length_cons,List.length_nil,cM_length,Bool.not_true,Bool.not_false,if_true,if_false,List.replicate_succ,List.replicate_zero,dcells_len,Option.bind_some,none_bind,Option.map_some,Option.map_none,Sum.elim_inl,Sum.elim_inr,sized_cI,sized_cB,sized_cS,sized_cL,sized_cK,stepR_none,stepR_inl,stepR_inr,elim_stepR,stepR_ite,stepR_bind,ite_bind,ite_map,bind_map,elim_bind,elim_map,Option.bind_assoc]
 all_goals try simp only [gIf_eq]
 all_goals try rfl
theorem k_mslices_IndexFunc_int_int_s1 {β:Type} (a0:List (List Int)) (a1:List Int) (d:Nat) (bl:List (Nat × Option Blk)) (fz:List (Nat × Option Blk)) (k:V→Option β) (kw:V→List (Nat × Option Blk)→Option β):callF TT d bl 110 [.sl (cM (cL cI) a0),.fn 98 [.ptr [.sl (cM cI a1)] 0]] fz k kw = (mslices_IndexFunc_int_int_s1 a0 a1).bind fun (r:Int)=>k (.d (.int .i64 r)):=by
 have h:=c_mslices_IndexFunc_int_int_s1 a0 a1
 exact callF_flat h (fun _=>rfl) fz
theorem c_mslices_ContainsFunc_int_int_s1 (a0:List (List Int)) (a1:List Int):Vm.call TT 97 [.sl (cM (cL cI) a0),.fn 98 [.ptr [.sl (cM cI a1)] 0]] = (mslices_ContainsFunc_int_int_s1 a0 a1).map fun (r:Bool)=>.bool r:=by
 refine (call_eqF (show TT 97 = some (.code ⟨2,9,[.tmp 4],bd97,false⟩) from rfl) _ rfl).trans ?_
 show evK TT bd97 ⟨[(0,.d (.sl (cM (cL cI) a0))),(1,.d (.fn 98 [.ptr [.sl (cM cI a1)] 0]))],[]⟩ _ = _
 simp -implicitDefEqProofs (decide:=true) (maxSteps:=2000000) only [bd97,mslices_ContainsFunc_int_int_s1,↓k_mslices_IndexFunc_int_int_s1,↓DN,↓DR,DQ,DP,↓reduceIte,Int.reduceToNat,Nat.reduceBEq,Nat.reduceAdd,Nat.reduceLT,Nat.reduceLeDiff,Nat.reduceEqDiff,Int.reduceEq,reduceCtorEq,specL,specO,specP,beq_self_eq_true,List.length_cons,List.length_nil,cM_length,Bool.not_true,Bool.not_false,if_true,if_false,List.replicate_succ,List.replicate_zero,dcells_len,Option.bind_some,none_bind,Option.map_some,Option.map_none,Sum.elim_inl,Sum.elim_inr,sized_cI,sized_cB,sized_cS,sized_cL,sized_cK,stepR_none,stepR_inl,stepR_inr,elim_stepR,stepR_ite,stepR_bind,ite_bind,ite_map,bind_map,elim_bind,elim_map,Option.bind_assoc]
 all_goals try simp only [gIf_eq]
 all_goals try rfl
theorem k_mslices_ContainsFunc_int_int_s1 {β:Type} (a0:List (List Int)) (a1:List Int) (d:Nat) (bl:List (Nat × Option Blk)) (fz:List (Nat × Option Blk)) (k:V→Option β) (kw:V→List (Nat × Option Blk)→Option β):callF TT d bl 97 [.sl (cM (cL cI) a0),.fn 98 [.ptr [.sl (cM cI a1)] 0]] fz k kw = (mslices_ContainsFunc_int_int_s1 a0 a1).bind fun (r:Bool)=>k (.d (.bool r)):=by
 have h:=c_mslices_ContainsFunc_int_int_s1 a0 a1
 exact callF_flat h (fun _=>rfl) fz
theorem c_mrefuse_has (a0:List (List Int)) (a1:List Int):Vm.call TT 76 [.sl (cM (cL cI) a0),.sl (cM cI a1)] = (mrefuse_has a0 a1).map fun (r:Bool)=>.bool r:=by
 refine (call_eqF (show TT 76 = some (.code ⟨2,8,[.tmp 4],bd76,false⟩) from rfl) _ rfl).trans ?_
 show evK TT bd76 ⟨[(0,.d (.sl (cM (cL cI) a0))),(1,.d (.sl (cM cI a1)))],[]⟩ _ = _
 simp -implicitDefEqProofs (decide:=true) (maxSteps:=2000000) only [bd76,mrefuse_has,↓k_mslices_ContainsFunc_int_int_s1,↓DN,↓DR,DQ,DP,↓reduceIte,Int.reduceToNat,Nat.reduceBEq,Nat.reduceAdd,Nat.reduceLT,Nat.reduceLeDiff,Nat.reduceEqDiff,Int.reduceEq,reduceCtorEq,specL,specO,specP,beq_self_eq_true,List.length_cons,List.length_nil,cM_length,Bool.not_true,Bool.not_false,if_true,if_false,List.replicate_succ,List.replicate_zero,dcells_len,Option.bind_some,none_bind,Option.map_some,Option.map_none,Sum.elim_inl,Sum.elim_inr,sized_cI,sized_cB,sized_cS,sized_cL,sized_cK,stepR_none,stepR_inl,stepR_inr,elim_stepR,stepR_ite,stepR_bind,ite_bind,ite_map,bind_map,elim_bind,elim_map,Option.bind_assoc]
 all_goals try simp only [gIf_eq]
 all_goals try rfl
theorem k_mrefuse_has {β:Type} (a0:List (List Int)) (a1:List Int) (d:Nat) (bl:List (Nat × Option Blk)) (fz:List (Nat × Option Blk)) (k:V→Option β) (kw:V→List (Nat × Option Blk)→Option β):callF TT d bl 76 [.sl (cM (cL cI) a0),.sl (cM cI a1)] fz k kw = (mrefuse_has a0 a1).bind fun (r:Bool)=>k (.d (.bool r)):=by
 have h:=c_mrefuse_has a0 a1
 exact callF_flat h (fun _=>rfl) fz
theorem h_mrefuse_fine_l1 (a1:GShown) (p1:Int):evK TT b_mrefuse_fine_l1 ⟨[(3,.ptr 3 0),(44,.d (.sl (cM (cL cI) a1.Found))),(45,.d (.int .i64 (a1.Found.length:Int))),(46,.d (.int .i64 p1))],[(3,some (.box (dcells (GShown.cells a1))))]⟩ (fun e s=>some (e,s)) = stepR (fun (w:Int)=>(⟨[(3,.ptr 3 0),(44,.d (.sl (cM (cL cI) a1.Found))),(45,.d (.int .i64 (a1.Found.length:Int))),(46,.d (.int .i64 w))],[(3,some (.box (dcells (GShown.cells a1))))]⟩ : St)) (fun (r:Unit ⊕ Unit)=>Sum.elim (fun (z:Unit)=>(((.exit 0),⟨[(3,.ptr 3 0)],[(3,some (.box (dcells (GShown.cells a1))))]⟩):Ex × St)) (fun (z:Unit)=>((.ret,⟨[(4,.d (.bool false))],[]⟩):Ex × St)) r) (mrefuse_fine_l1_s a1 p1):=by
 simp -implicitDefEqProofs (decide:=true) (maxSteps:=2000000) only [b_mrefuse_fine_l1,mrefuse_fine_l1_s,↓k_mrefuse_has,↓k_mrefuse_set,↓DN,↓DR,DQ,DP,↓reduceIte,Int.reduceToNat,Nat.reduceBEq,Nat.reduceAdd,Nat.reduceLT,Nat.reduceLeDiff,Nat.reduceEqDiff,Int.reduceEq,reduceCtorEq,specL,specO,specP,beq_self_eq_true,List.length_cons,List.length_nil,cM_length,Bool.not_true,Bool.not_false,if_true,if_false,List.replicate_succ,List.replicate_zero,dcells_len,Option.bind_some,none_bind,Option.map_some,Option.map_none,Sum.elim_inl,Sum.elim_inr,sized_cI,sized_cB,sized_cS,sized_cL,sized_cK,stepR_none,stepR_inl,stepR_inr,elim_stepR,stepR_ite,stepR_bind,ite_bind,ite_map,bind_map,elim_bind,elim_map,Option.bind_assoc]
 all_goals try simp only [gIf_eq]
 all_goals try rfl
theorem e_mrefuse_fine_l1 {β:Type} (a1:GShown) (p1:Int) (k:Ex→St→Option β):evK TT c_mrefuse_fine_l1 ⟨[(3,.ptr 3 0),(44,.d (.sl (cM (cL cI) a1.Found))),(45,.d (.int .i64 (a1.Found.length:Int))),(46,.d (.int .i64 p1))],[(3,some (.box (dcells (GShown.cells a1))))]⟩ k = (mrefuse_fine_l1 a1 p1).bind (fun (r:Unit ⊕ Unit)=>Sum.elim (fun (z:Unit)=>k (.exit 0) ⟨[(3,.ptr 3 0)],[(3,some (.box (dcells (GShown.cells a1))))]⟩) (fun (z:Unit)=>k .ret ⟨[(4,.d (.bool false))],[]⟩) r):=by
 have hh:=fun (w:Int)=>h_mrefuse_fine_l1 a1 w
 have h:=fun ho=>evK_loop (T:=TT) (k:=k) (c:=b_mrefuse_fine_l1) (step:=(fun (w:Int)=>mrefuse_fine_l1_s a1 w)) _ _ ho hh p1
 refine Eq.trans (h (fun r s e=>by have q:=congrArg Prod.fst e; rcases r with x | x <;> cases q)) ?_
 unfold mrefuse_fine_l1
 exact bind_congr' _ fun x=>by rcases x with x | x <;> rfl
theorem h_mrefuse_fine_l2 (a1:GShown) (p8:Int) (p9:Int):evK TT b_mrefuse_fine_l2 ⟨[(7,.d (.int .i64 p8)),(66,.d (.sl (cM GWarning.cells a1.Warnings))),(67,.d (.int .i64 (a1.Warnings.length:Int))),(68,.d (.int .i64 p9))],[]⟩ (fun e s=>some (e,s)) = stepR (fun (w:Int × Int)=>(⟨[(7,.d (.int .i64 w.1)),(66,.d (.sl (cM GWarning.cells a1.Warnings))),(67,.d (.int .i64 (a1.Warnings.length:Int))),(68,.d (.int .i64 w.2))],[]⟩ : St)) (fun (r:Unit ⊕ Unit)=>Sum.elim (fun (z:Unit)=>(((.exit 2),⟨[],[]⟩):Ex × St)) (fun (z:Unit)=>((.ret,⟨[(4,.d (.bool false))],[]⟩):Ex × St)) r) (mrefuse_fine_l2_s a1 p8 p9):=by
 simp -implicitDefEqProofs (decide:=true) (maxSteps:=2000000) only [b_mrefuse_fine_l2,mrefuse_fine_l2_s,↓e_mrefuse_fine_l1,↓k_mrefuse_has,↓k_mrefuse_set,↓DN,↓DR,DQ,DP,↓reduceIte,Int.reduceToNat,Nat.reduceBEq,Nat.reduceAdd,Nat.reduceLT,Nat.reduceLeDiff,Nat.reduceEqDiff,Int.reduceEq,reduceCtorEq,specL,specO,specP,beq_self_eq_true,List.length_cons,List.length_nil,cM_length,Bool.not_true,Bool.not_false,if_true,if_false,List.replicate_succ,List.replicate_zero,dcells_len,Option.bind_some,none_bind,Option.map_some,Option.map_none,Sum.elim_inl,Sum.elim_inr,sized_cI,sized_cB,sized_cS,sized_cL,sized_cK,stepR_none,stepR_inl,stepR_inr,elim_stepR,stepR_ite,stepR_bind,ite_bind,ite_map,bind_map,elim_bind,elim_map,Option.bind_assoc]
 all_goals try simp only [gIf_eq]
 all_goals try rfl
theorem e_mrefuse_fine_l2 {β:Type} (a1:GShown) (p8:Int) (p9:Int) (k:Ex→St→Option β):evK TT c_mrefuse_fine_l2 ⟨[(7,.d (.int .i64 p8)),(66,.d (.sl (cM GWarning.cells a1.Warnings))),(67,.d (.int .i64 (a1.Warnings.length:Int))),(68,.d (.int .i64 p9))],[]⟩ k = (mrefuse_fine_l2 a1 p8 p9).bind (fun (r:Unit ⊕ Unit)=>Sum.elim (fun (z:Unit)=>k (.exit 2) ⟨[],[]⟩) (fun (z:Unit)=>k .ret ⟨[(4,.d (.bool false))],[]⟩) r):=by
 have hh:=fun (w:Int × Int)=>h_mrefuse_fine_l2 a1 w.1 w.2
 have h:=fun ho=>evK_loop (T:=TT) (k:=k) (c:=b_mrefuse_fine_l2) (step:=(fun (w:Int × Int)=>mrefuse_fine_l2_s a1 w.1 w.2)) _ _ ho hh (p8,p9)
 refine Eq.trans (h (fun r s e=>by have q:=congrArg Prod.fst e; rcases r with x | x <;> cases q)) ?_
 unfold mrefuse_fine_l2
 exact bind_congr' _ fun x=>by rcases x with x | x <;> rfl
theorem c_mrefuse_fine (a0:GRealm) (a1:GShown):Vm.call TT 74 [.agg (GRealm.cells a0),.agg (GShown.cells a1)] = (mrefuse_fine a0 a1).map fun (r:Bool)=>.bool r:=by
 refine (call_eqF (show TT 74 = some (.code ⟨2,90,[.tmp 4],bd74,false⟩) from rfl) _ rfl).trans ?_
 show evK TT bd74 ⟨[(0,aggD (GRealm.cells a0)),(1,aggD (GShown.cells a1))],[]⟩ _ = _
 simp -implicitDefEqProofs (decide:=true) (maxSteps:=2000000) only [bd74,mrefuse_fine,↓e_mrefuse_fine_l1,↓e_mrefuse_fine_l2,↓k_mrefuse_has,↓k_mrefuse_set,↓DN,↓DR,DQ,DP,↓reduceIte,Int.reduceToNat,Nat.reduceBEq,Nat.reduceAdd,Nat.reduceLT,Nat.reduceLeDiff,Nat.reduceEqDiff,Int.reduceEq,reduceCtorEq,specL,specO,specP,beq_self_eq_true,List.length_cons,List.length_nil,cM_length,Bool.not_true,Bool.not_false,if_true,if_false,List.replicate_succ,List.replicate_zero,dcells_len,Option.bind_some,none_bind,Option.map_some,Option.map_none,Sum.elim_inl,Sum.elim_inr,sized_cI,sized_cB,sized_cS,sized_cL,sized_cK,stepR_none,stepR_inl,stepR_inr,elim_stepR,stepR_ite,stepR_bind,ite_bind,ite_map,bind_map,elim_bind,elim_map,Option.bind_assoc]
 all_goals try simp only [gIf_eq]
 all_goals try rfl
theorem k_mrefuse_fine {β:Type} (a0:GRealm) (a1:GShown) (d:Nat) (bl:List (Nat × Option Blk)) (fz:List (Nat × Option Blk)) (k:V→Option β) (kw:V→List (Nat × Option Blk)→Option β):callF TT d bl 74 [.agg (GRealm.cells a0),.agg (GShown.cells a1)] fz k kw = (mrefuse_fine a0 a1).bind fun (r:Bool)=>k (.d (.bool r)):=by
 have h:=c_mrefuse_fine a0 a1
 exact callF_flat h (fun _=>rfl) fz
theorem c_mcalendar_Plus (a0:GCity) (a1:Int) (a2:Int):Vm.call TT 75 [.agg (GCity.cells a0),.int .i64 a1,.int .i64 a2] = (mcalendar_Plus a0 a1 a2).map fun (r:Int × Int)=>.tup [.int .i64 r.1,.int .i64 r.2]:=by
 refine (call_told (show TT 75 = some (.told o75) from rfl) _).trans ?_
 simp only [o75,GCity.cells,dTown_mk,mcalendar_Plus,gTown]
 split <;> rfl
theorem k_mcalendar_Plus {β:Type} (a0:GCity) (a1:Int) (a2:Int) (d:Nat) (bl:List (Nat × Option Blk)) (fz:List (Nat × Option Blk)) (k:V→Option β) (kw:V→List (Nat × Option Blk)→Option β):callF TT d bl 75 [.agg (GCity.cells a0),.int .i64 a1,.int .i64 a2] fz k kw = (mcalendar_Plus a0 a1 a2).bind fun (r:Int × Int)=>k (.tup [.d (.int .i64 r.1),.d (.int .i64 r.2)]):=by
 have h:=c_mcalendar_Plus a0 a1 a2
 exact callF_flat h (fun _=>rfl) fz
theorem c_mrefuse_last (a0:GRealm) (a1:GShown):Vm.call TT 42 [.agg (GRealm.cells a0),.agg (GShown.cells a1)] = (mrefuse_last a0 a1).map fun (r:Int × Int)=>.tup [.int .i64 r.1,.int .i64 r.2]:=by
 refine (call_eqF (show TT 42 = some (.code ⟨2,27,[.tmp 4,.tmp 5],bd42,false⟩) from rfl) _ rfl).trans ?_
 show evK TT bd42 ⟨[(0,aggD (GRealm.cells a0)),(1,aggD (GShown.cells a1))],[]⟩ _ = _
 simp -implicitDefEqProofs (decide:=true) (maxSteps:=2000000) only [bd42,mrefuse_last,↓k_mrealm_Check,↓k_mrefuse_fine,↓k_mcalendar_Plus,↓DN,↓DR,DQ,DP,↓reduceIte,Int.reduceToNat,Nat.reduceBEq,Nat.reduceAdd,Nat.reduceLT,Nat.reduceLeDiff,Nat.reduceEqDiff,Int.reduceEq,reduceCtorEq,specL,specO,specP,beq_self_eq_true,List.length_cons,List.length_nil,cM_length,Bool.not_true,Bool.not_false,if_true,if_false,List.replicate_succ,List.replicate_zero,dcells_len,Option.bind_some,none_bind,Option.map_some,Option.map_none,Sum.elim_inl,Sum.elim_inr,sized_cI,sized_cB,sized_cS,sized_cL,sized_cK,stepR_none,stepR_inl,stepR_inr,elim_stepR,stepR_ite,stepR_bind,ite_bind,ite_map,bind_map,elim_bind,elim_map,Option.bind_assoc]
 all_goals try simp only [gIf_eq]
 all_goals try rfl
theorem k_mrefuse_last {β:Type} (a0:GRealm) (a1:GShown) (d:Nat) (bl:List (Nat × Option Blk)) (fz:List (Nat × Option Blk)) (k:V→Option β) (kw:V→List (Nat × Option Blk)→Option β):callF TT d bl 42 [.agg (GRealm.cells a0),.agg (GShown.cells a1)] fz k kw = (mrefuse_last a0 a1).bind fun (r:Int × Int)=>k (.tup [.d (.int .i64 r.1),.d (.int .i64 r.2)]):=by
 have h:=c_mrefuse_last a0 a1
 exact callF_flat h (fun _=>rfl) fz
theorem c_mslices_Clone_int_int (a0:List Int):Vm.call TT 77 [.sl (cM cI a0)] = (mslices_Clone_int_int a0).map fun (r:(List Int))=>.sl (cM cI r):=by
 refine (call_told (show TT 77 = some (.told o77) from rfl) _).trans ?_
 have h1:sized 1 (cM cI a0) = true:=sized_cM _ _ (fun x=>by rfl) a0
 have h2:atoms (cM cI a0) = true:=atoms_cM _ _ (fun x=>rfl)
 have h3:(cM cI a0).length = a0.length:=List.length_map ..
 simp only [o77,cloneO,h1,h2,h3,true_and,mslices_Clone_int_int]
 split <;> rfl
theorem k_mslices_Clone_int_int {β:Type} (a0:List Int) (d:Nat) (bl:List (Nat × Option Blk)) (fz:List (Nat × Option Blk)) (k:V→Option β) (kw:V→List (Nat × Option Blk)→Option β):callF TT d bl 77 [.sl (cM cI a0)] fz k kw = (mslices_Clone_int_int a0).bind fun (r:(List Int))=>fzK fz (.d (.sl (cM cI r))) k kw:=by
 have h:=c_mslices_Clone_int_int a0
 exact callF_deep h (fun _=>rfl) (fun _=>rfl) fz
theorem h_mrefuse_missing_l1 (a0:List (List Int)) (a1:GWarning) (p1:Int) (p2:List (List Int)):evK TT b_mrefuse_missing_l1 ⟨[(3,.ptr 3 0),(5,.own 23 0),(8,.d (.sl (cM (cL cI) a0))),(9,.d (.int .i64 (a0.length:Int))),(10,.d (.int .i64 p1))],[(3,some (.box (dcells (GWarning.cells a1)))),(23,some (.rows 0 47 1 (cM (cL cI) p2)))]⟩ (fun e s=>some (e,s)) = stepR (fun (w:Int × (List (List Int)))=>(⟨[(3,.ptr 3 0),(5,.own 23 0),(8,.d (.sl (cM (cL cI) a0))),(9,.d (.int .i64 (a0.length:Int))),(10,.d (.int .i64 w.1))],[(3,some (.box (dcells (GWarning.cells a1)))),(23,some (.rows 0 47 1 (cM (cL cI) w.2)))]⟩ : St)) (fun (r:(List (List Int)))=>(((.exit 0),⟨[(5,.own 23 0)],[(23,some (.rows 0 47 1 (cM (cL cI) r)))]⟩):Ex × St)) (mrefuse_missing_l1_s a0 a1 p1 p2):=by
 simp -implicitDefEqProofs (decide:=true) (maxSteps:=2000000) only [b_mrefuse_missing_l1,mrefuse_missing_l1_s,↓k_mrefuse_has,↓k_mslices_Clone_int_int,↓DN,↓DR,DQ,DP,↓reduceIte,Int.reduceToNat,Nat.reduceBEq,Nat.reduceAdd,Nat.reduceLT,Nat.reduceLeDiff,Nat.reduceEqDiff,Int.reduceEq,reduceCtorEq,specL,specO,specP,beq_self_eq_true,List.length_cons,List.length_nil,cM_length,Bool.not_true,Bool.not_false,if_true,if_false,List.replicate_succ,List.replicate_zero,dcells_len,Option.bind_some,none_bind,Option.map_some,Option.map_none,Sum.elim_inl,Sum.elim_inr,sized_cI,sized_cB,sized_cS,sized_cL,sized_cK,stepR_none,stepR_inl,stepR_inr,elim_stepR,stepR_ite,stepR_bind,ite_bind,ite_map,bind_map,elim_bind,elim_map,Option.bind_assoc]
 all_goals try simp only [gIf_eq]
 all_goals try rfl
theorem e_mrefuse_missing_l1 {β:Type} (a0:List (List Int)) (a1:GWarning) (p1:Int) (p2:List (List Int)) (k:Ex→St→Option β):evK TT c_mrefuse_missing_l1 ⟨[(3,.ptr 3 0),(5,.own 23 0),(8,.d (.sl (cM (cL cI) a0))),(9,.d (.int .i64 (a0.length:Int))),(10,.d (.int .i64 p1))],[(3,some (.box (dcells (GWarning.cells a1)))),(23,some (.rows 0 47 1 (cM (cL cI) p2)))]⟩ k = (mrefuse_missing_l1 a0 a1 p1 p2).bind (fun (r:(List (List Int)))=>k (.exit 0) ⟨[(5,.own 23 0)],[(23,some (.rows 0 47 1 (cM (cL cI) r)))]⟩):=by
 have hh:=fun (w:Int × (List (List Int)))=>h_mrefuse_missing_l1 a0 a1 w.1 w.2
 have h:=fun ho=>evK_loop (T:=TT) (k:=k) (c:=b_mrefuse_missing_l1) (step:=(fun (w:Int × (List (List Int)))=>mrefuse_missing_l1_s a0 a1 w.1 w.2)) _ _ ho hh (p1,p2)
 refine Eq.trans (h (fun r s e=>by have q:=congrArg Prod.fst e; rcases r with x <;> cases q)) ?_
 unfold mrefuse_missing_l1
 exact bind_congr' _ fun x=>by rcases x with x <;> rfl
theorem c_mrefuse_missing (a0:List (List Int)) (a1:GWarning):Vm.call TT 43 [.sl (cM (cL cI) a0),.agg (GWarning.cells a1)] = (mrefuse_missing a0 a1).map fun (r:(List (List Int)))=>.sl (cM (cL cI) r):=by
 refine (call_eqF (show TT 43 = some (.code ⟨2,26,[.tmp 4],bd43,false⟩) from rfl) _ rfl).trans ?_
 show evK TT bd43 ⟨[(0,.d (.sl (cM (cL cI) a0))),(1,aggD (GWarning.cells a1))],[]⟩ _ = _
 simp -implicitDefEqProofs (decide:=true) (maxSteps:=2000000) only [bd43,mrefuse_missing,↓e_mrefuse_missing_l1,↓k_mrefuse_has,↓k_mslices_Clone_int_int,↓DN,↓DR,DQ,DP,↓reduceIte,Int.reduceToNat,Nat.reduceBEq,Nat.reduceAdd,Nat.reduceLT,Nat.reduceLeDiff,Nat.reduceEqDiff,Int.reduceEq,reduceCtorEq,specL,specO,specP,beq_self_eq_true,List.length_cons,List.length_nil,cM_length,Bool.not_true,Bool.not_false,if_true,if_false,List.replicate_succ,List.replicate_zero,dcells_len,Option.bind_some,none_bind,Option.map_some,Option.map_none,Sum.elim_inl,Sum.elim_inr,sized_cI,sized_cB,sized_cS,sized_cL,sized_cK,stepR_none,stepR_inl,stepR_inr,elim_stepR,stepR_ite,stepR_bind,ite_bind,ite_map,bind_map,elim_bind,elim_map,Option.bind_assoc]
 all_goals try simp only [gIf_eq]
 all_goals try rfl
theorem k_mrefuse_missing {β:Type} (a0:List (List Int)) (a1:GWarning) (d:Nat) (bl:List (Nat × Option Blk)) (fz:List (Nat × Option Blk)) (k:V→Option β) (kw:V→List (Nat × Option Blk)→Option β):callF TT d bl 43 [.sl (cM (cL cI) a0),.agg (GWarning.cells a1)] fz k kw = (mrefuse_missing a0 a1).bind fun (r:(List (List Int)))=>fzK fz (.d (.sl (cM (cL cI) r))) k kw:=by
 have h:=c_mrefuse_missing a0 a1
 exact callF_deep h (fun _=>rfl) (fun _=>rfl) fz
theorem e_mrefuse_Bound_j1 {β:Type} (a1:GShown) (r1:Int × Int) (k:Ex→St→Option β):evK TT c_mrefuse_Bound_j1 ⟨[(4,.ptr 4 0),(8,.d (.int .i64 r1.1))],[(4,some (.box (dcells (GShown.cells a1))))]⟩ k = (mrefuse_Bound_j1 a1 r1).bind (fun (r:Int)=>k .ret ⟨[(6,.d (.int .i64 r)),(7,.d (.int .i64 0))],[]⟩):=by
 simp -implicitDefEqProofs (decide:=true) (maxSteps:=2000000) only [c_mrefuse_Bound_j1,mrefuse_Bound_j1,↓k_mrefuse_last,↓k_mrefuse_missing,↓DN,↓DR,DQ,DP,↓reduceIte,Int.reduceToNat,Nat.reduceBEq,Nat.reduceAdd,Nat.reduceLT,Nat.reduceLeDiff,Nat.reduceEqDiff,Int.reduceEq,reduceCtorEq,specL,specO,specP,beq_self_eq_true,List.length_cons,List.length_nil,cM_length,Bool.not_true,Bool.not_false,if_true,if_false,List.replicate_succ,List.replicate_zero,dcells_len,Option.bind_some,none_bind,Option.map_some,Option.map_none,Sum.elim_inl,Sum.elim_inr,sized_cI,sized_cB,sized_cS,sized_cL,sized_cK,stepR_none,stepR_inl,stepR_inr,elim_stepR,stepR_ite,stepR_bind,ite_bind,ite_map,bind_map,elim_bind,elim_map,Option.bind_assoc]
 all_goals try simp only [gIf_eq]
 all_goals try rfl
theorem c_mrefuse_Bound (a0:GRealm) (a1:GShown) (a2:Int):Vm.call TT 18 [.agg (GRealm.cells a0),.agg (GShown.cells a1),.int .i64 a2] = (mrefuse_Bound a0 a1 a2).map fun (r:Int × Int)=>.tup [.int .i64 r.1,.int .i64 r.2]:=by
 refine (call_eqF (show TT 18 = some (.code ⟨3,65,[.tmp 6,.tmp 7],bd18,false⟩) from rfl) _ rfl).trans ?_
 show evK TT bd18 ⟨[(0,aggD (GRealm.cells a0)),(1,aggD (GShown.cells a1)),(2,.d (.int .i64 a2))],[]⟩ _ = _
 simp -implicitDefEqProofs (decide:=true) (maxSteps:=2000000) only [bd18,mrefuse_Bound,↓e_mrefuse_Bound_j1,↓k_mrefuse_last,↓k_mrefuse_missing,↓DN,↓DR,DQ,DP,↓reduceIte,Int.reduceToNat,Nat.reduceBEq,Nat.reduceAdd,Nat.reduceLT,Nat.reduceLeDiff,Nat.reduceEqDiff,Int.reduceEq,reduceCtorEq,specL,specO,specP,beq_self_eq_true,List.length_cons,List.length_nil,cM_length,Bool.not_true,Bool.not_false,if_true,if_false,List.replicate_succ,List.replicate_zero,dcells_len,Option.bind_some,none_bind,Option.map_some,Option.map_none,Sum.elim_inl,Sum.elim_inr,sized_cI,sized_cB,sized_cS,sized_cL,sized_cK,stepR_none,stepR_inl,stepR_inr,elim_stepR,stepR_ite,stepR_bind,ite_bind,ite_map,bind_map,elim_bind,elim_map,Option.bind_assoc]
 all_goals try simp only [gIf_eq]
 all_goals try rfl
theorem k_mrefuse_Bound {β:Type} (a0:GRealm) (a1:GShown) (a2:Int) (d:Nat) (bl:List (Nat × Option Blk)) (fz:List (Nat × Option Blk)) (k:V→Option β) (kw:V→List (Nat × Option Blk)→Option β):callF TT d bl 18 [.agg (GRealm.cells a0),.agg (GShown.cells a1),.int .i64 a2] fz k kw = (mrefuse_Bound a0 a1 a2).bind fun (r:Int × Int)=>k (.tup [.d (.int .i64 r.1),.d (.int .i64 r.2)]):=by
 have h:=c_mrefuse_Bound a0 a1 a2
 exact callF_flat h (fun _=>rfl) fz
theorem c_mrefuse_Last (a0:GRealm) (a1:GShown):Vm.call TT 17 [.agg (GRealm.cells a0),.agg (GShown.cells a1)] = (mrefuse_Last a0 a1).map fun (r:Int × Int)=>.tup [.int .i64 r.1,.int .i64 r.2]:=by
 refine (call_eqF (show TT 17 = some (.code ⟨2,11,[.tmp 4,.tmp 5],bd17,false⟩) from rfl) _ rfl).trans ?_
 show evK TT bd17 ⟨[(0,aggD (GRealm.cells a0)),(1,aggD (GShown.cells a1))],[]⟩ _ = _
 simp -implicitDefEqProofs (decide:=true) (maxSteps:=2000000) only [bd17,mrefuse_Last,↓k_mrefuse_last,↓DN,↓DR,DQ,DP,↓reduceIte,Int.reduceToNat,Nat.reduceBEq,Nat.reduceAdd,Nat.reduceLT,Nat.reduceLeDiff,Nat.reduceEqDiff,Int.reduceEq,reduceCtorEq,specL,specO,specP,beq_self_eq_true,List.length_cons,List.length_nil,cM_length,Bool.not_true,Bool.not_false,if_true,if_false,List.replicate_succ,List.replicate_zero,dcells_len,Option.bind_some,none_bind,Option.map_some,Option.map_none,Sum.elim_inl,Sum.elim_inr,sized_cI,sized_cB,sized_cS,sized_cL,sized_cK,stepR_none,stepR_inl,stepR_inr,elim_stepR,stepR_ite,stepR_bind,ite_bind,ite_map,bind_map,elim_bind,elim_map,Option.bind_assoc]
 all_goals try simp only [gIf_eq]
 all_goals try rfl
theorem k_mrefuse_Last {β:Type} (a0:GRealm) (a1:GShown) (d:Nat) (bl:List (Nat × Option Blk)) (fz:List (Nat × Option Blk)) (k:V→Option β) (kw:V→List (Nat × Option Blk)→Option β):callF TT d bl 17 [.agg (GRealm.cells a0),.agg (GShown.cells a1)] fz k kw = (mrefuse_Last a0 a1).bind fun (r:Int × Int)=>k (.tup [.d (.int .i64 r.1),.d (.int .i64 r.2)]):=by
 have h:=c_mrefuse_Last a0 a1
 exact callF_flat h (fun _=>rfl) fz
theorem c_mallongelaw36_says (a0:List GWarning) (a1:Int) (a2:Int) (a3:Int):Vm.call TT 40 [.sl (cM GWarning.cells a0),.int .i64 a1,.int .i64 a2,.int .i64 a3] = (mallongelaw36_says a0 a1 a2 a3).map fun (r:Bool)=>.bool r:=by
 refine (call_eqF (show TT 40 = some (.code ⟨4,81,[.tmp 8],bd40,false⟩) from rfl) _ rfl).trans ?_
 show evK TT bd40 ⟨[(0,.d (.sl (cM GWarning.cells a0))),(1,.d (.int .i64 a1)),(2,.d (.int .i64 a2)),(3,.d (.int .i64 a3))],[]⟩ _ = _
 simp -implicitDefEqProofs (decide:=true) (maxSteps:=2000000) only [bd40,mallongelaw36_says,↓k_mrefuse_Last,↓k_mrefuse_Bound,↓k_mallongelaw36_example,↓DN,↓DR,DQ,DP,↓reduceIte,Int.reduceToNat,Nat.reduceBEq,Nat.reduceAdd,Nat.reduceLT,Nat.reduceLeDiff,Nat.reduceEqDiff,Int.reduceEq,reduceCtorEq,specL,specO,specP,beq_self_eq_true,List.length_cons,List.length_nil,cM_length,Bool.not_true,Bool.not_false,if_true,if_false,List.replicate_succ,List.replicate_zero,dcells_len,Option.bind_some,none_bind,Option.map_some,Option.map_none,Sum.elim_inl,Sum.elim_inr,sized_cI,sized_cB,sized_cS,sized_cL,sized_cK,stepR_none,stepR_inl,stepR_inr,elim_stepR,stepR_ite,stepR_bind,ite_bind,ite_map,bind_map,elim_bind,elim_map,Option.bind_assoc]
 all_goals try simp only [gIf_eq]
 all_goals try rfl
theorem k_mallongelaw36_says {β:Type} (a0:List GWarning) (a1:Int) (a2:Int) (a3:Int) (d:Nat) (bl:List (Nat × Option Blk)) (fz:List (Nat × Option Blk)) (k:V→Option β) (kw:V→List (Nat × Option Blk)→Option β):callF TT d bl 40 [.sl (cM GWarning.cells a0),.int .i64 a1,.int .i64 a2,.int .i64 a3] fz k kw = (mallongelaw36_says a0 a1 a2 a3).bind fun (r:Bool)=>k (.d (.bool r)):=by
 have h:=c_mallongelaw36_says a0 a1 a2 a3
 exact callF_flat h (fun _=>rfl) fz
theorem c_mrefuse_Check (a0:GRealm) (a1:GShown):Vm.call TT 16 [.agg (GRealm.cells a0),.agg (GShown.cells a1)] = (mrefuse_Check a0 a1).map fun (r:Int)=>.int .i64 r:=by
 refine (call_eqF (show TT 16 = some (.code ⟨2,14,[.tmp 4],bd16,false⟩) from rfl) _ rfl).trans ?_
 show evK TT bd16 ⟨[(0,aggD (GRealm.cells a0)),(1,aggD (GShown.cells a1))],[]⟩ _ = _
 simp -implicitDefEqProofs (decide:=true) (maxSteps:=2000000) only [bd16,mrefuse_Check,↓k_mrefuse_last,↓DN,↓DR,DQ,DP,↓reduceIte,Int.reduceToNat,Nat.reduceBEq,Nat.reduceAdd,Nat.reduceLT,Nat.reduceLeDiff,Nat.reduceEqDiff,Int.reduceEq,reduceCtorEq,specL,specO,specP,beq_self_eq_true,List.length_cons,List.length_nil,cM_length,Bool.not_true,Bool.not_false,if_true,if_false,List.replicate_succ,List.replicate_zero,dcells_len,Option.bind_some,none_bind,Option.map_some,Option.map_none,Sum.elim_inl,Sum.elim_inr,sized_cI,sized_cB,sized_cS,sized_cL,sized_cK,stepR_none,stepR_inl,stepR_inr,elim_stepR,stepR_ite,stepR_bind,ite_bind,ite_map,bind_map,elim_bind,elim_map,Option.bind_assoc]
 all_goals try simp only [gIf_eq]
 all_goals try rfl
theorem k_mrefuse_Check {β:Type} (a0:GRealm) (a1:GShown) (d:Nat) (bl:List (Nat × Option Blk)) (fz:List (Nat × Option Blk)) (k:V→Option β) (kw:V→List (Nat × Option Blk)→Option β):callF TT d bl 16 [.agg (GRealm.cells a0),.agg (GShown.cells a1)] fz k kw = (mrefuse_Check a0 a1).bind fun (r:Int)=>k (.d (.int .i64 r)):=by
 have h:=c_mrefuse_Check a0 a1
 exact callF_flat h (fun _=>rfl) fz
end Go.Proofs.Ytjllkddmkdajcaa
