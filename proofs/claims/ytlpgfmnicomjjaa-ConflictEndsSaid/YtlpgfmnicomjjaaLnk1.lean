/- The functions of the small machine compute the plain definitions. Printed by a program. -/
import Derived.Test.YtlpgfmnicomjjaaFn
set_option linter.unusedVariables false
set_option linter.unusedSimpArgs false
namespace Go.Proofs.Ytlpgfmnicomjjaa
open Vm
open Go.RowKit
set_option maxRecDepth 100000
set_option maxHeartbeats 4000000
attribute [local congr] condK_congr opsK_congr opsDK_congr valK_congr
theorem c_mallongelaw19_example (a0:Int) (a1:Bool):Vm.call TT 61 [.int .i64 a0,.bool a1] = (mallongelaw19_example a0 a1).map fun (r:GRealm)=>.agg (GRealm.cells r):=by
 refine (call_eqF (show TT 61 = some (.code ⟨2,19,[.cell 4 8 true],bd61,false,false⟩) from rfl) _ rfl rfl).trans ?_
 show evK TT bd61 ⟨[(0,.d (.int .i64 a0)),(1,.d (.bool a1))],[]⟩ _ = _
 simp -implicitDefEqProofs (decide:=true) (maxSteps:=2000000) only [bd61,mallongelaw19_example,↓DN,↓DR,DQ,DP,↓reduceIte,Int.reduceToNat,Nat.reduceBEq,Nat.reduceAdd,Nat.reduceLT,Nat.reduceLeDiff,Nat.reduceEqDiff,Int.reduceEq,ne_eq,not_false_eq_true,reduceCtorEq,specL,specO,specP,beq_self_eq_true,List.length_cons,List.length_nil,cM_length,Bool.not_true,Bool.not_false,if_true,if_false,List.replicate_succ,List.replicate_zero,dcells_len,Option.bind_some,none_bind,Option.map_some,Option.map_none,Sum.elim_inl,Sum.elim_inr,sized_cI,sized_cB,sized_cS,sized_cL,sized_cK,stepR_none,stepR_inl,stepR_inr,elim_stepR,stepR_ite,stepR_bind,ite_bind,ite_map,Vm.bind_map,elim_bind,elim_map,Option.bind_assoc]
 all_goals try simp only [gIf_eq]
 all_goals try rfl
theorem k_mallongelaw19_example {β:Type} (a0:Int) (a1:Bool) (d:Nat) (bl:List (Nat × Option Blk)) (fz:List (Nat × Option Blk)) (k:V→Option β) (kw:V→List (Nat × Option Blk)→Option β):callF TT d bl 61 [.int .i64 a0,.bool a1] fz k kw = (mallongelaw19_example a0 a1).bind fun (r:GRealm)=>fzK fz (aggD (GRealm.cells r)) k kw:=by
 have h:=c_mallongelaw19_example a0 a1
 exact callF_deep h (fun _=>rfl) (fun _=>rfl) fz
theorem c_mconflict_fine_1_s1 (a0:Int) (a1:Int):Vm.call TT 95 [.int .i64 a0,.ptr [.int .i64 a1] 0] = (mconflict_fine_1_s1 a0 a1).map fun (r:Bool)=>.bool r:=by
 refine (call_eqF (show TT 95 = some (.code ⟨2,11,[.tmp 3],bd95,false,false⟩) from rfl) _ rfl rfl).trans ?_
 show evK TT bd95 ⟨[(0,.d (.int .i64 a0)),(1,.d (.ptr [.int .i64 a1] 0))],[]⟩ _ = _
 simp -implicitDefEqProofs (decide:=true) (maxSteps:=2000000) only [bd95,mconflict_fine_1_s1,↓DN,↓DR,DQ,DP,↓reduceIte,Int.reduceToNat,Nat.reduceBEq,Nat.reduceAdd,Nat.reduceLT,Nat.reduceLeDiff,Nat.reduceEqDiff,Int.reduceEq,ne_eq,not_false_eq_true,reduceCtorEq,specL,specO,specP,beq_self_eq_true,List.length_cons,List.length_nil,cM_length,Bool.not_true,Bool.not_false,if_true,if_false,List.replicate_succ,List.replicate_zero,dcells_len,Option.bind_some,none_bind,Option.map_some,Option.map_none,Sum.elim_inl,Sum.elim_inr,sized_cI,sized_cB,sized_cS,sized_cL,sized_cK,stepR_none,stepR_inl,stepR_inr,elim_stepR,stepR_ite,stepR_bind,ite_bind,ite_map,Vm.bind_map,elim_bind,elim_map,Option.bind_assoc]
 all_goals try simp only [gIf_eq]
 all_goals try rfl
theorem k_mconflict_fine_1_s1 {β:Type} (a0:Int) (a1:Int) (d:Nat) (bl:List (Nat × Option Blk)) (fz:List (Nat × Option Blk)) (k:V→Option β) (kw:V→List (Nat × Option Blk)→Option β):callF TT d bl 95 [.int .i64 a0,.ptr [.int .i64 a1] 0] fz k kw = (mconflict_fine_1_s1 a0 a1).bind fun (r:Bool)=>k (.d (.bool r)):=by
 have h:=c_mconflict_fine_1_s1 a0 a1
 exact callF_flat h (fun _=>rfl) fz
theorem h_mslices_IndexFunc_int_int_s1_l1 (a0:List Int) (a1:Int) (p1:Int):evK TT b_mslices_IndexFunc_int_int_l1 ⟨[(0,.d (.sl (cM cI a0))),(1,.d (.fn 95 [.ptr [.int .i64 a1] 0])),(7,.d (.int .i64 (a0.length:Int))),(8,.d (.int .i64 p1))],[]⟩ (fun e s=>some (e,s)) = stepR (fun (w:Int)=>(⟨[(0,.d (.sl (cM cI a0))),(1,.d (.fn 95 [.ptr [.int .i64 a1] 0])),(7,.d (.int .i64 (a0.length:Int))),(8,.d (.int .i64 w))],[]⟩ : St)) (fun (r:Unit ⊕ Int)=>Sum.elim (fun (z:Unit)=>(((.exit 0),⟨[],[]⟩):Ex × St)) (fun (z:Int)=>((.ret,⟨[(4,.d (.int .i64 z))],[]⟩):Ex × St)) r) (mslices_IndexFunc_int_int_s1_l1_s a0 a1 p1):=by
 simp -implicitDefEqProofs (decide:=true) (maxSteps:=2000000) only [b_mslices_IndexFunc_int_int_l1,mslices_IndexFunc_int_int_s1_l1_s,↓k_mconflict_fine_1_s1,↓DN,↓DR,DQ,DP,↓reduceIte,Int.reduceToNat,Nat.reduceBEq,Nat.reduceAdd,Nat.reduceLT,Nat.reduceLeDiff,Nat.reduceEqDiff,Int.reduceEq,ne_eq,not_false_eq_true,reduceCtorEq,specL,specO,specP,beq_self_eq_true,List.length_cons,List.length_nil,cM_length,Bool.not_true,Bool.not_false,if_true,if_false,List.replicate_succ,List.replicate_zero,dcells_len,Option.bind_some,none_bind,Option.map_some,Option.map_none,Sum.elim_inl,Sum.elim_inr,sized_cI,sized_cB,sized_cS,sized_cL,sized_cK,stepR_none,stepR_inl,stepR_inr,elim_stepR,stepR_ite,stepR_bind,ite_bind,ite_map,Vm.bind_map,elim_bind,elim_map,Option.bind_assoc]
 all_goals try simp only [gIf_eq]
 all_goals try rfl
theorem e_mslices_IndexFunc_int_int_s1_l1 {β:Type} (a0:List Int) (a1:Int) (p1:Int) (k:Ex→St→Option β):evK TT c_mslices_IndexFunc_int_int_l1 ⟨[(0,.d (.sl (cM cI a0))),(1,.d (.fn 95 [.ptr [.int .i64 a1] 0])),(7,.d (.int .i64 (a0.length:Int))),(8,.d (.int .i64 p1))],[]⟩ k = (mslices_IndexFunc_int_int_s1_l1 a0 a1 p1).bind (fun (r:Unit ⊕ Int)=>Sum.elim (fun (z:Unit)=>k (.exit 0) ⟨[],[]⟩) (fun (z:Int)=>k .ret ⟨[(4,.d (.int .i64 z))],[]⟩) r):=by
 have hh:=fun (w:Int)=>h_mslices_IndexFunc_int_int_s1_l1 a0 a1 w
 have h:=fun ho=>evK_loop (T:=TT) (k:=k) (c:=b_mslices_IndexFunc_int_int_l1) (step:=(fun (w:Int)=>mslices_IndexFunc_int_int_s1_l1_s a0 a1 w)) _ _ ho hh p1
 refine Eq.trans (h (fun r s e=>by have q:=congrArg Prod.fst e; rcases r with x | x <;> cases q)) ?_
 unfold mslices_IndexFunc_int_int_s1_l1
 exact bind_congr' _ fun x=>by rcases x with x | x <;> rfl
theorem c_mslices_IndexFunc_int_int_s1 (a0:List Int) (a1:Int):Vm.call TT 109 [.sl (cM cI a0),.fn 95 [.ptr [.int .i64 a1] 0]] = (mslices_IndexFunc_int_int_s1 a0 a1).map fun (r:Int)=>.int .i64 r:=by
 refine (call_eqF (show TT 109 = some (.code ⟨2,19,[.tmp 4],bd109,false,false⟩) from rfl) _ rfl rfl).trans ?_
 show evK TT bd109 ⟨[(0,.d (.sl (cM cI a0))),(1,.d (.fn 95 [.ptr [.int .i64 a1] 0]))],[]⟩ _ = _
 simp -implicitDefEqProofs (decide:=true) (maxSteps:=2000000) only [bd109,mslices_IndexFunc_int_int_s1,↓e_mslices_IndexFunc_int_int_s1_l1,↓k_mconflict_fine_1_s1,↓DN,↓DR,DQ,DP,↓reduceIte,Int.reduceToNat,Nat.reduceBEq,Nat.reduceAdd,Nat.reduceLT,Nat.reduceLeDiff,Nat.reduceEqDiff,Int.reduceEq,ne_eq,not_false_eq_true,reduceCtorEq,specL,specO,specP,beq_self_eq_true,List.length_cons,List.length_nil,cM_length,Bool.not_true,Bool.not_false,if_true,if_false,List.replicate_succ,List.replicate_zero,dcells_len,Option.bind_some,none_bind,Option.map_some,Option.map_none,Sum.elim_inl,Sum.elim_inr,sized_cI,sized_cB,sized_cS,sized_cL,sized_cK,stepR_none,stepR_inl,stepR_inr,elim_stepR,stepR_ite,stepR_bind,ite_bind,ite_map,Vm.bind_map,elim_bind,elim_map,Option.bind_assoc]
 all_goals try simp only [gIf_eq]
 all_goals try rfl
theorem k_mslices_IndexFunc_int_int_s1 {β:Type} (a0:List Int) (a1:Int) (d:Nat) (bl:List (Nat × Option Blk)) (fz:List (Nat × Option Blk)) (k:V→Option β) (kw:V→List (Nat × Option Blk)→Option β):callF TT d bl 109 [.sl (cM cI a0),.fn 95 [.ptr [.int .i64 a1] 0]] fz k kw = (mslices_IndexFunc_int_int_s1 a0 a1).bind fun (r:Int)=>k (.d (.int .i64 r)):=by
 have h:=c_mslices_IndexFunc_int_int_s1 a0 a1
 exact callF_flat h (fun _=>rfl) fz
theorem c_mslices_ContainsFunc_int_int_s1 (a0:List Int) (a1:Int):Vm.call TT 94 [.sl (cM cI a0),.fn 95 [.ptr [.int .i64 a1] 0]] = (mslices_ContainsFunc_int_int_s1 a0 a1).map fun (r:Bool)=>.bool r:=by
 refine (call_eqF (show TT 94 = some (.code ⟨2,9,[.tmp 4],bd94,false,false⟩) from rfl) _ rfl rfl).trans ?_
 show evK TT bd94 ⟨[(0,.d (.sl (cM cI a0))),(1,.d (.fn 95 [.ptr [.int .i64 a1] 0]))],[]⟩ _ = _
 simp -implicitDefEqProofs (decide:=true) (maxSteps:=2000000) only [bd94,mslices_ContainsFunc_int_int_s1,↓k_mslices_IndexFunc_int_int_s1,↓DN,↓DR,DQ,DP,↓reduceIte,Int.reduceToNat,Nat.reduceBEq,Nat.reduceAdd,Nat.reduceLT,Nat.reduceLeDiff,Nat.reduceEqDiff,Int.reduceEq,ne_eq,not_false_eq_true,reduceCtorEq,specL,specO,specP,beq_self_eq_true,List.length_cons,List.length_nil,cM_length,Bool.not_true,Bool.not_false,if_true,if_false,List.replicate_succ,List.replicate_zero,dcells_len,Option.bind_some,none_bind,Option.map_some,Option.map_none,Sum.elim_inl,Sum.elim_inr,sized_cI,sized_cB,sized_cS,sized_cL,sized_cK,stepR_none,stepR_inl,stepR_inr,elim_stepR,stepR_ite,stepR_bind,ite_bind,ite_map,Vm.bind_map,elim_bind,elim_map,Option.bind_assoc]
 all_goals try simp only [gIf_eq]
 all_goals try rfl
theorem k_mslices_ContainsFunc_int_int_s1 {β:Type} (a0:List Int) (a1:Int) (d:Nat) (bl:List (Nat × Option Blk)) (fz:List (Nat × Option Blk)) (k:V→Option β) (kw:V→List (Nat × Option Blk)→Option β):callF TT d bl 94 [.sl (cM cI a0),.fn 95 [.ptr [.int .i64 a1] 0]] fz k kw = (mslices_ContainsFunc_int_int_s1 a0 a1).bind fun (r:Bool)=>k (.d (.bool r)):=by
 have h:=c_mslices_ContainsFunc_int_int_s1 a0 a1
 exact callF_flat h (fun _=>rfl) fz
theorem c_mconflict_fine (a0:GRealm) (a1:Int) (a2:Int) (a3:List Int):Vm.call TT 73 [.agg (GRealm.cells a0),.int .i64 a1,.int .i64 a2,.sl (cM cI a3)] = (mconflict_fine a0 a1 a2 a3).map fun (r:Bool)=>.bool r:=by
 refine (call_eqF (show TT 73 = some (.code ⟨4,37,[.tmp 8],bd73,false,false⟩) from rfl) _ rfl rfl).trans ?_
 show evK TT bd73 ⟨[(0,aggD (GRealm.cells a0)),(1,.d (.int .i64 a1)),(2,.d (.int .i64 a2)),(3,.d (.sl (cM cI a3)))],[]⟩ _ = _
 simp -implicitDefEqProofs (decide:=true) (maxSteps:=2000000) only [bd73,mconflict_fine,↓k_mslices_ContainsFunc_int_int_s1,↓DN,↓DR,DQ,DP,↓reduceIte,Int.reduceToNat,Nat.reduceBEq,Nat.reduceAdd,Nat.reduceLT,Nat.reduceLeDiff,Nat.reduceEqDiff,Int.reduceEq,ne_eq,not_false_eq_true,reduceCtorEq,specL,specO,specP,beq_self_eq_true,List.length_cons,List.length_nil,cM_length,Bool.not_true,Bool.not_false,if_true,if_false,List.replicate_succ,List.replicate_zero,dcells_len,Option.bind_some,none_bind,Option.map_some,Option.map_none,Sum.elim_inl,Sum.elim_inr,sized_cI,sized_cB,sized_cS,sized_cL,sized_cK,stepR_none,stepR_inl,stepR_inr,elim_stepR,stepR_ite,stepR_bind,ite_bind,ite_map,Vm.bind_map,elim_bind,elim_map,Option.bind_assoc]
 all_goals try simp only [gIf_eq]
 all_goals try rfl
theorem k_mconflict_fine {β:Type} (a0:GRealm) (a1:Int) (a2:Int) (a3:List Int) (d:Nat) (bl:List (Nat × Option Blk)) (fz:List (Nat × Option Blk)) (k:V→Option β) (kw:V→List (Nat × Option Blk)→Option β):callF TT d bl 73 [.agg (GRealm.cells a0),.int .i64 a1,.int .i64 a2,.sl (cM cI a3)] fz k kw = (mconflict_fine a0 a1 a2 a3).bind fun (r:Bool)=>k (.d (.bool r)):=by
 have h:=c_mconflict_fine a0 a1 a2 a3
 exact callF_flat h (fun _=>rfl) fz
theorem h_mconflict_Leads_l1 (a1:Int) (a2:Int) (a3:List Int) (x2:GOrder) (p3:Int):evK TT b_mconflict_Leads_l1 ⟨[(1,.d (.int .i64 a1)),(2,.d (.int .i64 a2)),(3,.d (.sl (cM cI a3))),(23,.d (.sl (cM GChoice.cells x2.Choices))),(24,.d (.int .i64 (x2.Choices.length:Int))),(25,.d (.int .i64 p3))],[]⟩ (fun e s=>some (e,s)) = stepR (fun (w:Int)=>(⟨[(1,.d (.int .i64 a1)),(2,.d (.int .i64 a2)),(3,.d (.sl (cM cI a3))),(23,.d (.sl (cM GChoice.cells x2.Choices))),(24,.d (.int .i64 (x2.Choices.length:Int))),(25,.d (.int .i64 w))],[]⟩ : St)) (fun (r:Unit ⊕ (Int × Bool))=>Sum.elim (fun (z:Unit)=>(((.exit 0),⟨[(1,.d (.int .i64 a1))],[]⟩):Ex × St)) (fun (z:Int × Bool)=>((.ret,⟨[(8,.d (.int .i64 z.1)),(9,.d (.bool z.2))],[]⟩):Ex × St)) r) (mconflict_Leads_l1_s a1 a2 a3 x2 p3):=by
 simp -implicitDefEqProofs (decide:=true) (maxSteps:=2000000) only [b_mconflict_Leads_l1,mconflict_Leads_l1_s,↓k_mconflict_fine,↓DN,↓DR,DQ,DP,↓reduceIte,Int.reduceToNat,Nat.reduceBEq,Nat.reduceAdd,Nat.reduceLT,Nat.reduceLeDiff,Nat.reduceEqDiff,Int.reduceEq,ne_eq,not_false_eq_true,reduceCtorEq,specL,specO,specP,beq_self_eq_true,List.length_cons,List.length_nil,cM_length,Bool.not_true,Bool.not_false,if_true,if_false,List.replicate_succ,List.replicate_zero,dcells_len,Option.bind_some,none_bind,Option.map_some,Option.map_none,Sum.elim_inl,Sum.elim_inr,sized_cI,sized_cB,sized_cS,sized_cL,sized_cK,stepR_none,stepR_inl,stepR_inr,elim_stepR,stepR_ite,stepR_bind,ite_bind,ite_map,Vm.bind_map,elim_bind,elim_map,Option.bind_assoc]
 all_goals try simp only [gIf_eq]
 all_goals try rfl
theorem e_mconflict_Leads_l1 {β:Type} (a1:Int) (a2:Int) (a3:List Int) (x2:GOrder) (p3:Int) (k:Ex→St→Option β):evK TT c_mconflict_Leads_l1 ⟨[(1,.d (.int .i64 a1)),(2,.d (.int .i64 a2)),(3,.d (.sl (cM cI a3))),(23,.d (.sl (cM GChoice.cells x2.Choices))),(24,.d (.int .i64 (x2.Choices.length:Int))),(25,.d (.int .i64 p3))],[]⟩ k = (mconflict_Leads_l1 a1 a2 a3 x2 p3).bind (fun (r:Unit ⊕ (Int × Bool))=>Sum.elim (fun (z:Unit)=>k (.exit 0) ⟨[(1,.d (.int .i64 a1))],[]⟩) (fun (z:Int × Bool)=>k .ret ⟨[(8,.d (.int .i64 z.1)),(9,.d (.bool z.2))],[]⟩) r):=by
 have hh:=fun (w:Int)=>h_mconflict_Leads_l1 a1 a2 a3 x2 w
 have h:=fun ho=>evK_loop (T:=TT) (k:=k) (c:=b_mconflict_Leads_l1) (step:=(fun (w:Int)=>mconflict_Leads_l1_s a1 a2 a3 x2 w)) _ _ ho hh p3
 refine Eq.trans (h (fun r s e=>by have q:=congrArg Prod.fst e; rcases r with x | x <;> cases q)) ?_
 unfold mconflict_Leads_l1
 exact bind_congr' _ fun x=>by rcases x with x | x <;> rfl
theorem c_mconflict_Leads (a0:GRealm) (a1:Int) (a2:Int) (a3:List Int):Vm.call TT 44 [.agg (GRealm.cells a0),.int .i64 a1,.int .i64 a2,.sl (cM cI a3)] = (mconflict_Leads a0 a1 a2 a3).map fun (r:Int × Bool)=>.tup [.int .i64 r.1,.bool r.2]:=by
 refine (call_eqF (show TT 44 = some (.code ⟨4,47,[.tmp 8,.tmp 9],bd44,false,false⟩) from rfl) _ rfl rfl).trans ?_
 show evK TT bd44 ⟨[(0,aggD (GRealm.cells a0)),(1,.d (.int .i64 a1)),(2,.d (.int .i64 a2)),(3,.d (.sl (cM cI a3)))],[]⟩ _ = _
 simp -implicitDefEqProofs (decide:=true) (maxSteps:=2000000) only [bd44,mconflict_Leads,↓e_mconflict_Leads_l1,↓k_mconflict_fine,↓DN,↓DR,DQ,DP,↓reduceIte,Int.reduceToNat,Nat.reduceBEq,Nat.reduceAdd,Nat.reduceLT,Nat.reduceLeDiff,Nat.reduceEqDiff,Int.reduceEq,ne_eq,not_false_eq_true,reduceCtorEq,specL,specO,specP,beq_self_eq_true,List.length_cons,List.length_nil,cM_length,Bool.not_true,Bool.not_false,if_true,if_false,List.replicate_succ,List.replicate_zero,dcells_len,Option.bind_some,none_bind,Option.map_some,Option.map_none,Sum.elim_inl,Sum.elim_inr,sized_cI,sized_cB,sized_cS,sized_cL,sized_cK,stepR_none,stepR_inl,stepR_inr,elim_stepR,stepR_ite,stepR_bind,ite_bind,ite_map,Vm.bind_map,elim_bind,elim_map,Option.bind_assoc]
 all_goals try simp only [gIf_eq]
 all_goals try rfl
theorem k_mconflict_Leads {β:Type} (a0:GRealm) (a1:Int) (a2:Int) (a3:List Int) (d:Nat) (bl:List (Nat × Option Blk)) (fz:List (Nat × Option Blk)) (k:V→Option β) (kw:V→List (Nat × Option Blk)→Option β):callF TT d bl 44 [.agg (GRealm.cells a0),.int .i64 a1,.int .i64 a2,.sl (cM cI a3)] fz k kw = (mconflict_Leads a0 a1 a2 a3).bind fun (r:Int × Bool)=>k (.tup [.d (.int .i64 r.1),.d (.bool r.2)]):=by
 have h:=c_mconflict_Leads a0 a1 a2 a3
 exact callF_flat h (fun _=>rfl) fz
theorem h_mslices_Index_int_int_l1 (a0:List Int) (a1:Int) (p1:Int):evK TT b_mslices_Index_int_int_l1 ⟨[(0,.d (.sl (cM cI a0))),(1,.d (.int .i64 a1)),(7,.d (.int .i64 (a0.length:Int))),(8,.d (.int .i64 p1))],[]⟩ (fun e s=>some (e,s)) = stepR (fun (w:Int)=>(⟨[(0,.d (.sl (cM cI a0))),(1,.d (.int .i64 a1)),(7,.d (.int .i64 (a0.length:Int))),(8,.d (.int .i64 w))],[]⟩ : St)) (fun (r:Unit ⊕ Int)=>Sum.elim (fun (z:Unit)=>(((.exit 0),⟨[],[]⟩):Ex × St)) (fun (z:Int)=>((.ret,⟨[(4,.d (.int .i64 z))],[]⟩):Ex × St)) r) (mslices_Index_int_int_l1_s a0 a1 p1):=by
 simp -implicitDefEqProofs (decide:=true) (maxSteps:=2000000) only [b_mslices_Index_int_int_l1,mslices_Index_int_int_l1_s,↓DN,↓DR,DQ,DP,↓reduceIte,Int.reduceToNat,Nat.reduceBEq,Nat.reduceAdd,Nat.reduceLT,Nat.reduceLeDiff,Nat.reduceEqDiff,Int.reduceEq,ne_eq,not_false_eq_true,reduceCtorEq,specL,specO,specP,beq_self_eq_true,List.length_cons,List.length_nil,cM_length,Bool.not_true,Bool.not_false,if_true,if_false,List.replicate_succ,List.replicate_zero,dcells_len,Option.bind_some,none_bind,Option.map_some,Option.map_none,Sum.elim_inl,Sum.elim_inr,sized_cI,sized_cB,sized_cS,sized_cL,sized_cK,stepR_none,stepR_inl,stepR_inr,elim_stepR,stepR_ite,stepR_bind,ite_bind,ite_map,Vm.bind_map,elim_bind,elim_map,Option.bind_assoc]
 all_goals try simp only [gIf_eq]
 all_goals try rfl
theorem e_mslices_Index_int_int_l1 {β:Type} (a0:List Int) (a1:Int) (p1:Int) (k:Ex→St→Option β):evK TT c_mslices_Index_int_int_l1 ⟨[(0,.d (.sl (cM cI a0))),(1,.d (.int .i64 a1)),(7,.d (.int .i64 (a0.length:Int))),(8,.d (.int .i64 p1))],[]⟩ k = (mslices_Index_int_int_l1 a0 a1 p1).bind (fun (r:Unit ⊕ Int)=>Sum.elim (fun (z:Unit)=>k (.exit 0) ⟨[],[]⟩) (fun (z:Int)=>k .ret ⟨[(4,.d (.int .i64 z))],[]⟩) r):=by
 have hh:=fun (w:Int)=>h_mslices_Index_int_int_l1 a0 a1 w
 have h:=fun ho=>evK_loop (T:=TT) (k:=k) (c:=b_mslices_Index_int_int_l1) (step:=(fun (w:Int)=>mslices_Index_int_int_l1_s a0 a1 w)) _ _ ho hh p1
 refine Eq.trans (h (fun r s e=>by have q:=congrArg Prod.fst e; rcases r with x | x <;> cases q)) ?_
 unfold mslices_Index_int_int_l1
 exact bind_congr' _ fun x=>by rcases x with x | x <;> rfl
theorem c_mslices_Index_int_int (a0:List Int) (a1:Int):Vm.call TT 56 [.sl (cM cI a0),.int .i64 a1] = (mslices_Index_int_int a0 a1).map fun (r:Int)=>.int .i64 r:=by
 refine (call_eqF (show TT 56 = some (.code ⟨2,19,[.tmp 4],bd56,false,false⟩) from rfl) _ rfl rfl).trans ?_
 show evK TT bd56 ⟨[(0,.d (.sl (cM cI a0))),(1,.d (.int .i64 a1))],[]⟩ _ = _
 simp -implicitDefEqProofs (decide:=true) (maxSteps:=2000000) only [bd56,mslices_Index_int_int,↓e_mslices_Index_int_int_l1,↓DN,↓DR,DQ,DP,↓reduceIte,Int.reduceToNat,Nat.reduceBEq,Nat.reduceAdd,Nat.reduceLT,Nat.reduceLeDiff,Nat.reduceEqDiff,Int.reduceEq,ne_eq,not_false_eq_true,reduceCtorEq,specL,specO,specP,beq_self_eq_true,List.length_cons,List.length_nil,cM_length,Bool.not_true,Bool.not_false,if_true,if_false,List.replicate_succ,List.replicate_zero,dcells_len,Option.bind_some,none_bind,Option.map_some,Option.map_none,Sum.elim_inl,Sum.elim_inr,sized_cI,sized_cB,sized_cS,sized_cL,sized_cK,stepR_none,stepR_inl,stepR_inr,elim_stepR,stepR_ite,stepR_bind,ite_bind,ite_map,Vm.bind_map,elim_bind,elim_map,Option.bind_assoc]
 all_goals try simp only [gIf_eq]
 all_goals try rfl
theorem k_mslices_Index_int_int {β:Type} (a0:List Int) (a1:Int) (d:Nat) (bl:List (Nat × Option Blk)) (fz:List (Nat × Option Blk)) (k:V→Option β) (kw:V→List (Nat × Option Blk)→Option β):callF TT d bl 56 [.sl (cM cI a0),.int .i64 a1] fz k kw = (mslices_Index_int_int a0 a1).bind fun (r:Int)=>k (.d (.int .i64 r)):=by
 have h:=c_mslices_Index_int_int a0 a1
 exact callF_flat h (fun _=>rfl) fz
theorem c_mslices_Contains_int_int (a0:List Int) (a1:Int):Vm.call TT 74 [.sl (cM cI a0),.int .i64 a1] = (mslices_Contains_int_int a0 a1).map fun (r:Bool)=>.bool r:=by
 refine (call_eqF (show TT 74 = some (.code ⟨2,9,[.tmp 4],bd74,false,false⟩) from rfl) _ rfl rfl).trans ?_
 show evK TT bd74 ⟨[(0,.d (.sl (cM cI a0))),(1,.d (.int .i64 a1))],[]⟩ _ = _
 simp -implicitDefEqProofs (decide:=true) (maxSteps:=2000000) only [bd74,mslices_Contains_int_int,↓k_mslices_Index_int_int,↓DN,↓DR,DQ,DP,↓reduceIte,Int.reduceToNat,Nat.reduceBEq,Nat.reduceAdd,Nat.reduceLT,Nat.reduceLeDiff,Nat.reduceEqDiff,Int.reduceEq,ne_eq,not_false_eq_true,reduceCtorEq,specL,specO,specP,beq_self_eq_true,List.length_cons,List.length_nil,cM_length,Bool.not_true,Bool.not_false,if_true,if_false,List.replicate_succ,List.replicate_zero,dcells_len,Option.bind_some,none_bind,Option.map_some,Option.map_none,Sum.elim_inl,Sum.elim_inr,sized_cI,sized_cB,sized_cS,sized_cL,sized_cK,stepR_none,stepR_inl,stepR_inr,elim_stepR,stepR_ite,stepR_bind,ite_bind,ite_map,Vm.bind_map,elim_bind,elim_map,Option.bind_assoc]
 all_goals try simp only [gIf_eq]
 all_goals try rfl
theorem k_mslices_Contains_int_int {β:Type} (a0:List Int) (a1:Int) (d:Nat) (bl:List (Nat × Option Blk)) (fz:List (Nat × Option Blk)) (k:V→Option β) (kw:V→List (Nat × Option Blk)→Option β):callF TT d bl 74 [.sl (cM cI a0),.int .i64 a1] fz k kw = (mslices_Contains_int_int a0 a1).bind fun (r:Bool)=>k (.d (.bool r)):=by
 have h:=c_mslices_Contains_int_int a0 a1
 exact callF_flat h (fun _=>rfl) fz
theorem h_mconflict_Law_l1 (a0:GRealm) (a2:Int) (a3:List Int) (p3:List Int):evK TT b_mconflict_Law_l1 ⟨[(2,.d (.int .i64 a2)),(3,.d (.sl (cM cI a3))),(4,.ptr 4 0),(10,.own 29 0)],[(4,some (.box (dcells (GRealm.cells a0)))),(29,some (.rows 0 3 1 (cM cI p3)))]⟩ (fun e s=>some (e,s)) = stepR (fun (w:(List Int))=>(⟨[(2,.d (.int .i64 a2)),(3,.d (.sl (cM cI a3))),(4,.ptr 4 0),(10,.own 29 0)],[(4,some (.box (dcells (GRealm.cells a0)))),(29,some (.rows 0 3 1 (cM cI w)))]⟩ : St)) (fun (r:Int × (List Int))=>((.ret,⟨[(8,.own 29 0),(9,.d (.int .i64 r.1))],[(29,some (.rows 0 3 1 (cM cI r.2)))]⟩):Ex × St)) (mconflict_Law_l1_s a0 a2 a3 p3):=by
 simp -implicitDefEqProofs (decide:=true) (maxSteps:=2000000) only [b_mconflict_Law_l1,mconflict_Law_l1_s,↓k_mconflict_Leads,↓k_mconflict_fine,↓k_mslices_Contains_int_int,↓DN,↓DR,DQ,DP,↓reduceIte,Int.reduceToNat,Nat.reduceBEq,Nat.reduceAdd,Nat.reduceLT,Nat.reduceLeDiff,Nat.reduceEqDiff,Int.reduceEq,ne_eq,not_false_eq_true,reduceCtorEq,specL,specO,specP,beq_self_eq_true,List.length_cons,List.length_nil,cM_length,Bool.not_true,Bool.not_false,if_true,if_false,List.replicate_succ,List.replicate_zero,dcells_len,Option.bind_some,none_bind,Option.map_some,Option.map_none,Sum.elim_inl,Sum.elim_inr,sized_cI,sized_cB,sized_cS,sized_cL,sized_cK,stepR_none,stepR_inl,stepR_inr,elim_stepR,stepR_ite,stepR_bind,ite_bind,ite_map,Vm.bind_map,elim_bind,elim_map,Option.bind_assoc]
 all_goals try simp only [gIf_eq]
 all_goals try rfl
theorem e_mconflict_Law_l1 {β:Type} (a0:GRealm) (a2:Int) (a3:List Int) (p3:List Int) (k:Ex→St→Option β):evK TT c_mconflict_Law_l1 ⟨[(2,.d (.int .i64 a2)),(3,.d (.sl (cM cI a3))),(4,.ptr 4 0),(10,.own 29 0)],[(4,some (.box (dcells (GRealm.cells a0)))),(29,some (.rows 0 3 1 (cM cI p3)))]⟩ k = (mconflict_Law_l1 a0 a2 a3 p3).bind (fun (r:Int × (List Int))=>k .ret ⟨[(8,.own 29 0),(9,.d (.int .i64 r.1))],[(29,some (.rows 0 3 1 (cM cI r.2)))]⟩):=by
 have hh:=fun (w:(List Int))=>h_mconflict_Law_l1 a0 a2 a3 w
 have h:=fun ho=>evK_loop (T:=TT) (k:=k) (c:=b_mconflict_Law_l1) (step:=(fun (w:(List Int))=>mconflict_Law_l1_s a0 a2 a3 w)) _ _ ho hh p3
 refine Eq.trans (h (fun r s e=>by have q:=congrArg Prod.fst e; rcases r with x <;> cases q)) ?_
 unfold mconflict_Law_l1
 exact bind_congr' _ fun x=>by rcases x with x <;> rfl
theorem c_mconflict_Law (a0:GRealm) (a1:Int) (a2:Int) (a3:List Int):Vm.call TT 42 [.agg (GRealm.cells a0),.int .i64 a1,.int .i64 a2,.sl (cM cI a3)] = (mconflict_Law a0 a1 a2 a3).map fun (r:(List Int) × Int)=>.tup [.sl (cM cI r.1),.int .i64 r.2]:=by
 refine (call_eqF (show TT 42 = some (.code ⟨4,73,[.tmp 8,.tmp 9],bd42,false,false⟩) from rfl) _ rfl rfl).trans ?_
 show evK TT bd42 ⟨[(0,aggD (GRealm.cells a0)),(1,.d (.int .i64 a1)),(2,.d (.int .i64 a2)),(3,.d (.sl (cM cI a3)))],[]⟩ _ = _
 simp -implicitDefEqProofs (decide:=true) (maxSteps:=2000000) only [bd42,mconflict_Law,↓e_mconflict_Law_l1,↓k_mconflict_Leads,↓k_mconflict_fine,↓k_mslices_Contains_int_int,↓DN,↓DR,DQ,DP,↓reduceIte,Int.reduceToNat,Nat.reduceBEq,Nat.reduceAdd,Nat.reduceLT,Nat.reduceLeDiff,Nat.reduceEqDiff,Int.reduceEq,ne_eq,not_false_eq_true,reduceCtorEq,specL,specO,specP,beq_self_eq_true,List.length_cons,List.length_nil,cM_length,Bool.not_true,Bool.not_false,if_true,if_false,List.replicate_succ,List.replicate_zero,dcells_len,Option.bind_some,none_bind,Option.map_some,Option.map_none,Sum.elim_inl,Sum.elim_inr,sized_cI,sized_cB,sized_cS,sized_cL,sized_cK,stepR_none,stepR_inl,stepR_inr,elim_stepR,stepR_ite,stepR_bind,ite_bind,ite_map,Vm.bind_map,elim_bind,elim_map,Option.bind_assoc]
 all_goals try simp only [gIf_eq]
 all_goals try rfl
theorem k_mconflict_Law {β:Type} (a0:GRealm) (a1:Int) (a2:Int) (a3:List Int) (d:Nat) (bl:List (Nat × Option Blk)) (fz:List (Nat × Option Blk)) (k:V→Option β) (kw:V→List (Nat × Option Blk)→Option β):callF TT d bl 42 [.agg (GRealm.cells a0),.int .i64 a1,.int .i64 a2,.sl (cM cI a3)] fz k kw = (mconflict_Law a0 a1 a2 a3).bind fun (r:(List Int) × Int)=>fzK fz (.tup [.d (.sl (cM cI r.1)),.d (.int .i64 r.2)]) k kw:=by
 have h:=c_mconflict_Law a0 a1 a2 a3
 exact callF_deep h (fun _=>rfl) (fun _=>rfl) fz
theorem h_mallongeref06_SameInts_l1 (a0:List Int) (a1:List Int) (p1:Int):evK TT b_mallongeref06_SameInts_l1 ⟨[(0,.d (.sl (cM cI a0))),(1,.d (.sl (cM cI a1))),(5,.d (.int .i64 p1))],[]⟩ (fun e s=>some (e,s)) = stepR (fun (w:Int)=>(⟨[(0,.d (.sl (cM cI a0))),(1,.d (.sl (cM cI a1))),(5,.d (.int .i64 w))],[]⟩ : St)) (fun (r:Unit ⊕ Unit)=>Sum.elim (fun (z:Unit)=>(((.exit 0),⟨[],[]⟩):Ex × St)) (fun (z:Unit)=>((.ret,⟨[(4,.d (.bool false))],[]⟩):Ex × St)) r) (mallongeref06_SameInts_l1_s a0 a1 p1):=by
 simp -implicitDefEqProofs (decide:=true) (maxSteps:=2000000) only [b_mallongeref06_SameInts_l1,mallongeref06_SameInts_l1_s,↓DN,↓DR,DQ,DP,↓reduceIte,Int.reduceToNat,Nat.reduceBEq,Nat.reduceAdd,Nat.reduceLT,Nat.reduceLeDiff,Nat.reduceEqDiff,Int.reduceEq,ne_eq,not_false_eq_true,reduceCtorEq,specL,specO,specP,beq_self_eq_true,List.length_cons,List.length_nil,cM_length,Bool.not_true,Bool.not_false,if_true,if_false,List.replicate_succ,List.replicate_zero,dcells_len,Option.bind_some,none_bind,Option.map_some,Option.map_none,Sum.elim_inl,Sum.elim_inr,sized_cI,sized_cB,sized_cS,sized_cL,sized_cK,stepR_none,stepR_inl,stepR_inr,elim_stepR,stepR_ite,stepR_bind,ite_bind,ite_map,Vm.bind_map,elim_bind,elim_map,Option.bind_assoc]
 all_goals try simp only [gIf_eq]
 all_goals try rfl
theorem e_mallongeref06_SameInts_l1 {β:Type} (a0:List Int) (a1:List Int) (p1:Int) (k:Ex→St→Option β):evK TT c_mallongeref06_SameInts_l1 ⟨[(0,.d (.sl (cM cI a0))),(1,.d (.sl (cM cI a1))),(5,.d (.int .i64 p1))],[]⟩ k = (mallongeref06_SameInts_l1 a0 a1 p1).bind (fun (r:Unit ⊕ Unit)=>Sum.elim (fun (z:Unit)=>k (.exit 0) ⟨[],[]⟩) (fun (z:Unit)=>k .ret ⟨[(4,.d (.bool false))],[]⟩) r):=by
 have hh:=fun (w:Int)=>h_mallongeref06_SameInts_l1 a0 a1 w
 have h:=fun ho=>evK_loop (T:=TT) (k:=k) (c:=b_mallongeref06_SameInts_l1) (step:=(fun (w:Int)=>mallongeref06_SameInts_l1_s a0 a1 w)) _ _ ho hh p1
 refine Eq.trans (h (fun r s e=>by have q:=congrArg Prod.fst e; rcases r with x | x <;> cases q)) ?_
 unfold mallongeref06_SameInts_l1
 exact bind_congr' _ fun x=>by rcases x with x | x <;> rfl
theorem c_mallongeref06_SameInts (a0:List Int) (a1:List Int):Vm.call TT 27 [.sl (cM cI a0),.sl (cM cI a1)] = (mallongeref06_SameInts a0 a1).map fun (r:Bool)=>.bool r:=by
 refine (call_eqF (show TT 27 = some (.code ⟨2,26,[.tmp 4],bd27,false,false⟩) from rfl) _ rfl rfl).trans ?_
 show evK TT bd27 ⟨[(0,.d (.sl (cM cI a0))),(1,.d (.sl (cM cI a1)))],[]⟩ _ = _
 simp -implicitDefEqProofs (decide:=true) (maxSteps:=2000000) only [bd27,mallongeref06_SameInts,↓e_mallongeref06_SameInts_l1,↓DN,↓DR,DQ,DP,↓reduceIte,Int.reduceToNat,Nat.reduceBEq,Nat.reduceAdd,Nat.reduceLT,Nat.reduceLeDiff,Nat.reduceEqDiff,Int.reduceEq,ne_eq,not_false_eq_true,reduceCtorEq,specL,specO,specP,beq_self_eq_true,List.length_cons,List.length_nil,cM_length,Bool.not_true,Bool.not_false,if_true,if_false,List.replicate_succ,List.replicate_zero,dcells_len,Option.bind_some,none_bind,Option.map_some,Option.map_none,Sum.elim_inl,Sum.elim_inr,sized_cI,sized_cB,sized_cS,sized_cL,sized_cK,stepR_none,stepR_inl,stepR_inr,elim_stepR,stepR_ite,stepR_bind,ite_bind,ite_map,Vm.bind_map,elim_bind,elim_map,Option.bind_assoc]
 all_goals try simp only [gIf_eq]
 all_goals try rfl
theorem k_mallongeref06_SameInts {β:Type} (a0:List Int) (a1:List Int) (d:Nat) (bl:List (Nat × Option Blk)) (fz:List (Nat × Option Blk)) (k:V→Option β) (kw:V→List (Nat × Option Blk)→Option β):callF TT d bl 27 [.sl (cM cI a0),.sl (cM cI a1)] fz k kw = (mallongeref06_SameInts a0 a1).bind fun (r:Bool)=>k (.d (.bool r)):=by
 have h:=c_mallongeref06_SameInts a0 a1
 exact callF_flat h (fun _=>rfl) fz
theorem c_mallongelaw19_sane:Vm.call TT 39 [] = (mallongelaw19_sane).map fun (r:Bool)=>.bool r:=by
 refine (call_eqF (show TT 39 = some (.code ⟨0,95,[.tmp 0],bd39,false,false⟩) from rfl) _ rfl rfl).trans ?_
 show evK TT bd39 ⟨[],[]⟩ _ = _
 simp -implicitDefEqProofs (decide:=true) (maxSteps:=2000000) only [bd39,mallongelaw19_sane,↓k_mallongeref06_SameInts,↓k_mconflict_Law,↓k_mconflict_Leads,↓k_mallongelaw19_example,↓DN,↓DR,DQ,DP,↓reduceIte,Int.reduceToNat,Nat.reduceBEq,Nat.reduceAdd,Nat.reduceLT,Nat.reduceLeDiff,Nat.reduceEqDiff,Int.reduceEq,ne_eq,not_false_eq_true,reduceCtorEq,specL,specO,specP,beq_self_eq_true,List.length_cons,List.length_nil,cM_length,Bool.not_true,Bool.not_false,if_true,if_false,List.replicate_succ,List.replicate_zero,dcells_len,Option.bind_some,none_bind,Option.map_some,Option.map_none,Sum.elim_inl,Sum.elim_inr,sized_cI,sized_cB,sized_cS,sized_cL,sized_cK,stepR_none,stepR_inl,stepR_inr,elim_stepR,stepR_ite,stepR_bind,ite_bind,ite_map,Vm.bind_map,elim_bind,elim_map,Option.bind_assoc]
 all_goals try simp only [gIf_eq]
 all_goals try rfl
theorem k_mallongelaw19_sane {β:Type} (d:Nat) (bl:List (Nat × Option Blk)) (fz:List (Nat × Option Blk)) (k:V→Option β) (kw:V→List (Nat × Option Blk)→Option β):callF TT d bl 39 [] fz k kw = (mallongelaw19_sane).bind fun (r:Bool)=>k (.d (.bool r)):=by
 have h:=c_mallongelaw19_sane
 exact callF_flat h (fun _=>rfl) fz
theorem h_mallongeref09_Few_l1 (a0:GRealm) (p1:Int):evK TT b_mallongeref09_Few_l1 ⟨[(1,.ptr 1 0),(3,.d (.int .i64 p1))],[(1,some (.box (dcells (GRealm.cells a0))))]⟩ (fun e s=>some (e,s)) = stepR (fun (w:Int)=>(⟨[(1,.ptr 1 0),(3,.d (.int .i64 w))],[(1,some (.box (dcells (GRealm.cells a0))))]⟩ : St)) (fun (r:Unit ⊕ Unit)=>Sum.elim (fun (z:Unit)=>(((.exit 0),⟨[(1,.ptr 1 0)],[(1,some (.box (dcells (GRealm.cells a0))))]⟩):Ex × St)) (fun (z:Unit)=>((.ret,⟨[(2,.d (.bool false))],[]⟩):Ex × St)) r) (mallongeref09_Few_l1_s a0 p1):=by
 simp -implicitDefEqProofs (decide:=true) (maxSteps:=2000000) only [b_mallongeref09_Few_l1,mallongeref09_Few_l1_s,↓DN,↓DR,DQ,DP,↓reduceIte,Int.reduceToNat,Nat.reduceBEq,Nat.reduceAdd,Nat.reduceLT,Nat.reduceLeDiff,Nat.reduceEqDiff,Int.reduceEq,ne_eq,not_false_eq_true,reduceCtorEq,specL,specO,specP,beq_self_eq_true,List.length_cons,List.length_nil,cM_length,Bool.not_true,Bool.not_false,if_true,if_false,List.replicate_succ,List.replicate_zero,dcells_len,Option.bind_some,none_bind,Option.map_some,Option.map_none,Sum.elim_inl,Sum.elim_inr,sized_cI,sized_cB,sized_cS,sized_cL,sized_cK,stepR_none,stepR_inl,stepR_inr,elim_stepR,stepR_ite,stepR_bind,ite_bind,ite_map,Vm.bind_map,elim_bind,elim_map,Option.bind_assoc]
 all_goals try simp only [gIf_eq]
 all_goals try rfl
theorem e_mallongeref09_Few_l1 {β:Type} (a0:GRealm) (p1:Int) (k:Ex→St→Option β):evK TT c_mallongeref09_Few_l1 ⟨[(1,.ptr 1 0),(3,.d (.int .i64 p1))],[(1,some (.box (dcells (GRealm.cells a0))))]⟩ k = (mallongeref09_Few_l1 a0 p1).bind (fun (r:Unit ⊕ Unit)=>Sum.elim (fun (z:Unit)=>k (.exit 0) ⟨[(1,.ptr 1 0)],[(1,some (.box (dcells (GRealm.cells a0))))]⟩) (fun (z:Unit)=>k .ret ⟨[(2,.d (.bool false))],[]⟩) r):=by
 have hh:=fun (w:Int)=>h_mallongeref09_Few_l1 a0 w
 have h:=fun ho=>evK_loop (T:=TT) (k:=k) (c:=b_mallongeref09_Few_l1) (step:=(fun (w:Int)=>mallongeref09_Few_l1_s a0 w)) _ _ ho hh p1
 refine Eq.trans (h (fun r s e=>by have q:=congrArg Prod.fst e; rcases r with x | x <;> cases q)) ?_
 unfold mallongeref09_Few_l1
 exact bind_congr' _ fun x=>by rcases x with x | x <;> rfl
theorem h_mallongeref09_Few_l2 (a0:GRealm) (p8:Int):evK TT b_mallongeref09_Few_l2 ⟨[(1,.ptr 1 0),(4,.d (.int .i64 p8))],[(1,some (.box (dcells (GRealm.cells a0))))]⟩ (fun e s=>some (e,s)) = stepR (fun (w:Int)=>(⟨[(1,.ptr 1 0),(4,.d (.int .i64 w))],[(1,some (.box (dcells (GRealm.cells a0))))]⟩ : St)) (fun (r:Unit ⊕ Unit)=>Sum.elim (fun (z:Unit)=>(((.exit 2),⟨[(1,.ptr 1 0)],[(1,some (.box (dcells (GRealm.cells a0))))]⟩):Ex × St)) (fun (z:Unit)=>((.ret,⟨[(2,.d (.bool false))],[]⟩):Ex × St)) r) (mallongeref09_Few_l2_s a0 p8):=by
 simp -implicitDefEqProofs (decide:=true) (maxSteps:=2000000) only [b_mallongeref09_Few_l2,mallongeref09_Few_l2_s,↓e_mallongeref09_Few_l1,↓DN,↓DR,DQ,DP,↓reduceIte,Int.reduceToNat,Nat.reduceBEq,Nat.reduceAdd,Nat.reduceLT,Nat.reduceLeDiff,Nat.reduceEqDiff,Int.reduceEq,ne_eq,not_false_eq_true,reduceCtorEq,specL,specO,specP,beq_self_eq_true,List.length_cons,List.length_nil,cM_length,Bool.not_true,Bool.not_false,if_true,if_false,List.replicate_succ,List.replicate_zero,dcells_len,Option.bind_some,none_bind,Option.map_some,Option.map_none,Sum.elim_inl,Sum.elim_inr,sized_cI,sized_cB,sized_cS,sized_cL,sized_cK,stepR_none,stepR_inl,stepR_inr,elim_stepR,stepR_ite,stepR_bind,ite_bind,ite_map,Vm.bind_map,elim_bind,elim_map,Option.bind_assoc]
 all_goals try simp only [gIf_eq]
 all_goals try rfl
theorem e_mallongeref09_Few_l2 {β:Type} (a0:GRealm) (p8:Int) (k:Ex→St→Option β):evK TT c_mallongeref09_Few_l2 ⟨[(1,.ptr 1 0),(4,.d (.int .i64 p8))],[(1,some (.box (dcells (GRealm.cells a0))))]⟩ k = (mallongeref09_Few_l2 a0 p8).bind (fun (r:Unit ⊕ Unit)=>Sum.elim (fun (z:Unit)=>k (.exit 2) ⟨[(1,.ptr 1 0)],[(1,some (.box (dcells (GRealm.cells a0))))]⟩) (fun (z:Unit)=>k .ret ⟨[(2,.d (.bool false))],[]⟩) r):=by
 have hh:=fun (w:Int)=>h_mallongeref09_Few_l2 a0 w
 have h:=fun ho=>evK_loop (T:=TT) (k:=k) (c:=b_mallongeref09_Few_l2) (step:=(fun (w:Int)=>mallongeref09_Few_l2_s a0 w)) _ _ ho hh p8
 refine Eq.trans (h (fun r s e=>by have q:=congrArg Prod.fst e; rcases r with x | x <;> cases q)) ?_
 unfold mallongeref09_Few_l2
 exact bind_congr' _ fun x=>by rcases x with x | x <;> rfl
theorem c_mallongeref09_Few (a0:GRealm):Vm.call TT 40 [.agg (GRealm.cells a0)] = (mallongeref09_Few a0).map fun (r:Bool)=>.bool r:=by
 refine (call_eqF (show TT 40 = some (.code ⟨1,119,[.tmp 2],bd40,false,false⟩) from rfl) _ rfl rfl).trans ?_
 show evK TT bd40 ⟨[(0,aggD (GRealm.cells a0))],[]⟩ _ = _
 simp -implicitDefEqProofs (decide:=true) (maxSteps:=2000000) only [bd40,mallongeref09_Few,↓e_mallongeref09_Few_l1,↓e_mallongeref09_Few_l2,↓DN,↓DR,DQ,DP,↓reduceIte,Int.reduceToNat,Nat.reduceBEq,Nat.reduceAdd,Nat.reduceLT,Nat.reduceLeDiff,Nat.reduceEqDiff,Int.reduceEq,ne_eq,not_false_eq_true,reduceCtorEq,specL,specO,specP,beq_self_eq_true,List.length_cons,List.length_nil,cM_length,Bool.not_true,Bool.not_false,if_true,if_false,List.replicate_succ,List.replicate_zero,dcells_len,Option.bind_some,none_bind,Option.map_some,Option.map_none,Sum.elim_inl,Sum.elim_inr,sized_cI,sized_cB,sized_cS,sized_cL,sized_cK,stepR_none,stepR_inl,stepR_inr,elim_stepR,stepR_ite,stepR_bind,ite_bind,ite_map,Vm.bind_map,elim_bind,elim_map,Option.bind_assoc]
 all_goals try simp only [gIf_eq]
 all_goals try rfl
theorem k_mallongeref09_Few {β:Type} (a0:GRealm) (d:Nat) (bl:List (Nat × Option Blk)) (fz:List (Nat × Option Blk)) (k:V→Option β) (kw:V→List (Nat × Option Blk)→Option β):callF TT d bl 40 [.agg (GRealm.cells a0)] fz k kw = (mallongeref09_Few a0).bind fun (r:Bool)=>k (.d (.bool r)):=by
 have h:=c_mallongeref09_Few a0
 exact callF_flat h (fun _=>rfl) fz
end Go.Proofs.Ytlpgfmnicomjjaa
