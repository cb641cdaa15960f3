/- The functions of the small machine compute the plain definitions. Printed by a program. -/
import Derived.Test.YtmekbfccmnjdcaaLnkQ
set_option linter.unusedVariables false
set_option linter.unusedSimpArgs false
namespace Go.Proofs.Ytmekbfccmnjdcaa
open Vm
open Go.RowKit
set_option maxRecDepth 100000
set_option maxHeartbeats 4000000
attribute [local congr] condK_congr opsK_congr opsDK_congr valK_congr
theorem c_mallongelaw45_example:Vm.call TT 44 [] = (mallongelaw45_example).map fun (r:(List GLean))=>.sl (cM GLean.cells r):=by
 refine (call_eqF (show TT 44 = some (.code ⟨0,15,[.tmp 0],bd44,false,false⟩) from rfl) _ rfl rfl).trans ?_
 show evK TT bd44 ⟨[],[]⟩ _ = _
 simp -implicitDefEqProofs (decide:=true) (maxSteps:=2000000) only [bd44,mallongelaw45_example,↓DN,↓DR,DQ,DP,↓reduceIte,Int.reduceToNat,Nat.reduceBEq,Nat.reduceAdd,Nat.reduceLT,Nat.reduceLeDiff,Nat.reduceEqDiff,Int.reduceEq,ne_eq,not_false_eq_true,reduceCtorEq,specL,specO,specP,beq_self_eq_true,List.length_cons,List.length_nil,cM_length,Bool.not_true,Bool.not_false,if_true,if_false,List.replicate_succ,List.replicate_zero,dcells_len,Option.bind_some,none_bind,Option.map_some,Option.map_none,Sum.elim_inl,Sum.elim_inr,sized_cI,sized_cB,sized_cS,sized_cL,sized_cK,stepR_none,stepR_inl,stepR_inr,elim_stepR,stepR_ite,stepR_bind,ite_bind,ite_map,Vm.bind_map,elim_bind,elim_map,Option.bind_assoc]
 all_goals try simp only [gIf_eq]
 all_goals try rfl
theorem k_mallongelaw45_example {β:Type} (d:Nat) (bl:List (Nat × Option Blk)) (fz:List (Nat × Option Blk)) (k:V→Option β) (kw:V→List (Nat × Option Blk)→Option β):callF TT d bl 44 [] fz k kw = (mallongelaw45_example).bind fun (r:(List GLean))=>fzK fz (.d (.sl (cM GLean.cells r))) k kw:=by
 have h:=c_mallongelaw45_example
 exact callF_deep h (fun _=>rfl) (fun _=>rfl) fz
theorem h_mundo_rising_l1 (a0:List Int) (a1:Int) (p1:Int):evK TT b_mundo_rising_l1 ⟨[(0,.d (.sl (cM cI a0))),(1,.d (.int .i64 a1)),(7,.d (.sl (cM cI a0))),(8,.d (.int .i64 (a0.length:Int))),(9,.d (.int .i64 p1))],[]⟩ (fun e s=>some (e,s)) = stepR (fun (w:Int)=>(⟨[(0,.d (.sl (cM cI a0))),(1,.d (.int .i64 a1)),(7,.d (.sl (cM cI a0))),(8,.d (.int .i64 (a0.length:Int))),(9,.d (.int .i64 w))],[]⟩ : St)) (fun (r:Unit ⊕ Unit)=>Sum.elim (fun (z:Unit)=>(((.exit 0),⟨[],[]⟩):Ex × St)) (fun (z:Unit)=>((.ret,⟨[(4,.d (.bool false))],[]⟩):Ex × St)) r) (mundo_rising_l1_s a0 a1 p1):=by
 simp -implicitDefEqProofs (decide:=true) (maxSteps:=2000000) only [b_mundo_rising_l1,mundo_rising_l1_s,↓DN,↓DR,DQ,DP,↓reduceIte,Int.reduceToNat,Nat.reduceBEq,Nat.reduceAdd,Nat.reduceLT,Nat.reduceLeDiff,Nat.reduceEqDiff,Int.reduceEq,ne_eq,not_false_eq_true,reduceCtorEq,specL,specO,specP,beq_self_eq_true,List.length_cons,List.length_nil,cM_length,Bool.not_true,Bool.not_false,if_true,if_false,List.replicate_succ,List.replicate_zero,dcells_len,Option.bind_some,none_bind,Option.map_some,Option.map_none,Sum.elim_inl,Sum.elim_inr,sized_cI,sized_cB,sized_cS,sized_cL,sized_cK,stepR_none,stepR_inl,stepR_inr,elim_stepR,stepR_ite,stepR_bind,ite_bind,ite_map,Vm.bind_map,elim_bind,elim_map,Option.bind_assoc]
 all_goals try simp only [gIf_eq]
 all_goals try rfl
theorem e_mundo_rising_l1 {β:Type} (a0:List Int) (a1:Int) (p1:Int) (k:Ex→St→Option β):evK TT c_mundo_rising_l1 ⟨[(0,.d (.sl (cM cI a0))),(1,.d (.int .i64 a1)),(7,.d (.sl (cM cI a0))),(8,.d (.int .i64 (a0.length:Int))),(9,.d (.int .i64 p1))],[]⟩ k = (mundo_rising_l1 a0 a1 p1).bind (fun (r:Unit ⊕ Unit)=>Sum.elim (fun (z:Unit)=>k (.exit 0) ⟨[],[]⟩) (fun (z:Unit)=>k .ret ⟨[(4,.d (.bool false))],[]⟩) r):=by
 have hh:=fun (w:Int)=>h_mundo_rising_l1 a0 a1 w
 have h:=fun ho=>evK_loop (T:=TT) (k:=k) (c:=b_mundo_rising_l1) (step:=(fun (w:Int)=>mundo_rising_l1_s a0 a1 w)) _ _ ho hh p1
 refine Eq.trans (h (fun r s e=>by have q:=congrArg Prod.fst e; rcases r with x | x <;> cases q)) ?_
 unfold mundo_rising_l1
 exact bind_congr' _ fun x=>by rcases x with x | x <;> rfl
theorem c_mundo_rising (a0:List Int) (a1:Int):Vm.call TT 49 [.sl (cM cI a0),.int .i64 a1] = (mundo_rising a0 a1).map fun (r:Bool)=>.bool r:=by
 refine (call_eqF (show TT 49 = some (.code ⟨2,35,[.tmp 4],bd49,false,false⟩) from rfl) _ rfl rfl).trans ?_
 show evK TT bd49 ⟨[(0,.d (.sl (cM cI a0))),(1,.d (.int .i64 a1))],[]⟩ _ = _
 simp -implicitDefEqProofs (decide:=true) (maxSteps:=2000000) only [bd49,mundo_rising,↓e_mundo_rising_l1,↓DN,↓DR,DQ,DP,↓reduceIte,Int.reduceToNat,Nat.reduceBEq,Nat.reduceAdd,Nat.reduceLT,Nat.reduceLeDiff,Nat.reduceEqDiff,Int.reduceEq,ne_eq,not_false_eq_true,reduceCtorEq,specL,specO,specP,beq_self_eq_true,List.length_cons,List.length_nil,cM_length,Bool.not_true,Bool.not_false,if_true,if_false,List.replicate_succ,List.replicate_zero,dcells_len,Option.bind_some,none_bind,Option.map_some,Option.map_none,Sum.elim_inl,Sum.elim_inr,sized_cI,sized_cB,sized_cS,sized_cL,sized_cK,stepR_none,stepR_inl,stepR_inr,elim_stepR,stepR_ite,stepR_bind,ite_bind,ite_map,Vm.bind_map,elim_bind,elim_map,Option.bind_assoc]
 all_goals try simp only [gIf_eq]
 all_goals try rfl
theorem k_mundo_rising {β:Type} (a0:List Int) (a1:Int) (d:Nat) (bl:List (Nat × Option Blk)) (fz:List (Nat × Option Blk)) (k:V→Option β) (kw:V→List (Nat × Option Blk)→Option β):callF TT d bl 49 [.sl (cM cI a0),.int .i64 a1] fz k kw = (mundo_rising a0 a1).bind fun (r:Bool)=>k (.d (.bool r)):=by
 have h:=c_mundo_rising a0 a1
 exact callF_flat h (fun _=>rfl) fz
theorem h_mundo_Right_l1 (a0:List GLean) (p1:Int) (x2:GLean) (p3:Int):evK TT b_mundo_Right_l1 ⟨[(3,.d (.int .i64 p1)),(10,.d (.sl (cM GLean.cells a0))),(11,.d (.int .i64 (a0.length:Int))),(12,.d (.int .i64 p1)),(22,.d (.sl (cM (cL cI) x2.Supports))),(23,.d (.int .i64 (x2.Supports.length:Int))),(24,.d (.int .i64 p3))],[]⟩ (fun e s=>some (e,s)) = stepR (fun (w:Int)=>(⟨[(3,.d (.int .i64 p1)),(10,.d (.sl (cM GLean.cells a0))),(11,.d (.int .i64 (a0.length:Int))),(12,.d (.int .i64 p1)),(22,.d (.sl (cM (cL cI) x2.Supports))),(23,.d (.int .i64 (x2.Supports.length:Int))),(24,.d (.int .i64 w))],[]⟩ : St)) (fun (r:Unit ⊕ Unit)=>Sum.elim (fun (z:Unit)=>(((.exit 2),⟨[(10,.d (.sl (cM GLean.cells a0))),(11,.d (.int .i64 (a0.length:Int))),(12,.d (.int .i64 p1))],[]⟩):Ex × St)) (fun (z:Unit)=>((.ret,⟨[(2,.d (.bool false))],[]⟩):Ex × St)) r) (mundo_Right_l1_s a0 p1 x2 p3):=by
 simp -implicitDefEqProofs (decide:=true) (maxSteps:=2000000) only [b_mundo_Right_l1,mundo_Right_l1_s,↓k_mundo_rising,↓DN,↓DR,DQ,DP,↓reduceIte,Int.reduceToNat,Nat.reduceBEq,Nat.reduceAdd,Nat.reduceLT,Nat.reduceLeDiff,Nat.reduceEqDiff,Int.reduceEq,ne_eq,not_false_eq_true,reduceCtorEq,specL,specO,specP,beq_self_eq_true,List.length_cons,List.length_nil,cM_length,Bool.not_true,Bool.not_false,if_true,if_false,List.replicate_succ,List.replicate_zero,dcells_len,Option.bind_some,none_bind,Option.map_some,Option.map_none,Sum.elim_inl,Sum.elim_inr,sized_cI,sized_cB,sized_cS,sized_cL,sized_cK,stepR_none,stepR_inl,stepR_inr,elim_stepR,stepR_ite,stepR_bind,ite_bind,ite_map,Vm.bind_map,elim_bind,elim_map,Option.bind_assoc]
 all_goals try simp only [gIf_eq]
 all_goals try rfl
theorem e_mundo_Right_l1 {β:Type} (a0:List GLean) (p1:Int) (x2:GLean) (p3:Int) (k:Ex→St→Option β):evK TT c_mundo_Right_l1 ⟨[(3,.d (.int .i64 p1)),(10,.d (.sl (cM GLean.cells a0))),(11,.d (.int .i64 (a0.length:Int))),(12,.d (.int .i64 p1)),(22,.d (.sl (cM (cL cI) x2.Supports))),(23,.d (.int .i64 (x2.Supports.length:Int))),(24,.d (.int .i64 p3))],[]⟩ k = (mundo_Right_l1 a0 p1 x2 p3).bind (fun (r:Unit ⊕ Unit)=>Sum.elim (fun (z:Unit)=>k (.exit 2) ⟨[(10,.d (.sl (cM GLean.cells a0))),(11,.d (.int .i64 (a0.length:Int))),(12,.d (.int .i64 p1))],[]⟩) (fun (z:Unit)=>k .ret ⟨[(2,.d (.bool false))],[]⟩) r):=by
 have hh:=fun (w:Int)=>h_mundo_Right_l1 a0 p1 x2 w
 have h:=fun ho=>evK_loop (T:=TT) (k:=k) (c:=b_mundo_Right_l1) (step:=(fun (w:Int)=>mundo_Right_l1_s a0 p1 x2 w)) _ _ ho hh p3
 refine Eq.trans (h (fun r s e=>by have q:=congrArg Prod.fst e; rcases r with x | x <;> cases q)) ?_
 unfold mundo_Right_l1
 exact bind_congr' _ fun x=>by rcases x with x | x <;> rfl
theorem h_mundo_Right_l2 (a0:List GLean) (p1:Int):evK TT b_mundo_Right_l2 ⟨[(10,.d (.sl (cM GLean.cells a0))),(11,.d (.int .i64 (a0.length:Int))),(12,.d (.int .i64 p1))],[]⟩ (fun e s=>some (e,s)) = stepR (fun (w:Int)=>(⟨[(10,.d (.sl (cM GLean.cells a0))),(11,.d (.int .i64 (a0.length:Int))),(12,.d (.int .i64 w))],[]⟩ : St)) (fun (r:Unit ⊕ Unit)=>Sum.elim (fun (z:Unit)=>(((.exit 0),⟨[],[]⟩):Ex × St)) (fun (z:Unit)=>((.ret,⟨[(2,.d (.bool false))],[]⟩):Ex × St)) r) (mundo_Right_l2_s a0 p1):=by
 simp -implicitDefEqProofs (decide:=true) (maxSteps:=2000000) only [b_mundo_Right_l2,mundo_Right_l2_s,↓e_mundo_Right_l1,↓k_mundo_rising,↓DN,↓DR,DQ,DP,↓reduceIte,Int.reduceToNat,Nat.reduceBEq,Nat.reduceAdd,Nat.reduceLT,Nat.reduceLeDiff,Nat.reduceEqDiff,Int.reduceEq,ne_eq,not_false_eq_true,reduceCtorEq,specL,specO,specP,beq_self_eq_true,List.length_cons,List.length_nil,cM_length,Bool.not_true,Bool.not_false,if_true,if_false,List.replicate_succ,List.replicate_zero,dcells_len,Option.bind_some,none_bind,Option.map_some,Option.map_none,Sum.elim_inl,Sum.elim_inr,sized_cI,sized_cB,sized_cS,sized_cL,sized_cK,stepR_none,stepR_inl,stepR_inr,elim_stepR,stepR_ite,stepR_bind,ite_bind,ite_map,Vm.bind_map,elim_bind,elim_map,Option.bind_assoc]
 all_goals try simp only [gIf_eq]
 all_goals try rfl
theorem e_mundo_Right_l2 {β:Type} (a0:List GLean) (p1:Int) (k:Ex→St→Option β):evK TT c_mundo_Right_l2 ⟨[(10,.d (.sl (cM GLean.cells a0))),(11,.d (.int .i64 (a0.length:Int))),(12,.d (.int .i64 p1))],[]⟩ k = (mundo_Right_l2 a0 p1).bind (fun (r:Unit ⊕ Unit)=>Sum.elim (fun (z:Unit)=>k (.exit 0) ⟨[],[]⟩) (fun (z:Unit)=>k .ret ⟨[(2,.d (.bool false))],[]⟩) r):=by
 have hh:=fun (w:Int)=>h_mundo_Right_l2 a0 w
 have h:=fun ho=>evK_loop (T:=TT) (k:=k) (c:=b_mundo_Right_l2) (step:=(fun (w:Int)=>mundo_Right_l2_s a0 w)) _ _ ho hh p1
 refine Eq.trans (h (fun r s e=>by have q:=congrArg Prod.fst e; rcases r with x | x <;> cases q)) ?_
 unfold mundo_Right_l2
 exact bind_congr' _ fun x=>by rcases x with x | x <;> rfl
theorem c_mundo_Right (a0:List GLean):Vm.call TT 17 [.sl (cM GLean.cells a0)] = (mundo_Right a0).map fun (r:Bool)=>.bool r:=by
 refine (call_eqF (show TT 17 = some (.code ⟨1,44,[.tmp 2],bd17,false,false⟩) from rfl) _ rfl rfl).trans ?_
 show evK TT bd17 ⟨[(0,.d (.sl (cM GLean.cells a0)))],[]⟩ _ = _
 simp -implicitDefEqProofs (decide:=true) (maxSteps:=2000000) only [bd17,mundo_Right,↓e_mundo_Right_l1,↓e_mundo_Right_l2,↓k_mundo_rising,↓DN,↓DR,DQ,DP,↓reduceIte,Int.reduceToNat,Nat.reduceBEq,Nat.reduceAdd,Nat.reduceLT,Nat.reduceLeDiff,Nat.reduceEqDiff,Int.reduceEq,ne_eq,not_false_eq_true,reduceCtorEq,specL,specO,specP,beq_self_eq_true,List.length_cons,List.length_nil,cM_length,Bool.not_true,Bool.not_false,if_true,if_false,List.replicate_succ,List.replicate_zero,dcells_len,Option.bind_some,none_bind,Option.map_some,Option.map_none,Sum.elim_inl,Sum.elim_inr,sized_cI,sized_cB,sized_cS,sized_cL,sized_cK,stepR_none,stepR_inl,stepR_inr,elim_stepR,stepR_ite,stepR_bind,ite_bind,ite_map,Vm.bind_map,elim_bind,elim_map,Option.bind_assoc]
 all_goals try simp only [gIf_eq]
 all_goals try rfl
theorem k_mundo_Right {β:Type} (a0:List GLean) (d:Nat) (bl:List (Nat × Option Blk)) (fz:List (Nat × Option Blk)) (k:V→Option β) (kw:V→List (Nat × Option Blk)→Option β):callF TT d bl 17 [.sl (cM GLean.cells a0)] fz k kw = (mundo_Right a0).bind fun (r:Bool)=>k (.d (.bool r)):=by
 have h:=c_mundo_Right a0
 exact callF_flat h (fun _=>rfl) fz
theorem c_mundo_whole_1_s1 (a0:Int) (a1:Option MB):Vm.call TT 74 [.int .i64 a0,.ptr [eB a1] 0] = (mundo_whole_1_s1 a0 a1).map fun (r:Bool)=>.bool r:=by
 refine (call_eqF (show TT 74 = some (.code ⟨2,8,[.tmp 3],bd74,false,false⟩) from rfl) _ rfl (by cases a1 <;> rfl)).trans ?_
 have hE:initFr 0 [.int .i64 a0,.ptr [eB a1] 0] = [(0,.d (.int .i64 a0)),(1,.d (.ptr [eB a1] 0))]:=by cases a1 <;> rfl
 rw [hE]
 simp -implicitDefEqProofs (decide:=true) (maxSteps:=2000000) only [bd74,mundo_whole_1_s1,↓DN,↓DR,DQ,DP,↓reduceIte,Int.reduceToNat,Nat.reduceBEq,Nat.reduceAdd,Nat.reduceLT,Nat.reduceLeDiff,Nat.reduceEqDiff,Int.reduceEq,ne_eq,not_false_eq_true,reduceCtorEq,specL,specO,specP,beq_self_eq_true,List.length_cons,List.length_nil,cM_length,Bool.not_true,Bool.not_false,if_true,if_false,List.replicate_succ,List.replicate_zero,dcells_len,Option.bind_some,none_bind,Option.map_some,Option.map_none,Sum.elim_inl,Sum.elim_inr,sized_cI,sized_cB,sized_cS,sized_cL,sized_cK,stepR_none,stepR_inl,stepR_inr,elim_stepR,stepR_ite,stepR_bind,ite_bind,ite_map,Vm.bind_map,elim_bind,elim_map,Option.bind_assoc]
 all_goals try simp only [gIf_eq]
 all_goals try rfl
theorem k_mundo_whole_1_s1 {β:Type} (a0:Int) (a1:Option MB) (d:Nat) (bl:List (Nat × Option Blk)) (fz:List (Nat × Option Blk)) (k:V→Option β) (kw:V→List (Nat × Option Blk)→Option β):callF TT d bl 74 [.int .i64 a0,.ptr [eB a1] 0] fz k kw = (mundo_whole_1_s1 a0 a1).bind fun (r:Bool)=>k (.d (.bool r)):=by
 have h:=c_mundo_whole_1_s1 a0 a1
 exact callF_flat h (fun _=>rfl) fz
theorem h_mslices_IndexFunc_int_int_112_s1_l1 (a0:List Int) (a1:Option MB) (p1:Int):evK TT b_mslices_IndexFunc_int_int_112_l1 ⟨[(0,.d (.sl (cM cI a0))),(1,.d (.fn 74 [.ptr [eB a1] 0])),(7,.d (.int .i64 (a0.length:Int))),(8,.d (.int .i64 p1))],[]⟩ (fun e s=>some (e,s)) = stepR (fun (w:Int)=>(⟨[(0,.d (.sl (cM cI a0))),(1,.d (.fn 74 [.ptr [eB a1] 0])),(7,.d (.int .i64 (a0.length:Int))),(8,.d (.int .i64 w))],[]⟩ : St)) (fun (r:Unit ⊕ Int)=>Sum.elim (fun (z:Unit)=>(((.exit 0),⟨[],[]⟩):Ex × St)) (fun (z:Int)=>((.ret,⟨[(4,.d (.int .i64 z))],[]⟩):Ex × St)) r) (mslices_IndexFunc_int_int_112_s1_l1_s a0 a1 p1):=by
 simp -implicitDefEqProofs (decide:=true) (maxSteps:=2000000) only [b_mslices_IndexFunc_int_int_112_l1,mslices_IndexFunc_int_int_112_s1_l1_s,↓k_mundo_whole_1_s1,↓DN,↓DR,DQ,DP,↓reduceIte,Int.reduceToNat,Nat.reduceBEq,Nat.reduceAdd,Nat.reduceLT,Nat.reduceLeDiff,Nat.reduceEqDiff,Int.reduceEq,ne_eq,not_false_eq_true,reduceCtorEq,specL,specO,specP,beq_self_eq_true,List.length_cons,List.length_nil,cM_length,Bool.not_true,Bool.not_false,if_true,if_false,List.replicate_succ,List.replicate_zero,dcells_len,Option.bind_some,none_bind,Option.map_some,Option.map_none,Sum.elim_inl,Sum.elim_inr,sized_cI,sized_cB,sized_cS,sized_cL,sized_cK,stepR_none,stepR_inl,stepR_inr,elim_stepR,stepR_ite,stepR_bind,ite_bind,ite_map,Vm.bind_map,elim_bind,elim_map,Option.bind_assoc]
 all_goals try simp only [gIf_eq]
 all_goals try rfl
theorem e_mslices_IndexFunc_int_int_112_s1_l1 {β:Type} (a0:List Int) (a1:Option MB) (p1:Int) (k:Ex→St→Option β):evK TT c_mslices_IndexFunc_int_int_112_l1 ⟨[(0,.d (.sl (cM cI a0))),(1,.d (.fn 74 [.ptr [eB a1] 0])),(7,.d (.int .i64 (a0.length:Int))),(8,.d (.int .i64 p1))],[]⟩ k = (mslices_IndexFunc_int_int_112_s1_l1 a0 a1 p1).bind (fun (r:Unit ⊕ Int)=>Sum.elim (fun (z:Unit)=>k (.exit 0) ⟨[],[]⟩) (fun (z:Int)=>k .ret ⟨[(4,.d (.int .i64 z))],[]⟩) r):=by
 have hh:=fun (w:Int)=>h_mslices_IndexFunc_int_int_112_s1_l1 a0 a1 w
 have h:=fun ho=>evK_loop (T:=TT) (k:=k) (c:=b_mslices_IndexFunc_int_int_112_l1) (step:=(fun (w:Int)=>mslices_IndexFunc_int_int_112_s1_l1_s a0 a1 w)) _ _ ho hh p1
 refine Eq.trans (h (fun r s e=>by have q:=congrArg Prod.fst e; rcases r with x | x <;> cases q)) ?_
 unfold mslices_IndexFunc_int_int_112_s1_l1
 exact bind_congr' _ fun x=>by rcases x with x | x <;> rfl
theorem c_mslices_IndexFunc_int_int_112_s1 (a0:List Int) (a1:Option MB):Vm.call TT 112 [.sl (cM cI a0),.fn 74 [.ptr [eB a1] 0]] = (mslices_IndexFunc_int_int_112_s1 a0 a1).map fun (r:Int)=>.int .i64 r:=by
 refine (call_eqF (show TT 112 = some (.code ⟨2,19,[.tmp 4],bd112,false,false⟩) from rfl) _ rfl (by cases a1 <;> rfl)).trans ?_
 have hE:initFr 0 [.sl (cM cI a0),.fn 74 [.ptr [eB a1] 0]] = [(0,.d (.sl (cM cI a0))),(1,.d (.fn 74 [.ptr [eB a1] 0]))]:=by cases a1 <;> rfl
 rw [hE]
 simp -implicitDefEqProofs (decide:=true) (maxSteps:=2000000) only [bd112,mslices_IndexFunc_int_int_112_s1,↓e_mslices_IndexFunc_int_int_112_s1_l1,↓k_mundo_whole_1_s1,↓DN,↓DR,DQ,DP,↓reduceIte,Int.reduceToNat,Nat.reduceBEq,Nat.reduceAdd,Nat.reduceLT,Nat.reduceLeDiff,Nat.reduceEqDiff,Int.reduceEq,ne_eq,not_false_eq_true,reduceCtorEq,specL,specO,specP,beq_self_eq_true,List.length_cons,List.length_nil,cM_length,Bool.not_true,Bool.not_false,if_true,if_false,List.replicate_succ,List.replicate_zero,dcells_len,Option.bind_some,none_bind,Option.map_some,Option.map_none,Sum.elim_inl,Sum.elim_inr,sized_cI,sized_cB,sized_cS,sized_cL,sized_cK,stepR_none,stepR_inl,stepR_inr,elim_stepR,stepR_ite,stepR_bind,ite_bind,ite_map,Vm.bind_map,elim_bind,elim_map,Option.bind_assoc]
 all_goals try simp only [gIf_eq]
 all_goals try rfl
theorem k_mslices_IndexFunc_int_int_112_s1 {β:Type} (a0:List Int) (a1:Option MB) (d:Nat) (bl:List (Nat × Option Blk)) (fz:List (Nat × Option Blk)) (k:V→Option β) (kw:V→List (Nat × Option Blk)→Option β):callF TT d bl 112 [.sl (cM cI a0),.fn 74 [.ptr [eB a1] 0]] fz k kw = (mslices_IndexFunc_int_int_112_s1 a0 a1).bind fun (r:Int)=>k (.d (.int .i64 r)):=by
 have h:=c_mslices_IndexFunc_int_int_112_s1 a0 a1
 exact callF_flat h (fun _=>rfl) fz
theorem c_mslices_ContainsFunc_int_int_73_s1 (a0:List Int) (a1:Option MB):Vm.call TT 73 [.sl (cM cI a0),.fn 74 [.ptr [eB a1] 0]] = (mslices_ContainsFunc_int_int_73_s1 a0 a1).map fun (r:Bool)=>.bool r:=by
 refine (call_eqF (show TT 73 = some (.code ⟨2,9,[.tmp 4],bd73,false,false⟩) from rfl) _ rfl (by cases a1 <;> rfl)).trans ?_
 have hE:initFr 0 [.sl (cM cI a0),.fn 74 [.ptr [eB a1] 0]] = [(0,.d (.sl (cM cI a0))),(1,.d (.fn 74 [.ptr [eB a1] 0]))]:=by cases a1 <;> rfl
 rw [hE]
 simp -implicitDefEqProofs (decide:=true) (maxSteps:=2000000) only [bd73,mslices_ContainsFunc_int_int_73_s1,↓k_mslices_IndexFunc_int_int_112_s1,↓DN,↓DR,DQ,DP,↓reduceIte,Int.reduceToNat,Nat.reduceBEq,Nat.reduceAdd,Nat.reduceLT,Nat.reduceLeDiff,Nat.reduceEqDiff,Int.reduceEq,ne_eq,not_false_eq_true,reduceCtorEq,specL,specO,specP,beq_self_eq_true,List.length_cons,List.length_nil,cM_length,Bool.not_true,Bool.not_false,if_true,if_false,List.replicate_succ,List.replicate_zero,dcells_len,Option.bind_some,none_bind,Option.map_some,Option.map_none,Sum.elim_inl,Sum.elim_inr,sized_cI,sized_cB,sized_cS,sized_cL,sized_cK,stepR_none,stepR_inl,stepR_inr,elim_stepR,stepR_ite,stepR_bind,ite_bind,ite_map,Vm.bind_map,elim_bind,elim_map,Option.bind_assoc]
 all_goals try simp only [gIf_eq]
 all_goals try rfl
theorem k_mslices_ContainsFunc_int_int_73_s1 {β:Type} (a0:List Int) (a1:Option MB) (d:Nat) (bl:List (Nat × Option Blk)) (fz:List (Nat × Option Blk)) (k:V→Option β) (kw:V→List (Nat × Option Blk)→Option β):callF TT d bl 73 [.sl (cM cI a0),.fn 74 [.ptr [eB a1] 0]] fz k kw = (mslices_ContainsFunc_int_int_73_s1 a0 a1).bind fun (r:Bool)=>k (.d (.bool r)):=by
 have h:=c_mslices_ContainsFunc_int_int_73_s1 a0 a1
 exact callF_flat h (fun _=>rfl) fz
theorem c_mundo_whole (a0:List Int) (a1:Option MB):Vm.call TT 47 [.sl (cM cI a0),eB a1] = (mundo_whole a0 a1).map fun (r:Bool)=>.bool r:=by
 refine (call_eqF (show TT 47 = some (.code ⟨2,9,[.tmp 4],bd47,false,false⟩) from rfl) _ rfl (by cases a1 <;> rfl)).trans ?_
 have hE:initFr 0 [.sl (cM cI a0),eB a1] = [(0,.d (.sl (cM cI a0))),(1,.d (eB a1))]:=by cases a1 <;> rfl
 rw [hE]
 simp -implicitDefEqProofs (decide:=true) (maxSteps:=2000000) only [bd47,mundo_whole,↓k_mslices_ContainsFunc_int_int_73_s1,↓DN,↓DR,DQ,DP,↓reduceIte,Int.reduceToNat,Nat.reduceBEq,Nat.reduceAdd,Nat.reduceLT,Nat.reduceLeDiff,Nat.reduceEqDiff,Int.reduceEq,ne_eq,not_false_eq_true,reduceCtorEq,specL,specO,specP,beq_self_eq_true,List.length_cons,List.length_nil,cM_length,Bool.not_true,Bool.not_false,if_true,if_false,List.replicate_succ,List.replicate_zero,dcells_len,Option.bind_some,none_bind,Option.map_some,Option.map_none,Sum.elim_inl,Sum.elim_inr,sized_cI,sized_cB,sized_cS,sized_cL,sized_cK,stepR_none,stepR_inl,stepR_inr,elim_stepR,stepR_ite,stepR_bind,ite_bind,ite_map,Vm.bind_map,elim_bind,elim_map,Option.bind_assoc]
 all_goals try simp only [gIf_eq]
 all_goals try rfl
theorem k_mundo_whole {β:Type} (a0:List Int) (a1:Option MB) (d:Nat) (bl:List (Nat × Option Blk)) (fz:List (Nat × Option Blk)) (k:V→Option β) (kw:V→List (Nat × Option Blk)→Option β):callF TT d bl 47 [.sl (cM cI a0),eB a1] fz k kw = (mundo_whole a0 a1).bind fun (r:Bool)=>k (.d (.bool r)):=by
 have h:=c_mundo_whole a0 a1
 exact callF_flat h (fun _=>rfl) fz
theorem c_mundo_held_1_s1 (a0:List Int) (a1:Option MB):Vm.call TT 79 [.sl (cM cI a0),.ptr [eB a1] 0] = (mundo_held_1_s1 a0 a1).map fun (r:Bool)=>.bool r:=by
 refine (call_eqF (show TT 79 = some (.code ⟨2,7,[.tmp 3],bd79,false,false⟩) from rfl) _ rfl (by cases a1 <;> rfl)).trans ?_
 have hE:initFr 0 [.sl (cM cI a0),.ptr [eB a1] 0] = [(0,.d (.sl (cM cI a0))),(1,.d (.ptr [eB a1] 0))]:=by cases a1 <;> rfl
 rw [hE]
 simp -implicitDefEqProofs (decide:=true) (maxSteps:=2000000) only [bd79,mundo_held_1_s1,↓k_mundo_whole,↓DN,↓DR,DQ,DP,↓reduceIte,Int.reduceToNat,Nat.reduceBEq,Nat.reduceAdd,Nat.reduceLT,Nat.reduceLeDiff,Nat.reduceEqDiff,Int.reduceEq,ne_eq,not_false_eq_true,reduceCtorEq,specL,specO,specP,beq_self_eq_true,List.length_cons,List.length_nil,cM_length,Bool.not_true,Bool.not_false,if_true,if_false,List.replicate_succ,List.replicate_zero,dcells_len,Option.bind_some,none_bind,Option.map_some,Option.map_none,Sum.elim_inl,Sum.elim_inr,sized_cI,sized_cB,sized_cS,sized_cL,sized_cK,stepR_none,stepR_inl,stepR_inr,elim_stepR,stepR_ite,stepR_bind,ite_bind,ite_map,Vm.bind_map,elim_bind,elim_map,Option.bind_assoc]
 all_goals try simp only [gIf_eq]
 all_goals try rfl
theorem k_mundo_held_1_s1 {β:Type} (a0:List Int) (a1:Option MB) (d:Nat) (bl:List (Nat × Option Blk)) (fz:List (Nat × Option Blk)) (k:V→Option β) (kw:V→List (Nat × Option Blk)→Option β):callF TT d bl 79 [.sl (cM cI a0),.ptr [eB a1] 0] fz k kw = (mundo_held_1_s1 a0 a1).bind fun (r:Bool)=>k (.d (.bool r)):=by
 have h:=c_mundo_held_1_s1 a0 a1
 exact callF_flat h (fun _=>rfl) fz
theorem h_mslices_IndexFunc_int_int_113_s1_l1 (a0:List (List Int)) (a1:Option MB) (p1:Int):evK TT b_mslices_IndexFunc_int_int_113_l1 ⟨[(0,.d (.sl (cM (cL cI) a0))),(1,.d (.fn 79 [.ptr [eB a1] 0])),(7,.d (.int .i64 (a0.length:Int))),(8,.d (.int .i64 p1))],[]⟩ (fun e s=>some (e,s)) = stepR (fun (w:Int)=>(⟨[(0,.d (.sl (cM (cL cI) a0))),(1,.d (.fn 79 [.ptr [eB a1] 0])),(7,.d (.int .i64 (a0.length:Int))),(8,.d (.int .i64 w))],[]⟩ : St)) (fun (r:Unit ⊕ Int)=>Sum.elim (fun (z:Unit)=>(((.exit 0),⟨[],[]⟩):Ex × St)) (fun (z:Int)=>((.ret,⟨[(4,.d (.int .i64 z))],[]⟩):Ex × St)) r) (mslices_IndexFunc_int_int_113_s1_l1_s a0 a1 p1):=by
 simp -implicitDefEqProofs (decide:=true) (maxSteps:=2000000) only [b_mslices_IndexFunc_int_int_113_l1,mslices_IndexFunc_int_int_113_s1_l1_s,↓k_mundo_held_1_s1,↓DN,↓DR,DQ,DP,↓reduceIte,Int.reduceToNat,Nat.reduceBEq,Nat.reduceAdd,Nat.reduceLT,Nat.reduceLeDiff,Nat.reduceEqDiff,Int.reduceEq,ne_eq,not_false_eq_true,reduceCtorEq,specL,specO,specP,beq_self_eq_true,List.length_cons,List.length_nil,cM_length,Bool.not_true,Bool.not_false,if_true,if_false,List.replicate_succ,List.replicate_zero,dcells_len,Option.bind_some,none_bind,Option.map_some,Option.map_none,Sum.elim_inl,Sum.elim_inr,sized_cI,sized_cB,sized_cS,sized_cL,sized_cK,stepR_none,stepR_inl,stepR_inr,elim_stepR,stepR_ite,stepR_bind,ite_bind,ite_map,Vm.bind_map,elim_bind,elim_map,Option.bind_assoc]
 all_goals try simp only [gIf_eq]
 all_goals try rfl
theorem e_mslices_IndexFunc_int_int_113_s1_l1 {β:Type} (a0:List (List Int)) (a1:Option MB) (p1:Int) (k:Ex→St→Option β):evK TT c_mslices_IndexFunc_int_int_113_l1 ⟨[(0,.d (.sl (cM (cL cI) a0))),(1,.d (.fn 79 [.ptr [eB a1] 0])),(7,.d (.int .i64 (a0.length:Int))),(8,.d (.int .i64 p1))],[]⟩ k = (mslices_IndexFunc_int_int_113_s1_l1 a0 a1 p1).bind (fun (r:Unit ⊕ Int)=>Sum.elim (fun (z:Unit)=>k (.exit 0) ⟨[],[]⟩) (fun (z:Int)=>k .ret ⟨[(4,.d (.int .i64 z))],[]⟩) r):=by
 have hh:=fun (w:Int)=>h_mslices_IndexFunc_int_int_113_s1_l1 a0 a1 w
 have h:=fun ho=>evK_loop (T:=TT) (k:=k) (c:=b_mslices_IndexFunc_int_int_113_l1) (step:=(fun (w:Int)=>mslices_IndexFunc_int_int_113_s1_l1_s a0 a1 w)) _ _ ho hh p1
 refine Eq.trans (h (fun r s e=>by have q:=congrArg Prod.fst e; rcases r with x | x <;> cases q)) ?_
 unfold mslices_IndexFunc_int_int_113_s1_l1
 exact bind_congr' _ fun x=>by rcases x with x | x <;> rfl
theorem c_mslices_IndexFunc_int_int_113_s1 (a0:List (List Int)) (a1:Option MB):Vm.call TT 113 [.sl (cM (cL cI) a0),.fn 79 [.ptr [eB a1] 0]] = (mslices_IndexFunc_int_int_113_s1 a0 a1).map fun (r:Int)=>.int .i64 r:=by
 refine (call_eqF (show TT 113 = some (.code ⟨2,19,[.tmp 4],bd113,false,false⟩) from rfl) _ rfl (by cases a1 <;> rfl)).trans ?_
 have hE:initFr 0 [.sl (cM (cL cI) a0),.fn 79 [.ptr [eB a1] 0]] = [(0,.d (.sl (cM (cL cI) a0))),(1,.d (.fn 79 [.ptr [eB a1] 0]))]:=by cases a1 <;> rfl
 rw [hE]
 simp -implicitDefEqProofs (decide:=true) (maxSteps:=2000000) only [bd113,mslices_IndexFunc_int_int_113_s1,↓e_mslices_IndexFunc_int_int_113_s1_l1,↓k_mundo_held_1_s1,↓DN,↓DR,DQ,DP,↓reduceIte,Int.reduceToNat,Nat.reduceBEq,Nat.reduceAdd,Nat.reduceLT,Nat.reduceLeDiff,Nat.reduceEqDiff,Int.reduceEq,ne_eq,not_false_eq_true,reduceCtorEq,specL,specO,specP,beq_self_eq_true,List.length_cons,List.length_nil,cM_length,Bool.not_true,Bool.not_false,if_true,if_false,List.replicate_succ,List.replicate_zero,dcells_len,Option.bind_some,none_bind,Option.map_some,Option.map_none,Sum.elim_inl,Sum.elim_inr,sized_cI,sized_cB,sized_cS,sized_cL,sized_cK,stepR_none,stepR_inl,stepR_inr,elim_stepR,stepR_ite,stepR_bind,ite_bind,ite_map,Vm.bind_map,elim_bind,elim_map,Option.bind_assoc]
 all_goals try simp only [gIf_eq]
 all_goals try rfl
theorem k_mslices_IndexFunc_int_int_113_s1 {β:Type} (a0:List (List Int)) (a1:Option MB) (d:Nat) (bl:List (Nat × Option Blk)) (fz:List (Nat × Option Blk)) (k:V→Option β) (kw:V→List (Nat × Option Blk)→Option β):callF TT d bl 113 [.sl (cM (cL cI) a0),.fn 79 [.ptr [eB a1] 0]] fz k kw = (mslices_IndexFunc_int_int_113_s1 a0 a1).bind fun (r:Int)=>k (.d (.int .i64 r)):=by
 have h:=c_mslices_IndexFunc_int_int_113_s1 a0 a1
 exact callF_flat h (fun _=>rfl) fz
theorem c_mslices_ContainsFunc_int_int_78_s1 (a0:List (List Int)) (a1:Option MB):Vm.call TT 78 [.sl (cM (cL cI) a0),.fn 79 [.ptr [eB a1] 0]] = (mslices_ContainsFunc_int_int_78_s1 a0 a1).map fun (r:Bool)=>.bool r:=by
 refine (call_eqF (show TT 78 = some (.code ⟨2,9,[.tmp 4],bd78,false,false⟩) from rfl) _ rfl (by cases a1 <;> rfl)).trans ?_
 have hE:initFr 0 [.sl (cM (cL cI) a0),.fn 79 [.ptr [eB a1] 0]] = [(0,.d (.sl (cM (cL cI) a0))),(1,.d (.fn 79 [.ptr [eB a1] 0]))]:=by cases a1 <;> rfl
 rw [hE]
 simp -implicitDefEqProofs (decide:=true) (maxSteps:=2000000) only [bd78,mslices_ContainsFunc_int_int_78_s1,↓k_mslices_IndexFunc_int_int_113_s1,↓DN,↓DR,DQ,DP,↓reduceIte,Int.reduceToNat,Nat.reduceBEq,Nat.reduceAdd,Nat.reduceLT,Nat.reduceLeDiff,Nat.reduceEqDiff,Int.reduceEq,ne_eq,not_false_eq_true,reduceCtorEq,specL,specO,specP,beq_self_eq_true,List.length_cons,List.length_nil,cM_length,Bool.not_true,Bool.not_false,if_true,if_false,List.replicate_succ,List.replicate_zero,dcells_len,Option.bind_some,none_bind,Option.map_some,Option.map_none,Sum.elim_inl,Sum.elim_inr,sized_cI,sized_cB,sized_cS,sized_cL,sized_cK,stepR_none,stepR_inl,stepR_inr,elim_stepR,stepR_ite,stepR_bind,ite_bind,ite_map,Vm.bind_map,elim_bind,elim_map,Option.bind_assoc]
 all_goals try simp only [gIf_eq]
 all_goals try rfl
theorem k_mslices_ContainsFunc_int_int_78_s1 {β:Type} (a0:List (List Int)) (a1:Option MB) (d:Nat) (bl:List (Nat × Option Blk)) (fz:List (Nat × Option Blk)) (k:V→Option β) (kw:V→List (Nat × Option Blk)→Option β):callF TT d bl 78 [.sl (cM (cL cI) a0),.fn 79 [.ptr [eB a1] 0]] fz k kw = (mslices_ContainsFunc_int_int_78_s1 a0 a1).bind fun (r:Bool)=>k (.d (.bool r)):=by
 have h:=c_mslices_ContainsFunc_int_int_78_s1 a0 a1
 exact callF_flat h (fun _=>rfl) fz
theorem c_mundo_held (a0:GLean) (a1:Option MB):Vm.call TT 54 [.agg (GLean.cells a0),eB a1] = (mundo_held a0 a1).map fun (r:Bool)=>.bool r:=by
 refine (call_eqF (show TT 54 = some (.code ⟨2,15,[.tmp 4],bd54,false,false⟩) from rfl) _ rfl (by cases a1 <;> rfl)).trans ?_
 have hE:initFr 0 [.agg (GLean.cells a0),eB a1] = [(0,aggD (GLean.cells a0)),(1,.d (eB a1))]:=by cases a1 <;> rfl
 rw [hE]
 simp -implicitDefEqProofs (decide:=true) (maxSteps:=2000000) only [bd54,mundo_held,↓k_mslices_ContainsFunc_int_int_78_s1,↓DN,↓DR,DQ,DP,↓reduceIte,Int.reduceToNat,Nat.reduceBEq,Nat.reduceAdd,Nat.reduceLT,Nat.reduceLeDiff,Nat.reduceEqDiff,Int.reduceEq,ne_eq,not_false_eq_true,reduceCtorEq,specL,specO,specP,beq_self_eq_true,List.length_cons,List.length_nil,cM_length,Bool.not_true,Bool.not_false,if_true,if_false,List.replicate_succ,List.replicate_zero,dcells_len,Option.bind_some,none_bind,Option.map_some,Option.map_none,Sum.elim_inl,Sum.elim_inr,sized_cI,sized_cB,sized_cS,sized_cL,sized_cK,stepR_none,stepR_inl,stepR_inr,elim_stepR,stepR_ite,stepR_bind,ite_bind,ite_map,Vm.bind_map,elim_bind,elim_map,Option.bind_assoc]
 all_goals try simp only [gIf_eq]
 all_goals try rfl
theorem k_mundo_held {β:Type} (a0:GLean) (a1:Option MB) (d:Nat) (bl:List (Nat × Option Blk)) (fz:List (Nat × Option Blk)) (k:V→Option β) (kw:V→List (Nat × Option Blk)→Option β):callF TT d bl 54 [.agg (GLean.cells a0),eB a1] fz k kw = (mundo_held a0 a1).bind fun (r:Bool)=>k (.d (.bool r)):=by
 have h:=c_mundo_held a0 a1
 exact callF_flat h (fun _=>rfl) fz
theorem kv_mundo_standing_1 {β:Type} (p2:MB) (x3:GLean) (d:Nat) (bl:List (Nat × Option Blk)) (fz:List (Nat × Option Blk)) (k:V→Option β) (kw:V→List (Nat × Option Blk)→Option β):callF TT d bl 54 [.agg (GLean.cells x3),.mp 1 (mB p2)] fz k kw = (mundo_held x3 (some p2)).bind fun (r:Bool)=>k (.d (.bool r)):=by
 have h:=c_mundo_held x3 (some p2)
 exact callF_flat h (fun _=>rfl) fz
theorem h_mundo_standing_l1 (a0:List GLean) (a1:List Bool) (p1:Int) (p2:MB):evK TT b_mundo_standing_l1 ⟨[(1,.d (.sl (cM cB a1))),(5,.mp 8),(9,.d (.sl (cM GLean.cells a0))),(10,.d (.int .i64 (a0.length:Int))),(11,.d (.int .i64 p1))],[(8,some (.mp 1 (mB p2)))]⟩ (fun e s=>some (e,s)) = stepR (fun (w:Int × MB)=>(⟨[(1,.d (.sl (cM cB a1))),(5,.mp 8),(9,.d (.sl (cM GLean.cells a0))),(10,.d (.int .i64 (a0.length:Int))),(11,.d (.int .i64 w.1))],[(8,some (.mp 1 (mB w.2)))]⟩ : St)) (fun (r:MB)=>(((.exit 0),⟨[(5,.mp 8)],[(8,some (.mp 1 (mB r)))]⟩):Ex × St)) (mundo_standing_l1_s a0 a1 p1 p2):=by
 simp -implicitDefEqProofs (decide:=true) (maxSteps:=2000000) only [b_mundo_standing_l1,mundo_standing_l1_s,↓k_mundo_held,↓kv_mundo_standing_1,↓DN,↓DR,DQ,DP,↓reduceIte,Int.reduceToNat,Nat.reduceBEq,Nat.reduceAdd,Nat.reduceLT,Nat.reduceLeDiff,Nat.reduceEqDiff,Int.reduceEq,ne_eq,not_false_eq_true,reduceCtorEq,specL,specO,specP,beq_self_eq_true,List.length_cons,List.length_nil,cM_length,Bool.not_true,Bool.not_false,if_true,if_false,List.replicate_succ,List.replicate_zero,dcells_len,Option.bind_some,none_bind,Option.map_some,Option.map_none,Sum.elim_inl,Sum.elim_inr,sized_cI,sized_cB,sized_cS,sized_cL,sized_cK,stepR_none,stepR_inl,stepR_inr,elim_stepR,stepR_ite,stepR_bind,ite_bind,ite_map,Vm.bind_map,elim_bind,elim_map,Option.bind_assoc]
 all_goals try simp only [gIf_eq]
 all_goals try rfl
theorem e_mundo_standing_l1 {β:Type} (a0:List GLean) (a1:List Bool) (p1:Int) (p2:MB) (k:Ex→St→Option β):evK TT c_mundo_standing_l1 ⟨[(1,.d (.sl (cM cB a1))),(5,.mp 8),(9,.d (.sl (cM GLean.cells a0))),(10,.d (.int .i64 (a0.length:Int))),(11,.d (.int .i64 p1))],[(8,some (.mp 1 (mB p2)))]⟩ k = (mundo_standing_l1 a0 a1 p1 p2).bind (fun (r:MB)=>k (.exit 0) ⟨[(5,.mp 8)],[(8,some (.mp 1 (mB r)))]⟩):=by
 have hh:=fun (w:Int × MB)=>h_mundo_standing_l1 a0 a1 w.1 w.2
 have h:=fun ho=>evK_loop (T:=TT) (k:=k) (c:=b_mundo_standing_l1) (step:=(fun (w:Int × MB)=>mundo_standing_l1_s a0 a1 w.1 w.2)) _ _ ho hh (p1,p2)
 refine Eq.trans (h (fun r s e=>by have q:=congrArg Prod.fst e; rcases r with x <;> cases q)) ?_
 unfold mundo_standing_l1
 exact bind_congr' _ fun x=>by rcases x with x <;> rfl
theorem c_mundo_standing (a0:List GLean) (a1:List Bool):Vm.call TT 45 [.sl (cM GLean.cells a0),.sl (cM cB a1)] = (mundo_standing a0 a1).map fun (r:MB)=>.own (.mref 0) [(1,0)] [encR (mB r)]:=by
 refine (call_eqO (show TT 45 = some (.code ⟨2,30,[.tmp 4],bd45,true,false⟩) from rfl) _ rfl rfl).trans ?_
 show evK TT bd45 ⟨[(0,.d (.sl (cM GLean.cells a0))),(1,.d (.sl (cM cB a1)))],[]⟩ _ = _
 simp -implicitDefEqProofs (decide:=true) (maxSteps:=2000000) only [bd45,mundo_standing,↓e_mundo_standing_l1,↓k_mundo_held,↓kv_mundo_standing_1,↓DN,↓DR,DQ,DP,↓reduceIte,Int.reduceToNat,Nat.reduceBEq,Nat.reduceAdd,Nat.reduceLT,Nat.reduceLeDiff,Nat.reduceEqDiff,Int.reduceEq,ne_eq,not_false_eq_true,reduceCtorEq,specL,specO,specP,beq_self_eq_true,List.length_cons,List.length_nil,cM_length,Bool.not_true,Bool.not_false,if_true,if_false,List.replicate_succ,List.replicate_zero,dcells_len,Option.bind_some,none_bind,Option.map_some,Option.map_none,Sum.elim_inl,Sum.elim_inr,sized_cI,sized_cB,sized_cS,sized_cL,sized_cK,stepR_none,stepR_inl,stepR_inr,elim_stepR,stepR_ite,stepR_bind,ite_bind,ite_map,Vm.bind_map,elim_bind,elim_map,Option.bind_assoc]
 all_goals try simp only [gIf_eq]
 all_goals try rfl
end Go.Proofs.Ytmekbfccmnjdcaa
