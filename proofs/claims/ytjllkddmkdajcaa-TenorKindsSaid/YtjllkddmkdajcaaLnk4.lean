/- The functions of the small machine compute the plain definitions. Printed by a program. -/
import Derived.Test.YtjllkddmkdajcaaLnk3
set_option linter.unusedVariables false
set_option linter.unusedSimpArgs false
namespace Go.Proofs.Ytjllkddmkdajcaa
open Vm
open Go.RowKit
set_option maxRecDepth 100000
set_option maxHeartbeats 4000000
attribute [local congr] condK_congr opsK_congr opsDK_congr valK_congr
theorem c_mallongeref09_Letter (a0:Int):Vm.call TT 119 [.int .u8 a0] = (mallongeref09_Letter a0).map fun (r:Bool)=>.bool r:=by
 refine (call_eqF (show TT 119 = some (.code ⟨1,17,[.tmp 2],bd119,false⟩) from rfl) _ rfl).trans ?_
 show evK TT bd119 ⟨[(0,.d (.int .u8 a0))],[]⟩ _ = _
 simp -implicitDefEqProofs (decide:=true) (maxSteps:=2000000) only [bd119,mallongeref09_Letter,↓DN,↓DR,DQ,DP,↓reduceIte,Int.reduceToNat,Nat.reduceBEq,Nat.reduceAdd,Nat.reduceLT,Nat.reduceLeDiff,Nat.reduceEqDiff,Int.reduceEq,ne_eq,not_false_eq_true,reduceCtorEq,specL,specO,specP,beq_self_eq_true,List.length_cons,List.length_nil,cM_length,Bool.not_true,Bool.not_false,if_true,if_false,List.replicate_succ,List.replicate_zero,dcells_len,Option.bind_some,none_bind,Option.map_some,Option.map_none,Sum.elim_inl,Sum.elim_inr,sized_cI,sized_cB,sized_cS,sized_cL,sized_cK,stepR_none,stepR_inl,stepR_inr,elim_stepR,stepR_ite,stepR_bind,ite_bind,ite_map,bind_map,elim_bind,elim_map,Option.bind_assoc]
 all_goals try simp only [gIf_eq]
 all_goals try rfl
theorem k_mallongeref09_Letter {β:Type} (a0:Int) (d:Nat) (bl:List (Nat × Option Blk)) (fz:List (Nat × Option Blk)) (k:V→Option β) (kw:V→List (Nat × Option Blk)→Option β):callF TT d bl 119 [.int .u8 a0] fz k kw = (mallongeref09_Letter a0).bind fun (r:Bool)=>k (.d (.bool r)):=by
 have h:=c_mallongeref09_Letter a0
 exact callF_flat h (fun _=>rfl) fz
theorem e_mallongeref09_Name_j1 {β:Type} (a0:ByteArray) (p1:Int) (p5:Bool) (k:Ex→St→Option β):evK TT c_mallongeref09_Name_j1 ⟨[(0,.d (.str a0)),(3,.d (.int .i64 p1)),(4,.d (.bool p5))],[]⟩ k = (mallongeref09_Name_j1 a0 p1 p5).bind (fun (r:Unit ⊕ Unit)=>Sum.elim (fun (z:Unit)=>k .normal ⟨[(0,.d (.str a0)),(3,.d (.int .i64 p1))],[]⟩) (fun (z:Unit)=>k .ret ⟨[(2,.d (.bool false))],[]⟩) r):=by
 simp -implicitDefEqProofs (decide:=true) (maxSteps:=2000000) only [c_mallongeref09_Name_j1,mallongeref09_Name_j1,↓k_mallongeref09_Letter,↓DN,↓DR,DQ,DP,↓reduceIte,Int.reduceToNat,Nat.reduceBEq,Nat.reduceAdd,Nat.reduceLT,Nat.reduceLeDiff,Nat.reduceEqDiff,Int.reduceEq,ne_eq,not_false_eq_true,reduceCtorEq,specL,specO,specP,beq_self_eq_true,List.length_cons,List.length_nil,cM_length,Bool.not_true,Bool.not_false,if_true,if_false,List.replicate_succ,List.replicate_zero,dcells_len,Option.bind_some,none_bind,Option.map_some,Option.map_none,Sum.elim_inl,Sum.elim_inr,sized_cI,sized_cB,sized_cS,sized_cL,sized_cK,stepR_none,stepR_inl,stepR_inr,elim_stepR,stepR_ite,stepR_bind,ite_bind,ite_map,bind_map,elim_bind,elim_map,Option.bind_assoc]
 all_goals try simp only [gIf_eq]
 all_goals try rfl
theorem h_mallongeref09_Name_l2 (a0:ByteArray) (p1:Int):evK TT b_mallongeref09_Name_l2 ⟨[(0,.d (.str a0)),(3,.d (.int .i64 p1))],[]⟩ (fun e s=>some (e,s)) = stepR (fun (w:Int)=>(⟨[(0,.d (.str a0)),(3,.d (.int .i64 w))],[]⟩ : St)) (fun (r:Unit ⊕ Unit)=>Sum.elim (fun (z:Unit)=>(((.exit 0),⟨[],[]⟩):Ex × St)) (fun (z:Unit)=>((.ret,⟨[(2,.d (.bool false))],[]⟩):Ex × St)) r) (mallongeref09_Name_l2_s a0 p1):=by
 simp -implicitDefEqProofs (decide:=true) (maxSteps:=2000000) only [b_mallongeref09_Name_l2,mallongeref09_Name_l2_s,↓e_mallongeref09_Name_j1,↓k_mallongeref09_Letter,↓DN,↓DR,DQ,DP,↓reduceIte,Int.reduceToNat,Nat.reduceBEq,Nat.reduceAdd,Nat.reduceLT,Nat.reduceLeDiff,Nat.reduceEqDiff,Int.reduceEq,ne_eq,not_false_eq_true,reduceCtorEq,specL,specO,specP,beq_self_eq_true,List.length_cons,List.length_nil,cM_length,Bool.not_true,Bool.not_false,if_true,if_false,List.replicate_succ,List.replicate_zero,dcells_len,Option.bind_some,none_bind,Option.map_some,Option.map_none,Sum.elim_inl,Sum.elim_inr,sized_cI,sized_cB,sized_cS,sized_cL,sized_cK,stepR_none,stepR_inl,stepR_inr,elim_stepR,stepR_ite,stepR_bind,ite_bind,ite_map,bind_map,elim_bind,elim_map,Option.bind_assoc]
 all_goals try simp only [gIf_eq]
 all_goals try rfl
theorem e_mallongeref09_Name_l2 {β:Type} (a0:ByteArray) (p1:Int) (k:Ex→St→Option β):evK TT c_mallongeref09_Name_l2 ⟨[(0,.d (.str a0)),(3,.d (.int .i64 p1))],[]⟩ k = (mallongeref09_Name_l2 a0 p1).bind (fun (r:Unit ⊕ Unit)=>Sum.elim (fun (z:Unit)=>k (.exit 0) ⟨[],[]⟩) (fun (z:Unit)=>k .ret ⟨[(2,.d (.bool false))],[]⟩) r):=by
 have hh:=fun (w:Int)=>h_mallongeref09_Name_l2 a0 w
 have h:=fun ho=>evK_loop (T:=TT) (k:=k) (c:=b_mallongeref09_Name_l2) (step:=(fun (w:Int)=>mallongeref09_Name_l2_s a0 w)) _ _ ho hh p1
 refine Eq.trans (h (fun r s e=>by have q:=congrArg Prod.fst e; rcases r with x | x <;> cases q)) ?_
 unfold mallongeref09_Name_l2
 exact bind_congr' _ fun x=>by rcases x with x | x <;> rfl
theorem c_mallongeref09_Name (a0:ByteArray):Vm.call TT 113 [.str a0] = (mallongeref09_Name a0).map fun (r:Bool)=>.bool r:=by
 refine (call_eqF (show TT 113 = some (.code ⟨1,48,[.tmp 2],bd113,false⟩) from rfl) _ rfl).trans ?_
 show evK TT bd113 ⟨[(0,.d (.str a0))],[]⟩ _ = _
 simp -implicitDefEqProofs (decide:=true) (maxSteps:=2000000) only [bd113,mallongeref09_Name,↓e_mallongeref09_Name_j1,↓e_mallongeref09_Name_l2,↓k_mallongeref09_Letter,↓DN,↓DR,DQ,DP,↓reduceIte,Int.reduceToNat,Nat.reduceBEq,Nat.reduceAdd,Nat.reduceLT,Nat.reduceLeDiff,Nat.reduceEqDiff,Int.reduceEq,ne_eq,not_false_eq_true,reduceCtorEq,specL,specO,specP,beq_self_eq_true,List.length_cons,List.length_nil,cM_length,Bool.not_true,Bool.not_false,if_true,if_false,List.replicate_succ,List.replicate_zero,dcells_len,Option.bind_some,none_bind,Option.map_some,Option.map_none,Sum.elim_inl,Sum.elim_inr,sized_cI,sized_cB,sized_cS,sized_cL,sized_cK,stepR_none,stepR_inl,stepR_inr,elim_stepR,stepR_ite,stepR_bind,ite_bind,ite_map,bind_map,elim_bind,elim_map,Option.bind_assoc]
 all_goals try simp only [gIf_eq]
 all_goals try rfl
theorem k_mallongeref09_Name {β:Type} (a0:ByteArray) (d:Nat) (bl:List (Nat × Option Blk)) (fz:List (Nat × Option Blk)) (k:V→Option β) (kw:V→List (Nat × Option Blk)→Option β):callF TT d bl 113 [.str a0] fz k kw = (mallongeref09_Name a0).bind fun (r:Bool)=>k (.d (.bool r)):=by
 have h:=c_mallongeref09_Name a0
 exact callF_flat h (fun _=>rfl) fz
theorem h_mallongeref09_Before_l1 (a0:List ByteArray) (a1:Int) (a2:ByteArray) (p1:Int):evK TT b_mallongeref09_Before_l1 ⟨[(0,.d (.sl (cM cS a0))),(1,.d (.int .i64 a1)),(2,.d (.str a2)),(7,.d (.int .i64 p1))],[]⟩ (fun e s=>some (e,s)) = stepR (fun (w:Int)=>(⟨[(0,.d (.sl (cM cS a0))),(1,.d (.int .i64 a1)),(2,.d (.str a2)),(7,.d (.int .i64 w))],[]⟩ : St)) (fun (r:Unit ⊕ Unit)=>Sum.elim (fun (z:Unit)=>(((.exit 0),⟨[],[]⟩):Ex × St)) (fun (z:Unit)=>((.ret,⟨[(6,.d (.bool true))],[]⟩):Ex × St)) r) (mallongeref09_Before_l1_s a0 a1 a2 p1):=by
 simp -implicitDefEqProofs (decide:=true) (maxSteps:=2000000) only [b_mallongeref09_Before_l1,mallongeref09_Before_l1_s,↓DN,↓DR,DQ,DP,↓reduceIte,Int.reduceToNat,Nat.reduceBEq,Nat.reduceAdd,Nat.reduceLT,Nat.reduceLeDiff,Nat.reduceEqDiff,Int.reduceEq,ne_eq,not_false_eq_true,reduceCtorEq,specL,specO,specP,beq_self_eq_true,List.length_cons,List.length_nil,cM_length,Bool.not_true,Bool.not_false,if_true,if_false,List.replicate_succ,List.replicate_zero,dcells_len,Option.bind_some,none_bind,Option.map_some,Option.map_none,Sum.elim_inl,Sum.elim_inr,sized_cI,sized_cB,sized_cS,sized_cL,sized_cK,stepR_none,stepR_inl,stepR_inr,elim_stepR,stepR_ite,stepR_bind,ite_bind,ite_map,bind_map,elim_bind,elim_map,Option.bind_assoc]
 all_goals try simp only [gIf_eq]
 all_goals try rfl
theorem e_mallongeref09_Before_l1 {β:Type} (a0:List ByteArray) (a1:Int) (a2:ByteArray) (p1:Int) (k:Ex→St→Option β):evK TT c_mallongeref09_Before_l1 ⟨[(0,.d (.sl (cM cS a0))),(1,.d (.int .i64 a1)),(2,.d (.str a2)),(7,.d (.int .i64 p1))],[]⟩ k = (mallongeref09_Before_l1 a0 a1 a2 p1).bind (fun (r:Unit ⊕ Unit)=>Sum.elim (fun (z:Unit)=>k (.exit 0) ⟨[],[]⟩) (fun (z:Unit)=>k .ret ⟨[(6,.d (.bool true))],[]⟩) r):=by
 have hh:=fun (w:Int)=>h_mallongeref09_Before_l1 a0 a1 a2 w
 have h:=fun ho=>evK_loop (T:=TT) (k:=k) (c:=b_mallongeref09_Before_l1) (step:=(fun (w:Int)=>mallongeref09_Before_l1_s a0 a1 a2 w)) _ _ ho hh p1
 refine Eq.trans (h (fun r s e=>by have q:=congrArg Prod.fst e; rcases r with x | x <;> cases q)) ?_
 unfold mallongeref09_Before_l1
 exact bind_congr' _ fun x=>by rcases x with x | x <;> rfl
theorem c_mallongeref09_Before (a0:List ByteArray) (a1:Int) (a2:ByteArray):Vm.call TT 114 [.sl (cM cS a0),.int .i64 a1,.str a2] = (mallongeref09_Before a0 a1 a2).map fun (r:Bool)=>.bool r:=by
 refine (call_eqF (show TT 114 = some (.code ⟨3,25,[.tmp 6],bd114,false⟩) from rfl) _ rfl).trans ?_
 show evK TT bd114 ⟨[(0,.d (.sl (cM cS a0))),(1,.d (.int .i64 a1)),(2,.d (.str a2))],[]⟩ _ = _
 simp -implicitDefEqProofs (decide:=true) (maxSteps:=2000000) only [bd114,mallongeref09_Before,↓e_mallongeref09_Before_l1,↓DN,↓DR,DQ,DP,↓reduceIte,Int.reduceToNat,Nat.reduceBEq,Nat.reduceAdd,Nat.reduceLT,Nat.reduceLeDiff,Nat.reduceEqDiff,Int.reduceEq,ne_eq,not_false_eq_true,reduceCtorEq,specL,specO,specP,beq_self_eq_true,List.length_cons,List.length_nil,cM_length,Bool.not_true,Bool.not_false,if_true,if_false,List.replicate_succ,List.replicate_zero,dcells_len,Option.bind_some,none_bind,Option.map_some,Option.map_none,Sum.elim_inl,Sum.elim_inr,sized_cI,sized_cB,sized_cS,sized_cL,sized_cK,stepR_none,stepR_inl,stepR_inr,elim_stepR,stepR_ite,stepR_bind,ite_bind,ite_map,bind_map,elim_bind,elim_map,Option.bind_assoc]
 all_goals try simp only [gIf_eq]
 all_goals try rfl
theorem k_mallongeref09_Before {β:Type} (a0:List ByteArray) (a1:Int) (a2:ByteArray) (d:Nat) (bl:List (Nat × Option Blk)) (fz:List (Nat × Option Blk)) (k:V→Option β) (kw:V→List (Nat × Option Blk)→Option β):callF TT d bl 114 [.sl (cM cS a0),.int .i64 a1,.str a2] fz k kw = (mallongeref09_Before a0 a1 a2).bind fun (r:Bool)=>k (.d (.bool r)):=by
 have h:=c_mallongeref09_Before a0 a1 a2
 exact callF_flat h (fun _=>rfl) fz
theorem c_mallongeref09_named (a0:List ByteArray) (a1:Int):Vm.call TT 101 [.sl (cM cS a0),.int .i64 a1] = (mallongeref09_named a0 a1).map fun (r:Int)=>.int .i64 r:=by
 refine (call_eqF (show TT 101 = some (.code ⟨2,18,[.tmp 4],bd101,false⟩) from rfl) _ rfl).trans ?_
 show evK TT bd101 ⟨[(0,.d (.sl (cM cS a0))),(1,.d (.int .i64 a1))],[]⟩ _ = _
 simp -implicitDefEqProofs (decide:=true) (maxSteps:=2000000) only [bd101,mallongeref09_named,↓k_mallongeref09_Name,↓k_mallongeref09_Before,↓DN,↓DR,DQ,DP,↓reduceIte,Int.reduceToNat,Nat.reduceBEq,Nat.reduceAdd,Nat.reduceLT,Nat.reduceLeDiff,Nat.reduceEqDiff,Int.reduceEq,ne_eq,not_false_eq_true,reduceCtorEq,specL,specO,specP,beq_self_eq_true,List.length_cons,List.length_nil,cM_length,Bool.not_true,Bool.not_false,if_true,if_false,List.replicate_succ,List.replicate_zero,dcells_len,Option.bind_some,none_bind,Option.map_some,Option.map_none,Sum.elim_inl,Sum.elim_inr,sized_cI,sized_cB,sized_cS,sized_cL,sized_cK,stepR_none,stepR_inl,stepR_inr,elim_stepR,stepR_ite,stepR_bind,ite_bind,ite_map,bind_map,elim_bind,elim_map,Option.bind_assoc]
 all_goals try simp only [gIf_eq]
 all_goals try rfl
theorem k_mallongeref09_named {β:Type} (a0:List ByteArray) (a1:Int) (d:Nat) (bl:List (Nat × Option Blk)) (fz:List (Nat × Option Blk)) (k:V→Option β) (kw:V→List (Nat × Option Blk)→Option β):callF TT d bl 101 [.sl (cM cS a0),.int .i64 a1] fz k kw = (mallongeref09_named a0 a1).bind fun (r:Int)=>k (.d (.int .i64 r)):=by
 have h:=c_mallongeref09_named a0 a1
 exact callF_flat h (fun _=>rfl) fz
theorem c_mallongeref09_Within (a0:Int) (a1:Int) (a2:Int):Vm.call TT 68 [.int .i64 a0,.int .i64 a1,.int .i64 a2] = (mallongeref09_Within a0 a1 a2).map fun (r:Bool)=>.bool r:=by
 refine (call_eqF (show TT 68 = some (.code ⟨3,15,[.tmp 6],bd68,false⟩) from rfl) _ rfl).trans ?_
 show evK TT bd68 ⟨[(0,.d (.int .i64 a0)),(1,.d (.int .i64 a1)),(2,.d (.int .i64 a2))],[]⟩ _ = _
 simp -implicitDefEqProofs (decide:=true) (maxSteps:=2000000) only [bd68,mallongeref09_Within,↓DN,↓DR,DQ,DP,↓reduceIte,Int.reduceToNat,Nat.reduceBEq,Nat.reduceAdd,Nat.reduceLT,Nat.reduceLeDiff,Nat.reduceEqDiff,Int.reduceEq,ne_eq,not_false_eq_true,reduceCtorEq,specL,specO,specP,beq_self_eq_true,List.length_cons,List.length_nil,cM_length,Bool.not_true,Bool.not_false,if_true,if_false,List.replicate_succ,List.replicate_zero,dcells_len,Option.bind_some,none_bind,Option.map_some,Option.map_none,Sum.elim_inl,Sum.elim_inr,sized_cI,sized_cB,sized_cS,sized_cL,sized_cK,stepR_none,stepR_inl,stepR_inr,elim_stepR,stepR_ite,stepR_bind,ite_bind,ite_map,bind_map,elim_bind,elim_map,Option.bind_assoc]
 all_goals try simp only [gIf_eq]
 all_goals try rfl
theorem k_mallongeref09_Within {β:Type} (a0:Int) (a1:Int) (a2:Int) (d:Nat) (bl:List (Nat × Option Blk)) (fz:List (Nat × Option Blk)) (k:V→Option β) (kw:V→List (Nat × Option Blk)→Option β):callF TT d bl 68 [.int .i64 a0,.int .i64 a1,.int .i64 a2] fz k kw = (mallongeref09_Within a0 a1 a2).bind fun (r:Bool)=>k (.d (.bool r)):=by
 have h:=c_mallongeref09_Within a0 a1 a2
 exact callF_flat h (fun _=>rfl) fz
theorem h_mallongeref09_Rising_l1 (a0:List Int) (a1:Int) (a2:Int) (p1:Int):evK TT b_mallongeref09_Rising_l1 ⟨[(0,.d (.sl (cM cI a0))),(1,.d (.int .i64 a1)),(2,.d (.int .i64 a2)),(7,.d (.int .i64 p1))],[]⟩ (fun e s=>some (e,s)) = stepR (fun (w:Int)=>(⟨[(0,.d (.sl (cM cI a0))),(1,.d (.int .i64 a1)),(2,.d (.int .i64 a2)),(7,.d (.int .i64 w))],[]⟩ : St)) (fun (r:Unit ⊕ Unit)=>Sum.elim (fun (z:Unit)=>(((.exit 0),⟨[],[]⟩):Ex × St)) (fun (z:Unit)=>((.ret,⟨[(6,.d (.bool false))],[]⟩):Ex × St)) r) (mallongeref09_Rising_l1_s a0 a1 a2 p1):=by
 simp -implicitDefEqProofs (decide:=true) (maxSteps:=2000000) only [b_mallongeref09_Rising_l1,mallongeref09_Rising_l1_s,↓k_mallongeref09_Within,↓DN,↓DR,DQ,DP,↓reduceIte,Int.reduceToNat,Nat.reduceBEq,Nat.reduceAdd,Nat.reduceLT,Nat.reduceLeDiff,Nat.reduceEqDiff,Int.reduceEq,ne_eq,not_false_eq_true,reduceCtorEq,specL,specO,specP,beq_self_eq_true,List.length_cons,List.length_nil,cM_length,Bool.not_true,Bool.not_false,if_true,if_false,List.replicate_succ,List.replicate_zero,dcells_len,Option.bind_some,none_bind,Option.map_some,Option.map_none,Sum.elim_inl,Sum.elim_inr,sized_cI,sized_cB,sized_cS,sized_cL,sized_cK,stepR_none,stepR_inl,stepR_inr,elim_stepR,stepR_ite,stepR_bind,ite_bind,ite_map,bind_map,elim_bind,elim_map,Option.bind_assoc]
 all_goals try simp only [gIf_eq]
 all_goals try rfl
theorem e_mallongeref09_Rising_l1 {β:Type} (a0:List Int) (a1:Int) (a2:Int) (p1:Int) (k:Ex→St→Option β):evK TT c_mallongeref09_Rising_l1 ⟨[(0,.d (.sl (cM cI a0))),(1,.d (.int .i64 a1)),(2,.d (.int .i64 a2)),(7,.d (.int .i64 p1))],[]⟩ k = (mallongeref09_Rising_l1 a0 a1 a2 p1).bind (fun (r:Unit ⊕ Unit)=>Sum.elim (fun (z:Unit)=>k (.exit 0) ⟨[],[]⟩) (fun (z:Unit)=>k .ret ⟨[(6,.d (.bool false))],[]⟩) r):=by
 have hh:=fun (w:Int)=>h_mallongeref09_Rising_l1 a0 a1 a2 w
 have h:=fun ho=>evK_loop (T:=TT) (k:=k) (c:=b_mallongeref09_Rising_l1) (step:=(fun (w:Int)=>mallongeref09_Rising_l1_s a0 a1 a2 w)) _ _ ho hh p1
 refine Eq.trans (h (fun r s e=>by have q:=congrArg Prod.fst e; rcases r with x | x <;> cases q)) ?_
 unfold mallongeref09_Rising_l1
 exact bind_congr' _ fun x=>by rcases x with x | x <;> rfl
theorem c_mallongeref09_Rising (a0:List Int) (a1:Int) (a2:Int):Vm.call TT 115 [.sl (cM cI a0),.int .i64 a1,.int .i64 a2] = (mallongeref09_Rising a0 a1 a2).map fun (r:Bool)=>.bool r:=by
 refine (call_eqF (show TT 115 = some (.code ⟨3,36,[.tmp 6],bd115,false⟩) from rfl) _ rfl).trans ?_
 show evK TT bd115 ⟨[(0,.d (.sl (cM cI a0))),(1,.d (.int .i64 a1)),(2,.d (.int .i64 a2))],[]⟩ _ = _
 simp -implicitDefEqProofs (decide:=true) (maxSteps:=2000000) only [bd115,mallongeref09_Rising,↓e_mallongeref09_Rising_l1,↓k_mallongeref09_Within,↓DN,↓DR,DQ,DP,↓reduceIte,Int.reduceToNat,Nat.reduceBEq,Nat.reduceAdd,Nat.reduceLT,Nat.reduceLeDiff,Nat.reduceEqDiff,Int.reduceEq,ne_eq,not_false_eq_true,reduceCtorEq,specL,specO,specP,beq_self_eq_true,List.length_cons,List.length_nil,cM_length,Bool.not_true,Bool.not_false,if_true,if_false,List.replicate_succ,List.replicate_zero,dcells_len,Option.bind_some,none_bind,Option.map_some,Option.map_none,Sum.elim_inl,Sum.elim_inr,sized_cI,sized_cB,sized_cS,sized_cL,sized_cK,stepR_none,stepR_inl,stepR_inr,elim_stepR,stepR_ite,stepR_bind,ite_bind,ite_map,bind_map,elim_bind,elim_map,Option.bind_assoc]
 all_goals try simp only [gIf_eq]
 all_goals try rfl
theorem k_mallongeref09_Rising {β:Type} (a0:List Int) (a1:Int) (a2:Int) (d:Nat) (bl:List (Nat × Option Blk)) (fz:List (Nat × Option Blk)) (k:V→Option β) (kw:V→List (Nat × Option Blk)→Option β):callF TT d bl 115 [.sl (cM cI a0),.int .i64 a1,.int .i64 a2] fz k kw = (mallongeref09_Rising a0 a1 a2).bind fun (r:Bool)=>k (.d (.bool r)):=by
 have h:=c_mallongeref09_Rising a0 a1 a2
 exact callF_flat h (fun _=>rfl) fz
theorem h_mallongeref09_RightCity_l1 (a1:GCity) (p3:Int):evK TT b_mallongeref09_RightCity_l1 ⟨[(3,.ptr 3 0),(5,.d (.int .i64 p3))],[(3,some (.box (dcells (GCity.cells a1))))]⟩ (fun e s=>some (e,s)) = stepR (fun (w:Int)=>(⟨[(3,.ptr 3 0),(5,.d (.int .i64 w))],[(3,some (.box (dcells (GCity.cells a1))))]⟩ : St)) (fun (r:Unit ⊕ Unit)=>Sum.elim (fun (z:Unit)=>(((.exit 0),⟨[(3,.ptr 3 0)],[(3,some (.box (dcells (GCity.cells a1))))]⟩):Ex × St)) (fun (z:Unit)=>((.ret,⟨[(4,.d (.bool false))],[]⟩):Ex × St)) r) (mallongeref09_RightCity_l1_s a1 p3):=by
 simp -implicitDefEqProofs (decide:=true) (maxSteps:=2000000) only [b_mallongeref09_RightCity_l1,mallongeref09_RightCity_l1_s,↓k_mallongeref09_Within,↓k_mallongeref09_Rising,↓DN,↓DR,DQ,DP,↓reduceIte,Int.reduceToNat,Nat.reduceBEq,Nat.reduceAdd,Nat.reduceLT,Nat.reduceLeDiff,Nat.reduceEqDiff,Int.reduceEq,ne_eq,not_false_eq_true,reduceCtorEq,specL,specO,specP,beq_self_eq_true,List.length_cons,List.length_nil,cM_length,Bool.not_true,Bool.not_false,if_true,if_false,List.replicate_succ,List.replicate_zero,dcells_len,Option.bind_some,none_bind,Option.map_some,Option.map_none,Sum.elim_inl,Sum.elim_inr,sized_cI,sized_cB,sized_cS,sized_cL,sized_cK,stepR_none,stepR_inl,stepR_inr,elim_stepR,stepR_ite,stepR_bind,ite_bind,ite_map,bind_map,elim_bind,elim_map,Option.bind_assoc]
 all_goals try simp only [gIf_eq]
 all_goals try rfl
theorem e_mallongeref09_RightCity_l1 {β:Type} (a1:GCity) (p3:Int) (k:Ex→St→Option β):evK TT c_mallongeref09_RightCity_l1 ⟨[(3,.ptr 3 0),(5,.d (.int .i64 p3))],[(3,some (.box (dcells (GCity.cells a1))))]⟩ k = (mallongeref09_RightCity_l1 a1 p3).bind (fun (r:Unit ⊕ Unit)=>Sum.elim (fun (z:Unit)=>k (.exit 0) ⟨[(3,.ptr 3 0)],[(3,some (.box (dcells (GCity.cells a1))))]⟩) (fun (z:Unit)=>k .ret ⟨[(4,.d (.bool false))],[]⟩) r):=by
 have hh:=fun (w:Int)=>h_mallongeref09_RightCity_l1 a1 w
 have h:=fun ho=>evK_loop (T:=TT) (k:=k) (c:=b_mallongeref09_RightCity_l1) (step:=(fun (w:Int)=>mallongeref09_RightCity_l1_s a1 w)) _ _ ho hh p3
 refine Eq.trans (h (fun r s e=>by have q:=congrArg Prod.fst e; rcases r with x | x <;> cases q)) ?_
 unfold mallongeref09_RightCity_l1
 exact bind_congr' _ fun x=>by rcases x with x | x <;> rfl
theorem c_mallongeref09_RightCity (a0:GRealm) (a1:GCity):Vm.call TT 102 [.agg (GRealm.cells a0),.agg (GCity.cells a1)] = (mallongeref09_RightCity a0 a1).map fun (r:Bool)=>.bool r:=by
 refine (call_eqF (show TT 102 = some (.code ⟨2,74,[.tmp 4],bd102,false⟩) from rfl) _ rfl).trans ?_
 show evK TT bd102 ⟨[(0,aggD (GRealm.cells a0)),(1,aggD (GCity.cells a1))],[]⟩ _ = _
 simp -implicitDefEqProofs (decide:=true) (maxSteps:=2000000) only [bd102,mallongeref09_RightCity,↓e_mallongeref09_RightCity_l1,↓k_mallongeref09_Within,↓k_mallongeref09_Rising,↓DN,↓DR,DQ,DP,↓reduceIte,Int.reduceToNat,Nat.reduceBEq,Nat.reduceAdd,Nat.reduceLT,Nat.reduceLeDiff,Nat.reduceEqDiff,Int.reduceEq,ne_eq,not_false_eq_true,reduceCtorEq,specL,specO,specP,beq_self_eq_true,List.length_cons,List.length_nil,cM_length,Bool.not_true,Bool.not_false,if_true,if_false,List.replicate_succ,List.replicate_zero,dcells_len,Option.bind_some,none_bind,Option.map_some,Option.map_none,Sum.elim_inl,Sum.elim_inr,sized_cI,sized_cB,sized_cS,sized_cL,sized_cK,stepR_none,stepR_inl,stepR_inr,elim_stepR,stepR_ite,stepR_bind,ite_bind,ite_map,bind_map,elim_bind,elim_map,Option.bind_assoc]
 all_goals try simp only [gIf_eq]
 all_goals try rfl
theorem k_mallongeref09_RightCity {β:Type} (a0:GRealm) (a1:GCity) (d:Nat) (bl:List (Nat × Option Blk)) (fz:List (Nat × Option Blk)) (k:V→Option β) (kw:V→List (Nat × Option Blk)→Option β):callF TT d bl 102 [.agg (GRealm.cells a0),.agg (GCity.cells a1)] fz k kw = (mallongeref09_RightCity a0 a1).bind fun (r:Bool)=>k (.d (.bool r)):=by
 have h:=c_mallongeref09_RightCity a0 a1
 exact callF_flat h (fun _=>rfl) fz
theorem h_mallongeref09_cities_l1 (a0:GRealm) (p1:Int):evK TT b_mallongeref09_cities_l1 ⟨[(1,.ptr 1 0),(3,.d (.int .i64 p1))],[(1,some (.box (dcells (GRealm.cells a0))))]⟩ (fun e s=>some (e,s)) = stepR (fun (w:Int)=>(⟨[(1,.ptr 1 0),(3,.d (.int .i64 w))],[(1,some (.box (dcells (GRealm.cells a0))))]⟩ : St)) (fun (r:Unit ⊕ Int)=>Sum.elim (fun (z:Unit)=>(((.exit 0),⟨[(1,.ptr 1 0)],[(1,some (.box (dcells (GRealm.cells a0))))]⟩):Ex × St)) (fun (z:Int)=>((.ret,⟨[(2,.d (.int .i64 z))],[]⟩):Ex × St)) r) (mallongeref09_cities_l1_s a0 p1):=by
 simp -implicitDefEqProofs (decide:=true) (maxSteps:=2000000) only [b_mallongeref09_cities_l1,mallongeref09_cities_l1_s,↓k_mallongeref09_named,↓k_mallongeref09_RightCity,↓DN,↓DR,DQ,DP,↓reduceIte,Int.reduceToNat,Nat.reduceBEq,Nat.reduceAdd,Nat.reduceLT,Nat.reduceLeDiff,Nat.reduceEqDiff,Int.reduceEq,ne_eq,not_false_eq_true,reduceCtorEq,specL,specO,specP,beq_self_eq_true,List.length_cons,List.length_nil,cM_length,Bool.not_true,Bool.not_false,if_true,if_false,List.replicate_succ,List.replicate_zero,dcells_len,Option.bind_some,none_bind,Option.map_some,Option.map_none,Sum.elim_inl,Sum.elim_inr,sized_cI,sized_cB,sized_cS,sized_cL,sized_cK,stepR_none,stepR_inl,stepR_inr,elim_stepR,stepR_ite,stepR_bind,ite_bind,ite_map,bind_map,elim_bind,elim_map,Option.bind_assoc]
 all_goals try simp only [gIf_eq]
 all_goals try rfl
theorem e_mallongeref09_cities_l1 {β:Type} (a0:GRealm) (p1:Int) (k:Ex→St→Option β):evK TT c_mallongeref09_cities_l1 ⟨[(1,.ptr 1 0),(3,.d (.int .i64 p1))],[(1,some (.box (dcells (GRealm.cells a0))))]⟩ k = (mallongeref09_cities_l1 a0 p1).bind (fun (r:Unit ⊕ Int)=>Sum.elim (fun (z:Unit)=>k (.exit 0) ⟨[(1,.ptr 1 0)],[(1,some (.box (dcells (GRealm.cells a0))))]⟩) (fun (z:Int)=>k .ret ⟨[(2,.d (.int .i64 z))],[]⟩) r):=by
 have hh:=fun (w:Int)=>h_mallongeref09_cities_l1 a0 w
 have h:=fun ho=>evK_loop (T:=TT) (k:=k) (c:=b_mallongeref09_cities_l1) (step:=(fun (w:Int)=>mallongeref09_cities_l1_s a0 w)) _ _ ho hh p1
 refine Eq.trans (h (fun r s e=>by have q:=congrArg Prod.fst e; rcases r with x | x <;> cases q)) ?_
 unfold mallongeref09_cities_l1
 exact bind_congr' _ fun x=>by rcases x with x | x <;> rfl
theorem h_mallongeref09_cities_l2 (a0:GRealm) (p7:Int) (p8:List ByteArray):evK TT b_mallongeref09_cities_l2 ⟨[(1,.ptr 1 0),(5,.own 45 0),(6,.d (.int .i64 p7))],[(1,some (.box (dcells (GRealm.cells a0)))),(45,some (.rows 0 9 1 (cM cS p8)))]⟩ (fun e s=>some (e,s)) = stepR (fun (w:Int × (List ByteArray))=>(⟨[(1,.ptr 1 0),(5,.own 45 0),(6,.d (.int .i64 w.1))],[(1,some (.box (dcells (GRealm.cells a0)))),(45,some (.rows 0 9 1 (cM cS w.2)))]⟩ : St)) (fun (r:Unit ⊕ Int)=>Sum.elim (fun (z:Unit)=>(((.exit 2),⟨[],[]⟩):Ex × St)) (fun (z:Int)=>((.ret,⟨[(2,.d (.int .i64 z))],[]⟩):Ex × St)) r) (mallongeref09_cities_l2_s a0 p7 p8):=by
 simp -implicitDefEqProofs (decide:=true) (maxSteps:=2000000) only [b_mallongeref09_cities_l2,mallongeref09_cities_l2_s,↓e_mallongeref09_cities_l1,↓k_mallongeref09_named,↓k_mallongeref09_RightCity,↓DN,↓DR,DQ,DP,↓reduceIte,Int.reduceToNat,Nat.reduceBEq,Nat.reduceAdd,Nat.reduceLT,Nat.reduceLeDiff,Nat.reduceEqDiff,Int.reduceEq,ne_eq,not_false_eq_true,reduceCtorEq,specL,specO,specP,beq_self_eq_true,List.length_cons,List.length_nil,cM_length,Bool.not_true,Bool.not_false,if_true,if_false,List.replicate_succ,List.replicate_zero,dcells_len,Option.bind_some,none_bind,Option.map_some,Option.map_none,Sum.elim_inl,Sum.elim_inr,sized_cI,sized_cB,sized_cS,sized_cL,sized_cK,stepR_none,stepR_inl,stepR_inr,elim_stepR,stepR_ite,stepR_bind,ite_bind,ite_map,bind_map,elim_bind,elim_map,Option.bind_assoc]
 all_goals try simp only [gIf_eq]
 all_goals try rfl
theorem e_mallongeref09_cities_l2 {β:Type} (a0:GRealm) (p7:Int) (p8:List ByteArray) (k:Ex→St→Option β):evK TT c_mallongeref09_cities_l2 ⟨[(1,.ptr 1 0),(5,.own 45 0),(6,.d (.int .i64 p7))],[(1,some (.box (dcells (GRealm.cells a0)))),(45,some (.rows 0 9 1 (cM cS p8)))]⟩ k = (mallongeref09_cities_l2 a0 p7 p8).bind (fun (r:Unit ⊕ Int)=>Sum.elim (fun (z:Unit)=>k (.exit 2) ⟨[],[]⟩) (fun (z:Int)=>k .ret ⟨[(2,.d (.int .i64 z))],[]⟩) r):=by
 have hh:=fun (w:Int × (List ByteArray))=>h_mallongeref09_cities_l2 a0 w.1 w.2
 have h:=fun ho=>evK_loop (T:=TT) (k:=k) (c:=b_mallongeref09_cities_l2) (step:=(fun (w:Int × (List ByteArray))=>mallongeref09_cities_l2_s a0 w.1 w.2)) _ _ ho hh (p7,p8)
 refine Eq.trans (h (fun r s e=>by have q:=congrArg Prod.fst e; rcases r with x | x <;> cases q)) ?_
 unfold mallongeref09_cities_l2
 exact bind_congr' _ fun x=>by rcases x with x | x <;> rfl
theorem c_mallongeref09_cities (a0:GRealm):Vm.call TT 81 [.agg (GRealm.cells a0)] = (mallongeref09_cities a0).map fun (r:Int)=>.int .i64 r:=by
 refine (call_eqF (show TT 81 = some (.code ⟨1,60,[.tmp 2],bd81,false⟩) from rfl) _ rfl).trans ?_
 show evK TT bd81 ⟨[(0,aggD (GRealm.cells a0))],[]⟩ _ = _
 simp -implicitDefEqProofs (decide:=true) (maxSteps:=2000000) only [bd81,mallongeref09_cities,↓e_mallongeref09_cities_l1,↓e_mallongeref09_cities_l2,↓k_mallongeref09_named,↓k_mallongeref09_RightCity,↓DN,↓DR,DQ,DP,↓reduceIte,Int.reduceToNat,Nat.reduceBEq,Nat.reduceAdd,Nat.reduceLT,Nat.reduceLeDiff,Nat.reduceEqDiff,Int.reduceEq,ne_eq,not_false_eq_true,reduceCtorEq,specL,specO,specP,beq_self_eq_true,List.length_cons,List.length_nil,cM_length,Bool.not_true,Bool.not_false,if_true,if_false,List.replicate_succ,List.replicate_zero,dcells_len,Option.bind_some,none_bind,Option.map_some,Option.map_none,Sum.elim_inl,Sum.elim_inr,sized_cI,sized_cB,sized_cS,sized_cL,sized_cK,stepR_none,stepR_inl,stepR_inr,elim_stepR,stepR_ite,stepR_bind,ite_bind,ite_map,bind_map,elim_bind,elim_map,Option.bind_assoc]
 all_goals try simp only [gIf_eq]
 all_goals try rfl
theorem k_mallongeref09_cities {β:Type} (a0:GRealm) (d:Nat) (bl:List (Nat × Option Blk)) (fz:List (Nat × Option Blk)) (k:V→Option β) (kw:V→List (Nat × Option Blk)→Option β):callF TT d bl 81 [.agg (GRealm.cells a0)] fz k kw = (mallongeref09_cities a0).bind fun (r:Int)=>k (.d (.int .i64 r)):=by
 have h:=c_mallongeref09_cities a0
 exact callF_flat h (fun _=>rfl) fz
theorem h_mallongeref09_firms_l1 (a0:GRealm) (p1:Int):evK TT b_mallongeref09_firms_l1 ⟨[(1,.ptr 1 0),(3,.d (.int .i64 p1))],[(1,some (.box (dcells (GRealm.cells a0))))]⟩ (fun e s=>some (e,s)) = stepR (fun (w:Int)=>(⟨[(1,.ptr 1 0),(3,.d (.int .i64 w))],[(1,some (.box (dcells (GRealm.cells a0))))]⟩ : St)) (fun (r:Unit ⊕ Unit)=>Sum.elim (fun (z:Unit)=>(((.exit 0),⟨[(1,.ptr 1 0)],[(1,some (.box (dcells (GRealm.cells a0))))]⟩):Ex × St)) (fun (z:Unit)=>((.ret,⟨[(2,.d (.int .i64 1))],[]⟩):Ex × St)) r) (mallongeref09_firms_l1_s a0 p1):=by
 simp -implicitDefEqProofs (decide:=true) (maxSteps:=2000000) only [b_mallongeref09_firms_l1,mallongeref09_firms_l1_s,↓k_mallongeref09_Within,↓k_mallongeref09_named,↓DN,↓DR,DQ,DP,↓reduceIte,Int.reduceToNat,Nat.reduceBEq,Nat.reduceAdd,Nat.reduceLT,Nat.reduceLeDiff,Nat.reduceEqDiff,Int.reduceEq,ne_eq,not_false_eq_true,reduceCtorEq,specL,specO,specP,beq_self_eq_true,List.length_cons,List.length_nil,cM_length,Bool.not_true,Bool.not_false,if_true,if_false,List.replicate_succ,List.replicate_zero,dcells_len,Option.bind_some,none_bind,Option.map_some,Option.map_none,Sum.elim_inl,Sum.elim_inr,sized_cI,sized_cB,sized_cS,sized_cL,sized_cK,stepR_none,stepR_inl,stepR_inr,elim_stepR,stepR_ite,stepR_bind,ite_bind,ite_map,bind_map,elim_bind,elim_map,Option.bind_assoc]
 all_goals try simp only [gIf_eq]
 all_goals try rfl
theorem e_mallongeref09_firms_l1 {β:Type} (a0:GRealm) (p1:Int) (k:Ex→St→Option β):evK TT c_mallongeref09_firms_l1 ⟨[(1,.ptr 1 0),(3,.d (.int .i64 p1))],[(1,some (.box (dcells (GRealm.cells a0))))]⟩ k = (mallongeref09_firms_l1 a0 p1).bind (fun (r:Unit ⊕ Unit)=>Sum.elim (fun (z:Unit)=>k (.exit 0) ⟨[(1,.ptr 1 0)],[(1,some (.box (dcells (GRealm.cells a0))))]⟩) (fun (z:Unit)=>k .ret ⟨[(2,.d (.int .i64 1))],[]⟩) r):=by
 have hh:=fun (w:Int)=>h_mallongeref09_firms_l1 a0 w
 have h:=fun ho=>evK_loop (T:=TT) (k:=k) (c:=b_mallongeref09_firms_l1) (step:=(fun (w:Int)=>mallongeref09_firms_l1_s a0 w)) _ _ ho hh p1
 refine Eq.trans (h (fun r s e=>by have q:=congrArg Prod.fst e; rcases r with x | x <;> cases q)) ?_
 unfold mallongeref09_firms_l1
 exact bind_congr' _ fun x=>by rcases x with x | x <;> rfl
theorem h_mallongeref09_firms_l2 (a0:GRealm) (p7:Int) (p8:List ByteArray):evK TT b_mallongeref09_firms_l2 ⟨[(1,.ptr 1 0),(4,.own 45 0),(5,.d (.int .i64 p7))],[(1,some (.box (dcells (GRealm.cells a0)))),(45,some (.rows 0 9 1 (cM cS p8)))]⟩ (fun e s=>some (e,s)) = stepR (fun (w:Int × (List ByteArray))=>(⟨[(1,.ptr 1 0),(4,.own 45 0),(5,.d (.int .i64 w.1))],[(1,some (.box (dcells (GRealm.cells a0)))),(45,some (.rows 0 9 1 (cM cS w.2)))]⟩ : St)) (fun (r:Unit ⊕ Int)=>Sum.elim (fun (z:Unit)=>(((.exit 2),⟨[],[]⟩):Ex × St)) (fun (z:Int)=>((.ret,⟨[(2,.d (.int .i64 z))],[]⟩):Ex × St)) r) (mallongeref09_firms_l2_s a0 p7 p8):=by
 simp -implicitDefEqProofs (decide:=true) (maxSteps:=2000000) only [b_mallongeref09_firms_l2,mallongeref09_firms_l2_s,↓e_mallongeref09_firms_l1,↓k_mallongeref09_Within,↓k_mallongeref09_named,↓DN,↓DR,DQ,DP,↓reduceIte,Int.reduceToNat,Nat.reduceBEq,Nat.reduceAdd,Nat.reduceLT,Nat.reduceLeDiff,Nat.reduceEqDiff,Int.reduceEq,ne_eq,not_false_eq_true,reduceCtorEq,specL,specO,specP,beq_self_eq_true,List.length_cons,List.length_nil,cM_length,Bool.not_true,Bool.not_false,if_true,if_false,List.replicate_succ,List.replicate_zero,dcells_len,Option.bind_some,none_bind,Option.map_some,Option.map_none,Sum.elim_inl,Sum.elim_inr,sized_cI,sized_cB,sized_cS,sized_cL,sized_cK,stepR_none,stepR_inl,stepR_inr,elim_stepR,stepR_ite,stepR_bind,ite_bind,ite_map,bind_map,elim_bind,elim_map,Option.bind_assoc]
 all_goals try simp only [gIf_eq]
 all_goals try rfl
theorem e_mallongeref09_firms_l2 {β:Type} (a0:GRealm) (p7:Int) (p8:List ByteArray) (k:Ex→St→Option β):evK TT c_mallongeref09_firms_l2 ⟨[(1,.ptr 1 0),(4,.own 45 0),(5,.d (.int .i64 p7))],[(1,some (.box (dcells (GRealm.cells a0)))),(45,some (.rows 0 9 1 (cM cS p8)))]⟩ k = (mallongeref09_firms_l2 a0 p7 p8).bind (fun (r:Unit ⊕ Int)=>Sum.elim (fun (z:Unit)=>k (.exit 2) ⟨[],[]⟩) (fun (z:Int)=>k .ret ⟨[(2,.d (.int .i64 z))],[]⟩) r):=by
 have hh:=fun (w:Int × (List ByteArray))=>h_mallongeref09_firms_l2 a0 w.1 w.2
 have h:=fun ho=>evK_loop (T:=TT) (k:=k) (c:=b_mallongeref09_firms_l2) (step:=(fun (w:Int × (List ByteArray))=>mallongeref09_firms_l2_s a0 w.1 w.2)) _ _ ho hh (p7,p8)
 refine Eq.trans (h (fun r s e=>by have q:=congrArg Prod.fst e; rcases r with x | x <;> cases q)) ?_
 unfold mallongeref09_firms_l2
 exact bind_congr' _ fun x=>by rcases x with x | x <;> rfl
theorem c_mallongeref09_firms (a0:GRealm):Vm.call TT 82 [.agg (GRealm.cells a0)] = (mallongeref09_firms a0).map fun (r:Int)=>.int .i64 r:=by
 refine (call_eqF (show TT 82 = some (.code ⟨1,78,[.tmp 2],bd82,false⟩) from rfl) _ rfl).trans ?_
 show evK TT bd82 ⟨[(0,aggD (GRealm.cells a0))],[]⟩ _ = _
 simp -implicitDefEqProofs (decide:=true) (maxSteps:=2000000) only [bd82,mallongeref09_firms,↓e_mallongeref09_firms_l1,↓e_mallongeref09_firms_l2,↓k_mallongeref09_Within,↓k_mallongeref09_named,↓DN,↓DR,DQ,DP,↓reduceIte,Int.reduceToNat,Nat.reduceBEq,Nat.reduceAdd,Nat.reduceLT,Nat.reduceLeDiff,Nat.reduceEqDiff,Int.reduceEq,ne_eq,not_false_eq_true,reduceCtorEq,specL,specO,specP,beq_self_eq_true,List.length_cons,List.length_nil,cM_length,Bool.not_true,Bool.not_false,if_true,if_false,List.replicate_succ,List.replicate_zero,dcells_len,Option.bind_some,none_bind,Option.map_some,Option.map_none,Sum.elim_inl,Sum.elim_inr,sized_cI,sized_cB,sized_cS,sized_cL,sized_cK,stepR_none,stepR_inl,stepR_inr,elim_stepR,stepR_ite,stepR_bind,ite_bind,ite_map,bind_map,elim_bind,elim_map,Option.bind_assoc]
 all_goals try simp only [gIf_eq]
 all_goals try rfl
theorem k_mallongeref09_firms {β:Type} (a0:GRealm) (d:Nat) (bl:List (Nat × Option Blk)) (fz:List (Nat × Option Blk)) (k:V→Option β) (kw:V→List (Nat × Option Blk)→Option β):callF TT d bl 82 [.agg (GRealm.cells a0)] fz k kw = (mallongeref09_firms a0).bind fun (r:Int)=>k (.d (.int .i64 r)):=by
 have h:=c_mallongeref09_firms a0
 exact callF_flat h (fun _=>rfl) fz
theorem h_mallongeref09_RightOrder_l1 (a0:GOrder) (p1:Int):evK TT b_mallongeref09_RightOrder_l1 ⟨[(1,.ptr 1 0),(3,.d (.int .i64 p1))],[(1,some (.box (dcells (GOrder.cells a0))))]⟩ (fun e s=>some (e,s)) = stepR (fun (w:Int)=>(⟨[(1,.ptr 1 0),(3,.d (.int .i64 w))],[(1,some (.box (dcells (GOrder.cells a0))))]⟩ : St)) (fun (r:Unit ⊕ Unit)=>Sum.elim (fun (z:Unit)=>(((.exit 0),⟨[(1,.ptr 1 0)],[(1,some (.box (dcells (GOrder.cells a0))))]⟩):Ex × St)) (fun (z:Unit)=>((.ret,⟨[(2,.d (.bool false))],[]⟩):Ex × St)) r) (mallongeref09_RightOrder_l1_s a0 p1):=by
 simp -implicitDefEqProofs (decide:=true) (maxSteps:=2000000) only [b_mallongeref09_RightOrder_l1,mallongeref09_RightOrder_l1_s,↓k_mallongeref09_Within,↓DN,↓DR,DQ,DP,↓reduceIte,Int.reduceToNat,Nat.reduceBEq,Nat.reduceAdd,Nat.reduceLT,Nat.reduceLeDiff,Nat.reduceEqDiff,Int.reduceEq,ne_eq,not_false_eq_true,reduceCtorEq,specL,specO,specP,beq_self_eq_true,List.length_cons,List.length_nil,cM_length,Bool.not_true,Bool.not_false,if_true,if_false,List.replicate_succ,List.replicate_zero,dcells_len,Option.bind_some,none_bind,Option.map_some,Option.map_none,Sum.elim_inl,Sum.elim_inr,sized_cI,sized_cB,sized_cS,sized_cL,sized_cK,stepR_none,stepR_inl,stepR_inr,elim_stepR,stepR_ite,stepR_bind,ite_bind,ite_map,bind_map,elim_bind,elim_map,Option.bind_assoc]
 all_goals try simp only [gIf_eq]
 all_goals try rfl
theorem e_mallongeref09_RightOrder_l1 {β:Type} (a0:GOrder) (p1:Int) (k:Ex→St→Option β):evK TT c_mallongeref09_RightOrder_l1 ⟨[(1,.ptr 1 0),(3,.d (.int .i64 p1))],[(1,some (.box (dcells (GOrder.cells a0))))]⟩ k = (mallongeref09_RightOrder_l1 a0 p1).bind (fun (r:Unit ⊕ Unit)=>Sum.elim (fun (z:Unit)=>k (.exit 0) ⟨[(1,.ptr 1 0)],[(1,some (.box (dcells (GOrder.cells a0))))]⟩) (fun (z:Unit)=>k .ret ⟨[(2,.d (.bool false))],[]⟩) r):=by
 have hh:=fun (w:Int)=>h_mallongeref09_RightOrder_l1 a0 w
 have h:=fun ho=>evK_loop (T:=TT) (k:=k) (c:=b_mallongeref09_RightOrder_l1) (step:=(fun (w:Int)=>mallongeref09_RightOrder_l1_s a0 w)) _ _ ho hh p1
 refine Eq.trans (h (fun r s e=>by have q:=congrArg Prod.fst e; rcases r with x | x <;> cases q)) ?_
 unfold mallongeref09_RightOrder_l1
 exact bind_congr' _ fun x=>by rcases x with x | x <;> rfl
theorem h_mallongeref09_RightOrder_l2 (a0:GOrder) (p11:Int):evK TT b_mallongeref09_RightOrder_l2 ⟨[(1,.ptr 1 0),(4,.d (.int .i64 p11))],[(1,some (.box (dcells (GOrder.cells a0))))]⟩ (fun e s=>some (e,s)) = stepR (fun (w:Int)=>(⟨[(1,.ptr 1 0),(4,.d (.int .i64 w))],[(1,some (.box (dcells (GOrder.cells a0))))]⟩ : St)) (fun (r:Unit ⊕ Unit)=>Sum.elim (fun (z:Unit)=>(((.exit 2),⟨[],[]⟩):Ex × St)) (fun (z:Unit)=>((.ret,⟨[(2,.d (.bool false))],[]⟩):Ex × St)) r) (mallongeref09_RightOrder_l2_s a0 p11):=by
 simp -implicitDefEqProofs (decide:=true) (maxSteps:=2000000) only [b_mallongeref09_RightOrder_l2,mallongeref09_RightOrder_l2_s,↓e_mallongeref09_RightOrder_l1,↓k_mallongeref09_Within,↓DN,↓DR,DQ,DP,↓reduceIte,Int.reduceToNat,Nat.reduceBEq,Nat.reduceAdd,Nat.reduceLT,Nat.reduceLeDiff,Nat.reduceEqDiff,Int.reduceEq,ne_eq,not_false_eq_true,reduceCtorEq,specL,specO,specP,beq_self_eq_true,List.length_cons,List.length_nil,cM_length,Bool.not_true,Bool.not_false,if_true,if_false,List.replicate_succ,List.replicate_zero,dcells_len,Option.bind_some,none_bind,Option.map_some,Option.map_none,Sum.elim_inl,Sum.elim_inr,sized_cI,sized_cB,sized_cS,sized_cL,sized_cK,stepR_none,stepR_inl,stepR_inr,elim_stepR,stepR_ite,stepR_bind,ite_bind,ite_map,bind_map,elim_bind,elim_map,Option.bind_assoc]
 all_goals try simp only [gIf_eq]
 all_goals try rfl
theorem e_mallongeref09_RightOrder_l2 {β:Type} (a0:GOrder) (p11:Int) (k:Ex→St→Option β):evK TT c_mallongeref09_RightOrder_l2 ⟨[(1,.ptr 1 0),(4,.d (.int .i64 p11))],[(1,some (.box (dcells (GOrder.cells a0))))]⟩ k = (mallongeref09_RightOrder_l2 a0 p11).bind (fun (r:Unit ⊕ Unit)=>Sum.elim (fun (z:Unit)=>k (.exit 2) ⟨[],[]⟩) (fun (z:Unit)=>k .ret ⟨[(2,.d (.bool false))],[]⟩) r):=by
 have hh:=fun (w:Int)=>h_mallongeref09_RightOrder_l2 a0 w
 have h:=fun ho=>evK_loop (T:=TT) (k:=k) (c:=b_mallongeref09_RightOrder_l2) (step:=(fun (w:Int)=>mallongeref09_RightOrder_l2_s a0 w)) _ _ ho hh p11
 refine Eq.trans (h (fun r s e=>by have q:=congrArg Prod.fst e; rcases r with x | x <;> cases q)) ?_
 unfold mallongeref09_RightOrder_l2
 exact bind_congr' _ fun x=>by rcases x with x | x <;> rfl
theorem c_mallongeref09_RightOrder (a0:GOrder):Vm.call TT 103 [.agg (GOrder.cells a0)] = (mallongeref09_RightOrder a0).map fun (r:Bool)=>.bool r:=by
 refine (call_eqF (show TT 103 = some (.code ⟨1,81,[.tmp 2],bd103,false⟩) from rfl) _ rfl).trans ?_
 show evK TT bd103 ⟨[(0,aggD (GOrder.cells a0))],[]⟩ _ = _
 simp -implicitDefEqProofs (decide:=true) (maxSteps:=2000000) only [bd103,mallongeref09_RightOrder,↓e_mallongeref09_RightOrder_l1,↓e_mallongeref09_RightOrder_l2,↓k_mallongeref09_Within,↓DN,↓DR,DQ,DP,↓reduceIte,Int.reduceToNat,Nat.reduceBEq,Nat.reduceAdd,Nat.reduceLT,Nat.reduceLeDiff,Nat.reduceEqDiff,Int.reduceEq,ne_eq,not_false_eq_true,reduceCtorEq,specL,specO,specP,beq_self_eq_true,List.length_cons,List.length_nil,cM_length,Bool.not_true,Bool.not_false,if_true,if_false,List.replicate_succ,List.replicate_zero,dcells_len,Option.bind_some,none_bind,Option.map_some,Option.map_none,Sum.elim_inl,Sum.elim_inr,sized_cI,sized_cB,sized_cS,sized_cL,sized_cK,stepR_none,stepR_inl,stepR_inr,elim_stepR,stepR_ite,stepR_bind,ite_bind,ite_map,bind_map,elim_bind,elim_map,Option.bind_assoc]
 all_goals try simp only [gIf_eq]
 all_goals try rfl
theorem k_mallongeref09_RightOrder {β:Type} (a0:GOrder) (d:Nat) (bl:List (Nat × Option Blk)) (fz:List (Nat × Option Blk)) (k:V→Option β) (kw:V→List (Nat × Option Blk)→Option β):callF TT d bl 103 [.agg (GOrder.cells a0)] fz k kw = (mallongeref09_RightOrder a0).bind fun (r:Bool)=>k (.d (.bool r)):=by
 have h:=c_mallongeref09_RightOrder a0
 exact callF_flat h (fun _=>rfl) fz
theorem h_mallongeref09_orders_l1 (a0:GRealm) (p1:Int) (p2:List ByteArray):evK TT b_mallongeref09_orders_l1 ⟨[(1,.ptr 1 0),(3,.own 25 0),(4,.d (.int .i64 p1))],[(1,some (.box (dcells (GRealm.cells a0)))),(25,some (.rows 0 9 1 (cM cS p2)))]⟩ (fun e s=>some (e,s)) = stepR (fun (w:Int × (List ByteArray))=>(⟨[(1,.ptr 1 0),(3,.own 25 0),(4,.d (.int .i64 w.1))],[(1,some (.box (dcells (GRealm.cells a0)))),(25,some (.rows 0 9 1 (cM cS w.2)))]⟩ : St)) (fun (r:Unit ⊕ Int)=>Sum.elim (fun (z:Unit)=>(((.exit 0),⟨[],[]⟩):Ex × St)) (fun (z:Int)=>((.ret,⟨[(2,.d (.int .i64 z))],[]⟩):Ex × St)) r) (mallongeref09_orders_l1_s a0 p1 p2):=by
 simp -implicitDefEqProofs (decide:=true) (maxSteps:=2000000) only [b_mallongeref09_orders_l1,mallongeref09_orders_l1_s,↓k_mallongeref09_named,↓k_mallongeref09_RightOrder,↓DN,↓DR,DQ,DP,↓reduceIte,Int.reduceToNat,Nat.reduceBEq,Nat.reduceAdd,Nat.reduceLT,Nat.reduceLeDiff,Nat.reduceEqDiff,Int.reduceEq,ne_eq,not_false_eq_true,reduceCtorEq,specL,specO,specP,beq_self_eq_true,List.length_cons,List.length_nil,cM_length,Bool.not_true,Bool.not_false,if_true,if_false,List.replicate_succ,List.replicate_zero,dcells_len,Option.bind_some,none_bind,Option.map_some,Option.map_none,Sum.elim_inl,Sum.elim_inr,sized_cI,sized_cB,sized_cS,sized_cL,sized_cK,stepR_none,stepR_inl,stepR_inr,elim_stepR,stepR_ite,stepR_bind,ite_bind,ite_map,bind_map,elim_bind,elim_map,Option.bind_assoc]
 all_goals try simp only [gIf_eq]
 all_goals try rfl
theorem e_mallongeref09_orders_l1 {β:Type} (a0:GRealm) (p1:Int) (p2:List ByteArray) (k:Ex→St→Option β):evK TT c_mallongeref09_orders_l1 ⟨[(1,.ptr 1 0),(3,.own 25 0),(4,.d (.int .i64 p1))],[(1,some (.box (dcells (GRealm.cells a0)))),(25,some (.rows 0 9 1 (cM cS p2)))]⟩ k = (mallongeref09_orders_l1 a0 p1 p2).bind (fun (r:Unit ⊕ Int)=>Sum.elim (fun (z:Unit)=>k (.exit 0) ⟨[],[]⟩) (fun (z:Int)=>k .ret ⟨[(2,.d (.int .i64 z))],[]⟩) r):=by
 have hh:=fun (w:Int × (List ByteArray))=>h_mallongeref09_orders_l1 a0 w.1 w.2
 have h:=fun ho=>evK_loop (T:=TT) (k:=k) (c:=b_mallongeref09_orders_l1) (step:=(fun (w:Int × (List ByteArray))=>mallongeref09_orders_l1_s a0 w.1 w.2)) _ _ ho hh (p1,p2)
 refine Eq.trans (h (fun r s e=>by have q:=congrArg Prod.fst e; rcases r with x | x <;> cases q)) ?_
 unfold mallongeref09_orders_l1
 exact bind_congr' _ fun x=>by rcases x with x | x <;> rfl
theorem c_mallongeref09_orders (a0:GRealm):Vm.call TT 83 [.agg (GRealm.cells a0)] = (mallongeref09_orders a0).map fun (r:Int)=>.int .i64 r:=by
 refine (call_eqF (show TT 83 = some (.code ⟨1,39,[.tmp 2],bd83,false⟩) from rfl) _ rfl).trans ?_
 show evK TT bd83 ⟨[(0,aggD (GRealm.cells a0))],[]⟩ _ = _
 simp -implicitDefEqProofs (decide:=true) (maxSteps:=2000000) only [bd83,mallongeref09_orders,↓e_mallongeref09_orders_l1,↓k_mallongeref09_named,↓k_mallongeref09_RightOrder,↓DN,↓DR,DQ,DP,↓reduceIte,Int.reduceToNat,Nat.reduceBEq,Nat.reduceAdd,Nat.reduceLT,Nat.reduceLeDiff,Nat.reduceEqDiff,Int.reduceEq,ne_eq,not_false_eq_true,reduceCtorEq,specL,specO,specP,beq_self_eq_true,List.length_cons,List.length_nil,cM_length,Bool.not_true,Bool.not_false,if_true,if_false,List.replicate_succ,List.replicate_zero,dcells_len,Option.bind_some,none_bind,Option.map_some,Option.map_none,Sum.elim_inl,Sum.elim_inr,sized_cI,sized_cB,sized_cS,sized_cL,sized_cK,stepR_none,stepR_inl,stepR_inr,elim_stepR,stepR_ite,stepR_bind,ite_bind,ite_map,bind_map,elim_bind,elim_map,Option.bind_assoc]
 all_goals try simp only [gIf_eq]
 all_goals try rfl
theorem k_mallongeref09_orders {β:Type} (a0:GRealm) (d:Nat) (bl:List (Nat × Option Blk)) (fz:List (Nat × Option Blk)) (k:V→Option β) (kw:V→List (Nat × Option Blk)→Option β):callF TT d bl 83 [.agg (GRealm.cells a0)] fz k kw = (mallongeref09_orders a0).bind fun (r:Int)=>k (.d (.int .i64 r)):=by
 have h:=c_mallongeref09_orders a0
 exact callF_flat h (fun _=>rfl) fz
theorem h_mallongeref09_usances_l1 (a0:GRealm) (p1:Int) (x2:GUsance) (p6:Int):evK TT b_mallongeref09_usances_l1 ⟨[(1,.ptr 1 0),(3,.d (.int .i64 p1)),(4,.ptr 4 0),(5,.d (.int .i64 p6))],[(1,some (.box (dcells (GRealm.cells a0)))),(4,some (.box (dcells (GUsance.cells x2))))]⟩ (fun e s=>some (e,s)) = stepR (fun (w:Int)=>(⟨[(1,.ptr 1 0),(3,.d (.int .i64 p1)),(4,.ptr 4 0),(5,.d (.int .i64 w))],[(1,some (.box (dcells (GRealm.cells a0)))),(4,some (.box (dcells (GUsance.cells x2))))]⟩ : St)) (fun (r:Unit ⊕ Unit)=>Sum.elim (fun (z:Unit)=>(((.exit 2),⟨[(1,.ptr 1 0),(3,.d (.int .i64 p1))],[(1,some (.box (dcells (GRealm.cells a0))))]⟩):Ex × St)) (fun (z:Unit)=>((.ret,⟨[(2,.d (.int .i64 5))],[]⟩):Ex × St)) r) (mallongeref09_usances_l1_s a0 p1 x2 p6):=by
 simp -implicitDefEqProofs (decide:=true) (maxSteps:=2000000) only [b_mallongeref09_usances_l1,mallongeref09_usances_l1_s,↓k_mallongeref09_Within,↓DN,↓DR,DQ,DP,↓reduceIte,Int.reduceToNat,Nat.reduceBEq,Nat.reduceAdd,Nat.reduceLT,Nat.reduceLeDiff,Nat.reduceEqDiff,Int.reduceEq,ne_eq,not_false_eq_true,reduceCtorEq,specL,specO,specP,beq_self_eq_true,List.length_cons,List.length_nil,cM_length,Bool.not_true,Bool.not_false,if_true,if_false,List.replicate_succ,List.replicate_zero,dcells_len,Option.bind_some,none_bind,Option.map_some,Option.map_none,Sum.elim_inl,Sum.elim_inr,sized_cI,sized_cB,sized_cS,sized_cL,sized_cK,stepR_none,stepR_inl,stepR_inr,elim_stepR,stepR_ite,stepR_bind,ite_bind,ite_map,bind_map,elim_bind,elim_map,Option.bind_assoc]
 all_goals try simp only [gIf_eq]
 all_goals try rfl
theorem e_mallongeref09_usances_l1 {β:Type} (a0:GRealm) (p1:Int) (x2:GUsance) (p6:Int) (k:Ex→St→Option β):evK TT c_mallongeref09_usances_l1 ⟨[(1,.ptr 1 0),(3,.d (.int .i64 p1)),(4,.ptr 4 0),(5,.d (.int .i64 p6))],[(1,some (.box (dcells (GRealm.cells a0)))),(4,some (.box (dcells (GUsance.cells x2))))]⟩ k = (mallongeref09_usances_l1 a0 p1 x2 p6).bind (fun (r:Unit ⊕ Unit)=>Sum.elim (fun (z:Unit)=>k (.exit 2) ⟨[(1,.ptr 1 0),(3,.d (.int .i64 p1))],[(1,some (.box (dcells (GRealm.cells a0))))]⟩) (fun (z:Unit)=>k .ret ⟨[(2,.d (.int .i64 5))],[]⟩) r):=by
 have hh:=fun (w:Int)=>h_mallongeref09_usances_l1 a0 p1 x2 w
 have h:=fun ho=>evK_loop (T:=TT) (k:=k) (c:=b_mallongeref09_usances_l1) (step:=(fun (w:Int)=>mallongeref09_usances_l1_s a0 p1 x2 w)) _ _ ho hh p6
 refine Eq.trans (h (fun r s e=>by have q:=congrArg Prod.fst e; rcases r with x | x <;> cases q)) ?_
 unfold mallongeref09_usances_l1
 exact bind_congr' _ fun x=>by rcases x with x | x <;> rfl
theorem h_mallongeref09_usances_l2 (a0:GRealm) (p1:Int):evK TT b_mallongeref09_usances_l2 ⟨[(1,.ptr 1 0),(3,.d (.int .i64 p1))],[(1,some (.box (dcells (GRealm.cells a0))))]⟩ (fun e s=>some (e,s)) = stepR (fun (w:Int)=>(⟨[(1,.ptr 1 0),(3,.d (.int .i64 w))],[(1,some (.box (dcells (GRealm.cells a0))))]⟩ : St)) (fun (r:Unit ⊕ Int)=>Sum.elim (fun (z:Unit)=>(((.exit 0),⟨[],[]⟩):Ex × St)) (fun (z:Int)=>((.ret,⟨[(2,.d (.int .i64 z))],[]⟩):Ex × St)) r) (mallongeref09_usances_l2_s a0 p1):=by
 simp -implicitDefEqProofs (decide:=true) (maxSteps:=2000000) only [b_mallongeref09_usances_l2,mallongeref09_usances_l2_s,↓e_mallongeref09_usances_l1,↓k_mallongeref09_Within,↓DN,↓DR,DQ,DP,↓reduceIte,Int.reduceToNat,Nat.reduceBEq,Nat.reduceAdd,Nat.reduceLT,Nat.reduceLeDiff,Nat.reduceEqDiff,Int.reduceEq,ne_eq,not_false_eq_true,reduceCtorEq,specL,specO,specP,beq_self_eq_true,List.length_cons,List.length_nil,cM_length,Bool.not_true,Bool.not_false,if_true,if_false,List.replicate_succ,List.replicate_zero,dcells_len,Option.bind_some,none_bind,Option.map_some,Option.map_none,Sum.elim_inl,Sum.elim_inr,sized_cI,sized_cB,sized_cS,sized_cL,sized_cK,stepR_none,stepR_inl,stepR_inr,elim_stepR,stepR_ite,stepR_bind,ite_bind,ite_map,bind_map,elim_bind,elim_map,Option.bind_assoc]
 all_goals try simp only [gIf_eq]
 all_goals try rfl
theorem e_mallongeref09_usances_l2 {β:Type} (a0:GRealm) (p1:Int) (k:Ex→St→Option β):evK TT c_mallongeref09_usances_l2 ⟨[(1,.ptr 1 0),(3,.d (.int .i64 p1))],[(1,some (.box (dcells (GRealm.cells a0))))]⟩ k = (mallongeref09_usances_l2 a0 p1).bind (fun (r:Unit ⊕ Int)=>Sum.elim (fun (z:Unit)=>k (.exit 0) ⟨[],[]⟩) (fun (z:Int)=>k .ret ⟨[(2,.d (.int .i64 z))],[]⟩) r):=by
 have hh:=fun (w:Int)=>h_mallongeref09_usances_l2 a0 w
 have h:=fun ho=>evK_loop (T:=TT) (k:=k) (c:=b_mallongeref09_usances_l2) (step:=(fun (w:Int)=>mallongeref09_usances_l2_s a0 w)) _ _ ho hh p1
 refine Eq.trans (h (fun r s e=>by have q:=congrArg Prod.fst e; rcases r with x | x <;> cases q)) ?_
 unfold mallongeref09_usances_l2
 exact bind_congr' _ fun x=>by rcases x with x | x <;> rfl
theorem c_mallongeref09_usances (a0:GRealm):Vm.call TT 84 [.agg (GRealm.cells a0)] = (mallongeref09_usances a0).map fun (r:Int)=>.int .i64 r:=by
 refine (call_eqF (show TT 84 = some (.code ⟨1,71,[.tmp 2],bd84,false⟩) from rfl) _ rfl).trans ?_
 show evK TT bd84 ⟨[(0,aggD (GRealm.cells a0))],[]⟩ _ = _
 simp -implicitDefEqProofs (decide:=true) (maxSteps:=2000000) only [bd84,mallongeref09_usances,↓e_mallongeref09_usances_l1,↓e_mallongeref09_usances_l2,↓k_mallongeref09_Within,↓DN,↓DR,DQ,DP,↓reduceIte,Int.reduceToNat,Nat.reduceBEq,Nat.reduceAdd,Nat.reduceLT,Nat.reduceLeDiff,Nat.reduceEqDiff,Int.reduceEq,ne_eq,not_false_eq_true,reduceCtorEq,specL,specO,specP,beq_self_eq_true,List.length_cons,List.length_nil,cM_length,Bool.not_true,Bool.not_false,if_true,if_false,List.replicate_succ,List.replicate_zero,dcells_len,Option.bind_some,none_bind,Option.map_some,Option.map_none,Sum.elim_inl,Sum.elim_inr,sized_cI,sized_cB,sized_cS,sized_cL,sized_cK,stepR_none,stepR_inl,stepR_inr,elim_stepR,stepR_ite,stepR_bind,ite_bind,ite_map,bind_map,elim_bind,elim_map,Option.bind_assoc]
 all_goals try simp only [gIf_eq]
 all_goals try rfl
theorem k_mallongeref09_usances {β:Type} (a0:GRealm) (d:Nat) (bl:List (Nat × Option Blk)) (fz:List (Nat × Option Blk)) (k:V→Option β) (kw:V→List (Nat × Option Blk)→Option β):callF TT d bl 84 [.agg (GRealm.cells a0)] fz k kw = (mallongeref09_usances a0).bind fun (r:Int)=>k (.d (.int .i64 r)):=by
 have h:=c_mallongeref09_usances a0
 exact callF_flat h (fun _=>rfl) fz
end Go.Proofs.Ytjllkddmkdajcaa
