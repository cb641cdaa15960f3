/- The functions of the small machine compute the plain definitions. Printed by a program. -/
import Derived.Test.YtfhebiceipgdmaaLnk1
set_option linter.unusedVariables false
set_option linter.unusedSimpArgs false
namespace Go.Proofs.Ytfhebiceipgdmaa
open Vm
open Go.RowKit
set_option maxRecDepth 100000
set_option maxHeartbeats 4000000
attribute [local congr] condK_congr opsK_congr opsDK_congr valK_congr
theorem c_mrealm_in (a0:Int) (a1:Int):Vm.call TT 74 [.int .i64 a0,.int .i64 a1] = (mrealm_in a0 a1).map fun (r:Bool)=>.bool r:=by
 refine (call_eqF (show TT 74 = some (.code ⟨2,12,[.tmp 4],bd74,false⟩) from rfl) _ rfl).trans ?_
 show evK TT bd74 ⟨[(0,.d (.int .i64 a0)),(1,.d (.int .i64 a1))],[]⟩ _ = _
 simp -implicitDefEqProofs (decide:=true) (maxSteps:=2000000) only [bd74,mrealm_in,↓DN,↓DR,DQ,DP,↓reduceIte,Int.reduceToNat,Nat.reduceBEq,Nat.reduceAdd,Nat.reduceLT,Nat.reduceLeDiff,Nat.reduceEqDiff,Int.reduceEq,ne_eq,not_false_eq_true,reduceCtorEq,specL,specO,specP,beq_self_eq_true,List.length_cons,List.length_nil,cM_length,Bool.not_true,Bool.not_false,if_true,if_false,List.replicate_succ,List.replicate_zero,dcells_len,Option.bind_some,none_bind,Option.map_some,Option.map_none,Sum.elim_inl,Sum.elim_inr,sized_cI,sized_cB,sized_cS,sized_cL,sized_cK,stepR_none,stepR_inl,stepR_inr,elim_stepR,stepR_ite,stepR_bind,ite_bind,ite_map,bind_map,elim_bind,elim_map,Option.bind_assoc]
 all_goals try simp only [gIf_eq]
 all_goals try rfl
theorem k_mrealm_in {β:Type} (a0:Int) (a1:Int) (d:Nat) (bl:List (Nat × Option Blk)) (fz:List (Nat × Option Blk)) (k:V→Option β) (kw:V→List (Nat × Option Blk)→Option β):callF TT d bl 74 [.int .i64 a0,.int .i64 a1] fz k kw = (mrealm_in a0 a1).bind fun (r:Bool)=>k (.d (.bool r)):=by
 have h:=c_mrealm_in a0 a1
 exact callF_flat h (fun _=>rfl) fz
theorem h_mrealm_rising_l1 (a0:List Int) (a1:Int) (a2:Int) (p1:Int):evK TT b_mrealm_rising_l1 ⟨[(0,.d (.sl (cM cI a0))),(1,.d (.int .i64 a1)),(2,.d (.int .i64 a2)),(9,.d (.sl (cM cI a0))),(10,.d (.int .i64 (a0.length:Int))),(11,.d (.int .i64 p1))],[]⟩ (fun e s=>some (e,s)) = stepR (fun (w:Int)=>(⟨[(0,.d (.sl (cM cI a0))),(1,.d (.int .i64 a1)),(2,.d (.int .i64 a2)),(9,.d (.sl (cM cI a0))),(10,.d (.int .i64 (a0.length:Int))),(11,.d (.int .i64 w))],[]⟩ : St)) (fun (r:Unit ⊕ Unit)=>Sum.elim (fun (z:Unit)=>(((.exit 0),⟨[],[]⟩):Ex × St)) (fun (z:Unit)=>((.ret,⟨[(6,.d (.bool false))],[]⟩):Ex × St)) r) (mrealm_rising_l1_s a0 a1 a2 p1):=by
 simp -implicitDefEqProofs (decide:=true) (maxSteps:=2000000) only [b_mrealm_rising_l1,mrealm_rising_l1_s,↓DN,↓DR,DQ,DP,↓reduceIte,Int.reduceToNat,Nat.reduceBEq,Nat.reduceAdd,Nat.reduceLT,Nat.reduceLeDiff,Nat.reduceEqDiff,Int.reduceEq,ne_eq,not_false_eq_true,reduceCtorEq,specL,specO,specP,beq_self_eq_true,List.length_cons,List.length_nil,cM_length,Bool.not_true,Bool.not_false,if_true,if_false,List.replicate_succ,List.replicate_zero,dcells_len,Option.bind_some,none_bind,Option.map_some,Option.map_none,Sum.elim_inl,Sum.elim_inr,sized_cI,sized_cB,sized_cS,sized_cL,sized_cK,stepR_none,stepR_inl,stepR_inr,elim_stepR,stepR_ite,stepR_bind,ite_bind,ite_map,bind_map,elim_bind,elim_map,Option.bind_assoc]
 all_goals try simp only [gIf_eq]
 all_goals try rfl
theorem e_mrealm_rising_l1 {β:Type} (a0:List Int) (a1:Int) (a2:Int) (p1:Int) (k:Ex→St→Option β):evK TT c_mrealm_rising_l1 ⟨[(0,.d (.sl (cM cI a0))),(1,.d (.int .i64 a1)),(2,.d (.int .i64 a2)),(9,.d (.sl (cM cI a0))),(10,.d (.int .i64 (a0.length:Int))),(11,.d (.int .i64 p1))],[]⟩ k = (mrealm_rising_l1 a0 a1 a2 p1).bind (fun (r:Unit ⊕ Unit)=>Sum.elim (fun (z:Unit)=>k (.exit 0) ⟨[],[]⟩) (fun (z:Unit)=>k .ret ⟨[(6,.d (.bool false))],[]⟩) r):=by
 have hh:=fun (w:Int)=>h_mrealm_rising_l1 a0 a1 a2 w
 have h:=fun ho=>evK_loop (T:=TT) (k:=k) (c:=b_mrealm_rising_l1) (step:=(fun (w:Int)=>mrealm_rising_l1_s a0 a1 a2 w)) _ _ ho hh p1
 refine Eq.trans (h (fun r s e=>by have q:=congrArg Prod.fst e; rcases r with x | x <;> cases q)) ?_
 unfold mrealm_rising_l1
 exact bind_congr' _ fun x=>by rcases x with x | x <;> rfl
theorem c_mrealm_rising (a0:List Int) (a1:Int) (a2:Int):Vm.call TT 110 [.sl (cM cI a0),.int .i64 a1,.int .i64 a2] = (mrealm_rising a0 a1 a2).map fun (r:Bool)=>.bool r:=by
 refine (call_eqF (show TT 110 = some (.code ⟨3,38,[.tmp 6],bd110,false⟩) from rfl) _ rfl).trans ?_
 show evK TT bd110 ⟨[(0,.d (.sl (cM cI a0))),(1,.d (.int .i64 a1)),(2,.d (.int .i64 a2))],[]⟩ _ = _
 simp -implicitDefEqProofs (decide:=true) (maxSteps:=2000000) only [bd110,mrealm_rising,↓e_mrealm_rising_l1,↓DN,↓DR,DQ,DP,↓reduceIte,Int.reduceToNat,Nat.reduceBEq,Nat.reduceAdd,Nat.reduceLT,Nat.reduceLeDiff,Nat.reduceEqDiff,Int.reduceEq,ne_eq,not_false_eq_true,reduceCtorEq,specL,specO,specP,beq_self_eq_true,List.length_cons,List.length_nil,cM_length,Bool.not_true,Bool.not_false,if_true,if_false,List.replicate_succ,List.replicate_zero,dcells_len,Option.bind_some,none_bind,Option.map_some,Option.map_none,Sum.elim_inl,Sum.elim_inr,sized_cI,sized_cB,sized_cS,sized_cL,sized_cK,stepR_none,stepR_inl,stepR_inr,elim_stepR,stepR_ite,stepR_bind,ite_bind,ite_map,bind_map,elim_bind,elim_map,Option.bind_assoc]
 all_goals try simp only [gIf_eq]
 all_goals try rfl
theorem k_mrealm_rising {β:Type} (a0:List Int) (a1:Int) (a2:Int) (d:Nat) (bl:List (Nat × Option Blk)) (fz:List (Nat × Option Blk)) (k:V→Option β) (kw:V→List (Nat × Option Blk)→Option β):callF TT d bl 110 [.sl (cM cI a0),.int .i64 a1,.int .i64 a2] fz k kw = (mrealm_rising a0 a1 a2).bind fun (r:Bool)=>k (.d (.bool r)):=by
 have h:=c_mrealm_rising a0 a1 a2
 exact callF_flat h (fun _=>rfl) fz
theorem h_mrealm_city_l1 (a0:GRealm) (a1:GCity) (p1:Int):evK TT b_mrealm_city_l1 ⟨[(2,.ptr 2 0),(3,.ptr 3 0),(8,.d (.sl (cM cI a1.Feasts))),(9,.d (.int .i64 (a1.Feasts.length:Int))),(10,.d (.int .i64 p1))],[(2,some (.box (dcells (GRealm.cells a0)))),(3,some (.box (dcells (GCity.cells a1))))]⟩ (fun e s=>some (e,s)) = stepR (fun (w:Int)=>(⟨[(2,.ptr 2 0),(3,.ptr 3 0),(8,.d (.sl (cM cI a1.Feasts))),(9,.d (.int .i64 (a1.Feasts.length:Int))),(10,.d (.int .i64 w))],[(2,some (.box (dcells (GRealm.cells a0)))),(3,some (.box (dcells (GCity.cells a1))))]⟩ : St)) (fun (r:Unit ⊕ Unit)=>Sum.elim (fun (z:Unit)=>(((.exit 0),⟨[(2,.ptr 2 0),(3,.ptr 3 0)],[(2,some (.box (dcells (GRealm.cells a0)))),(3,some (.box (dcells (GCity.cells a1))))]⟩):Ex × St)) (fun (z:Unit)=>((.ret,⟨[(4,.d (.bool false))],[]⟩):Ex × St)) r) (mrealm_city_l1_s a0 a1 p1):=by
 simp -implicitDefEqProofs (decide:=true) (maxSteps:=2000000) only [b_mrealm_city_l1,mrealm_city_l1_s,↓k_mrealm_in,↓k_mrealm_rising,↓DN,↓DR,DQ,DP,↓reduceIte,Int.reduceToNat,Nat.reduceBEq,Nat.reduceAdd,Nat.reduceLT,Nat.reduceLeDiff,Nat.reduceEqDiff,Int.reduceEq,ne_eq,not_false_eq_true,reduceCtorEq,specL,specO,specP,beq_self_eq_true,List.length_cons,List.length_nil,cM_length,Bool.not_true,Bool.not_false,if_true,if_false,List.replicate_succ,List.replicate_zero,dcells_len,Option.bind_some,none_bind,Option.map_some,Option.map_none,Sum.elim_inl,Sum.elim_inr,sized_cI,sized_cB,sized_cS,sized_cL,sized_cK,stepR_none,stepR_inl,stepR_inr,elim_stepR,stepR_ite,stepR_bind,ite_bind,ite_map,bind_map,elim_bind,elim_map,Option.bind_assoc]
 all_goals try simp only [gIf_eq]
 all_goals try rfl
theorem e_mrealm_city_l1 {β:Type} (a0:GRealm) (a1:GCity) (p1:Int) (k:Ex→St→Option β):evK TT c_mrealm_city_l1 ⟨[(2,.ptr 2 0),(3,.ptr 3 0),(8,.d (.sl (cM cI a1.Feasts))),(9,.d (.int .i64 (a1.Feasts.length:Int))),(10,.d (.int .i64 p1))],[(2,some (.box (dcells (GRealm.cells a0)))),(3,some (.box (dcells (GCity.cells a1))))]⟩ k = (mrealm_city_l1 a0 a1 p1).bind (fun (r:Unit ⊕ Unit)=>Sum.elim (fun (z:Unit)=>k (.exit 0) ⟨[(2,.ptr 2 0),(3,.ptr 3 0)],[(2,some (.box (dcells (GRealm.cells a0)))),(3,some (.box (dcells (GCity.cells a1))))]⟩) (fun (z:Unit)=>k .ret ⟨[(4,.d (.bool false))],[]⟩) r):=by
 have hh:=fun (w:Int)=>h_mrealm_city_l1 a0 a1 w
 have h:=fun ho=>evK_loop (T:=TT) (k:=k) (c:=b_mrealm_city_l1) (step:=(fun (w:Int)=>mrealm_city_l1_s a0 a1 w)) _ _ ho hh p1
 refine Eq.trans (h (fun r s e=>by have q:=congrArg Prod.fst e; rcases r with x | x <;> cases q)) ?_
 unfold mrealm_city_l1
 exact bind_congr' _ fun x=>by rcases x with x | x <;> rfl
theorem c_mrealm_city (a0:GRealm) (a1:GCity):Vm.call TT 95 [.agg (GRealm.cells a0),.agg (GCity.cells a1)] = (mrealm_city a0 a1).map fun (r:Bool)=>.bool r:=by
 refine (call_eqF (show TT 95 = some (.code ⟨2,64,[.tmp 4],bd95,false⟩) from rfl) _ rfl).trans ?_
 show evK TT bd95 ⟨[(0,aggD (GRealm.cells a0)),(1,aggD (GCity.cells a1))],[]⟩ _ = _
 simp -implicitDefEqProofs (decide:=true) (maxSteps:=2000000) only [bd95,mrealm_city,↓e_mrealm_city_l1,↓k_mrealm_in,↓k_mrealm_rising,↓DN,↓DR,DQ,DP,↓reduceIte,Int.reduceToNat,Nat.reduceBEq,Nat.reduceAdd,Nat.reduceLT,Nat.reduceLeDiff,Nat.reduceEqDiff,Int.reduceEq,ne_eq,not_false_eq_true,reduceCtorEq,specL,specO,specP,beq_self_eq_true,List.length_cons,List.length_nil,cM_length,Bool.not_true,Bool.not_false,if_true,if_false,List.replicate_succ,List.replicate_zero,dcells_len,Option.bind_some,none_bind,Option.map_some,Option.map_none,Sum.elim_inl,Sum.elim_inr,sized_cI,sized_cB,sized_cS,sized_cL,sized_cK,stepR_none,stepR_inl,stepR_inr,elim_stepR,stepR_ite,stepR_bind,ite_bind,ite_map,bind_map,elim_bind,elim_map,Option.bind_assoc]
 all_goals try simp only [gIf_eq]
 all_goals try rfl
theorem k_mrealm_city {β:Type} (a0:GRealm) (a1:GCity) (d:Nat) (bl:List (Nat × Option Blk)) (fz:List (Nat × Option Blk)) (k:V→Option β) (kw:V→List (Nat × Option Blk)→Option β):callF TT d bl 95 [.agg (GRealm.cells a0),.agg (GCity.cells a1)] fz k kw = (mrealm_city a0 a1).bind fun (r:Bool)=>k (.d (.bool r)):=by
 have h:=c_mrealm_city a0 a1
 exact callF_flat h (fun _=>rfl) fz
theorem c_mrealm_Check_2_s1 (a0:Int) (a1:GRealm):Vm.call TT 94 [.int .i64 a0,.ptr (GRealm.cells a1) 0] = (mrealm_Check_2_s1 a0 a1).map fun (r:Bool)=>.bool r:=by
 refine (call_eqF (show TT 94 = some (.code ⟨2,11,[.tmp 3],bd94,false⟩) from rfl) _ rfl).trans ?_
 show evK TT bd94 ⟨[(0,.d (.int .i64 a0)),(1,.d (.ptr (GRealm.cells a1) 0))],[]⟩ _ = _
 simp -implicitDefEqProofs (decide:=true) (maxSteps:=2000000) only [bd94,mrealm_Check_2_s1,↓k_mrealm_city,↓DN,↓DR,DQ,DP,↓reduceIte,Int.reduceToNat,Nat.reduceBEq,Nat.reduceAdd,Nat.reduceLT,Nat.reduceLeDiff,Nat.reduceEqDiff,Int.reduceEq,ne_eq,not_false_eq_true,reduceCtorEq,specL,specO,specP,beq_self_eq_true,List.length_cons,List.length_nil,cM_length,Bool.not_true,Bool.not_false,if_true,if_false,List.replicate_succ,List.replicate_zero,dcells_len,Option.bind_some,none_bind,Option.map_some,Option.map_none,Sum.elim_inl,Sum.elim_inr,sized_cI,sized_cB,sized_cS,sized_cL,sized_cK,stepR_none,stepR_inl,stepR_inr,elim_stepR,stepR_ite,stepR_bind,ite_bind,ite_map,bind_map,elim_bind,elim_map,Option.bind_assoc]
 all_goals try simp only [gIf_eq]
 all_goals try rfl
theorem k_mrealm_Check_2_s1 {β:Type} (a0:Int) (a1:GRealm) (d:Nat) (bl:List (Nat × Option Blk)) (fz:List (Nat × Option Blk)) (k:V→Option β) (kw:V→List (Nat × Option Blk)→Option β):callF TT d bl 94 [.int .i64 a0,.ptr (GRealm.cells a1) 0] fz k kw = (mrealm_Check_2_s1 a0 a1).bind fun (r:Bool)=>k (.d (.bool r)):=by
 have h:=c_mrealm_Check_2_s1 a0 a1
 exact callF_flat h (fun _=>rfl) fz
theorem h_mrealm_fits_s2_l1 (a0:List ByteArray) (a2:GRealm) (p1:Int):evK TT b_mrealm_fits_l1 ⟨[(0,.d (.sl (cM cS a0))),(2,.d (.fn 94 [.ptr (GRealm.cells a2) 0])),(14,.d (.int .i64 (a0.length:Int))),(15,.d (.int .i64 p1))],[]⟩ (fun e s=>some (e,s)) = stepR (fun (w:Int)=>(⟨[(0,.d (.sl (cM cS a0))),(2,.d (.fn 94 [.ptr (GRealm.cells a2) 0])),(14,.d (.int .i64 (a0.length:Int))),(15,.d (.int .i64 w))],[]⟩ : St)) (fun (r:Unit ⊕ Int)=>Sum.elim (fun (z:Unit)=>(((.exit 0),⟨[],[]⟩):Ex × St)) (fun (z:Int)=>((.ret,⟨[(6,.d (.int .i64 z))],[]⟩):Ex × St)) r) (mrealm_fits_s2_l1_s a0 a2 p1):=by
 simp -implicitDefEqProofs (decide:=true) (maxSteps:=2000000) only [b_mrealm_fits_l1,mrealm_fits_s2_l1_s,↓k_mrealm_Check_2_s1,↓k_mrealm_named,↓DN,↓DR,DQ,DP,↓reduceIte,Int.reduceToNat,Nat.reduceBEq,Nat.reduceAdd,Nat.reduceLT,Nat.reduceLeDiff,Nat.reduceEqDiff,Int.reduceEq,ne_eq,not_false_eq_true,reduceCtorEq,specL,specO,specP,beq_self_eq_true,List.length_cons,List.length_nil,cM_length,Bool.not_true,Bool.not_false,if_true,if_false,List.replicate_succ,List.replicate_zero,dcells_len,Option.bind_some,none_bind,Option.map_some,Option.map_none,Sum.elim_inl,Sum.elim_inr,sized_cI,sized_cB,sized_cS,sized_cL,sized_cK,stepR_none,stepR_inl,stepR_inr,elim_stepR,stepR_ite,stepR_bind,ite_bind,ite_map,bind_map,elim_bind,elim_map,Option.bind_assoc]
 all_goals try simp only [gIf_eq]
 all_goals try rfl
theorem e_mrealm_fits_s2_l1 {β:Type} (a0:List ByteArray) (a2:GRealm) (p1:Int) (k:Ex→St→Option β):evK TT c_mrealm_fits_l1 ⟨[(0,.d (.sl (cM cS a0))),(2,.d (.fn 94 [.ptr (GRealm.cells a2) 0])),(14,.d (.int .i64 (a0.length:Int))),(15,.d (.int .i64 p1))],[]⟩ k = (mrealm_fits_s2_l1 a0 a2 p1).bind (fun (r:Unit ⊕ Int)=>Sum.elim (fun (z:Unit)=>k (.exit 0) ⟨[],[]⟩) (fun (z:Int)=>k .ret ⟨[(6,.d (.int .i64 z))],[]⟩) r):=by
 have hh:=fun (w:Int)=>h_mrealm_fits_s2_l1 a0 a2 w
 have h:=fun ho=>evK_loop (T:=TT) (k:=k) (c:=b_mrealm_fits_l1) (step:=(fun (w:Int)=>mrealm_fits_s2_l1_s a0 a2 w)) _ _ ho hh p1
 refine Eq.trans (h (fun r s e=>by have q:=congrArg Prod.fst e; rcases r with x | x <;> cases q)) ?_
 unfold mrealm_fits_s2_l1
 exact bind_congr' _ fun x=>by rcases x with x | x <;> rfl
theorem c_mrealm_fits_s2 (a0:List ByteArray) (a1:Int) (a2:GRealm):Vm.call TT 92 [.sl (cM cS a0),.int .i64 a1,.fn 94 [.ptr (GRealm.cells a2) 0]] = (mrealm_fits_s2 a0 a1 a2).map fun (r:Int)=>.int .i64 r:=by
 refine (call_eqF (show TT 92 = some (.code ⟨3,29,[.tmp 6],bd92,false⟩) from rfl) _ rfl).trans ?_
 show evK TT bd92 ⟨[(0,.d (.sl (cM cS a0))),(1,.d (.int .i64 a1)),(2,.d (.fn 94 [.ptr (GRealm.cells a2) 0]))],[]⟩ _ = _
 simp -implicitDefEqProofs (decide:=true) (maxSteps:=2000000) only [bd92,mrealm_fits_s2,↓e_mrealm_fits_s2_l1,↓k_mrealm_Check_2_s1,↓k_mrealm_named,↓DN,↓DR,DQ,DP,↓reduceIte,Int.reduceToNat,Nat.reduceBEq,Nat.reduceAdd,Nat.reduceLT,Nat.reduceLeDiff,Nat.reduceEqDiff,Int.reduceEq,ne_eq,not_false_eq_true,reduceCtorEq,specL,specO,specP,beq_self_eq_true,List.length_cons,List.length_nil,cM_length,Bool.not_true,Bool.not_false,if_true,if_false,List.replicate_succ,List.replicate_zero,dcells_len,Option.bind_some,none_bind,Option.map_some,Option.map_none,Sum.elim_inl,Sum.elim_inr,sized_cI,sized_cB,sized_cS,sized_cL,sized_cK,stepR_none,stepR_inl,stepR_inr,elim_stepR,stepR_ite,stepR_bind,ite_bind,ite_map,bind_map,elim_bind,elim_map,Option.bind_assoc]
 all_goals try simp only [gIf_eq]
 all_goals try rfl
theorem k_mrealm_fits_s2 {β:Type} (a0:List ByteArray) (a1:Int) (a2:GRealm) (d:Nat) (bl:List (Nat × Option Blk)) (fz:List (Nat × Option Blk)) (k:V→Option β) (kw:V→List (Nat × Option Blk)→Option β):callF TT d bl 92 [.sl (cM cS a0),.int .i64 a1,.fn 94 [.ptr (GRealm.cells a2) 0]] fz k kw = (mrealm_fits_s2 a0 a1 a2).bind fun (r:Int)=>k (.d (.int .i64 r)):=by
 have h:=c_mrealm_fits_s2 a0 a1 a2
 exact callF_flat h (fun _=>rfl) fz
theorem c_mrealm_Check_3_s1 (a0:Int) (a1:GRealm):Vm.call TT 96 [.int .i64 a0,.ptr (GRealm.cells a1) 0] = (mrealm_Check_3_s1 a0 a1).map fun (r:Bool)=>.bool r:=by
 refine (call_eqF (show TT 96 = some (.code ⟨2,26,[.tmp 3],bd96,false⟩) from rfl) _ rfl).trans ?_
 show evK TT bd96 ⟨[(0,.d (.int .i64 a0)),(1,.d (.ptr (GRealm.cells a1) 0))],[]⟩ _ = _
 simp -implicitDefEqProofs (decide:=true) (maxSteps:=2000000) only [bd96,mrealm_Check_3_s1,↓k_mrealm_in,↓DN,↓DR,DQ,DP,↓reduceIte,Int.reduceToNat,Nat.reduceBEq,Nat.reduceAdd,Nat.reduceLT,Nat.reduceLeDiff,Nat.reduceEqDiff,Int.reduceEq,ne_eq,not_false_eq_true,reduceCtorEq,specL,specO,specP,beq_self_eq_true,List.length_cons,List.length_nil,cM_length,Bool.not_true,Bool.not_false,if_true,if_false,List.replicate_succ,List.replicate_zero,dcells_len,Option.bind_some,none_bind,Option.map_some,Option.map_none,Sum.elim_inl,Sum.elim_inr,sized_cI,sized_cB,sized_cS,sized_cL,sized_cK,stepR_none,stepR_inl,stepR_inr,elim_stepR,stepR_ite,stepR_bind,ite_bind,ite_map,bind_map,elim_bind,elim_map,Option.bind_assoc]
 all_goals try simp only [gIf_eq]
 all_goals try rfl
theorem k_mrealm_Check_3_s1 {β:Type} (a0:Int) (a1:GRealm) (d:Nat) (bl:List (Nat × Option Blk)) (fz:List (Nat × Option Blk)) (k:V→Option β) (kw:V→List (Nat × Option Blk)→Option β):callF TT d bl 96 [.int .i64 a0,.ptr (GRealm.cells a1) 0] fz k kw = (mrealm_Check_3_s1 a0 a1).bind fun (r:Bool)=>k (.d (.bool r)):=by
 have h:=c_mrealm_Check_3_s1 a0 a1
 exact callF_flat h (fun _=>rfl) fz
theorem h_mrealm_fits_s3_l1 (a0:List ByteArray) (a2:GRealm) (p1:Int):evK TT b_mrealm_fits_l1 ⟨[(0,.d (.sl (cM cS a0))),(2,.d (.fn 96 [.ptr (GRealm.cells a2) 0])),(14,.d (.int .i64 (a0.length:Int))),(15,.d (.int .i64 p1))],[]⟩ (fun e s=>some (e,s)) = stepR (fun (w:Int)=>(⟨[(0,.d (.sl (cM cS a0))),(2,.d (.fn 96 [.ptr (GRealm.cells a2) 0])),(14,.d (.int .i64 (a0.length:Int))),(15,.d (.int .i64 w))],[]⟩ : St)) (fun (r:Unit ⊕ Int)=>Sum.elim (fun (z:Unit)=>(((.exit 0),⟨[],[]⟩):Ex × St)) (fun (z:Int)=>((.ret,⟨[(6,.d (.int .i64 z))],[]⟩):Ex × St)) r) (mrealm_fits_s3_l1_s a0 a2 p1):=by
 simp -implicitDefEqProofs (decide:=true) (maxSteps:=2000000) only [b_mrealm_fits_l1,mrealm_fits_s3_l1_s,↓k_mrealm_Check_3_s1,↓k_mrealm_named,↓DN,↓DR,DQ,DP,↓reduceIte,Int.reduceToNat,Nat.reduceBEq,Nat.reduceAdd,Nat.reduceLT,Nat.reduceLeDiff,Nat.reduceEqDiff,Int.reduceEq,ne_eq,not_false_eq_true,reduceCtorEq,specL,specO,specP,beq_self_eq_true,List.length_cons,List.length_nil,cM_length,Bool.not_true,Bool.not_false,if_true,if_false,List.replicate_succ,List.replicate_zero,dcells_len,Option.bind_some,none_bind,Option.map_some,Option.map_none,Sum.elim_inl,Sum.elim_inr,sized_cI,sized_cB,sized_cS,sized_cL,sized_cK,stepR_none,stepR_inl,stepR_inr,elim_stepR,stepR_ite,stepR_bind,ite_bind,ite_map,bind_map,elim_bind,elim_map,Option.bind_assoc]
 all_goals try simp only [gIf_eq]
 all_goals try rfl
theorem e_mrealm_fits_s3_l1 {β:Type} (a0:List ByteArray) (a2:GRealm) (p1:Int) (k:Ex→St→Option β):evK TT c_mrealm_fits_l1 ⟨[(0,.d (.sl (cM cS a0))),(2,.d (.fn 96 [.ptr (GRealm.cells a2) 0])),(14,.d (.int .i64 (a0.length:Int))),(15,.d (.int .i64 p1))],[]⟩ k = (mrealm_fits_s3_l1 a0 a2 p1).bind (fun (r:Unit ⊕ Int)=>Sum.elim (fun (z:Unit)=>k (.exit 0) ⟨[],[]⟩) (fun (z:Int)=>k .ret ⟨[(6,.d (.int .i64 z))],[]⟩) r):=by
 have hh:=fun (w:Int)=>h_mrealm_fits_s3_l1 a0 a2 w
 have h:=fun ho=>evK_loop (T:=TT) (k:=k) (c:=b_mrealm_fits_l1) (step:=(fun (w:Int)=>mrealm_fits_s3_l1_s a0 a2 w)) _ _ ho hh p1
 refine Eq.trans (h (fun r s e=>by have q:=congrArg Prod.fst e; rcases r with x | x <;> cases q)) ?_
 unfold mrealm_fits_s3_l1
 exact bind_congr' _ fun x=>by rcases x with x | x <;> rfl
theorem c_mrealm_fits_s3 (a0:List ByteArray) (a1:Int) (a2:GRealm):Vm.call TT 92 [.sl (cM cS a0),.int .i64 a1,.fn 96 [.ptr (GRealm.cells a2) 0]] = (mrealm_fits_s3 a0 a1 a2).map fun (r:Int)=>.int .i64 r:=by
 refine (call_eqF (show TT 92 = some (.code ⟨3,29,[.tmp 6],bd92,false⟩) from rfl) _ rfl).trans ?_
 show evK TT bd92 ⟨[(0,.d (.sl (cM cS a0))),(1,.d (.int .i64 a1)),(2,.d (.fn 96 [.ptr (GRealm.cells a2) 0]))],[]⟩ _ = _
 simp -implicitDefEqProofs (decide:=true) (maxSteps:=2000000) only [bd92,mrealm_fits_s3,↓e_mrealm_fits_s3_l1,↓k_mrealm_Check_3_s1,↓k_mrealm_named,↓DN,↓DR,DQ,DP,↓reduceIte,Int.reduceToNat,Nat.reduceBEq,Nat.reduceAdd,Nat.reduceLT,Nat.reduceLeDiff,Nat.reduceEqDiff,Int.reduceEq,ne_eq,not_false_eq_true,reduceCtorEq,specL,specO,specP,beq_self_eq_true,List.length_cons,List.length_nil,cM_length,Bool.not_true,Bool.not_false,if_true,if_false,List.replicate_succ,List.replicate_zero,dcells_len,Option.bind_some,none_bind,Option.map_some,Option.map_none,Sum.elim_inl,Sum.elim_inr,sized_cI,sized_cB,sized_cS,sized_cL,sized_cK,stepR_none,stepR_inl,stepR_inr,elim_stepR,stepR_ite,stepR_bind,ite_bind,ite_map,bind_map,elim_bind,elim_map,Option.bind_assoc]
 all_goals try simp only [gIf_eq]
 all_goals try rfl
theorem k_mrealm_fits_s3 {β:Type} (a0:List ByteArray) (a1:Int) (a2:GRealm) (d:Nat) (bl:List (Nat × Option Blk)) (fz:List (Nat × Option Blk)) (k:V→Option β) (kw:V→List (Nat × Option Blk)→Option β):callF TT d bl 92 [.sl (cM cS a0),.int .i64 a1,.fn 96 [.ptr (GRealm.cells a2) 0]] fz k kw = (mrealm_fits_s3 a0 a1 a2).bind fun (r:Int)=>k (.d (.int .i64 r)):=by
 have h:=c_mrealm_fits_s3 a0 a1 a2
 exact callF_flat h (fun _=>rfl) fz
theorem h_mrealm_order_l1 (a0:GOrder) (p1:Int) (p2:List Int):evK TT b_mrealm_order_l1 ⟨[(1,.ptr 1 0),(3,.own 20 0),(4,.nil),(10,.d (.sl (cM GChoice.cells a0.Choices))),(11,.d (.int .i64 (a0.Choices.length:Int))),(12,.d (.int .i64 p1))],[(1,some (.box (dcells (GOrder.cells a0)))),(20,some (.rows 0 3 1 (cM cI p2)))]⟩ (fun e s=>some (e,s)) = stepR (fun (w:Int × (List Int))=>(⟨[(1,.ptr 1 0),(3,.own 20 0),(4,.nil),(10,.d (.sl (cM GChoice.cells a0.Choices))),(11,.d (.int .i64 (a0.Choices.length:Int))),(12,.d (.int .i64 w.1))],[(1,some (.box (dcells (GOrder.cells a0)))),(20,some (.rows 0 3 1 (cM cI w.2)))]⟩ : St)) (fun (r:((List Int)) ⊕ Unit)=>Sum.elim (fun (z:(List Int))=>(((.exit 0),⟨[(1,.ptr 1 0),(3,.own 20 0),(4,.nil)],[(1,some (.box (dcells (GOrder.cells a0)))),(20,some (.rows 0 3 1 (cM cI z)))]⟩):Ex × St)) (fun (z:Unit)=>((.ret,⟨[(2,.d (.bool false))],[]⟩):Ex × St)) r) (mrealm_order_l1_s a0 p1 p2):=by
 simp -implicitDefEqProofs (decide:=true) (maxSteps:=2000000) only [b_mrealm_order_l1,mrealm_order_l1_s,↓k_mrealm_in,↓k_mrealm_rising,↓DN,↓DR,DQ,DP,↓reduceIte,Int.reduceToNat,Nat.reduceBEq,Nat.reduceAdd,Nat.reduceLT,Nat.reduceLeDiff,Nat.reduceEqDiff,Int.reduceEq,ne_eq,not_false_eq_true,reduceCtorEq,specL,specO,specP,beq_self_eq_true,List.length_cons,List.length_nil,cM_length,Bool.not_true,Bool.not_false,if_true,if_false,List.replicate_succ,List.replicate_zero,dcells_len,Option.bind_some,none_bind,Option.map_some,Option.map_none,Sum.elim_inl,Sum.elim_inr,sized_cI,sized_cB,sized_cS,sized_cL,sized_cK,stepR_none,stepR_inl,stepR_inr,elim_stepR,stepR_ite,stepR_bind,ite_bind,ite_map,bind_map,elim_bind,elim_map,Option.bind_assoc]
 all_goals try simp only [gIf_eq]
 all_goals try rfl
theorem e_mrealm_order_l1 {β:Type} (a0:GOrder) (p1:Int) (p2:List Int) (k:Ex→St→Option β):evK TT c_mrealm_order_l1 ⟨[(1,.ptr 1 0),(3,.own 20 0),(4,.nil),(10,.d (.sl (cM GChoice.cells a0.Choices))),(11,.d (.int .i64 (a0.Choices.length:Int))),(12,.d (.int .i64 p1))],[(1,some (.box (dcells (GOrder.cells a0)))),(20,some (.rows 0 3 1 (cM cI p2)))]⟩ k = (mrealm_order_l1 a0 p1 p2).bind (fun (r:((List Int)) ⊕ Unit)=>Sum.elim (fun (z:(List Int))=>k (.exit 0) ⟨[(1,.ptr 1 0),(3,.own 20 0),(4,.nil)],[(1,some (.box (dcells (GOrder.cells a0)))),(20,some (.rows 0 3 1 (cM cI z)))]⟩) (fun (z:Unit)=>k .ret ⟨[(2,.d (.bool false))],[]⟩) r):=by
 have hh:=fun (w:Int × (List Int))=>h_mrealm_order_l1 a0 w.1 w.2
 have h:=fun ho=>evK_loop (T:=TT) (k:=k) (c:=b_mrealm_order_l1) (step:=(fun (w:Int × (List Int))=>mrealm_order_l1_s a0 w.1 w.2)) _ _ ho hh (p1,p2)
 refine Eq.trans (h (fun r s e=>by have q:=congrArg Prod.fst e; rcases r with x | x <;> cases q)) ?_
 unfold mrealm_order_l1
 exact bind_congr' _ fun x=>by rcases x with x | x <;> rfl
theorem h_mrealm_order_l2 (a0:GOrder) (z7:(List Int)) (p9:Int) (p10:List Int):evK TT b_mrealm_order_l2 ⟨[(3,.own 20 0),(4,.own 37 0),(27,.d (.sl (cM GRule.cells a0.Rules))),(28,.d (.int .i64 (a0.Rules.length:Int))),(29,.d (.int .i64 p9))],[(20,some (.rows 0 3 1 (cM cI z7))),(37,some (.rows 0 3 1 (cM cI p10)))]⟩ (fun e s=>some (e,s)) = stepR (fun (w:Int × (List Int))=>(⟨[(3,.own 20 0),(4,.own 37 0),(27,.d (.sl (cM GRule.cells a0.Rules))),(28,.d (.int .i64 (a0.Rules.length:Int))),(29,.d (.int .i64 w.1))],[(20,some (.rows 0 3 1 (cM cI z7))),(37,some (.rows 0 3 1 (cM cI w.2)))]⟩ : St)) (fun (r:(List Int))=>(((.exit 2),⟨[(3,.own 20 0),(4,.own 37 0)],[(20,some (.rows 0 3 1 (cM cI z7))),(37,some (.rows 0 3 1 (cM cI r)))]⟩):Ex × St)) (mrealm_order_l2_s a0 z7 p9 p10):=by
 simp -implicitDefEqProofs (decide:=true) (maxSteps:=2000000) only [b_mrealm_order_l2,mrealm_order_l2_s,↓e_mrealm_order_l1,↓k_mrealm_in,↓k_mrealm_rising,↓DN,↓DR,DQ,DP,↓reduceIte,Int.reduceToNat,Nat.reduceBEq,Nat.reduceAdd,Nat.reduceLT,Nat.reduceLeDiff,Nat.reduceEqDiff,Int.reduceEq,ne_eq,not_false_eq_true,reduceCtorEq,specL,specO,specP,beq_self_eq_true,List.length_cons,List.length_nil,cM_length,Bool.not_true,Bool.not_false,if_true,if_false,List.replicate_succ,List.replicate_zero,dcells_len,Option.bind_some,none_bind,Option.map_some,Option.map_none,Sum.elim_inl,Sum.elim_inr,sized_cI,sized_cB,sized_cS,sized_cL,sized_cK,stepR_none,stepR_inl,stepR_inr,elim_stepR,stepR_ite,stepR_bind,ite_bind,ite_map,bind_map,elim_bind,elim_map,Option.bind_assoc]
 all_goals try simp only [gIf_eq]
 all_goals try rfl
theorem e_mrealm_order_l2 {β:Type} (a0:GOrder) (z7:(List Int)) (p9:Int) (p10:List Int) (k:Ex→St→Option β):evK TT c_mrealm_order_l2 ⟨[(3,.own 20 0),(4,.own 37 0),(27,.d (.sl (cM GRule.cells a0.Rules))),(28,.d (.int .i64 (a0.Rules.length:Int))),(29,.d (.int .i64 p9))],[(20,some (.rows 0 3 1 (cM cI z7))),(37,some (.rows 0 3 1 (cM cI p10)))]⟩ k = (mrealm_order_l2 a0 z7 p9 p10).bind (fun (r:(List Int))=>k (.exit 2) ⟨[(3,.own 20 0),(4,.own 37 0)],[(20,some (.rows 0 3 1 (cM cI z7))),(37,some (.rows 0 3 1 (cM cI r)))]⟩):=by
 have hh:=fun (w:Int × (List Int))=>h_mrealm_order_l2 a0 z7 w.1 w.2
 have h:=fun ho=>evK_loop (T:=TT) (k:=k) (c:=b_mrealm_order_l2) (step:=(fun (w:Int × (List Int))=>mrealm_order_l2_s a0 z7 w.1 w.2)) _ _ ho hh (p9,p10)
 refine Eq.trans (h (fun r s e=>by have q:=congrArg Prod.fst e; rcases r with x <;> cases q)) ?_
 unfold mrealm_order_l2
 exact bind_congr' _ fun x=>by rcases x with x <;> rfl
theorem c_mrealm_order (a0:GOrder):Vm.call TT 98 [.agg (GOrder.cells a0)] = (mrealm_order a0).map fun (r:Bool)=>.bool r:=by
 refine (call_eqF (show TT 98 = some (.code ⟨1,45,[.tmp 2],bd98,false⟩) from rfl) _ rfl).trans ?_
 show evK TT bd98 ⟨[(0,aggD (GOrder.cells a0))],[]⟩ _ = _
 simp -implicitDefEqProofs (decide:=true) (maxSteps:=2000000) only [bd98,mrealm_order,↓e_mrealm_order_l1,↓e_mrealm_order_l2,↓k_mrealm_in,↓k_mrealm_rising,↓DN,↓DR,DQ,DP,↓reduceIte,Int.reduceToNat,Nat.reduceBEq,Nat.reduceAdd,Nat.reduceLT,Nat.reduceLeDiff,Nat.reduceEqDiff,Int.reduceEq,ne_eq,not_false_eq_true,reduceCtorEq,specL,specO,specP,beq_self_eq_true,List.length_cons,List.length_nil,cM_length,Bool.not_true,Bool.not_false,if_true,if_false,List.replicate_succ,List.replicate_zero,dcells_len,Option.bind_some,none_bind,Option.map_some,Option.map_none,Sum.elim_inl,Sum.elim_inr,sized_cI,sized_cB,sized_cS,sized_cL,sized_cK,stepR_none,stepR_inl,stepR_inr,elim_stepR,stepR_ite,stepR_bind,ite_bind,ite_map,bind_map,elim_bind,elim_map,Option.bind_assoc]
 all_goals try simp only [gIf_eq]
 all_goals try rfl
theorem k_mrealm_order {β:Type} (a0:GOrder) (d:Nat) (bl:List (Nat × Option Blk)) (fz:List (Nat × Option Blk)) (k:V→Option β) (kw:V→List (Nat × Option Blk)→Option β):callF TT d bl 98 [.agg (GOrder.cells a0)] fz k kw = (mrealm_order a0).bind fun (r:Bool)=>k (.d (.bool r)):=by
 have h:=c_mrealm_order a0
 exact callF_flat h (fun _=>rfl) fz
theorem c_mrealm_Check_4_s1 (a0:Int) (a1:GRealm):Vm.call TT 97 [.int .i64 a0,.ptr (GRealm.cells a1) 0] = (mrealm_Check_4_s1 a0 a1).map fun (r:Bool)=>.bool r:=by
 refine (call_eqF (show TT 97 = some (.code ⟨2,10,[.tmp 3],bd97,false⟩) from rfl) _ rfl).trans ?_
 show evK TT bd97 ⟨[(0,.d (.int .i64 a0)),(1,.d (.ptr (GRealm.cells a1) 0))],[]⟩ _ = _
 simp -implicitDefEqProofs (decide:=true) (maxSteps:=2000000) only [bd97,mrealm_Check_4_s1,↓k_mrealm_order,↓DN,↓DR,DQ,DP,↓reduceIte,Int.reduceToNat,Nat.reduceBEq,Nat.reduceAdd,Nat.reduceLT,Nat.reduceLeDiff,Nat.reduceEqDiff,Int.reduceEq,ne_eq,not_false_eq_true,reduceCtorEq,specL,specO,specP,beq_self_eq_true,List.length_cons,List.length_nil,cM_length,Bool.not_true,Bool.not_false,if_true,if_false,List.replicate_succ,List.replicate_zero,dcells_len,Option.bind_some,none_bind,Option.map_some,Option.map_none,Sum.elim_inl,Sum.elim_inr,sized_cI,sized_cB,sized_cS,sized_cL,sized_cK,stepR_none,stepR_inl,stepR_inr,elim_stepR,stepR_ite,stepR_bind,ite_bind,ite_map,bind_map,elim_bind,elim_map,Option.bind_assoc]
 all_goals try simp only [gIf_eq]
 all_goals try rfl
theorem k_mrealm_Check_4_s1 {β:Type} (a0:Int) (a1:GRealm) (d:Nat) (bl:List (Nat × Option Blk)) (fz:List (Nat × Option Blk)) (k:V→Option β) (kw:V→List (Nat × Option Blk)→Option β):callF TT d bl 97 [.int .i64 a0,.ptr (GRealm.cells a1) 0] fz k kw = (mrealm_Check_4_s1 a0 a1).bind fun (r:Bool)=>k (.d (.bool r)):=by
 have h:=c_mrealm_Check_4_s1 a0 a1
 exact callF_flat h (fun _=>rfl) fz
theorem h_mrealm_fits_s4_l1 (a0:List ByteArray) (a2:GRealm) (p1:Int):evK TT b_mrealm_fits_l1 ⟨[(0,.d (.sl (cM cS a0))),(2,.d (.fn 97 [.ptr (GRealm.cells a2) 0])),(14,.d (.int .i64 (a0.length:Int))),(15,.d (.int .i64 p1))],[]⟩ (fun e s=>some (e,s)) = stepR (fun (w:Int)=>(⟨[(0,.d (.sl (cM cS a0))),(2,.d (.fn 97 [.ptr (GRealm.cells a2) 0])),(14,.d (.int .i64 (a0.length:Int))),(15,.d (.int .i64 w))],[]⟩ : St)) (fun (r:Unit ⊕ Int)=>Sum.elim (fun (z:Unit)=>(((.exit 0),⟨[],[]⟩):Ex × St)) (fun (z:Int)=>((.ret,⟨[(6,.d (.int .i64 z))],[]⟩):Ex × St)) r) (mrealm_fits_s4_l1_s a0 a2 p1):=by
 simp -implicitDefEqProofs (decide:=true) (maxSteps:=2000000) only [b_mrealm_fits_l1,mrealm_fits_s4_l1_s,↓k_mrealm_Check_4_s1,↓k_mrealm_named,↓DN,↓DR,DQ,DP,↓reduceIte,Int.reduceToNat,Nat.reduceBEq,Nat.reduceAdd,Nat.reduceLT,Nat.reduceLeDiff,Nat.reduceEqDiff,Int.reduceEq,ne_eq,not_false_eq_true,reduceCtorEq,specL,specO,specP,beq_self_eq_true,List.length_cons,List.length_nil,cM_length,Bool.not_true,Bool.not_false,if_true,if_false,List.replicate_succ,List.replicate_zero,dcells_len,Option.bind_some,none_bind,Option.map_some,Option.map_none,Sum.elim_inl,Sum.elim_inr,sized_cI,sized_cB,sized_cS,sized_cL,sized_cK,stepR_none,stepR_inl,stepR_inr,elim_stepR,stepR_ite,stepR_bind,ite_bind,ite_map,bind_map,elim_bind,elim_map,Option.bind_assoc]
 all_goals try simp only [gIf_eq]
 all_goals try rfl
theorem e_mrealm_fits_s4_l1 {β:Type} (a0:List ByteArray) (a2:GRealm) (p1:Int) (k:Ex→St→Option β):evK TT c_mrealm_fits_l1 ⟨[(0,.d (.sl (cM cS a0))),(2,.d (.fn 97 [.ptr (GRealm.cells a2) 0])),(14,.d (.int .i64 (a0.length:Int))),(15,.d (.int .i64 p1))],[]⟩ k = (mrealm_fits_s4_l1 a0 a2 p1).bind (fun (r:Unit ⊕ Int)=>Sum.elim (fun (z:Unit)=>k (.exit 0) ⟨[],[]⟩) (fun (z:Int)=>k .ret ⟨[(6,.d (.int .i64 z))],[]⟩) r):=by
 have hh:=fun (w:Int)=>h_mrealm_fits_s4_l1 a0 a2 w
 have h:=fun ho=>evK_loop (T:=TT) (k:=k) (c:=b_mrealm_fits_l1) (step:=(fun (w:Int)=>mrealm_fits_s4_l1_s a0 a2 w)) _ _ ho hh p1
 refine Eq.trans (h (fun r s e=>by have q:=congrArg Prod.fst e; rcases r with x | x <;> cases q)) ?_
 unfold mrealm_fits_s4_l1
 exact bind_congr' _ fun x=>by rcases x with x | x <;> rfl
theorem c_mrealm_fits_s4 (a0:List ByteArray) (a1:Int) (a2:GRealm):Vm.call TT 92 [.sl (cM cS a0),.int .i64 a1,.fn 97 [.ptr (GRealm.cells a2) 0]] = (mrealm_fits_s4 a0 a1 a2).map fun (r:Int)=>.int .i64 r:=by
 refine (call_eqF (show TT 92 = some (.code ⟨3,29,[.tmp 6],bd92,false⟩) from rfl) _ rfl).trans ?_
 show evK TT bd92 ⟨[(0,.d (.sl (cM cS a0))),(1,.d (.int .i64 a1)),(2,.d (.fn 97 [.ptr (GRealm.cells a2) 0]))],[]⟩ _ = _
 simp -implicitDefEqProofs (decide:=true) (maxSteps:=2000000) only [bd92,mrealm_fits_s4,↓e_mrealm_fits_s4_l1,↓k_mrealm_Check_4_s1,↓k_mrealm_named,↓DN,↓DR,DQ,DP,↓reduceIte,Int.reduceToNat,Nat.reduceBEq,Nat.reduceAdd,Nat.reduceLT,Nat.reduceLeDiff,Nat.reduceEqDiff,Int.reduceEq,ne_eq,not_false_eq_true,reduceCtorEq,specL,specO,specP,beq_self_eq_true,List.length_cons,List.length_nil,cM_length,Bool.not_true,Bool.not_false,if_true,if_false,List.replicate_succ,List.replicate_zero,dcells_len,Option.bind_some,none_bind,Option.map_some,Option.map_none,Sum.elim_inl,Sum.elim_inr,sized_cI,sized_cB,sized_cS,sized_cL,sized_cK,stepR_none,stepR_inl,stepR_inr,elim_stepR,stepR_ite,stepR_bind,ite_bind,ite_map,bind_map,elim_bind,elim_map,Option.bind_assoc]
 all_goals try simp only [gIf_eq]
 all_goals try rfl
theorem k_mrealm_fits_s4 {β:Type} (a0:List ByteArray) (a1:Int) (a2:GRealm) (d:Nat) (bl:List (Nat × Option Blk)) (fz:List (Nat × Option Blk)) (k:V→Option β) (kw:V→List (Nat × Option Blk)→Option β):callF TT d bl 92 [.sl (cM cS a0),.int .i64 a1,.fn 97 [.ptr (GRealm.cells a2) 0]] fz k kw = (mrealm_fits_s4 a0 a1 a2).bind fun (r:Int)=>k (.d (.int .i64 r)):=by
 have h:=c_mrealm_fits_s4 a0 a1 a2
 exact callF_flat h (fun _=>rfl) fz
theorem h_mrealm_usances_l1 (a0:GRealm) (p1:Int) (x2:GUsance) (p5:Int):evK TT b_mrealm_usances_l1 ⟨[(1,.ptr 1 0),(4,.ptr 4 0),(12,.d (.sl (cM GUsance.cells a0.Usances))),(13,.d (.int .i64 (a0.Usances.length:Int))),(14,.d (.int .i64 p1)),(48,.d (.sl (cM GUsance.cells (sliceL a0.Usances 0 p1)))),(49,.d (.int .i64 ((sliceL a0.Usances 0 p1).length:Int))),(50,.d (.int .i64 p5))],[(1,some (.box (dcells (GRealm.cells a0)))),(4,some (.box (dcells (GUsance.cells x2))))]⟩ (fun e s=>some (e,s)) = stepR (fun (w:Int)=>(⟨[(1,.ptr 1 0),(4,.ptr 4 0),(12,.d (.sl (cM GUsance.cells a0.Usances))),(13,.d (.int .i64 (a0.Usances.length:Int))),(14,.d (.int .i64 p1)),(48,.d (.sl (cM GUsance.cells (sliceL a0.Usances 0 p1)))),(49,.d (.int .i64 ((sliceL a0.Usances 0 p1).length:Int))),(50,.d (.int .i64 w))],[(1,some (.box (dcells (GRealm.cells a0)))),(4,some (.box (dcells (GUsance.cells x2))))]⟩ : St)) (fun (r:Unit ⊕ Unit)=>Sum.elim (fun (z:Unit)=>(((.exit 2),⟨[(1,.ptr 1 0),(12,.d (.sl (cM GUsance.cells a0.Usances))),(13,.d (.int .i64 (a0.Usances.length:Int))),(14,.d (.int .i64 p1))],[(1,some (.box (dcells (GRealm.cells a0))))]⟩):Ex × St)) (fun (z:Unit)=>((.ret,⟨[(2,.d (.int .i64 5))],[]⟩):Ex × St)) r) (mrealm_usances_l1_s a0 p1 x2 p5):=by
 simp -implicitDefEqProofs (decide:=true) (maxSteps:=2000000) only [b_mrealm_usances_l1,mrealm_usances_l1_s,↓k_mrealm_in,↓DN,↓DR,DQ,DP,↓reduceIte,Int.reduceToNat,Nat.reduceBEq,Nat.reduceAdd,Nat.reduceLT,Nat.reduceLeDiff,Nat.reduceEqDiff,Int.reduceEq,ne_eq,not_false_eq_true,reduceCtorEq,specL,specO,specP,beq_self_eq_true,List.length_cons,List.length_nil,cM_length,Bool.not_true,Bool.not_false,if_true,if_false,List.replicate_succ,List.replicate_zero,dcells_len,Option.bind_some,none_bind,Option.map_some,Option.map_none,Sum.elim_inl,Sum.elim_inr,sized_cI,sized_cB,sized_cS,sized_cL,sized_cK,stepR_none,stepR_inl,stepR_inr,elim_stepR,stepR_ite,stepR_bind,ite_bind,ite_map,bind_map,elim_bind,elim_map,Option.bind_assoc]
 all_goals try simp only [gIf_eq]
 all_goals try rfl
theorem e_mrealm_usances_l1 {β:Type} (a0:GRealm) (p1:Int) (x2:GUsance) (p5:Int) (k:Ex→St→Option β):evK TT c_mrealm_usances_l1 ⟨[(1,.ptr 1 0),(4,.ptr 4 0),(12,.d (.sl (cM GUsance.cells a0.Usances))),(13,.d (.int .i64 (a0.Usances.length:Int))),(14,.d (.int .i64 p1)),(48,.d (.sl (cM GUsance.cells (sliceL a0.Usances 0 p1)))),(49,.d (.int .i64 ((sliceL a0.Usances 0 p1).length:Int))),(50,.d (.int .i64 p5))],[(1,some (.box (dcells (GRealm.cells a0)))),(4,some (.box (dcells (GUsance.cells x2))))]⟩ k = (mrealm_usances_l1 a0 p1 x2 p5).bind (fun (r:Unit ⊕ Unit)=>Sum.elim (fun (z:Unit)=>k (.exit 2) ⟨[(1,.ptr 1 0),(12,.d (.sl (cM GUsance.cells a0.Usances))),(13,.d (.int .i64 (a0.Usances.length:Int))),(14,.d (.int .i64 p1))],[(1,some (.box (dcells (GRealm.cells a0))))]⟩) (fun (z:Unit)=>k .ret ⟨[(2,.d (.int .i64 5))],[]⟩) r):=by
 have hh:=fun (w:Int)=>h_mrealm_usances_l1 a0 p1 x2 w
 have h:=fun ho=>evK_loop (T:=TT) (k:=k) (c:=b_mrealm_usances_l1) (step:=(fun (w:Int)=>mrealm_usances_l1_s a0 p1 x2 w)) _ _ ho hh p5
 refine Eq.trans (h (fun r s e=>by have q:=congrArg Prod.fst e; rcases r with x | x <;> cases q)) ?_
 unfold mrealm_usances_l1
 exact bind_congr' _ fun x=>by rcases x with x | x <;> rfl
theorem h_mrealm_usances_l2 (a0:GRealm) (p1:Int):evK TT b_mrealm_usances_l2 ⟨[(1,.ptr 1 0),(12,.d (.sl (cM GUsance.cells a0.Usances))),(13,.d (.int .i64 (a0.Usances.length:Int))),(14,.d (.int .i64 p1))],[(1,some (.box (dcells (GRealm.cells a0))))]⟩ (fun e s=>some (e,s)) = stepR (fun (w:Int)=>(⟨[(1,.ptr 1 0),(12,.d (.sl (cM GUsance.cells a0.Usances))),(13,.d (.int .i64 (a0.Usances.length:Int))),(14,.d (.int .i64 w))],[(1,some (.box (dcells (GRealm.cells a0))))]⟩ : St)) (fun (r:Unit ⊕ Int)=>Sum.elim (fun (z:Unit)=>(((.exit 0),⟨[],[]⟩):Ex × St)) (fun (z:Int)=>((.ret,⟨[(2,.d (.int .i64 z))],[]⟩):Ex × St)) r) (mrealm_usances_l2_s a0 p1):=by
 simp -implicitDefEqProofs (decide:=true) (maxSteps:=2000000) only [b_mrealm_usances_l2,mrealm_usances_l2_s,↓e_mrealm_usances_l1,↓k_mrealm_in,↓DN,↓DR,DQ,DP,↓reduceIte,Int.reduceToNat,Nat.reduceBEq,Nat.reduceAdd,Nat.reduceLT,Nat.reduceLeDiff,Nat.reduceEqDiff,Int.reduceEq,ne_eq,not_false_eq_true,reduceCtorEq,specL,specO,specP,beq_self_eq_true,List.length_cons,List.length_nil,cM_length,Bool.not_true,Bool.not_false,if_true,if_false,List.replicate_succ,List.replicate_zero,dcells_len,Option.bind_some,none_bind,Option.map_some,Option.map_none,Sum.elim_inl,Sum.elim_inr,sized_cI,sized_cB,sized_cS,sized_cL,sized_cK,stepR_none,stepR_inl,stepR_inr,elim_stepR,stepR_ite,stepR_bind,ite_bind,ite_map,bind_map,elim_bind,elim_map,Option.bind_assoc]
 all_goals try simp only [gIf_eq]
 all_goals try rfl
theorem e_mrealm_usances_l2 {β:Type} (a0:GRealm) (p1:Int) (k:Ex→St→Option β):evK TT c_mrealm_usances_l2 ⟨[(1,.ptr 1 0),(12,.d (.sl (cM GUsance.cells a0.Usances))),(13,.d (.int .i64 (a0.Usances.length:Int))),(14,.d (.int .i64 p1))],[(1,some (.box (dcells (GRealm.cells a0))))]⟩ k = (mrealm_usances_l2 a0 p1).bind (fun (r:Unit ⊕ Int)=>Sum.elim (fun (z:Unit)=>k (.exit 0) ⟨[],[]⟩) (fun (z:Int)=>k .ret ⟨[(2,.d (.int .i64 z))],[]⟩) r):=by
 have hh:=fun (w:Int)=>h_mrealm_usances_l2 a0 w
 have h:=fun ho=>evK_loop (T:=TT) (k:=k) (c:=b_mrealm_usances_l2) (step:=(fun (w:Int)=>mrealm_usances_l2_s a0 w)) _ _ ho hh p1
 refine Eq.trans (h (fun r s e=>by have q:=congrArg Prod.fst e; rcases r with x | x <;> cases q)) ?_
 unfold mrealm_usances_l2
 exact bind_congr' _ fun x=>by rcases x with x | x <;> rfl
theorem c_mrealm_usances (a0:GRealm):Vm.call TT 99 [.agg (GRealm.cells a0)] = (mrealm_usances a0).map fun (r:Int)=>.int .i64 r:=by
 refine (call_eqF (show TT 99 = some (.code ⟨1,68,[.tmp 2],bd99,false⟩) from rfl) _ rfl).trans ?_
 show evK TT bd99 ⟨[(0,aggD (GRealm.cells a0))],[]⟩ _ = _
 simp -implicitDefEqProofs (decide:=true) (maxSteps:=2000000) only [bd99,mrealm_usances,↓e_mrealm_usances_l1,↓e_mrealm_usances_l2,↓k_mrealm_in,↓DN,↓DR,DQ,DP,↓reduceIte,Int.reduceToNat,Nat.reduceBEq,Nat.reduceAdd,Nat.reduceLT,Nat.reduceLeDiff,Nat.reduceEqDiff,Int.reduceEq,ne_eq,not_false_eq_true,reduceCtorEq,specL,specO,specP,beq_self_eq_true,List.length_cons,List.length_nil,cM_length,Bool.not_true,Bool.not_false,if_true,if_false,List.replicate_succ,List.replicate_zero,dcells_len,Option.bind_some,none_bind,Option.map_some,Option.map_none,Sum.elim_inl,Sum.elim_inr,sized_cI,sized_cB,sized_cS,sized_cL,sized_cK,stepR_none,stepR_inl,stepR_inr,elim_stepR,stepR_ite,stepR_bind,ite_bind,ite_map,bind_map,elim_bind,elim_map,Option.bind_assoc]
 all_goals try simp only [gIf_eq]
 all_goals try rfl
theorem k_mrealm_usances {β:Type} (a0:GRealm) (d:Nat) (bl:List (Nat × Option Blk)) (fz:List (Nat × Option Blk)) (k:V→Option β) (kw:V→List (Nat × Option Blk)→Option β):callF TT d bl 99 [.agg (GRealm.cells a0)] fz k kw = (mrealm_usances a0).bind fun (r:Int)=>k (.d (.int .i64 r)):=by
 have h:=c_mrealm_usances a0
 exact callF_flat h (fun _=>rfl) fz
theorem h_mrealm_rest_l1 (a0:GRealm) (p1:Int):evK TT b_mrealm_rest_l1 ⟨[(1,.ptr 1 0),(12,.d (.sl (cM GRate.cells a0.Rates))),(13,.d (.int .i64 (a0.Rates.length:Int))),(14,.d (.int .i64 p1))],[(1,some (.box (dcells (GRealm.cells a0))))]⟩ (fun e s=>some (e,s)) = stepR (fun (w:Int)=>(⟨[(1,.ptr 1 0),(12,.d (.sl (cM GRate.cells a0.Rates))),(13,.d (.int .i64 (a0.Rates.length:Int))),(14,.d (.int .i64 w))],[(1,some (.box (dcells (GRealm.cells a0))))]⟩ : St)) (fun (r:Unit ⊕ Unit)=>Sum.elim (fun (z:Unit)=>(((.exit 0),⟨[(1,.ptr 1 0)],[(1,some (.box (dcells (GRealm.cells a0))))]⟩):Ex × St)) (fun (z:Unit)=>((.ret,⟨[(2,.d (.int .i64 1))],[]⟩):Ex × St)) r) (mrealm_rest_l1_s a0 p1):=by
 simp -implicitDefEqProofs (decide:=true) (maxSteps:=2000000) only [b_mrealm_rest_l1,mrealm_rest_l1_s,↓k_mrealm_in,↓DN,↓DR,DQ,DP,↓reduceIte,Int.reduceToNat,Nat.reduceBEq,Nat.reduceAdd,Nat.reduceLT,Nat.reduceLeDiff,Nat.reduceEqDiff,Int.reduceEq,ne_eq,not_false_eq_true,reduceCtorEq,specL,specO,specP,beq_self_eq_true,List.length_cons,List.length_nil,cM_length,Bool.not_true,Bool.not_false,if_true,if_false,List.replicate_succ,List.replicate_zero,dcells_len,Option.bind_some,none_bind,Option.map_some,Option.map_none,Sum.elim_inl,Sum.elim_inr,sized_cI,sized_cB,sized_cS,sized_cL,sized_cK,stepR_none,stepR_inl,stepR_inr,elim_stepR,stepR_ite,stepR_bind,ite_bind,ite_map,bind_map,elim_bind,elim_map,Option.bind_assoc]
 all_goals try simp only [gIf_eq]
 all_goals try rfl
theorem e_mrealm_rest_l1 {β:Type} (a0:GRealm) (p1:Int) (k:Ex→St→Option β):evK TT c_mrealm_rest_l1 ⟨[(1,.ptr 1 0),(12,.d (.sl (cM GRate.cells a0.Rates))),(13,.d (.int .i64 (a0.Rates.length:Int))),(14,.d (.int .i64 p1))],[(1,some (.box (dcells (GRealm.cells a0))))]⟩ k = (mrealm_rest_l1 a0 p1).bind (fun (r:Unit ⊕ Unit)=>Sum.elim (fun (z:Unit)=>k (.exit 0) ⟨[(1,.ptr 1 0)],[(1,some (.box (dcells (GRealm.cells a0))))]⟩) (fun (z:Unit)=>k .ret ⟨[(2,.d (.int .i64 1))],[]⟩) r):=by
 have hh:=fun (w:Int)=>h_mrealm_rest_l1 a0 w
 have h:=fun ho=>evK_loop (T:=TT) (k:=k) (c:=b_mrealm_rest_l1) (step:=(fun (w:Int)=>mrealm_rest_l1_s a0 w)) _ _ ho hh p1
 refine Eq.trans (h (fun r s e=>by have q:=congrArg Prod.fst e; rcases r with x | x <;> cases q)) ?_
 unfold mrealm_rest_l1
 exact bind_congr' _ fun x=>by rcases x with x | x <;> rfl
theorem h_mrealm_rest_l2 (a0:GRealm) (p11:Int):evK TT b_mrealm_rest_l2 ⟨[(1,.ptr 1 0),(67,.d (.sl (cM GHalt.cells a0.Halts))),(68,.d (.int .i64 (a0.Halts.length:Int))),(69,.d (.int .i64 p11))],[(1,some (.box (dcells (GRealm.cells a0))))]⟩ (fun e s=>some (e,s)) = stepR (fun (w:Int)=>(⟨[(1,.ptr 1 0),(67,.d (.sl (cM GHalt.cells a0.Halts))),(68,.d (.int .i64 (a0.Halts.length:Int))),(69,.d (.int .i64 w))],[(1,some (.box (dcells (GRealm.cells a0))))]⟩ : St)) (fun (r:Unit ⊕ Unit)=>Sum.elim (fun (z:Unit)=>(((.exit 2),⟨[],[]⟩):Ex × St)) (fun (z:Unit)=>((.ret,⟨[(2,.d (.int .i64 1))],[]⟩):Ex × St)) r) (mrealm_rest_l2_s a0 p11):=by
 simp -implicitDefEqProofs (decide:=true) (maxSteps:=2000000) only [b_mrealm_rest_l2,mrealm_rest_l2_s,↓e_mrealm_rest_l1,↓k_mrealm_in,↓DN,↓DR,DQ,DP,↓reduceIte,Int.reduceToNat,Nat.reduceBEq,Nat.reduceAdd,Nat.reduceLT,Nat.reduceLeDiff,Nat.reduceEqDiff,Int.reduceEq,ne_eq,not_false_eq_true,reduceCtorEq,specL,specO,specP,beq_self_eq_true,List.length_cons,List.length_nil,cM_length,Bool.not_true,Bool.not_false,if_true,if_false,List.replicate_succ,List.replicate_zero,dcells_len,Option.bind_some,none_bind,Option.map_some,Option.map_none,Sum.elim_inl,Sum.elim_inr,sized_cI,sized_cB,sized_cS,sized_cL,sized_cK,stepR_none,stepR_inl,stepR_inr,elim_stepR,stepR_ite,stepR_bind,ite_bind,ite_map,bind_map,elim_bind,elim_map,Option.bind_assoc]
 all_goals try simp only [gIf_eq]
 all_goals try rfl
theorem e_mrealm_rest_l2 {β:Type} (a0:GRealm) (p11:Int) (k:Ex→St→Option β):evK TT c_mrealm_rest_l2 ⟨[(1,.ptr 1 0),(67,.d (.sl (cM GHalt.cells a0.Halts))),(68,.d (.int .i64 (a0.Halts.length:Int))),(69,.d (.int .i64 p11))],[(1,some (.box (dcells (GRealm.cells a0))))]⟩ k = (mrealm_rest_l2 a0 p11).bind (fun (r:Unit ⊕ Unit)=>Sum.elim (fun (z:Unit)=>k (.exit 2) ⟨[],[]⟩) (fun (z:Unit)=>k .ret ⟨[(2,.d (.int .i64 1))],[]⟩) r):=by
 have hh:=fun (w:Int)=>h_mrealm_rest_l2 a0 w
 have h:=fun ho=>evK_loop (T:=TT) (k:=k) (c:=b_mrealm_rest_l2) (step:=(fun (w:Int)=>mrealm_rest_l2_s a0 w)) _ _ ho hh p11
 refine Eq.trans (h (fun r s e=>by have q:=congrArg Prod.fst e; rcases r with x | x <;> cases q)) ?_
 unfold mrealm_rest_l2
 exact bind_congr' _ fun x=>by rcases x with x | x <;> rfl
theorem c_mrealm_rest (a0:GRealm):Vm.call TT 100 [.agg (GRealm.cells a0)] = (mrealm_rest a0).map fun (r:Int)=>.int .i64 r:=by
 refine (call_eqF (show TT 100 = some (.code ⟨1,98,[.tmp 2],bd100,false⟩) from rfl) _ rfl).trans ?_
 show evK TT bd100 ⟨[(0,aggD (GRealm.cells a0))],[]⟩ _ = _
 simp -implicitDefEqProofs (decide:=true) (maxSteps:=2000000) only [bd100,mrealm_rest,↓e_mrealm_rest_l1,↓e_mrealm_rest_l2,↓k_mrealm_in,↓DN,↓DR,DQ,DP,↓reduceIte,Int.reduceToNat,Nat.reduceBEq,Nat.reduceAdd,Nat.reduceLT,Nat.reduceLeDiff,Nat.reduceEqDiff,Int.reduceEq,ne_eq,not_false_eq_true,reduceCtorEq,specL,specO,specP,beq_self_eq_true,List.length_cons,List.length_nil,cM_length,Bool.not_true,Bool.not_false,if_true,if_false,List.replicate_succ,List.replicate_zero,dcells_len,Option.bind_some,none_bind,Option.map_some,Option.map_none,Sum.elim_inl,Sum.elim_inr,sized_cI,sized_cB,sized_cS,sized_cL,sized_cK,stepR_none,stepR_inl,stepR_inr,elim_stepR,stepR_ite,stepR_bind,ite_bind,ite_map,bind_map,elim_bind,elim_map,Option.bind_assoc]
 all_goals try simp only [gIf_eq]
 all_goals try rfl
theorem k_mrealm_rest {β:Type} (a0:GRealm) (d:Nat) (bl:List (Nat × Option Blk)) (fz:List (Nat × Option Blk)) (k:V→Option β) (kw:V→List (Nat × Option Blk)→Option β):callF TT d bl 100 [.agg (GRealm.cells a0)] fz k kw = (mrealm_rest a0).bind fun (r:Int)=>k (.d (.int .i64 r)):=by
 have h:=c_mrealm_rest a0
 exact callF_flat h (fun _=>rfl) fz
end Go.Proofs.Ytfhebiceipgdmaa
