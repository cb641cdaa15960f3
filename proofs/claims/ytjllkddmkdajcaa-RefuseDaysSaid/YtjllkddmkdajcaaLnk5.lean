/- The functions of the small machine compute the plain definitions. Printed by a program. -/
import Derived.Test.YtjllkddmkdajcaaLnk4
set_option linter.unusedVariables false
set_option linter.unusedSimpArgs false
namespace Go.Proofs.Ytjllkddmkdajcaa
open Vm
open Go.RowKit
set_option maxRecDepth 100000
set_option maxHeartbeats 4000000
attribute [local congr] condK_congr opsK_congr opsDK_congr valK_congr
theorem h_mallongeref09_Rising_l1 (a0:List Int) (a1:Int) (a2:Int) (p1:Int):evK TT b_mallongeref09_Rising_l1 ⟨[(0,.d (.sl (cM cI a0))),(1,.d (.int .i64 a1)),(2,.d (.int .i64 a2)),(7,.d (.int .i64 p1))],[]⟩ (fun e s=>some (e,s)) = stepR (fun (w:Int)=>(⟨[(0,.d (.sl (cM cI a0))),(1,.d (.int .i64 a1)),(2,.d (.int .i64 a2)),(7,.d (.int .i64 w))],[]⟩ : St)) (fun (r:Unit ⊕ Unit)=>Sum.elim (fun (z:Unit)=>(((.exit 0),⟨[],[]⟩):Ex × St)) (fun (z:Unit)=>((.ret,⟨[(6,.d (.bool false))],[]⟩):Ex × St)) r) (mallongeref09_Rising_l1_s a0 a1 a2 p1):=by
 simp -implicitDefEqProofs (decide:=true) (maxSteps:=2000000) only [b_mallongeref09_Rising_l1,mallongeref09_Rising_l1_s,↓k_mallongeref09_Within,↓DN,↓DR,DQ,DP,↓reduceIte,Int.reduceToNat,Nat.reduceBEq,Nat.reduceAdd,Nat.reduceLT,Nat.reduceLeDiff,Nat.reduceEqDiff,Int.reduceEq,reduceCtorEq,specL,specO,specP,beq_self_eq_true,List.length_cons,List.length_nil,cM_length,Bool.not_true,Bool.not_false,if_true,if_false,List.replicate_succ,List.replicate_zero,dcells_len,Option.bind_some,none_bind,Option.map_some,Option.map_none,Sum.elim_inl,Sum.elim_inr,sized_cI,sized_cB,sized_cS,sized_cL,sized_cK,stepR_none,stepR_inl,stepR_inr,elim_stepR,stepR_ite,stepR_bind,ite_bind,ite_map,bind_map,elim_bind,elim_map,Option.bind_assoc]
 all_goals try simp only [gIf_eq]
 all_goals try rfl
theorem e_mallongeref09_Rising_l1 {β:Type} (a0:List Int) (a1:Int) (a2:Int) (p1:Int) (k:Ex→St→Option β):evK TT c_mallongeref09_Rising_l1 ⟨[(0,.d (.sl (cM cI a0))),(1,.d (.int .i64 a1)),(2,.d (.int .i64 a2)),(7,.d (.int .i64 p1))],[]⟩ k = (mallongeref09_Rising_l1 a0 a1 a2 p1).bind (fun (r:Unit ⊕ Unit)=>Sum.elim (fun (z:Unit)=>k (.exit 0) ⟨[],[]⟩) (fun (z:Unit)=>k .ret ⟨[(6,.d (.bool false))],[]⟩) r):=by
 have hh:=fun (w:Int)=>h_mallongeref09_Rising_l1 a0 a1 a2 w
 have h:=fun ho=>evK_loop (T:=TT) (k:=k) (c:=b_mallongeref09_Rising_l1) (step:=(fun (w:Int)=>mallongeref09_Rising_l1_s a0 a1 a2 w)) _ _ ho hh p1
 refine Eq.trans (h (fun r s e=>by have q:=congrArg Prod.fst e; rcases r with x | x <;> cases q)) ?_
 unfold mallongeref09_Rising_l1
 exact bind_congr' _ fun x=>by rcases x with x | x <;> rfl
theorem c_mallongeref09_Rising (a0:List Int) (a1:Int) (a2:Int):Vm.call TT 115 [.sl (cM cI a0),.int .i64 a1,.int .i64 a2] = (mallongeref09_Rising a0 a1 a2).map fun (r:Bool)=>.bool r:=by
 refine (call_eqF (show TT 115 = some (.code ⟨3,36,[.tmp 6],bd115,false⟩) from rfl) _ rfl).trans ?_
 show evK TT bd115 ⟨[(0,.d (.sl (cM cI a0))),(1,.d (.int .i64 a1)),(2,.d (.int .i64 a2))],[]⟩ _ = _
 simp -implicitDefEqProofs (decide:=true) (maxSteps:=2000000) only [bd115,mallongeref09_Rising,↓e_mallongeref09_Rising_l1,↓k_mallongeref09_Within,↓DN,↓DR,DQ,DP,↓reduceIte,Int.reduceToNat,Nat.reduceBEq,Nat.reduceAdd,Nat.reduceLT,Nat.reduceLeDiff,Nat.reduceEqDiff,Int.reduceEq,reduceCtorEq,specL,specO,specP,beq_self_eq_true,List.length_cons,List.length_nil,cM_length,Bool.not_true,Bool.not_false,if_true,if_false,List.replicate_succ,List.replicate_zero,dcells_len,Option.bind_some,none_bind,Option.map_some,Option.map_none,Sum.elim_inl,Sum.elim_inr,sized_cI,sized_cB,sized_cS,sized_cL,sized_cK,stepR_none,stepR_inl,stepR_inr,elim_stepR,stepR_ite,stepR_bind,ite_bind,ite_map,bind_map,elim_bind,elim_map,Option.bind_assoc]
 all_goals try simp only [gIf_eq]
 all_goals try rfl
theorem k_mallongeref09_Rising {β:Type} (a0:List Int) (a1:Int) (a2:Int) (d:Nat) (bl:List (Nat × Option Blk)) (fz:List (Nat × Option Blk)) (k:V→Option β) (kw:V→List (Nat × Option Blk)→Option β):callF TT d bl 115 [.sl (cM cI a0),.int .i64 a1,.int .i64 a2] fz k kw = (mallongeref09_Rising a0 a1 a2).bind fun (r:Bool)=>k (.d (.bool r)):=by
 have h:=c_mallongeref09_Rising a0 a1 a2
 exact callF_flat h (fun _=>rfl) fz
theorem h_mallongeref09_RightCity_l1 (a1:GCity) (p3:Int):evK TT b_mallongeref09_RightCity_l1 ⟨[(3,.ptr 3 0),(5,.d (.int .i64 p3))],[(3,some (.box (dcells (GCity.cells a1))))]⟩ (fun e s=>some (e,s)) = stepR (fun (w:Int)=>(⟨[(3,.ptr 3 0),(5,.d (.int .i64 w))],[(3,some (.box (dcells (GCity.cells a1))))]⟩ : St)) (fun (r:Unit ⊕ Unit)=>Sum.elim (fun (z:Unit)=>(((.exit 0),⟨[(3,.ptr 3 0)],[(3,some (.box (dcells (GCity.cells a1))))]⟩):Ex × St)) (fun (z:Unit)=>((.ret,⟨[(4,.d (.bool false))],[]⟩):Ex × St)) r) (mallongeref09_RightCity_l1_s a1 p3):=by
 simp -implicitDefEqProofs (decide:=true) (maxSteps:=2000000) only [b_mallongeref09_RightCity_l1,mallongeref09_RightCity_l1_s,↓k_mallongeref09_Within,↓k_mallongeref09_Rising,↓DN,↓DR,DQ,DP,↓reduceIte,Int.reduceToNat,Nat.reduceBEq,Nat.reduceAdd,Nat.reduceLT,Nat.reduceLeDiff,Nat.reduceEqDiff,Int.reduceEq,reduceCtorEq,specL,specO,specP,beq_self_eq_true,List.length_cons,List.length_nil,cM_length,Bool.not_true,Bool.not_false,if_true,if_false,List.replicate_succ,List.replicate_zero,dcells_len,Option.bind_some,none_bind,Option.map_some,Option.map_none,Sum.elim_inl,Sum.elim_inr,sized_cI,sized_cB,sized_cS,sized_cL,sized_cK,stepR_none,stepR_inl,stepR_inr,elim_stepR,stepR_ite,stepR_bind,ite_bind,ite_map,bind_map,elim_bind,elim_map,Option.bind_assoc]
 all_goals try simp only [gIf_eq]
 all_goals try rfl
theorem e_mallongeref09_RightCity_l1 {β:Type} (a1:GCity) (p3:Int) (k:Ex→St→Option β):evK TT c_mallongeref09_RightCity_l1 ⟨[(3,.ptr 3 0),(5,.d (.int .i64 p3))],[(3,some (.box (dcells (GCity.cells a1))))]⟩ k = (mallongeref09_RightCity_l1 a1 p3).bind (fun (r:Unit ⊕ Unit)=>Sum.elim (fun (z:Unit)=>k (.exit 0) ⟨[(3,.ptr 3 0)],[(3,some (.box (dcells (GCity.cells a1))))]⟩) (fun (z:Unit)=>k .ret ⟨[(4,.d (.bool false))],[]⟩) r):=by
 have hh:=fun (w:Int)=>h_mallongeref09_RightCity_l1 a1 w
 have h:=fun ho=>evK_loop (T:=TT) (k:=k) (c:=b_mallongeref09_RightCity_l1) (step:=(fun (w:Int)=>mallongeref09_RightCity_l1_s a1 w)) _ _ ho hh p3
 refine Eq.trans (h (fun r s e=>by have q:=congrArg Prod.fst e; rcases r with x | x <;> cases q)) ?_
 unfold mallongeref09_RightCity_l1
 exact bind_congr' _ fun x=>by rcases x with x | x <;> rfl
theorem c_mallongeref09_RightCity (a0:GRealm) (a1:GCity):Vm.call TT 102 [.agg (GRealm.cells a0),.agg (GCity.cells a1)] = (mallongeref09_RightCity a0 a1).map fun (r:Bool)=>.bool r:=by
 refine (call_eqF (show TT 102 = some (.code ⟨2,74,[.tmp 4],bd102,false⟩) from rfl) _ rfl).trans ?_
 show evK TT bd102 ⟨[(0,aggD (GRealm.cells a0)),(1,aggD (GCity.cells a1))],[]⟩ _ = _
 simp -implicitDefEqProofs (decide:=true) (maxSteps:=2000000) only [bd102,mallongeref09_RightCity,↓e_mallongeref09_RightCity_l1,↓k_mallongeref09_Within,↓k_mallongeref09_Rising,↓DN,↓DR,DQ,DP,↓reduceIte,Int.reduceToNat,Nat.reduceBEq,Nat.reduceAdd,Nat.reduceLT,Nat.reduceLeDiff,Nat.reduceEqDiff,Int.reduceEq,reduceCtorEq,specL,specO,specP,beq_self_eq_true,List.length_cons,List.length_nil,cM_length,Bool.not_true,Bool.not_false,if_true,if_false,List.replicate_succ,List.replicate_zero,dcells_len,Option.bind_some,none_bind,Option.map_some,Option.map_none,Sum.elim_inl,Sum.elim_inr,sized_cI,sized_cB,sized_cS,sized_cL,sized_cK,stepR_none,stepR_inl,stepR_inr,elim_stepR,stepR_ite,stepR_bind,ite_bind,ite_map,bind_map,elim_bind,elim_map,Option.bind_assoc]
 all_goals try simp only [gIf_eq]
 all_goals try rfl
theorem k_mallongeref09_RightCity {β:Type} (a0:GRealm) (a1:GCity) (d:Nat) (bl:List (Nat × Option Blk)) (fz:List (Nat × Option Blk)) (k:V→Option β) (kw:V→List (Nat × Option Blk)→Option β):callF TT d bl 102 [.agg (GRealm.cells a0),.agg (GCity.cells a1)] fz k kw = (mallongeref09_RightCity a0 a1).bind fun (r:Bool)=>k (.d (.bool r)):=by
 have h:=c_mallongeref09_RightCity a0 a1
 exact callF_flat h (fun _=>rfl) fz
theorem h_mallongeref09_cities_l1 (a0:GRealm) (p1:Int):evK TT b_mallongeref09_cities_l1 ⟨[(1,.ptr 1 0),(3,.d (.int .i64 p1))],[(1,some (.box (dcells (GRealm.cells a0))))]⟩ (fun e s=>some (e,s)) = stepR (fun (w:Int)=>(⟨[(1,.ptr 1 0),(3,.d (.int .i64 w))],[(1,some (.box (dcells (GRealm.cells a0))))]⟩ : St)) (fun (r:Unit ⊕ Int)=>Sum.elim (fun (z:Unit)=>(((.exit 0),⟨[(1,.ptr 1 0)],[(1,some (.box (dcells (GRealm.cells a0))))]⟩):Ex × St)) (fun (z:Int)=>((.ret,⟨[(2,.d (.int .i64 z))],[]⟩):Ex × St)) r) (mallongeref09_cities_l1_s a0 p1):=by
 simp -implicitDefEqProofs (decide:=true) (maxSteps:=2000000) only [b_mallongeref09_cities_l1,mallongeref09_cities_l1_s,↓k_mallongeref09_named,↓k_mallongeref09_RightCity,↓DN,↓DR,DQ,DP,↓reduceIte,Int.reduceToNat,Nat.reduceBEq,Nat.reduceAdd,Nat.reduceLT,Nat.reduceLeDiff,Nat.reduceEqDiff,Int.reduceEq,reduceCtorEq,specL,specO,specP,beq_self_eq_true,List.length_cons,List.length_nil,cM_length,Bool.not_true,Bool.not_false,if_true,if_false,List.replicate_succ,List.replicate_zero,dcells_len,Option.bind_some,none_bind,Option.map_some,Option.map_none,Sum.elim_inl,Sum.elim_inr,sized_cI,sized_cB,sized_cS,sized_cL,sized_cK,stepR_none,stepR_inl,stepR_inr,elim_stepR,stepR_ite,stepR_bind,ite_bind,ite_map,bind_map,elim_bind,elim_map,Option.bind_assoc]
 all_goals try simp only [gIf_eq]
 all_goals try rfl
theorem e_mallongeref09_cities_l1 {β:Type} (a0:GRealm) (p1:Int) (k:Ex→St→Option β):evK TT c_mallongeref09_cities_l1 ⟨[(1,.ptr 1 0),(3,.d (.int .i64 p1))],[(1,some (.box (dcells (GRealm.cells a0))))]⟩ k = (mallongeref09_cities_l1 a0 p1).bind (fun (r:Unit ⊕ Int)=>Sum.elim (fun (z:Unit)=>k (.exit 0) ⟨[(1,.ptr 1 0)],[(1,some (.box (dcells (GRealm.cells a0))))]⟩) (fun (z:Int)=>k .ret ⟨[(2,.d (.int .i64 z))],[]⟩) r):=by
 have hh:=fun (w:Int)=>h_mallongeref09_cities_l1 a0 w
 have h:=fun ho=>evK_loop (T:=TT) (k:=k) (c:=b_mallongeref09_cities_l1) (step:=(fun (w:Int)=>mallongeref09_cities_l1_s a0 w)) _ _ ho hh p1
 refine Eq.trans (h (fun r s e=>by have q:=congrArg Prod.fst e; rcases r with x | x <;> cases q)) ?_
 unfold mallongeref09_cities_l1
 exact bind_congr' _ fun x=>by rcases x with x | x <;> rfl
theorem h_mallongeref09_cities_l2 (a0:GRealm) (p7:Int) (p8:List ByteArray):evK TT b_mallongeref09_cities_l2 ⟨[(1,.ptr 1 0),(5,.own 45 0),(6,.d (.int .i64 p7))],[(1,some (.box (dcells (GRealm.cells a0)))),(45,some (.rows 0 9 1 (cM cS p8)))]⟩ (fun e s=>some (e,s)) = stepR (fun (w:Int × (List ByteArray))=>(⟨[(1,.ptr 1 0),(5,.own 45 0),(6,.d (.int .i64 w.1))],[(1,some (.box (dcells (GRealm.cells a0)))),(45,some (.rows 0 9 1 (cM cS w.2)))]⟩ : St)) (fun (r:Unit ⊕ Int)=>Sum.elim (fun (z:Unit)=>(((.exit 2),⟨[],[]⟩):Ex × St)) (fun (z:Int)=>((.ret,⟨[(2,.d (.int .i64 z))],[]⟩):Ex × St)) r) (mallongeref09_cities_l2_s a0 p7 p8):=by
 simp -implicitDefEqProofs (decide:=true) (maxSteps:=2000000) only [b_mallongeref09_cities_l2,mallongeref09_cities_l2_s,↓e_mallongeref09_cities_l1,↓k_mallongeref09_named,↓k_mallongeref09_RightCity,↓DN,↓DR,DQ,DP,↓reduceIte,Int.reduceToNat,Nat.reduceBEq,Nat.reduceAdd,Nat.reduceLT,Nat.reduceLeDiff,Nat.reduceEqDiff,Int.reduceEq,reduceCtorEq,specL,specO,specP,beq_self_eq_true,List.length_cons,List.length_nil,cM_length,Bool.not_true,Bool.not_false,if_true,if_false,List.replicate_succ,List.replicate_zero,dcells_len,Option.bind_some,none_bind,Option.map_some,Option.map_none,Sum.elim_inl,Sum.elim_inr,sized_cI,sized_cB,sized_cS,sized_cL,sized_cK,stepR_none,stepR_inl,stepR_inr,elim_stepR,stepR_ite,stepR_bind,ite_bind,ite_map,bind_map,elim_bind,elim_map,Option.bind_assoc]
 all_goals try simp only [gIf_eq]
 all_goals try rfl
theorem e_mallongeref09_cities_l2 {β:Type} (a0:GRealm) (p7:Int) (p8:List ByteArray) (k:Ex→St→Option β):evK TT c_mallongeref09_cities_l2 ⟨[(1,.ptr 1 0),(5,.own 45 0),(6,.d (.int .i64 p7))],[(1,some (.box (dcells (GRealm.cells a0)))),(45,some (.rows 0 9 1 (cM cS p8)))]⟩ k = (mallongeref09_cities_l2 a0 p7 p8).bind (fun (r:Unit ⊕ Int)=>Sum.elim (fun (z:Unit)=>k (.exit 2) ⟨[],[]⟩) (fun (z:Int)=>k .ret ⟨[(2,.d (.int .i64 z))],[]⟩) r):=by
 have hh:=fun (w:Int × (List ByteArray))=>h_mallongeref09_cities_l2 a0 w.1 w.2
 have h:=fun ho=>evK_loop (T:=TT) (k:=k) (c:=b_mallongeref09_cities_l2) (step:=(fun (w:Int × (List ByteArray))=>mallongeref09_cities_l2_s a0 w.1 w.2)) _ _ ho hh (p7,p8)
 refine Eq.trans (h (fun r s e=>by have q:=congrArg Prod.fst e; rcases r with x | x <;> cases q)) ?_
 unfold mallongeref09_cities_l2
 exact bind_congr' _ fun x=>by rcases x with x | x <;> rfl
theorem c_mallongeref09_cities (a0:GRealm):Vm.call TT 81 [.agg (GRealm.cells a0)] = (mallongeref09_cities a0).map fun (r:Int)=>.int .i64 r:=by
 refine (call_eqF (show TT 81 = some (.code ⟨1,60,[.tmp 2],bd81,false⟩) from rfl) _ rfl).trans ?_
 show evK TT bd81 ⟨[(0,aggD (GRealm.cells a0))],[]⟩ _ = _
 simp -implicitDefEqProofs (decide:=true) (maxSteps:=2000000) only [bd81,mallongeref09_cities,↓e_mallongeref09_cities_l1,↓e_mallongeref09_cities_l2,↓k_mallongeref09_named,↓k_mallongeref09_RightCity,↓DN,↓DR,DQ,DP,↓reduceIte,Int.reduceToNat,Nat.reduceBEq,Nat.reduceAdd,Nat.reduceLT,Nat.reduceLeDiff,Nat.reduceEqDiff,Int.reduceEq,reduceCtorEq,specL,specO,specP,beq_self_eq_true,List.length_cons,List.length_nil,cM_length,Bool.not_true,Bool.not_false,if_true,if_false,List.replicate_succ,List.replicate_zero,dcells_len,Option.bind_some,none_bind,Option.map_some,Option.map_none,Sum.elim_inl,Sum.elim_inr,sized_cI,sized_cB,sized_cS,sized_cL,sized_cK,stepR_none,stepR_inl,stepR_inr,elim_stepR,stepR_ite,stepR_bind,ite_bind,ite_map,bind_map,elim_bind,elim_map,Option.bind_assoc]
 all_goals try simp only [gIf_eq]
 all_goals try rfl
theorem k_mallongeref09_cities {β:Type} (a0:GRealm) (d:Nat) (bl:List (Nat × Option Blk)) (fz:List (Nat × Option Blk)) (k:V→Option β) (kw:V→List (Nat × Option Blk)→Option β):callF TT d bl 81 [.agg (GRealm.cells a0)] fz k kw = (mallongeref09_cities a0).bind fun (r:Int)=>k (.d (.int .i64 r)):=by
 have h:=c_mallongeref09_cities a0
 exact callF_flat h (fun _=>rfl) fz
theorem h_mallongeref09_firms_l1 (a0:GRealm) (p1:Int):evK TT b_mallongeref09_firms_l1 ⟨[(1,.ptr 1 0),(3,.d (.int .i64 p1))],[(1,some (.box (dcells (GRealm.cells a0))))]⟩ (fun e s=>some (e,s)) = stepR (fun (w:Int)=>(⟨[(1,.ptr 1 0),(3,.d (.int .i64 w))],[(1,some (.box (dcells (GRealm.cells a0))))]⟩ : St)) (fun (r:Unit ⊕ Unit)=>Sum.elim (fun (z:Unit)=>(((.exit 0),⟨[(1,.ptr 1 0)],[(1,some (.box (dcells (GRealm.cells a0))))]⟩):Ex × St)) (fun (z:Unit)=>((.ret,⟨[(2,.d (.int .i64 1))],[]⟩):Ex × St)) r) (mallongeref09_firms_l1_s a0 p1):=by
 simp -implicitDefEqProofs (decide:=true) (maxSteps:=2000000) only [b_mallongeref09_firms_l1,mallongeref09_firms_l1_s,↓k_mallongeref09_Within,↓k_mallongeref09_named,↓DN,↓DR,DQ,DP,↓reduceIte,Int.reduceToNat,Nat.reduceBEq,Nat.reduceAdd,Nat.reduceLT,Nat.reduceLeDiff,Nat.reduceEqDiff,Int.reduceEq,reduceCtorEq,specL,specO,specP,beq_self_eq_true,List.length_cons,List.length_nil,cM_length,Bool.not_true,Bool.not_false,if_true,if_false,List.replicate_succ,List.replicate_zero,dcells_len,Option.bind_some,none_bind,Option.map_some,Option.map_none,Sum.elim_inl,Sum.elim_inr,sized_cI,sized_cB,sized_cS,sized_cL,sized_cK,stepR_none,stepR_inl,stepR_inr,elim_stepR,stepR_ite,stepR_bind,ite_bind,ite_map,bind_map,elim_bind,elim_map,Option.bind_assoc]
 all_goals try simp only [gIf_eq]
 all_goals try rfl
theorem e_mallongeref09_firms_l1 {β:Type} (a0:GRealm) (p1:Int) (k:Ex→St→Option β):evK TT c_mallongeref09_firms_l1 ⟨[(1,.ptr 1 0),(3,.d (.int .i64 p1))],[(1,some (.box (dcells (GRealm.cells a0))))]⟩ k = (mallongeref09_firms_l1 a0 p1).bind (fun (r:Unit ⊕ Unit)=>Sum.elim (fun (z:Unit)=>k (.exit 0) ⟨[(1,.ptr 1 0)],[(1,some (.box (dcells (GRealm.cells a0))))]⟩) (fun (z:Unit)=>k .ret ⟨[(2,.d (.int .i64 1))],[]⟩) r):=by
 have hh:=fun (w:Int)=>h_mallongeref09_firms_l1 a0 w
 have h:=fun ho=>evK_loop (T:=TT) (k:=k) (c:=b_mallongeref09_firms_l1) (step:=(fun (w:Int)=>mallongeref09_firms_l1_s a0 w)) _ _ ho hh p1
 refine Eq.trans (h (fun r s e=>by have q:=congrArg Prod.fst e; rcases r with x | x <;> cases q)) ?_
 unfold mallongeref09_firms_l1
 exact bind_congr' _ fun x=>by rcases x with x | x <;> rfl
theorem h_mallongeref09_firms_l2 (a0:GRealm) (p7:Int) (p8:List ByteArray):evK TT b_mallongeref09_firms_l2 ⟨[(1,.ptr 1 0),(4,.own 45 0),(5,.d (.int .i64 p7))],[(1,some (.box (dcells (GRealm.cells a0)))),(45,some (.rows 0 9 1 (cM cS p8)))]⟩ (fun e s=>some (e,s)) = stepR (fun (w:Int × (List ByteArray))=>(⟨[(1,.ptr 1 0),(4,.own 45 0),(5,.d (.int .i64 w.1))],[(1,some (.box (dcells (GRealm.cells a0)))),(45,some (.rows 0 9 1 (cM cS w.2)))]⟩ : St)) (fun (r:Unit ⊕ Int)=>Sum.elim (fun (z:Unit)=>(((.exit 2),⟨[],[]⟩):Ex × St)) (fun (z:Int)=>((.ret,⟨[(2,.d (.int .i64 z))],[]⟩):Ex × St)) r) (mallongeref09_firms_l2_s a0 p7 p8):=by
 simp -implicitDefEqProofs (decide:=true) (maxSteps:=2000000) only [b_mallongeref09_firms_l2,mallongeref09_firms_l2_s,↓e_mallongeref09_firms_l1,↓k_mallongeref09_Within,↓k_mallongeref09_named,↓DN,↓DR,DQ,DP,↓reduceIte,Int.reduceToNat,Nat.reduceBEq,Nat.reduceAdd,Nat.reduceLT,Nat.reduceLeDiff,Nat.reduceEqDiff,Int.reduceEq,reduceCtorEq,specL,specO,specP,beq_self_eq_true,List.length_cons,List.length_nil,cM_length,Bool.not_true,Bool.not_false,if_true,if_false,List.replicate_succ,List.replicate_zero,dcells_len,Option.bind_some,none_bind,Option.map_some,Option.map_none,Sum.elim_inl,Sum.elim_inr,sized_cI,sized_cB,sized_cS,sized_cL,sized_cK,stepR_none,stepR_inl,stepR_inr,elim_stepR,stepR_ite,stepR_bind,ite_bind,ite_map,bind_map,elim_bind,elim_map,Option.bind_assoc]
 all_goals try simp only [gIf_eq]
 all_goals try rfl
theorem e_mallongeref09_firms_l2 {β:Type} (a0:GRealm) (p7:Int) (p8:List ByteArray) (k:Ex→St→Option β):evK TT c_mallongeref09_firms_l2 ⟨[(1,.ptr 1 0),(4,.own 45 0),(5,.d (.int .i64 p7))],[(1,some (.box (dcells (GRealm.cells a0)))),(45,some (.rows 0 9 1 (cM cS p8)))]⟩ k = (mallongeref09_firms_l2 a0 p7 p8).bind (fun (r:Unit ⊕ Int)=>Sum.elim (fun (z:Unit)=>k (.exit 2) ⟨[],[]⟩) (fun (z:Int)=>k .ret ⟨[(2,.d (.int .i64 z))],[]⟩) r):=by
 have hh:=fun (w:Int × (List ByteArray))=>h_mallongeref09_firms_l2 a0 w.1 w.2
 have h:=fun ho=>evK_loop (T:=TT) (k:=k) (c:=b_mallongeref09_firms_l2) (step:=(fun (w:Int × (List ByteArray))=>mallongeref09_firms_l2_s a0 w.1 w.2)) _ _ ho hh (p7,p8)
 refine Eq.trans (h (fun r s e=>by have q:=congrArg Prod.fst e; rcases r with x | x <;> cases q)) ?_
 unfold mallongeref09_firms_l2
 exact bind_congr' _ fun x=>by rcases x with x | x <;> rfl
theorem c_mallongeref09_firms (a0:GRealm):Vm.call TT 82 [.agg (GRealm.cells a0)] = (mallongeref09_firms a0).map fun (r:Int)=>.int .i64 r:=by
 refine (call_eqF (show TT 82 = some (.code ⟨1,78,[.tmp 2],bd82,false⟩) from rfl) _ rfl).trans ?_
 show evK TT bd82 ⟨[(0,aggD (GRealm.cells a0))],[]⟩ _ = _
 simp -implicitDefEqProofs (decide:=true) (maxSteps:=2000000) only [bd82,mallongeref09_firms,↓e_mallongeref09_firms_l1,↓e_mallongeref09_firms_l2,↓k_mallongeref09_Within,↓k_mallongeref09_named,↓DN,↓DR,DQ,DP,↓reduceIte,Int.reduceToNat,Nat.reduceBEq,Nat.reduceAdd,Nat.reduceLT,Nat.reduceLeDiff,Nat.reduceEqDiff,Int.reduceEq,reduceCtorEq,specL,specO,specP,beq_self_eq_true,List.length_cons,List.length_nil,cM_length,Bool.not_true,Bool.not_false,if_true,if_false,List.replicate_succ,List.replicate_zero,dcells_len,Option.bind_some,none_bind,Option.map_some,Option.map_none,Sum.elim_inl,Sum.elim_inr,sized_cI,sized_cB,sized_cS,sized_cL,sized_cK,stepR_none,stepR_inl,stepR_inr,elim_stepR,stepR_ite,stepR_bind,ite_bind,ite_map,bind_map,elim_bind,elim_map,Option.bind_assoc]
 all_goals try simp only [gIf_eq]
 all_goals try rfl
theorem k_mallongeref09_firms {β:Type} (a0:GRealm) (d:Nat) (bl:List (Nat × Option Blk)) (fz:List (Nat × Option Blk)) (k:V→Option β) (kw:V→List (Nat × Option Blk)→Option β):callF TT d bl 82 [.agg (GRealm.cells a0)] fz k kw = (mallongeref09_firms a0).bind fun (r:Int)=>k (.d (.int .i64 r)):=by
 have h:=c_mallongeref09_firms a0
 exact callF_flat h (fun _=>rfl) fz
theorem h_mallongeref09_RightOrder_l1 (a0:GOrder) (p1:Int):evK TT b_mallongeref09_RightOrder_l1 ⟨[(1,.ptr 1 0),(3,.d (.int .i64 p1))],[(1,some (.box (dcells (GOrder.cells a0))))]⟩ (fun e s=>some (e,s)) = stepR (fun (w:Int)=>(⟨[(1,.ptr 1 0),(3,.d (.int .i64 w))],[(1,some (.box (dcells (GOrder.cells a0))))]⟩ : St)) (fun (r:Unit ⊕ Unit)=>Sum.elim (fun (z:Unit)=>(((.exit 0),⟨[(1,.ptr 1 0)],[(1,some (.box (dcells (GOrder.cells a0))))]⟩):Ex × St)) (fun (z:Unit)=>((.ret,⟨[(2,.d (.bool false))],[]⟩):Ex × St)) r) (mallongeref09_RightOrder_l1_s a0 p1):=by
 simp -implicitDefEqProofs (decide:=true) (maxSteps:=2000000) only [b_mallongeref09_RightOrder_l1,mallongeref09_RightOrder_l1_s,↓k_mallongeref09_Within,↓DN,↓DR,DQ,DP,↓reduceIte,Int.reduceToNat,Nat.reduceBEq,Nat.reduceAdd,Nat.reduceLT,Nat.reduceLeDiff,Nat.reduceEqDiff,Int.reduceEq,reduceCtorEq,specL,specO,specP,beq_self_eq_true,List.length_cons,List.length_nil,cM_length,Bool.not_true,Bool.not_false,if_true,if_false,List.replicate_succ,List.replicate_zero,dcells_len,Option.bind_some,none_bind,Option.map_some,Option.map_none,Sum.elim_inl,Sum.elim_inr,sized_cI,sized_cB,sized_cS,sized_cL,sized_cK,stepR_none,stepR_inl,stepR_inr,elim_stepR,stepR_ite,stepR_bind,ite_bind,ite_map,bind_map,elim_bind,elim_map,Option.bind_assoc]
 all_goals try simp only [gIf_eq]
 all_goals try rfl
theorem e_mallongeref09_RightOrder_l1 {β:Type} (a0:GOrder) (p1:Int) (k:Ex→St→Option β):evK TT c_mallongeref09_RightOrder_l1 ⟨[(1,.ptr 1 0),(3,.d (.int .i64 p1))],[(1,some (.box (dcells (GOrder.cells a0))))]⟩ k = (mallongeref09_RightOrder_l1 a0 p1).bind (fun (r:Unit ⊕ Unit)=>Sum.elim (fun (z:Unit)=>k (.exit 0) ⟨[(1,.ptr 1 0)],[(1,some (.box (dcells (GOrder.cells a0))))]⟩) (fun (z:Unit)=>k .ret ⟨[(2,.d (.bool false))],[]⟩) r):=by
 have hh:=fun (w:Int)=>h_mallongeref09_RightOrder_l1 a0 w
 have h:=fun ho=>evK_loop (T:=TT) (k:=k) (c:=b_mallongeref09_RightOrder_l1) (step:=(fun (w:Int)=>mallongeref09_RightOrder_l1_s a0 w)) _ _ ho hh p1
 refine Eq.trans (h (fun r s e=>by have q:=congrArg Prod.fst e; rcases r with x | x <;> cases q)) ?_
 unfold mallongeref09_RightOrder_l1
 exact bind_congr' _ fun x=>by rcases x with x | x <;> rfl
theorem h_mallongeref09_RightOrder_l2 (a0:GOrder) (p11:Int):evK TT b_mallongeref09_RightOrder_l2 ⟨[(1,.ptr 1 0),(4,.d (.int .i64 p11))],[(1,some (.box (dcells (GOrder.cells a0))))]⟩ (fun e s=>some (e,s)) = stepR (fun (w:Int)=>(⟨[(1,.ptr 1 0),(4,.d (.int .i64 w))],[(1,some (.box (dcells (GOrder.cells a0))))]⟩ : St)) (fun (r:Unit ⊕ Unit)=>Sum.elim (fun (z:Unit)=>(((.exit 2),⟨[],[]⟩):Ex × St)) (fun (z:Unit)=>((.ret,⟨[(2,.d (.bool false))],[]⟩):Ex × St)) r) (mallongeref09_RightOrder_l2_s a0 p11):=by
 simp -implicitDefEqProofs (decide:=true) (maxSteps:=2000000) only [b_mallongeref09_RightOrder_l2,mallongeref09_RightOrder_l2_s,↓e_mallongeref09_RightOrder_l1,↓k_mallongeref09_Within,↓DN,↓DR,DQ,DP,↓reduceIte,Int.reduceToNat,Nat.reduceBEq,Nat.reduceAdd,Nat.reduceLT,Nat.reduceLeDiff,Nat.reduceEqDiff,Int.reduceEq,reduceCtorEq,specL,specO,specP,beq_self_eq_true,List.length_cons,List.length_nil,cM_length,Bool.not_true,Bool.not_false,if_true,if_false,List.replicate_succ,List.replicate_zero,dcells_len,Option.bind_some,none_bind,Option.map_some,Option.map_none,Sum.elim_inl,Sum.elim_inr,sized_cI,sized_cB,sized_cS,sized_cL,sized_cK,stepR_none,stepR_inl,stepR_inr,elim_stepR,stepR_ite,stepR_bind,ite_bind,ite_map,bind_map,elim_bind,elim_map,Option.bind_assoc]
 all_goals try simp only [gIf_eq]
 all_goals try rfl
theorem e_mallongeref09_RightOrder_l2 {β:Type} (a0:GOrder) (p11:Int) (k:Ex→St→Option β):evK TT c_mallongeref09_RightOrder_l2 ⟨[(1,.ptr 1 0),(4,.d (.int .i64 p11))],[(1,some (.box (dcells (GOrder.cells a0))))]⟩ k = (mallongeref09_RightOrder_l2 a0 p11).bind (fun (r:Unit ⊕ Unit)=>Sum.elim (fun (z:Unit)=>k (.exit 2) ⟨[],[]⟩) (fun (z:Unit)=>k .ret ⟨[(2,.d (.bool false))],[]⟩) r):=by
 have hh:=fun (w:Int)=>h_mallongeref09_RightOrder_l2 a0 w
 have h:=fun ho=>evK_loop (T:=TT) (k:=k) (c:=b_mallongeref09_RightOrder_l2) (step:=(fun (w:Int)=>mallongeref09_RightOrder_l2_s a0 w)) _ _ ho hh p11
 refine Eq.trans (h (fun r s e=>by have q:=congrArg Prod.fst e; rcases r with x | x <;> cases q)) ?_
 unfold mallongeref09_RightOrder_l2
 exact bind_congr' _ fun x=>by rcases x with x | x <;> rfl
theorem c_mallongeref09_RightOrder (a0:GOrder):Vm.call TT 103 [.agg (GOrder.cells a0)] = (mallongeref09_RightOrder a0).map fun (r:Bool)=>.bool r:=by
 refine (call_eqF (show TT 103 = some (.code ⟨1,81,[.tmp 2],bd103,false⟩) from rfl) _ rfl).trans ?_
 show evK TT bd103 ⟨[(0,aggD (GOrder.cells a0))],[]⟩ _ = _
 simp -implicitDefEqProofs (decide:=true) (maxSteps:=2000000) only [bd103,mallongeref09_RightOrder,↓e_mallongeref09_RightOrder_l1,↓e_mallongeref09_RightOrder_l2,↓k_mallongeref09_Within,↓DN,↓DR,DQ,DP,↓reduceIte,Int.reduceToNat,Nat.reduceBEq,Nat.reduceAdd,Nat.reduceLT,Nat.reduceLeDiff,Nat.reduceEqDiff,Int.reduceEq,reduceCtorEq,specL,specO,specP,beq_self_eq_true,List.length_cons,List.length_nil,cM_length,Bool.not_true,Bool.not_false,if_true,if_false,List.replicate_succ,List.replicate_zero,dcells_len,Option.bind_some,none_bind,Option.map_some,Option.map_none,Sum.elim_inl,Sum.elim_inr,sized_cI,sized_cB,sized_cS,sized_cL,sized_cK,stepR_none,stepR_inl,stepR_inr,elim_stepR,stepR_ite,stepR_bind,ite_bind,ite_map,bind_map,elim_bind,elim_map,Option.bind_assoc]
 all_goals try simp only [gIf_eq]
 all_goals try rfl
theorem k_mallongeref09_RightOrder {β:Type} (a0:GOrder) (d:Nat) (bl:List (Nat × Option Blk)) (fz:List (Nat × Option Blk)) (k:V→Option β) (kw:V→List (Nat × Option Blk)→Option β):callF TT d bl 103 [.agg (GOrder.cells a0)] fz k kw = (mallongeref09_RightOrder a0).bind fun (r:Bool)=>k (.d (.bool r)):=by
 have h:=c_mallongeref09_RightOrder a0
 exact callF_flat h (fun _=>rfl) fz
theorem h_mallongeref09_orders_l1 (a0:GRealm) (p1:Int) (p2:List ByteArray):evK TT b_mallongeref09_orders_l1 ⟨[(1,.ptr 1 0),(3,.own 25 0),(4,.d (.int .i64 p1))],[(1,some (.box (dcells (GRealm.cells a0)))),(25,some (.rows 0 9 1 (cM cS p2)))]⟩ (fun e s=>some (e,s)) = stepR (fun (w:Int × (List ByteArray))=>(⟨[(1,.ptr 1 0),(3,.own 25 0),(4,.d (.int .i64 w.1))],[(1,some (.box (dcells (GRealm.cells a0)))),(25,some (.rows 0 9 1 (cM cS w.2)))]⟩ : St)) (fun (r:Unit ⊕ Int)=>Sum.elim (fun (z:Unit)=>(((.exit 0),⟨[],[]⟩):Ex × St)) (fun (z:Int)=>((.ret,⟨[(2,.d (.int .i64 z))],[]⟩):Ex × St)) r) (mallongeref09_orders_l1_s a0 p1 p2):=by
 simp -implicitDefEqProofs (decide:=true) (maxSteps:=2000000) only [b_mallongeref09_orders_l1,mallongeref09_orders_l1_s,↓k_mallongeref09_named,↓k_mallongeref09_RightOrder,↓DN,↓DR,DQ,DP,↓reduceIte,Int.reduceToNat,Nat.reduceBEq,Nat.reduceAdd,Nat.reduceLT,Nat.reduceLeDiff,Nat.reduceEqDiff,Int.reduceEq,reduceCtorEq,specL,specO,specP,beq_self_eq_true,List.length_cons,List.length_nil,cM_length,Bool.not_true,Bool.not_false,if_true,if_false,List.replicate_succ,List.replicate_zero,dcells_len,Option.bind_some,none_bind,Option.map_some,Option.map_none,Sum.elim_inl,Sum.elim_inr,sized_cI,sized_cB,sized_cS,sized_cL,sized_cK,stepR_none,stepR_inl,stepR_inr,elim_stepR,stepR_ite,stepR_bind,ite_bind,ite_map,bind_map,elim_bind,elim_map,Option.bind_assoc]
 all_goals try simp only [gIf_eq]
 all_goals try rfl
theorem e_mallongeref09_orders_l1 {β:Type} (a0:GRealm) (p1:Int) (p2:List ByteArray) (k:Ex→St→Option β):evK TT c_mallongeref09_orders_l1 ⟨[(1,.ptr 1 0),(3,.own 25 0),(4,.d (.int .i64 p1))],[(1,some (.box (dcells (GRealm.cells a0)))),(25,some (.rows 0 9 1 (cM cS p2)))]⟩ k = (mallongeref09_orders_l1 a0 p1 p2).bind (fun (r:Unit ⊕ Int)=>Sum.elim (fun (z:Unit)=>k (.exit 0) ⟨[],[]⟩) (fun (z:Int)=>k .ret ⟨[(2,.d (.int .i64 z))],[]⟩) r):=by
 have hh:=fun (w:Int × (List ByteArray))=>h_mallongeref09_orders_l1 a0 w.1 w.2
 have h:=fun ho=>evK_loop (T:=TT) (k:=k) (c:=b_mallongeref09_orders_l1) (step:=(fun (w:Int × (List ByteArray))=>mallongeref09_orders_l1_s a0 w.1 w.2)) _ _ ho hh (p1,p2)
 refine Eq.trans (h (fun r s e=>by have q:=congrArg Prod.fst e; rcases r with x | x <;> cases q)) ?_
 unfold mallongeref09_orders_l1
 exact bind_congr' _ fun x=>by rcases x with x | x <;> rfl
theorem c_mallongeref09_orders (a0:GRealm):Vm.call TT 83 [.agg (GRealm.cells a0)] = (mallongeref09_orders a0).map fun (r:Int)=>.int .i64 r:=by
 refine (call_eqF (show TT 83 = some (.code ⟨1,39,[.tmp 2],bd83,false⟩) from rfl) _ rfl).trans ?_
 show evK TT bd83 ⟨[(0,aggD (GRealm.cells a0))],[]⟩ _ = _
 simp -implicitDefEqProofs (decide:=true) (maxSteps:=2000000) only [bd83,mallongeref09_orders,↓e_mallongeref09_orders_l1,↓k_mallongeref09_named,↓k_mallongeref09_RightOrder,↓DN,↓DR,DQ,DP,↓reduceIte,Int.reduceToNat,Nat.reduceBEq,Nat.reduceAdd,Nat.reduceLT,Nat.reduceLeDiff,Nat.reduceEqDiff,Int.reduceEq,reduceCtorEq,specL,specO,specP,beq_self_eq_true,List.length_cons,List.length_nil,cM_length,Bool.not_true,Bool.not_false,if_true,if_false,List.replicate_succ,List.replicate_zero,dcells_len,Option.bind_some,none_bind,Option.map_some,Option.map_none,Sum.elim_inl,Sum.elim_inr,sized_cI,sized_cB,sized_cS,sized_cL,sized_cK,stepR_none,stepR_inl,stepR_inr,elim_stepR,stepR_ite,stepR_bind,ite_bind,ite_map,bind_map,elim_bind,elim_map,Option.bind_assoc]
 all_goals try simp only [gIf_eq]
 all_goals try rfl
theorem k_mallongeref09_orders {β:Type} (a0:GRealm) (d:Nat) (bl:List (Nat × Option Blk)) (fz:List (Nat × Option Blk)) (k:V→Option β) (kw:V→List (Nat × Option Blk)→Option β):callF TT d bl 83 [.agg (GRealm.cells a0)] fz k kw = (mallongeref09_orders a0).bind fun (r:Int)=>k (.d (.int .i64 r)):=by
 have h:=c_mallongeref09_orders a0
 exact callF_flat h (fun _=>rfl) fz
theorem h_mallongeref09_usances_l1 (a0:GRealm) (p1:Int) (x2:GUsance) (p6:Int):evK TT b_mallongeref09_usances_l1 ⟨[(1,.ptr 1 0),(3,.d (.int .i64 p1)),(4,.ptr 4 0),(5,.d (.int .i64 p6))],[(1,some (.box (dcells (GRealm.cells a0)))),(4,some (.box (dcells (GUsance.cells x2))))]⟩ (fun e s=>some (e,s)) = stepR (fun (w:Int)=>(⟨[(1,.ptr 1 0),(3,.d (.int .i64 p1)),(4,.ptr 4 0),(5,.d (.int .i64 w))],[(1,some (.box (dcells (GRealm.cells a0)))),(4,some (.box (dcells (GUsance.cells x2))))]⟩ : St)) (fun (r:Unit ⊕ Unit)=>Sum.elim (fun (z:Unit)=>(((.exit 2),⟨[(1,.ptr 1 0),(3,.d (.int .i64 p1))],[(1,some (.box (dcells (GRealm.cells a0))))]⟩):Ex × St)) (fun (z:Unit)=>((.ret,⟨[(2,.d (.int .i64 5))],[]⟩):Ex × St)) r) (mallongeref09_usances_l1_s a0 p1 x2 p6):=by
 simp -implicitDefEqProofs (decide:=true) (maxSteps:=2000000) only [b_mallongeref09_usances_l1,mallongeref09_usances_l1_s,↓k_mallongeref09_Within,↓DN,↓DR,DQ,DP,↓reduceIte,Int.reduceToNat,Nat.reduceBEq,Nat.reduceAdd,Nat.reduceLT,Nat.reduceLeDiff,Nat.reduceEqDiff,Int.reduceEq,reduceCtorEq,specL,specO,specP,beq_self_eq_true,List.length_cons,List.length_nil,cM_length,Bool.not_true,Bool.not_false,if_true,if_false,List.replicate_succ,List.replicate_zero,dcells_len,Option.bind_some,none_bind,Option.map_some,Option.map_none,Sum.elim_inl,Sum.elim_inr,sized_cI,sized_cB,sized_cS,sized_cL,sized_cK,stepR_none,stepR_inl,stepR_inr,elim_stepR,stepR_ite,stepR_bind,ite_bind,ite_map,bind_map,elim_bind,elim_map,Option.bind_assoc]
 all_goals try simp only [gIf_eq]
 all_goals try rfl
theorem e_mallongeref09_usances_l1 {β:Type} (a0:GRealm) (p1:Int) (x2:GUsance) (p6:Int) (k:Ex→St→Option β):evK TT c_mallongeref09_usances_l1 ⟨[(1,.ptr 1 0),(3,.d (.int .i64 p1)),(4,.ptr 4 0),(5,.d (.int .i64 p6))],[(1,some (.box (dcells (GRealm.cells a0)))),(4,some (.box (dcells (GUsance.cells x2))))]⟩ k = (mallongeref09_usances_l1 a0 p1 x2 p6).bind (fun (r:Unit ⊕ Unit)=>Sum.elim (fun (z:Unit)=>k (.exit 2) ⟨[(1,.ptr 1 0),(3,.d (.int .i64 p1))],[(1,some (.box (dcells (GRealm.cells a0))))]⟩) (fun (z:Unit)=>k .ret ⟨[(2,.d (.int .i64 5))],[]⟩) r):=by
 have hh:=fun (w:Int)=>h_mallongeref09_usances_l1 a0 p1 x2 w
 have h:=fun ho=>evK_loop (T:=TT) (k:=k) (c:=b_mallongeref09_usances_l1) (step:=(fun (w:Int)=>mallongeref09_usances_l1_s a0 p1 x2 w)) _ _ ho hh p6
 refine Eq.trans (h (fun r s e=>by have q:=congrArg Prod.fst e; rcases r with x | x <;> cases q)) ?_
 unfold mallongeref09_usances_l1
 exact bind_congr' _ fun x=>by rcases x with x | x <;> rfl
theorem h_mallongeref09_usances_l2 (a0:GRealm) (p1:Int):evK TT b_mallongeref09_usances_l2 ⟨[(1,.ptr 1 0),(3,.d (.int .i64 p1))],[(1,some (.box (dcells (GRealm.cells a0))))]⟩ (fun e s=>some (e,s)) = stepR (fun (w:Int)=>(⟨[(1,.ptr 1 0),(3,.d (.int .i64 w))],[(1,some (.box (dcells (GRealm.cells a0))))]⟩ : St)) (fun (r:Unit ⊕ Int)=>Sum.elim (fun (z:Unit)=>(((.exit 0),⟨[],[]⟩):Ex × St)) (fun (z:Int)=>((.ret,⟨[(2,.d (.int .i64 z))],[]⟩):Ex × St)) r) (mallongeref09_usances_l2_s a0 p1):=by
 simp -implicitDefEqProofs (decide:=true) (maxSteps:=2000000) only [b_mallongeref09_usances_l2,mallongeref09_usances_l2_s,↓e_mallongeref09_usances_l1,↓k_mallongeref09_Within,↓DN,↓DR,DQ,DP,↓reduceIte,Int.reduceToNat,Nat.reduceBEq,Nat.reduceAdd,Nat.reduceLT,Nat.reduceLeDiff,Nat.reduceEqDiff,Int.reduceEq,reduceCtorEq,specL,specO,specP,beq_self_eq_true,List.length_cons,List.length_nil,cM_length,Bool.not_true,Bool.not_false,if_true,if_false,List.replicate_succ,List.replicate_zero,dcells_len,Option.bind_some,none_bind,Option.map_some,Option.map_none,Sum.elim_inl,Sum.elim_inr,sized_cI,sized_cB,sized_cS,sized_cL,sized_cK,stepR_none,stepR_inl,stepR_inr,elim_stepR,stepR_ite,stepR_bind,ite_bind,ite_map,bind_map,elim_bind,elim_map,Option.bind_assoc]
 all_goals try simp only [gIf_eq]
 all_goals try rfl
theorem e_mallongeref09_usances_l2 {β:Type} (a0:GRealm) (p1:Int) (k:Ex→St→Option β):evK TT c_mallongeref09_usances_l2 ⟨[(1,.ptr 1 0),(3,.d (.int .i64 p1))],[(1,some (.box (dcells (GRealm.cells a0))))]⟩ k = (mallongeref09_usances_l2 a0 p1).bind (fun (r:Unit ⊕ Int)=>Sum.elim (fun (z:Unit)=>k (.exit 0) ⟨[],[]⟩) (fun (z:Int)=>k .ret ⟨[(2,.d (.int .i64 z))],[]⟩) r):=by
 have hh:=fun (w:Int)=>h_mallongeref09_usances_l2 a0 w
 have h:=fun ho=>evK_loop (T:=TT) (k:=k) (c:=b_mallongeref09_usances_l2) (step:=(fun (w:Int)=>mallongeref09_usances_l2_s a0 w)) _ _ ho hh p1
 refine Eq.trans (h (fun r s e=>by have q:=congrArg Prod.fst e; rcases r with x | x <;> cases q)) ?_
 unfold mallongeref09_usances_l2
 exact bind_congr' _ fun x=>by rcases x with x | x <;> rfl
theorem c_mallongeref09_usances (a0:GRealm):Vm.call TT 84 [.agg (GRealm.cells a0)] = (mallongeref09_usances a0).map fun (r:Int)=>.int .i64 r:=by
 refine (call_eqF (show TT 84 = some (.code ⟨1,71,[.tmp 2],bd84,false⟩) from rfl) _ rfl).trans ?_
 show evK TT bd84 ⟨[(0,aggD (GRealm.cells a0))],[]⟩ _ = _
 simp -implicitDefEqProofs (decide:=true) (maxSteps:=2000000) only [bd84,mallongeref09_usances,↓e_mallongeref09_usances_l1,↓e_mallongeref09_usances_l2,↓k_mallongeref09_Within,↓DN,↓DR,DQ,DP,↓reduceIte,Int.reduceToNat,Nat.reduceBEq,Nat.reduceAdd,Nat.reduceLT,Nat.reduceLeDiff,Nat.reduceEqDiff,Int.reduceEq,reduceCtorEq,specL,specO,specP,beq_self_eq_true,List.length_cons,List.length_nil,cM_length,Bool.not_true,Bool.not_false,if_true,if_false,List.replicate_succ,List.replicate_zero,dcells_len,Option.bind_some,none_bind,Option.map_some,Option.map_none,Sum.elim_inl,Sum.elim_inr,sized_cI,sized_cB,sized_cS,sized_cL,sized_cK,stepR_none,stepR_inl,stepR_inr,elim_stepR,stepR_ite,stepR_bind,ite_bind,ite_map,bind_map,elim_bind,elim_map,Option.bind_assoc]
 all_goals try simp only [gIf_eq]
 all_goals try rfl
theorem k_mallongeref09_usances {β:Type} (a0:GRealm) (d:Nat) (bl:List (Nat × Option Blk)) (fz:List (Nat × Option Blk)) (k:V→Option β) (kw:V→List (Nat × Option Blk)→Option β):callF TT d bl 84 [.agg (GRealm.cells a0)] fz k kw = (mallongeref09_usances a0).bind fun (r:Int)=>k (.d (.int .i64 r)):=by
 have h:=c_mallongeref09_usances a0
 exact callF_flat h (fun _=>rfl) fz
theorem h_mallongeref09_others_l1 (a0:GRealm) (p1:Int):evK TT b_mallongeref09_others_l1 ⟨[(1,.ptr 1 0),(3,.d (.int .i64 p1))],[(1,some (.box (dcells (GRealm.cells a0))))]⟩ (fun e s=>some (e,s)) = stepR (fun (w:Int)=>(⟨[(1,.ptr 1 0),(3,.d (.int .i64 w))],[(1,some (.box (dcells (GRealm.cells a0))))]⟩ : St)) (fun (r:Unit ⊕ Unit)=>Sum.elim (fun (z:Unit)=>(((.exit 0),⟨[(1,.ptr 1 0)],[(1,some (.box (dcells (GRealm.cells a0))))]⟩):Ex × St)) (fun (z:Unit)=>((.ret,⟨[(2,.d (.int .i64 1))],[]⟩):Ex × St)) r) (mallongeref09_others_l1_s a0 p1):=by
 simp -implicitDefEqProofs (decide:=true) (maxSteps:=2000000) only [b_mallongeref09_others_l1,mallongeref09_others_l1_s,↓k_mallongeref09_Within,↓DN,↓DR,DQ,DP,↓reduceIte,Int.reduceToNat,Nat.reduceBEq,Nat.reduceAdd,Nat.reduceLT,Nat.reduceLeDiff,Nat.reduceEqDiff,Int.reduceEq,reduceCtorEq,specL,specO,specP,beq_self_eq_true,List.length_cons,List.length_nil,cM_length,Bool.not_true,Bool.not_false,if_true,if_false,List.replicate_succ,List.replicate_zero,dcells_len,Option.bind_some,none_bind,Option.map_some,Option.map_none,Sum.elim_inl,Sum.elim_inr,sized_cI,sized_cB,sized_cS,sized_cL,sized_cK,stepR_none,stepR_inl,stepR_inr,elim_stepR,stepR_ite,stepR_bind,ite_bind,ite_map,bind_map,elim_bind,elim_map,Option.bind_assoc]
 all_goals try simp only [gIf_eq]
 all_goals try rfl
theorem e_mallongeref09_others_l1 {β:Type} (a0:GRealm) (p1:Int) (k:Ex→St→Option β):evK TT c_mallongeref09_others_l1 ⟨[(1,.ptr 1 0),(3,.d (.int .i64 p1))],[(1,some (.box (dcells (GRealm.cells a0))))]⟩ k = (mallongeref09_others_l1 a0 p1).bind (fun (r:Unit ⊕ Unit)=>Sum.elim (fun (z:Unit)=>k (.exit 0) ⟨[(1,.ptr 1 0)],[(1,some (.box (dcells (GRealm.cells a0))))]⟩) (fun (z:Unit)=>k .ret ⟨[(2,.d (.int .i64 1))],[]⟩) r):=by
 have hh:=fun (w:Int)=>h_mallongeref09_others_l1 a0 w
 have h:=fun ho=>evK_loop (T:=TT) (k:=k) (c:=b_mallongeref09_others_l1) (step:=(fun (w:Int)=>mallongeref09_others_l1_s a0 w)) _ _ ho hh p1
 refine Eq.trans (h (fun r s e=>by have q:=congrArg Prod.fst e; rcases r with x | x <;> cases q)) ?_
 unfold mallongeref09_others_l1
 exact bind_congr' _ fun x=>by rcases x with x | x <;> rfl
theorem h_mallongeref09_others_l2 (a0:GRealm) (p11:Int):evK TT b_mallongeref09_others_l2 ⟨[(1,.ptr 1 0),(5,.d (.int .i64 p11))],[(1,some (.box (dcells (GRealm.cells a0))))]⟩ (fun e s=>some (e,s)) = stepR (fun (w:Int)=>(⟨[(1,.ptr 1 0),(5,.d (.int .i64 w))],[(1,some (.box (dcells (GRealm.cells a0))))]⟩ : St)) (fun (r:Unit ⊕ Unit)=>Sum.elim (fun (z:Unit)=>(((.exit 2),⟨[],[]⟩):Ex × St)) (fun (z:Unit)=>((.ret,⟨[(2,.d (.int .i64 1))],[]⟩):Ex × St)) r) (mallongeref09_others_l2_s a0 p11):=by
 simp -implicitDefEqProofs (decide:=true) (maxSteps:=2000000) only [b_mallongeref09_others_l2,mallongeref09_others_l2_s,↓e_mallongeref09_others_l1,↓k_mallongeref09_Within,↓DN,↓DR,DQ,DP,↓reduceIte,Int.reduceToNat,Nat.reduceBEq,Nat.reduceAdd,Nat.reduceLT,Nat.reduceLeDiff,Nat.reduceEqDiff,Int.reduceEq,reduceCtorEq,specL,specO,specP,beq_self_eq_true,List.length_cons,List.length_nil,cM_length,Bool.not_true,Bool.not_false,if_true,if_false,List.replicate_succ,List.replicate_zero,dcells_len,Option.bind_some,none_bind,Option.map_some,Option.map_none,Sum.elim_inl,Sum.elim_inr,sized_cI,sized_cB,sized_cS,sized_cL,sized_cK,stepR_none,stepR_inl,stepR_inr,elim_stepR,stepR_ite,stepR_bind,ite_bind,ite_map,bind_map,elim_bind,elim_map,Option.bind_assoc]
 all_goals try simp only [gIf_eq]
 all_goals try rfl
theorem e_mallongeref09_others_l2 {β:Type} (a0:GRealm) (p11:Int) (k:Ex→St→Option β):evK TT c_mallongeref09_others_l2 ⟨[(1,.ptr 1 0),(5,.d (.int .i64 p11))],[(1,some (.box (dcells (GRealm.cells a0))))]⟩ k = (mallongeref09_others_l2 a0 p11).bind (fun (r:Unit ⊕ Unit)=>Sum.elim (fun (z:Unit)=>k (.exit 2) ⟨[],[]⟩) (fun (z:Unit)=>k .ret ⟨[(2,.d (.int .i64 1))],[]⟩) r):=by
 have hh:=fun (w:Int)=>h_mallongeref09_others_l2 a0 w
 have h:=fun ho=>evK_loop (T:=TT) (k:=k) (c:=b_mallongeref09_others_l2) (step:=(fun (w:Int)=>mallongeref09_others_l2_s a0 w)) _ _ ho hh p11
 refine Eq.trans (h (fun r s e=>by have q:=congrArg Prod.fst e; rcases r with x | x <;> cases q)) ?_
 unfold mallongeref09_others_l2
 exact bind_congr' _ fun x=>by rcases x with x | x <;> rfl
theorem c_mallongeref09_others (a0:GRealm):Vm.call TT 85 [.agg (GRealm.cells a0)] = (mallongeref09_others a0).map fun (r:Int)=>.int .i64 r:=by
 refine (call_eqF (show TT 85 = some (.code ⟨1,101,[.tmp 2],bd85,false⟩) from rfl) _ rfl).trans ?_
 show evK TT bd85 ⟨[(0,aggD (GRealm.cells a0))],[]⟩ _ = _
 simp -implicitDefEqProofs (decide:=true) (maxSteps:=2000000) only [bd85,mallongeref09_others,↓e_mallongeref09_others_l1,↓e_mallongeref09_others_l2,↓k_mallongeref09_Within,↓DN,↓DR,DQ,DP,↓reduceIte,Int.reduceToNat,Nat.reduceBEq,Nat.reduceAdd,Nat.reduceLT,Nat.reduceLeDiff,Nat.reduceEqDiff,Int.reduceEq,reduceCtorEq,specL,specO,specP,beq_self_eq_true,List.length_cons,List.length_nil,cM_length,Bool.not_true,Bool.not_false,if_true,if_false,List.replicate_succ,List.replicate_zero,dcells_len,Option.bind_some,none_bind,Option.map_some,Option.map_none,Sum.elim_inl,Sum.elim_inr,sized_cI,sized_cB,sized_cS,sized_cL,sized_cK,stepR_none,stepR_inl,stepR_inr,elim_stepR,stepR_ite,stepR_bind,ite_bind,ite_map,bind_map,elim_bind,elim_map,Option.bind_assoc]
 all_goals try simp only [gIf_eq]
 all_goals try rfl
theorem k_mallongeref09_others {β:Type} (a0:GRealm) (d:Nat) (bl:List (Nat × Option Blk)) (fz:List (Nat × Option Blk)) (k:V→Option β) (kw:V→List (Nat × Option Blk)→Option β):callF TT d bl 85 [.agg (GRealm.cells a0)] fz k kw = (mallongeref09_others a0).bind fun (r:Int)=>k (.d (.int .i64 r)):=by
 have h:=c_mallongeref09_others a0
 exact callF_flat h (fun _=>rfl) fz
theorem e_mallongeref09_Check_j1 {β:Type} (a0:GRealm) (p7:Int) (k:Ex→St→Option β):evK TT c_mallongeref09_Check_j1 ⟨[(1,.ptr 1 0),(3,.d (.int .i64 p7))],[(1,some (.box (dcells (GRealm.cells a0))))]⟩ k = (mallongeref09_Check_j1 a0 p7).bind (fun (r:Int)=>k .ret ⟨[(2,.d (.int .i64 r))],[]⟩):=by
 simp -implicitDefEqProofs (decide:=true) (maxSteps:=2000000) only [c_mallongeref09_Check_j1,mallongeref09_Check_j1,↓k_mallongeref09_cities,↓k_mallongeref09_firms,↓k_mallongeref09_orders,↓k_mallongeref09_usances,↓k_mallongeref09_others,↓DN,↓DR,DQ,DP,↓reduceIte,Int.reduceToNat,Nat.reduceBEq,Nat.reduceAdd,Nat.reduceLT,Nat.reduceLeDiff,Nat.reduceEqDiff,Int.reduceEq,reduceCtorEq,specL,specO,specP,beq_self_eq_true,List.length_cons,List.length_nil,cM_length,Bool.not_true,Bool.not_false,if_true,if_false,List.replicate_succ,List.replicate_zero,dcells_len,Option.bind_some,none_bind,Option.map_some,Option.map_none,Sum.elim_inl,Sum.elim_inr,sized_cI,sized_cB,sized_cS,sized_cL,sized_cK,stepR_none,stepR_inl,stepR_inr,elim_stepR,stepR_ite,stepR_bind,ite_bind,ite_map,bind_map,elim_bind,elim_map,Option.bind_assoc]
 all_goals try simp only [gIf_eq]
 all_goals try rfl
theorem e_mallongeref09_Check_j2 {β:Type} (a0:GRealm) (p5:Int) (k:Ex→St→Option β):evK TT c_mallongeref09_Check_j2 ⟨[(1,.ptr 1 0),(3,.d (.int .i64 p5))],[(1,some (.box (dcells (GRealm.cells a0))))]⟩ k = (mallongeref09_Check_j2 a0 p5).bind (fun (r:Int)=>k .ret ⟨[(2,.d (.int .i64 r))],[]⟩):=by
 simp -implicitDefEqProofs (decide:=true) (maxSteps:=2000000) only [c_mallongeref09_Check_j2,mallongeref09_Check_j2,↓e_mallongeref09_Check_j1,↓k_mallongeref09_cities,↓k_mallongeref09_firms,↓k_mallongeref09_orders,↓k_mallongeref09_usances,↓k_mallongeref09_others,↓DN,↓DR,DQ,DP,↓reduceIte,Int.reduceToNat,Nat.reduceBEq,Nat.reduceAdd,Nat.reduceLT,Nat.reduceLeDiff,Nat.reduceEqDiff,Int.reduceEq,reduceCtorEq,specL,specO,specP,beq_self_eq_true,List.length_cons,List.length_nil,cM_length,Bool.not_true,Bool.not_false,if_true,if_false,List.replicate_succ,List.replicate_zero,dcells_len,Option.bind_some,none_bind,Option.map_some,Option.map_none,Sum.elim_inl,Sum.elim_inr,sized_cI,sized_cB,sized_cS,sized_cL,sized_cK,stepR_none,stepR_inl,stepR_inr,elim_stepR,stepR_ite,stepR_bind,ite_bind,ite_map,bind_map,elim_bind,elim_map,Option.bind_assoc]
 all_goals try simp only [gIf_eq]
 all_goals try rfl
theorem e_mallongeref09_Check_j3 {β:Type} (a0:GRealm) (p3:Int) (k:Ex→St→Option β):evK TT c_mallongeref09_Check_j3 ⟨[(1,.ptr 1 0),(3,.d (.int .i64 p3))],[(1,some (.box (dcells (GRealm.cells a0))))]⟩ k = (mallongeref09_Check_j3 a0 p3).bind (fun (r:Int)=>k .ret ⟨[(2,.d (.int .i64 r))],[]⟩):=by
 simp -implicitDefEqProofs (decide:=true) (maxSteps:=2000000) only [c_mallongeref09_Check_j3,mallongeref09_Check_j3,↓e_mallongeref09_Check_j1,↓e_mallongeref09_Check_j2,↓k_mallongeref09_cities,↓k_mallongeref09_firms,↓k_mallongeref09_orders,↓k_mallongeref09_usances,↓k_mallongeref09_others,↓DN,↓DR,DQ,DP,↓reduceIte,Int.reduceToNat,Nat.reduceBEq,Nat.reduceAdd,Nat.reduceLT,Nat.reduceLeDiff,Nat.reduceEqDiff,Int.reduceEq,reduceCtorEq,specL,specO,specP,beq_self_eq_true,List.length_cons,List.length_nil,cM_length,Bool.not_true,Bool.not_false,if_true,if_false,List.replicate_succ,List.replicate_zero,dcells_len,Option.bind_some,none_bind,Option.map_some,Option.map_none,Sum.elim_inl,Sum.elim_inr,sized_cI,sized_cB,sized_cS,sized_cL,sized_cK,stepR_none,stepR_inl,stepR_inr,elim_stepR,stepR_ite,stepR_bind,ite_bind,ite_map,bind_map,elim_bind,elim_map,Option.bind_assoc]
 all_goals try simp only [gIf_eq]
 all_goals try rfl
theorem c_mallongeref09_Check (a0:GRealm):Vm.call TT 50 [.agg (GRealm.cells a0)] = (mallongeref09_Check a0).map fun (r:Int)=>.int .i64 r:=by
 refine (call_eqF (show TT 50 = some (.code ⟨1,23,[.tmp 2],bd50,false⟩) from rfl) _ rfl).trans ?_
 show evK TT bd50 ⟨[(0,aggD (GRealm.cells a0))],[]⟩ _ = _
 simp -implicitDefEqProofs (decide:=true) (maxSteps:=2000000) only [bd50,mallongeref09_Check,↓e_mallongeref09_Check_j1,↓e_mallongeref09_Check_j2,↓e_mallongeref09_Check_j3,↓k_mallongeref09_cities,↓k_mallongeref09_firms,↓k_mallongeref09_orders,↓k_mallongeref09_usances,↓k_mallongeref09_others,↓DN,↓DR,DQ,DP,↓reduceIte,Int.reduceToNat,Nat.reduceBEq,Nat.reduceAdd,Nat.reduceLT,Nat.reduceLeDiff,Nat.reduceEqDiff,Int.reduceEq,reduceCtorEq,specL,specO,specP,beq_self_eq_true,List.length_cons,List.length_nil,cM_length,Bool.not_true,Bool.not_false,if_true,if_false,List.replicate_succ,List.replicate_zero,dcells_len,Option.bind_some,none_bind,Option.map_some,Option.map_none,Sum.elim_inl,Sum.elim_inr,sized_cI,sized_cB,sized_cS,sized_cL,sized_cK,stepR_none,stepR_inl,stepR_inr,elim_stepR,stepR_ite,stepR_bind,ite_bind,ite_map,bind_map,elim_bind,elim_map,Option.bind_assoc]
 all_goals try simp only [gIf_eq]
 all_goals try rfl
theorem k_mallongeref09_Check {β:Type} (a0:GRealm) (d:Nat) (bl:List (Nat × Option Blk)) (fz:List (Nat × Option Blk)) (k:V→Option β) (kw:V→List (Nat × Option Blk)→Option β):callF TT d bl 50 [.agg (GRealm.cells a0)] fz k kw = (mallongeref09_Check a0).bind fun (r:Int)=>k (.d (.int .i64 r)):=by
 have h:=c_mallongeref09_Check a0
 exact callF_flat h (fun _=>rfl) fz
theorem h_mallongeref36_Set_l1 (a0:List Int) (p1:Int):evK TT b_mallongeref36_Set_l1 ⟨[(0,.d (.sl (cM cI a0))),(3,.d (.int .i64 p1))],[]⟩ (fun e s=>some (e,s)) = stepR (fun (w:Int)=>(⟨[(0,.d (.sl (cM cI a0))),(3,.d (.int .i64 w))],[]⟩ : St)) (fun (r:Unit ⊕ Unit)=>Sum.elim (fun (z:Unit)=>(((.exit 0),⟨[(0,.d (.sl (cM cI a0)))],[]⟩):Ex × St)) (fun (z:Unit)=>((.ret,⟨[(2,.d (.bool false))],[]⟩):Ex × St)) r) (mallongeref36_Set_l1_s a0 p1):=by
 simp -implicitDefEqProofs (decide:=true) (maxSteps:=2000000) only [b_mallongeref36_Set_l1,mallongeref36_Set_l1_s,↓DN,↓DR,DQ,DP,↓reduceIte,Int.reduceToNat,Nat.reduceBEq,Nat.reduceAdd,Nat.reduceLT,Nat.reduceLeDiff,Nat.reduceEqDiff,Int.reduceEq,reduceCtorEq,specL,specO,specP,beq_self_eq_true,List.length_cons,List.length_nil,cM_length,Bool.not_true,Bool.not_false,if_true,if_false,List.replicate_succ,List.replicate_zero,dcells_len,Option.bind_some,none_bind,Option.map_some,Option.map_none,Sum.elim_inl,Sum.elim_inr,sized_cI,sized_cB,sized_cS,sized_cL,sized_cK,stepR_none,stepR_inl,stepR_inr,elim_stepR,stepR_ite,stepR_bind,ite_bind,ite_map,bind_map,elim_bind,elim_map,Option.bind_assoc]
 all_goals try simp only [gIf_eq]
 all_goals try rfl
theorem e_mallongeref36_Set_l1 {β:Type} (a0:List Int) (p1:Int) (k:Ex→St→Option β):evK TT c_mallongeref36_Set_l1 ⟨[(0,.d (.sl (cM cI a0))),(3,.d (.int .i64 p1))],[]⟩ k = (mallongeref36_Set_l1 a0 p1).bind (fun (r:Unit ⊕ Unit)=>Sum.elim (fun (z:Unit)=>k (.exit 0) ⟨[(0,.d (.sl (cM cI a0)))],[]⟩) (fun (z:Unit)=>k .ret ⟨[(2,.d (.bool false))],[]⟩) r):=by
 have hh:=fun (w:Int)=>h_mallongeref36_Set_l1 a0 w
 have h:=fun ho=>evK_loop (T:=TT) (k:=k) (c:=b_mallongeref36_Set_l1) (step:=(fun (w:Int)=>mallongeref36_Set_l1_s a0 w)) _ _ ho hh p1
 refine Eq.trans (h (fun r s e=>by have q:=congrArg Prod.fst e; rcases r with x | x <;> cases q)) ?_
 unfold mallongeref36_Set_l1
 exact bind_congr' _ fun x=>by rcases x with x | x <;> rfl
theorem c_mallongeref36_Set (a0:List Int):Vm.call TT 69 [.sl (cM cI a0)] = (mallongeref36_Set a0).map fun (r:Bool)=>.bool r:=by
 refine (call_eqF (show TT 69 = some (.code ⟨1,41,[.tmp 2],bd69,false⟩) from rfl) _ rfl).trans ?_
 show evK TT bd69 ⟨[(0,.d (.sl (cM cI a0)))],[]⟩ _ = _
 simp -implicitDefEqProofs (decide:=true) (maxSteps:=2000000) only [bd69,mallongeref36_Set,↓e_mallongeref36_Set_l1,↓DN,↓DR,DQ,DP,↓reduceIte,Int.reduceToNat,Nat.reduceBEq,Nat.reduceAdd,Nat.reduceLT,Nat.reduceLeDiff,Nat.reduceEqDiff,Int.reduceEq,reduceCtorEq,specL,specO,specP,beq_self_eq_true,List.length_cons,List.length_nil,cM_length,Bool.not_true,Bool.not_false,if_true,if_false,List.replicate_succ,List.replicate_zero,dcells_len,Option.bind_some,none_bind,Option.map_some,Option.map_none,Sum.elim_inl,Sum.elim_inr,sized_cI,sized_cB,sized_cS,sized_cL,sized_cK,stepR_none,stepR_inl,stepR_inr,elim_stepR,stepR_ite,stepR_bind,ite_bind,ite_map,bind_map,elim_bind,elim_map,Option.bind_assoc]
 all_goals try simp only [gIf_eq]
 all_goals try rfl
theorem k_mallongeref36_Set {β:Type} (a0:List Int) (d:Nat) (bl:List (Nat × Option Blk)) (fz:List (Nat × Option Blk)) (k:V→Option β) (kw:V→List (Nat × Option Blk)→Option β):callF TT d bl 69 [.sl (cM cI a0)] fz k kw = (mallongeref36_Set a0).bind fun (r:Bool)=>k (.d (.bool r)):=by
 have h:=c_mallongeref36_Set a0
 exact callF_flat h (fun _=>rfl) fz
theorem c_mallongeref04_Plus (a0:GCity) (a1:Int) (a2:Int):Vm.call TT 66 [.agg (GCity.cells a0),.int .i64 a1,.int .i64 a2] = (mallongeref04_Plus a0 a1 a2).map fun (r:Int × Int)=>.tup [.int .i64 r.1,.int .i64 r.2]:=by
 refine (call_told (show TT 66 = some (.told o66) from rfl) _).trans ?_
 simp only [o66,GCity.cells,dTown_mk,mallongeref04_Plus,gTown]
 split <;> rfl
theorem k_mallongeref04_Plus {β:Type} (a0:GCity) (a1:Int) (a2:Int) (d:Nat) (bl:List (Nat × Option Blk)) (fz:List (Nat × Option Blk)) (k:V→Option β) (kw:V→List (Nat × Option Blk)→Option β):callF TT d bl 66 [.agg (GCity.cells a0),.int .i64 a1,.int .i64 a2] fz k kw = (mallongeref04_Plus a0 a1 a2).bind fun (r:Int × Int)=>k (.tup [.d (.int .i64 r.1),.d (.int .i64 r.2)]):=by
 have h:=c_mallongeref04_Plus a0 a1 a2
 exact callF_flat h (fun _=>rfl) fz
theorem h_mallongeref36_Check_l1 (a0:GRealm) (a1:GShown) (p4:Int):evK TT b_mallongeref36_Check_l1 ⟨[(2,.ptr 2 0),(3,.ptr 3 0),(6,.d (.int .i64 p4))],[(2,some (.box (dcells (GRealm.cells a0)))),(3,some (.box (dcells (GShown.cells a1))))]⟩ (fun e s=>some (e,s)) = stepR (fun (w:Int)=>(⟨[(2,.ptr 2 0),(3,.ptr 3 0),(6,.d (.int .i64 w))],[(2,some (.box (dcells (GRealm.cells a0)))),(3,some (.box (dcells (GShown.cells a1))))]⟩ : St)) (fun (r:Unit ⊕ Unit)=>Sum.elim (fun (z:Unit)=>(((.exit 0),⟨[(2,.ptr 2 0),(3,.ptr 3 0)],[(2,some (.box (dcells (GRealm.cells a0)))),(3,some (.box (dcells (GShown.cells a1))))]⟩):Ex × St)) (fun (z:Unit)=>((.ret,⟨[(4,.d (.int .i64 1))],[]⟩):Ex × St)) r) (mallongeref36_Check_l1_s a0 a1 p4):=by
 simp -implicitDefEqProofs (decide:=true) (maxSteps:=2000000) only [b_mallongeref36_Check_l1,mallongeref36_Check_l1_s,↓k_mallongeref36_Has,↓k_mallongeref09_Check,↓k_mallongeref04_Plus,↓k_mallongeref09_Within,↓k_mallongeref36_Set,↓DN,↓DR,DQ,DP,↓reduceIte,Int.reduceToNat,Nat.reduceBEq,Nat.reduceAdd,Nat.reduceLT,Nat.reduceLeDiff,Nat.reduceEqDiff,Int.reduceEq,reduceCtorEq,specL,specO,specP,beq_self_eq_true,List.length_cons,List.length_nil,cM_length,Bool.not_true,Bool.not_false,if_true,if_false,List.replicate_succ,List.replicate_zero,dcells_len,Option.bind_some,none_bind,Option.map_some,Option.map_none,Sum.elim_inl,Sum.elim_inr,sized_cI,sized_cB,sized_cS,sized_cL,sized_cK,stepR_none,stepR_inl,stepR_inr,elim_stepR,stepR_ite,stepR_bind,ite_bind,ite_map,bind_map,elim_bind,elim_map,Option.bind_assoc]
 all_goals try simp only [gIf_eq]
 all_goals try rfl
theorem e_mallongeref36_Check_l1 {β:Type} (a0:GRealm) (a1:GShown) (p4:Int) (k:Ex→St→Option β):evK TT c_mallongeref36_Check_l1 ⟨[(2,.ptr 2 0),(3,.ptr 3 0),(6,.d (.int .i64 p4))],[(2,some (.box (dcells (GRealm.cells a0)))),(3,some (.box (dcells (GShown.cells a1))))]⟩ k = (mallongeref36_Check_l1 a0 a1 p4).bind (fun (r:Unit ⊕ Unit)=>Sum.elim (fun (z:Unit)=>k (.exit 0) ⟨[(2,.ptr 2 0),(3,.ptr 3 0)],[(2,some (.box (dcells (GRealm.cells a0)))),(3,some (.box (dcells (GShown.cells a1))))]⟩) (fun (z:Unit)=>k .ret ⟨[(4,.d (.int .i64 1))],[]⟩) r):=by
 have hh:=fun (w:Int)=>h_mallongeref36_Check_l1 a0 a1 w
 have h:=fun ho=>evK_loop (T:=TT) (k:=k) (c:=b_mallongeref36_Check_l1) (step:=(fun (w:Int)=>mallongeref36_Check_l1_s a0 a1 w)) _ _ ho hh p4
 refine Eq.trans (h (fun r s e=>by have q:=congrArg Prod.fst e; rcases r with x | x <;> cases q)) ?_
 unfold mallongeref36_Check_l1
 exact bind_congr' _ fun x=>by rcases x with x | x <;> rfl
theorem e_mallongeref36_Check_j2 {β:Type} (a0:GRealm) (a1:GShown) (p12:Int) (p14:Int) (k:Ex→St→Option β):evK TT c_mallongeref36_Check_j2 ⟨[(2,.ptr 2 0),(3,.ptr 3 0),(7,.d (.int .i64 p12)),(8,.d (.int .i64 p14))],[(2,some (.box (dcells (GRealm.cells a0)))),(3,some (.box (dcells (GShown.cells a1))))]⟩ k = (mallongeref36_Check_j2 a0 a1 p12 p14).bind (fun (r:Unit ⊕ Unit)=>Sum.elim (fun (z:Unit)=>k .normal ⟨[(2,.ptr 2 0),(3,.ptr 3 0),(7,.d (.int .i64 p12))],[(2,some (.box (dcells (GRealm.cells a0)))),(3,some (.box (dcells (GShown.cells a1))))]⟩) (fun (z:Unit)=>k .ret ⟨[(4,.d (.int .i64 1))],[]⟩) r):=by
 simp -implicitDefEqProofs (decide:=true) (maxSteps:=2000000) only [c_mallongeref36_Check_j2,mallongeref36_Check_j2,↓e_mallongeref36_Check_l1,↓k_mallongeref36_Has,↓k_mallongeref09_Check,↓k_mallongeref04_Plus,↓k_mallongeref09_Within,↓k_mallongeref36_Set,↓DN,↓DR,DQ,DP,↓reduceIte,Int.reduceToNat,Nat.reduceBEq,Nat.reduceAdd,Nat.reduceLT,Nat.reduceLeDiff,Nat.reduceEqDiff,Int.reduceEq,reduceCtorEq,specL,specO,specP,beq_self_eq_true,List.length_cons,List.length_nil,cM_length,Bool.not_true,Bool.not_false,if_true,if_false,List.replicate_succ,List.replicate_zero,dcells_len,Option.bind_some,none_bind,Option.map_some,Option.map_none,Sum.elim_inl,Sum.elim_inr,sized_cI,sized_cB,sized_cS,sized_cL,sized_cK,stepR_none,stepR_inl,stepR_inr,elim_stepR,stepR_ite,stepR_bind,ite_bind,ite_map,bind_map,elim_bind,elim_map,Option.bind_assoc]
 all_goals try simp only [gIf_eq]
 all_goals try rfl
theorem h_mallongeref36_Check_l3 (a0:GRealm) (a1:GShown) (p12:Int):evK TT b_mallongeref36_Check_l3 ⟨[(2,.ptr 2 0),(3,.ptr 3 0),(7,.d (.int .i64 p12))],[(2,some (.box (dcells (GRealm.cells a0)))),(3,some (.box (dcells (GShown.cells a1))))]⟩ (fun e s=>some (e,s)) = stepR (fun (w:Int)=>(⟨[(2,.ptr 2 0),(3,.ptr 3 0),(7,.d (.int .i64 w))],[(2,some (.box (dcells (GRealm.cells a0)))),(3,some (.box (dcells (GShown.cells a1))))]⟩ : St)) (fun (r:Unit ⊕ Unit)=>Sum.elim (fun (z:Unit)=>(((.exit 2),⟨[(2,.ptr 2 0),(3,.ptr 3 0)],[(2,some (.box (dcells (GRealm.cells a0)))),(3,some (.box (dcells (GShown.cells a1))))]⟩):Ex × St)) (fun (z:Unit)=>((.ret,⟨[(4,.d (.int .i64 1))],[]⟩):Ex × St)) r) (mallongeref36_Check_l3_s a0 a1 p12):=by
 simp -implicitDefEqProofs (decide:=true) (maxSteps:=2000000) only [b_mallongeref36_Check_l3,mallongeref36_Check_l3_s,↓e_mallongeref36_Check_l1,↓e_mallongeref36_Check_j2,↓k_mallongeref36_Has,↓k_mallongeref09_Check,↓k_mallongeref04_Plus,↓k_mallongeref09_Within,↓k_mallongeref36_Set,↓DN,↓DR,DQ,DP,↓reduceIte,Int.reduceToNat,Nat.reduceBEq,Nat.reduceAdd,Nat.reduceLT,Nat.reduceLeDiff,Nat.reduceEqDiff,Int.reduceEq,reduceCtorEq,specL,specO,specP,beq_self_eq_true,List.length_cons,List.length_nil,cM_length,Bool.not_true,Bool.not_false,if_true,if_false,List.replicate_succ,List.replicate_zero,dcells_len,Option.bind_some,none_bind,Option.map_some,Option.map_none,Sum.elim_inl,Sum.elim_inr,sized_cI,sized_cB,sized_cS,sized_cL,sized_cK,stepR_none,stepR_inl,stepR_inr,elim_stepR,stepR_ite,stepR_bind,ite_bind,ite_map,bind_map,elim_bind,elim_map,Option.bind_assoc]
 all_goals try simp only [gIf_eq]
 all_goals try rfl
theorem e_mallongeref36_Check_l3 {β:Type} (a0:GRealm) (a1:GShown) (p12:Int) (k:Ex→St→Option β):evK TT c_mallongeref36_Check_l3 ⟨[(2,.ptr 2 0),(3,.ptr 3 0),(7,.d (.int .i64 p12))],[(2,some (.box (dcells (GRealm.cells a0)))),(3,some (.box (dcells (GShown.cells a1))))]⟩ k = (mallongeref36_Check_l3 a0 a1 p12).bind (fun (r:Unit ⊕ Unit)=>Sum.elim (fun (z:Unit)=>k (.exit 2) ⟨[(2,.ptr 2 0),(3,.ptr 3 0)],[(2,some (.box (dcells (GRealm.cells a0)))),(3,some (.box (dcells (GShown.cells a1))))]⟩) (fun (z:Unit)=>k .ret ⟨[(4,.d (.int .i64 1))],[]⟩) r):=by
 have hh:=fun (w:Int)=>h_mallongeref36_Check_l3 a0 a1 w
 have h:=fun ho=>evK_loop (T:=TT) (k:=k) (c:=b_mallongeref36_Check_l3) (step:=(fun (w:Int)=>mallongeref36_Check_l3_s a0 a1 w)) _ _ ho hh p12
 refine Eq.trans (h (fun r s e=>by have q:=congrArg Prod.fst e; rcases r with x | x <;> cases q)) ?_
 unfold mallongeref36_Check_l3
 exact bind_congr' _ fun x=>by rcases x with x | x <;> rfl
theorem c_mallongeref36_Check (a0:GRealm) (a1:GShown):Vm.call TT 32 [.agg (GRealm.cells a0),.agg (GShown.cells a1)] = (mallongeref36_Check a0 a1).map fun (r:Int)=>.int .i64 r:=by
 refine (call_eqF (show TT 32 = some (.code ⟨2,116,[.tmp 4],bd32,false⟩) from rfl) _ rfl).trans ?_
 show evK TT bd32 ⟨[(0,aggD (GRealm.cells a0)),(1,aggD (GShown.cells a1))],[]⟩ _ = _
 simp -implicitDefEqProofs (decide:=true) (maxSteps:=2000000) only [bd32,mallongeref36_Check,↓e_mallongeref36_Check_l1,↓e_mallongeref36_Check_j2,↓e_mallongeref36_Check_l3,↓k_mallongeref36_Has,↓k_mallongeref09_Check,↓k_mallongeref04_Plus,↓k_mallongeref09_Within,↓k_mallongeref36_Set,↓DN,↓DR,DQ,DP,↓reduceIte,Int.reduceToNat,Nat.reduceBEq,Nat.reduceAdd,Nat.reduceLT,Nat.reduceLeDiff,Nat.reduceEqDiff,Int.reduceEq,reduceCtorEq,specL,specO,specP,beq_self_eq_true,List.length_cons,List.length_nil,cM_length,Bool.not_true,Bool.not_false,if_true,if_false,List.replicate_succ,List.replicate_zero,dcells_len,Option.bind_some,none_bind,Option.map_some,Option.map_none,Sum.elim_inl,Sum.elim_inr,sized_cI,sized_cB,sized_cS,sized_cL,sized_cK,stepR_none,stepR_inl,stepR_inr,elim_stepR,stepR_ite,stepR_bind,ite_bind,ite_map,bind_map,elim_bind,elim_map,Option.bind_assoc]
 all_goals try simp only [gIf_eq]
 all_goals try rfl
theorem k_mallongeref36_Check {β:Type} (a0:GRealm) (a1:GShown) (d:Nat) (bl:List (Nat × Option Blk)) (fz:List (Nat × Option Blk)) (k:V→Option β) (kw:V→List (Nat × Option Blk)→Option β):callF TT d bl 32 [.agg (GRealm.cells a0),.agg (GShown.cells a1)] fz k kw = (mallongeref36_Check a0 a1).bind fun (r:Int)=>k (.d (.int .i64 r)):=by
 have h:=c_mallongeref36_Check a0 a1
 exact callF_flat h (fun _=>rfl) fz
end Go.Proofs.Ytjllkddmkdajcaa
