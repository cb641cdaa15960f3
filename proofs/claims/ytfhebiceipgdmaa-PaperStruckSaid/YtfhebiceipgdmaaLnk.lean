/- The functions of the small machine compute the plain definitions. Printed by a program. -/
import Derived.Test.YtfhebiceipgdmaaLnk7
set_option linter.unusedVariables false
set_option linter.unusedSimpArgs false
namespace Go.Proofs.Ytfhebiceipgdmaa
open Vm
open Go.RowKit
set_option maxRecDepth 100000
set_option maxHeartbeats 4000000
attribute [local congr] condK_congr opsK_congr opsDK_congr valK_congr
theorem h_mpaper_Struck_l1 (a0:GFile) (a1:Int) (p1:Int) (p2:List Bool):evK TT b_mpaper_Struck_l1 ⟨[(1,.d (.int .i64 a1)),(5,.own 11 0),(13,.d (.sl (cM GAct.cells a0.Acts))),(14,.d (.int .i64 (a0.Acts.length:Int))),(15,.d (.int .i64 p1))],[(11,some (.rows 0 4 1 (cM cB p2)))]⟩ (fun e s=>some (e,s)) = stepR (fun (w:Int × (List Bool))=>(⟨[(1,.d (.int .i64 a1)),(5,.own 11 0),(13,.d (.sl (cM GAct.cells a0.Acts))),(14,.d (.int .i64 (a0.Acts.length:Int))),(15,.d (.int .i64 w.1))],[(11,some (.rows 0 4 1 (cM cB w.2)))]⟩ : St)) (fun (r:(List Bool))=>(((.exit 0),⟨[(5,.own 11 0)],[(11,some (.rows 0 4 1 (cM cB r)))]⟩):Ex × St)) (mpaper_Struck_l1_s a0 a1 p1 p2):=by
 simp -implicitDefEqProofs (decide:=true) (maxSteps:=2000000) only [b_mpaper_Struck_l1,mpaper_Struck_l1_s,↓k_mpaper_in,↓DN,↓DR,DQ,DP,↓reduceIte,Int.reduceToNat,Nat.reduceBEq,Nat.reduceAdd,Nat.reduceLT,Nat.reduceLeDiff,Nat.reduceEqDiff,Int.reduceEq,reduceCtorEq,specL,specO,specP,beq_self_eq_true,List.length_cons,List.length_nil,cM_length,Bool.not_true,Bool.not_false,if_true,if_false,List.replicate_succ,List.replicate_zero,dcells_len,Option.bind_some,none_bind,Option.map_some,Option.map_none,Sum.elim_inl,Sum.elim_inr,sized_cI,sized_cB,sized_cS,sized_cL,sized_cK,stepR_none,stepR_inl,stepR_inr,elim_stepR,stepR_ite,stepR_bind,ite_bind,ite_map,bind_map,elim_bind,elim_map,Option.bind_assoc]
 all_goals try simp only [gIf_eq]
 all_goals try rfl
theorem e_mpaper_Struck_l1 {β:Type} (a0:GFile) (a1:Int) (p1:Int) (p2:List Bool) (k:Ex→St→Option β):evK TT c_mpaper_Struck_l1 ⟨[(1,.d (.int .i64 a1)),(5,.own 11 0),(13,.d (.sl (cM GAct.cells a0.Acts))),(14,.d (.int .i64 (a0.Acts.length:Int))),(15,.d (.int .i64 p1))],[(11,some (.rows 0 4 1 (cM cB p2)))]⟩ k = (mpaper_Struck_l1 a0 a1 p1 p2).bind (fun (r:(List Bool))=>k (.exit 0) ⟨[(5,.own 11 0)],[(11,some (.rows 0 4 1 (cM cB r)))]⟩):=by
 have hh:=fun (w:Int × (List Bool))=>h_mpaper_Struck_l1 a0 a1 w.1 w.2
 have h:=fun ho=>evK_loop (T:=TT) (k:=k) (c:=b_mpaper_Struck_l1) (step:=(fun (w:Int × (List Bool))=>mpaper_Struck_l1_s a0 a1 w.1 w.2)) _ _ ho hh (p1,p2)
 refine Eq.trans (h (fun r s e=>by have q:=congrArg Prod.fst e; rcases r with x <;> cases q)) ?_
 unfold mpaper_Struck_l1
 exact bind_congr' _ fun x=>by rcases x with x <;> rfl
theorem c_mpaper_Struck (a0:GFile) (a1:Int):Vm.call TT 40 [.agg (GFile.cells a0),.int .i64 a1] = (mpaper_Struck a0 a1).map fun (r:(List Bool))=>.sl (cM cB r):=by
 refine (call_eqF (show TT 40 = some (.code ⟨2,42,[.tmp 4],bd40,false⟩) from rfl) _ rfl).trans ?_
 show evK TT bd40 ⟨[(0,aggD (GFile.cells a0)),(1,.d (.int .i64 a1))],[]⟩ _ = _
 simp -implicitDefEqProofs (decide:=true) (maxSteps:=2000000) only [bd40,mpaper_Struck,↓e_mpaper_Struck_l1,↓k_mpaper_in,↓DN,↓DR,DQ,DP,↓reduceIte,Int.reduceToNat,Nat.reduceBEq,Nat.reduceAdd,Nat.reduceLT,Nat.reduceLeDiff,Nat.reduceEqDiff,Int.reduceEq,reduceCtorEq,specL,specO,specP,beq_self_eq_true,List.length_cons,List.length_nil,cM_length,Bool.not_true,Bool.not_false,if_true,if_false,List.replicate_succ,List.replicate_zero,dcells_len,Option.bind_some,none_bind,Option.map_some,Option.map_none,Sum.elim_inl,Sum.elim_inr,sized_cI,sized_cB,sized_cS,sized_cL,sized_cK,stepR_none,stepR_inl,stepR_inr,elim_stepR,stepR_ite,stepR_bind,ite_bind,ite_map,bind_map,elim_bind,elim_map,Option.bind_assoc]
 all_goals try simp only [gIf_eq]
 all_goals try rfl
theorem k_mpaper_Struck {β:Type} (a0:GFile) (a1:Int) (d:Nat) (bl:List (Nat × Option Blk)) (fz:List (Nat × Option Blk)) (k:V→Option β) (kw:V→List (Nat × Option Blk)→Option β):callF TT d bl 40 [.agg (GFile.cells a0),.int .i64 a1] fz k kw = (mpaper_Struck a0 a1).bind fun (r:(List Bool))=>fzK fz (.d (.sl (cM cB r))) k kw:=by
 have h:=c_mpaper_Struck a0 a1
 exact callF_deep h (fun _=>rfl) (fun _=>rfl) fz
theorem h_mallongelaw12_PaperStruck_l1 (a0:GFile) (a1:Int) (p5:Int) (r1:Bool) (r3:(List Bool)) (r4:(List Bool)) (p6:Bool) (p7:Int):evK TT b_mallongelaw12_PaperStruck_l1 ⟨[(1,.d (.int .i64 a1)),(3,.ptr 3 0),(7,.d (.bool r1)),(8,.d (.sl (cM cB r3))),(9,.d (.sl (cM cB r4))),(10,.d (.int .i64 p5)),(11,.d (.bool p6)),(12,.d (.int .i64 p7))],[(3,some (.box (dcells (GFile.cells a0))))]⟩ (fun e s=>some (e,s)) = stepR (fun (w:Bool × Int)=>(⟨[(1,.d (.int .i64 a1)),(3,.ptr 3 0),(7,.d (.bool r1)),(8,.d (.sl (cM cB r3))),(9,.d (.sl (cM cB r4))),(10,.d (.int .i64 p5)),(11,.d (.bool w.1)),(12,.d (.int .i64 w.2))],[(3,some (.box (dcells (GFile.cells a0))))]⟩ : St)) (fun (r:Bool)=>(((.exit 2),⟨[(1,.d (.int .i64 a1)),(3,.ptr 3 0),(7,.d (.bool r1)),(8,.d (.sl (cM cB r3))),(9,.d (.sl (cM cB r4))),(10,.d (.int .i64 p5)),(11,.d (.bool r))],[(3,some (.box (dcells (GFile.cells a0))))]⟩):Ex × St)) (mallongelaw12_PaperStruck_l1_s a0 a1 p5 r1 r3 r4 p6 p7):=by
 simp -implicitDefEqProofs (decide:=true) (maxSteps:=2000000) only [b_mallongelaw12_PaperStruck_l1,mallongelaw12_PaperStruck_l1_s,↓k_mallongelaw12_sane,↓k_mallongeref12_Few,↓k_mpaper_Struck,↓DN,↓DR,DQ,DP,↓reduceIte,Int.reduceToNat,Nat.reduceBEq,Nat.reduceAdd,Nat.reduceLT,Nat.reduceLeDiff,Nat.reduceEqDiff,Int.reduceEq,reduceCtorEq,specL,specO,specP,beq_self_eq_true,List.length_cons,List.length_nil,cM_length,Bool.not_true,Bool.not_false,if_true,if_false,List.replicate_succ,List.replicate_zero,dcells_len,Option.bind_some,none_bind,Option.map_some,Option.map_none,Sum.elim_inl,Sum.elim_inr,sized_cI,sized_cB,sized_cS,sized_cL,sized_cK,stepR_none,stepR_inl,stepR_inr,elim_stepR,stepR_ite,stepR_bind,ite_bind,ite_map,bind_map,elim_bind,elim_map,Option.bind_assoc]
 all_goals try simp only [gIf_eq]
 all_goals try rfl
theorem e_mallongelaw12_PaperStruck_l1 {β:Type} (a0:GFile) (a1:Int) (p5:Int) (r1:Bool) (r3:(List Bool)) (r4:(List Bool)) (p6:Bool) (p7:Int) (k:Ex→St→Option β):evK TT c_mallongelaw12_PaperStruck_l1 ⟨[(1,.d (.int .i64 a1)),(3,.ptr 3 0),(7,.d (.bool r1)),(8,.d (.sl (cM cB r3))),(9,.d (.sl (cM cB r4))),(10,.d (.int .i64 p5)),(11,.d (.bool p6)),(12,.d (.int .i64 p7))],[(3,some (.box (dcells (GFile.cells a0))))]⟩ k = (mallongelaw12_PaperStruck_l1 a0 a1 p5 r1 r3 r4 p6 p7).bind (fun (r:Bool)=>k (.exit 2) ⟨[(1,.d (.int .i64 a1)),(3,.ptr 3 0),(7,.d (.bool r1)),(8,.d (.sl (cM cB r3))),(9,.d (.sl (cM cB r4))),(10,.d (.int .i64 p5)),(11,.d (.bool r))],[(3,some (.box (dcells (GFile.cells a0))))]⟩):=by
 have hh:=fun (w:Bool × Int)=>h_mallongelaw12_PaperStruck_l1 a0 a1 p5 r1 r3 r4 w.1 w.2
 have h:=fun ho=>evK_loop (T:=TT) (k:=k) (c:=b_mallongelaw12_PaperStruck_l1) (step:=(fun (w:Bool × Int)=>mallongelaw12_PaperStruck_l1_s a0 a1 p5 r1 r3 r4 w.1 w.2)) _ _ ho hh (p6,p7)
 refine Eq.trans (h (fun r s e=>by have q:=congrArg Prod.fst e; rcases r with x <;> cases q)) ?_
 unfold mallongelaw12_PaperStruck_l1
 exact bind_congr' _ fun x=>by rcases x with x <;> rfl
theorem h_mallongelaw12_PaperStruck_l2 (a0:GFile) (a1:Int) (r1:Bool) (r3:(List Bool)) (r4:(List Bool)) (p5:Int):evK TT b_mallongelaw12_PaperStruck_l2 ⟨[(1,.d (.int .i64 a1)),(3,.ptr 3 0),(7,.d (.bool r1)),(8,.d (.sl (cM cB r3))),(9,.d (.sl (cM cB r4))),(10,.d (.int .i64 p5))],[(3,some (.box (dcells (GFile.cells a0))))]⟩ (fun e s=>some (e,s)) = stepR (fun (w:Int)=>(⟨[(1,.d (.int .i64 a1)),(3,.ptr 3 0),(7,.d (.bool r1)),(8,.d (.sl (cM cB r3))),(9,.d (.sl (cM cB r4))),(10,.d (.int .i64 w))],[(3,some (.box (dcells (GFile.cells a0))))]⟩ : St)) (fun (r:Unit ⊕ Unit)=>Sum.elim (fun (z:Unit)=>(((.exit 0),⟨[(7,.d (.bool r1))],[]⟩):Ex × St)) (fun (z:Unit)=>((.ret,⟨[(6,.d (.bool false))],[]⟩):Ex × St)) r) (mallongelaw12_PaperStruck_l2_s a0 a1 r1 r3 r4 p5):=by
 simp -implicitDefEqProofs (decide:=true) (maxSteps:=2000000) only [b_mallongelaw12_PaperStruck_l2,mallongelaw12_PaperStruck_l2_s,↓e_mallongelaw12_PaperStruck_l1,↓k_mallongelaw12_sane,↓k_mallongeref12_Few,↓k_mpaper_Struck,↓DN,↓DR,DQ,DP,↓reduceIte,Int.reduceToNat,Nat.reduceBEq,Nat.reduceAdd,Nat.reduceLT,Nat.reduceLeDiff,Nat.reduceEqDiff,Int.reduceEq,reduceCtorEq,specL,specO,specP,beq_self_eq_true,List.length_cons,List.length_nil,cM_length,Bool.not_true,Bool.not_false,if_true,if_false,List.replicate_succ,List.replicate_zero,dcells_len,Option.bind_some,none_bind,Option.map_some,Option.map_none,Sum.elim_inl,Sum.elim_inr,sized_cI,sized_cB,sized_cS,sized_cL,sized_cK,stepR_none,stepR_inl,stepR_inr,elim_stepR,stepR_ite,stepR_bind,ite_bind,ite_map,bind_map,elim_bind,elim_map,Option.bind_assoc]
 all_goals try simp only [gIf_eq]
 all_goals try rfl
theorem e_mallongelaw12_PaperStruck_l2 {β:Type} (a0:GFile) (a1:Int) (r1:Bool) (r3:(List Bool)) (r4:(List Bool)) (p5:Int) (k:Ex→St→Option β):evK TT c_mallongelaw12_PaperStruck_l2 ⟨[(1,.d (.int .i64 a1)),(3,.ptr 3 0),(7,.d (.bool r1)),(8,.d (.sl (cM cB r3))),(9,.d (.sl (cM cB r4))),(10,.d (.int .i64 p5))],[(3,some (.box (dcells (GFile.cells a0))))]⟩ k = (mallongelaw12_PaperStruck_l2 a0 a1 r1 r3 r4 p5).bind (fun (r:Unit ⊕ Unit)=>Sum.elim (fun (z:Unit)=>k (.exit 0) ⟨[(7,.d (.bool r1))],[]⟩) (fun (z:Unit)=>k .ret ⟨[(6,.d (.bool false))],[]⟩) r):=by
 have hh:=fun (w:Int)=>h_mallongelaw12_PaperStruck_l2 a0 a1 r1 r3 r4 w
 have h:=fun ho=>evK_loop (T:=TT) (k:=k) (c:=b_mallongelaw12_PaperStruck_l2) (step:=(fun (w:Int)=>mallongelaw12_PaperStruck_l2_s a0 a1 r1 r3 r4 w)) _ _ ho hh p5
 refine Eq.trans (h (fun r s e=>by have q:=congrArg Prod.fst e; rcases r with x | x <;> cases q)) ?_
 unfold mallongelaw12_PaperStruck_l2
 exact bind_congr' _ fun x=>by rcases x with x | x <;> rfl
theorem c_mallongelaw12_PaperStruck (a0:GFile) (a1:Int) (a2:Int):Vm.call TT 11 [.agg (GFile.cells a0),.int .i64 a1,.int .i64 a2] = (mallongelaw12_PaperStruck a0 a1 a2).map fun (r:Bool)=>.bool r:=by
 refine (call_eqF (show TT 11 = some (.code ⟨3,119,[.tmp 6],bd11,false⟩) from rfl) _ rfl).trans ?_
 show evK TT bd11 ⟨[(0,aggD (GFile.cells a0)),(1,.d (.int .i64 a1)),(2,.d (.int .i64 a2))],[]⟩ _ = _
 simp -implicitDefEqProofs (decide:=true) (maxSteps:=2000000) only [bd11,mallongelaw12_PaperStruck,↓e_mallongelaw12_PaperStruck_l1,↓e_mallongelaw12_PaperStruck_l2,↓k_mallongelaw12_sane,↓k_mallongeref12_Few,↓k_mpaper_Struck,↓DN,↓DR,DQ,DP,↓reduceIte,Int.reduceToNat,Nat.reduceBEq,Nat.reduceAdd,Nat.reduceLT,Nat.reduceLeDiff,Nat.reduceEqDiff,Int.reduceEq,reduceCtorEq,specL,specO,specP,beq_self_eq_true,List.length_cons,List.length_nil,cM_length,Bool.not_true,Bool.not_false,if_true,if_false,List.replicate_succ,List.replicate_zero,dcells_len,Option.bind_some,none_bind,Option.map_some,Option.map_none,Sum.elim_inl,Sum.elim_inr,sized_cI,sized_cB,sized_cS,sized_cL,sized_cK,stepR_none,stepR_inl,stepR_inr,elim_stepR,stepR_ite,stepR_bind,ite_bind,ite_map,bind_map,elim_bind,elim_map,Option.bind_assoc]
 all_goals try simp only [gIf_eq]
 all_goals try rfl
end Go.Proofs.Ytfhebiceipgdmaa
