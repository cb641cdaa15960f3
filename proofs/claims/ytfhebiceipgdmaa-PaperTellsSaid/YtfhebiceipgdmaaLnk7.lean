/- The functions of the small machine compute the plain definitions. Printed by a program. -/
import Derived.Test.YtfhebiceipgdmaaLnk6
set_option linter.unusedVariables false
set_option linter.unusedSimpArgs false
namespace Go.Proofs.Ytfhebiceipgdmaa
open Vm
open Go.RowKit
set_option maxRecDepth 100000
set_option maxHeartbeats 4000000
attribute [local congr] pR rP pQ rO
theorem GL (a0:aA) (a1:aB) (a2:Int):Vm.call TT 89 [.agg a0.cells,.agg a1.cells,.int .i64 a2] = (lC a0 a1 a2).map fun (r:Bool)=>.bool r:=by
 refine (bQ (show TT 89 = some (.code ⟨3,229,[.tmp 6],aGX,false⟩) from rfl) _ rfl).trans ?_
 show cP TT aGX ⟨[(0,cO a0.cells),(1,cO a1.cells),(2,.d (.int .i64 a2))],[]⟩ _ = _
 simp -implicitDefEqProofs (decide:=true) (maxSteps:=2000000) only [aGX,lC,↓bC,↓F0,↓DN,↓DR,DQ,DP,↓reduceIte,Int.reduceToNat,Nat.reduceBEq,Nat.reduceAdd,Nat.reduceLT,Nat.reduceLeDiff,Nat.reduceEqDiff,Int.reduceEq,ne_eq,zN,reduceCtorEq,bJ,bM,bN,zM,zA,zB,aH,zC,zD,if_true,if_false,zE,zF,aG,zG,aJ,zH,zI,zJ,zK,aQ,aP,aV,aT,aS,aD,aL,aM,aE,aK,aF,aR,aZ,aU,aI,aW,zL]
 all_goals try simp only [bG]
 all_goals try rfl
theorem n0 {β:Type} (a0:aA) (a1:aB) (a2:Int) (d:Nat) (bl:List (Nat × Option aY)) (fz:List (Nat × Option aY)) (k:V→Option β) (kw:V→List (Nat × Option aY)→Option β):cH TT d bl 89 [.agg a0.cells,.agg a1.cells,.int .i64 a2] fz k kw = (lC a0 a1 a2).bind fun (r:Bool)=>k (.d (.bool r)):=by
 have h:=GL a0 a1 a2
 exact bI h (fun _=>rfl) fz
theorem CG (a1:aB) (a2:Int) (x1:aX) (p7:Int):cP TT lK ⟨[(2,.d (.int .i64 a2)),(4,.ptr 4 0),(7,.ptr 7 0),(8,.d (.int .i64 p7))],[(4,some (.box (aC a1.cells))),(7,some (.box (aC x1.cells)))]⟩ (fun e s=>some (e,s)) = cV (fun (w:Int)=>(⟨[(2,.d (.int .i64 a2)),(4,.ptr 4 0),(7,.ptr 7 0),(8,.d (.int .i64 w))],[(4,some (.box (aC a1.cells))),(7,some (.box (aC x1.cells)))]⟩ : St)) (fun (r:Unit ⊕ Unit)=>Sum.elim (fun (z:Unit)=>(((.exit 0),⟨[],[]⟩):Ex × St)) (fun (z:Unit)=>((.ret,⟨[(6,.d (.int .i64 5))],[]⟩):Ex × St)) r) (dQ a1 a2 x1 p7):=by
 simp -implicitDefEqProofs (decide:=true) (maxSteps:=2000000) only [lK,dQ,↓bC,↓n0,↓DN,↓DR,DQ,DP,↓reduceIte,Int.reduceToNat,Nat.reduceBEq,Nat.reduceAdd,Nat.reduceLT,Nat.reduceLeDiff,Nat.reduceEqDiff,Int.reduceEq,ne_eq,zN,reduceCtorEq,bJ,bM,bN,zM,zA,zB,aH,zC,zD,if_true,if_false,zE,zF,aG,zG,aJ,zH,zI,zJ,zK,aQ,aP,aV,aT,aS,aD,aL,aM,aE,aK,aF,aR,aZ,aU,aI,aW,zL]
 all_goals try simp only [bG]
 all_goals try rfl
theorem n9 {β:Type} (a1:aB) (a2:Int) (x1:aX) (p7:Int) (k:Ex→St→Option β):cP TT tO ⟨[(2,.d (.int .i64 a2)),(4,.ptr 4 0),(7,.ptr 7 0),(8,.d (.int .i64 p7))],[(4,some (.box (aC a1.cells))),(7,some (.box (aC x1.cells)))]⟩ k = (eN a1 a2 x1 p7).bind (fun (r:Unit ⊕ Unit)=>Sum.elim (fun (z:Unit)=>k (.exit 0) ⟨[],[]⟩) (fun (z:Unit)=>k .ret ⟨[(6,.d (.int .i64 5))],[]⟩) r):=by
 have hh:=fun (w:Int)=>CG a1 a2 x1 w
 have h:=fun ho=>cA (T:=TT) (k:=k) (c:=lK) (step:=(fun (w:Int)=>dQ a1 a2 x1 w)) _ _ ho hh p7
 refine Eq.trans (h (fun r s e=>by have q:=congrArg Prod.fst e; rcases r with x | x <;> cases q)) ?_
 unfold eN
 exact bK _ fun x=>by rcases x with x | x <;> rfl
theorem tV {β:Type} (a0:aA) (a1:aB) (a2:Int) (x1:aX) (k:Ex→St→Option β):cP TT oC ⟨[(2,.d (.int .i64 a2)),(3,.ptr 3 0),(4,.ptr 4 0),(7,.ptr 7 0)],[(3,some (.box (aC a0.cells))),(4,some (.box (aC a1.cells))),(7,some (.box (aC x1.cells)))]⟩ k = (jV a0 a1 a2 x1).bind (fun (r:Int)=>k .ret ⟨[(6,.d (.int .i64 r))],[]⟩):=by
 simp -implicitDefEqProofs (decide:=true) (maxSteps:=2000000) only [oC,jV,↓n9,↓bC,↓n0,↓DN,↓DR,DQ,DP,↓reduceIte,Int.reduceToNat,Nat.reduceBEq,Nat.reduceAdd,Nat.reduceLT,Nat.reduceLeDiff,Nat.reduceEqDiff,Int.reduceEq,ne_eq,zN,reduceCtorEq,bJ,bM,bN,zM,zA,zB,aH,zC,zD,if_true,if_false,zE,zF,aG,zG,aJ,zH,zI,zJ,zK,aQ,aP,aV,aT,aS,aD,aL,aM,aE,aK,aF,aR,aZ,aU,aI,aW,zL]
 all_goals try simp only [bG]
 all_goals try rfl
theorem CS {β:Type} (a0:aA) (a1:aB) (a2:Int) (x1:aX) (k:Ex→St→Option β):cP TT n7 ⟨[(2,.d (.int .i64 a2)),(3,.ptr 3 0),(4,.ptr 4 0),(7,.ptr 7 0)],[(3,some (.box (aC a0.cells))),(4,some (.box (aC a1.cells))),(7,some (.box (aC x1.cells)))]⟩ k = (jW a0 a1 a2 x1).bind (fun (r:Int)=>k .ret ⟨[(6,.d (.int .i64 r))],[]⟩):=by
 simp -implicitDefEqProofs (decide:=true) (maxSteps:=2000000) only [n7,jW,↓n9,↓tV,↓bC,↓n0,↓DN,↓DR,DQ,DP,↓reduceIte,Int.reduceToNat,Nat.reduceBEq,Nat.reduceAdd,Nat.reduceLT,Nat.reduceLeDiff,Nat.reduceEqDiff,Int.reduceEq,ne_eq,zN,reduceCtorEq,bJ,bM,bN,zM,zA,zB,aH,zC,zD,if_true,if_false,zE,zF,aG,zG,aJ,zH,zI,zJ,zK,aQ,aP,aV,aT,aS,aD,aL,aM,aE,aK,aF,aR,aZ,aU,aI,aW,zL]
 all_goals try simp only [bG]
 all_goals try rfl
theorem F1 (a0:aA) (a1:aB) (a2:Int):Vm.call TT 68 [.agg a0.cells,.agg a1.cells,.int .i64 a2] = (kB a0 a1 a2).map fun (r:Int)=>.int .i64 r:=by
 refine (bQ (show TT 68 = some (.code ⟨3,100,[.tmp 6],aFJ,false⟩) from rfl) _ rfl).trans ?_
 show cP TT aFJ ⟨[(0,cO a0.cells),(1,cO a1.cells),(2,.d (.int .i64 a2))],[]⟩ _ = _
 simp -implicitDefEqProofs (decide:=true) (maxSteps:=2000000) only [aFJ,kB,↓n9,↓tV,↓CS,↓bC,↓n0,↓DN,↓DR,DQ,DP,↓reduceIte,Int.reduceToNat,Nat.reduceBEq,Nat.reduceAdd,Nat.reduceLT,Nat.reduceLeDiff,Nat.reduceEqDiff,Int.reduceEq,ne_eq,zN,reduceCtorEq,bJ,bM,bN,zM,zA,zB,aH,zC,zD,if_true,if_false,zE,zF,aG,zG,aJ,zH,zI,zJ,zK,aQ,aP,aV,aT,aS,aD,aL,aM,aE,aK,aF,aR,aZ,aU,aI,aW,zL]
 all_goals try simp only [bG]
 all_goals try rfl
theorem gA {β:Type} (a0:aA) (a1:aB) (a2:Int) (d:Nat) (bl:List (Nat × Option aY)) (fz:List (Nat × Option aY)) (k:V→Option β) (kw:V→List (Nat × Option aY)→Option β):cH TT d bl 68 [.agg a0.cells,.agg a1.cells,.int .i64 a2] fz k kw = (kB a0 a1 a2).bind fun (r:Int)=>k (.d (.int .i64 r)):=by
 have h:=F1 a0 a1 a2
 exact bI h (fun _=>rfl) fz
theorem lU {β:Type} (a2:bP) (p6:Bool) (p8:Bool) (r2:Bool) (r3:Bool) (k:Ex→St→Option β):cP TT oK ⟨[(5,.ptr 5 0),(7,.d (.bool r2)),(8,.d (.bool r3)),(9,.d (.bool p6)),(10,.d (.bool p8)),(55,.d (.int .i64 a2.Kind))],[(5,some (.box (aC a2.cells)))]⟩ k = (i6 a2 p6 p8 r2 r3).bind (fun (r:Unit ⊕ Bool)=>Sum.elim (fun (z:Unit)=>k .normal ⟨[],[]⟩) (fun (z:Bool)=>k .ret ⟨[(6,.d (.bool z))],[]⟩) r):=by
 simp -implicitDefEqProofs (decide:=true) (maxSteps:=2000000) only [oK,i6,↓bC,↓gF,↓DN,↓DR,DQ,DP,↓reduceIte,Int.reduceToNat,Nat.reduceBEq,Nat.reduceAdd,Nat.reduceLT,Nat.reduceLeDiff,Nat.reduceEqDiff,Int.reduceEq,ne_eq,zN,reduceCtorEq,bJ,bM,bN,zM,zA,zB,aH,zC,zD,if_true,if_false,zE,zF,aG,zG,aJ,zH,zI,zJ,zK,aQ,aP,aV,aT,aS,aD,aL,aM,aE,aK,aF,aR,aZ,aU,aI,aW,zL]
 all_goals try simp only [bG]
 all_goals try rfl
theorem oL {β:Type} (a2:bP) (p6:Bool) (p8:Bool) (r2:Bool) (r3:Bool) (k:Ex→St→Option β):cP TT oS ⟨[(5,.ptr 5 0),(7,.d (.bool r2)),(8,.d (.bool r3)),(9,.d (.bool p6)),(10,.d (.bool p8)),(55,.d (.int .i64 a2.Kind))],[(5,some (.box (aC a2.cells)))]⟩ k = (gL a2 p6 p8 r2 r3).bind (fun (r:Unit ⊕ Bool)=>Sum.elim (fun (z:Unit)=>k .normal ⟨[],[]⟩) (fun (z:Bool)=>k .ret ⟨[(6,.d (.bool z))],[]⟩) r):=by
 simp -implicitDefEqProofs (decide:=true) (maxSteps:=2000000) only [oS,gL,↓lU,↓bC,↓gF,↓DN,↓DR,DQ,DP,↓reduceIte,Int.reduceToNat,Nat.reduceBEq,Nat.reduceAdd,Nat.reduceLT,Nat.reduceLeDiff,Nat.reduceEqDiff,Int.reduceEq,ne_eq,zN,reduceCtorEq,bJ,bM,bN,zM,zA,zB,aH,zC,zD,if_true,if_false,zE,zF,aG,zG,aJ,zH,zI,zJ,zK,aQ,aP,aV,aT,aS,aD,aL,aM,aE,aK,aF,aR,aZ,aU,aI,aW,zL]
 all_goals try simp only [bG]
 all_goals try rfl
theorem tR {β:Type} (a2:bP) (p6:Bool) (r2:Bool) (r3:Bool) (p8:Bool) (k:Ex→St→Option β):cP TT oE ⟨[(5,.ptr 5 0),(7,.d (.bool r2)),(8,.d (.bool r3)),(9,.d (.bool p6)),(10,.d (.bool p8))],[(5,some (.box (aC a2.cells)))]⟩ k = (gH a2 p6 r2 r3 p8).bind (fun (r:Bool)=>k .ret ⟨[(6,.d (.bool r))],[]⟩):=by
 simp -implicitDefEqProofs (decide:=true) (maxSteps:=2000000) only [oE,gH,↓lU,↓oL,↓bC,↓gF,↓DN,↓DR,DQ,DP,↓reduceIte,Int.reduceToNat,Nat.reduceBEq,Nat.reduceAdd,Nat.reduceLT,Nat.reduceLeDiff,Nat.reduceEqDiff,Int.reduceEq,ne_eq,zN,reduceCtorEq,bJ,bM,bN,zM,zA,zB,aH,zC,zD,if_true,if_false,zE,zF,aG,zG,aJ,zH,zI,zJ,zK,aQ,aP,aV,aT,aS,aD,aL,aM,aE,aK,aF,aR,aZ,aU,aI,aW,zL]
 all_goals try simp only [bG]
 all_goals try rfl
theorem C3 {β:Type} (a1:aB) (a2:bP) (r2:Bool) (r3:Bool) (p6:Bool) (k:Ex→St→Option β):cP TT oB ⟨[(4,.ptr 4 0),(5,.ptr 5 0),(7,.d (.bool r2)),(8,.d (.bool r3)),(9,.d (.bool p6))],[(4,some (.box (aC a1.cells))),(5,some (.box (aC a2.cells)))]⟩ k = (gM a1 a2 r2 r3 p6).bind (fun (r:Bool)=>k .ret ⟨[(6,.d (.bool r))],[]⟩):=by
 simp -implicitDefEqProofs (decide:=true) (maxSteps:=2000000) only [oB,gM,↓lU,↓oL,↓tR,↓bC,↓gF,↓DN,↓DR,DQ,DP,↓reduceIte,Int.reduceToNat,Nat.reduceBEq,Nat.reduceAdd,Nat.reduceLT,Nat.reduceLeDiff,Nat.reduceEqDiff,Int.reduceEq,ne_eq,zN,reduceCtorEq,bJ,bM,bN,zM,zA,zB,aH,zC,zD,if_true,if_false,zE,zF,aG,zG,aJ,zH,zI,zJ,zK,aQ,aP,aV,aT,aS,aD,aL,aM,aE,aK,aF,aR,aZ,aU,aI,aW,zL]
 all_goals try simp only [bG]
 all_goals try rfl
theorem FW (a0:aA) (a1:aB) (a2:bP):Vm.call TT 90 [.agg a0.cells,.agg a1.cells,.agg a2.cells] = (kE a0 a1 a2).map fun (r:Bool)=>.bool r:=by
 refine (bQ (show TT 90 = some (.code ⟨3,170,[.tmp 6],aFE,false⟩) from rfl) _ rfl).trans ?_
 show cP TT aFE ⟨[(0,cO a0.cells),(1,cO a1.cells),(2,cO a2.cells)],[]⟩ _ = _
 simp -implicitDefEqProofs (decide:=true) (maxSteps:=2000000) only [aFE,kE,↓lU,↓oL,↓tR,↓C3,↓bC,↓gF,↓DN,↓DR,DQ,DP,↓reduceIte,Int.reduceToNat,Nat.reduceBEq,Nat.reduceAdd,Nat.reduceLT,Nat.reduceLeDiff,Nat.reduceEqDiff,Int.reduceEq,ne_eq,zN,reduceCtorEq,bJ,bM,bN,zM,zA,zB,aH,zC,zD,if_true,if_false,zE,zF,aG,zG,aJ,zH,zI,zJ,zK,aQ,aP,aV,aT,aS,aD,aL,aM,aE,aK,aF,aR,aZ,aU,aI,aW,zL]
 all_goals try simp only [bG]
 all_goals try rfl
theorem wK {β:Type} (a0:aA) (a1:aB) (a2:bP) (d:Nat) (bl:List (Nat × Option aY)) (fz:List (Nat × Option aY)) (k:V→Option β) (kw:V→List (Nat × Option aY)→Option β):cH TT d bl 90 [.agg a0.cells,.agg a1.cells,.agg a2.cells] fz k kw = (kE a0 a1 a2).bind fun (r:Bool)=>k (.d (.bool r)):=by
 have h:=FW a0 a1 a2
 exact bI h (fun _=>rfl) fz
theorem EB {β:Type} (a1:aB) (a2:Int) (x1:bP) (k:Ex→St→Option β):cP TT pJ ⟨[(2,.d (.int .i64 a2)),(4,.ptr 4 0),(7,.ptr 7 0)],[(4,some (.box (aC a1.cells))),(7,some (.box (aC x1.cells)))]⟩ k = (k7 a1 a2 x1).bind (fun (r:Int)=>k .ret ⟨[(6,.d (.int .i64 r))],[]⟩):=by
 simp -implicitDefEqProofs (decide:=true) (maxSteps:=2000000) only [pJ,k7,↓bC,↓wK,↓DN,↓DR,DQ,DP,↓reduceIte,Int.reduceToNat,Nat.reduceBEq,Nat.reduceAdd,Nat.reduceLT,Nat.reduceLeDiff,Nat.reduceEqDiff,Int.reduceEq,ne_eq,zN,reduceCtorEq,bJ,bM,bN,zM,zA,zB,aH,zC,zD,if_true,if_false,zE,zF,aG,zG,aJ,zH,zI,zJ,zK,aQ,aP,aV,aT,aS,aD,aL,aM,aE,aK,aF,aR,aZ,aU,aI,aW,zL]
 all_goals try simp only [bG]
 all_goals try rfl
theorem GR (a0:aA) (a1:aB) (a2:Int):Vm.call TT 70 [.agg a0.cells,.agg a1.cells,.int .i64 a2] = (lD a0 a1 a2).map fun (r:Int)=>.int .i64 r:=by
 refine (bQ (show TT 70 = some (.code ⟨3,76,[.tmp 6],aFx,false⟩) from rfl) _ rfl).trans ?_
 show cP TT aFx ⟨[(0,cO a0.cells),(1,cO a1.cells),(2,.d (.int .i64 a2))],[]⟩ _ = _
 simp -implicitDefEqProofs (decide:=true) (maxSteps:=2000000) only [aFx,lD,↓EB,↓bC,↓wK,↓DN,↓DR,DQ,DP,↓reduceIte,Int.reduceToNat,Nat.reduceBEq,Nat.reduceAdd,Nat.reduceLT,Nat.reduceLeDiff,Nat.reduceEqDiff,Int.reduceEq,ne_eq,zN,reduceCtorEq,bJ,bM,bN,zM,zA,zB,aH,zC,zD,if_true,if_false,zE,zF,aG,zG,aJ,zH,zI,zJ,zK,aQ,aP,aV,aT,aS,aD,aL,aM,aE,aK,aF,aR,aZ,aU,aI,aW,zL]
 all_goals try simp only [bG]
 all_goals try rfl
theorem gE {β:Type} (a0:aA) (a1:aB) (a2:Int) (d:Nat) (bl:List (Nat × Option aY)) (fz:List (Nat × Option aY)) (k:V→Option β) (kw:V→List (Nat × Option aY)→Option β):cH TT d bl 70 [.agg a0.cells,.agg a1.cells,.int .i64 a2] fz k kw = (lD a0 a1 a2).bind fun (r:Int)=>k (.d (.int .i64 r)):=by
 have h:=GR a0 a1 a2
 exact bI h (fun _=>rfl) fz
theorem FX (a0:aB) (a1:Int):Vm.call TT 71 [.agg a0.cells,.int .i64 a1] = (j9 a0 a1).map fun (r:Int)=>.int .i64 r:=by
 refine (bQ (show TT 71 = some (.code ⟨2,59,[.tmp 4],aIj,false⟩) from rfl) _ rfl).trans ?_
 show cP TT aIj ⟨[(0,cO a0.cells),(1,.d (.int .i64 a1))],[]⟩ _ = _
 simp -implicitDefEqProofs (decide:=true) (maxSteps:=2000000) only [aIj,j9,↓bC,↓DN,↓DR,DQ,DP,↓reduceIte,Int.reduceToNat,Nat.reduceBEq,Nat.reduceAdd,Nat.reduceLT,Nat.reduceLeDiff,Nat.reduceEqDiff,Int.reduceEq,ne_eq,zN,reduceCtorEq,bJ,bM,bN,zM,zA,zB,aH,zC,zD,if_true,if_false,zE,zF,aG,zG,aJ,zH,zI,zJ,zK,aQ,aP,aV,aT,aS,aD,aL,aM,aE,aK,aF,aR,aZ,aU,aI,aW,zL]
 all_goals try simp only [bG]
 all_goals try rfl
theorem fU {β:Type} (a0:aB) (a1:Int) (d:Nat) (bl:List (Nat × Option aY)) (fz:List (Nat × Option aY)) (k:V→Option β) (kw:V→List (Nat × Option aY)→Option β):cH TT d bl 71 [.agg a0.cells,.int .i64 a1] fz k kw = (j9 a0 a1).bind fun (r:Int)=>k (.d (.int .i64 r)):=by
 have h:=FX a0 a1
 exact bI h (fun _=>rfl) fz
theorem CK (a0:aA) (a1:aB) (p3:Int) (p4:Int):cP TT lM ⟨[(2,.ptr 2 0),(3,.ptr 3 0),(5,.d (.int .i64 p3)),(6,.d (.int .i64 p4))],[(2,some (.box (aC a0.cells))),(3,some (.box (aC a1.cells)))]⟩ (fun e s=>some (e,s)) = cV (fun (w:Int × Int)=>(⟨[(2,.ptr 2 0),(3,.ptr 3 0),(5,.d (.int .i64 w.1)),(6,.d (.int .i64 w.2))],[(2,some (.box (aC a0.cells))),(3,some (.box (aC a1.cells)))]⟩ : St)) (fun (r:Int)=>(((.exit 0),⟨[(2,.ptr 2 0),(3,.ptr 3 0),(5,.d (.int .i64 r))],[(2,some (.box (aC a0.cells))),(3,some (.box (aC a1.cells)))]⟩):Ex × St)) (dP a0 a1 p3 p4):=by
 simp -implicitDefEqProofs (decide:=true) (maxSteps:=2000000) only [lM,dP,↓fX,↓gA,↓bC,↓gE,↓fU,↓DN,↓DR,DQ,DP,↓reduceIte,Int.reduceToNat,Nat.reduceBEq,Nat.reduceAdd,Nat.reduceLT,Nat.reduceLeDiff,Nat.reduceEqDiff,Int.reduceEq,ne_eq,zN,reduceCtorEq,bJ,bM,bN,zM,zA,zB,aH,zC,zD,if_true,if_false,zE,zF,aG,zG,aJ,zH,zI,zJ,zK,aQ,aP,aV,aT,aS,aD,aL,aM,aE,aK,aF,aR,aZ,aU,aI,aW,zL]
 all_goals try simp only [bG]
 all_goals try rfl
theorem fR {β:Type} (a0:aA) (a1:aB) (p3:Int) (p4:Int) (k:Ex→St→Option β):cP TT tY ⟨[(2,.ptr 2 0),(3,.ptr 3 0),(5,.d (.int .i64 p3)),(6,.d (.int .i64 p4))],[(2,some (.box (aC a0.cells))),(3,some (.box (aC a1.cells)))]⟩ k = (jF a0 a1 p3 p4).bind (fun (r:Int)=>k (.exit 0) ⟨[(2,.ptr 2 0),(3,.ptr 3 0),(5,.d (.int .i64 r))],[(2,some (.box (aC a0.cells))),(3,some (.box (aC a1.cells)))]⟩):=by
 have hh:=fun (w:Int × Int)=>CK a0 a1 w.1 w.2
 have h:=fun ho=>cA (T:=TT) (k:=k) (c:=lM) (step:=(fun (w:Int × Int)=>dP a0 a1 w.1 w.2)) _ _ ho hh (p3,p4)
 refine Eq.trans (h (fun r s e=>by have q:=congrArg Prod.fst e; rcases r with x <;> cases q)) ?_
 unfold jF
 exact bK _ fun x=>by rcases x with x <;> rfl
theorem hN {β:Type} (a0:aA) (a1:aB) (p8:Int) (p9:Int) (p11:Int) (k:Ex→St→Option β):cP TT oG ⟨[(2,.ptr 2 0),(3,.ptr 3 0),(5,.d (.int .i64 p8)),(7,.d (.int .i64 p9)),(8,.d (.int .i64 p11))],[(2,some (.box (aC a0.cells))),(3,some (.box (aC a1.cells)))]⟩ k = (gI a0 a1 p8 p9 p11).bind (fun (r:Int)=>k .normal ⟨[(2,.ptr 2 0),(3,.ptr 3 0),(5,.d (.int .i64 r)),(7,.d (.int .i64 p9))],[(2,some (.box (aC a0.cells))),(3,some (.box (aC a1.cells)))]⟩):=by
 simp -implicitDefEqProofs (decide:=true) (maxSteps:=2000000) only [oG,gI,↓fR,↓fX,↓gA,↓bC,↓gE,↓fU,↓DN,↓DR,DQ,DP,↓reduceIte,Int.reduceToNat,Nat.reduceBEq,Nat.reduceAdd,Nat.reduceLT,Nat.reduceLeDiff,Nat.reduceEqDiff,Int.reduceEq,ne_eq,zN,reduceCtorEq,bJ,bM,bN,zM,zA,zB,aH,zC,zD,if_true,if_false,zE,zF,aG,zG,aJ,zH,zI,zJ,zK,aQ,aP,aV,aT,aS,aD,aL,aM,aE,aK,aF,aR,aZ,aU,aI,aW,zL]
 all_goals try simp only [bG]
 all_goals try rfl
theorem CI (a0:aA) (a1:aB) (p8:Int) (p9:Int):cP TT lR ⟨[(2,.ptr 2 0),(3,.ptr 3 0),(5,.d (.int .i64 p8)),(7,.d (.int .i64 p9))],[(2,some (.box (aC a0.cells))),(3,some (.box (aC a1.cells)))]⟩ (fun e s=>some (e,s)) = cV (fun (w:Int × Int)=>(⟨[(2,.ptr 2 0),(3,.ptr 3 0),(5,.d (.int .i64 w.1)),(7,.d (.int .i64 w.2))],[(2,some (.box (aC a0.cells))),(3,some (.box (aC a1.cells)))]⟩ : St)) (fun (r:Int)=>(((.exit 2),⟨[(2,.ptr 2 0),(3,.ptr 3 0),(5,.d (.int .i64 r))],[(2,some (.box (aC a0.cells))),(3,some (.box (aC a1.cells)))]⟩):Ex × St)) (dO a0 a1 p8 p9):=by
 simp -implicitDefEqProofs (decide:=true) (maxSteps:=2000000) only [lR,dO,↓fR,↓hN,↓fX,↓gA,↓bC,↓gE,↓fU,↓DN,↓DR,DQ,DP,↓reduceIte,Int.reduceToNat,Nat.reduceBEq,Nat.reduceAdd,Nat.reduceLT,Nat.reduceLeDiff,Nat.reduceEqDiff,Int.reduceEq,ne_eq,zN,reduceCtorEq,bJ,bM,bN,zM,zA,zB,aH,zC,zD,if_true,if_false,zE,zF,aG,zG,aJ,zH,zI,zJ,zK,aQ,aP,aV,aT,aS,aD,aL,aM,aE,aK,aF,aR,aZ,aU,aI,aW,zL]
 all_goals try simp only [bG]
 all_goals try rfl
theorem lL {β:Type} (a0:aA) (a1:aB) (p8:Int) (p9:Int) (k:Ex→St→Option β):cP TT tK ⟨[(2,.ptr 2 0),(3,.ptr 3 0),(5,.d (.int .i64 p8)),(7,.d (.int .i64 p9))],[(2,some (.box (aC a0.cells))),(3,some (.box (aC a1.cells)))]⟩ k = (jU a0 a1 p8 p9).bind (fun (r:Int)=>k (.exit 2) ⟨[(2,.ptr 2 0),(3,.ptr 3 0),(5,.d (.int .i64 r))],[(2,some (.box (aC a0.cells))),(3,some (.box (aC a1.cells)))]⟩):=by
 have hh:=fun (w:Int × Int)=>CI a0 a1 w.1 w.2
 have h:=fun ho=>cA (T:=TT) (k:=k) (c:=lR) (step:=(fun (w:Int × Int)=>dO a0 a1 w.1 w.2)) _ _ ho hh (p8,p9)
 refine Eq.trans (h (fun r s e=>by have q:=congrArg Prod.fst e; rcases r with x <;> cases q)) ?_
 unfold jU
 exact bK _ fun x=>by rcases x with x <;> rfl
theorem CP (a0:aA) (a1:aB) (p21:Int) (p22:Int):cP TT lO ⟨[(2,.ptr 2 0),(3,.ptr 3 0),(5,.d (.int .i64 p21)),(9,.d (.int .i64 p22))],[(2,some (.box (aC a0.cells))),(3,some (.box (aC a1.cells)))]⟩ (fun e s=>some (e,s)) = cV (fun (w:Int × Int)=>(⟨[(2,.ptr 2 0),(3,.ptr 3 0),(5,.d (.int .i64 w.1)),(9,.d (.int .i64 w.2))],[(2,some (.box (aC a0.cells))),(3,some (.box (aC a1.cells)))]⟩ : St)) (fun (r:Int)=>(((.exit 4),⟨[(3,.ptr 3 0),(5,.d (.int .i64 r))],[(3,some (.box (aC a1.cells)))]⟩):Ex × St)) (dM a0 a1 p21 p22):=by
 simp -implicitDefEqProofs (decide:=true) (maxSteps:=2000000) only [lO,dM,↓fR,↓hN,↓lL,↓fX,↓gA,↓bC,↓gE,↓fU,↓DN,↓DR,DQ,DP,↓reduceIte,Int.reduceToNat,Nat.reduceBEq,Nat.reduceAdd,Nat.reduceLT,Nat.reduceLeDiff,Nat.reduceEqDiff,Int.reduceEq,ne_eq,zN,reduceCtorEq,bJ,bM,bN,zM,zA,zB,aH,zC,zD,if_true,if_false,zE,zF,aG,zG,aJ,zH,zI,zJ,zK,aQ,aP,aV,aT,aS,aD,aL,aM,aE,aK,aF,aR,aZ,aU,aI,aW,zL]
 all_goals try simp only [bG]
 all_goals try rfl
theorem oJ {β:Type} (a0:aA) (a1:aB) (p21:Int) (p22:Int) (k:Ex→St→Option β):cP TT tX ⟨[(2,.ptr 2 0),(3,.ptr 3 0),(5,.d (.int .i64 p21)),(9,.d (.int .i64 p22))],[(2,some (.box (aC a0.cells))),(3,some (.box (aC a1.cells)))]⟩ k = (i7 a0 a1 p21 p22).bind (fun (r:Int)=>k (.exit 4) ⟨[(3,.ptr 3 0),(5,.d (.int .i64 r))],[(3,some (.box (aC a1.cells)))]⟩):=by
 have hh:=fun (w:Int × Int)=>CP a0 a1 w.1 w.2
 have h:=fun ho=>cA (T:=TT) (k:=k) (c:=lO) (step:=(fun (w:Int × Int)=>dM a0 a1 w.1 w.2)) _ _ ho hh (p21,p22)
 refine Eq.trans (h (fun r s e=>by have q:=congrArg Prod.fst e; rcases r with x <;> cases q)) ?_
 unfold i7
 exact bK _ fun x=>by rcases x with x <;> rfl
theorem C0 (a1:aB) (p26:Int) (p27:Int):cP TT lQ ⟨[(3,.ptr 3 0),(5,.d (.int .i64 p26)),(10,.d (.int .i64 p27))],[(3,some (.box (aC a1.cells)))]⟩ (fun e s=>some (e,s)) = cV (fun (w:Int × Int)=>(⟨[(3,.ptr 3 0),(5,.d (.int .i64 w.1)),(10,.d (.int .i64 w.2))],[(3,some (.box (aC a1.cells)))]⟩ : St)) (fun (r:Int)=>(((.exit 6),⟨[(5,.d (.int .i64 r))],[]⟩):Ex × St)) (dN a1 p26 p27):=by
 simp -implicitDefEqProofs (decide:=true) (maxSteps:=2000000) only [lQ,dN,↓fR,↓hN,↓lL,↓oJ,↓fX,↓gA,↓bC,↓gE,↓fU,↓DN,↓DR,DQ,DP,↓reduceIte,Int.reduceToNat,Nat.reduceBEq,Nat.reduceAdd,Nat.reduceLT,Nat.reduceLeDiff,Nat.reduceEqDiff,Int.reduceEq,ne_eq,zN,reduceCtorEq,bJ,bM,bN,zM,zA,zB,aH,zC,zD,if_true,if_false,zE,zF,aG,zG,aJ,zH,zI,zJ,zK,aQ,aP,aV,aT,aS,aD,aL,aM,aE,aK,aF,aR,aZ,aU,aI,aW,zL]
 all_goals try simp only [bG]
 all_goals try rfl
theorem uB {β:Type} (a1:aB) (p26:Int) (p27:Int) (k:Ex→St→Option β):cP TT tM ⟨[(3,.ptr 3 0),(5,.d (.int .i64 p26)),(10,.d (.int .i64 p27))],[(3,some (.box (aC a1.cells)))]⟩ k = (i9 a1 p26 p27).bind (fun (r:Int)=>k (.exit 6) ⟨[(5,.d (.int .i64 r))],[]⟩):=by
 have hh:=fun (w:Int × Int)=>C0 a1 w.1 w.2
 have h:=fun ho=>cA (T:=TT) (k:=k) (c:=lQ) (step:=(fun (w:Int × Int)=>dN a1 w.1 w.2)) _ _ ho hh (p26,p27)
 refine Eq.trans (h (fun r s e=>by have q:=congrArg Prod.fst e; rcases r with x <;> cases q)) ?_
 unfold i9
 exact bK _ fun x=>by rcases x with x <;> rfl
theorem CU {β:Type} (a0:aA) (a1:aB) (p2:Int) (k:Ex→St→Option β):cP TT oI ⟨[(2,.ptr 2 0),(3,.ptr 3 0),(5,.d (.int .i64 p2))],[(2,some (.box (aC a0.cells))),(3,some (.box (aC a1.cells)))]⟩ k = (fM a0 a1 p2).bind (fun (r:Int)=>k .ret ⟨[(4,.d (.int .i64 r))],[]⟩):=by
 simp -implicitDefEqProofs (decide:=true) (maxSteps:=2000000) only [oI,fM,↓fR,↓hN,↓lL,↓oJ,↓uB,↓fX,↓gA,↓bC,↓gE,↓fU,↓DN,↓DR,DQ,DP,↓reduceIte,Int.reduceToNat,Nat.reduceBEq,Nat.reduceAdd,Nat.reduceLT,Nat.reduceLeDiff,Nat.reduceEqDiff,Int.reduceEq,ne_eq,zN,reduceCtorEq,bJ,bM,bN,zM,zA,zB,aH,zC,zD,if_true,if_false,zE,zF,aG,zG,aJ,zH,zI,zJ,zK,aQ,aP,aV,aT,aS,aD,aL,aM,aE,aK,aF,aR,aZ,aU,aI,aW,zL]
 all_goals try simp only [bG]
 all_goals try rfl
theorem wI (a0:aA) (a1:aB):Vm.call TT 36 [.agg a0.cells,.agg a1.cells] = (fT a0 a1).map fun (r:Int)=>.int .i64 r:=by
 refine (bQ (show TT 36 = some (.code ⟨2,131,[.tmp 4],aFA,false⟩) from rfl) _ rfl).trans ?_
 show cP TT aFA ⟨[(0,cO a0.cells),(1,cO a1.cells)],[]⟩ _ = _
 simp -implicitDefEqProofs (decide:=true) (maxSteps:=2000000) only [aFA,fT,↓fR,↓hN,↓lL,↓oJ,↓uB,↓CU,↓fX,↓gA,↓bC,↓gE,↓fU,↓DN,↓DR,DQ,DP,↓reduceIte,Int.reduceToNat,Nat.reduceBEq,Nat.reduceAdd,Nat.reduceLT,Nat.reduceLeDiff,Nat.reduceEqDiff,Int.reduceEq,ne_eq,zN,reduceCtorEq,bJ,bM,bN,zM,zA,zB,aH,zC,zD,if_true,if_false,zE,zF,aG,zG,aJ,zH,zI,zJ,zK,aQ,aP,aV,aT,aS,aD,aL,aM,aE,aK,aF,aR,aZ,aU,aI,aW,zL]
 all_goals try simp only [bG]
 all_goals try rfl
theorem wO {β:Type} (a0:aA) (a1:aB) (d:Nat) (bl:List (Nat × Option aY)) (fz:List (Nat × Option aY)) (k:V→Option β) (kw:V→List (Nat × Option aY)→Option β):cH TT d bl 36 [.agg a0.cells,.agg a1.cells] fz k kw = (fT a0 a1).bind fun (r:Int)=>k (.d (.int .i64 r)):=by
 have h:=wI a0 a1
 exact bI h (fun _=>rfl) fz
theorem FF {β:Type} (a0:aA) (a1:aB) (a2:aX) (d:Nat) (bl:List (Nat × Option aY)) (fz:List (Nat × Option aY)) (k:V→Option β) (kw:V→List (Nat × Option aY)→Option β):cH TT d bl 36 [.agg a0.cells,.agg [.int .i64 a1.Bill.Drawer,.int .i64 a1.Bill.Drawee,.int .i64 a1.Bill.Payee,.int .i64 a1.Bill.Sum,.int .i64 a1.Bill.Currency,.int .i64 a1.Bill.Tenor.Kind,.int .i64 a1.Bill.Tenor.N,.int .i64 a1.Bill.Tenor.Unit,.int .i64 a1.Bill.Day,.int .i64 a1.Bill.City,.int .i64 a1.Bill.Pay,.int .i64 a1.Bill.Need,.int .i64 a1.Bill.Rate,.int .i64 a1.Bill.Flags,.int .i64 a1.Bill.Parts,.sl (cM aX.cells ((([]:List aX) ++ a1.Signs) ++ [a2])),.sl (cM bE.cells a1.Alters),.sl (cM bP.cells a1.Acts),.sl (cM bS.cells a1.Facts)]] fz k kw = (fT a0 (aB.mk a1.Bill ((([]:List aX) ++ a1.Signs) ++ [a2]) a1.Alters a1.Acts a1.Facts)).bind fun (r:Int)=>k (.d (.int .i64 r)):=by
 have h:=wI a0 (aB.mk a1.Bill ((([]:List aX) ++ a1.Signs) ++ [a2]) a1.Alters a1.Acts a1.Facts)
 exact bI h (fun _=>rfl) fz
theorem HL (a0:aA) (a1:aB) (a2:aX):Vm.call TT 35 [.agg a0.cells,.agg a1.cells,.agg a2.cells] = (mI a0 a1 a2).map fun (r:aB × Int)=>.tup [.agg (aB.cells r.1),.int .i64 r.2]:=by
 refine (bQ (show TT 35 = some (.code ⟨3,27,[.cell 6 19 true,.tmp 7],aIa,false⟩) from rfl) _ rfl).trans ?_
 show cP TT aIa ⟨[(0,cO a0.cells),(1,cO a1.cells),(2,cO a2.cells)],[]⟩ _ = _
 simp -implicitDefEqProofs (decide:=true) (maxSteps:=2000000) only [aIa,mI,↓wO,↓FF,↓DN,↓DR,DQ,DP,↓reduceIte,Int.reduceToNat,Nat.reduceBEq,Nat.reduceAdd,Nat.reduceLT,Nat.reduceLeDiff,Nat.reduceEqDiff,Int.reduceEq,ne_eq,zN,reduceCtorEq,bJ,bM,bN,zM,zA,zB,aH,zC,zD,if_true,if_false,zE,zF,aG,zG,aJ,zH,zI,zJ,zK,aQ,aP,aV,aT,aS,aD,aL,aM,aE,aK,aF,aR,aZ,aU,aI,aW,zL]
 all_goals try simp only [bG]
 all_goals try rfl
theorem HS {β:Type} (a0:aA) (a1:aB) (a2:aX) (d:Nat) (bl:List (Nat × Option aY)) (fz:List (Nat × Option aY)) (k:V→Option β) (kw:V→List (Nat × Option aY)→Option β):cH TT d bl 35 [.agg a0.cells,.agg a1.cells,.agg a2.cells] fz k kw = (mI a0 a1 a2).bind fun (r:aB × Int)=>LK fz (.tup [cO (aB.cells r.1),.d (.int .i64 r.2)]) k kw:=by
 have h:=HL a0 a1 a2
 exact fZ h (fun _=>rfl) (fun _=>rfl) fz
theorem EK (a0:aB) (a1:aB) (p1:Int):cP TT mE ⟨[(2,.ptr 2 0),(3,.ptr 3 0),(5,.d (.int .i64 p1))],[(2,some (.box (aC a0.cells))),(3,some (.box (aC a1.cells)))]⟩ (fun e s=>some (e,s)) = cV (fun (w:Int)=>(⟨[(2,.ptr 2 0),(3,.ptr 3 0),(5,.d (.int .i64 w))],[(2,some (.box (aC a0.cells))),(3,some (.box (aC a1.cells)))]⟩ : St)) (fun (r:Unit ⊕ Unit)=>Sum.elim (fun (z:Unit)=>(((.exit 0),⟨[(2,.ptr 2 0),(3,.ptr 3 0)],[(2,some (.box (aC a0.cells))),(3,some (.box (aC a1.cells)))]⟩):Ex × St)) (fun (z:Unit)=>((.ret,⟨[(4,.d (.bool false))],[]⟩):Ex × St)) r) (fB a0 a1 p1):=by
 simp -implicitDefEqProofs (decide:=true) (maxSteps:=2000000) only [mE,fB,↓DN,↓DR,DQ,DP,↓reduceIte,Int.reduceToNat,Nat.reduceBEq,Nat.reduceAdd,Nat.reduceLT,Nat.reduceLeDiff,Nat.reduceEqDiff,Int.reduceEq,ne_eq,zN,reduceCtorEq,bJ,bM,bN,zM,zA,zB,aH,zC,zD,if_true,if_false,zE,zF,aG,zG,aJ,zH,zI,zJ,zK,aQ,aP,aV,aT,aS,aD,aL,aM,aE,aK,aF,aR,aZ,aU,aI,aW,zL]
 all_goals try simp only [bG]
 all_goals try rfl
theorem mS {β:Type} (a0:aB) (a1:aB) (p1:Int) (k:Ex→St→Option β):cP TT vB ⟨[(2,.ptr 2 0),(3,.ptr 3 0),(5,.d (.int .i64 p1))],[(2,some (.box (aC a0.cells))),(3,some (.box (aC a1.cells)))]⟩ k = (nN a0 a1 p1).bind (fun (r:Unit ⊕ Unit)=>Sum.elim (fun (z:Unit)=>k (.exit 0) ⟨[(2,.ptr 2 0),(3,.ptr 3 0)],[(2,some (.box (aC a0.cells))),(3,some (.box (aC a1.cells)))]⟩) (fun (z:Unit)=>k .ret ⟨[(4,.d (.bool false))],[]⟩) r):=by
 have hh:=fun (w:Int)=>EK a0 a1 w
 have h:=fun ho=>cA (T:=TT) (k:=k) (c:=mE) (step:=(fun (w:Int)=>fB a0 a1 w)) _ _ ho hh p1
 refine Eq.trans (h (fun r s e=>by have q:=congrArg Prod.fst e; rcases r with x | x <;> cases q)) ?_
 unfold nN
 exact bK _ fun x=>by rcases x with x | x <;> rfl
theorem D8 (a0:aB) (a1:aB) (p7:Int):cP TT mR ⟨[(2,.ptr 2 0),(3,.ptr 3 0),(6,.d (.int .i64 p7))],[(2,some (.box (aC a0.cells))),(3,some (.box (aC a1.cells)))]⟩ (fun e s=>some (e,s)) = cV (fun (w:Int)=>(⟨[(2,.ptr 2 0),(3,.ptr 3 0),(6,.d (.int .i64 w))],[(2,some (.box (aC a0.cells))),(3,some (.box (aC a1.cells)))]⟩ : St)) (fun (r:Unit ⊕ Unit)=>Sum.elim (fun (z:Unit)=>(((.exit 2),⟨[(2,.ptr 2 0),(3,.ptr 3 0)],[(2,some (.box (aC a0.cells))),(3,some (.box (aC a1.cells)))]⟩):Ex × St)) (fun (z:Unit)=>((.ret,⟨[(4,.d (.bool false))],[]⟩):Ex × St)) r) (fE a0 a1 p7):=by
 simp -implicitDefEqProofs (decide:=true) (maxSteps:=2000000) only [mR,fE,↓mS,↓DN,↓DR,DQ,DP,↓reduceIte,Int.reduceToNat,Nat.reduceBEq,Nat.reduceAdd,Nat.reduceLT,Nat.reduceLeDiff,Nat.reduceEqDiff,Int.reduceEq,ne_eq,zN,reduceCtorEq,bJ,bM,bN,zM,zA,zB,aH,zC,zD,if_true,if_false,zE,zF,aG,zG,aJ,zH,zI,zJ,zK,aQ,aP,aV,aT,aS,aD,aL,aM,aE,aK,aF,aR,aZ,aU,aI,aW,zL]
 all_goals try simp only [bG]
 all_goals try rfl
theorem o9 {β:Type} (a0:aB) (a1:aB) (p7:Int) (k:Ex→St→Option β):cP TT u9 ⟨[(2,.ptr 2 0),(3,.ptr 3 0),(6,.d (.int .i64 p7))],[(2,some (.box (aC a0.cells))),(3,some (.box (aC a1.cells)))]⟩ k = (nI a0 a1 p7).bind (fun (r:Unit ⊕ Unit)=>Sum.elim (fun (z:Unit)=>k (.exit 2) ⟨[(2,.ptr 2 0),(3,.ptr 3 0)],[(2,some (.box (aC a0.cells))),(3,some (.box (aC a1.cells)))]⟩) (fun (z:Unit)=>k .ret ⟨[(4,.d (.bool false))],[]⟩) r):=by
 have hh:=fun (w:Int)=>D8 a0 a1 w
 have h:=fun ho=>cA (T:=TT) (k:=k) (c:=mR) (step:=(fun (w:Int)=>fE a0 a1 w)) _ _ ho hh p7
 refine Eq.trans (h (fun r s e=>by have q:=congrArg Prod.fst e; rcases r with x | x <;> cases q)) ?_
 unfold nI
 exact bK _ fun x=>by rcases x with x | x <;> rfl
theorem EF (a0:aB) (a1:aB) (p13:Int):cP TT mN ⟨[(2,.ptr 2 0),(3,.ptr 3 0),(7,.d (.int .i64 p13))],[(2,some (.box (aC a0.cells))),(3,some (.box (aC a1.cells)))]⟩ (fun e s=>some (e,s)) = cV (fun (w:Int)=>(⟨[(2,.ptr 2 0),(3,.ptr 3 0),(7,.d (.int .i64 w))],[(2,some (.box (aC a0.cells))),(3,some (.box (aC a1.cells)))]⟩ : St)) (fun (r:Unit ⊕ Unit)=>Sum.elim (fun (z:Unit)=>(((.exit 4),⟨[(2,.ptr 2 0),(3,.ptr 3 0)],[(2,some (.box (aC a0.cells))),(3,some (.box (aC a1.cells)))]⟩):Ex × St)) (fun (z:Unit)=>((.ret,⟨[(4,.d (.bool false))],[]⟩):Ex × St)) r) (fH a0 a1 p13):=by
 simp -implicitDefEqProofs (decide:=true) (maxSteps:=2000000) only [mN,fH,↓mS,↓o9,↓DN,↓DR,DQ,DP,↓reduceIte,Int.reduceToNat,Nat.reduceBEq,Nat.reduceAdd,Nat.reduceLT,Nat.reduceLeDiff,Nat.reduceEqDiff,Int.reduceEq,ne_eq,zN,reduceCtorEq,bJ,bM,bN,zM,zA,zB,aH,zC,zD,if_true,if_false,zE,zF,aG,zG,aJ,zH,zI,zJ,zK,aQ,aP,aV,aT,aS,aD,aL,aM,aE,aK,aF,aR,aZ,aU,aI,aW,zL]
 all_goals try simp only [bG]
 all_goals try rfl
theorem vF {β:Type} (a0:aB) (a1:aB) (p13:Int) (k:Ex→St→Option β):cP TT uV ⟨[(2,.ptr 2 0),(3,.ptr 3 0),(7,.d (.int .i64 p13))],[(2,some (.box (aC a0.cells))),(3,some (.box (aC a1.cells)))]⟩ k = (nJ a0 a1 p13).bind (fun (r:Unit ⊕ Unit)=>Sum.elim (fun (z:Unit)=>k (.exit 4) ⟨[(2,.ptr 2 0),(3,.ptr 3 0)],[(2,some (.box (aC a0.cells))),(3,some (.box (aC a1.cells)))]⟩) (fun (z:Unit)=>k .ret ⟨[(4,.d (.bool false))],[]⟩) r):=by
 have hh:=fun (w:Int)=>EF a0 a1 w
 have h:=fun ho=>cA (T:=TT) (k:=k) (c:=mN) (step:=(fun (w:Int)=>fH a0 a1 w)) _ _ ho hh p13
 refine Eq.trans (h (fun r s e=>by have q:=congrArg Prod.fst e; rcases r with x | x <;> cases q)) ?_
 unfold nJ
 exact bK _ fun x=>by rcases x with x | x <;> rfl
theorem DT (a0:aB) (a1:aB) (p19:Int):cP TT mK ⟨[(2,.ptr 2 0),(3,.ptr 3 0),(8,.d (.int .i64 p19))],[(2,some (.box (aC a0.cells))),(3,some (.box (aC a1.cells)))]⟩ (fun e s=>some (e,s)) = cV (fun (w:Int)=>(⟨[(2,.ptr 2 0),(3,.ptr 3 0),(8,.d (.int .i64 w))],[(2,some (.box (aC a0.cells))),(3,some (.box (aC a1.cells)))]⟩ : St)) (fun (r:Unit ⊕ Unit)=>Sum.elim (fun (z:Unit)=>(((.exit 6),⟨[],[]⟩):Ex × St)) (fun (z:Unit)=>((.ret,⟨[(4,.d (.bool false))],[]⟩):Ex × St)) r) (eX a0 a1 p19):=by
 simp -implicitDefEqProofs (decide:=true) (maxSteps:=2000000) only [mK,eX,↓mS,↓o9,↓vF,↓DN,↓DR,DQ,DP,↓reduceIte,Int.reduceToNat,Nat.reduceBEq,Nat.reduceAdd,Nat.reduceLT,Nat.reduceLeDiff,Nat.reduceEqDiff,Int.reduceEq,ne_eq,zN,reduceCtorEq,bJ,bM,bN,zM,zA,zB,aH,zC,zD,if_true,if_false,zE,zF,aG,zG,aJ,zH,zI,zJ,zK,aQ,aP,aV,aT,aS,aD,aL,aM,aE,aK,aF,aR,aZ,aU,aI,aW,zL]
 all_goals try simp only [bG]
 all_goals try rfl
theorem EI {β:Type} (a0:aB) (a1:aB) (p19:Int) (k:Ex→St→Option β):cP TT uY ⟨[(2,.ptr 2 0),(3,.ptr 3 0),(8,.d (.int .i64 p19))],[(2,some (.box (aC a0.cells))),(3,some (.box (aC a1.cells)))]⟩ k = (nO a0 a1 p19).bind (fun (r:Unit ⊕ Unit)=>Sum.elim (fun (z:Unit)=>k (.exit 6) ⟨[],[]⟩) (fun (z:Unit)=>k .ret ⟨[(4,.d (.bool false))],[]⟩) r):=by
 have hh:=fun (w:Int)=>DT a0 a1 w
 have h:=fun ho=>cA (T:=TT) (k:=k) (c:=mK) (step:=(fun (w:Int)=>eX a0 a1 w)) _ _ ho hh p19
 refine Eq.trans (h (fun r s e=>by have q:=congrArg Prod.fst e; rcases r with x | x <;> cases q)) ?_
 unfold nO
 exact bK _ fun x=>by rcases x with x | x <;> rfl
theorem F7 (a0:aB) (a1:aB):Vm.call TT 31 [.agg a0.cells,.agg a1.cells] = (iB a0 a1).map fun (r:Bool)=>.bool r:=by
 refine (bQ (show TT 31 = some (.code ⟨2,122,[.tmp 4],aGt,false⟩) from rfl) _ rfl).trans ?_
 show cP TT aGt ⟨[(0,cO a0.cells),(1,cO a1.cells)],[]⟩ _ = _
 simp -implicitDefEqProofs (decide:=true) (maxSteps:=2000000) only [aGt,iB,↓mS,↓o9,↓vF,↓EI,↓DN,↓DR,DQ,DP,↓reduceIte,Int.reduceToNat,Nat.reduceBEq,Nat.reduceAdd,Nat.reduceLT,Nat.reduceLeDiff,Nat.reduceEqDiff,Int.reduceEq,ne_eq,zN,reduceCtorEq,bJ,bM,bN,zM,zA,zB,aH,zC,zD,if_true,if_false,zE,zF,aG,zG,aJ,zH,zI,zJ,zK,aQ,aP,aV,aT,aS,aD,aL,aM,aE,aK,aF,aR,aZ,aU,aI,aW,zL]
 all_goals try simp only [bG]
 all_goals try rfl
theorem GY {β:Type} (a0:aB) (a1:aB) (d:Nat) (bl:List (Nat × Option aY)) (fz:List (Nat × Option aY)) (k:V→Option β) (kw:V→List (Nat × Option aY)→Option β):cH TT d bl 31 [.agg a0.cells,.agg a1.cells] fz k kw = (iB a0 a1).bind fun (r:Bool)=>k (.d (.bool r)):=by
 have h:=F7 a0 a1
 exact bI h (fun _=>rfl) fz
theorem F3 (a0:aB) (a1:Int) (p1:Int) (p2:List Int):cP TT nM ⟨[(1,.d (.int .i64 a1)),(2,.ptr 2 0),(5,.own 21 0),(6,.d (.int .i64 p1))],[(2,some (.box (aC a0.cells))),(21,some (.rows 0 3 1 (cM cI p2)))]⟩ (fun e s=>some (e,s)) = cV (fun (w:Int × (List Int))=>(⟨[(1,.d (.int .i64 a1)),(2,.ptr 2 0),(5,.own 21 0),(6,.d (.int .i64 w.1))],[(2,some (.box (aC a0.cells))),(21,some (.rows 0 3 1 (cM cI w.2)))]⟩ : St)) (fun (r:(List Int))=>(((.exit 0),⟨[(5,.own 21 0)],[(21,some (.rows 0 3 1 (cM cI r)))]⟩):Ex × St)) (fV a0 a1 p1 p2):=by
 simp -implicitDefEqProofs (decide:=true) (maxSteps:=2000000) only [nM,fV,↓gF,↓DN,↓DR,DQ,DP,↓reduceIte,Int.reduceToNat,Nat.reduceBEq,Nat.reduceAdd,Nat.reduceLT,Nat.reduceLeDiff,Nat.reduceEqDiff,Int.reduceEq,ne_eq,zN,reduceCtorEq,bJ,bM,bN,zM,zA,zB,aH,zC,zD,if_true,if_false,zE,zF,aG,zG,aJ,zH,zI,zJ,zK,aQ,aP,aV,aT,aS,aD,aL,aM,aE,aK,aF,aR,aZ,aU,aI,aW,zL]
 all_goals try simp only [bG]
 all_goals try rfl
theorem FQ {β:Type} (a0:aB) (a1:Int) (p1:Int) (p2:List Int) (k:Ex→St→Option β):cP TT wP ⟨[(1,.d (.int .i64 a1)),(2,.ptr 2 0),(5,.own 21 0),(6,.d (.int .i64 p1))],[(2,some (.box (aC a0.cells))),(21,some (.rows 0 3 1 (cM cI p2)))]⟩ k = (mU a0 a1 p1 p2).bind (fun (r:(List Int))=>k (.exit 0) ⟨[(5,.own 21 0)],[(21,some (.rows 0 3 1 (cM cI r)))]⟩):=by
 have hh:=fun (w:Int × (List Int))=>F3 a0 a1 w.1 w.2
 have h:=fun ho=>cA (T:=TT) (k:=k) (c:=nM) (step:=(fun (w:Int × (List Int))=>fV a0 a1 w.1 w.2)) _ _ ho hh (p1,p2)
 refine Eq.trans (h (fun r s e=>by have q:=congrArg Prod.fst e; rcases r with x <;> cases q)) ?_
 unfold mU
 exact bK _ fun x=>by rcases x with x <;> rfl
theorem IY (a0:aB) (a1:Int):Vm.call TT 38 [.agg a0.cells,.int .i64 a1] = (nC a0 a1).map fun (r:(List Int))=>.sl (cM cI r):=by
 refine (bQ (show TT 38 = some (.code ⟨2,23,[.tmp 4],aGR,false⟩) from rfl) _ rfl).trans ?_
 show cP TT aGR ⟨[(0,cO a0.cells),(1,.d (.int .i64 a1))],[]⟩ _ = _
 simp -implicitDefEqProofs (decide:=true) (maxSteps:=2000000) only [aGR,nC,↓FQ,↓gF,↓DN,↓DR,DQ,DP,↓reduceIte,Int.reduceToNat,Nat.reduceBEq,Nat.reduceAdd,Nat.reduceLT,Nat.reduceLeDiff,Nat.reduceEqDiff,Int.reduceEq,ne_eq,zN,reduceCtorEq,bJ,bM,bN,zM,zA,zB,aH,zC,zD,if_true,if_false,zE,zF,aG,zG,aJ,zH,zI,zJ,zK,aQ,aP,aV,aT,aS,aD,aL,aM,aE,aK,aF,aR,aZ,aU,aI,aW,zL]
 all_goals try simp only [bG]
 all_goals try rfl
theorem I6 {β:Type} (a0:aB) (a1:Int) (d:Nat) (bl:List (Nat × Option aY)) (fz:List (Nat × Option aY)) (k:V→Option β) (kw:V→List (Nat × Option aY)→Option β):cH TT d bl 38 [.agg a0.cells,.int .i64 a1] fz k kw = (nC a0 a1).bind fun (r:(List Int))=>LK fz (.d (.sl (cM cI r))) k kw:=by
 have h:=IY a0 a1
 exact fZ h (fun _=>rfl) (fun _=>rfl) fz
theorem IP (a0:aB) (a1:Int) (p1:Int) (p2:List Bool):cP TT pU ⟨[(1,.d (.int .i64 a1)),(5,.own 11 0),(13,.d (.sl (cM bP.cells a0.Acts))),(14,.d (.int .i64 (a0.Acts.length:Int))),(15,.d (.int .i64 p1))],[(11,some (.rows 0 4 1 (cM cB p2)))]⟩ (fun e s=>some (e,s)) = cV (fun (w:Int × (List Bool))=>(⟨[(1,.d (.int .i64 a1)),(5,.own 11 0),(13,.d (.sl (cM bP.cells a0.Acts))),(14,.d (.int .i64 (a0.Acts.length:Int))),(15,.d (.int .i64 w.1))],[(11,some (.rows 0 4 1 (cM cB w.2)))]⟩ : St)) (fun (r:(List Bool))=>(((.exit 0),⟨[(5,.own 11 0)],[(11,some (.rows 0 4 1 (cM cB r)))]⟩):Ex × St)) (lJ a0 a1 p1 p2):=by
 simp -implicitDefEqProofs (decide:=true) (maxSteps:=2000000) only [pU,lJ,↓cR,↓DN,↓DR,DQ,DP,↓reduceIte,Int.reduceToNat,Nat.reduceBEq,Nat.reduceAdd,Nat.reduceLT,Nat.reduceLeDiff,Nat.reduceEqDiff,Int.reduceEq,ne_eq,zN,reduceCtorEq,bJ,bM,bN,zM,zA,zB,aH,zC,zD,if_true,if_false,zE,zF,aG,zG,aJ,zH,zI,zJ,zK,aQ,aP,aV,aT,aS,aD,aL,aM,aE,aK,aF,aR,aZ,aU,aI,aW,zL]
 all_goals try simp only [bG]
 all_goals try rfl
theorem IV {β:Type} (a0:aB) (a1:Int) (p1:Int) (p2:List Bool) (k:Ex→St→Option β):cP TT AG ⟨[(1,.d (.int .i64 a1)),(5,.own 11 0),(13,.d (.sl (cM bP.cells a0.Acts))),(14,.d (.int .i64 (a0.Acts.length:Int))),(15,.d (.int .i64 p1))],[(11,some (.rows 0 4 1 (cM cB p2)))]⟩ k = (o3 a0 a1 p1 p2).bind (fun (r:(List Bool))=>k (.exit 0) ⟨[(5,.own 11 0)],[(11,some (.rows 0 4 1 (cM cB r)))]⟩):=by
 have hh:=fun (w:Int × (List Bool))=>IP a0 a1 w.1 w.2
 have h:=fun ho=>cA (T:=TT) (k:=k) (c:=pU) (step:=(fun (w:Int × (List Bool))=>lJ a0 a1 w.1 w.2)) _ _ ho hh (p1,p2)
 refine Eq.trans (h (fun r s e=>by have q:=congrArg Prod.fst e; rcases r with x <;> cases q)) ?_
 unfold o3
 exact bK _ fun x=>by rcases x with x <;> rfl
theorem MJ (a0:aB) (a1:Int):Vm.call TT 40 [.agg a0.cells,.int .i64 a1] = (qP a0 a1).map fun (r:(List Bool))=>.sl (cM cB r):=by
 refine (bQ (show TT 40 = some (.code ⟨2,42,[.tmp 4],aFt,false⟩) from rfl) _ rfl).trans ?_
 show cP TT aFt ⟨[(0,cO a0.cells),(1,.d (.int .i64 a1))],[]⟩ _ = _
 simp -implicitDefEqProofs (decide:=true) (maxSteps:=2000000) only [aFt,qP,↓IV,↓cR,↓DN,↓DR,DQ,DP,↓reduceIte,Int.reduceToNat,Nat.reduceBEq,Nat.reduceAdd,Nat.reduceLT,Nat.reduceLeDiff,Nat.reduceEqDiff,Int.reduceEq,ne_eq,zN,reduceCtorEq,bJ,bM,bN,zM,zA,zB,aH,zC,zD,if_true,if_false,zE,zF,aG,zG,aJ,zH,zI,zJ,zK,aQ,aP,aV,aT,aS,aD,aL,aM,aE,aK,aF,aR,aZ,aU,aI,aW,zL]
 all_goals try simp only [bG]
 all_goals try rfl
theorem MR {β:Type} (a0:aB) (a1:Int) (d:Nat) (bl:List (Nat × Option aY)) (fz:List (Nat × Option aY)) (k:V→Option β) (kw:V→List (Nat × Option aY)→Option β):cH TT d bl 40 [.agg a0.cells,.int .i64 a1] fz k kw = (qP a0 a1).bind fun (r:(List Bool))=>LK fz (.d (.sl (cM cB r))) k kw:=by
 have h:=MJ a0 a1
 exact fZ h (fun _=>rfl) (fun _=>rfl) fz
theorem A4 (a0:aB) (a1:Int) (p1:Int) (p2:List Bool) (p3:Bool) (p4:Int):cP TT kR ⟨[(1,.d (.int .i64 a1)),(2,.ptr 2 0),(5,.own 56 0),(6,.d (.int .i64 p1)),(7,.d (.bool p3)),(8,.d (.int .i64 p4))],[(2,some (.box (aC a0.cells))),(56,some (.rows 0 4 1 (cM cB p2)))]⟩ (fun e s=>some (e,s)) = cV (fun (w:Bool × Int)=>(⟨[(1,.d (.int .i64 a1)),(2,.ptr 2 0),(5,.own 56 0),(6,.d (.int .i64 p1)),(7,.d (.bool w.1)),(8,.d (.int .i64 w.2))],[(2,some (.box (aC a0.cells))),(56,some (.rows 0 4 1 (cM cB p2)))]⟩ : St)) (fun (r:Bool)=>(((.exit 2),⟨[(1,.d (.int .i64 a1)),(2,.ptr 2 0),(5,.own 56 0),(6,.d (.int .i64 p1)),(7,.d (.bool r))],[(2,some (.box (aC a0.cells))),(56,some (.rows 0 4 1 (cM cB p2)))]⟩):Ex × St)) (eH a0 a1 p1 p2 p3 p4):=by
 simp -implicitDefEqProofs (decide:=true) (maxSteps:=2000000) only [kR,eH,↓DN,↓DR,DQ,DP,↓reduceIte,Int.reduceToNat,Nat.reduceBEq,Nat.reduceAdd,Nat.reduceLT,Nat.reduceLeDiff,Nat.reduceEqDiff,Int.reduceEq,ne_eq,zN,reduceCtorEq,bJ,bM,bN,zM,zA,zB,aH,zC,zD,if_true,if_false,zE,zF,aG,zG,aJ,zH,zI,zJ,zK,aQ,aP,aV,aT,aS,aD,aL,aM,aE,aK,aF,aR,aZ,aU,aI,aW,zL]
 all_goals try simp only [bG]
 all_goals try rfl
theorem sV {β:Type} (a0:aB) (a1:Int) (p1:Int) (p2:List Bool) (p3:Bool) (p4:Int) (k:Ex→St→Option β):cP TT sW ⟨[(1,.d (.int .i64 a1)),(2,.ptr 2 0),(5,.own 56 0),(6,.d (.int .i64 p1)),(7,.d (.bool p3)),(8,.d (.int .i64 p4))],[(2,some (.box (aC a0.cells))),(56,some (.rows 0 4 1 (cM cB p2)))]⟩ k = (iF a0 a1 p1 p2 p3 p4).bind (fun (r:Bool)=>k (.exit 2) ⟨[(1,.d (.int .i64 a1)),(2,.ptr 2 0),(5,.own 56 0),(6,.d (.int .i64 p1)),(7,.d (.bool r))],[(2,some (.box (aC a0.cells))),(56,some (.rows 0 4 1 (cM cB p2)))]⟩):=by
 have hh:=fun (w:Bool × Int)=>A4 a0 a1 p1 p2 w.1 w.2
 have h:=fun ho=>cA (T:=TT) (k:=k) (c:=kR) (step:=(fun (w:Bool × Int)=>eH a0 a1 p1 p2 w.1 w.2)) _ _ ho hh (p3,p4)
 refine Eq.trans (h (fun r s e=>by have q:=congrArg Prod.fst e; rcases r with x <;> cases q)) ?_
 unfold iF
 exact bK _ fun x=>by rcases x with x <;> rfl
theorem BE (a0:aB) (a1:Int) (p1:Int) (p2:List Bool):cP TT kW ⟨[(1,.d (.int .i64 a1)),(2,.ptr 2 0),(5,.own 56 0),(6,.d (.int .i64 p1))],[(2,some (.box (aC a0.cells))),(56,some (.rows 0 4 1 (cM cB p2)))]⟩ (fun e s=>some (e,s)) = cV (fun (w:Int × (List Bool))=>(⟨[(1,.d (.int .i64 a1)),(2,.ptr 2 0),(5,.own 56 0),(6,.d (.int .i64 w.1))],[(2,some (.box (aC a0.cells))),(56,some (.rows 0 4 1 (cM cB w.2)))]⟩ : St)) (fun (r:(List Bool))=>(((.exit 0),⟨[(5,.own 56 0)],[(56,some (.rows 0 4 1 (cM cB r)))]⟩):Ex × St)) (eE a0 a1 p1 p2):=by
 simp -implicitDefEqProofs (decide:=true) (maxSteps:=2000000) only [kW,eE,↓sV,↓DN,↓DR,DQ,DP,↓reduceIte,Int.reduceToNat,Nat.reduceBEq,Nat.reduceAdd,Nat.reduceLT,Nat.reduceLeDiff,Nat.reduceEqDiff,Int.reduceEq,ne_eq,zN,reduceCtorEq,bJ,bM,bN,zM,zA,zB,aH,zC,zD,if_true,if_false,zE,zF,aG,zG,aJ,zH,zI,zJ,zK,aQ,aP,aV,aT,aS,aD,aL,aM,aE,aK,aF,aR,aZ,aU,aI,aW,zL]
 all_goals try simp only [bG]
 all_goals try rfl
theorem BH {β:Type} (a0:aB) (a1:Int) (p1:Int) (p2:List Bool) (k:Ex→St→Option β):cP TT sZ ⟨[(1,.d (.int .i64 a1)),(2,.ptr 2 0),(5,.own 56 0),(6,.d (.int .i64 p1))],[(2,some (.box (aC a0.cells))),(56,some (.rows 0 4 1 (cM cB p2)))]⟩ k = (iG a0 a1 p1 p2).bind (fun (r:(List Bool))=>k (.exit 0) ⟨[(5,.own 56 0)],[(56,some (.rows 0 4 1 (cM cB r)))]⟩):=by
 have hh:=fun (w:Int × (List Bool))=>BE a0 a1 w.1 w.2
 have h:=fun ho=>cA (T:=TT) (k:=k) (c:=kW) (step:=(fun (w:Int × (List Bool))=>eE a0 a1 w.1 w.2)) _ _ ho hh (p1,p2)
 refine Eq.trans (h (fun r s e=>by have q:=congrArg Prod.fst e; rcases r with x <;> cases q)) ?_
 unfold iG
 exact bK _ fun x=>by rcases x with x <;> rfl
theorem FH (a0:aB) (a1:Int):Vm.call TT 41 [.agg a0.cells,.int .i64 a1] = (iN a0 a1).map fun (r:(List Bool))=>.sl (cM cB r):=by
 refine (bQ (show TT 41 = some (.code ⟨2,58,[.tmp 4],aIB,false⟩) from rfl) _ rfl).trans ?_
 show cP TT aIB ⟨[(0,cO a0.cells),(1,.d (.int .i64 a1))],[]⟩ _ = _
 simp -implicitDefEqProofs (decide:=true) (maxSteps:=2000000) only [aIB,iN,↓sV,↓BH,↓DN,↓DR,DQ,DP,↓reduceIte,Int.reduceToNat,Nat.reduceBEq,Nat.reduceAdd,Nat.reduceLT,Nat.reduceLeDiff,Nat.reduceEqDiff,Int.reduceEq,ne_eq,zN,reduceCtorEq,bJ,bM,bN,zM,zA,zB,aH,zC,zD,if_true,if_false,zE,zF,aG,zG,aJ,zH,zI,zJ,zK,aQ,aP,aV,aT,aS,aD,aL,aM,aE,aK,aF,aR,aZ,aU,aI,aW,zL]
 all_goals try simp only [bG]
 all_goals try rfl
theorem EM {β:Type} (a0:aB) (a1:Int) (d:Nat) (bl:List (Nat × Option aY)) (fz:List (Nat × Option aY)) (k:V→Option β) (kw:V→List (Nat × Option aY)→Option β):cH TT d bl 41 [.agg a0.cells,.int .i64 a1] fz k kw = (iN a0 a1).bind fun (r:(List Bool))=>LK fz (.d (.sl (cM cB r))) k kw:=by
 have h:=FH a0 a1
 exact fZ h (fun _=>rfl) (fun _=>rfl) fz
theorem yH (a0:List Bool) (a1:List Bool) (p1:Int):cP TT hZ ⟨[(0,.d (.sl (cM cB a0))),(1,.d (.sl (cM cB a1))),(5,.d (.int .i64 p1))],[]⟩ (fun e s=>some (e,s)) = cV (fun (w:Int)=>(⟨[(0,.d (.sl (cM cB a0))),(1,.d (.sl (cM cB a1))),(5,.d (.int .i64 w))],[]⟩ : St)) (fun (r:Unit ⊕ Unit)=>Sum.elim (fun (z:Unit)=>(((.exit 0),⟨[],[]⟩):Ex × St)) (fun (z:Unit)=>((.ret,⟨[(4,.d (.bool false))],[]⟩):Ex × St)) r) (dD a0 a1 p1):=by
 simp -implicitDefEqProofs (decide:=true) (maxSteps:=2000000) only [hZ,dD,↓DN,↓DR,DQ,DP,↓reduceIte,Int.reduceToNat,Nat.reduceBEq,Nat.reduceAdd,Nat.reduceLT,Nat.reduceLeDiff,Nat.reduceEqDiff,Int.reduceEq,ne_eq,zN,reduceCtorEq,bJ,bM,bN,zM,zA,zB,aH,zC,zD,if_true,if_false,zE,zF,aG,zG,aJ,zH,zI,zJ,zK,aQ,aP,aV,aT,aS,aD,aL,aM,aE,aK,aF,aR,aZ,aU,aI,aW,zL]
 all_goals try simp only [bG]
 all_goals try rfl
theorem yC {β:Type} (a0:List Bool) (a1:List Bool) (p1:Int) (k:Ex→St→Option β):cP TT qD ⟨[(0,.d (.sl (cM cB a0))),(1,.d (.sl (cM cB a1))),(5,.d (.int .i64 p1))],[]⟩ k = (iW a0 a1 p1).bind (fun (r:Unit ⊕ Unit)=>Sum.elim (fun (z:Unit)=>k (.exit 0) ⟨[],[]⟩) (fun (z:Unit)=>k .ret ⟨[(4,.d (.bool false))],[]⟩) r):=by
 have hh:=fun (w:Int)=>yH a0 a1 w
 have h:=fun ho=>cA (T:=TT) (k:=k) (c:=hZ) (step:=(fun (w:Int)=>dD a0 a1 w)) _ _ ho hh p1
 refine Eq.trans (h (fun r s e=>by have q:=congrArg Prod.fst e; rcases r with x | x <;> cases q)) ?_
 unfold iW
 exact bK _ fun x=>by rcases x with x | x <;> rfl
theorem A6 (a0:List Bool) (a1:List Bool):Vm.call TT 39 [.sl (cM cB a0),.sl (cM cB a1)] = (gD a0 a1).map fun (r:Bool)=>.bool r:=by
 refine (bQ (show TT 39 = some (.code ⟨2,26,[.tmp 4],aHa,false⟩) from rfl) _ rfl).trans ?_
 show cP TT aHa ⟨[(0,.d (.sl (cM cB a0))),(1,.d (.sl (cM cB a1)))],[]⟩ _ = _
 simp -implicitDefEqProofs (decide:=true) (maxSteps:=2000000) only [aHa,gD,↓yC,↓DN,↓DR,DQ,DP,↓reduceIte,Int.reduceToNat,Nat.reduceBEq,Nat.reduceAdd,Nat.reduceLT,Nat.reduceLeDiff,Nat.reduceEqDiff,Int.reduceEq,ne_eq,zN,reduceCtorEq,bJ,bM,bN,zM,zA,zB,aH,zC,zD,if_true,if_false,zE,zF,aG,zG,aJ,zH,zI,zJ,zK,aQ,aP,aV,aT,aS,aD,aL,aM,aE,aK,aF,aR,aZ,aU,aI,aW,zL]
 all_goals try simp only [bG]
 all_goals try rfl
theorem BB {β:Type} (a0:List Bool) (a1:List Bool) (d:Nat) (bl:List (Nat × Option aY)) (fz:List (Nat × Option aY)) (k:V→Option β) (kw:V→List (Nat × Option aY)→Option β):cH TT d bl 39 [.sl (cM cB a0),.sl (cM cB a1)] fz k kw = (gD a0 a1).bind fun (r:Bool)=>k (.d (.bool r)):=by
 have h:=A6 a0 a1
 exact bI h (fun _=>rfl) fz
end Go.Proofs.Ytfhebiceipgdmaa
