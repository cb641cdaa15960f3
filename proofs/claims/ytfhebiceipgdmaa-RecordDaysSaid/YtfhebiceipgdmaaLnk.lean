/- The functions of the small machine compute the plain definitions. Printed by a program. -/
import Derived.Test.YtfhebiceipgdmaaLnk4
set_option linter.unusedVariables false
set_option linter.unusedSimpArgs false
namespace Go.Proofs.Ytfhebiceipgdmaa
open Vm
open Go.RowKit
set_option maxRecDepth 100000
set_option maxHeartbeats 4000000
attribute [local congr] uI vW uO wI
theorem kR {β:Type} (a2:bB) (p3:Bool) (p5:Bool) (r6:Bool) (k:Ex→St→Option β):cX TT vB ⟨[(5,.ptr 5 0),(7,.d (.bool p3)),(8,.d (.bool p5)),(9,.d (.bool r6)),(64,.d (.int .i64 a2.Kind))],[(5,some (.box (aC a2.cells)))]⟩ k = (lG a2 p3 p5 r6).bind (fun (r:Unit ⊕ Bool)=>Sum.elim (fun (z:Unit)=>k .normal ⟨[(5,.ptr 5 0),(7,.d (.bool p3))],[(5,some (.box (aC a2.cells)))]⟩) (fun (z:Bool)=>k .ret ⟨[(6,.d (.bool z))],[]⟩) r):=by
 simp -implicitDefEqProofs (decide:=true) (maxSteps:=2000000) only [vB,lG,↓cV,↓iG,↓DN,↓DR,DQ,DP,↓reduceIte,Int.reduceToNat,Nat.reduceBEq,Nat.reduceAdd,Nat.reduceLT,Nat.reduceLeDiff,Nat.reduceEqDiff,Int.reduceEq,ne_eq,zN,reduceCtorEq,bM,bO,bP,zM,zA,zB,aH,zC,zD,if_true,if_false,zE,zF,aD,zG,aL,zH,zI,zJ,zK,aV,aQ,aR,aT,aS,aE,aK,aJ,aF,aM,aG,aW,bA,Vm.bind_map,aI,aU,zL]
 all_goals try simp only [bF]
 all_goals try rfl
theorem nI {β:Type} (a2:bB) (p3:Bool) (p5:Bool) (r6:Bool) (k:Ex→St→Option β):cX TT uR ⟨[(5,.ptr 5 0),(7,.d (.bool p3)),(8,.d (.bool p5)),(9,.d (.bool r6)),(64,.d (.int .i64 a2.Kind))],[(5,some (.box (aC a2.cells)))]⟩ k = (lJ a2 p3 p5 r6).bind (fun (r:Unit ⊕ Bool)=>Sum.elim (fun (z:Unit)=>k .normal ⟨[(5,.ptr 5 0),(7,.d (.bool p3))],[(5,some (.box (aC a2.cells)))]⟩) (fun (z:Bool)=>k .ret ⟨[(6,.d (.bool z))],[]⟩) r):=by
 simp -implicitDefEqProofs (decide:=true) (maxSteps:=2000000) only [uR,lJ,↓kR,↓cV,↓iG,↓DN,↓DR,DQ,DP,↓reduceIte,Int.reduceToNat,Nat.reduceBEq,Nat.reduceAdd,Nat.reduceLT,Nat.reduceLeDiff,Nat.reduceEqDiff,Int.reduceEq,ne_eq,zN,reduceCtorEq,bM,bO,bP,zM,zA,zB,aH,zC,zD,if_true,if_false,zE,zF,aD,zG,aL,zH,zI,zJ,zK,aV,aQ,aR,aT,aS,aE,aK,aJ,aF,aM,aG,aW,bA,Vm.bind_map,aI,aU,zL]
 all_goals try simp only [bF]
 all_goals try rfl
theorem pY {β:Type} (a2:bB) (p3:Bool) (k:Ex→St→Option β):cX TT uQ ⟨[(5,.ptr 5 0),(7,.d (.bool p3))],[(5,some (.box (aC a2.cells)))]⟩ k = (nN a2 p3).bind (fun (r:Bool)=>k .ret ⟨[(6,.d (.bool r))],[]⟩):=by
 simp -implicitDefEqProofs (decide:=true) (maxSteps:=2000000) only [uQ,nN,↓kR,↓nI,↓cV,↓iG,↓DN,↓DR,DQ,DP,↓reduceIte,Int.reduceToNat,Nat.reduceBEq,Nat.reduceAdd,Nat.reduceLT,Nat.reduceLeDiff,Nat.reduceEqDiff,Int.reduceEq,ne_eq,zN,reduceCtorEq,bM,bO,bP,zM,zA,zB,aH,zC,zD,if_true,if_false,zE,zF,aD,zG,aL,zH,zI,zJ,zK,aV,aQ,aR,aT,aS,aE,aK,aJ,aF,aM,aG,aW,bA,Vm.bind_map,aI,aU,zL]
 all_goals try simp only [bF]
 all_goals try rfl
theorem uZ {β:Type} (a2:bB) (p3:Bool) (p5:Bool) (r6:Bool) (k:Ex→St→Option β):cX TT uW ⟨[(5,.ptr 5 0),(7,.d (.bool p3)),(8,.d (.bool p5)),(9,.d (.bool r6))],[(5,some (.box (aC a2.cells)))]⟩ k = (nL a2 p3 p5 r6).bind (fun (r:Bool)=>k .ret ⟨[(6,.d (.bool r))],[]⟩):=by
 simp -implicitDefEqProofs (decide:=true) (maxSteps:=2000000) only [uW,nL,↓kR,↓nI,↓pY,↓cV,↓iG,↓DN,↓DR,DQ,DP,↓reduceIte,Int.reduceToNat,Nat.reduceBEq,Nat.reduceAdd,Nat.reduceLT,Nat.reduceLeDiff,Nat.reduceEqDiff,Int.reduceEq,ne_eq,zN,reduceCtorEq,bM,bO,bP,zM,zA,zB,aH,zC,zD,if_true,if_false,zE,zF,aD,zG,aL,zH,zI,zJ,zK,aV,aQ,aR,aT,aS,aE,aK,aJ,aF,aM,aG,aW,bA,Vm.bind_map,aI,aU,zL]
 all_goals try simp only [bF]
 all_goals try rfl
theorem BN {β:Type} (a0:aA) (a2:bB) (p3:Bool) (p5:Bool) (k:Ex→St→Option β):cX TT uS ⟨[(3,.ptr 3 0),(5,.ptr 5 0),(7,.d (.bool p3)),(8,.d (.bool p5))],[(3,some (.box (aC a0.cells))),(5,some (.box (aC a2.cells)))]⟩ k = (lI a0 a2 p3 p5).bind (fun (r:Bool)=>k .ret ⟨[(6,.d (.bool r))],[]⟩):=by
 simp -implicitDefEqProofs (decide:=true) (maxSteps:=2000000) only [uS,lI,↓kR,↓nI,↓pY,↓uZ,↓cV,↓iG,↓DN,↓DR,DQ,DP,↓reduceIte,Int.reduceToNat,Nat.reduceBEq,Nat.reduceAdd,Nat.reduceLT,Nat.reduceLeDiff,Nat.reduceEqDiff,Int.reduceEq,ne_eq,zN,reduceCtorEq,bM,bO,bP,zM,zA,zB,aH,zC,zD,if_true,if_false,zE,zF,aD,zG,aL,zH,zI,zJ,zK,aV,aQ,aR,aT,aS,aE,aK,aJ,aF,aM,aG,aW,bA,Vm.bind_map,aI,aU,zL]
 all_goals try simp only [bF]
 all_goals try rfl
theorem IC {β:Type} (a0:aA) (a1:aB) (a2:bB) (p3:Bool) (k:Ex→St→Option β):cX TT uT ⟨[(3,.ptr 3 0),(4,.ptr 4 0),(5,.ptr 5 0),(7,.d (.bool p3))],[(3,some (.box (aC a0.cells))),(4,some (.box (aC a1.cells))),(5,some (.box (aC a2.cells)))]⟩ k = (lD a0 a1 a2 p3).bind (fun (r:Bool)=>k .ret ⟨[(6,.d (.bool r))],[]⟩):=by
 simp -implicitDefEqProofs (decide:=true) (maxSteps:=2000000) only [uT,lD,↓kR,↓nI,↓pY,↓uZ,↓BN,↓cV,↓iG,↓DN,↓DR,DQ,DP,↓reduceIte,Int.reduceToNat,Nat.reduceBEq,Nat.reduceAdd,Nat.reduceLT,Nat.reduceLeDiff,Nat.reduceEqDiff,Int.reduceEq,ne_eq,zN,reduceCtorEq,bM,bO,bP,zM,zA,zB,aH,zC,zD,if_true,if_false,zE,zF,aD,zG,aL,zH,zI,zJ,zK,aV,aQ,aR,aT,aS,aE,aK,aJ,aF,aM,aG,aW,bA,Vm.bind_map,aI,aU,zL]
 all_goals try simp only [bF]
 all_goals try rfl
theorem NZ (a0:aA) (a1:aB) (a2:bB):Vm.call TT 80 [.agg a0.cells,.agg a1.cells,.agg a2.cells] = (tB a0 a1 a2).map fun (r:Bool)=>.bool r:=by
 refine (bX (show TT 80 = some (.code ⟨3,135,[.tmp 6],aEF,false,false⟩) from rfl) _ rfl rfl).trans ?_
 show cX TT aEF ⟨[(0,cW a0.cells),(1,cW a1.cells),(2,cW a2.cells)],[]⟩ _ = _
 simp -implicitDefEqProofs (decide:=true) (maxSteps:=2000000) only [aEF,tB,↓kR,↓nI,↓pY,↓uZ,↓BN,↓IC,↓cV,↓iG,↓DN,↓DR,DQ,DP,↓reduceIte,Int.reduceToNat,Nat.reduceBEq,Nat.reduceAdd,Nat.reduceLT,Nat.reduceLeDiff,Nat.reduceEqDiff,Int.reduceEq,ne_eq,zN,reduceCtorEq,bM,bO,bP,zM,zA,zB,aH,zC,zD,if_true,if_false,zE,zF,aD,zG,aL,zH,zI,zJ,zK,aV,aQ,aR,aT,aS,aE,aK,aJ,aF,aM,aG,aW,bA,Vm.bind_map,aI,aU,zL]
 all_goals try simp only [bF]
 all_goals try rfl
theorem vO {β:Type} (a0:aA) (a1:aB) (a2:bB) (d:Nat) (bl:List (Nat × Option aX)) (fz:List (Nat × Option aX)) (k:V→Option β) (kw:V→List (Nat × Option aX)→Option β):dM TT d bl 80 [.agg a0.cells,.agg a1.cells,.agg a2.cells] fz k kw = (tB a0 a1 a2).bind fun (r:Bool)=>k (.d (.bool r)):=by
 have h:=NZ a0 a1 a2
 exact bR h (fun _=>rfl) fz
theorem sY {β:Type} (a0:aA) (a1:aB) (p1:Int) (x2:bB) (p10:Int) (k:Ex→St→Option β):cX TT tI ⟨[(2,.ptr 2 0),(3,.ptr 3 0),(6,.ptr 6 0),(7,.d (.int .i64 p10)),(9,.d (.sl (cM bB.cells a1.Acts))),(10,.d (.int .i64 (a1.Acts.length:Int))),(11,.d (.int .i64 p1))],[(2,some (.box (aC a0.cells))),(3,some (.box (aC a1.cells))),(6,some (.box (aC x2.cells)))]⟩ k = (oI a0 a1 p1 x2 p10).bind (fun (r:Unit ⊕ Unit)=>Sum.elim (fun (z:Unit)=>k .normal ⟨[(2,.ptr 2 0),(3,.ptr 3 0),(9,.d (.sl (cM bB.cells a1.Acts))),(10,.d (.int .i64 (a1.Acts.length:Int))),(11,.d (.int .i64 p1))],[(2,some (.box (aC a0.cells))),(3,some (.box (aC a1.cells)))]⟩) (fun (z:Unit)=>k .ret ⟨[(4,.d (.int .i64 13))],[]⟩) r):=by
 simp -implicitDefEqProofs (decide:=true) (maxSteps:=2000000) only [tI,oI,↓cV,↓vO,↓DN,↓DR,DQ,DP,↓reduceIte,Int.reduceToNat,Nat.reduceBEq,Nat.reduceAdd,Nat.reduceLT,Nat.reduceLeDiff,Nat.reduceEqDiff,Int.reduceEq,ne_eq,zN,reduceCtorEq,bM,bO,bP,zM,zA,zB,aH,zC,zD,if_true,if_false,zE,zF,aD,zG,aL,zH,zI,zJ,zK,aV,aQ,aR,aT,aS,aE,aK,aJ,aF,aM,aG,aW,bA,Vm.bind_map,aI,aU,zL]
 all_goals try simp only [bF]
 all_goals try rfl
theorem zW {β:Type} (a0:aA) (a1:aB) (p1:Int) (x2:bB) (p8:Int) (k:Ex→St→Option β):cX TT sX ⟨[(2,.ptr 2 0),(3,.ptr 3 0),(5,.d (.int .i64 p1)),(6,.ptr 6 0),(7,.d (.int .i64 p8)),(9,.d (.sl (cM bB.cells a1.Acts))),(10,.d (.int .i64 (a1.Acts.length:Int))),(11,.d (.int .i64 p1))],[(2,some (.box (aC a0.cells))),(3,some (.box (aC a1.cells))),(6,some (.box (aC x2.cells)))]⟩ k = (mM a0 a1 p1 x2 p8).bind (fun (r:Unit ⊕ Unit)=>Sum.elim (fun (z:Unit)=>k .normal ⟨[(2,.ptr 2 0),(3,.ptr 3 0),(9,.d (.sl (cM bB.cells a1.Acts))),(10,.d (.int .i64 (a1.Acts.length:Int))),(11,.d (.int .i64 p1))],[(2,some (.box (aC a0.cells))),(3,some (.box (aC a1.cells)))]⟩) (fun (z:Unit)=>k .ret ⟨[(4,.d (.int .i64 13))],[]⟩) r):=by
 simp -implicitDefEqProofs (decide:=true) (maxSteps:=2000000) only [sX,mM,↓sY,↓cV,↓vO,↓DN,↓DR,DQ,DP,↓reduceIte,Int.reduceToNat,Nat.reduceBEq,Nat.reduceAdd,Nat.reduceLT,Nat.reduceLeDiff,Nat.reduceEqDiff,Int.reduceEq,ne_eq,zN,reduceCtorEq,bM,bO,bP,zM,zA,zB,aH,zC,zD,if_true,if_false,zE,zF,aD,zG,aL,zH,zI,zJ,zK,aV,aQ,aR,aT,aS,aE,aK,aJ,aF,aM,aG,aW,bA,Vm.bind_map,aI,aU,zL]
 all_goals try simp only [bF]
 all_goals try rfl
theorem GH (a0:aA) (a1:aB) (p1:Int):cX TT pB ⟨[(2,.ptr 2 0),(3,.ptr 3 0),(9,.d (.sl (cM bB.cells a1.Acts))),(10,.d (.int .i64 (a1.Acts.length:Int))),(11,.d (.int .i64 p1))],[(2,some (.box (aC a0.cells))),(3,some (.box (aC a1.cells)))]⟩ (fun e s=>some (e,s)) = dW (fun (w:Int)=>(⟨[(2,.ptr 2 0),(3,.ptr 3 0),(9,.d (.sl (cM bB.cells a1.Acts))),(10,.d (.int .i64 (a1.Acts.length:Int))),(11,.d (.int .i64 w))],[(2,some (.box (aC a0.cells))),(3,some (.box (aC a1.cells)))]⟩ : St)) (fun (r:Unit ⊕ Int)=>Sum.elim (fun (z:Unit)=>(((.exit 0),⟨[],[]⟩):Ex × St)) (fun (z:Int)=>((.ret,⟨[(4,.d (.int .i64 z))],[]⟩):Ex × St)) r) (iO a0 a1 p1):=by
 simp -implicitDefEqProofs (decide:=true) (maxSteps:=2000000) only [pB,iO,↓sY,↓zW,↓cV,↓vO,↓DN,↓DR,DQ,DP,↓reduceIte,Int.reduceToNat,Nat.reduceBEq,Nat.reduceAdd,Nat.reduceLT,Nat.reduceLeDiff,Nat.reduceEqDiff,Int.reduceEq,ne_eq,zN,reduceCtorEq,bM,bO,bP,zM,zA,zB,aH,zC,zD,if_true,if_false,zE,zF,aD,zG,aL,zH,zI,zJ,zK,aV,aQ,aR,aT,aS,aE,aK,aJ,aF,aM,aG,aW,bA,Vm.bind_map,aI,aU,zL]
 all_goals try simp only [bF]
 all_goals try rfl
theorem F3 {β:Type} (a0:aA) (a1:aB) (p1:Int) (k:Ex→St→Option β):cX TT yV ⟨[(2,.ptr 2 0),(3,.ptr 3 0),(9,.d (.sl (cM bB.cells a1.Acts))),(10,.d (.int .i64 (a1.Acts.length:Int))),(11,.d (.int .i64 p1))],[(2,some (.box (aC a0.cells))),(3,some (.box (aC a1.cells)))]⟩ k = (oT a0 a1 p1).bind (fun (r:Unit ⊕ Int)=>Sum.elim (fun (z:Unit)=>k (.exit 0) ⟨[],[]⟩) (fun (z:Int)=>k .ret ⟨[(4,.d (.int .i64 z))],[]⟩) r):=by
 have hh:=fun (w:Int)=>GH a0 a1 w
 have h:=fun ho=>cA (T:=TT) (k:=k) (c:=pB) (step:=(fun (w:Int)=>iO a0 a1 w)) _ _ ho hh p1
 refine Eq.trans (h (fun r s e=>by have q:=congrArg Prod.fst e; rcases r with x | x <;> cases q)) ?_
 unfold oT
 exact bQ _ fun x=>by rcases x with x | x <;> rfl
theorem MB (a0:aA) (a1:aB):Vm.call TT 60 [.agg a0.cells,.agg a1.cells] = (qN a0 a1).map fun (r:Int)=>.int .i64 r:=by
 refine (bX (show TT 60 = some (.code ⟨2,75,[.tmp 4],aFN,false,false⟩) from rfl) _ rfl rfl).trans ?_
 show cX TT aFN ⟨[(0,cW a0.cells),(1,cW a1.cells)],[]⟩ _ = _
 simp -implicitDefEqProofs (decide:=true) (maxSteps:=2000000) only [aFN,qN,↓sY,↓zW,↓F3,↓cV,↓vO,↓DN,↓DR,DQ,DP,↓reduceIte,Int.reduceToNat,Nat.reduceBEq,Nat.reduceAdd,Nat.reduceLT,Nat.reduceLeDiff,Nat.reduceEqDiff,Int.reduceEq,ne_eq,zN,reduceCtorEq,bM,bO,bP,zM,zA,zB,aH,zC,zD,if_true,if_false,zE,zF,aD,zG,aL,zH,zI,zJ,zK,aV,aQ,aR,aT,aS,aE,aK,aJ,aF,aM,aG,aW,bA,Vm.bind_map,aI,aU,zL]
 all_goals try simp only [bF]
 all_goals try rfl
theorem yF {β:Type} (a0:aA) (a1:aB) (d:Nat) (bl:List (Nat × Option aX)) (fz:List (Nat × Option aX)) (k:V→Option β) (kw:V→List (Nat × Option aX)→Option β):dM TT d bl 60 [.agg a0.cells,.agg a1.cells] fz k kw = (qN a0 a1).bind fun (r:Int)=>k (.d (.int .i64 r)):=by
 have h:=MB a0 a1
 exact bR h (fun _=>rfl) fz
theorem G5 (a0:Int):Vm.call TT 102 [.int .i64 a0] = (mF a0).map fun (r:Bool)=>.bool r:=by
 refine (bX (show TT 102 = some (.code ⟨1,6,[.tmp 2],WL,false,false⟩) from rfl) _ rfl rfl).trans ?_
 show cX TT WL ⟨[(0,.d (.int .i64 a0))],[]⟩ _ = _
 simp -implicitDefEqProofs (decide:=true) (maxSteps:=2000000) only [WL,mF,↓DN,↓DR,DQ,DP,↓reduceIte,Int.reduceToNat,Nat.reduceBEq,Nat.reduceAdd,Nat.reduceLT,Nat.reduceLeDiff,Nat.reduceEqDiff,Int.reduceEq,ne_eq,zN,reduceCtorEq,bM,bO,bP,zM,zA,zB,aH,zC,zD,if_true,if_false,zE,zF,aD,zG,aL,zH,zI,zJ,zK,aV,aQ,aR,aT,aS,aE,aK,aJ,aF,aM,aG,aW,bA,Vm.bind_map,aI,aU,zL]
 all_goals try simp only [bF]
 all_goals try rfl
theorem G9 {β:Type} (a0:Int) (d:Nat) (bl:List (Nat × Option aX)) (fz:List (Nat × Option aX)) (k:V→Option β) (kw:V→List (Nat × Option aX)→Option β):dM TT d bl 102 [.int .i64 a0] fz k kw = (mF a0).bind fun (r:Bool)=>k (.d (.bool r)):=by
 have h:=G5 a0
 exact bR h (fun _=>rfl) fz
theorem D1 (a0:Int) (a1:Int):Vm.call TT 82 [.int .i64 a0,.int .i64 a1] = (iS a0 a1).map fun (r:Int)=>.int .i64 r:=by
 refine (bX (show TT 82 = some (.code ⟨2,20,[.tmp 4],aD4,false,false⟩) from rfl) _ rfl rfl).trans ?_
 show cX TT aD4 ⟨[(0,.d (.int .i64 a0)),(1,.d (.int .i64 a1))],[]⟩ _ = _
 simp -implicitDefEqProofs (decide:=true) (maxSteps:=2000000) only [aD4,iS,↓G9,↓DN,↓DR,DQ,DP,↓reduceIte,Int.reduceToNat,Nat.reduceBEq,Nat.reduceAdd,Nat.reduceLT,Nat.reduceLeDiff,Nat.reduceEqDiff,Int.reduceEq,ne_eq,zN,reduceCtorEq,bM,bO,bP,zM,zA,zB,aH,zC,zD,if_true,if_false,zE,zF,aD,zG,aL,zH,zI,zJ,zK,aV,aQ,aR,aT,aS,aE,aK,aJ,aF,aM,aG,aW,bA,Vm.bind_map,aI,aU,zL]
 all_goals try simp only [bF]
 all_goals try rfl
theorem wW {β:Type} (a0:Int) (a1:Int) (d:Nat) (bl:List (Nat × Option aX)) (fz:List (Nat × Option aX)) (k:V→Option β) (kw:V→List (Nat × Option aX)→Option β):dM TT d bl 82 [.int .i64 a0,.int .i64 a1] fz k kw = (iS a0 a1).bind fun (r:Int)=>k (.d (.int .i64 r)):=by
 have h:=D1 a0 a1
 exact bR h (fun _=>rfl) fz
theorem F7 (a0:List Int) (p1:Int):cX TT o4 ⟨[(3,.d (.int .i64 0)),(6,.d (.sl (cM cI a0))),(7,.d (.int .i64 (a0.length:Int))),(8,.d (.int .i64 p1))],[]⟩ (fun e s=>some (e,s)) = dW (fun (w:Int)=>(⟨[(3,.d (.int .i64 0)),(6,.d (.sl (cM cI a0))),(7,.d (.int .i64 (a0.length:Int))),(8,.d (.int .i64 w))],[]⟩ : St)) (fun (r:Unit ⊕ Int)=>Sum.elim (fun (z:Unit)=>(((.exit 0),⟨[(3,.d (.int .i64 0))],[]⟩):Ex × St)) (fun (z:Int)=>((.ret,⟨[(2,.d (.int .i64 z))],[]⟩):Ex × St)) r) (mI a0 p1):=by
 simp -implicitDefEqProofs (decide:=true) (maxSteps:=2000000) only [o4,mI,↓DN,↓DR,DQ,DP,↓reduceIte,Int.reduceToNat,Nat.reduceBEq,Nat.reduceAdd,Nat.reduceLT,Nat.reduceLeDiff,Nat.reduceEqDiff,Int.reduceEq,ne_eq,zN,reduceCtorEq,bM,bO,bP,zM,zA,zB,aH,zC,zD,if_true,if_false,zE,zF,aD,zG,aL,zH,zI,zJ,zK,aV,aQ,aR,aT,aS,aE,aK,aJ,aF,aM,aG,aW,bA,Vm.bind_map,aI,aU,zL]
 all_goals try simp only [bF]
 all_goals try rfl
theorem GN {β:Type} (a0:List Int) (p1:Int) (k:Ex→St→Option β):cX TT yW ⟨[(3,.d (.int .i64 0)),(6,.d (.sl (cM cI a0))),(7,.d (.int .i64 (a0.length:Int))),(8,.d (.int .i64 p1))],[]⟩ k = (oR a0 p1).bind (fun (r:Unit ⊕ Int)=>Sum.elim (fun (z:Unit)=>k (.exit 0) ⟨[(3,.d (.int .i64 0))],[]⟩) (fun (z:Int)=>k .ret ⟨[(2,.d (.int .i64 z))],[]⟩) r):=by
 have hh:=fun (w:Int)=>F7 a0 w
 have h:=fun ho=>cA (T:=TT) (k:=k) (c:=o4) (step:=(fun (w:Int)=>mI a0 w)) _ _ ho hh p1
 refine Eq.trans (h (fun r s e=>by have q:=congrArg Prod.fst e; rcases r with x | x <;> cases q)) ?_
 unfold oR
 exact bQ _ fun x=>by rcases x with x | x <;> rfl
theorem L4 (a0:List Int):Vm.call TT 81 [.sl (cM cI a0)] = (qW a0).map fun (r:Int)=>.int .i64 r:=by
 refine (bX (show TT 81 = some (.code ⟨1,18,[.tmp 2],aFp,false,false⟩) from rfl) _ rfl rfl).trans ?_
 show cX TT aFp ⟨[(0,.d (.sl (cM cI a0)))],[]⟩ _ = _
 simp -implicitDefEqProofs (decide:=true) (maxSteps:=2000000) only [aFp,qW,↓GN,↓DN,↓DR,DQ,DP,↓reduceIte,Int.reduceToNat,Nat.reduceBEq,Nat.reduceAdd,Nat.reduceLT,Nat.reduceLeDiff,Nat.reduceEqDiff,Int.reduceEq,ne_eq,zN,reduceCtorEq,bM,bO,bP,zM,zA,zB,aH,zC,zD,if_true,if_false,zE,zF,aD,zG,aL,zH,zI,zJ,zK,aV,aQ,aR,aT,aS,aE,aK,aJ,aF,aM,aG,aW,bA,Vm.bind_map,aI,aU,zL]
 all_goals try simp only [bF]
 all_goals try rfl
theorem DS {β:Type} (a0:List Int) (d:Nat) (bl:List (Nat × Option aX)) (fz:List (Nat × Option aX)) (k:V→Option β) (kw:V→List (Nat × Option aX)→Option β):dM TT d bl 81 [.sl (cM cI a0)] fz k kw = (qW a0).bind fun (r:Int)=>k (.d (.int .i64 r)):=by
 have h:=L4 a0
 exact bR h (fun _=>rfl) fz
theorem FU (a0:aB) (p1:Int):cX TT oE ⟨[(1,.ptr 1 0),(7,.d (.sl (cM bG.cells a0.Facts))),(8,.d (.int .i64 (a0.Facts.length:Int))),(9,.d (.int .i64 p1))],[(1,some (.box (aC a0.cells)))]⟩ (fun e s=>some (e,s)) = dW (fun (w:Int)=>(⟨[(1,.ptr 1 0),(7,.d (.sl (cM bG.cells a0.Facts))),(8,.d (.int .i64 (a0.Facts.length:Int))),(9,.d (.int .i64 w))],[(1,some (.box (aC a0.cells)))]⟩ : St)) (fun (r:Unit ⊕ Int)=>Sum.elim (fun (z:Unit)=>(((.exit 0),⟨[],[]⟩):Ex × St)) (fun (z:Int)=>((.ret,⟨[(2,.d (.int .i64 z))],[]⟩):Ex × St)) r) (gT a0 p1):=by
 simp -implicitDefEqProofs (decide:=true) (maxSteps:=2000000) only [oE,gT,↓cV,↓DS,↓wW,↓DN,↓DR,DQ,DP,↓reduceIte,Int.reduceToNat,Nat.reduceBEq,Nat.reduceAdd,Nat.reduceLT,Nat.reduceLeDiff,Nat.reduceEqDiff,Int.reduceEq,ne_eq,zN,reduceCtorEq,bM,bO,bP,zM,zA,zB,aH,zC,zD,if_true,if_false,zE,zF,aD,zG,aL,zH,zI,zJ,zK,aV,aQ,aR,aT,aS,aE,aK,aJ,aF,aM,aG,aW,bA,Vm.bind_map,aI,aU,zL]
 all_goals try simp only [bF]
 all_goals try rfl
theorem ES {β:Type} (a0:aB) (p1:Int) (k:Ex→St→Option β):cX TT xI ⟨[(1,.ptr 1 0),(7,.d (.sl (cM bG.cells a0.Facts))),(8,.d (.int .i64 (a0.Facts.length:Int))),(9,.d (.int .i64 p1))],[(1,some (.box (aC a0.cells)))]⟩ k = (nG a0 p1).bind (fun (r:Unit ⊕ Int)=>Sum.elim (fun (z:Unit)=>k (.exit 0) ⟨[],[]⟩) (fun (z:Int)=>k .ret ⟨[(2,.d (.int .i64 z))],[]⟩) r):=by
 have hh:=fun (w:Int)=>FU a0 w
 have h:=fun ho=>cA (T:=TT) (k:=k) (c:=oE) (step:=(fun (w:Int)=>gT a0 w)) _ _ ho hh p1
 refine Eq.trans (h (fun r s e=>by have q:=congrArg Prod.fst e; rcases r with x | x <;> cases q)) ?_
 unfold nG
 exact bQ _ fun x=>by rcases x with x | x <;> rfl
theorem KB (a0:aB):Vm.call TT 61 [.agg a0.cells] = (pD a0).map fun (r:Int)=>.int .i64 r:=by
 refine (bX (show TT 61 = some (.code ⟨1,56,[.tmp 2],aEL,false,false⟩) from rfl) _ rfl rfl).trans ?_
 show cX TT aEL ⟨[(0,cW a0.cells)],[]⟩ _ = _
 simp -implicitDefEqProofs (decide:=true) (maxSteps:=2000000) only [aEL,pD,↓ES,↓cV,↓DS,↓wW,↓DN,↓DR,DQ,DP,↓reduceIte,Int.reduceToNat,Nat.reduceBEq,Nat.reduceAdd,Nat.reduceLT,Nat.reduceLeDiff,Nat.reduceEqDiff,Int.reduceEq,ne_eq,zN,reduceCtorEq,bM,bO,bP,zM,zA,zB,aH,zC,zD,if_true,if_false,zE,zF,aD,zG,aL,zH,zI,zJ,zK,aV,aQ,aR,aT,aS,aE,aK,aJ,aF,aM,aG,aW,bA,Vm.bind_map,aI,aU,zL]
 all_goals try simp only [bF]
 all_goals try rfl
theorem wV {β:Type} (a0:aB) (d:Nat) (bl:List (Nat × Option aX)) (fz:List (Nat × Option aX)) (k:V→Option β) (kw:V→List (Nat × Option aX)→Option β):dM TT d bl 61 [.agg a0.cells] fz k kw = (pD a0).bind fun (r:Int)=>k (.d (.int .i64 r)):=by
 have h:=KB a0
 exact bR h (fun _=>rfl) fz
theorem E2 (a0:aA) (a1:aB) (p2:Int):cX TT n7 ⟨[(2,.ptr 2 0),(3,.ptr 3 0),(47,.d (.int .i64 (a1.Signs.length:Int))),(48,.d (.int .i64 p2))],[(2,some (.box (aC a0.cells))),(3,some (.box (aC a1.cells)))]⟩ (fun e s=>some (e,s)) = dW (fun (w:Int)=>(⟨[(2,.ptr 2 0),(3,.ptr 3 0),(47,.d (.int .i64 (a1.Signs.length:Int))),(48,.d (.int .i64 w))],[(2,some (.box (aC a0.cells))),(3,some (.box (aC a1.cells)))]⟩ : St)) (fun (r:Unit ⊕ Int)=>Sum.elim (fun (z:Unit)=>(((.exit 0),⟨[(2,.ptr 2 0),(3,.ptr 3 0)],[(2,some (.box (aC a0.cells))),(3,some (.box (aC a1.cells)))]⟩):Ex × St)) (fun (z:Int)=>((.ret,⟨[(4,.d (.int .i64 z))],[]⟩):Ex × St)) r) (gP a0 a1 p2):=by
 simp -implicitDefEqProofs (decide:=true) (maxSteps:=2000000) only [n7,gP,↓tE,↓yC,↓cV,↓yF,↓wV,↓DN,↓DR,DQ,DP,↓reduceIte,Int.reduceToNat,Nat.reduceBEq,Nat.reduceAdd,Nat.reduceLT,Nat.reduceLeDiff,Nat.reduceEqDiff,Int.reduceEq,ne_eq,zN,reduceCtorEq,bM,bO,bP,zM,zA,zB,aH,zC,zD,if_true,if_false,zE,zF,aD,zG,aL,zH,zI,zJ,zK,aV,aQ,aR,aT,aS,aE,aK,aJ,aF,aM,aG,aW,bA,Vm.bind_map,aI,aU,zL]
 all_goals try simp only [bF]
 all_goals try rfl
theorem xR {β:Type} (a0:aA) (a1:aB) (p2:Int) (k:Ex→St→Option β):cX TT xD ⟨[(2,.ptr 2 0),(3,.ptr 3 0),(47,.d (.int .i64 (a1.Signs.length:Int))),(48,.d (.int .i64 p2))],[(2,some (.box (aC a0.cells))),(3,some (.box (aC a1.cells)))]⟩ k = (nC a0 a1 p2).bind (fun (r:Unit ⊕ Int)=>Sum.elim (fun (z:Unit)=>k (.exit 0) ⟨[(2,.ptr 2 0),(3,.ptr 3 0)],[(2,some (.box (aC a0.cells))),(3,some (.box (aC a1.cells)))]⟩) (fun (z:Int)=>k .ret ⟨[(4,.d (.int .i64 z))],[]⟩) r):=by
 have hh:=fun (w:Int)=>E2 a0 a1 w
 have h:=fun ho=>cA (T:=TT) (k:=k) (c:=n7) (step:=(fun (w:Int)=>gP a0 a1 w)) _ _ ho hh p2
 refine Eq.trans (h (fun r s e=>by have q:=congrArg Prod.fst e; rcases r with x | x <;> cases q)) ?_
 unfold nC
 exact bQ _ fun x=>by rcases x with x | x <;> rfl
theorem FS (a0:aA) (a1:aB) (p8:Int) (p9:Int):cX TT nS ⟨[(2,.ptr 2 0),(3,.ptr 3 0),(8,.d (.int .i64 p8)),(60,.d (.sl (cM aZ.cells a1.Alters))),(61,.d (.int .i64 (a1.Alters.length:Int))),(62,.d (.int .i64 p9))],[(2,some (.box (aC a0.cells))),(3,some (.box (aC a1.cells)))]⟩ (fun e s=>some (e,s)) = dW (fun (w:Int × Int)=>(⟨[(2,.ptr 2 0),(3,.ptr 3 0),(8,.d (.int .i64 w.1)),(60,.d (.sl (cM aZ.cells a1.Alters))),(61,.d (.int .i64 (a1.Alters.length:Int))),(62,.d (.int .i64 w.2))],[(2,some (.box (aC a0.cells))),(3,some (.box (aC a1.cells)))]⟩ : St)) (fun (r:Unit ⊕ Int)=>Sum.elim (fun (z:Unit)=>(((.exit 2),⟨[(2,.ptr 2 0),(3,.ptr 3 0)],[(2,some (.box (aC a0.cells))),(3,some (.box (aC a1.cells)))]⟩):Ex × St)) (fun (z:Int)=>((.ret,⟨[(4,.d (.int .i64 z))],[]⟩):Ex × St)) r) (hY a0 a1 p8 p9):=by
 simp -implicitDefEqProofs (decide:=true) (maxSteps:=2000000) only [nS,hY,↓xR,↓tE,↓yC,↓cV,↓yF,↓wV,↓DN,↓DR,DQ,DP,↓reduceIte,Int.reduceToNat,Nat.reduceBEq,Nat.reduceAdd,Nat.reduceLT,Nat.reduceLeDiff,Nat.reduceEqDiff,Int.reduceEq,ne_eq,zN,reduceCtorEq,bM,bO,bP,zM,zA,zB,aH,zC,zD,if_true,if_false,zE,zF,aD,zG,aL,zH,zI,zJ,zK,aV,aQ,aR,aT,aS,aE,aK,aJ,aF,aM,aG,aW,bA,Vm.bind_map,aI,aU,zL]
 all_goals try simp only [bF]
 all_goals try rfl
theorem EX {β:Type} (a0:aA) (a1:aB) (p8:Int) (p9:Int) (k:Ex→St→Option β):cX TT xB ⟨[(2,.ptr 2 0),(3,.ptr 3 0),(8,.d (.int .i64 p8)),(60,.d (.sl (cM aZ.cells a1.Alters))),(61,.d (.int .i64 (a1.Alters.length:Int))),(62,.d (.int .i64 p9))],[(2,some (.box (aC a0.cells))),(3,some (.box (aC a1.cells)))]⟩ k = (nF a0 a1 p8 p9).bind (fun (r:Unit ⊕ Int)=>Sum.elim (fun (z:Unit)=>k (.exit 2) ⟨[(2,.ptr 2 0),(3,.ptr 3 0)],[(2,some (.box (aC a0.cells))),(3,some (.box (aC a1.cells)))]⟩) (fun (z:Int)=>k .ret ⟨[(4,.d (.int .i64 z))],[]⟩) r):=by
 have hh:=fun (w:Int × Int)=>FS a0 a1 w.1 w.2
 have h:=fun ho=>cA (T:=TT) (k:=k) (c:=nS) (step:=(fun (w:Int × Int)=>hY a0 a1 w.1 w.2)) _ _ ho hh (p8,p9)
 refine Eq.trans (h (fun r s e=>by have q:=congrArg Prod.fst e; rcases r with x | x <;> cases q)) ?_
 unfold nF
 exact bQ _ fun x=>by rcases x with x | x <;> rfl
theorem K9 (a0:aA) (a1:aB):Vm.call TT 29 [.agg a0.cells,.agg a1.cells] = (lA a0 a1).map fun (r:Int)=>.int .i64 r:=by
 refine (bX (show TT 29 = some (.code ⟨2,90,[.tmp 4],aFO,false,false⟩) from rfl) _ rfl rfl).trans ?_
 show cX TT aFO ⟨[(0,cW a0.cells),(1,cW a1.cells)],[]⟩ _ = _
 simp -implicitDefEqProofs (decide:=true) (maxSteps:=2000000) only [aFO,lA,↓xR,↓EX,↓tE,↓yC,↓cV,↓yF,↓wV,↓DN,↓DR,DQ,DP,↓reduceIte,Int.reduceToNat,Nat.reduceBEq,Nat.reduceAdd,Nat.reduceLT,Nat.reduceLeDiff,Nat.reduceEqDiff,Int.reduceEq,ne_eq,zN,reduceCtorEq,bM,bO,bP,zM,zA,zB,aH,zC,zD,if_true,if_false,zE,zF,aD,zG,aL,zH,zI,zJ,zK,aV,aQ,aR,aT,aS,aE,aK,aJ,aF,aM,aG,aW,bA,Vm.bind_map,aI,aU,zL]
 all_goals try simp only [bF]
 all_goals try rfl
theorem gE {β:Type} (a0:aA) (a1:aB) (d:Nat) (bl:List (Nat × Option aX)) (fz:List (Nat × Option aX)) (k:V→Option β) (kw:V→List (Nat × Option aX)→Option β):dM TT d bl 29 [.agg a0.cells,.agg a1.cells] fz k kw = (lA a0 a1).bind fun (r:Int)=>k (.d (.int .i64 r)):=by
 have h:=K9 a0 a1
 exact bR h (fun _=>rfl) fz
theorem uC (a1:aB) (a2:Int) (r1:Bool) (r4:aB) (p15:Int):cX TT fU ⟨[(2,.d (.int .i64 a2)),(5,.ptr 5 0),(9,.d (.bool r1)),(10,.ptr 10 0),(12,.d (.int .i64 p15))],[(5,some (.box (aC a1.cells))),(10,some (.box (aC r4.cells)))]⟩ (fun e s=>some (e,s)) = dW (fun (w:Int)=>(⟨[(2,.d (.int .i64 a2)),(5,.ptr 5 0),(9,.d (.bool r1)),(10,.ptr 10 0),(12,.d (.int .i64 w))],[(5,some (.box (aC a1.cells))),(10,some (.box (aC r4.cells)))]⟩ : St)) (fun (r:Unit ⊕ Unit)=>Sum.elim (fun (z:Unit)=>(((.exit 0),⟨[(2,.d (.int .i64 a2)),(5,.ptr 5 0),(9,.d (.bool r1)),(10,.ptr 10 0)],[(5,some (.box (aC a1.cells))),(10,some (.box (aC r4.cells)))]⟩):Ex × St)) (fun (z:Unit)=>((.ret,⟨[(8,.d (.bool false))],[]⟩):Ex × St)) r) (cG a1 a2 r1 r4 p15):=by
 simp -implicitDefEqProofs (decide:=true) (maxSteps:=2000000) only [fU,cG,↓dN,↓dT,↓dU,↓lC,↓fN,↓gE,↓DN,↓DR,DQ,DP,↓reduceIte,Int.reduceToNat,Nat.reduceBEq,Nat.reduceAdd,Nat.reduceLT,Nat.reduceLeDiff,Nat.reduceEqDiff,Int.reduceEq,ne_eq,zN,reduceCtorEq,bM,bO,bP,zM,zA,zB,aH,zC,zD,if_true,if_false,zE,zF,aD,zG,aL,zH,zI,zJ,zK,aV,aQ,aR,aT,aS,aE,aK,aJ,aF,aM,aG,aW,bA,Vm.bind_map,aI,aU,zL]
 all_goals try simp only [bF]
 all_goals try rfl
theorem i6 {β:Type} (a1:aB) (a2:Int) (r1:Bool) (r4:aB) (p15:Int) (k:Ex→St→Option β):cX TT mO ⟨[(2,.d (.int .i64 a2)),(5,.ptr 5 0),(9,.d (.bool r1)),(10,.ptr 10 0),(12,.d (.int .i64 p15))],[(5,some (.box (aC a1.cells))),(10,some (.box (aC r4.cells)))]⟩ k = (gL a1 a2 r1 r4 p15).bind (fun (r:Unit ⊕ Unit)=>Sum.elim (fun (z:Unit)=>k (.exit 0) ⟨[(2,.d (.int .i64 a2)),(5,.ptr 5 0),(9,.d (.bool r1)),(10,.ptr 10 0)],[(5,some (.box (aC a1.cells))),(10,some (.box (aC r4.cells)))]⟩) (fun (z:Unit)=>k .ret ⟨[(8,.d (.bool false))],[]⟩) r):=by
 have hh:=fun (w:Int)=>uC a1 a2 r1 r4 w
 have h:=fun ho=>cA (T:=TT) (k:=k) (c:=fU) (step:=(fun (w:Int)=>cG a1 a2 r1 r4 w)) _ _ ho hh p15
 refine Eq.trans (h (fun r s e=>by have q:=congrArg Prod.fst e; rcases r with x | x <;> cases q)) ?_
 unfold gL
 exact bQ _ fun x=>by rcases x with x | x <;> rfl
theorem uL (a1:aB) (a2:Int) (r1:Bool) (r4:aB) (p22:Int):cX TT fS ⟨[(2,.d (.int .i64 a2)),(5,.ptr 5 0),(9,.d (.bool r1)),(10,.ptr 10 0),(13,.d (.int .i64 p22))],[(5,some (.box (aC a1.cells))),(10,some (.box (aC r4.cells)))]⟩ (fun e s=>some (e,s)) = dW (fun (w:Int)=>(⟨[(2,.d (.int .i64 a2)),(5,.ptr 5 0),(9,.d (.bool r1)),(10,.ptr 10 0),(13,.d (.int .i64 w))],[(5,some (.box (aC a1.cells))),(10,some (.box (aC r4.cells)))]⟩ : St)) (fun (r:Unit ⊕ Unit)=>Sum.elim (fun (z:Unit)=>(((.exit 2),⟨[(2,.d (.int .i64 a2)),(5,.ptr 5 0),(9,.d (.bool r1)),(10,.ptr 10 0)],[(5,some (.box (aC a1.cells))),(10,some (.box (aC r4.cells)))]⟩):Ex × St)) (fun (z:Unit)=>((.ret,⟨[(8,.d (.bool false))],[]⟩):Ex × St)) r) (cF a1 a2 r1 r4 p22):=by
 simp -implicitDefEqProofs (decide:=true) (maxSteps:=2000000) only [fS,cF,↓i6,↓dN,↓dT,↓dU,↓lC,↓fN,↓gE,↓DN,↓DR,DQ,DP,↓reduceIte,Int.reduceToNat,Nat.reduceBEq,Nat.reduceAdd,Nat.reduceLT,Nat.reduceLeDiff,Nat.reduceEqDiff,Int.reduceEq,ne_eq,zN,reduceCtorEq,bM,bO,bP,zM,zA,zB,aH,zC,zD,if_true,if_false,zE,zF,aD,zG,aL,zH,zI,zJ,zK,aV,aQ,aR,aT,aS,aE,aK,aJ,aF,aM,aG,aW,bA,Vm.bind_map,aI,aU,zL]
 all_goals try simp only [bF]
 all_goals try rfl
theorem mT {β:Type} (a1:aB) (a2:Int) (r1:Bool) (r4:aB) (p22:Int) (k:Ex→St→Option β):cX TT mR ⟨[(2,.d (.int .i64 a2)),(5,.ptr 5 0),(9,.d (.bool r1)),(10,.ptr 10 0),(13,.d (.int .i64 p22))],[(5,some (.box (aC a1.cells))),(10,some (.box (aC r4.cells)))]⟩ k = (gM a1 a2 r1 r4 p22).bind (fun (r:Unit ⊕ Unit)=>Sum.elim (fun (z:Unit)=>k (.exit 2) ⟨[(2,.d (.int .i64 a2)),(5,.ptr 5 0),(9,.d (.bool r1)),(10,.ptr 10 0)],[(5,some (.box (aC a1.cells))),(10,some (.box (aC r4.cells)))]⟩) (fun (z:Unit)=>k .ret ⟨[(8,.d (.bool false))],[]⟩) r):=by
 have hh:=fun (w:Int)=>uL a1 a2 r1 r4 w
 have h:=fun ho=>cA (T:=TT) (k:=k) (c:=fS) (step:=(fun (w:Int)=>cF a1 a2 r1 r4 w)) _ _ ho hh p22
 refine Eq.trans (h (fun r s e=>by have q:=congrArg Prod.fst e; rcases r with x | x <;> cases q)) ?_
 unfold gM
 exact bQ _ fun x=>by rcases x with x | x <;> rfl
theorem uH {β:Type} (a1:aB) (a2:Int) (r1:Bool) (r4:aB) (p30:Bool) (k:Ex→St→Option β):cX TT iZ ⟨[(2,.d (.int .i64 a2)),(5,.ptr 5 0),(9,.d (.bool r1)),(10,.ptr 10 0),(14,.d (.bool p30))],[(5,some (.box (aC a1.cells))),(10,some (.box (aC r4.cells)))]⟩ k = (dY a1 a2 r1 r4 p30).bind (fun (r:Bool)=>k .ret ⟨[(8,.d (.bool r))],[]⟩):=by
 simp -implicitDefEqProofs (decide:=true) (maxSteps:=2000000) only [iZ,dY,↓i6,↓mT,↓dN,↓dT,↓dU,↓lC,↓fN,↓gE,↓DN,↓DR,DQ,DP,↓reduceIte,Int.reduceToNat,Nat.reduceBEq,Nat.reduceAdd,Nat.reduceLT,Nat.reduceLeDiff,Nat.reduceEqDiff,Int.reduceEq,ne_eq,zN,reduceCtorEq,bM,bO,bP,zM,zA,zB,aH,zC,zD,if_true,if_false,zE,zF,aD,zG,aL,zH,zI,zJ,zK,aV,aQ,aR,aT,aS,aE,aK,aJ,aF,aM,aG,aW,bA,Vm.bind_map,aI,aU,zL]
 all_goals try simp only [bF]
 all_goals try rfl
theorem wX (a0:aA) (a1:aB) (a2:Int) (a3:Int):Vm.call TT 12 [.agg a0.cells,.agg a1.cells,.int .i64 a2,.int .i64 a3] = (gF a0 a1 a2 a3).map fun (r:Bool)=>.bool r:=by
 refine (bX (show TT 12 = some (.code ⟨4,174,[.tmp 8],aEt,false,false⟩) from rfl) _ rfl rfl).trans ?_
 show cX TT aEt ⟨[(0,cW a0.cells),(1,cW a1.cells),(2,.d (.int .i64 a2)),(3,.d (.int .i64 a3))],[]⟩ _ = _
 simp -implicitDefEqProofs (decide:=true) (maxSteps:=2000000) only [aEt,gF,↓i6,↓mT,↓uH,↓dN,↓dT,↓dU,↓lC,↓fN,↓gE,↓DN,↓DR,DQ,DP,↓reduceIte,Int.reduceToNat,Nat.reduceBEq,Nat.reduceAdd,Nat.reduceLT,Nat.reduceLeDiff,Nat.reduceEqDiff,Int.reduceEq,ne_eq,zN,reduceCtorEq,bM,bO,bP,zM,zA,zB,aH,zC,zD,if_true,if_false,zE,zF,aD,zG,aL,zH,zI,zJ,zK,aV,aQ,aR,aT,aS,aE,aK,aJ,aF,aM,aG,aW,bA,Vm.bind_map,aI,aU,zL]
 all_goals try simp only [bF]
 all_goals try rfl
theorem eU {β:Type} (a1:aB) (p9:Int) (r1:Bool) (r5:Int) (x10:bB) (p11:Bool) (k:Ex→St→Option β):cX TT i7 ⟨[(4,.ptr 4 0),(7,.d (.bool r1)),(8,.d (.int .i64 r5)),(10,.d (.bool p11)),(11,.d (.int .i64 a1.Bill.Tenor.Kind)),(12,.d (.int .i64 p9)),(13,.ptr 13 0)],[(4,some (.box (aC a1.cells))),(13,some (.box (aC x10.cells)))]⟩ k = (cE a1 p9 r1 r5 x10 p11).bind (fun (r:Unit ⊕ Unit)=>Sum.elim (fun (z:Unit)=>k .normal ⟨[(4,.ptr 4 0),(7,.d (.bool r1)),(8,.d (.int .i64 r5)),(10,.d (.bool p11)),(11,.d (.int .i64 a1.Bill.Tenor.Kind)),(12,.d (.int .i64 p9))],[(4,some (.box (aC a1.cells)))]⟩) (fun (z:Unit)=>k .ret ⟨[(6,.d (.bool false))],[]⟩) r):=by
 simp -implicitDefEqProofs (decide:=true) (maxSteps:=2000000) only [i7,cE,↓dN,↓dT,↓dU,↓iE,↓fN,↓gE,↓DN,↓DR,DQ,DP,↓reduceIte,Int.reduceToNat,Nat.reduceBEq,Nat.reduceAdd,Nat.reduceLT,Nat.reduceLeDiff,Nat.reduceEqDiff,Int.reduceEq,ne_eq,zN,reduceCtorEq,bM,bO,bP,zM,zA,zB,aH,zC,zD,if_true,if_false,zE,zF,aD,zG,aL,zH,zI,zJ,zK,aV,aQ,aR,aT,aS,aE,aK,aJ,aF,aM,aG,aW,bA,Vm.bind_map,aI,aU,zL]
 all_goals try simp only [bF]
 all_goals try rfl
theorem uK (a1:aB) (r1:Bool) (r5:Int) (p8:Bool) (p9:Int):cX TT fT ⟨[(4,.ptr 4 0),(7,.d (.bool r1)),(8,.d (.int .i64 r5)),(10,.d (.bool p8)),(11,.d (.int .i64 a1.Bill.Tenor.Kind)),(12,.d (.int .i64 p9))],[(4,some (.box (aC a1.cells)))]⟩ (fun e s=>some (e,s)) = dW (fun (w:Bool × Int)=>(⟨[(4,.ptr 4 0),(7,.d (.bool r1)),(8,.d (.int .i64 r5)),(10,.d (.bool w.1)),(11,.d (.int .i64 a1.Bill.Tenor.Kind)),(12,.d (.int .i64 w.2))],[(4,some (.box (aC a1.cells)))]⟩ : St)) (fun (r:Bool ⊕ Unit)=>Sum.elim (fun (z:Bool)=>(((.exit 0),⟨[(4,.ptr 4 0),(7,.d (.bool r1)),(8,.d (.int .i64 r5)),(10,.d (.bool z)),(11,.d (.int .i64 a1.Bill.Tenor.Kind))],[(4,some (.box (aC a1.cells)))]⟩):Ex × St)) (fun (z:Unit)=>((.ret,⟨[(6,.d (.bool false))],[]⟩):Ex × St)) r) (dB a1 r1 r5 p8 p9):=by
 simp -implicitDefEqProofs (decide:=true) (maxSteps:=2000000) only [fT,dB,↓eU,↓dN,↓dT,↓dU,↓iE,↓fN,↓gE,↓DN,↓DR,DQ,DP,↓reduceIte,Int.reduceToNat,Nat.reduceBEq,Nat.reduceAdd,Nat.reduceLT,Nat.reduceLeDiff,Nat.reduceEqDiff,Int.reduceEq,ne_eq,zN,reduceCtorEq,bM,bO,bP,zM,zA,zB,aH,zC,zD,if_true,if_false,zE,zF,aD,zG,aL,zH,zI,zJ,zK,aV,aQ,aR,aT,aS,aE,aK,aJ,aF,aM,aG,aW,bA,Vm.bind_map,aI,aU,zL]
 all_goals try simp only [bF]
 all_goals try rfl
theorem fV {β:Type} (a1:aB) (r1:Bool) (r5:Int) (p8:Bool) (p9:Int) (k:Ex→St→Option β):cX TT mP ⟨[(4,.ptr 4 0),(7,.d (.bool r1)),(8,.d (.int .i64 r5)),(10,.d (.bool p8)),(11,.d (.int .i64 a1.Bill.Tenor.Kind)),(12,.d (.int .i64 p9))],[(4,some (.box (aC a1.cells)))]⟩ k = (fG a1 r1 r5 p8 p9).bind (fun (r:Bool ⊕ Unit)=>Sum.elim (fun (z:Bool)=>k (.exit 0) ⟨[(4,.ptr 4 0),(7,.d (.bool r1)),(8,.d (.int .i64 r5)),(10,.d (.bool z)),(11,.d (.int .i64 a1.Bill.Tenor.Kind))],[(4,some (.box (aC a1.cells)))]⟩) (fun (z:Unit)=>k .ret ⟨[(6,.d (.bool false))],[]⟩) r):=by
 have hh:=fun (w:Bool × Int)=>uK a1 r1 r5 w.1 w.2
 have h:=fun ho=>cA (T:=TT) (k:=k) (c:=fT) (step:=(fun (w:Bool × Int)=>dB a1 r1 r5 w.1 w.2)) _ _ ho hh (p8,p9)
 refine Eq.trans (h (fun r s e=>by have q:=congrArg Prod.fst e; rcases r with x | x <;> cases q)) ?_
 unfold fG
 exact bQ _ fun x=>by rcases x with x | x <;> rfl
theorem i8 {β:Type} (a1:aB) (p35:Int) (r1:Bool) (r5:Int) (p38:Bool) (k:Ex→St→Option β):cX TT i5 ⟨[(4,.ptr 4 0),(7,.d (.bool r1)),(8,.d (.int .i64 r5)),(10,.d (.bool p38)),(11,.d (.int .i64 a1.Bill.Tenor.Kind)),(14,.d (.int .i64 p35))],[(4,some (.box (aC a1.cells)))]⟩ k = (eB a1 p35 r1 r5 p38).bind (fun (r:Unit ⊕ Unit)=>Sum.elim (fun (z:Unit)=>k .normal ⟨[(4,.ptr 4 0),(7,.d (.bool r1)),(8,.d (.int .i64 r5)),(10,.d (.bool p38)),(11,.d (.int .i64 a1.Bill.Tenor.Kind)),(14,.d (.int .i64 p35))],[(4,some (.box (aC a1.cells)))]⟩) (fun (z:Unit)=>k .ret ⟨[(6,.d (.bool false))],[]⟩) r):=by
 simp -implicitDefEqProofs (decide:=true) (maxSteps:=2000000) only [i5,eB,↓eU,↓fV,↓dN,↓dT,↓dU,↓iE,↓fN,↓gE,↓DN,↓DR,DQ,DP,↓reduceIte,Int.reduceToNat,Nat.reduceBEq,Nat.reduceAdd,Nat.reduceLT,Nat.reduceLeDiff,Nat.reduceEqDiff,Int.reduceEq,ne_eq,zN,reduceCtorEq,bM,bO,bP,zM,zA,zB,aH,zC,zD,if_true,if_false,zE,zF,aD,zG,aL,zH,zI,zJ,zK,aV,aQ,aR,aT,aS,aE,aK,aJ,aF,aM,aG,aW,bA,Vm.bind_map,aI,aU,zL]
 all_goals try simp only [bF]
 all_goals try rfl
theorem uF (a1:aB) (r1:Bool) (r5:Int) (p34:Bool) (p35:Int):cX TT fW ⟨[(4,.ptr 4 0),(7,.d (.bool r1)),(8,.d (.int .i64 r5)),(10,.d (.bool p34)),(11,.d (.int .i64 a1.Bill.Tenor.Kind)),(14,.d (.int .i64 p35))],[(4,some (.box (aC a1.cells)))]⟩ (fun e s=>some (e,s)) = dW (fun (w:Bool × Int)=>(⟨[(4,.ptr 4 0),(7,.d (.bool r1)),(8,.d (.int .i64 r5)),(10,.d (.bool w.1)),(11,.d (.int .i64 a1.Bill.Tenor.Kind)),(14,.d (.int .i64 w.2))],[(4,some (.box (aC a1.cells)))]⟩ : St)) (fun (r:Bool ⊕ Unit)=>Sum.elim (fun (z:Bool)=>(((.exit 2),⟨[(7,.d (.bool r1)),(10,.d (.bool z))],[]⟩):Ex × St)) (fun (z:Unit)=>((.ret,⟨[(6,.d (.bool false))],[]⟩):Ex × St)) r) (dD a1 r1 r5 p34 p35):=by
 simp -implicitDefEqProofs (decide:=true) (maxSteps:=2000000) only [fW,dD,↓eU,↓fV,↓i8,↓dN,↓dT,↓dU,↓iE,↓fN,↓gE,↓DN,↓DR,DQ,DP,↓reduceIte,Int.reduceToNat,Nat.reduceBEq,Nat.reduceAdd,Nat.reduceLT,Nat.reduceLeDiff,Nat.reduceEqDiff,Int.reduceEq,ne_eq,zN,reduceCtorEq,bM,bO,bP,zM,zA,zB,aH,zC,zD,if_true,if_false,zE,zF,aD,zG,aL,zH,zI,zJ,zK,aV,aQ,aR,aT,aS,aE,aK,aJ,aF,aM,aG,aW,bA,Vm.bind_map,aI,aU,zL]
 all_goals try simp only [bF]
 all_goals try rfl
theorem mS {β:Type} (a1:aB) (r1:Bool) (r5:Int) (p34:Bool) (p35:Int) (k:Ex→St→Option β):cX TT mQ ⟨[(4,.ptr 4 0),(7,.d (.bool r1)),(8,.d (.int .i64 r5)),(10,.d (.bool p34)),(11,.d (.int .i64 a1.Bill.Tenor.Kind)),(14,.d (.int .i64 p35))],[(4,some (.box (aC a1.cells)))]⟩ k = (fH a1 r1 r5 p34 p35).bind (fun (r:Bool ⊕ Unit)=>Sum.elim (fun (z:Bool)=>k (.exit 2) ⟨[(7,.d (.bool r1)),(10,.d (.bool z))],[]⟩) (fun (z:Unit)=>k .ret ⟨[(6,.d (.bool false))],[]⟩) r):=by
 have hh:=fun (w:Bool × Int)=>uF a1 r1 r5 w.1 w.2
 have h:=fun ho=>cA (T:=TT) (k:=k) (c:=fW) (step:=(fun (w:Bool × Int)=>dD a1 r1 r5 w.1 w.2)) _ _ ho hh (p34,p35)
 refine Eq.trans (h (fun r s e=>by have q:=congrArg Prod.fst e; rcases r with x | x <;> cases q)) ?_
 unfold fH
 exact bQ _ fun x=>by rcases x with x | x <;> rfl
theorem uD {β:Type} (a1:aB) (r1:Bool) (r5:Int) (k:Ex→St→Option β):cX TT i9 ⟨[(4,.ptr 4 0),(7,.d (.bool r1)),(8,.d (.int .i64 r5))],[(4,some (.box (aC a1.cells)))]⟩ k = (dK a1 r1 r5).bind (fun (r:Bool)=>k .ret ⟨[(6,.d (.bool r))],[]⟩):=by
 simp -implicitDefEqProofs (decide:=true) (maxSteps:=2000000) only [i9,dK,↓eU,↓fV,↓i8,↓mS,↓dN,↓dT,↓dU,↓iE,↓fN,↓gE,↓DN,↓DR,DQ,DP,↓reduceIte,Int.reduceToNat,Nat.reduceBEq,Nat.reduceAdd,Nat.reduceLT,Nat.reduceLeDiff,Nat.reduceEqDiff,Int.reduceEq,ne_eq,zN,reduceCtorEq,bM,bO,bP,zM,zA,zB,aH,zC,zD,if_true,if_false,zE,zF,aD,zG,aL,zH,zI,zJ,zK,aV,aQ,aR,aT,aS,aE,aK,aJ,aF,aM,aG,aW,bA,Vm.bind_map,aI,aU,zL]
 all_goals try simp only [bF]
 all_goals try rfl
theorem wO (a0:aA) (a1:aB) (a2:Int):Vm.call TT 13 [.agg a0.cells,.agg a1.cells,.int .i64 a2] = (gD a0 a1 a2).map fun (r:Bool)=>.bool r:=by
 refine (bX (show TT 13 = some (.code ⟨3,143,[.tmp 6],aFI,false,false⟩) from rfl) _ rfl rfl).trans ?_
 show cX TT aFI ⟨[(0,cW a0.cells),(1,cW a1.cells),(2,.d (.int .i64 a2))],[]⟩ _ = _
 simp -implicitDefEqProofs (decide:=true) (maxSteps:=2000000) only [aFI,gD,↓eU,↓fV,↓i8,↓mS,↓uD,↓dN,↓dT,↓dU,↓iE,↓fN,↓gE,↓DN,↓DR,DQ,DP,↓reduceIte,Int.reduceToNat,Nat.reduceBEq,Nat.reduceAdd,Nat.reduceLT,Nat.reduceLeDiff,Nat.reduceEqDiff,Int.reduceEq,ne_eq,zN,reduceCtorEq,bM,bO,bP,zM,zA,zB,aH,zC,zD,if_true,if_false,zE,zF,aD,zG,aL,zH,zI,zJ,zK,aV,aQ,aR,aT,aS,aE,aK,aJ,aF,aM,aG,aW,bA,Vm.bind_map,aI,aU,zL]
 all_goals try simp only [bF]
 all_goals try rfl
end Go.Proofs.Ytfhebiceipgdmaa
