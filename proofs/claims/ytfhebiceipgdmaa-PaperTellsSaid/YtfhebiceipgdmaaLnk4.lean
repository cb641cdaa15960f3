/- The functions of the small machine compute the plain definitions. Printed by a program. -/
import Derived.Test.YtfhebiceipgdmaaLnk3
set_option linter.unusedVariables false
set_option linter.unusedSimpArgs false
namespace Go.Proofs.Ytfhebiceipgdmaa
open Vm
open Go.RowKit
set_option maxRecDepth 100000
set_option maxHeartbeats 4000000
attribute [local congr] pR rP pQ rO
theorem nX {β:Type} (a2:bP) (p3:Bool) (p5:Bool) (r6:Bool) (k:Ex→St→Option β):cP TT yE ⟨[(5,.ptr 5 0),(7,.d (.bool p3)),(8,.d (.bool p5)),(9,.d (.bool r6)),(64,.d (.int .i64 a2.Kind))],[(5,some (.box (aC a2.cells)))]⟩ k = (oH a2 p3 p5 r6).bind (fun (r:Unit ⊕ Bool)=>Sum.elim (fun (z:Unit)=>k .normal ⟨[(5,.ptr 5 0),(7,.d (.bool p3))],[(5,some (.box (aC a2.cells)))]⟩) (fun (z:Bool)=>k .ret ⟨[(6,.d (.bool z))],[]⟩) r):=by
 simp -implicitDefEqProofs (decide:=true) (maxSteps:=2000000) only [yE,oH,↓cR,↓gG,↓DN,↓DR,DQ,DP,↓reduceIte,Int.reduceToNat,Nat.reduceBEq,Nat.reduceAdd,Nat.reduceLT,Nat.reduceLeDiff,Nat.reduceEqDiff,Int.reduceEq,ne_eq,zN,reduceCtorEq,bJ,bM,bN,zM,zA,zB,aH,zC,zD,if_true,if_false,zE,zF,aG,zG,aJ,zH,zI,zJ,zK,aQ,aP,aV,aT,aS,aD,aL,aM,aE,aK,aF,aR,aZ,aU,aI,aW,zL]
 all_goals try simp only [bG]
 all_goals try rfl
theorem qE {β:Type} (a2:bP) (p3:Bool) (p5:Bool) (r6:Bool) (k:Ex→St→Option β):cP TT yL ⟨[(5,.ptr 5 0),(7,.d (.bool p3)),(8,.d (.bool p5)),(9,.d (.bool r6)),(64,.d (.int .i64 a2.Kind))],[(5,some (.box (aC a2.cells)))]⟩ k = (oO a2 p3 p5 r6).bind (fun (r:Unit ⊕ Bool)=>Sum.elim (fun (z:Unit)=>k .normal ⟨[(5,.ptr 5 0),(7,.d (.bool p3))],[(5,some (.box (aC a2.cells)))]⟩) (fun (z:Bool)=>k .ret ⟨[(6,.d (.bool z))],[]⟩) r):=by
 simp -implicitDefEqProofs (decide:=true) (maxSteps:=2000000) only [yL,oO,↓nX,↓cR,↓gG,↓DN,↓DR,DQ,DP,↓reduceIte,Int.reduceToNat,Nat.reduceBEq,Nat.reduceAdd,Nat.reduceLT,Nat.reduceLeDiff,Nat.reduceEqDiff,Int.reduceEq,ne_eq,zN,reduceCtorEq,bJ,bM,bN,zM,zA,zB,aH,zC,zD,if_true,if_false,zE,zF,aG,zG,aJ,zH,zI,zJ,zK,aQ,aP,aV,aT,aS,aD,aL,aM,aE,aK,aF,aR,aZ,aU,aI,aW,zL]
 all_goals try simp only [bG]
 all_goals try rfl
theorem uG {β:Type} (a2:bP) (p3:Bool) (k:Ex→St→Option β):cP TT yO ⟨[(5,.ptr 5 0),(7,.d (.bool p3))],[(5,some (.box (aC a2.cells)))]⟩ k = (qM a2 p3).bind (fun (r:Bool)=>k .ret ⟨[(6,.d (.bool r))],[]⟩):=by
 simp -implicitDefEqProofs (decide:=true) (maxSteps:=2000000) only [yO,qM,↓nX,↓qE,↓cR,↓gG,↓DN,↓DR,DQ,DP,↓reduceIte,Int.reduceToNat,Nat.reduceBEq,Nat.reduceAdd,Nat.reduceLT,Nat.reduceLeDiff,Nat.reduceEqDiff,Int.reduceEq,ne_eq,zN,reduceCtorEq,bJ,bM,bN,zM,zA,zB,aH,zC,zD,if_true,if_false,zE,zF,aG,zG,aJ,zH,zI,zJ,zK,aQ,aP,aV,aT,aS,aD,aL,aM,aE,aK,aF,aR,aZ,aU,aI,aW,zL]
 all_goals try simp only [bG]
 all_goals try rfl
theorem yI {β:Type} (a2:bP) (p3:Bool) (p5:Bool) (r6:Bool) (k:Ex→St→Option β):cP TT yJ ⟨[(5,.ptr 5 0),(7,.d (.bool p3)),(8,.d (.bool p5)),(9,.d (.bool r6))],[(5,some (.box (aC a2.cells)))]⟩ k = (qO a2 p3 p5 r6).bind (fun (r:Bool)=>k .ret ⟨[(6,.d (.bool r))],[]⟩):=by
 simp -implicitDefEqProofs (decide:=true) (maxSteps:=2000000) only [yJ,qO,↓nX,↓qE,↓uG,↓cR,↓gG,↓DN,↓DR,DQ,DP,↓reduceIte,Int.reduceToNat,Nat.reduceBEq,Nat.reduceAdd,Nat.reduceLT,Nat.reduceLeDiff,Nat.reduceEqDiff,Int.reduceEq,ne_eq,zN,reduceCtorEq,bJ,bM,bN,zM,zA,zB,aH,zC,zD,if_true,if_false,zE,zF,aG,zG,aJ,zH,zI,zJ,zK,aQ,aP,aV,aT,aS,aD,aL,aM,aE,aK,aF,aR,aZ,aU,aI,aW,zL]
 all_goals try simp only [bG]
 all_goals try rfl
theorem FL {β:Type} (a0:aA) (a2:bP) (p3:Bool) (p5:Bool) (k:Ex→St→Option β):cP TT yG ⟨[(3,.ptr 3 0),(5,.ptr 5 0),(7,.d (.bool p3)),(8,.d (.bool p5))],[(3,some (.box (aC a0.cells))),(5,some (.box (aC a2.cells)))]⟩ k = (oA a0 a2 p3 p5).bind (fun (r:Bool)=>k .ret ⟨[(6,.d (.bool r))],[]⟩):=by
 simp -implicitDefEqProofs (decide:=true) (maxSteps:=2000000) only [yG,oA,↓nX,↓qE,↓uG,↓yI,↓cR,↓gG,↓DN,↓DR,DQ,DP,↓reduceIte,Int.reduceToNat,Nat.reduceBEq,Nat.reduceAdd,Nat.reduceLT,Nat.reduceLeDiff,Nat.reduceEqDiff,Int.reduceEq,ne_eq,zN,reduceCtorEq,bJ,bM,bN,zM,zA,zB,aH,zC,zD,if_true,if_false,zE,zF,aG,zG,aJ,zH,zI,zJ,zK,aQ,aP,aV,aT,aS,aD,aL,aM,aE,aK,aF,aR,aZ,aU,aI,aW,zL]
 all_goals try simp only [bG]
 all_goals try rfl
theorem MQ {β:Type} (a0:aA) (a1:aB) (a2:bP) (p3:Bool) (k:Ex→St→Option β):cP TT yF ⟨[(3,.ptr 3 0),(4,.ptr 4 0),(5,.ptr 5 0),(7,.d (.bool p3))],[(3,some (.box (aC a0.cells))),(4,some (.box (aC a1.cells))),(5,some (.box (aC a2.cells)))]⟩ k = (oD a0 a1 a2 p3).bind (fun (r:Bool)=>k .ret ⟨[(6,.d (.bool r))],[]⟩):=by
 simp -implicitDefEqProofs (decide:=true) (maxSteps:=2000000) only [yF,oD,↓nX,↓qE,↓uG,↓yI,↓FL,↓cR,↓gG,↓DN,↓DR,DQ,DP,↓reduceIte,Int.reduceToNat,Nat.reduceBEq,Nat.reduceAdd,Nat.reduceLT,Nat.reduceLeDiff,Nat.reduceEqDiff,Int.reduceEq,ne_eq,zN,reduceCtorEq,bJ,bM,bN,zM,zA,zB,aH,zC,zD,if_true,if_false,zE,zF,aG,zG,aJ,zH,zI,zJ,zK,aQ,aP,aV,aT,aS,aD,aL,aM,aE,aK,aF,aR,aZ,aU,aI,aW,zL]
 all_goals try simp only [bG]
 all_goals try rfl
theorem QW (a0:aA) (a1:aB) (a2:bP):Vm.call TT 80 [.agg a0.cells,.agg a1.cells,.agg a2.cells] = (xI a0 a1 a2).map fun (r:Bool)=>.bool r:=by
 refine (bQ (show TT 80 = some (.code ⟨3,135,[.tmp 6],aHm,false⟩) from rfl) _ rfl).trans ?_
 show cP TT aHm ⟨[(0,cO a0.cells),(1,cO a1.cells),(2,cO a2.cells)],[]⟩ _ = _
 simp -implicitDefEqProofs (decide:=true) (maxSteps:=2000000) only [aHm,xI,↓nX,↓qE,↓uG,↓yI,↓FL,↓MQ,↓cR,↓gG,↓DN,↓DR,DQ,DP,↓reduceIte,Int.reduceToNat,Nat.reduceBEq,Nat.reduceAdd,Nat.reduceLT,Nat.reduceLeDiff,Nat.reduceEqDiff,Int.reduceEq,ne_eq,zN,reduceCtorEq,bJ,bM,bN,zM,zA,zB,aH,zC,zD,if_true,if_false,zE,zF,aG,zG,aJ,zH,zI,zJ,zK,aQ,aP,aV,aT,aS,aD,aL,aM,aE,aK,aF,aR,aZ,aU,aI,aW,zL]
 all_goals try simp only [bG]
 all_goals try rfl
theorem yZ {β:Type} (a0:aA) (a1:aB) (a2:bP) (d:Nat) (bl:List (Nat × Option aY)) (fz:List (Nat × Option aY)) (k:V→Option β) (kw:V→List (Nat × Option aY)→Option β):cH TT d bl 80 [.agg a0.cells,.agg a1.cells,.agg a2.cells] fz k kw = (xI a0 a1 a2).bind fun (r:Bool)=>k (.d (.bool r)):=by
 have h:=QW a0 a1 a2
 exact bI h (fun _=>rfl) fz
theorem wU {β:Type} (a0:aA) (a1:aB) (p1:Int) (x2:bP) (p10:Int) (k:Ex→St→Option β):cP TT wR ⟨[(2,.ptr 2 0),(3,.ptr 3 0),(6,.ptr 6 0),(7,.d (.int .i64 p10)),(9,.d (.sl (cM bP.cells a1.Acts))),(10,.d (.int .i64 (a1.Acts.length:Int))),(11,.d (.int .i64 p1))],[(2,some (.box (aC a0.cells))),(3,some (.box (aC a1.cells))),(6,some (.box (aC x2.cells)))]⟩ k = (rJ a0 a1 p1 x2 p10).bind (fun (r:Unit ⊕ Unit)=>Sum.elim (fun (z:Unit)=>k .normal ⟨[(2,.ptr 2 0),(3,.ptr 3 0),(9,.d (.sl (cM bP.cells a1.Acts))),(10,.d (.int .i64 (a1.Acts.length:Int))),(11,.d (.int .i64 p1))],[(2,some (.box (aC a0.cells))),(3,some (.box (aC a1.cells)))]⟩) (fun (z:Unit)=>k .ret ⟨[(4,.d (.int .i64 13))],[]⟩) r):=by
 simp -implicitDefEqProofs (decide:=true) (maxSteps:=2000000) only [wR,rJ,↓cR,↓yZ,↓DN,↓DR,DQ,DP,↓reduceIte,Int.reduceToNat,Nat.reduceBEq,Nat.reduceAdd,Nat.reduceLT,Nat.reduceLeDiff,Nat.reduceEqDiff,Int.reduceEq,ne_eq,zN,reduceCtorEq,bJ,bM,bN,zM,zA,zB,aH,zC,zD,if_true,if_false,zE,zF,aG,zG,aJ,zH,zI,zJ,zK,aQ,aP,aV,aT,aS,aD,aL,aM,aE,aK,aF,aR,aZ,aU,aI,aW,zL]
 all_goals try simp only [bG]
 all_goals try rfl
theorem DI {β:Type} (a0:aA) (a1:aB) (p1:Int) (x2:bP) (p8:Int) (k:Ex→St→Option β):cP TT wY ⟨[(2,.ptr 2 0),(3,.ptr 3 0),(5,.d (.int .i64 p1)),(6,.ptr 6 0),(7,.d (.int .i64 p8)),(9,.d (.sl (cM bP.cells a1.Acts))),(10,.d (.int .i64 (a1.Acts.length:Int))),(11,.d (.int .i64 p1))],[(2,some (.box (aC a0.cells))),(3,some (.box (aC a1.cells))),(6,some (.box (aC x2.cells)))]⟩ k = (pC a0 a1 p1 x2 p8).bind (fun (r:Unit ⊕ Unit)=>Sum.elim (fun (z:Unit)=>k .normal ⟨[(2,.ptr 2 0),(3,.ptr 3 0),(9,.d (.sl (cM bP.cells a1.Acts))),(10,.d (.int .i64 (a1.Acts.length:Int))),(11,.d (.int .i64 p1))],[(2,some (.box (aC a0.cells))),(3,some (.box (aC a1.cells)))]⟩) (fun (z:Unit)=>k .ret ⟨[(4,.d (.int .i64 13))],[]⟩) r):=by
 simp -implicitDefEqProofs (decide:=true) (maxSteps:=2000000) only [wY,pC,↓wU,↓cR,↓yZ,↓DN,↓DR,DQ,DP,↓reduceIte,Int.reduceToNat,Nat.reduceBEq,Nat.reduceAdd,Nat.reduceLT,Nat.reduceLeDiff,Nat.reduceEqDiff,Int.reduceEq,ne_eq,zN,reduceCtorEq,bJ,bM,bN,zM,zA,zB,aH,zC,zD,if_true,if_false,zE,zF,aG,zG,aJ,zH,zI,zJ,zK,aQ,aP,aV,aT,aS,aD,aL,aM,aE,aK,aF,aR,aZ,aU,aI,aW,zL]
 all_goals try simp only [bG]
 all_goals try rfl
theorem LA (a0:aA) (a1:aB) (p1:Int):cP TT sH ⟨[(2,.ptr 2 0),(3,.ptr 3 0),(9,.d (.sl (cM bP.cells a1.Acts))),(10,.d (.int .i64 (a1.Acts.length:Int))),(11,.d (.int .i64 p1))],[(2,some (.box (aC a0.cells))),(3,some (.box (aC a1.cells)))]⟩ (fun e s=>some (e,s)) = cV (fun (w:Int)=>(⟨[(2,.ptr 2 0),(3,.ptr 3 0),(9,.d (.sl (cM bP.cells a1.Acts))),(10,.d (.int .i64 (a1.Acts.length:Int))),(11,.d (.int .i64 w))],[(2,some (.box (aC a0.cells))),(3,some (.box (aC a1.cells)))]⟩ : St)) (fun (r:Unit ⊕ Int)=>Sum.elim (fun (z:Unit)=>(((.exit 0),⟨[],[]⟩):Ex × St)) (fun (z:Int)=>((.ret,⟨[(4,.d (.int .i64 z))],[]⟩):Ex × St)) r) (lA a0 a1 p1):=by
 simp -implicitDefEqProofs (decide:=true) (maxSteps:=2000000) only [sH,lA,↓wU,↓DI,↓cR,↓yZ,↓DN,↓DR,DQ,DP,↓reduceIte,Int.reduceToNat,Nat.reduceBEq,Nat.reduceAdd,Nat.reduceLT,Nat.reduceLeDiff,Nat.reduceEqDiff,Int.reduceEq,ne_eq,zN,reduceCtorEq,bJ,bM,bN,zM,zA,zB,aH,zC,zD,if_true,if_false,zE,zF,aG,zG,aJ,zH,zI,zJ,zK,aQ,aP,aV,aT,aS,aD,aL,aM,aE,aK,aF,aR,aZ,aU,aI,aW,zL]
 all_goals try simp only [bG]
 all_goals try rfl
theorem KY {β:Type} (a0:aA) (a1:aB) (p1:Int) (k:Ex→St→Option β):cP TT C6 ⟨[(2,.ptr 2 0),(3,.ptr 3 0),(9,.d (.sl (cM bP.cells a1.Acts))),(10,.d (.int .i64 (a1.Acts.length:Int))),(11,.d (.int .i64 p1))],[(2,some (.box (aC a0.cells))),(3,some (.box (aC a1.cells)))]⟩ k = (rU a0 a1 p1).bind (fun (r:Unit ⊕ Int)=>Sum.elim (fun (z:Unit)=>k (.exit 0) ⟨[],[]⟩) (fun (z:Int)=>k .ret ⟨[(4,.d (.int .i64 z))],[]⟩) r):=by
 have hh:=fun (w:Int)=>LA a0 a1 w
 have h:=fun ho=>cA (T:=TT) (k:=k) (c:=sH) (step:=(fun (w:Int)=>lA a0 a1 w)) _ _ ho hh p1
 refine Eq.trans (h (fun r s e=>by have q:=congrArg Prod.fst e; rcases r with x | x <;> cases q)) ?_
 unfold rU
 exact bK _ fun x=>by rcases x with x | x <;> rfl
theorem O7 (a0:aA) (a1:aB):Vm.call TT 60 [.agg a0.cells,.agg a1.cells] = (vD a0 a1).map fun (r:Int)=>.int .i64 r:=by
 refine (bQ (show TT 60 = some (.code ⟨2,75,[.tmp 4],aFV,false⟩) from rfl) _ rfl).trans ?_
 show cP TT aFV ⟨[(0,cO a0.cells),(1,cO a1.cells)],[]⟩ _ = _
 simp -implicitDefEqProofs (decide:=true) (maxSteps:=2000000) only [aFV,vD,↓wU,↓DI,↓KY,↓cR,↓yZ,↓DN,↓DR,DQ,DP,↓reduceIte,Int.reduceToNat,Nat.reduceBEq,Nat.reduceAdd,Nat.reduceLT,Nat.reduceLeDiff,Nat.reduceEqDiff,Int.reduceEq,ne_eq,zN,reduceCtorEq,bJ,bM,bN,zM,zA,zB,aH,zC,zD,if_true,if_false,zE,zF,aG,zG,aJ,zH,zI,zJ,zK,aQ,aP,aV,aT,aS,aD,aL,aM,aE,aK,aF,aR,aZ,aU,aI,aW,zL]
 all_goals try simp only [bG]
 all_goals try rfl
theorem CW {β:Type} (a0:aA) (a1:aB) (d:Nat) (bl:List (Nat × Option aY)) (fz:List (Nat × Option aY)) (k:V→Option β) (kw:V→List (Nat × Option aY)→Option β):cH TT d bl 60 [.agg a0.cells,.agg a1.cells] fz k kw = (vD a0 a1).bind fun (r:Int)=>k (.d (.int .i64 r)):=by
 have h:=O7 a0 a1
 exact bI h (fun _=>rfl) fz
theorem LO (a0:Int):Vm.call TT 102 [.int .i64 a0] = (o7 a0).map fun (r:Bool)=>.bool r:=by
 refine (bQ (show TT 102 = some (.code ⟨1,6,[.tmp 2],Z1,false⟩) from rfl) _ rfl).trans ?_
 show cP TT Z1 ⟨[(0,.d (.int .i64 a0))],[]⟩ _ = _
 simp -implicitDefEqProofs (decide:=true) (maxSteps:=2000000) only [Z1,o7,↓DN,↓DR,DQ,DP,↓reduceIte,Int.reduceToNat,Nat.reduceBEq,Nat.reduceAdd,Nat.reduceLT,Nat.reduceLeDiff,Nat.reduceEqDiff,Int.reduceEq,ne_eq,zN,reduceCtorEq,bJ,bM,bN,zM,zA,zB,aH,zC,zD,if_true,if_false,zE,zF,aG,zG,aJ,zH,zI,zJ,zK,aQ,aP,aV,aT,aS,aD,aL,aM,aE,aK,aF,aR,aZ,aU,aI,aW,zL]
 all_goals try simp only [bG]
 all_goals try rfl
theorem KW {β:Type} (a0:Int) (d:Nat) (bl:List (Nat × Option aY)) (fz:List (Nat × Option aY)) (k:V→Option β) (kw:V→List (Nat × Option aY)→Option β):cH TT d bl 102 [.int .i64 a0] fz k kw = (o7 a0).bind fun (r:Bool)=>k (.d (.bool r)):=by
 have h:=LO a0
 exact bI h (fun _=>rfl) fz
theorem I9 (a0:Int) (a1:Int):Vm.call TT 82 [.int .i64 a0,.int .i64 a1] = (lH a0 a1).map fun (r:Int)=>.int .i64 r:=by
 refine (bQ (show TT 82 = some (.code ⟨2,20,[.tmp 4],aFl,false⟩) from rfl) _ rfl).trans ?_
 show cP TT aFl ⟨[(0,.d (.int .i64 a0)),(1,.d (.int .i64 a1))],[]⟩ _ = _
 simp -implicitDefEqProofs (decide:=true) (maxSteps:=2000000) only [aFl,lH,↓KW,↓DN,↓DR,DQ,DP,↓reduceIte,Int.reduceToNat,Nat.reduceBEq,Nat.reduceAdd,Nat.reduceLT,Nat.reduceLeDiff,Nat.reduceEqDiff,Int.reduceEq,ne_eq,zN,reduceCtorEq,bJ,bM,bN,zM,zA,zB,aH,zC,zD,if_true,if_false,zE,zF,aG,zG,aJ,zH,zI,zJ,zK,aQ,aP,aV,aT,aS,aD,aL,aM,aE,aK,aF,aR,aZ,aU,aI,aW,zL]
 all_goals try simp only [bG]
 all_goals try rfl
theorem AW {β:Type} (a0:Int) (a1:Int) (d:Nat) (bl:List (Nat × Option aY)) (fz:List (Nat × Option aY)) (k:V→Option β) (kw:V→List (Nat × Option aY)→Option β):cH TT d bl 82 [.int .i64 a0,.int .i64 a1] fz k kw = (lH a0 a1).bind fun (r:Int)=>k (.d (.int .i64 r)):=by
 have h:=I9 a0 a1
 exact bI h (fun _=>rfl) fz
theorem LL (a0:List Int) (p1:Int):cP TT sK ⟨[(3,.d (.int .i64 0)),(6,.d (.sl (cM cI a0))),(7,.d (.int .i64 (a0.length:Int))),(8,.d (.int .i64 p1))],[]⟩ (fun e s=>some (e,s)) = cV (fun (w:Int)=>(⟨[(3,.d (.int .i64 0)),(6,.d (.sl (cM cI a0))),(7,.d (.int .i64 (a0.length:Int))),(8,.d (.int .i64 w))],[]⟩ : St)) (fun (r:Unit ⊕ Int)=>Sum.elim (fun (z:Unit)=>(((.exit 0),⟨[(3,.d (.int .i64 0))],[]⟩):Ex × St)) (fun (z:Int)=>((.ret,⟨[(2,.d (.int .i64 z))],[]⟩):Ex × St)) r) (pE a0 p1):=by
 simp -implicitDefEqProofs (decide:=true) (maxSteps:=2000000) only [sK,pE,↓DN,↓DR,DQ,DP,↓reduceIte,Int.reduceToNat,Nat.reduceBEq,Nat.reduceAdd,Nat.reduceLT,Nat.reduceLeDiff,Nat.reduceEqDiff,Int.reduceEq,ne_eq,zN,reduceCtorEq,bJ,bM,bN,zM,zA,zB,aH,zC,zD,if_true,if_false,zE,zF,aG,zG,aJ,zH,zI,zJ,zK,aQ,aP,aV,aT,aS,aD,aL,aM,aE,aK,aF,aR,aZ,aU,aI,aW,zL]
 all_goals try simp only [bG]
 all_goals try rfl
theorem LB {β:Type} (a0:List Int) (p1:Int) (k:Ex→St→Option β):cP TT DK ⟨[(3,.d (.int .i64 0)),(6,.d (.sl (cM cI a0))),(7,.d (.int .i64 (a0.length:Int))),(8,.d (.int .i64 p1))],[]⟩ k = (rE a0 p1).bind (fun (r:Unit ⊕ Int)=>Sum.elim (fun (z:Unit)=>k (.exit 0) ⟨[(3,.d (.int .i64 0))],[]⟩) (fun (z:Int)=>k .ret ⟨[(2,.d (.int .i64 z))],[]⟩) r):=by
 have hh:=fun (w:Int)=>LL a0 w
 have h:=fun ho=>cA (T:=TT) (k:=k) (c:=sK) (step:=(fun (w:Int)=>pE a0 w)) _ _ ho hh p1
 refine Eq.trans (h (fun r s e=>by have q:=congrArg Prod.fst e; rcases r with x | x <;> cases q)) ?_
 unfold rE
 exact bK _ fun x=>by rcases x with x | x <;> rfl
theorem PY (a0:List Int):Vm.call TT 81 [.sl (cM cI a0)] = (uW a0).map fun (r:Int)=>.int .i64 r:=by
 refine (bQ (show TT 81 = some (.code ⟨1,18,[.tmp 2],aHh,false⟩) from rfl) _ rfl).trans ?_
 show cP TT aHh ⟨[(0,.d (.sl (cM cI a0)))],[]⟩ _ = _
 simp -implicitDefEqProofs (decide:=true) (maxSteps:=2000000) only [aHh,uW,↓LB,↓DN,↓DR,DQ,DP,↓reduceIte,Int.reduceToNat,Nat.reduceBEq,Nat.reduceAdd,Nat.reduceLT,Nat.reduceLeDiff,Nat.reduceEqDiff,Int.reduceEq,ne_eq,zN,reduceCtorEq,bJ,bM,bN,zM,zA,zB,aH,zC,zD,if_true,if_false,zE,zF,aG,zG,aJ,zH,zI,zJ,zK,aQ,aP,aV,aT,aS,aD,aL,aM,aE,aK,aF,aR,aZ,aU,aI,aW,zL]
 all_goals try simp only [bG]
 all_goals try rfl
theorem H7 {β:Type} (a0:List Int) (d:Nat) (bl:List (Nat × Option aY)) (fz:List (Nat × Option aY)) (k:V→Option β) (kw:V→List (Nat × Option aY)→Option β):cH TT d bl 81 [.sl (cM cI a0)] fz k kw = (uW a0).bind fun (r:Int)=>k (.d (.int .i64 r)):=by
 have h:=PY a0
 exact bI h (fun _=>rfl) fz
theorem KH (a0:aB) (p1:Int):cP TT qY ⟨[(1,.ptr 1 0),(7,.d (.sl (cM bS.cells a0.Facts))),(8,.d (.int .i64 (a0.Facts.length:Int))),(9,.d (.int .i64 p1))],[(1,some (.box (aC a0.cells)))]⟩ (fun e s=>some (e,s)) = cV (fun (w:Int)=>(⟨[(1,.ptr 1 0),(7,.d (.sl (cM bS.cells a0.Facts))),(8,.d (.int .i64 (a0.Facts.length:Int))),(9,.d (.int .i64 w))],[(1,some (.box (aC a0.cells)))]⟩ : St)) (fun (r:Unit ⊕ Int)=>Sum.elim (fun (z:Unit)=>(((.exit 0),⟨[],[]⟩):Ex × St)) (fun (z:Int)=>((.ret,⟨[(2,.d (.int .i64 z))],[]⟩):Ex × St)) r) (jN a0 p1):=by
 simp -implicitDefEqProofs (decide:=true) (maxSteps:=2000000) only [qY,jN,↓cR,↓H7,↓AW,↓DN,↓DR,DQ,DP,↓reduceIte,Int.reduceToNat,Nat.reduceBEq,Nat.reduceAdd,Nat.reduceLT,Nat.reduceLeDiff,Nat.reduceEqDiff,Int.reduceEq,ne_eq,zN,reduceCtorEq,bJ,bM,bN,zM,zA,zB,aH,zC,zD,if_true,if_false,zE,zF,aG,zG,aJ,zH,zI,zJ,zK,aQ,aP,aV,aT,aS,aD,aL,aM,aE,aK,aF,aR,aZ,aU,aI,aW,zL]
 all_goals try simp only [bG]
 all_goals try rfl
theorem JU {β:Type} (a0:aB) (p1:Int) (k:Ex→St→Option β):cP TT B2 ⟨[(1,.ptr 1 0),(7,.d (.sl (cM bS.cells a0.Facts))),(8,.d (.int .i64 (a0.Facts.length:Int))),(9,.d (.int .i64 p1))],[(1,some (.box (aC a0.cells)))]⟩ k = (qF a0 p1).bind (fun (r:Unit ⊕ Int)=>Sum.elim (fun (z:Unit)=>k (.exit 0) ⟨[],[]⟩) (fun (z:Int)=>k .ret ⟨[(2,.d (.int .i64 z))],[]⟩) r):=by
 have hh:=fun (w:Int)=>KH a0 w
 have h:=fun ho=>cA (T:=TT) (k:=k) (c:=qY) (step:=(fun (w:Int)=>jN a0 w)) _ _ ho hh p1
 refine Eq.trans (h (fun r s e=>by have q:=congrArg Prod.fst e; rcases r with x | x <;> cases q)) ?_
 unfold qF
 exact bK _ fun x=>by rcases x with x | x <;> rfl
theorem N3 (a0:aB):Vm.call TT 61 [.agg a0.cells] = (sF a0).map fun (r:Int)=>.int .i64 r:=by
 refine (bQ (show TT 61 = some (.code ⟨1,56,[.tmp 2],aHM,false⟩) from rfl) _ rfl).trans ?_
 show cP TT aHM ⟨[(0,cO a0.cells)],[]⟩ _ = _
 simp -implicitDefEqProofs (decide:=true) (maxSteps:=2000000) only [aHM,sF,↓JU,↓cR,↓H7,↓AW,↓DN,↓DR,DQ,DP,↓reduceIte,Int.reduceToNat,Nat.reduceBEq,Nat.reduceAdd,Nat.reduceLT,Nat.reduceLeDiff,Nat.reduceEqDiff,Int.reduceEq,ne_eq,zN,reduceCtorEq,bJ,bM,bN,zM,zA,zB,aH,zC,zD,if_true,if_false,zE,zF,aG,zG,aJ,zH,zI,zJ,zK,aQ,aP,aV,aT,aS,aD,aL,aM,aE,aK,aF,aR,aZ,aU,aI,aW,zL]
 all_goals try simp only [bG]
 all_goals try rfl
theorem AY {β:Type} (a0:aB) (d:Nat) (bl:List (Nat × Option aY)) (fz:List (Nat × Option aY)) (k:V→Option β) (kw:V→List (Nat × Option aY)→Option β):cH TT d bl 61 [.agg a0.cells] fz k kw = (sF a0).bind fun (r:Int)=>k (.d (.int .i64 r)):=by
 have h:=N3 a0
 exact bI h (fun _=>rfl) fz
theorem JH (a0:aA) (a1:aB) (p2:Int):cP TT qU ⟨[(2,.ptr 2 0),(3,.ptr 3 0),(47,.d (.int .i64 (a1.Signs.length:Int))),(48,.d (.int .i64 p2))],[(2,some (.box (aC a0.cells))),(3,some (.box (aC a1.cells)))]⟩ (fun e s=>some (e,s)) = cV (fun (w:Int)=>(⟨[(2,.ptr 2 0),(3,.ptr 3 0),(47,.d (.int .i64 (a1.Signs.length:Int))),(48,.d (.int .i64 w))],[(2,some (.box (aC a0.cells))),(3,some (.box (aC a1.cells)))]⟩ : St)) (fun (r:Unit ⊕ Int)=>Sum.elim (fun (z:Unit)=>(((.exit 0),⟨[(2,.ptr 2 0),(3,.ptr 3 0)],[(2,some (.box (aC a0.cells))),(3,some (.box (aC a1.cells)))]⟩):Ex × St)) (fun (z:Int)=>((.ret,⟨[(4,.d (.int .i64 z))],[]⟩):Ex × St)) r) (j0 a0 a1 p2):=by
 simp -implicitDefEqProofs (decide:=true) (maxSteps:=2000000) only [qU,j0,↓w9,↓CT,↓cR,↓CW,↓AY,↓DN,↓DR,DQ,DP,↓reduceIte,Int.reduceToNat,Nat.reduceBEq,Nat.reduceAdd,Nat.reduceLT,Nat.reduceLeDiff,Nat.reduceEqDiff,Int.reduceEq,ne_eq,zN,reduceCtorEq,bJ,bM,bN,zM,zA,zB,aH,zC,zD,if_true,if_false,zE,zF,aG,zG,aJ,zH,zI,zJ,zK,aQ,aP,aV,aT,aS,aD,aL,aM,aE,aK,aF,aR,aZ,aU,aI,aW,zL]
 all_goals try simp only [bG]
 all_goals try rfl
theorem BW {β:Type} (a0:aA) (a1:aB) (p2:Int) (k:Ex→St→Option β):cP TT B9 ⟨[(2,.ptr 2 0),(3,.ptr 3 0),(47,.d (.int .i64 (a1.Signs.length:Int))),(48,.d (.int .i64 p2))],[(2,some (.box (aC a0.cells))),(3,some (.box (aC a1.cells)))]⟩ k = (qG a0 a1 p2).bind (fun (r:Unit ⊕ Int)=>Sum.elim (fun (z:Unit)=>k (.exit 0) ⟨[(2,.ptr 2 0),(3,.ptr 3 0)],[(2,some (.box (aC a0.cells))),(3,some (.box (aC a1.cells)))]⟩) (fun (z:Int)=>k .ret ⟨[(4,.d (.int .i64 z))],[]⟩) r):=by
 have hh:=fun (w:Int)=>JH a0 a1 w
 have h:=fun ho=>cA (T:=TT) (k:=k) (c:=qU) (step:=(fun (w:Int)=>j0 a0 a1 w)) _ _ ho hh p2
 refine Eq.trans (h (fun r s e=>by have q:=congrArg Prod.fst e; rcases r with x | x <;> cases q)) ?_
 unfold qG
 exact bK _ fun x=>by rcases x with x | x <;> rfl
theorem JW (a0:aA) (a1:aB) (p8:Int) (p9:Int):cP TT rC ⟨[(2,.ptr 2 0),(3,.ptr 3 0),(8,.d (.int .i64 p8)),(60,.d (.sl (cM bE.cells a1.Alters))),(61,.d (.int .i64 (a1.Alters.length:Int))),(62,.d (.int .i64 p9))],[(2,some (.box (aC a0.cells))),(3,some (.box (aC a1.cells)))]⟩ (fun e s=>some (e,s)) = cV (fun (w:Int × Int)=>(⟨[(2,.ptr 2 0),(3,.ptr 3 0),(8,.d (.int .i64 w.1)),(60,.d (.sl (cM bE.cells a1.Alters))),(61,.d (.int .i64 (a1.Alters.length:Int))),(62,.d (.int .i64 w.2))],[(2,some (.box (aC a0.cells))),(3,some (.box (aC a1.cells)))]⟩ : St)) (fun (r:Unit ⊕ Int)=>Sum.elim (fun (z:Unit)=>(((.exit 2),⟨[(2,.ptr 2 0),(3,.ptr 3 0)],[(2,some (.box (aC a0.cells))),(3,some (.box (aC a1.cells)))]⟩):Ex × St)) (fun (z:Int)=>((.ret,⟨[(4,.d (.int .i64 z))],[]⟩):Ex × St)) r) (jQ a0 a1 p8 p9):=by
 simp -implicitDefEqProofs (decide:=true) (maxSteps:=2000000) only [rC,jQ,↓BW,↓w9,↓CT,↓cR,↓CW,↓AY,↓DN,↓DR,DQ,DP,↓reduceIte,Int.reduceToNat,Nat.reduceBEq,Nat.reduceAdd,Nat.reduceLT,Nat.reduceLeDiff,Nat.reduceEqDiff,Int.reduceEq,ne_eq,zN,reduceCtorEq,bJ,bM,bN,zM,zA,zB,aH,zC,zD,if_true,if_false,zE,zF,aG,zG,aJ,zH,zI,zJ,zK,aQ,aP,aV,aT,aS,aD,aL,aM,aE,aK,aF,aR,aZ,aU,aI,aW,zL]
 all_goals try simp only [bG]
 all_goals try rfl
theorem JR {β:Type} (a0:aA) (a1:aB) (p8:Int) (p9:Int) (k:Ex→St→Option β):cP TT BU ⟨[(2,.ptr 2 0),(3,.ptr 3 0),(8,.d (.int .i64 p8)),(60,.d (.sl (cM bE.cells a1.Alters))),(61,.d (.int .i64 (a1.Alters.length:Int))),(62,.d (.int .i64 p9))],[(2,some (.box (aC a0.cells))),(3,some (.box (aC a1.cells)))]⟩ k = (qH a0 a1 p8 p9).bind (fun (r:Unit ⊕ Int)=>Sum.elim (fun (z:Unit)=>k (.exit 2) ⟨[(2,.ptr 2 0),(3,.ptr 3 0)],[(2,some (.box (aC a0.cells))),(3,some (.box (aC a1.cells)))]⟩) (fun (z:Int)=>k .ret ⟨[(4,.d (.int .i64 z))],[]⟩) r):=by
 have hh:=fun (w:Int × Int)=>JW a0 a1 w.1 w.2
 have h:=fun ho=>cA (T:=TT) (k:=k) (c:=rC) (step:=(fun (w:Int × Int)=>jQ a0 a1 w.1 w.2)) _ _ ho hh (p8,p9)
 refine Eq.trans (h (fun r s e=>by have q:=congrArg Prod.fst e; rcases r with x | x <;> cases q)) ?_
 unfold qH
 exact bK _ fun x=>by rcases x with x | x <;> rfl
theorem AO (a0:aA) (a1:aB):Vm.call TT 29 [.agg a0.cells,.agg a1.cells] = (lP a0 a1).map fun (r:Int)=>.int .i64 r:=by
 refine (bQ (show TT 29 = some (.code ⟨2,90,[.tmp 4],aG8,false⟩) from rfl) _ rfl).trans ?_
 show cP TT aG8 ⟨[(0,cO a0.cells),(1,cO a1.cells)],[]⟩ _ = _
 simp -implicitDefEqProofs (decide:=true) (maxSteps:=2000000) only [aG8,lP,↓BW,↓JR,↓w9,↓CT,↓cR,↓CW,↓AY,↓DN,↓DR,DQ,DP,↓reduceIte,Int.reduceToNat,Nat.reduceBEq,Nat.reduceAdd,Nat.reduceLT,Nat.reduceLeDiff,Nat.reduceEqDiff,Int.reduceEq,ne_eq,zN,reduceCtorEq,bJ,bM,bN,zM,zA,zB,aH,zC,zD,if_true,if_false,zE,zF,aG,zG,aJ,zH,zI,zJ,zK,aQ,aP,aV,aT,aS,aD,aL,aM,aE,aK,aF,aR,aZ,aU,aI,aW,zL]
 all_goals try simp only [bG]
 all_goals try rfl
theorem AA {β:Type} (a0:aA) (a1:aB) (d:Nat) (bl:List (Nat × Option aY)) (fz:List (Nat × Option aY)) (k:V→Option β) (kw:V→List (Nat × Option aY)→Option β):cH TT d bl 29 [.agg a0.cells,.agg a1.cells] fz k kw = (lP a0 a1).bind fun (r:Int)=>k (.d (.int .i64 r)):=by
 have h:=AO a0 a1
 exact bI h (fun _=>rfl) fz
theorem ML {β:Type} (a0:aA) (a1:aB) (a2:aX) (r1:(List aX)) (r2:(List bE)) (r3:(List bP)) (r4:(List bS)) (d:Nat) (bl:List (Nat × Option aY)) (fz:List (Nat × Option aY)) (k:V→Option β) (kw:V→List (Nat × Option aY)→Option β):cH TT d bl 29 [.agg a0.cells,.agg [.int .i64 a1.Bill.Drawer,.int .i64 a1.Bill.Drawee,.int .i64 a1.Bill.Payee,.int .i64 a1.Bill.Sum,.int .i64 a1.Bill.Currency,.int .i64 a1.Bill.Tenor.Kind,.int .i64 a1.Bill.Tenor.N,.int .i64 a1.Bill.Tenor.Unit,.int .i64 a1.Bill.Day,.int .i64 a1.Bill.City,.int .i64 a1.Bill.Pay,.int .i64 a1.Bill.Need,.int .i64 a1.Bill.Rate,.int .i64 a1.Bill.Flags,.int .i64 a1.Bill.Parts,.sl (cM aX.cells (r1 ++ [a2])),.sl (cM bE.cells r2),.sl (cM bP.cells r3),.sl (cM bS.cells r4)]] fz k kw = (lP a0 (aB.mk a1.Bill (r1 ++ [a2]) r2 r3 r4)).bind fun (r:Int)=>k (.d (.int .i64 r)):=by
 have h:=AO a0 (aB.mk a1.Bill (r1 ++ [a2]) r2 r3 r4)
 exact bI h (fun _=>rfl) fz
theorem MP {β:Type} (a1:aB) (bl:List (Nat × Option aY)) (fz:List (Nat × Option aY)) (k:V→Option β) (kw:V→List (Nat × Option aY)→Option β):cH TT 13 bl 62 [.sl (cM aX.cells a1.Signs)] fz k kw = (eU a1.Signs).bind fun (r:(List aX))=>fI bl 100013 fun b=>s4 b (kw (.own 100013 0) ((100013,some (.rows 0 66 9 (cM aX.cells r))) :: fz)):=HA (vI a1.Signs) fz
theorem MO {β:Type} (a1:aB) (bl:List (Nat × Option aY)) (fz:List (Nat × Option aY)) (k:V→Option β) (kw:V→List (Nat × Option aY)→Option β):cH TT 20 bl 63 [.sl (cM bE.cells a1.Alters)] fz k kw = (eA a1.Alters).bind fun (r:(List bE))=>fI bl 100020 fun b=>s4 b (kw (.own 100020 0) ((100020,some (.rows 0 72 2 (cM bE.cells r))) :: fz)):=HA (tZ a1.Alters) fz
theorem MZ {β:Type} (a1:aB) (bl:List (Nat × Option aY)) (fz:List (Nat × Option aY)) (k:V→Option β) (kw:V→List (Nat × Option aY)→Option β):cH TT 23 bl 64 [.sl (cM bP.cells a1.Acts)] fz k kw = (fJ a1.Acts).bind fun (r:(List bP))=>fI bl 100023 fun b=>s4 b (kw (.own 100023 0) ((100023,some (.rows 0 81 9 (cM bP.cells r))) :: fz)):=HA (wH a1.Acts) fz
theorem MN {β:Type} (a1:aB) (bl:List (Nat × Option aY)) (fz:List (Nat × Option aY)) (k:V→Option β) (kw:V→List (Nat × Option aY)→Option β):cH TT 26 bl 65 [.sl (cM bS.cells a1.Facts)] fz k kw = (eT a1.Facts).bind fun (r:(List bS))=>fI bl 100026 fun b=>s4 b (kw (.own 100026 0) ((100026,some (.rows 0 58 3 (cM bS.cells r))) :: fz)):=HA (vH a1.Facts) fz
theorem pW (a0:aA) (a1:aB) (a2:aX):Vm.call TT 30 [.agg a0.cells,.agg a1.cells,.agg a2.cells] = (fY a0 a1 a2).map fun (r:aB × Int)=>.tup [.agg (aB.cells r.1),.int .i64 r.2]:=by
 refine (bQ (show TT 30 = some (.code ⟨3,38,[.cell 6 19 true,.tmp 7],aHJ,false⟩) from rfl) _ rfl).trans ?_
 show cP TT aHJ ⟨[(0,cO a0.cells),(1,cO a1.cells),(2,cO a2.cells)],[]⟩ _ = _
 simp -implicitDefEqProofs (decide:=true) (maxSteps:=2000000) only [aHJ,fY,↓AA,↓ML,↓MP,↓MO,↓MZ,↓MN,↓DN,↓DR,DQ,DP,↓reduceIte,Int.reduceToNat,Nat.reduceBEq,Nat.reduceAdd,Nat.reduceLT,Nat.reduceLeDiff,Nat.reduceEqDiff,Int.reduceEq,ne_eq,zN,reduceCtorEq,bJ,bM,bN,zM,zA,zB,aH,zC,zD,if_true,if_false,zE,zF,aG,zG,aJ,zH,zI,zJ,zK,aQ,aP,aV,aT,aS,aD,aL,aM,aE,aK,aF,aR,aZ,aU,aI,aW,zL]
 all_goals try simp only [bG]
 all_goals try rfl
theorem KC {β:Type} (a0:aA) (a1:aB) (a2:aX) (d:Nat) (bl:List (Nat × Option aY)) (fz:List (Nat × Option aY)) (k:V→Option β) (kw:V→List (Nat × Option aY)→Option β):cH TT d bl 30 [.agg a0.cells,.agg a1.cells,.agg a2.cells] fz k kw = (fY a0 a1 a2).bind fun (r:aB × Int)=>LK fz (.tup [cO (aB.cells r.1),.d (.int .i64 r.2)]) k kw:=by
 have h:=pW a0 a1 a2
 exact fZ h (fun _=>rfl) (fun _=>rfl) fz
theorem NC (a0:aB) (a1:Int) (p1:Int) (p2:List Int):cP TT wF ⟨[(1,.d (.int .i64 a1)),(2,.ptr 2 0),(5,.own 20 0),(9,.d (.int .i64 (a0.Signs.length:Int))),(10,.d (.int .i64 p1))],[(2,some (.box (aC a0.cells))),(20,some (.rows 0 3 1 (cM cI p2)))]⟩ (fun e s=>some (e,s)) = cV (fun (w:Int × (List Int))=>(⟨[(1,.d (.int .i64 a1)),(2,.ptr 2 0),(5,.own 20 0),(9,.d (.int .i64 (a0.Signs.length:Int))),(10,.d (.int .i64 w.1))],[(2,some (.box (aC a0.cells))),(20,some (.rows 0 3 1 (cM cI w.2)))]⟩ : St)) (fun (r:(List Int))=>(((.exit 0),⟨[(5,.own 20 0)],[(20,some (.rows 0 3 1 (cM cI r)))]⟩):Ex × St)) (nE a0 a1 p1 p2):=by
 simp -implicitDefEqProofs (decide:=true) (maxSteps:=2000000) only [wF,nE,↓gG,↓DN,↓DR,DQ,DP,↓reduceIte,Int.reduceToNat,Nat.reduceBEq,Nat.reduceAdd,Nat.reduceLT,Nat.reduceLeDiff,Nat.reduceEqDiff,Int.reduceEq,ne_eq,zN,reduceCtorEq,bJ,bM,bN,zM,zA,zB,aH,zC,zD,if_true,if_false,zE,zF,aG,zG,aJ,zH,zI,zJ,zK,aQ,aP,aV,aT,aS,aD,aL,aM,aE,aK,aF,aR,aZ,aU,aI,aW,zL]
 all_goals try simp only [bG]
 all_goals try rfl
theorem N4 {β:Type} (a0:aB) (a1:Int) (p1:Int) (p2:List Int) (k:Ex→St→Option β):cP TT GO ⟨[(1,.d (.int .i64 a1)),(2,.ptr 2 0),(5,.own 20 0),(9,.d (.int .i64 (a0.Signs.length:Int))),(10,.d (.int .i64 p1))],[(2,some (.box (aC a0.cells))),(20,some (.rows 0 3 1 (cM cI p2)))]⟩ k = (wG a0 a1 p1 p2).bind (fun (r:(List Int))=>k (.exit 0) ⟨[(5,.own 20 0)],[(20,some (.rows 0 3 1 (cM cI r)))]⟩):=by
 have hh:=fun (w:Int × (List Int))=>NC a0 a1 w.1 w.2
 have h:=fun ho=>cA (T:=TT) (k:=k) (c:=wF) (step:=(fun (w:Int × (List Int))=>nE a0 a1 w.1 w.2)) _ _ ho hh (p1,p2)
 refine Eq.trans (h (fun r s e=>by have q:=congrArg Prod.fst e; rcases r with x <;> cases q)) ?_
 unfold wG
 exact bK _ fun x=>by rcases x with x <;> rfl
theorem MC (a0:aB) (a1:Int):Vm.call TT 33 [.agg a0.cells,.int .i64 a1] = (vE a0 a1).map fun (r:(List Int))=>.sl (cM cI r):=by
 refine (bQ (show TT 33 = some (.code ⟨2,23,[.tmp 4],aHy,false⟩) from rfl) _ rfl).trans ?_
 show cP TT aHy ⟨[(0,cO a0.cells),(1,.d (.int .i64 a1))],[]⟩ _ = _
 simp -implicitDefEqProofs (decide:=true) (maxSteps:=2000000) only [aHy,vE,↓N4,↓gG,↓DN,↓DR,DQ,DP,↓reduceIte,Int.reduceToNat,Nat.reduceBEq,Nat.reduceAdd,Nat.reduceLT,Nat.reduceLeDiff,Nat.reduceEqDiff,Int.reduceEq,ne_eq,zN,reduceCtorEq,bJ,bM,bN,zM,zA,zB,aH,zC,zD,if_true,if_false,zE,zF,aG,zG,aJ,zH,zI,zJ,zK,aQ,aP,aV,aT,aS,aD,aL,aM,aE,aK,aF,aR,aZ,aU,aI,aW,zL]
 all_goals try simp only [bG]
 all_goals try rfl
theorem ME {β:Type} (a0:aB) (a1:Int) (d:Nat) (bl:List (Nat × Option aY)) (fz:List (Nat × Option aY)) (k:V→Option β) (kw:V→List (Nat × Option aY)→Option β):cH TT d bl 33 [.agg a0.cells,.int .i64 a1] fz k kw = (vE a0 a1).bind fun (r:(List Int))=>LK fz (.d (.sl (cM cI r))) k kw:=by
 have h:=MC a0 a1
 exact fZ h (fun _=>rfl) (fun _=>rfl) fz
theorem zO (a0:List Int) (a1:List Int) (p1:Int):cP TT iQ ⟨[(0,.d (.sl (cM cI a0))),(1,.d (.sl (cM cI a1))),(5,.d (.int .i64 p1))],[]⟩ (fun e s=>some (e,s)) = cV (fun (w:Int)=>(⟨[(0,.d (.sl (cM cI a0))),(1,.d (.sl (cM cI a1))),(5,.d (.int .i64 w))],[]⟩ : St)) (fun (r:Unit ⊕ Unit)=>Sum.elim (fun (z:Unit)=>(((.exit 0),⟨[],[]⟩):Ex × St)) (fun (z:Unit)=>((.ret,⟨[(4,.d (.bool false))],[]⟩):Ex × St)) r) (dK a0 a1 p1):=by
 simp -implicitDefEqProofs (decide:=true) (maxSteps:=2000000) only [iQ,dK,↓DN,↓DR,DQ,DP,↓reduceIte,Int.reduceToNat,Nat.reduceBEq,Nat.reduceAdd,Nat.reduceLT,Nat.reduceLeDiff,Nat.reduceEqDiff,Int.reduceEq,ne_eq,zN,reduceCtorEq,bJ,bM,bN,zM,zA,zB,aH,zC,zD,if_true,if_false,zE,zF,aG,zG,aJ,zH,zI,zJ,zK,aQ,aP,aV,aT,aS,aD,aL,aM,aE,aK,aF,aR,aZ,aU,aI,aW,zL]
 all_goals try simp only [bG]
 all_goals try rfl
theorem zQ {β:Type} (a0:List Int) (a1:List Int) (p1:Int) (k:Ex→St→Option β):cP TT qS ⟨[(0,.d (.sl (cM cI a0))),(1,.d (.sl (cM cI a1))),(5,.d (.int .i64 p1))],[]⟩ k = (kT a0 a1 p1).bind (fun (r:Unit ⊕ Unit)=>Sum.elim (fun (z:Unit)=>k (.exit 0) ⟨[],[]⟩) (fun (z:Unit)=>k .ret ⟨[(4,.d (.bool false))],[]⟩) r):=by
 have hh:=fun (w:Int)=>zO a0 a1 w
 have h:=fun ho=>cA (T:=TT) (k:=k) (c:=iQ) (step:=(fun (w:Int)=>dK a0 a1 w)) _ _ ho hh p1
 refine Eq.trans (h (fun r s e=>by have q:=congrArg Prod.fst e; rcases r with x | x <;> cases q)) ?_
 unfold kT
 exact bK _ fun x=>by rcases x with x | x <;> rfl
theorem CX (a0:List Int) (a1:List Int):Vm.call TT 37 [.sl (cM cI a0),.sl (cM cI a1)] = (dJ a0 a1).map fun (r:Bool)=>.bool r:=by
 refine (bQ (show TT 37 = some (.code ⟨2,26,[.tmp 4],aHY,false⟩) from rfl) _ rfl).trans ?_
 show cP TT aHY ⟨[(0,.d (.sl (cM cI a0))),(1,.d (.sl (cM cI a1)))],[]⟩ _ = _
 simp -implicitDefEqProofs (decide:=true) (maxSteps:=2000000) only [aHY,dJ,↓zQ,↓DN,↓DR,DQ,DP,↓reduceIte,Int.reduceToNat,Nat.reduceBEq,Nat.reduceAdd,Nat.reduceLT,Nat.reduceLeDiff,Nat.reduceEqDiff,Int.reduceEq,ne_eq,zN,reduceCtorEq,bJ,bM,bN,zM,zA,zB,aH,zC,zD,if_true,if_false,zE,zF,aG,zG,aJ,zH,zI,zJ,zK,aQ,aP,aV,aT,aS,aD,aL,aM,aE,aK,aF,aR,aZ,aU,aI,aW,zL]
 all_goals try simp only [bG]
 all_goals try rfl
theorem uA {β:Type} (a0:List Int) (a1:List Int) (d:Nat) (bl:List (Nat × Option aY)) (fz:List (Nat × Option aY)) (k:V→Option β) (kw:V→List (Nat × Option aY)→Option β):cH TT d bl 37 [.sl (cM cI a0),.sl (cM cI a1)] fz k kw = (dJ a0 a1).bind fun (r:Bool)=>k (.d (.bool r)):=by
 have h:=CX a0 a1
 exact bI h (fun _=>rfl) fz
theorem H3 (a0:aB) (p1:Int) (p2:List Int):cP TT oV ⟨[(3,.own 20 0),(7,.d (.sl (cM aX.cells a0.Signs))),(8,.d (.int .i64 (a0.Signs.length:Int))),(9,.d (.int .i64 p1))],[(20,some (.rows 0 3 1 (cM cI p2)))]⟩ (fun e s=>some (e,s)) = cV (fun (w:Int × (List Int))=>(⟨[(3,.own 20 0),(7,.d (.sl (cM aX.cells a0.Signs))),(8,.d (.int .i64 (a0.Signs.length:Int))),(9,.d (.int .i64 w.1))],[(20,some (.rows 0 3 1 (cM cI w.2)))]⟩ : St)) (fun (r:(List Int))=>(((.exit 0),⟨[(3,.own 20 0)],[(20,some (.rows 0 3 1 (cM cI r)))]⟩):Ex × St)) (gT a0 p1 p2):=by
 simp -implicitDefEqProofs (decide:=true) (maxSteps:=2000000) only [oV,gT,↓DN,↓DR,DQ,DP,↓reduceIte,Int.reduceToNat,Nat.reduceBEq,Nat.reduceAdd,Nat.reduceLT,Nat.reduceLeDiff,Nat.reduceEqDiff,Int.reduceEq,ne_eq,zN,reduceCtorEq,bJ,bM,bN,zM,zA,zB,aH,zC,zD,if_true,if_false,zE,zF,aG,zG,aJ,zH,zI,zJ,zK,aQ,aP,aV,aT,aS,aD,aL,aM,aE,aK,aF,aR,aZ,aU,aI,aW,zL]
 all_goals try simp only [bG]
 all_goals try rfl
theorem HK {β:Type} (a0:aB) (p1:Int) (p2:List Int) (k:Ex→St→Option β):cP TT yU ⟨[(3,.own 20 0),(7,.d (.sl (cM aX.cells a0.Signs))),(8,.d (.int .i64 (a0.Signs.length:Int))),(9,.d (.int .i64 p1))],[(20,some (.rows 0 3 1 (cM cI p2)))]⟩ k = (nZ a0 p1 p2).bind (fun (r:(List Int))=>k (.exit 0) ⟨[(3,.own 20 0)],[(20,some (.rows 0 3 1 (cM cI r)))]⟩):=by
 have hh:=fun (w:Int × (List Int))=>H3 a0 w.1 w.2
 have h:=fun ho=>cA (T:=TT) (k:=k) (c:=oV) (step:=(fun (w:Int × (List Int))=>gT a0 w.1 w.2)) _ _ ho hh (p1,p2)
 refine Eq.trans (h (fun r s e=>by have q:=congrArg Prod.fst e; rcases r with x <;> cases q)) ?_
 unfold nZ
 exact bK _ fun x=>by rcases x with x <;> rfl
theorem DV (a0:aB):Vm.call TT 32 [.agg a0.cells] = (l8 a0).map fun (r:(List Int))=>.sl (cM cI r):=by
 refine (bQ (show TT 32 = some (.code ⟨1,23,[.tmp 2],aFm,false⟩) from rfl) _ rfl).trans ?_
 show cP TT aFm ⟨[(0,cO a0.cells)],[]⟩ _ = _
 simp -implicitDefEqProofs (decide:=true) (maxSteps:=2000000) only [aFm,l8,↓HK,↓DN,↓DR,DQ,DP,↓reduceIte,Int.reduceToNat,Nat.reduceBEq,Nat.reduceAdd,Nat.reduceLT,Nat.reduceLeDiff,Nat.reduceEqDiff,Int.reduceEq,ne_eq,zN,reduceCtorEq,bJ,bM,bN,zM,zA,zB,aH,zC,zD,if_true,if_false,zE,zF,aG,zG,aJ,zH,zI,zJ,zK,aQ,aP,aV,aT,aS,aD,aL,aM,aE,aK,aF,aR,aZ,aU,aI,aW,zL]
 all_goals try simp only [bG]
 all_goals try rfl
theorem EC {β:Type} (a0:aB) (d:Nat) (bl:List (Nat × Option aY)) (fz:List (Nat × Option aY)) (k:V→Option β) (kw:V→List (Nat × Option aY)→Option β):cH TT d bl 32 [.agg a0.cells] fz k kw = (l8 a0).bind fun (r:(List Int))=>LK fz (.d (.sl (cM cI r))) k kw:=by
 have h:=DV a0
 exact fZ h (fun _=>rfl) (fun _=>rfl) fz
theorem JK (a0:aB) (a1:Int) (p1:Int) (p2:Int):cP TT qT ⟨[(1,.d (.int .i64 a1)),(5,.d (.int .i64 p1)),(12,.d (.sl (cM bE.cells a0.Alters))),(13,.d (.int .i64 (a0.Alters.length:Int))),(14,.d (.int .i64 p2))],[]⟩ (fun e s=>some (e,s)) = cV (fun (w:Int × Int)=>(⟨[(1,.d (.int .i64 a1)),(5,.d (.int .i64 w.1)),(12,.d (.sl (cM bE.cells a0.Alters))),(13,.d (.int .i64 (a0.Alters.length:Int))),(14,.d (.int .i64 w.2))],[]⟩ : St)) (fun (r:Int)=>(((.exit 0),⟨[(5,.d (.int .i64 r))],[]⟩):Ex × St)) (jB a0 a1 p1 p2):=by
 simp -implicitDefEqProofs (decide:=true) (maxSteps:=2000000) only [qT,jB,↓DN,↓DR,DQ,DP,↓reduceIte,Int.reduceToNat,Nat.reduceBEq,Nat.reduceAdd,Nat.reduceLT,Nat.reduceLeDiff,Nat.reduceEqDiff,Int.reduceEq,ne_eq,zN,reduceCtorEq,bJ,bM,bN,zM,zA,zB,aH,zC,zD,if_true,if_false,zE,zF,aG,zG,aJ,zH,zI,zJ,zK,aQ,aP,aV,aT,aS,aD,aL,aM,aE,aK,aF,aR,aZ,aU,aI,aW,zL]
 all_goals try simp only [bG]
 all_goals try rfl
theorem J3 {β:Type} (a0:aB) (a1:Int) (p1:Int) (p2:Int) (k:Ex→St→Option β):cP TT B7 ⟨[(1,.d (.int .i64 a1)),(5,.d (.int .i64 p1)),(12,.d (.sl (cM bE.cells a0.Alters))),(13,.d (.int .i64 (a0.Alters.length:Int))),(14,.d (.int .i64 p2))],[]⟩ k = (qJ a0 a1 p1 p2).bind (fun (r:Int)=>k (.exit 0) ⟨[(5,.d (.int .i64 r))],[]⟩):=by
 have hh:=fun (w:Int × Int)=>JK a0 a1 w.1 w.2
 have h:=fun ho=>cA (T:=TT) (k:=k) (c:=qT) (step:=(fun (w:Int × Int)=>jB a0 a1 w.1 w.2)) _ _ ho hh (p1,p2)
 refine Eq.trans (h (fun r s e=>by have q:=congrArg Prod.fst e; rcases r with x <;> cases q)) ?_
 unfold qJ
 exact bK _ fun x=>by rcases x with x <;> rfl
theorem AL (a0:aB) (a1:Int):Vm.call TT 34 [.agg a0.cells,.int .i64 a1] = (lW a0 a1).map fun (r:Int)=>.int .i64 r:=by
 refine (bQ (show TT 34 = some (.code ⟨2,26,[.tmp 4],aH8,false⟩) from rfl) _ rfl).trans ?_
 show cP TT aH8 ⟨[(0,cO a0.cells),(1,.d (.int .i64 a1))],[]⟩ _ = _
 simp -implicitDefEqProofs (decide:=true) (maxSteps:=2000000) only [aH8,lW,↓J3,↓DN,↓DR,DQ,DP,↓reduceIte,Int.reduceToNat,Nat.reduceBEq,Nat.reduceAdd,Nat.reduceLT,Nat.reduceLeDiff,Nat.reduceEqDiff,Int.reduceEq,ne_eq,zN,reduceCtorEq,bJ,bM,bN,zM,zA,zB,aH,zC,zD,if_true,if_false,zE,zF,aG,zG,aJ,zH,zI,zJ,zK,aQ,aP,aV,aT,aS,aD,aL,aM,aE,aK,aF,aR,aZ,aU,aI,aW,zL]
 all_goals try simp only [bG]
 all_goals try rfl
theorem GV {β:Type} (a0:aB) (a1:Int) (d:Nat) (bl:List (Nat × Option aY)) (fz:List (Nat × Option aY)) (k:V→Option β) (kw:V→List (Nat × Option aY)→Option β):cH TT d bl 34 [.agg a0.cells,.int .i64 a1] fz k kw = (lW a0 a1).bind fun (r:Int)=>k (.d (.int .i64 r)):=by
 have h:=AL a0 a1
 exact bI h (fun _=>rfl) fz
end Go.Proofs.Ytfhebiceipgdmaa
