/- The functions of the small machine compute the plain definitions. Printed by a program. -/
import Derived.Test.YtfhebiceipgdmaaLnk4
set_option linter.unusedVariables false
set_option linter.unusedSimpArgs false
namespace Go.Proofs.Ytfhebiceipgdmaa
open Vm
open Go.RowKit
set_option maxRecDepth 100000
set_option maxHeartbeats 4000000
attribute [local congr] uO wG uN vX
theorem kR {β:Type} (a2:bB) (p3:Bool) (p5:Bool) (r6:Bool) (k:Ex→St→Option β):cX TT vB ⟨[(5,.ptr 5 0),(7,.d (.bool p3)),(8,.d (.bool p5)),(9,.d (.bool r6)),(64,.d (.int .i64 a2.Kind))],[(5,some (.box (aC a2.cells)))]⟩ k = (lJ a2 p3 p5 r6).bind (fun (r:Unit ⊕ Bool)=>Sum.elim (fun (z:Unit)=>k .normal ⟨[(5,.ptr 5 0),(7,.d (.bool p3))],[(5,some (.box (aC a2.cells)))]⟩) (fun (z:Bool)=>k .ret ⟨[(6,.d (.bool z))],[]⟩) r):=by
 simp -implicitDefEqProofs (decide:=true) (maxSteps:=2000000) only [vB,lJ,↓cU,↓iH,↓DN,↓DR,DQ,DP,↓reduceIte,Int.reduceToNat,Nat.reduceBEq,Nat.reduceAdd,Nat.reduceLT,Nat.reduceLeDiff,Nat.reduceEqDiff,Int.reduceEq,ne_eq,zN,reduceCtorEq,bL,bO,bP,zM,zA,zB,aH,zC,zD,if_true,if_false,zE,zF,aE,zG,aM,zH,zI,zJ,zK,aV,aS,aR,aW,aQ,aF,aI,aL,aG,aK,aD,aT,a9,Vm.bind_map,aJ,aU,zL]
 all_goals try simp only [bF]
 all_goals try rfl
theorem nI {β:Type} (a2:bB) (p3:Bool) (p5:Bool) (r6:Bool) (k:Ex→St→Option β):cX TT uS ⟨[(5,.ptr 5 0),(7,.d (.bool p3)),(8,.d (.bool p5)),(9,.d (.bool r6)),(64,.d (.int .i64 a2.Kind))],[(5,some (.box (aC a2.cells)))]⟩ k = (lI a2 p3 p5 r6).bind (fun (r:Unit ⊕ Bool)=>Sum.elim (fun (z:Unit)=>k .normal ⟨[(5,.ptr 5 0),(7,.d (.bool p3))],[(5,some (.box (aC a2.cells)))]⟩) (fun (z:Bool)=>k .ret ⟨[(6,.d (.bool z))],[]⟩) r):=by
 simp -implicitDefEqProofs (decide:=true) (maxSteps:=2000000) only [uS,lI,↓kR,↓cU,↓iH,↓DN,↓DR,DQ,DP,↓reduceIte,Int.reduceToNat,Nat.reduceBEq,Nat.reduceAdd,Nat.reduceLT,Nat.reduceLeDiff,Nat.reduceEqDiff,Int.reduceEq,ne_eq,zN,reduceCtorEq,bL,bO,bP,zM,zA,zB,aH,zC,zD,if_true,if_false,zE,zF,aE,zG,aM,zH,zI,zJ,zK,aV,aS,aR,aW,aQ,aF,aI,aL,aG,aK,aD,aT,a9,Vm.bind_map,aJ,aU,zL]
 all_goals try simp only [bF]
 all_goals try rfl
theorem pW {β:Type} (a2:bB) (p3:Bool) (k:Ex→St→Option β):cX TT uP ⟨[(5,.ptr 5 0),(7,.d (.bool p3))],[(5,some (.box (aC a2.cells)))]⟩ k = (nM a2 p3).bind (fun (r:Bool)=>k .ret ⟨[(6,.d (.bool r))],[]⟩):=by
 simp -implicitDefEqProofs (decide:=true) (maxSteps:=2000000) only [uP,nM,↓kR,↓nI,↓cU,↓iH,↓DN,↓DR,DQ,DP,↓reduceIte,Int.reduceToNat,Nat.reduceBEq,Nat.reduceAdd,Nat.reduceLT,Nat.reduceLeDiff,Nat.reduceEqDiff,Int.reduceEq,ne_eq,zN,reduceCtorEq,bL,bO,bP,zM,zA,zB,aH,zC,zD,if_true,if_false,zE,zF,aE,zG,aM,zH,zI,zJ,zK,aV,aS,aR,aW,aQ,aF,aI,aL,aG,aK,aD,aT,a9,Vm.bind_map,aJ,aU,zL]
 all_goals try simp only [bF]
 all_goals try rfl
theorem uZ {β:Type} (a2:bB) (p3:Bool) (p5:Bool) (r6:Bool) (k:Ex→St→Option β):cX TT uT ⟨[(5,.ptr 5 0),(7,.d (.bool p3)),(8,.d (.bool p5)),(9,.d (.bool r6))],[(5,some (.box (aC a2.cells)))]⟩ k = (nL a2 p3 p5 r6).bind (fun (r:Bool)=>k .ret ⟨[(6,.d (.bool r))],[]⟩):=by
 simp -implicitDefEqProofs (decide:=true) (maxSteps:=2000000) only [uT,nL,↓kR,↓nI,↓pW,↓cU,↓iH,↓DN,↓DR,DQ,DP,↓reduceIte,Int.reduceToNat,Nat.reduceBEq,Nat.reduceAdd,Nat.reduceLT,Nat.reduceLeDiff,Nat.reduceEqDiff,Int.reduceEq,ne_eq,zN,reduceCtorEq,bL,bO,bP,zM,zA,zB,aH,zC,zD,if_true,if_false,zE,zF,aE,zG,aM,zH,zI,zJ,zK,aV,aS,aR,aW,aQ,aF,aI,aL,aG,aK,aD,aT,a9,Vm.bind_map,aJ,aU,zL]
 all_goals try simp only [bF]
 all_goals try rfl
theorem BG {β:Type} (a0:aA) (a2:bB) (p3:Bool) (p5:Bool) (k:Ex→St→Option β):cX TT u9 ⟨[(3,.ptr 3 0),(5,.ptr 5 0),(7,.d (.bool p3)),(8,.d (.bool p5))],[(3,some (.box (aC a0.cells))),(5,some (.box (aC a2.cells)))]⟩ k = (lH a0 a2 p3 p5).bind (fun (r:Bool)=>k .ret ⟨[(6,.d (.bool r))],[]⟩):=by
 simp -implicitDefEqProofs (decide:=true) (maxSteps:=2000000) only [u9,lH,↓kR,↓nI,↓pW,↓uZ,↓cU,↓iH,↓DN,↓DR,DQ,DP,↓reduceIte,Int.reduceToNat,Nat.reduceBEq,Nat.reduceAdd,Nat.reduceLT,Nat.reduceLeDiff,Nat.reduceEqDiff,Int.reduceEq,ne_eq,zN,reduceCtorEq,bL,bO,bP,zM,zA,zB,aH,zC,zD,if_true,if_false,zE,zF,aE,zG,aM,zH,zI,zJ,zK,aV,aS,aR,aW,aQ,aF,aI,aL,aG,aK,aD,aT,a9,Vm.bind_map,aJ,aU,zL]
 all_goals try simp only [bF]
 all_goals try rfl
theorem IJ {β:Type} (a0:aA) (a1:aB) (a2:bB) (p3:Bool) (k:Ex→St→Option β):cX TT vA ⟨[(3,.ptr 3 0),(4,.ptr 4 0),(5,.ptr 5 0),(7,.d (.bool p3))],[(3,some (.box (aC a0.cells))),(4,some (.box (aC a1.cells))),(5,some (.box (aC a2.cells)))]⟩ k = (lD a0 a1 a2 p3).bind (fun (r:Bool)=>k .ret ⟨[(6,.d (.bool r))],[]⟩):=by
 simp -implicitDefEqProofs (decide:=true) (maxSteps:=2000000) only [vA,lD,↓kR,↓nI,↓pW,↓uZ,↓BG,↓cU,↓iH,↓DN,↓DR,DQ,DP,↓reduceIte,Int.reduceToNat,Nat.reduceBEq,Nat.reduceAdd,Nat.reduceLT,Nat.reduceLeDiff,Nat.reduceEqDiff,Int.reduceEq,ne_eq,zN,reduceCtorEq,bL,bO,bP,zM,zA,zB,aH,zC,zD,if_true,if_false,zE,zF,aE,zG,aM,zH,zI,zJ,zK,aV,aS,aR,aW,aQ,aF,aI,aL,aG,aK,aD,aT,a9,Vm.bind_map,aJ,aU,zL]
 all_goals try simp only [bF]
 all_goals try rfl
theorem OM (a0:aA) (a1:aB) (a2:bB):Vm.call TT 80 [.agg a0.cells,.agg a1.cells,.agg a2.cells] = (s9 a0 a1 a2).map fun (r:Bool)=>.bool r:=by
 refine (bX (show TT 80 = some (.code ⟨3,135,[.tmp 6],aEk,false,false⟩) from rfl) _ rfl rfl).trans ?_
 show cX TT aEk ⟨[(0,cW a0.cells),(1,cW a1.cells),(2,cW a2.cells)],[]⟩ _ = _
 simp -implicitDefEqProofs (decide:=true) (maxSteps:=2000000) only [aEk,s9,↓kR,↓nI,↓pW,↓uZ,↓BG,↓IJ,↓cU,↓iH,↓DN,↓DR,DQ,DP,↓reduceIte,Int.reduceToNat,Nat.reduceBEq,Nat.reduceAdd,Nat.reduceLT,Nat.reduceLeDiff,Nat.reduceEqDiff,Int.reduceEq,ne_eq,zN,reduceCtorEq,bL,bO,bP,zM,zA,zB,aH,zC,zD,if_true,if_false,zE,zF,aE,zG,aM,zH,zI,zJ,zK,aV,aS,aR,aW,aQ,aF,aI,aL,aG,aK,aD,aT,a9,Vm.bind_map,aJ,aU,zL]
 all_goals try simp only [bF]
 all_goals try rfl
theorem vN {β:Type} (a0:aA) (a1:aB) (a2:bB) (d:Nat) (bl:List (Nat × Option aX)) (fz:List (Nat × Option aX)) (k:V→Option β) (kw:V→List (Nat × Option aX)→Option β):dM TT d bl 80 [.agg a0.cells,.agg a1.cells,.agg a2.cells] fz k kw = (s9 a0 a1 a2).bind fun (r:Bool)=>k (.d (.bool r)):=by
 have h:=OM a0 a1 a2
 exact bR h (fun _=>rfl) fz
theorem tD {β:Type} (a0:aA) (a1:aB) (p1:Int) (x2:bB) (p10:Int) (k:Ex→St→Option β):cX TT tK ⟨[(2,.ptr 2 0),(3,.ptr 3 0),(6,.ptr 6 0),(7,.d (.int .i64 p10)),(9,.d (.sl (cM bB.cells a1.Acts))),(10,.d (.int .i64 (a1.Acts.length:Int))),(11,.d (.int .i64 p1))],[(2,some (.box (aC a0.cells))),(3,some (.box (aC a1.cells))),(6,some (.box (aC x2.cells)))]⟩ k = (oI a0 a1 p1 x2 p10).bind (fun (r:Unit ⊕ Unit)=>Sum.elim (fun (z:Unit)=>k .normal ⟨[(2,.ptr 2 0),(3,.ptr 3 0),(9,.d (.sl (cM bB.cells a1.Acts))),(10,.d (.int .i64 (a1.Acts.length:Int))),(11,.d (.int .i64 p1))],[(2,some (.box (aC a0.cells))),(3,some (.box (aC a1.cells)))]⟩) (fun (z:Unit)=>k .ret ⟨[(4,.d (.int .i64 13))],[]⟩) r):=by
 simp -implicitDefEqProofs (decide:=true) (maxSteps:=2000000) only [tK,oI,↓cU,↓vN,↓DN,↓DR,DQ,DP,↓reduceIte,Int.reduceToNat,Nat.reduceBEq,Nat.reduceAdd,Nat.reduceLT,Nat.reduceLeDiff,Nat.reduceEqDiff,Int.reduceEq,ne_eq,zN,reduceCtorEq,bL,bO,bP,zM,zA,zB,aH,zC,zD,if_true,if_false,zE,zF,aE,zG,aM,zH,zI,zJ,zK,aV,aS,aR,aW,aQ,aF,aI,aL,aG,aK,aD,aT,a9,Vm.bind_map,aJ,aU,zL]
 all_goals try simp only [bF]
 all_goals try rfl
theorem yZ {β:Type} (a0:aA) (a1:aB) (p1:Int) (x2:bB) (p8:Int) (k:Ex→St→Option β):cX TT tH ⟨[(2,.ptr 2 0),(3,.ptr 3 0),(5,.d (.int .i64 p1)),(6,.ptr 6 0),(7,.d (.int .i64 p8)),(9,.d (.sl (cM bB.cells a1.Acts))),(10,.d (.int .i64 (a1.Acts.length:Int))),(11,.d (.int .i64 p1))],[(2,some (.box (aC a0.cells))),(3,some (.box (aC a1.cells))),(6,some (.box (aC x2.cells)))]⟩ k = (l9 a0 a1 p1 x2 p8).bind (fun (r:Unit ⊕ Unit)=>Sum.elim (fun (z:Unit)=>k .normal ⟨[(2,.ptr 2 0),(3,.ptr 3 0),(9,.d (.sl (cM bB.cells a1.Acts))),(10,.d (.int .i64 (a1.Acts.length:Int))),(11,.d (.int .i64 p1))],[(2,some (.box (aC a0.cells))),(3,some (.box (aC a1.cells)))]⟩) (fun (z:Unit)=>k .ret ⟨[(4,.d (.int .i64 13))],[]⟩) r):=by
 simp -implicitDefEqProofs (decide:=true) (maxSteps:=2000000) only [tH,l9,↓tD,↓cU,↓vN,↓DN,↓DR,DQ,DP,↓reduceIte,Int.reduceToNat,Nat.reduceBEq,Nat.reduceAdd,Nat.reduceLT,Nat.reduceLeDiff,Nat.reduceEqDiff,Int.reduceEq,ne_eq,zN,reduceCtorEq,bL,bO,bP,zM,zA,zB,aH,zC,zD,if_true,if_false,zE,zF,aE,zG,aM,zH,zI,zJ,zK,aV,aS,aR,aW,aQ,aF,aI,aL,aG,aK,aD,aT,a9,Vm.bind_map,aJ,aU,zL]
 all_goals try simp only [bF]
 all_goals try rfl
theorem G1 (a0:aA) (a1:aB) (p1:Int):cX TT pD ⟨[(2,.ptr 2 0),(3,.ptr 3 0),(9,.d (.sl (cM bB.cells a1.Acts))),(10,.d (.int .i64 (a1.Acts.length:Int))),(11,.d (.int .i64 p1))],[(2,some (.box (aC a0.cells))),(3,some (.box (aC a1.cells)))]⟩ (fun e s=>some (e,s)) = dV (fun (w:Int)=>(⟨[(2,.ptr 2 0),(3,.ptr 3 0),(9,.d (.sl (cM bB.cells a1.Acts))),(10,.d (.int .i64 (a1.Acts.length:Int))),(11,.d (.int .i64 w))],[(2,some (.box (aC a0.cells))),(3,some (.box (aC a1.cells)))]⟩ : St)) (fun (r:Unit ⊕ Int)=>Sum.elim (fun (z:Unit)=>(((.exit 0),⟨[],[]⟩):Ex × St)) (fun (z:Int)=>((.ret,⟨[(4,.d (.int .i64 z))],[]⟩):Ex × St)) r) (iT a0 a1 p1):=by
 simp -implicitDefEqProofs (decide:=true) (maxSteps:=2000000) only [pD,iT,↓tD,↓yZ,↓cU,↓vN,↓DN,↓DR,DQ,DP,↓reduceIte,Int.reduceToNat,Nat.reduceBEq,Nat.reduceAdd,Nat.reduceLT,Nat.reduceLeDiff,Nat.reduceEqDiff,Int.reduceEq,ne_eq,zN,reduceCtorEq,bL,bO,bP,zM,zA,zB,aH,zC,zD,if_true,if_false,zE,zF,aE,zG,aM,zH,zI,zJ,zK,aV,aS,aR,aW,aQ,aF,aI,aL,aG,aK,aD,aT,a9,Vm.bind_map,aJ,aU,zL]
 all_goals try simp only [bF]
 all_goals try rfl
theorem GK {β:Type} (a0:aA) (a1:aB) (p1:Int) (k:Ex→St→Option β):cX TT yT ⟨[(2,.ptr 2 0),(3,.ptr 3 0),(9,.d (.sl (cM bB.cells a1.Acts))),(10,.d (.int .i64 (a1.Acts.length:Int))),(11,.d (.int .i64 p1))],[(2,some (.box (aC a0.cells))),(3,some (.box (aC a1.cells)))]⟩ k = (oR a0 a1 p1).bind (fun (r:Unit ⊕ Int)=>Sum.elim (fun (z:Unit)=>k (.exit 0) ⟨[],[]⟩) (fun (z:Int)=>k .ret ⟨[(4,.d (.int .i64 z))],[]⟩) r):=by
 have hh:=fun (w:Int)=>G1 a0 a1 w
 have h:=fun ho=>cC (T:=TT) (k:=k) (c:=pD) (step:=(fun (w:Int)=>iT a0 a1 w)) _ _ ho hh p1
 refine Eq.trans (h (fun r s e=>by have q:=congrArg Prod.fst e; rcases r with x | x <;> cases q)) ?_
 unfold oR
 exact bQ _ fun x=>by rcases x with x | x <;> rfl
theorem LU (a0:aA) (a1:aB):Vm.call TT 60 [.agg a0.cells,.agg a1.cells] = (rB a0 a1).map fun (r:Int)=>.int .i64 r:=by
 refine (bX (show TT 60 = some (.code ⟨2,75,[.tmp 4],aF3,false,false⟩) from rfl) _ rfl rfl).trans ?_
 show cX TT aF3 ⟨[(0,cW a0.cells),(1,cW a1.cells)],[]⟩ _ = _
 simp -implicitDefEqProofs (decide:=true) (maxSteps:=2000000) only [aF3,rB,↓tD,↓yZ,↓GK,↓cU,↓vN,↓DN,↓DR,DQ,DP,↓reduceIte,Int.reduceToNat,Nat.reduceBEq,Nat.reduceAdd,Nat.reduceLT,Nat.reduceLeDiff,Nat.reduceEqDiff,Int.reduceEq,ne_eq,zN,reduceCtorEq,bL,bO,bP,zM,zA,zB,aH,zC,zD,if_true,if_false,zE,zF,aE,zG,aM,zH,zI,zJ,zK,aV,aS,aR,aW,aQ,aF,aI,aL,aG,aK,aD,aT,a9,Vm.bind_map,aJ,aU,zL]
 all_goals try simp only [bF]
 all_goals try rfl
theorem yD {β:Type} (a0:aA) (a1:aB) (d:Nat) (bl:List (Nat × Option aX)) (fz:List (Nat × Option aX)) (k:V→Option β) (kw:V→List (Nat × Option aX)→Option β):dM TT d bl 60 [.agg a0.cells,.agg a1.cells] fz k kw = (rB a0 a1).bind fun (r:Int)=>k (.d (.int .i64 r)):=by
 have h:=LU a0 a1
 exact bR h (fun _=>rfl) fz
theorem HG (a0:Int):Vm.call TT 102 [.int .i64 a0] = (mB a0).map fun (r:Bool)=>.bool r:=by
 refine (bX (show TT 102 = some (.code ⟨1,6,[.tmp 2],W3,false,false⟩) from rfl) _ rfl rfl).trans ?_
 show cX TT W3 ⟨[(0,.d (.int .i64 a0))],[]⟩ _ = _
 simp -implicitDefEqProofs (decide:=true) (maxSteps:=2000000) only [W3,mB,↓DN,↓DR,DQ,DP,↓reduceIte,Int.reduceToNat,Nat.reduceBEq,Nat.reduceAdd,Nat.reduceLT,Nat.reduceLeDiff,Nat.reduceEqDiff,Int.reduceEq,ne_eq,zN,reduceCtorEq,bL,bO,bP,zM,zA,zB,aH,zC,zD,if_true,if_false,zE,zF,aE,zG,aM,zH,zI,zJ,zK,aV,aS,aR,aW,aQ,aF,aI,aL,aG,aK,aD,aT,a9,Vm.bind_map,aJ,aU,zL]
 all_goals try simp only [bF]
 all_goals try rfl
theorem HA {β:Type} (a0:Int) (d:Nat) (bl:List (Nat × Option aX)) (fz:List (Nat × Option aX)) (k:V→Option β) (kw:V→List (Nat × Option aX)→Option β):dM TT d bl 102 [.int .i64 a0] fz k kw = (mB a0).bind fun (r:Bool)=>k (.d (.bool r)):=by
 have h:=HG a0
 exact bR h (fun _=>rfl) fz
theorem EH (a0:Int) (a1:Int):Vm.call TT 82 [.int .i64 a0,.int .i64 a1] = (iO a0 a1).map fun (r:Int)=>.int .i64 r:=by
 refine (bX (show TT 82 = some (.code ⟨2,20,[.tmp 4],aFa,false,false⟩) from rfl) _ rfl rfl).trans ?_
 show cX TT aFa ⟨[(0,.d (.int .i64 a0)),(1,.d (.int .i64 a1))],[]⟩ _ = _
 simp -implicitDefEqProofs (decide:=true) (maxSteps:=2000000) only [aFa,iO,↓HA,↓DN,↓DR,DQ,DP,↓reduceIte,Int.reduceToNat,Nat.reduceBEq,Nat.reduceAdd,Nat.reduceLT,Nat.reduceLeDiff,Nat.reduceEqDiff,Int.reduceEq,ne_eq,zN,reduceCtorEq,bL,bO,bP,zM,zA,zB,aH,zC,zD,if_true,if_false,zE,zF,aE,zG,aM,zH,zI,zJ,zK,aV,aS,aR,aW,aQ,aF,aI,aL,aG,aK,aD,aT,a9,Vm.bind_map,aJ,aU,zL]
 all_goals try simp only [bF]
 all_goals try rfl
theorem wX {β:Type} (a0:Int) (a1:Int) (d:Nat) (bl:List (Nat × Option aX)) (fz:List (Nat × Option aX)) (k:V→Option β) (kw:V→List (Nat × Option aX)→Option β):dM TT d bl 82 [.int .i64 a0,.int .i64 a1] fz k kw = (iO a0 a1).bind fun (r:Int)=>k (.d (.int .i64 r)):=by
 have h:=EH a0 a1
 exact bR h (fun _=>rfl) fz
theorem G6 (a0:List Int) (p1:Int):cX TT oY ⟨[(3,.d (.int .i64 0)),(6,.d (.sl (cM cI a0))),(7,.d (.int .i64 (a0.length:Int))),(8,.d (.int .i64 p1))],[]⟩ (fun e s=>some (e,s)) = dV (fun (w:Int)=>(⟨[(3,.d (.int .i64 0)),(6,.d (.sl (cM cI a0))),(7,.d (.int .i64 (a0.length:Int))),(8,.d (.int .i64 w))],[]⟩ : St)) (fun (r:Unit ⊕ Int)=>Sum.elim (fun (z:Unit)=>(((.exit 0),⟨[(3,.d (.int .i64 0))],[]⟩):Ex × St)) (fun (z:Int)=>((.ret,⟨[(2,.d (.int .i64 z))],[]⟩):Ex × St)) r) (mE a0 p1):=by
 simp -implicitDefEqProofs (decide:=true) (maxSteps:=2000000) only [oY,mE,↓DN,↓DR,DQ,DP,↓reduceIte,Int.reduceToNat,Nat.reduceBEq,Nat.reduceAdd,Nat.reduceLT,Nat.reduceLeDiff,Nat.reduceEqDiff,Int.reduceEq,ne_eq,zN,reduceCtorEq,bL,bO,bP,zM,zA,zB,aH,zC,zD,if_true,if_false,zE,zF,aE,zG,aM,zH,zI,zJ,zK,aV,aS,aR,aW,aQ,aF,aI,aL,aG,aK,aD,aT,a9,Vm.bind_map,aJ,aU,zL]
 all_goals try simp only [bF]
 all_goals try rfl
theorem G8 {β:Type} (a0:List Int) (p1:Int) (k:Ex→St→Option β):cX TT zO ⟨[(3,.d (.int .i64 0)),(6,.d (.sl (cM cI a0))),(7,.d (.int .i64 (a0.length:Int))),(8,.d (.int .i64 p1))],[]⟩ k = (oQ a0 p1).bind (fun (r:Unit ⊕ Int)=>Sum.elim (fun (z:Unit)=>k (.exit 0) ⟨[(3,.d (.int .i64 0))],[]⟩) (fun (z:Int)=>k .ret ⟨[(2,.d (.int .i64 z))],[]⟩) r):=by
 have hh:=fun (w:Int)=>G6 a0 w
 have h:=fun ho=>cC (T:=TT) (k:=k) (c:=oY) (step:=(fun (w:Int)=>mE a0 w)) _ _ ho hh p1
 refine Eq.trans (h (fun r s e=>by have q:=congrArg Prod.fst e; rcases r with x | x <;> cases q)) ?_
 unfold oQ
 exact bQ _ fun x=>by rcases x with x | x <;> rfl
theorem L6 (a0:List Int):Vm.call TT 81 [.sl (cM cI a0)] = (qW a0).map fun (r:Int)=>.int .i64 r:=by
 refine (bX (show TT 81 = some (.code ⟨1,18,[.tmp 2],aEp,false,false⟩) from rfl) _ rfl rfl).trans ?_
 show cX TT aEp ⟨[(0,.d (.sl (cM cI a0)))],[]⟩ _ = _
 simp -implicitDefEqProofs (decide:=true) (maxSteps:=2000000) only [aEp,qW,↓G8,↓DN,↓DR,DQ,DP,↓reduceIte,Int.reduceToNat,Nat.reduceBEq,Nat.reduceAdd,Nat.reduceLT,Nat.reduceLeDiff,Nat.reduceEqDiff,Int.reduceEq,ne_eq,zN,reduceCtorEq,bL,bO,bP,zM,zA,zB,aH,zC,zD,if_true,if_false,zE,zF,aE,zG,aM,zH,zI,zJ,zK,aV,aS,aR,aW,aQ,aF,aI,aL,aG,aK,aD,aT,a9,Vm.bind_map,aJ,aU,zL]
 all_goals try simp only [bF]
 all_goals try rfl
theorem DZ {β:Type} (a0:List Int) (d:Nat) (bl:List (Nat × Option aX)) (fz:List (Nat × Option aX)) (k:V→Option β) (kw:V→List (Nat × Option aX)→Option β):dM TT d bl 81 [.sl (cM cI a0)] fz k kw = (qW a0).bind fun (r:Int)=>k (.d (.int .i64 r)):=by
 have h:=L6 a0
 exact bR h (fun _=>rfl) fz
theorem FS (a0:aB) (p1:Int):cX TT nY ⟨[(1,.ptr 1 0),(7,.d (.sl (cM bG.cells a0.Facts))),(8,.d (.int .i64 (a0.Facts.length:Int))),(9,.d (.int .i64 p1))],[(1,some (.box (aC a0.cells)))]⟩ (fun e s=>some (e,s)) = dV (fun (w:Int)=>(⟨[(1,.ptr 1 0),(7,.d (.sl (cM bG.cells a0.Facts))),(8,.d (.int .i64 (a0.Facts.length:Int))),(9,.d (.int .i64 w))],[(1,some (.box (aC a0.cells)))]⟩ : St)) (fun (r:Unit ⊕ Int)=>Sum.elim (fun (z:Unit)=>(((.exit 0),⟨[],[]⟩):Ex × St)) (fun (z:Int)=>((.ret,⟨[(2,.d (.int .i64 z))],[]⟩):Ex × St)) r) (gS a0 p1):=by
 simp -implicitDefEqProofs (decide:=true) (maxSteps:=2000000) only [nY,gS,↓cU,↓DZ,↓wX,↓DN,↓DR,DQ,DP,↓reduceIte,Int.reduceToNat,Nat.reduceBEq,Nat.reduceAdd,Nat.reduceLT,Nat.reduceLeDiff,Nat.reduceEqDiff,Int.reduceEq,ne_eq,zN,reduceCtorEq,bL,bO,bP,zM,zA,zB,aH,zC,zD,if_true,if_false,zE,zF,aE,zG,aM,zH,zI,zJ,zK,aV,aS,aR,aW,aQ,aF,aI,aL,aG,aK,aD,aT,a9,Vm.bind_map,aJ,aU,zL]
 all_goals try simp only [bF]
 all_goals try rfl
theorem EP {β:Type} (a0:aB) (p1:Int) (k:Ex→St→Option β):cX TT xB ⟨[(1,.ptr 1 0),(7,.d (.sl (cM bG.cells a0.Facts))),(8,.d (.int .i64 (a0.Facts.length:Int))),(9,.d (.int .i64 p1))],[(1,some (.box (aC a0.cells)))]⟩ k = (nF a0 p1).bind (fun (r:Unit ⊕ Int)=>Sum.elim (fun (z:Unit)=>k (.exit 0) ⟨[],[]⟩) (fun (z:Int)=>k .ret ⟨[(2,.d (.int .i64 z))],[]⟩) r):=by
 have hh:=fun (w:Int)=>FS a0 w
 have h:=fun ho=>cC (T:=TT) (k:=k) (c:=nY) (step:=(fun (w:Int)=>gS a0 w)) _ _ ho hh p1
 refine Eq.trans (h (fun r s e=>by have q:=congrArg Prod.fst e; rcases r with x | x <;> cases q)) ?_
 unfold nF
 exact bQ _ fun x=>by rcases x with x | x <;> rfl
theorem JN (a0:aB):Vm.call TT 61 [.agg a0.cells] = (pB a0).map fun (r:Int)=>.int .i64 r:=by
 refine (bX (show TT 61 = some (.code ⟨1,56,[.tmp 2],aD8,false,false⟩) from rfl) _ rfl rfl).trans ?_
 show cX TT aD8 ⟨[(0,cW a0.cells)],[]⟩ _ = _
 simp -implicitDefEqProofs (decide:=true) (maxSteps:=2000000) only [aD8,pB,↓EP,↓cU,↓DZ,↓wX,↓DN,↓DR,DQ,DP,↓reduceIte,Int.reduceToNat,Nat.reduceBEq,Nat.reduceAdd,Nat.reduceLT,Nat.reduceLeDiff,Nat.reduceEqDiff,Int.reduceEq,ne_eq,zN,reduceCtorEq,bL,bO,bP,zM,zA,zB,aH,zC,zD,if_true,if_false,zE,zF,aE,zG,aM,zH,zI,zJ,zK,aV,aS,aR,aW,aQ,aF,aI,aL,aG,aK,aD,aT,a9,Vm.bind_map,aJ,aU,zL]
 all_goals try simp only [bF]
 all_goals try rfl
theorem wF {β:Type} (a0:aB) (d:Nat) (bl:List (Nat × Option aX)) (fz:List (Nat × Option aX)) (k:V→Option β) (kw:V→List (Nat × Option aX)→Option β):dM TT d bl 61 [.agg a0.cells] fz k kw = (pB a0).bind fun (r:Int)=>k (.d (.int .i64 r)):=by
 have h:=JN a0
 exact bR h (fun _=>rfl) fz
theorem E8 (a0:aA) (a1:aB) (p2:Int):cX TT oA ⟨[(2,.ptr 2 0),(3,.ptr 3 0),(47,.d (.int .i64 (a1.Signs.length:Int))),(48,.d (.int .i64 p2))],[(2,some (.box (aC a0.cells))),(3,some (.box (aC a1.cells)))]⟩ (fun e s=>some (e,s)) = dV (fun (w:Int)=>(⟨[(2,.ptr 2 0),(3,.ptr 3 0),(47,.d (.int .i64 (a1.Signs.length:Int))),(48,.d (.int .i64 w))],[(2,some (.box (aC a0.cells))),(3,some (.box (aC a1.cells)))]⟩ : St)) (fun (r:Unit ⊕ Int)=>Sum.elim (fun (z:Unit)=>(((.exit 0),⟨[(2,.ptr 2 0),(3,.ptr 3 0)],[(2,some (.box (aC a0.cells))),(3,some (.box (aC a1.cells)))]⟩):Ex × St)) (fun (z:Int)=>((.ret,⟨[(4,.d (.int .i64 z))],[]⟩):Ex × St)) r) (gY a0 a1 p2):=by
 simp -implicitDefEqProofs (decide:=true) (maxSteps:=2000000) only [oA,gY,↓sU,↓yF,↓cU,↓yD,↓wF,↓DN,↓DR,DQ,DP,↓reduceIte,Int.reduceToNat,Nat.reduceBEq,Nat.reduceAdd,Nat.reduceLT,Nat.reduceLeDiff,Nat.reduceEqDiff,Int.reduceEq,ne_eq,zN,reduceCtorEq,bL,bO,bP,zM,zA,zB,aH,zC,zD,if_true,if_false,zE,zF,aE,zG,aM,zH,zI,zJ,zK,aV,aS,aR,aW,aQ,aF,aI,aL,aG,aK,aD,aT,a9,Vm.bind_map,aJ,aU,zL]
 all_goals try simp only [bF]
 all_goals try rfl
theorem xD {β:Type} (a0:aA) (a1:aB) (p2:Int) (k:Ex→St→Option β):cX TT xU ⟨[(2,.ptr 2 0),(3,.ptr 3 0),(47,.d (.int .i64 (a1.Signs.length:Int))),(48,.d (.int .i64 p2))],[(2,some (.box (aC a0.cells))),(3,some (.box (aC a1.cells)))]⟩ k = (nD a0 a1 p2).bind (fun (r:Unit ⊕ Int)=>Sum.elim (fun (z:Unit)=>k (.exit 0) ⟨[(2,.ptr 2 0),(3,.ptr 3 0)],[(2,some (.box (aC a0.cells))),(3,some (.box (aC a1.cells)))]⟩) (fun (z:Int)=>k .ret ⟨[(4,.d (.int .i64 z))],[]⟩) r):=by
 have hh:=fun (w:Int)=>E8 a0 a1 w
 have h:=fun ho=>cC (T:=TT) (k:=k) (c:=oA) (step:=(fun (w:Int)=>gY a0 a1 w)) _ _ ho hh p2
 refine Eq.trans (h (fun r s e=>by have q:=congrArg Prod.fst e; rcases r with x | x <;> cases q)) ?_
 unfold nD
 exact bQ _ fun x=>by rcases x with x | x <;> rfl
theorem FR (a0:aA) (a1:aB) (p8:Int) (p9:Int):cX TT n8 ⟨[(2,.ptr 2 0),(3,.ptr 3 0),(8,.d (.int .i64 p8)),(60,.d (.sl (cM aZ.cells a1.Alters))),(61,.d (.int .i64 (a1.Alters.length:Int))),(62,.d (.int .i64 p9))],[(2,some (.box (aC a0.cells))),(3,some (.box (aC a1.cells)))]⟩ (fun e s=>some (e,s)) = dV (fun (w:Int × Int)=>(⟨[(2,.ptr 2 0),(3,.ptr 3 0),(8,.d (.int .i64 w.1)),(60,.d (.sl (cM aZ.cells a1.Alters))),(61,.d (.int .i64 (a1.Alters.length:Int))),(62,.d (.int .i64 w.2))],[(2,some (.box (aC a0.cells))),(3,some (.box (aC a1.cells)))]⟩ : St)) (fun (r:Unit ⊕ Int)=>Sum.elim (fun (z:Unit)=>(((.exit 2),⟨[(2,.ptr 2 0),(3,.ptr 3 0)],[(2,some (.box (aC a0.cells))),(3,some (.box (aC a1.cells)))]⟩):Ex × St)) (fun (z:Int)=>((.ret,⟨[(4,.d (.int .i64 z))],[]⟩):Ex × St)) r) (iC a0 a1 p8 p9):=by
 simp -implicitDefEqProofs (decide:=true) (maxSteps:=2000000) only [n8,iC,↓xD,↓sU,↓yF,↓cU,↓yD,↓wF,↓DN,↓DR,DQ,DP,↓reduceIte,Int.reduceToNat,Nat.reduceBEq,Nat.reduceAdd,Nat.reduceLT,Nat.reduceLeDiff,Nat.reduceEqDiff,Int.reduceEq,ne_eq,zN,reduceCtorEq,bL,bO,bP,zM,zA,zB,aH,zC,zD,if_true,if_false,zE,zF,aE,zG,aM,zH,zI,zJ,zK,aV,aS,aR,aW,aQ,aF,aI,aL,aG,aK,aD,aT,a9,Vm.bind_map,aJ,aU,zL]
 all_goals try simp only [bF]
 all_goals try rfl
theorem E1 {β:Type} (a0:aA) (a1:aB) (p8:Int) (p9:Int) (k:Ex→St→Option β):cX TT xX ⟨[(2,.ptr 2 0),(3,.ptr 3 0),(8,.d (.int .i64 p8)),(60,.d (.sl (cM aZ.cells a1.Alters))),(61,.d (.int .i64 (a1.Alters.length:Int))),(62,.d (.int .i64 p9))],[(2,some (.box (aC a0.cells))),(3,some (.box (aC a1.cells)))]⟩ k = (nE a0 a1 p8 p9).bind (fun (r:Unit ⊕ Int)=>Sum.elim (fun (z:Unit)=>k (.exit 2) ⟨[(2,.ptr 2 0),(3,.ptr 3 0)],[(2,some (.box (aC a0.cells))),(3,some (.box (aC a1.cells)))]⟩) (fun (z:Int)=>k .ret ⟨[(4,.d (.int .i64 z))],[]⟩) r):=by
 have hh:=fun (w:Int × Int)=>FR a0 a1 w.1 w.2
 have h:=fun ho=>cC (T:=TT) (k:=k) (c:=n8) (step:=(fun (w:Int × Int)=>iC a0 a1 w.1 w.2)) _ _ ho hh (p8,p9)
 refine Eq.trans (h (fun r s e=>by have q:=congrArg Prod.fst e; rcases r with x | x <;> cases q)) ?_
 unfold nE
 exact bQ _ fun x=>by rcases x with x | x <;> rfl
theorem K1 (a0:aA) (a1:aB):Vm.call TT 29 [.agg a0.cells,.agg a1.cells] = (k8 a0 a1).map fun (r:Int)=>.int .i64 r:=by
 refine (bX (show TT 29 = some (.code ⟨2,90,[.tmp 4],aFl,false,false⟩) from rfl) _ rfl rfl).trans ?_
 show cX TT aFl ⟨[(0,cW a0.cells),(1,cW a1.cells)],[]⟩ _ = _
 simp -implicitDefEqProofs (decide:=true) (maxSteps:=2000000) only [aFl,k8,↓xD,↓E1,↓sU,↓yF,↓cU,↓yD,↓wF,↓DN,↓DR,DQ,DP,↓reduceIte,Int.reduceToNat,Nat.reduceBEq,Nat.reduceAdd,Nat.reduceLT,Nat.reduceLeDiff,Nat.reduceEqDiff,Int.reduceEq,ne_eq,zN,reduceCtorEq,bL,bO,bP,zM,zA,zB,aH,zC,zD,if_true,if_false,zE,zF,aE,zG,aM,zH,zI,zJ,zK,aV,aS,aR,aW,aQ,aF,aI,aL,aG,aK,aD,aT,a9,Vm.bind_map,aJ,aU,zL]
 all_goals try simp only [bF]
 all_goals try rfl
theorem gF {β:Type} (a0:aA) (a1:aB) (d:Nat) (bl:List (Nat × Option aX)) (fz:List (Nat × Option aX)) (k:V→Option β) (kw:V→List (Nat × Option aX)→Option β):dM TT d bl 29 [.agg a0.cells,.agg a1.cells] fz k kw = (k8 a0 a1).bind fun (r:Int)=>k (.d (.int .i64 r)):=by
 have h:=K1 a0 a1
 exact bR h (fun _=>rfl) fz
theorem uJ (a1:aB) (a2:Int) (r1:Bool) (r4:aB) (p15:Int):cX TT fS ⟨[(2,.d (.int .i64 a2)),(5,.ptr 5 0),(9,.d (.bool r1)),(10,.ptr 10 0),(12,.d (.int .i64 p15))],[(5,some (.box (aC a1.cells))),(10,some (.box (aC r4.cells)))]⟩ (fun e s=>some (e,s)) = dV (fun (w:Int)=>(⟨[(2,.d (.int .i64 a2)),(5,.ptr 5 0),(9,.d (.bool r1)),(10,.ptr 10 0),(12,.d (.int .i64 w))],[(5,some (.box (aC a1.cells))),(10,some (.box (aC r4.cells)))]⟩ : St)) (fun (r:Unit ⊕ Unit)=>Sum.elim (fun (z:Unit)=>(((.exit 0),⟨[(2,.d (.int .i64 a2)),(5,.ptr 5 0),(9,.d (.bool r1)),(10,.ptr 10 0)],[(5,some (.box (aC a1.cells))),(10,some (.box (aC r4.cells)))]⟩):Ex × St)) (fun (z:Unit)=>((.ret,⟨[(8,.d (.bool false))],[]⟩):Ex × St)) r) (cG a1 a2 r1 r4 p15):=by
 simp -implicitDefEqProofs (decide:=true) (maxSteps:=2000000) only [fS,cG,↓dN,↓dT,↓dU,↓kY,↓fM,↓gF,↓DN,↓DR,DQ,DP,↓reduceIte,Int.reduceToNat,Nat.reduceBEq,Nat.reduceAdd,Nat.reduceLT,Nat.reduceLeDiff,Nat.reduceEqDiff,Int.reduceEq,ne_eq,zN,reduceCtorEq,bL,bO,bP,zM,zA,zB,aH,zC,zD,if_true,if_false,zE,zF,aE,zG,aM,zH,zI,zJ,zK,aV,aS,aR,aW,aQ,aF,aI,aL,aG,aK,aD,aT,a9,Vm.bind_map,aJ,aU,zL]
 all_goals try simp only [bF]
 all_goals try rfl
theorem i8 {β:Type} (a1:aB) (a2:Int) (r1:Bool) (r4:aB) (p15:Int) (k:Ex→St→Option β):cX TT mS ⟨[(2,.d (.int .i64 a2)),(5,.ptr 5 0),(9,.d (.bool r1)),(10,.ptr 10 0),(12,.d (.int .i64 p15))],[(5,some (.box (aC a1.cells))),(10,some (.box (aC r4.cells)))]⟩ k = (gL a1 a2 r1 r4 p15).bind (fun (r:Unit ⊕ Unit)=>Sum.elim (fun (z:Unit)=>k (.exit 0) ⟨[(2,.d (.int .i64 a2)),(5,.ptr 5 0),(9,.d (.bool r1)),(10,.ptr 10 0)],[(5,some (.box (aC a1.cells))),(10,some (.box (aC r4.cells)))]⟩) (fun (z:Unit)=>k .ret ⟨[(8,.d (.bool false))],[]⟩) r):=by
 have hh:=fun (w:Int)=>uJ a1 a2 r1 r4 w
 have h:=fun ho=>cC (T:=TT) (k:=k) (c:=fS) (step:=(fun (w:Int)=>cG a1 a2 r1 r4 w)) _ _ ho hh p15
 refine Eq.trans (h (fun r s e=>by have q:=congrArg Prod.fst e; rcases r with x | x <;> cases q)) ?_
 unfold gL
 exact bQ _ fun x=>by rcases x with x | x <;> rfl
theorem uE (a1:aB) (a2:Int) (r1:Bool) (r4:aB) (p22:Int):cX TT fT ⟨[(2,.d (.int .i64 a2)),(5,.ptr 5 0),(9,.d (.bool r1)),(10,.ptr 10 0),(13,.d (.int .i64 p22))],[(5,some (.box (aC a1.cells))),(10,some (.box (aC r4.cells)))]⟩ (fun e s=>some (e,s)) = dV (fun (w:Int)=>(⟨[(2,.d (.int .i64 a2)),(5,.ptr 5 0),(9,.d (.bool r1)),(10,.ptr 10 0),(13,.d (.int .i64 w))],[(5,some (.box (aC a1.cells))),(10,some (.box (aC r4.cells)))]⟩ : St)) (fun (r:Unit ⊕ Unit)=>Sum.elim (fun (z:Unit)=>(((.exit 2),⟨[(2,.d (.int .i64 a2)),(5,.ptr 5 0),(9,.d (.bool r1)),(10,.ptr 10 0)],[(5,some (.box (aC a1.cells))),(10,some (.box (aC r4.cells)))]⟩):Ex × St)) (fun (z:Unit)=>((.ret,⟨[(8,.d (.bool false))],[]⟩):Ex × St)) r) (cF a1 a2 r1 r4 p22):=by
 simp -implicitDefEqProofs (decide:=true) (maxSteps:=2000000) only [fT,cF,↓i8,↓dN,↓dT,↓dU,↓kY,↓fM,↓gF,↓DN,↓DR,DQ,DP,↓reduceIte,Int.reduceToNat,Nat.reduceBEq,Nat.reduceAdd,Nat.reduceLT,Nat.reduceLeDiff,Nat.reduceEqDiff,Int.reduceEq,ne_eq,zN,reduceCtorEq,bL,bO,bP,zM,zA,zB,aH,zC,zD,if_true,if_false,zE,zF,aE,zG,aM,zH,zI,zJ,zK,aV,aS,aR,aW,aQ,aF,aI,aL,aG,aK,aD,aT,a9,Vm.bind_map,aJ,aU,zL]
 all_goals try simp only [bF]
 all_goals try rfl
theorem mO {β:Type} (a1:aB) (a2:Int) (r1:Bool) (r4:aB) (p22:Int) (k:Ex→St→Option β):cX TT mT ⟨[(2,.d (.int .i64 a2)),(5,.ptr 5 0),(9,.d (.bool r1)),(10,.ptr 10 0),(13,.d (.int .i64 p22))],[(5,some (.box (aC a1.cells))),(10,some (.box (aC r4.cells)))]⟩ k = (gM a1 a2 r1 r4 p22).bind (fun (r:Unit ⊕ Unit)=>Sum.elim (fun (z:Unit)=>k (.exit 2) ⟨[(2,.d (.int .i64 a2)),(5,.ptr 5 0),(9,.d (.bool r1)),(10,.ptr 10 0)],[(5,some (.box (aC a1.cells))),(10,some (.box (aC r4.cells)))]⟩) (fun (z:Unit)=>k .ret ⟨[(8,.d (.bool false))],[]⟩) r):=by
 have hh:=fun (w:Int)=>uE a1 a2 r1 r4 w
 have h:=fun ho=>cC (T:=TT) (k:=k) (c:=fT) (step:=(fun (w:Int)=>cF a1 a2 r1 r4 w)) _ _ ho hh p22
 refine Eq.trans (h (fun r s e=>by have q:=congrArg Prod.fst e; rcases r with x | x <;> cases q)) ?_
 unfold gM
 exact bQ _ fun x=>by rcases x with x | x <;> rfl
theorem uG {β:Type} (a1:aB) (a2:Int) (r1:Bool) (r4:aB) (p30:Bool) (k:Ex→St→Option β):cX TT iZ ⟨[(2,.d (.int .i64 a2)),(5,.ptr 5 0),(9,.d (.bool r1)),(10,.ptr 10 0),(14,.d (.bool p30))],[(5,some (.box (aC a1.cells))),(10,some (.box (aC r4.cells)))]⟩ k = (dZ a1 a2 r1 r4 p30).bind (fun (r:Bool)=>k .ret ⟨[(8,.d (.bool r))],[]⟩):=by
 simp -implicitDefEqProofs (decide:=true) (maxSteps:=2000000) only [iZ,dZ,↓i8,↓mO,↓dN,↓dT,↓dU,↓kY,↓fM,↓gF,↓DN,↓DR,DQ,DP,↓reduceIte,Int.reduceToNat,Nat.reduceBEq,Nat.reduceAdd,Nat.reduceLT,Nat.reduceLeDiff,Nat.reduceEqDiff,Int.reduceEq,ne_eq,zN,reduceCtorEq,bL,bO,bP,zM,zA,zB,aH,zC,zD,if_true,if_false,zE,zF,aE,zG,aM,zH,zI,zJ,zK,aV,aS,aR,aW,aQ,aF,aI,aL,aG,aK,aD,aT,a9,Vm.bind_map,aJ,aU,zL]
 all_goals try simp only [bF]
 all_goals try rfl
theorem wA (a0:aA) (a1:aB) (a2:Int) (a3:Int):Vm.call TT 12 [.agg a0.cells,.agg a1.cells,.int .i64 a2,.int .i64 a3] = (gD a0 a1 a2 a3).map fun (r:Bool)=>.bool r:=by
 refine (bX (show TT 12 = some (.code ⟨4,174,[.tmp 8],aGN,false,false⟩) from rfl) _ rfl rfl).trans ?_
 show cX TT aGN ⟨[(0,cW a0.cells),(1,cW a1.cells),(2,.d (.int .i64 a2)),(3,.d (.int .i64 a3))],[]⟩ _ = _
 simp -implicitDefEqProofs (decide:=true) (maxSteps:=2000000) only [aGN,gD,↓i8,↓mO,↓uG,↓dN,↓dT,↓dU,↓kY,↓fM,↓gF,↓DN,↓DR,DQ,DP,↓reduceIte,Int.reduceToNat,Nat.reduceBEq,Nat.reduceAdd,Nat.reduceLT,Nat.reduceLeDiff,Nat.reduceEqDiff,Int.reduceEq,ne_eq,zN,reduceCtorEq,bL,bO,bP,zM,zA,zB,aH,zC,zD,if_true,if_false,zE,zF,aE,zG,aM,zH,zI,zJ,zK,aV,aS,aR,aW,aQ,aF,aI,aL,aG,aK,aD,aT,a9,Vm.bind_map,aJ,aU,zL]
 all_goals try simp only [bF]
 all_goals try rfl
theorem eU {β:Type} (a1:aB) (p9:Int) (r1:Bool) (r5:Int) (x10:bB) (p11:Bool) (k:Ex→St→Option β):cX TT i9 ⟨[(4,.ptr 4 0),(7,.d (.bool r1)),(8,.d (.int .i64 r5)),(10,.d (.bool p11)),(11,.d (.int .i64 a1.Bill.Tenor.Kind)),(12,.d (.int .i64 p9)),(13,.ptr 13 0)],[(4,some (.box (aC a1.cells))),(13,some (.box (aC x10.cells)))]⟩ k = (cE a1 p9 r1 r5 x10 p11).bind (fun (r:Unit ⊕ Unit)=>Sum.elim (fun (z:Unit)=>k .normal ⟨[(4,.ptr 4 0),(7,.d (.bool r1)),(8,.d (.int .i64 r5)),(10,.d (.bool p11)),(11,.d (.int .i64 a1.Bill.Tenor.Kind)),(12,.d (.int .i64 p9))],[(4,some (.box (aC a1.cells)))]⟩) (fun (z:Unit)=>k .ret ⟨[(6,.d (.bool false))],[]⟩) r):=by
 simp -implicitDefEqProofs (decide:=true) (maxSteps:=2000000) only [i9,cE,↓dN,↓dT,↓dU,↓gR,↓fM,↓gF,↓DN,↓DR,DQ,DP,↓reduceIte,Int.reduceToNat,Nat.reduceBEq,Nat.reduceAdd,Nat.reduceLT,Nat.reduceLeDiff,Nat.reduceEqDiff,Int.reduceEq,ne_eq,zN,reduceCtorEq,bL,bO,bP,zM,zA,zB,aH,zC,zD,if_true,if_false,zE,zF,aE,zG,aM,zH,zI,zJ,zK,aV,aS,aR,aW,aQ,aF,aI,aL,aG,aK,aD,aT,a9,Vm.bind_map,aJ,aU,zL]
 all_goals try simp only [bF]
 all_goals try rfl
theorem uD (a1:aB) (r1:Bool) (r5:Int) (p8:Bool) (p9:Int):cX TT fV ⟨[(4,.ptr 4 0),(7,.d (.bool r1)),(8,.d (.int .i64 r5)),(10,.d (.bool p8)),(11,.d (.int .i64 a1.Bill.Tenor.Kind)),(12,.d (.int .i64 p9))],[(4,some (.box (aC a1.cells)))]⟩ (fun e s=>some (e,s)) = dV (fun (w:Bool × Int)=>(⟨[(4,.ptr 4 0),(7,.d (.bool r1)),(8,.d (.int .i64 r5)),(10,.d (.bool w.1)),(11,.d (.int .i64 a1.Bill.Tenor.Kind)),(12,.d (.int .i64 w.2))],[(4,some (.box (aC a1.cells)))]⟩ : St)) (fun (r:Bool ⊕ Unit)=>Sum.elim (fun (z:Bool)=>(((.exit 0),⟨[(4,.ptr 4 0),(7,.d (.bool r1)),(8,.d (.int .i64 r5)),(10,.d (.bool z)),(11,.d (.int .i64 a1.Bill.Tenor.Kind))],[(4,some (.box (aC a1.cells)))]⟩):Ex × St)) (fun (z:Unit)=>((.ret,⟨[(6,.d (.bool false))],[]⟩):Ex × St)) r) (cZ a1 r1 r5 p8 p9):=by
 simp -implicitDefEqProofs (decide:=true) (maxSteps:=2000000) only [fV,cZ,↓eU,↓dN,↓dT,↓dU,↓gR,↓fM,↓gF,↓DN,↓DR,DQ,DP,↓reduceIte,Int.reduceToNat,Nat.reduceBEq,Nat.reduceAdd,Nat.reduceLT,Nat.reduceLeDiff,Nat.reduceEqDiff,Int.reduceEq,ne_eq,zN,reduceCtorEq,bL,bO,bP,zM,zA,zB,aH,zC,zD,if_true,if_false,zE,zF,aE,zG,aM,zH,zI,zJ,zK,aV,aS,aR,aW,aQ,aF,aI,aL,aG,aK,aD,aT,a9,Vm.bind_map,aJ,aU,zL]
 all_goals try simp only [bF]
 all_goals try rfl
theorem fX {β:Type} (a1:aB) (r1:Bool) (r5:Int) (p8:Bool) (p9:Int) (k:Ex→St→Option β):cX TT mP ⟨[(4,.ptr 4 0),(7,.d (.bool r1)),(8,.d (.int .i64 r5)),(10,.d (.bool p8)),(11,.d (.int .i64 a1.Bill.Tenor.Kind)),(12,.d (.int .i64 p9))],[(4,some (.box (aC a1.cells)))]⟩ k = (fG a1 r1 r5 p8 p9).bind (fun (r:Bool ⊕ Unit)=>Sum.elim (fun (z:Bool)=>k (.exit 0) ⟨[(4,.ptr 4 0),(7,.d (.bool r1)),(8,.d (.int .i64 r5)),(10,.d (.bool z)),(11,.d (.int .i64 a1.Bill.Tenor.Kind))],[(4,some (.box (aC a1.cells)))]⟩) (fun (z:Unit)=>k .ret ⟨[(6,.d (.bool false))],[]⟩) r):=by
 have hh:=fun (w:Bool × Int)=>uD a1 r1 r5 w.1 w.2
 have h:=fun ho=>cC (T:=TT) (k:=k) (c:=fV) (step:=(fun (w:Bool × Int)=>cZ a1 r1 r5 w.1 w.2)) _ _ ho hh (p8,p9)
 refine Eq.trans (h (fun r s e=>by have q:=congrArg Prod.fst e; rcases r with x | x <;> cases q)) ?_
 unfold fG
 exact bQ _ fun x=>by rcases x with x | x <;> rfl
theorem i5 {β:Type} (a1:aB) (p35:Int) (r1:Bool) (r5:Int) (p38:Bool) (k:Ex→St→Option β):cX TT i6 ⟨[(4,.ptr 4 0),(7,.d (.bool r1)),(8,.d (.int .i64 r5)),(10,.d (.bool p38)),(11,.d (.int .i64 a1.Bill.Tenor.Kind)),(14,.d (.int .i64 p35))],[(4,some (.box (aC a1.cells)))]⟩ k = (dY a1 p35 r1 r5 p38).bind (fun (r:Unit ⊕ Unit)=>Sum.elim (fun (z:Unit)=>k .normal ⟨[(4,.ptr 4 0),(7,.d (.bool r1)),(8,.d (.int .i64 r5)),(10,.d (.bool p38)),(11,.d (.int .i64 a1.Bill.Tenor.Kind)),(14,.d (.int .i64 p35))],[(4,some (.box (aC a1.cells)))]⟩) (fun (z:Unit)=>k .ret ⟨[(6,.d (.bool false))],[]⟩) r):=by
 simp -implicitDefEqProofs (decide:=true) (maxSteps:=2000000) only [i6,dY,↓eU,↓fX,↓dN,↓dT,↓dU,↓gR,↓fM,↓gF,↓DN,↓DR,DQ,DP,↓reduceIte,Int.reduceToNat,Nat.reduceBEq,Nat.reduceAdd,Nat.reduceLT,Nat.reduceLeDiff,Nat.reduceEqDiff,Int.reduceEq,ne_eq,zN,reduceCtorEq,bL,bO,bP,zM,zA,zB,aH,zC,zD,if_true,if_false,zE,zF,aE,zG,aM,zH,zI,zJ,zK,aV,aS,aR,aW,aQ,aF,aI,aL,aG,aK,aD,aT,a9,Vm.bind_map,aJ,aU,zL]
 all_goals try simp only [bF]
 all_goals try rfl
theorem uA (a1:aB) (r1:Bool) (r5:Int) (p34:Bool) (p35:Int):cX TT fU ⟨[(4,.ptr 4 0),(7,.d (.bool r1)),(8,.d (.int .i64 r5)),(10,.d (.bool p34)),(11,.d (.int .i64 a1.Bill.Tenor.Kind)),(14,.d (.int .i64 p35))],[(4,some (.box (aC a1.cells)))]⟩ (fun e s=>some (e,s)) = dV (fun (w:Bool × Int)=>(⟨[(4,.ptr 4 0),(7,.d (.bool r1)),(8,.d (.int .i64 r5)),(10,.d (.bool w.1)),(11,.d (.int .i64 a1.Bill.Tenor.Kind)),(14,.d (.int .i64 w.2))],[(4,some (.box (aC a1.cells)))]⟩ : St)) (fun (r:Bool ⊕ Unit)=>Sum.elim (fun (z:Bool)=>(((.exit 2),⟨[(7,.d (.bool r1)),(10,.d (.bool z))],[]⟩):Ex × St)) (fun (z:Unit)=>((.ret,⟨[(6,.d (.bool false))],[]⟩):Ex × St)) r) (dC a1 r1 r5 p34 p35):=by
 simp -implicitDefEqProofs (decide:=true) (maxSteps:=2000000) only [fU,dC,↓eU,↓fX,↓i5,↓dN,↓dT,↓dU,↓gR,↓fM,↓gF,↓DN,↓DR,DQ,DP,↓reduceIte,Int.reduceToNat,Nat.reduceBEq,Nat.reduceAdd,Nat.reduceLT,Nat.reduceLeDiff,Nat.reduceEqDiff,Int.reduceEq,ne_eq,zN,reduceCtorEq,bL,bO,bP,zM,zA,zB,aH,zC,zD,if_true,if_false,zE,zF,aE,zG,aM,zH,zI,zJ,zK,aV,aS,aR,aW,aQ,aF,aI,aL,aG,aK,aD,aT,a9,Vm.bind_map,aJ,aU,zL]
 all_goals try simp only [bF]
 all_goals try rfl
theorem mQ {β:Type} (a1:aB) (r1:Bool) (r5:Int) (p34:Bool) (p35:Int) (k:Ex→St→Option β):cX TT mR ⟨[(4,.ptr 4 0),(7,.d (.bool r1)),(8,.d (.int .i64 r5)),(10,.d (.bool p34)),(11,.d (.int .i64 a1.Bill.Tenor.Kind)),(14,.d (.int .i64 p35))],[(4,some (.box (aC a1.cells)))]⟩ k = (fH a1 r1 r5 p34 p35).bind (fun (r:Bool ⊕ Unit)=>Sum.elim (fun (z:Bool)=>k (.exit 2) ⟨[(7,.d (.bool r1)),(10,.d (.bool z))],[]⟩) (fun (z:Unit)=>k .ret ⟨[(6,.d (.bool false))],[]⟩) r):=by
 have hh:=fun (w:Bool × Int)=>uA a1 r1 r5 w.1 w.2
 have h:=fun ho=>cC (T:=TT) (k:=k) (c:=fU) (step:=(fun (w:Bool × Int)=>dC a1 r1 r5 w.1 w.2)) _ _ ho hh (p34,p35)
 refine Eq.trans (h (fun r s e=>by have q:=congrArg Prod.fst e; rcases r with x | x <;> cases q)) ?_
 unfold fH
 exact bQ _ fun x=>by rcases x with x | x <;> rfl
theorem uK {β:Type} (a1:aB) (r1:Bool) (r5:Int) (k:Ex→St→Option β):cX TT i0 ⟨[(4,.ptr 4 0),(7,.d (.bool r1)),(8,.d (.int .i64 r5))],[(4,some (.box (aC a1.cells)))]⟩ k = (dL a1 r1 r5).bind (fun (r:Bool)=>k .ret ⟨[(6,.d (.bool r))],[]⟩):=by
 simp -implicitDefEqProofs (decide:=true) (maxSteps:=2000000) only [i0,dL,↓eU,↓fX,↓i5,↓mQ,↓dN,↓dT,↓dU,↓gR,↓fM,↓gF,↓DN,↓DR,DQ,DP,↓reduceIte,Int.reduceToNat,Nat.reduceBEq,Nat.reduceAdd,Nat.reduceLT,Nat.reduceLeDiff,Nat.reduceEqDiff,Int.reduceEq,ne_eq,zN,reduceCtorEq,bL,bO,bP,zM,zA,zB,aH,zC,zD,if_true,if_false,zE,zF,aE,zG,aM,zH,zI,zJ,zK,aV,aS,aR,aW,aQ,aF,aI,aL,aG,aK,aD,aT,a9,Vm.bind_map,aJ,aU,zL]
 all_goals try simp only [bF]
 all_goals try rfl
theorem wN (a0:aA) (a1:aB) (a2:Int):Vm.call TT 13 [.agg a0.cells,.agg a1.cells,.int .i64 a2] = (gC a0 a1 a2).map fun (r:Bool)=>.bool r:=by
 refine (bX (show TT 13 = some (.code ⟨3,143,[.tmp 6],aEt,false,false⟩) from rfl) _ rfl rfl).trans ?_
 show cX TT aEt ⟨[(0,cW a0.cells),(1,cW a1.cells),(2,.d (.int .i64 a2))],[]⟩ _ = _
 simp -implicitDefEqProofs (decide:=true) (maxSteps:=2000000) only [aEt,gC,↓eU,↓fX,↓i5,↓mQ,↓uK,↓dN,↓dT,↓dU,↓gR,↓fM,↓gF,↓DN,↓DR,DQ,DP,↓reduceIte,Int.reduceToNat,Nat.reduceBEq,Nat.reduceAdd,Nat.reduceLT,Nat.reduceLeDiff,Nat.reduceEqDiff,Int.reduceEq,ne_eq,zN,reduceCtorEq,bL,bO,bP,zM,zA,zB,aH,zC,zD,if_true,if_false,zE,zF,aE,zG,aM,zH,zI,zJ,zK,aV,aS,aR,aW,aQ,aF,aI,aL,aG,aK,aD,aT,a9,Vm.bind_map,aJ,aU,zL]
 all_goals try simp only [bF]
 all_goals try rfl
end Go.Proofs.Ytfhebiceipgdmaa
