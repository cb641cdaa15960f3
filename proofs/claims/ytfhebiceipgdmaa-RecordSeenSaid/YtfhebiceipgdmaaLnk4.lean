/- The functions of the small machine compute the plain definitions. Printed by a program. -/
import Derived.Test.YtfhebiceipgdmaaLnk3
set_option linter.unusedVariables false
set_option linter.unusedSimpArgs false
namespace Go.Proofs.Ytfhebiceipgdmaa
open Vm
open Go.RowKit
set_option maxRecDepth 100000
set_option maxHeartbeats 4000000
attribute [local congr] uO wG uN vX
theorem EX (a0:aA) (r1:(List ByteArray) × (List ByteArray) × (List ByteArray)) (p4:Int):cX TT oD ⟨[(1,.d (.ptr a0.cells 0)),(4,.d (.sl (cM cS r1.2.1))),(5,.d (.sl (cM cS r1.2.2))),(36,.d (.sl (cM bN.cells a0.Groups))),(37,.d (.int .i64 (a0.Groups.length:Int))),(38,.d (.int .i64 p4))],[]⟩ (fun e s=>some (e,s)) = dV (fun (w:Int)=>(⟨[(1,.d (.ptr a0.cells 0)),(4,.d (.sl (cM cS r1.2.1))),(5,.d (.sl (cM cS r1.2.2))),(36,.d (.sl (cM bN.cells a0.Groups))),(37,.d (.int .i64 (a0.Groups.length:Int))),(38,.d (.int .i64 w))],[]⟩ : St)) (fun (r:Unit ⊕ Unit)=>Sum.elim (fun (z:Unit)=>(((.exit 0),⟨[(1,.d (.ptr a0.cells 0)),(4,.d (.sl (cM cS r1.2.1))),(5,.d (.sl (cM cS r1.2.2)))],[]⟩):Ex × St)) (fun (z:Unit)=>((.ret,⟨[(2,.d (.int .i64 1))],[]⟩):Ex × St)) r) (gQ a0 r1 p4):=by
 simp -implicitDefEqProofs (decide:=true) (maxSteps:=2000000) only [oD,gQ,↓fK,↓B7,↓AK,↓yU,↓zW,↓yR,↓yN,↓DT,↓DN,↓DR,DQ,DP,↓reduceIte,Int.reduceToNat,Nat.reduceBEq,Nat.reduceAdd,Nat.reduceLT,Nat.reduceLeDiff,Nat.reduceEqDiff,Int.reduceEq,ne_eq,zN,reduceCtorEq,bL,bO,bP,zM,zA,zB,aH,zC,zD,if_true,if_false,zE,zF,aE,zG,aM,zH,zI,zJ,zK,aV,aS,aR,aW,aQ,aF,aI,aL,aG,aK,aD,aT,a9,Vm.bind_map,aJ,aU,zL]
 all_goals try simp only [bF]
 all_goals try rfl
theorem FN {β:Type} (a0:aA) (r1:(List ByteArray) × (List ByteArray) × (List ByteArray)) (p4:Int) (k:Ex→St→Option β):cX TT xC ⟨[(1,.d (.ptr a0.cells 0)),(4,.d (.sl (cM cS r1.2.1))),(5,.d (.sl (cM cS r1.2.2))),(36,.d (.sl (cM bN.cells a0.Groups))),(37,.d (.int .i64 (a0.Groups.length:Int))),(38,.d (.int .i64 p4))],[]⟩ k = (qH a0 r1 p4).bind (fun (r:Unit ⊕ Unit)=>Sum.elim (fun (z:Unit)=>k (.exit 0) ⟨[(1,.d (.ptr a0.cells 0)),(4,.d (.sl (cM cS r1.2.1))),(5,.d (.sl (cM cS r1.2.2)))],[]⟩) (fun (z:Unit)=>k .ret ⟨[(2,.d (.int .i64 1))],[]⟩) r):=by
 have hh:=fun (w:Int)=>EX a0 r1 w
 have h:=fun ho=>cC (T:=TT) (k:=k) (c:=oD) (step:=(fun (w:Int)=>gQ a0 r1 w)) _ _ ho hh p4
 refine Eq.trans (h (fun r s e=>by have q:=congrArg Prod.fst e; rcases r with x | x <;> cases q)) ?_
 unfold qH
 exact bQ _ fun x=>by rcases x with x | x <;> rfl
theorem JE (a0:aA):Vm.call TT 75 [.agg a0.cells] = (pA a0).map fun (r:Int)=>.int .i64 r:=by
 refine (bX (show TT 75 = some (.code ⟨1,66,[.tmp 2],aGI,false,false⟩) from rfl) _ rfl rfl).trans ?_
 show cX TT aGI ⟨[(0,cW a0.cells)],[]⟩ _ = _
 simp -implicitDefEqProofs (decide:=true) (maxSteps:=2000000) only [aGI,pA,↓FN,↓fK,↓B7,↓AK,↓yU,↓zW,↓yR,↓yN,↓DT,↓DN,↓DR,DQ,DP,↓reduceIte,Int.reduceToNat,Nat.reduceBEq,Nat.reduceAdd,Nat.reduceLT,Nat.reduceLeDiff,Nat.reduceEqDiff,Int.reduceEq,ne_eq,zN,reduceCtorEq,bL,bO,bP,zM,zA,zB,aH,zC,zD,if_true,if_false,zE,zF,aE,zG,aM,zH,zI,zJ,zK,aV,aS,aR,aW,aQ,aF,aI,aL,aG,aK,aD,aT,a9,Vm.bind_map,aJ,aU,zL]
 all_goals try simp only [bF]
 all_goals try rfl
theorem oK {β:Type} (a0:aA) (d:Nat) (bl:List (Nat × Option aX)) (fz:List (Nat × Option aX)) (k:V→Option β) (kw:V→List (Nat × Option aX)→Option β):dM TT d bl 75 [.agg a0.cells] fz k kw = (pA a0).bind fun (r:Int)=>k (.d (.int .i64 r)):=by
 have h:=JE a0
 exact bR h (fun _=>rfl) fz
theorem F5 (a0:Int) (a1:Int):Vm.call TT 76 [.int .i64 a0,.int .i64 a1] = (eH a0 a1).map fun (r:Bool)=>.bool r:=by
 refine (bX (show TT 76 = some (.code ⟨2,12,[.tmp 4],aG1,false,false⟩) from rfl) _ rfl rfl).trans ?_
 show cX TT aG1 ⟨[(0,.d (.int .i64 a0)),(1,.d (.int .i64 a1))],[]⟩ _ = _
 simp -implicitDefEqProofs (decide:=true) (maxSteps:=2000000) only [aG1,eH,↓DN,↓DR,DQ,DP,↓reduceIte,Int.reduceToNat,Nat.reduceBEq,Nat.reduceAdd,Nat.reduceLT,Nat.reduceLeDiff,Nat.reduceEqDiff,Int.reduceEq,ne_eq,zN,reduceCtorEq,bL,bO,bP,zM,zA,zB,aH,zC,zD,if_true,if_false,zE,zF,aE,zG,aM,zH,zI,zJ,zK,aV,aS,aR,aW,aQ,aF,aI,aL,aG,aK,aD,aT,a9,Vm.bind_map,aJ,aU,zL]
 all_goals try simp only [bF]
 all_goals try rfl
theorem lW {β:Type} (a0:Int) (a1:Int) (d:Nat) (bl:List (Nat × Option aX)) (fz:List (Nat × Option aX)) (k:V→Option β) (kw:V→List (Nat × Option aX)→Option β):dM TT d bl 76 [.int .i64 a0,.int .i64 a1] fz k kw = (eH a0 a1).bind fun (r:Bool)=>k (.d (.bool r)):=by
 have h:=F5 a0 a1
 exact bR h (fun _=>rfl) fz
theorem vH {β:Type} (a0:bD) (k:Ex→St→Option β):cX TT pO ⟨[(1,.ptr 1 0),(3,.ptr 3 0),(40,.d (.bool (a0.Tenor.Kind == 3)))],[(1,some (.box (aC a0.cells))),(3,some (.box (aC (bS.cells a0.Tenor))))]⟩ k = (jC a0).bind (fun (r:Unit ⊕ Bool)=>Sum.elim (fun (z:Unit)=>k .normal ⟨[],[]⟩) (fun (z:Bool)=>k .ret ⟨[(2,.d (.bool z))],[]⟩) r):=by
 simp -implicitDefEqProofs (decide:=true) (maxSteps:=2000000) only [pO,jC,↓DN,↓DR,DQ,DP,↓reduceIte,Int.reduceToNat,Nat.reduceBEq,Nat.reduceAdd,Nat.reduceLT,Nat.reduceLeDiff,Nat.reduceEqDiff,Int.reduceEq,ne_eq,zN,reduceCtorEq,bL,bO,bP,zM,zA,zB,aH,zC,zD,if_true,if_false,zE,zF,aE,zG,aM,zH,zI,zJ,zK,aV,aS,aR,aW,aQ,aF,aI,aL,aG,aK,aD,aT,a9,Vm.bind_map,aJ,aU,zL]
 all_goals try simp only [bF]
 all_goals try rfl
theorem C9 {β:Type} (a0:bD) (k:Ex→St→Option β):cX TT pM ⟨[(1,.ptr 1 0),(3,.ptr 3 0),(7,.d (.int .i64 a0.Tenor.Kind))],[(1,some (.box (aC a0.cells))),(3,some (.box (aC (bS.cells a0.Tenor))))]⟩ k = (jL a0).bind (fun (r:Unit ⊕ Bool)=>Sum.elim (fun (z:Unit)=>k .normal ⟨[],[]⟩) (fun (z:Bool)=>k .ret ⟨[(2,.d (.bool z))],[]⟩) r):=by
 simp -implicitDefEqProofs (decide:=true) (maxSteps:=2000000) only [pM,jL,↓vH,↓DN,↓DR,DQ,DP,↓reduceIte,Int.reduceToNat,Nat.reduceBEq,Nat.reduceAdd,Nat.reduceLT,Nat.reduceLeDiff,Nat.reduceEqDiff,Int.reduceEq,ne_eq,zN,reduceCtorEq,bL,bO,bP,zM,zA,zB,aH,zC,zD,if_true,if_false,zE,zF,aE,zG,aM,zH,zI,zJ,zK,aV,aS,aR,aW,aQ,aF,aI,aL,aG,aK,aD,aT,a9,Vm.bind_map,aJ,aU,zL]
 all_goals try simp only [bF]
 all_goals try rfl
theorem GU (a0:bD):Vm.call TT 77 [.agg a0.cells] = (kF a0).map fun (r:Bool)=>.bool r:=by
 refine (bX (show TT 77 = some (.code ⟨1,57,[.tmp 2],aGQ,false,false⟩) from rfl) _ rfl rfl).trans ?_
 show cX TT aGQ ⟨[(0,cW a0.cells)],[]⟩ _ = _
 simp -implicitDefEqProofs (decide:=true) (maxSteps:=2000000) only [aGQ,kF,↓vH,↓C9,↓DN,↓DR,DQ,DP,↓reduceIte,Int.reduceToNat,Nat.reduceBEq,Nat.reduceAdd,Nat.reduceLT,Nat.reduceLeDiff,Nat.reduceEqDiff,Int.reduceEq,ne_eq,zN,reduceCtorEq,bL,bO,bP,zM,zA,zB,aH,zC,zD,if_true,if_false,zE,zF,aE,zG,aM,zH,zI,zJ,zK,aV,aS,aR,aW,aQ,aF,aI,aL,aG,aK,aD,aT,a9,Vm.bind_map,aJ,aU,zL]
 all_goals try simp only [bF]
 all_goals try rfl
theorem mJ {β:Type} (a0:bD) (d:Nat) (bl:List (Nat × Option aX)) (fz:List (Nat × Option aX)) (k:V→Option β) (kw:V→List (Nat × Option aX)→Option β):dM TT d bl 77 [.agg a0.cells] fz k kw = (kF a0).bind fun (r:Bool)=>k (.d (.bool r)):=by
 have h:=GU a0
 exact bR h (fun _=>rfl) fz
theorem D4 (a0:aA) (a1:Int) (a2:Int) (p1:Int):cX TT m4 ⟨[(1,.d (.int .i64 a1)),(2,.d (.int .i64 a2)),(11,.d (.sl (cM bA.cells a0.Usances))),(12,.d (.int .i64 (a0.Usances.length:Int))),(13,.d (.int .i64 p1))],[]⟩ (fun e s=>some (e,s)) = dV (fun (w:Int)=>(⟨[(1,.d (.int .i64 a1)),(2,.d (.int .i64 a2)),(11,.d (.sl (cM bA.cells a0.Usances))),(12,.d (.int .i64 (a0.Usances.length:Int))),(13,.d (.int .i64 w))],[]⟩ : St)) (fun (r:Unit ⊕ Int)=>Sum.elim (fun (z:Unit)=>(((.exit 0),⟨[],[]⟩):Ex × St)) (fun (z:Int)=>((.ret,⟨[(6,.d (.int .i64 z)),(7,.d (.int .i64 0))],[]⟩):Ex × St)) r) (gI a0 a1 a2 p1):=by
 simp -implicitDefEqProofs (decide:=true) (maxSteps:=2000000) only [m4,gI,↓DN,↓DR,DQ,DP,↓reduceIte,Int.reduceToNat,Nat.reduceBEq,Nat.reduceAdd,Nat.reduceLT,Nat.reduceLeDiff,Nat.reduceEqDiff,Int.reduceEq,ne_eq,zN,reduceCtorEq,bL,bO,bP,zM,zA,zB,aH,zC,zD,if_true,if_false,zE,zF,aE,zG,aM,zH,zI,zJ,zK,aV,aS,aR,aW,aQ,aF,aI,aL,aG,aK,aD,aT,a9,Vm.bind_map,aJ,aU,zL]
 all_goals try simp only [bF]
 all_goals try rfl
theorem EL {β:Type} (a0:aA) (a1:Int) (a2:Int) (p1:Int) (k:Ex→St→Option β):cX TT v8 ⟨[(1,.d (.int .i64 a1)),(2,.d (.int .i64 a2)),(11,.d (.sl (cM bA.cells a0.Usances))),(12,.d (.int .i64 (a0.Usances.length:Int))),(13,.d (.int .i64 p1))],[]⟩ k = (o7 a0 a1 a2 p1).bind (fun (r:Unit ⊕ Int)=>Sum.elim (fun (z:Unit)=>k (.exit 0) ⟨[],[]⟩) (fun (z:Int)=>k .ret ⟨[(6,.d (.int .i64 z)),(7,.d (.int .i64 0))],[]⟩) r):=by
 have hh:=fun (w:Int)=>D4 a0 a1 a2 w
 have h:=fun ho=>cC (T:=TT) (k:=k) (c:=m4) (step:=(fun (w:Int)=>gI a0 a1 a2 w)) _ _ ho hh p1
 refine Eq.trans (h (fun r s e=>by have q:=congrArg Prod.fst e; rcases r with x | x <;> cases q)) ?_
 unfold o7
 exact bQ _ fun x=>by rcases x with x | x <;> rfl
theorem H7 (a0:aA) (a1:Int) (a2:Int):Vm.call TT 78 [.agg a0.cells,.int .i64 a1,.int .i64 a2] = (nK a0 a1 a2).map fun (r:Int × Int)=>.tup [.int .i64 r.1,.int .i64 r.2]:=by
 refine (bX (show TT 78 = some (.code ⟨3,30,[.tmp 6,.tmp 7],aFd,false,false⟩) from rfl) _ rfl rfl).trans ?_
 show cX TT aFd ⟨[(0,cW a0.cells),(1,.d (.int .i64 a1)),(2,.d (.int .i64 a2))],[]⟩ _ = _
 simp -implicitDefEqProofs (decide:=true) (maxSteps:=2000000) only [aFd,nK,↓EL,↓DN,↓DR,DQ,DP,↓reduceIte,Int.reduceToNat,Nat.reduceBEq,Nat.reduceAdd,Nat.reduceLT,Nat.reduceLeDiff,Nat.reduceEqDiff,Int.reduceEq,ne_eq,zN,reduceCtorEq,bL,bO,bP,zM,zA,zB,aH,zC,zD,if_true,if_false,zE,zF,aE,zG,aM,zH,zI,zJ,zK,aV,aS,aR,aW,aQ,aF,aI,aL,aG,aK,aD,aT,a9,Vm.bind_map,aJ,aU,zL]
 all_goals try simp only [bF]
 all_goals try rfl
theorem nC {β:Type} (a0:aA) (a1:Int) (a2:Int) (d:Nat) (bl:List (Nat × Option aX)) (fz:List (Nat × Option aX)) (k:V→Option β) (kw:V→List (Nat × Option aX)→Option β):dM TT d bl 78 [.agg a0.cells,.int .i64 a1,.int .i64 a2] fz k kw = (nK a0 a1 a2).bind fun (r:Int × Int)=>k (.tup [.d (.int .i64 r.1),.d (.int .i64 r.2)]):=by
 have h:=H7 a0 a1 a2
 exact bR h (fun _=>rfl) fz
theorem lS {β:Type} (a0:aA) (a1:bD) (k:Ex→St→Option β):cX TT pH ⟨[(2,.ptr 2 0),(3,.ptr 3 0)],[(2,some (.box (aC a0.cells))),(3,some (.box (aC a1.cells)))]⟩ k = (lB a0 a1).bind (fun (r:Unit ⊕ Unit)=>Sum.elim (fun (z:Unit)=>k .normal ⟨[(2,.ptr 2 0),(3,.ptr 3 0)],[(2,some (.box (aC a0.cells))),(3,some (.box (aC a1.cells)))]⟩) (fun (z:Unit)=>k .ret ⟨[(4,.d (.int .i64 2))],[]⟩) r):=by
 simp -implicitDefEqProofs (decide:=true) (maxSteps:=2000000) only [pH,lB,↓oK,↓lW,↓mJ,↓nC,↓DN,↓DR,DQ,DP,↓reduceIte,Int.reduceToNat,Nat.reduceBEq,Nat.reduceAdd,Nat.reduceLT,Nat.reduceLeDiff,Nat.reduceEqDiff,Int.reduceEq,ne_eq,zN,reduceCtorEq,bL,bO,bP,zM,zA,zB,aH,zC,zD,if_true,if_false,zE,zF,aE,zG,aM,zH,zI,zJ,zK,aV,aS,aR,aW,aQ,aF,aI,aL,aG,aK,aD,aT,a9,Vm.bind_map,aJ,aU,zL]
 all_goals try simp only [bF]
 all_goals try rfl
theorem pG {β:Type} (a0:aA) (a1:bD) (k:Ex→St→Option β):cX TT pK ⟨[(2,.ptr 2 0),(3,.ptr 3 0)],[(2,some (.box (aC a0.cells))),(3,some (.box (aC a1.cells)))]⟩ k = (kV a0 a1).bind (fun (r:Unit ⊕ Int)=>Sum.elim (fun (z:Unit)=>k .normal ⟨[(2,.ptr 2 0),(3,.ptr 3 0)],[(2,some (.box (aC a0.cells))),(3,some (.box (aC a1.cells)))]⟩) (fun (z:Int)=>k .ret ⟨[(4,.d (.int .i64 z))],[]⟩) r):=by
 simp -implicitDefEqProofs (decide:=true) (maxSteps:=2000000) only [pK,kV,↓lS,↓oK,↓lW,↓mJ,↓nC,↓DN,↓DR,DQ,DP,↓reduceIte,Int.reduceToNat,Nat.reduceBEq,Nat.reduceAdd,Nat.reduceLT,Nat.reduceLeDiff,Nat.reduceEqDiff,Int.reduceEq,ne_eq,zN,reduceCtorEq,bL,bO,bP,zM,zA,zB,aH,zC,zD,if_true,if_false,zE,zF,aE,zG,aM,zH,zI,zJ,zK,aV,aS,aR,aW,aQ,aF,aI,aL,aG,aK,aD,aT,a9,Vm.bind_map,aJ,aU,zL]
 all_goals try simp only [bF]
 all_goals try rfl
theorem vD {β:Type} (a0:aA) (a1:bD) (k:Ex→St→Option β):cX TT pF ⟨[(2,.ptr 2 0),(3,.ptr 3 0)],[(2,some (.box (aC a0.cells))),(3,some (.box (aC a1.cells)))]⟩ k = (hY a0 a1).bind (fun (r:Unit ⊕ Int)=>Sum.elim (fun (z:Unit)=>k .normal ⟨[(2,.ptr 2 0),(3,.ptr 3 0)],[(2,some (.box (aC a0.cells))),(3,some (.box (aC a1.cells)))]⟩) (fun (z:Int)=>k .ret ⟨[(4,.d (.int .i64 z))],[]⟩) r):=by
 simp -implicitDefEqProofs (decide:=true) (maxSteps:=2000000) only [pF,hY,↓lS,↓pG,↓oK,↓lW,↓mJ,↓nC,↓DN,↓DR,DQ,DP,↓reduceIte,Int.reduceToNat,Nat.reduceBEq,Nat.reduceAdd,Nat.reduceLT,Nat.reduceLeDiff,Nat.reduceEqDiff,Int.reduceEq,ne_eq,zN,reduceCtorEq,bL,bO,bP,zM,zA,zB,aH,zC,zD,if_true,if_false,zE,zF,aE,zG,aM,zH,zI,zJ,zK,aV,aS,aR,aW,aQ,aF,aI,aL,aG,aK,aD,aT,a9,Vm.bind_map,aJ,aU,zL]
 all_goals try simp only [bF]
 all_goals try rfl
theorem DA {β:Type} (a0:aA) (a1:bD) (p7:Bool) (k:Ex→St→Option β):cX TT pJ ⟨[(2,.ptr 2 0),(3,.ptr 3 0),(7,.d (.int .i64 (a0.Cities.length:Int))),(8,.d (.bool p7))],[(2,some (.box (aC a0.cells))),(3,some (.box (aC a1.cells)))]⟩ k = (cV a0 a1 p7).bind (fun (r:Int)=>k .ret ⟨[(4,.d (.int .i64 r))],[]⟩):=by
 simp -implicitDefEqProofs (decide:=true) (maxSteps:=2000000) only [pJ,cV,↓lS,↓pG,↓vD,↓oK,↓lW,↓mJ,↓nC,↓DN,↓DR,DQ,DP,↓reduceIte,Int.reduceToNat,Nat.reduceBEq,Nat.reduceAdd,Nat.reduceLT,Nat.reduceLeDiff,Nat.reduceEqDiff,Int.reduceEq,ne_eq,zN,reduceCtorEq,bL,bO,bP,zM,zA,zB,aH,zC,zD,if_true,if_false,zE,zF,aE,zG,aM,zH,zI,zJ,zK,aV,aS,aR,aW,aQ,aF,aI,aL,aG,aK,aD,aT,a9,Vm.bind_map,aJ,aU,zL]
 all_goals try simp only [bF]
 all_goals try rfl
theorem F8 (a0:aA) (a1:bD):Vm.call TT 57 [.agg a0.cells,.agg a1.cells] = (gB a0 a1).map fun (r:Int)=>.int .i64 r:=by
 refine (bX (show TT 57 = some (.code ⟨2,157,[.tmp 4],aFG,false,false⟩) from rfl) _ rfl rfl).trans ?_
 show cX TT aFG ⟨[(0,cW a0.cells),(1,cW a1.cells)],[]⟩ _ = _
 simp -implicitDefEqProofs (decide:=true) (maxSteps:=2000000) only [aFG,gB,↓lS,↓pG,↓vD,↓DA,↓oK,↓lW,↓mJ,↓nC,↓DN,↓DR,DQ,DP,↓reduceIte,Int.reduceToNat,Nat.reduceBEq,Nat.reduceAdd,Nat.reduceLT,Nat.reduceLeDiff,Nat.reduceEqDiff,Int.reduceEq,ne_eq,zN,reduceCtorEq,bL,bO,bP,zM,zA,zB,aH,zC,zD,if_true,if_false,zE,zF,aE,zG,aM,zH,zI,zJ,zK,aV,aS,aR,aW,aQ,aF,aI,aL,aG,aK,aD,aT,a9,Vm.bind_map,aJ,aU,zL]
 all_goals try simp only [bF]
 all_goals try rfl
theorem sU {β:Type} (a0:aA) (a1:bD) (d:Nat) (bl:List (Nat × Option aX)) (fz:List (Nat × Option aX)) (k:V→Option β) (kw:V→List (Nat × Option aX)→Option β):dM TT d bl 57 [.agg a0.cells,.agg a1.cells] fz k kw = (gB a0 a1).bind fun (r:Int)=>k (.d (.int .i64 r)):=by
 have h:=F8 a0 a1
 exact bR h (fun _=>rfl) fz
theorem PF (a0:Int) (a1:Int) (a2:Int):Vm.call TT 59 [.int .i64 a0,.int .i64 a1,.int .i64 a2] = (cR a0 a1 a2).map fun (r:Bool)=>.bool r:=by
 refine (bX (show TT 59 = some (.code ⟨3,15,[.tmp 6],aF9,false,false⟩) from rfl) _ rfl rfl).trans ?_
 show cX TT aF9 ⟨[(0,.d (.int .i64 a0)),(1,.d (.int .i64 a1)),(2,.d (.int .i64 a2))],[]⟩ _ = _
 simp -implicitDefEqProofs (decide:=true) (maxSteps:=2000000) only [aF9,cR,↓DN,↓DR,DQ,DP,↓reduceIte,Int.reduceToNat,Nat.reduceBEq,Nat.reduceAdd,Nat.reduceLT,Nat.reduceLeDiff,Nat.reduceEqDiff,Int.reduceEq,ne_eq,zN,reduceCtorEq,bL,bO,bP,zM,zA,zB,aH,zC,zD,if_true,if_false,zE,zF,aE,zG,aM,zH,zI,zJ,zK,aV,aS,aR,aW,aQ,aF,aI,aL,aG,aK,aD,aT,a9,Vm.bind_map,aJ,aU,zL]
 all_goals try simp only [bF]
 all_goals try rfl
theorem cU {β:Type} (a0:Int) (a1:Int) (a2:Int) (d:Nat) (bl:List (Nat × Option aX)) (fz:List (Nat × Option aX)) (k:V→Option β) (kw:V→List (Nat × Option aX)→Option β):dM TT d bl 59 [.int .i64 a0,.int .i64 a1,.int .i64 a2] fz k kw = (cR a0 a1 a2).bind fun (r:Bool)=>k (.d (.bool r)):=by
 have h:=PF a0 a1 a2
 exact bR h (fun _=>rfl) fz
theorem H8 (a0:aB) (a1:Int) (a2:Int):Vm.call TT 66 [.agg a0.cells,.int .i64 a1,.int .i64 a2] = (lE a0 a1 a2).map fun (r:Bool)=>.bool r:=by
 refine (bX (show TT 66 = some (.code ⟨3,19,[.tmp 6],aEX,false,false⟩) from rfl) _ rfl rfl).trans ?_
 show cX TT aEX ⟨[(0,cW a0.cells),(1,.d (.int .i64 a1)),(2,.d (.int .i64 a2))],[]⟩ _ = _
 simp -implicitDefEqProofs (decide:=true) (maxSteps:=2000000) only [aEX,lE,↓DN,↓DR,DQ,DP,↓reduceIte,Int.reduceToNat,Nat.reduceBEq,Nat.reduceAdd,Nat.reduceLT,Nat.reduceLeDiff,Nat.reduceEqDiff,Int.reduceEq,ne_eq,zN,reduceCtorEq,bL,bO,bP,zM,zA,zB,aH,zC,zD,if_true,if_false,zE,zF,aE,zG,aM,zH,zI,zJ,zK,aV,aS,aR,aW,aQ,aF,aI,aL,aG,aK,aD,aT,a9,Vm.bind_map,aJ,aU,zL]
 all_goals try simp only [bF]
 all_goals try rfl
theorem iH {β:Type} (a0:aB) (a1:Int) (a2:Int) (d:Nat) (bl:List (Nat × Option aX)) (fz:List (Nat × Option aX)) (k:V→Option β) (kw:V→List (Nat × Option aX)→Option β):dM TT d bl 66 [.agg a0.cells,.int .i64 a1,.int .i64 a2] fz k kw = (lE a0 a1 a2).bind fun (r:Bool)=>k (.d (.bool r)):=by
 have h:=H8 a0 a1 a2
 exact bR h (fun _=>rfl) fz
theorem wQ (a0:List Int) (a1:Int) (p1:Int):cX TT gO ⟨[(0,.d (.sl (cM cI a0))),(1,.d (.int .i64 a1)),(7,.d (.int .i64 (a0.length:Int))),(8,.d (.int .i64 p1))],[]⟩ (fun e s=>some (e,s)) = dV (fun (w:Int)=>(⟨[(0,.d (.sl (cM cI a0))),(1,.d (.int .i64 a1)),(7,.d (.int .i64 (a0.length:Int))),(8,.d (.int .i64 w))],[]⟩ : St)) (fun (r:Unit ⊕ Int)=>Sum.elim (fun (z:Unit)=>(((.exit 0),⟨[],[]⟩):Ex × St)) (fun (z:Int)=>((.ret,⟨[(4,.d (.int .i64 z))],[]⟩):Ex × St)) r) (eJ a0 a1 p1):=by
 simp -implicitDefEqProofs (decide:=true) (maxSteps:=2000000) only [gO,eJ,↓DN,↓DR,DQ,DP,↓reduceIte,Int.reduceToNat,Nat.reduceBEq,Nat.reduceAdd,Nat.reduceLT,Nat.reduceLeDiff,Nat.reduceEqDiff,Int.reduceEq,ne_eq,zN,reduceCtorEq,bL,bO,bP,zM,zA,zB,aH,zC,zD,if_true,if_false,zE,zF,aE,zG,aM,zH,zI,zJ,zK,aV,aS,aR,aW,aQ,aF,aI,aL,aG,aK,aD,aT,a9,Vm.bind_map,aJ,aU,zL]
 all_goals try simp only [bF]
 all_goals try rfl
theorem wJ {β:Type} (a0:List Int) (a1:Int) (p1:Int) (k:Ex→St→Option β):cX TT oG ⟨[(0,.d (.sl (cM cI a0))),(1,.d (.int .i64 a1)),(7,.d (.int .i64 (a0.length:Int))),(8,.d (.int .i64 p1))],[]⟩ k = (gE a0 a1 p1).bind (fun (r:Unit ⊕ Int)=>Sum.elim (fun (z:Unit)=>k (.exit 0) ⟨[],[]⟩) (fun (z:Int)=>k .ret ⟨[(4,.d (.int .i64 z))],[]⟩) r):=by
 have hh:=fun (w:Int)=>wQ a0 a1 w
 have h:=fun ho=>cC (T:=TT) (k:=k) (c:=gO) (step:=(fun (w:Int)=>eJ a0 a1 w)) _ _ ho hh p1
 refine Eq.trans (h (fun r s e=>by have q:=congrArg Prod.fst e; rcases r with x | x <;> cases q)) ?_
 unfold gE
 exact bQ _ fun x=>by rcases x with x | x <;> rfl
theorem yY (a0:List Int) (a1:Int):Vm.call TT 117 [.sl (cM cI a0),.int .i64 a1] = (iL a0 a1).map fun (r:Int)=>.int .i64 r:=by
 refine (bX (show TT 117 = some (.code ⟨2,19,[.tmp 4],VY,false,false⟩) from rfl) _ rfl rfl).trans ?_
 show cX TT VY ⟨[(0,.d (.sl (cM cI a0))),(1,.d (.int .i64 a1))],[]⟩ _ = _
 simp -implicitDefEqProofs (decide:=true) (maxSteps:=2000000) only [VY,iL,↓wJ,↓DN,↓DR,DQ,DP,↓reduceIte,Int.reduceToNat,Nat.reduceBEq,Nat.reduceAdd,Nat.reduceLT,Nat.reduceLeDiff,Nat.reduceEqDiff,Int.reduceEq,ne_eq,zN,reduceCtorEq,bL,bO,bP,zM,zA,zB,aH,zC,zD,if_true,if_false,zE,zF,aE,zG,aM,zH,zI,zJ,zK,aV,aS,aR,aW,aQ,aF,aI,aL,aG,aK,aD,aT,a9,Vm.bind_map,aJ,aU,zL]
 all_goals try simp only [bF]
 all_goals try rfl
theorem yV {β:Type} (a0:List Int) (a1:Int) (d:Nat) (bl:List (Nat × Option aX)) (fz:List (Nat × Option aX)) (k:V→Option β) (kw:V→List (Nat × Option aX)→Option β):dM TT d bl 117 [.sl (cM cI a0),.int .i64 a1] fz k kw = (iL a0 a1).bind fun (r:Int)=>k (.d (.int .i64 r)):=by
 have h:=yY a0 a1
 exact bR h (fun _=>rfl) fz
theorem v9 (a0:List Int) (a1:Int):Vm.call TT 111 [.sl (cM cI a0),.int .i64 a1] = (fC a0 a1).map fun (r:Bool)=>.bool r:=by
 refine (bX (show TT 111 = some (.code ⟨2,9,[.tmp 4],WQ,false,false⟩) from rfl) _ rfl rfl).trans ?_
 show cX TT WQ ⟨[(0,.d (.sl (cM cI a0))),(1,.d (.int .i64 a1))],[]⟩ _ = _
 simp -implicitDefEqProofs (decide:=true) (maxSteps:=2000000) only [WQ,fC,↓yV,↓DN,↓DR,DQ,DP,↓reduceIte,Int.reduceToNat,Nat.reduceBEq,Nat.reduceAdd,Nat.reduceLT,Nat.reduceLeDiff,Nat.reduceEqDiff,Int.reduceEq,ne_eq,zN,reduceCtorEq,bL,bO,bP,zM,zA,zB,aH,zC,zD,if_true,if_false,zE,zF,aE,zG,aM,zH,zI,zJ,zK,aV,aS,aR,aW,aQ,aF,aI,aL,aG,aK,aD,aT,a9,Vm.bind_map,aJ,aU,zL]
 all_goals try simp only [bF]
 all_goals try rfl
theorem wD {β:Type} (a0:List Int) (a1:Int) (d:Nat) (bl:List (Nat × Option aX)) (fz:List (Nat × Option aX)) (k:V→Option β) (kw:V→List (Nat × Option aX)→Option β):dM TT d bl 111 [.sl (cM cI a0),.int .i64 a1] fz k kw = (fC a0 a1).bind fun (r:Bool)=>k (.d (.bool r)):=by
 have h:=v9 a0 a1
 exact bR h (fun _=>rfl) fz
theorem JL (a0:aB) (a1:Int) (a2:List Int):Vm.call TT 101 [.agg a0.cells,.int .i64 a1,.sl (cM cI a2)] = (nA a0 a1 a2).map fun (r:Bool)=>.bool r:=by
 refine (bX (show TT 101 = some (.code ⟨3,39,[.tmp 6],WH,false,false⟩) from rfl) _ rfl rfl).trans ?_
 show cX TT WH ⟨[(0,cW a0.cells),(1,.d (.int .i64 a1)),(2,.d (.sl (cM cI a2)))],[]⟩ _ = _
 simp -implicitDefEqProofs (decide:=true) (maxSteps:=2000000) only [WH,nA,↓cU,↓iH,↓wD,↓DN,↓DR,DQ,DP,↓reduceIte,Int.reduceToNat,Nat.reduceBEq,Nat.reduceAdd,Nat.reduceLT,Nat.reduceLeDiff,Nat.reduceEqDiff,Int.reduceEq,ne_eq,zN,reduceCtorEq,bL,bO,bP,zM,zA,zB,aH,zC,zD,if_true,if_false,zE,zF,aE,zG,aM,zH,zI,zJ,zK,aV,aS,aR,aW,aQ,aF,aI,aL,aG,aK,aD,aT,a9,Vm.bind_map,aJ,aU,zL]
 all_goals try simp only [bF]
 all_goals try rfl
theorem oT {β:Type} (a0:aB) (a1:Int) (a2:List Int) (d:Nat) (bl:List (Nat × Option aX)) (fz:List (Nat × Option aX)) (k:V→Option β) (kw:V→List (Nat × Option aX)→Option β):dM TT d bl 101 [.agg a0.cells,.int .i64 a1,.sl (cM cI a2)] fz k kw = (nA a0 a1 a2).bind fun (r:Bool)=>k (.d (.bool r)):=by
 have h:=JL a0 a1 a2
 exact bR h (fun _=>rfl) fz
theorem oV {β:Type} (a0:aA) (a1:aB) (a2:Int) (p2:Bool) (x1:aO) (p4:Bool) (k:Ex→St→Option β):cX TT s5 ⟨[(2,.d (.int .i64 a2)),(3,.ptr 3 0),(4,.ptr 4 0),(7,.ptr 7 0),(8,.ptr 8 0),(9,.d (.bool p2)),(10,.d (.bool p4))],[(3,some (.box (aC a0.cells))),(4,some (.box (aC a1.cells))),(7,some (.box (aC x1.cells))),(8,some (.box (aC (bD.cells a1.Bill))))]⟩ k = (mF a0 a1 a2 p2 x1 p4).bind (fun (r:Bool)=>k .ret ⟨[(6,.d (.bool r))],[]⟩):=by
 simp -implicitDefEqProofs (decide:=true) (maxSteps:=2000000) only [s5,mF,↓cU,↓oT,↓DN,↓DR,DQ,DP,↓reduceIte,Int.reduceToNat,Nat.reduceBEq,Nat.reduceAdd,Nat.reduceLT,Nat.reduceLeDiff,Nat.reduceEqDiff,Int.reduceEq,ne_eq,zN,reduceCtorEq,bL,bO,bP,zM,zA,zB,aH,zC,zD,if_true,if_false,zE,zF,aE,zG,aM,zH,zI,zJ,zK,aV,aS,aR,aW,aQ,aF,aI,aL,aG,aK,aD,aT,a9,Vm.bind_map,aJ,aU,zL]
 all_goals try simp only [bF]
 all_goals try rfl
theorem tM {β:Type} (a0:aA) (a1:aB) (a2:Int) (x1:aO) (p2:Bool) (k:Ex→St→Option β):cX TT sT ⟨[(2,.d (.int .i64 a2)),(3,.ptr 3 0),(4,.ptr 4 0),(7,.ptr 7 0),(8,.ptr 8 0),(9,.d (.bool p2))],[(3,some (.box (aC a0.cells))),(4,some (.box (aC a1.cells))),(7,some (.box (aC x1.cells))),(8,some (.box (aC (bD.cells a1.Bill))))]⟩ k = (lZ a0 a1 a2 x1 p2).bind (fun (r:Bool)=>k .ret ⟨[(6,.d (.bool r))],[]⟩):=by
 simp -implicitDefEqProofs (decide:=true) (maxSteps:=2000000) only [sT,lZ,↓oV,↓cU,↓oT,↓DN,↓DR,DQ,DP,↓reduceIte,Int.reduceToNat,Nat.reduceBEq,Nat.reduceAdd,Nat.reduceLT,Nat.reduceLeDiff,Nat.reduceEqDiff,Int.reduceEq,ne_eq,zN,reduceCtorEq,bL,bO,bP,zM,zA,zB,aH,zC,zD,if_true,if_false,zE,zF,aE,zG,aM,zH,zI,zJ,zK,aV,aS,aR,aW,aQ,aF,aI,aL,aG,aK,aD,aT,a9,Vm.bind_map,aJ,aU,zL]
 all_goals try simp only [bF]
 all_goals try rfl
theorem yO {β:Type} (a0:aA) (a1:aB) (a2:Int) (x1:aO) (k:Ex→St→Option β):cX TT tC ⟨[(2,.d (.int .i64 a2)),(3,.ptr 3 0),(4,.ptr 4 0),(7,.ptr 7 0),(8,.ptr 8 0)],[(3,some (.box (aC a0.cells))),(4,some (.box (aC a1.cells))),(7,some (.box (aC x1.cells))),(8,some (.box (aC (bD.cells a1.Bill))))]⟩ k = (kE a0 a1 a2 x1).bind (fun (r:Bool)=>k .ret ⟨[(6,.d (.bool r))],[]⟩):=by
 simp -implicitDefEqProofs (decide:=true) (maxSteps:=2000000) only [tC,kE,↓oV,↓tM,↓cU,↓oT,↓DN,↓DR,DQ,DP,↓reduceIte,Int.reduceToNat,Nat.reduceBEq,Nat.reduceAdd,Nat.reduceLT,Nat.reduceLeDiff,Nat.reduceEqDiff,Int.reduceEq,ne_eq,zN,reduceCtorEq,bL,bO,bP,zM,zA,zB,aH,zC,zD,if_true,if_false,zE,zF,aE,zG,aM,zH,zI,zJ,zK,aV,aS,aR,aW,aQ,aF,aI,aL,aG,aK,aD,aT,a9,Vm.bind_map,aJ,aU,zL]
 all_goals try simp only [bF]
 all_goals try rfl
theorem GO {β:Type} (a0:aA) (a1:aB) (a2:Int) (x1:aO) (k:Ex→St→Option β):cX TT tO ⟨[(2,.d (.int .i64 a2)),(3,.ptr 3 0),(4,.ptr 4 0),(7,.ptr 7 0),(8,.ptr 8 0)],[(3,some (.box (aC a0.cells))),(4,some (.box (aC a1.cells))),(7,some (.box (aC x1.cells))),(8,some (.box (aC (bD.cells a1.Bill))))]⟩ k = (mC a0 a1 a2 x1).bind (fun (r:Bool)=>k .ret ⟨[(6,.d (.bool r))],[]⟩):=by
 simp -implicitDefEqProofs (decide:=true) (maxSteps:=2000000) only [tO,mC,↓oV,↓tM,↓yO,↓cU,↓oT,↓DN,↓DR,DQ,DP,↓reduceIte,Int.reduceToNat,Nat.reduceBEq,Nat.reduceAdd,Nat.reduceLT,Nat.reduceLeDiff,Nat.reduceEqDiff,Int.reduceEq,ne_eq,zN,reduceCtorEq,bL,bO,bP,zM,zA,zB,aH,zC,zD,if_true,if_false,zE,zF,aE,zG,aM,zH,zI,zJ,zK,aV,aS,aR,aW,aQ,aF,aI,aL,aG,aK,aD,aT,a9,Vm.bind_map,aJ,aU,zL]
 all_goals try simp only [bF]
 all_goals try rfl
theorem LK (a0:aA) (a1:aB) (a2:Int):Vm.call TT 79 [.agg a0.cells,.agg a1.cells,.int .i64 a2] = (oO a0 a1 a2).map fun (r:Bool)=>.bool r:=by
 refine (bX (show TT 79 = some (.code ⟨3,165,[.tmp 6],aEY,false,false⟩) from rfl) _ rfl rfl).trans ?_
 show cX TT aEY ⟨[(0,cW a0.cells),(1,cW a1.cells),(2,.d (.int .i64 a2))],[]⟩ _ = _
 simp -implicitDefEqProofs (decide:=true) (maxSteps:=2000000) only [aEY,oO,↓oV,↓tM,↓yO,↓GO,↓cU,↓oT,↓DN,↓DR,DQ,DP,↓reduceIte,Int.reduceToNat,Nat.reduceBEq,Nat.reduceAdd,Nat.reduceLT,Nat.reduceLeDiff,Nat.reduceEqDiff,Int.reduceEq,ne_eq,zN,reduceCtorEq,bL,bO,bP,zM,zA,zB,aH,zC,zD,if_true,if_false,zE,zF,aE,zG,aM,zH,zI,zJ,zK,aV,aS,aR,aW,aQ,aF,aI,aL,aG,aK,aD,aT,a9,Vm.bind_map,aJ,aU,zL]
 all_goals try simp only [bF]
 all_goals try rfl
theorem DO {β:Type} (a0:aA) (a1:aB) (a2:Int) (d:Nat) (bl:List (Nat × Option aX)) (fz:List (Nat × Option aX)) (k:V→Option β) (kw:V→List (Nat × Option aX)→Option β):dM TT d bl 79 [.agg a0.cells,.agg a1.cells,.int .i64 a2] fz k kw = (oO a0 a1 a2).bind fun (r:Bool)=>k (.d (.bool r)):=by
 have h:=LK a0 a1 a2
 exact bR h (fun _=>rfl) fz
theorem F9 (a0:aA) (a1:aB) (a2:Int) (x1:aO) (p5:Int) (p6:Bool) (p7:Int):cX TT oW ⟨[(2,.d (.int .i64 a2)),(3,.ptr 3 0),(4,.ptr 4 0),(7,.ptr 7 0),(8,.d (.int .i64 p5)),(9,.d (.bool p6)),(49,.d (.sl (cM aO.cells (dB a1.Signs 0 a2)))),(50,.d (.int .i64 ((dB a1.Signs 0 a2).length:Int))),(51,.d (.int .i64 p7))],[(3,some (.box (aC a0.cells))),(4,some (.box (aC a1.cells))),(7,some (.box (aC x1.cells)))]⟩ (fun e s=>some (e,s)) = dV (fun (w:Int × Bool × Int)=>(⟨[(2,.d (.int .i64 a2)),(3,.ptr 3 0),(4,.ptr 4 0),(7,.ptr 7 0),(8,.d (.int .i64 w.1)),(9,.d (.bool w.2.1)),(49,.d (.sl (cM aO.cells (dB a1.Signs 0 a2)))),(50,.d (.int .i64 ((dB a1.Signs 0 a2).length:Int))),(51,.d (.int .i64 w.2.2))],[(3,some (.box (aC a0.cells))),(4,some (.box (aC a1.cells))),(7,some (.box (aC x1.cells)))]⟩ : St)) (fun (r:Int × Bool)=>(((.exit 0),⟨[(2,.d (.int .i64 a2)),(3,.ptr 3 0),(4,.ptr 4 0),(7,.ptr 7 0),(8,.d (.int .i64 r.1)),(9,.d (.bool r.2))],[(3,some (.box (aC a0.cells))),(4,some (.box (aC a1.cells))),(7,some (.box (aC x1.cells)))]⟩):Ex × St)) (iP a0 a1 a2 x1 p5 p6 p7):=by
 simp -implicitDefEqProofs (decide:=true) (maxSteps:=2000000) only [oW,iP,↓cU,↓DO,↓DN,↓DR,DQ,DP,↓reduceIte,Int.reduceToNat,Nat.reduceBEq,Nat.reduceAdd,Nat.reduceLT,Nat.reduceLeDiff,Nat.reduceEqDiff,Int.reduceEq,ne_eq,zN,reduceCtorEq,bL,bO,bP,zM,zA,zB,aH,zC,zD,if_true,if_false,zE,zF,aE,zG,aM,zH,zI,zJ,zK,aV,aS,aR,aW,aQ,aF,aI,aL,aG,aK,aD,aT,a9,Vm.bind_map,aJ,aU,zL]
 all_goals try simp only [bF]
 all_goals try rfl
theorem GD {β:Type} (a0:aA) (a1:aB) (a2:Int) (x1:aO) (p5:Int) (p6:Bool) (p7:Int) (k:Ex→St→Option β):cX TT yM ⟨[(2,.d (.int .i64 a2)),(3,.ptr 3 0),(4,.ptr 4 0),(7,.ptr 7 0),(8,.d (.int .i64 p5)),(9,.d (.bool p6)),(49,.d (.sl (cM aO.cells (dB a1.Signs 0 a2)))),(50,.d (.int .i64 ((dB a1.Signs 0 a2).length:Int))),(51,.d (.int .i64 p7))],[(3,some (.box (aC a0.cells))),(4,some (.box (aC a1.cells))),(7,some (.box (aC x1.cells)))]⟩ k = (oH a0 a1 a2 x1 p5 p6 p7).bind (fun (r:Int × Bool)=>k (.exit 0) ⟨[(2,.d (.int .i64 a2)),(3,.ptr 3 0),(4,.ptr 4 0),(7,.ptr 7 0),(8,.d (.int .i64 r.1)),(9,.d (.bool r.2))],[(3,some (.box (aC a0.cells))),(4,some (.box (aC a1.cells))),(7,some (.box (aC x1.cells)))]⟩):=by
 have hh:=fun (w:Int × Bool × Int)=>F9 a0 a1 a2 x1 w.1 w.2.1 w.2.2
 have h:=fun ho=>cC (T:=TT) (k:=k) (c:=oW) (step:=(fun (w:Int × Bool × Int)=>iP a0 a1 a2 x1 w.1 w.2.1 w.2.2)) _ _ ho hh (p5,p6,p7)
 refine Eq.trans (h (fun r s e=>by have q:=congrArg Prod.fst e; rcases r with x <;> cases q)) ?_
 unfold oH
 exact bQ _ fun x=>by rcases x with x <;> rfl
theorem LF (a0:aA) (a1:aB) (a2:Int):Vm.call TT 58 [.agg a0.cells,.agg a1.cells,.int .i64 a2] = (qN a0 a1 a2).map fun (r:Int)=>.int .i64 r:=by
 refine (bX (show TT 58 = some (.code ⟨3,100,[.tmp 6],aFi,false,false⟩) from rfl) _ rfl rfl).trans ?_
 show cX TT aFi ⟨[(0,cW a0.cells),(1,cW a1.cells),(2,.d (.int .i64 a2))],[]⟩ _ = _
 simp -implicitDefEqProofs (decide:=true) (maxSteps:=2000000) only [aFi,qN,↓GD,↓cU,↓DO,↓DN,↓DR,DQ,DP,↓reduceIte,Int.reduceToNat,Nat.reduceBEq,Nat.reduceAdd,Nat.reduceLT,Nat.reduceLeDiff,Nat.reduceEqDiff,Int.reduceEq,ne_eq,zN,reduceCtorEq,bL,bO,bP,zM,zA,zB,aH,zC,zD,if_true,if_false,zE,zF,aE,zG,aM,zH,zI,zJ,zK,aV,aS,aR,aW,aQ,aF,aI,aL,aG,aK,aD,aT,a9,Vm.bind_map,aJ,aU,zL]
 all_goals try simp only [bF]
 all_goals try rfl
theorem yF {β:Type} (a0:aA) (a1:aB) (a2:Int) (d:Nat) (bl:List (Nat × Option aX)) (fz:List (Nat × Option aX)) (k:V→Option β) (kw:V→List (Nat × Option aX)→Option β):dM TT d bl 58 [.agg a0.cells,.agg a1.cells,.int .i64 a2] fz k kw = (qN a0 a1 a2).bind fun (r:Int)=>k (.d (.int .i64 r)):=by
 have h:=LF a0 a1 a2
 exact bR h (fun _=>rfl) fz
end Go.Proofs.Ytfhebiceipgdmaa
