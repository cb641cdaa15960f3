/- The functions of the small machine compute the plain definitions. Printed by a program. -/
import Derived.Test.YtfhebiceipgdmaaLnk3
set_option linter.unusedVariables false
set_option linter.unusedSimpArgs false
namespace Go.Proofs.Ytfhebiceipgdmaa
open Vm
open Go.RowKit
set_option maxRecDepth 100000
set_option maxHeartbeats 4000000
attribute [local congr] uI vW uO wI
theorem E5 (a0:aA) (r1:(List ByteArray) × (List ByteArray) × (List ByteArray)) (p4:Int):cX TT n8 ⟨[(1,.d (.ptr a0.cells 0)),(4,.d (.sl (cM cS r1.2.1))),(5,.d (.sl (cM cS r1.2.2))),(36,.d (.sl (cM bN.cells a0.Groups))),(37,.d (.int .i64 (a0.Groups.length:Int))),(38,.d (.int .i64 p4))],[]⟩ (fun e s=>some (e,s)) = dW (fun (w:Int)=>(⟨[(1,.d (.ptr a0.cells 0)),(4,.d (.sl (cM cS r1.2.1))),(5,.d (.sl (cM cS r1.2.2))),(36,.d (.sl (cM bN.cells a0.Groups))),(37,.d (.int .i64 (a0.Groups.length:Int))),(38,.d (.int .i64 w))],[]⟩ : St)) (fun (r:Unit ⊕ Unit)=>Sum.elim (fun (z:Unit)=>(((.exit 0),⟨[(1,.d (.ptr a0.cells 0)),(4,.d (.sl (cM cS r1.2.1))),(5,.d (.sl (cM cS r1.2.2)))],[]⟩):Ex × St)) (fun (z:Unit)=>((.ret,⟨[(2,.d (.int .i64 1))],[]⟩):Ex × St)) r) (iD a0 r1 p4):=by
 simp -implicitDefEqProofs (decide:=true) (maxSteps:=2000000) only [n8,iD,↓fJ,↓CG,↓AG,↓yU,↓zY,↓zQ,↓zP,↓DZ,↓DN,↓DR,DQ,DP,↓reduceIte,Int.reduceToNat,Nat.reduceBEq,Nat.reduceAdd,Nat.reduceLT,Nat.reduceLeDiff,Nat.reduceEqDiff,Int.reduceEq,ne_eq,zN,reduceCtorEq,bM,bO,bP,zM,zA,zB,aH,zC,zD,if_true,if_false,zE,zF,aD,zG,aL,zH,zI,zJ,zK,aV,aQ,aR,aT,aS,aE,aK,aJ,aF,aM,aG,aW,bA,Vm.bind_map,aI,aU,zL]
 all_goals try simp only [bF]
 all_goals try rfl
theorem FE {β:Type} (a0:aA) (r1:(List ByteArray) × (List ByteArray) × (List ByteArray)) (p4:Int) (k:Ex→St→Option β):cX TT xC ⟨[(1,.d (.ptr a0.cells 0)),(4,.d (.sl (cM cS r1.2.1))),(5,.d (.sl (cM cS r1.2.2))),(36,.d (.sl (cM bN.cells a0.Groups))),(37,.d (.int .i64 (a0.Groups.length:Int))),(38,.d (.int .i64 p4))],[]⟩ k = (qD a0 r1 p4).bind (fun (r:Unit ⊕ Unit)=>Sum.elim (fun (z:Unit)=>k (.exit 0) ⟨[(1,.d (.ptr a0.cells 0)),(4,.d (.sl (cM cS r1.2.1))),(5,.d (.sl (cM cS r1.2.2)))],[]⟩) (fun (z:Unit)=>k .ret ⟨[(2,.d (.int .i64 1))],[]⟩) r):=by
 have hh:=fun (w:Int)=>E5 a0 r1 w
 have h:=fun ho=>cA (T:=TT) (k:=k) (c:=n8) (step:=(fun (w:Int)=>iD a0 r1 w)) _ _ ho hh p4
 refine Eq.trans (h (fun r s e=>by have q:=congrArg Prod.fst e; rcases r with x | x <;> cases q)) ?_
 unfold qD
 exact bQ _ fun x=>by rcases x with x | x <;> rfl
theorem KP (a0:aA):Vm.call TT 75 [.agg a0.cells] = (o0 a0).map fun (r:Int)=>.int .i64 r:=by
 refine (bX (show TT 75 = some (.code ⟨1,66,[.tmp 2],aFR,false,false⟩) from rfl) _ rfl rfl).trans ?_
 show cX TT aFR ⟨[(0,cW a0.cells)],[]⟩ _ = _
 simp -implicitDefEqProofs (decide:=true) (maxSteps:=2000000) only [aFR,o0,↓FE,↓fJ,↓CG,↓AG,↓yU,↓zY,↓zQ,↓zP,↓DZ,↓DN,↓DR,DQ,DP,↓reduceIte,Int.reduceToNat,Nat.reduceBEq,Nat.reduceAdd,Nat.reduceLT,Nat.reduceLeDiff,Nat.reduceEqDiff,Int.reduceEq,ne_eq,zN,reduceCtorEq,bM,bO,bP,zM,zA,zB,aH,zC,zD,if_true,if_false,zE,zF,aD,zG,aL,zH,zI,zJ,zK,aV,aQ,aR,aT,aS,aE,aK,aJ,aF,aM,aG,aW,bA,Vm.bind_map,aI,aU,zL]
 all_goals try simp only [bF]
 all_goals try rfl
theorem oK {β:Type} (a0:aA) (d:Nat) (bl:List (Nat × Option aX)) (fz:List (Nat × Option aX)) (k:V→Option β) (kw:V→List (Nat × Option aX)→Option β):dM TT d bl 75 [.agg a0.cells] fz k kw = (o0 a0).bind fun (r:Int)=>k (.d (.int .i64 r)):=by
 have h:=KP a0
 exact bR h (fun _=>rfl) fz
theorem G7 (a0:Int) (a1:Int):Vm.call TT 76 [.int .i64 a0,.int .i64 a1] = (eJ a0 a1).map fun (r:Bool)=>.bool r:=by
 refine (bX (show TT 76 = some (.code ⟨2,12,[.tmp 4],aGg,false,false⟩) from rfl) _ rfl rfl).trans ?_
 show cX TT aGg ⟨[(0,.d (.int .i64 a0)),(1,.d (.int .i64 a1))],[]⟩ _ = _
 simp -implicitDefEqProofs (decide:=true) (maxSteps:=2000000) only [aGg,eJ,↓DN,↓DR,DQ,DP,↓reduceIte,Int.reduceToNat,Nat.reduceBEq,Nat.reduceAdd,Nat.reduceLT,Nat.reduceLeDiff,Nat.reduceEqDiff,Int.reduceEq,ne_eq,zN,reduceCtorEq,bM,bO,bP,zM,zA,zB,aH,zC,zD,if_true,if_false,zE,zF,aD,zG,aL,zH,zI,zJ,zK,aV,aQ,aR,aT,aS,aE,aK,aJ,aF,aM,aG,aW,bA,Vm.bind_map,aI,aU,zL]
 all_goals try simp only [bF]
 all_goals try rfl
theorem lW {β:Type} (a0:Int) (a1:Int) (d:Nat) (bl:List (Nat × Option aX)) (fz:List (Nat × Option aX)) (k:V→Option β) (kw:V→List (Nat × Option aX)→Option β):dM TT d bl 76 [.int .i64 a0,.int .i64 a1] fz k kw = (eJ a0 a1).bind fun (r:Bool)=>k (.d (.bool r)):=by
 have h:=G7 a0 a1
 exact bR h (fun _=>rfl) fz
theorem vF {β:Type} (a0:bD) (k:Ex→St→Option β):cX TT pO ⟨[(1,.ptr 1 0),(3,.ptr 3 0),(40,.d (.bool (a0.Tenor.Kind == 3)))],[(1,some (.box (aC a0.cells))),(3,some (.box (aC (bS.cells a0.Tenor))))]⟩ k = (jL a0).bind (fun (r:Unit ⊕ Bool)=>Sum.elim (fun (z:Unit)=>k .normal ⟨[],[]⟩) (fun (z:Bool)=>k .ret ⟨[(2,.d (.bool z))],[]⟩) r):=by
 simp -implicitDefEqProofs (decide:=true) (maxSteps:=2000000) only [pO,jL,↓DN,↓DR,DQ,DP,↓reduceIte,Int.reduceToNat,Nat.reduceBEq,Nat.reduceAdd,Nat.reduceLT,Nat.reduceLeDiff,Nat.reduceEqDiff,Int.reduceEq,ne_eq,zN,reduceCtorEq,bM,bO,bP,zM,zA,zB,aH,zC,zD,if_true,if_false,zE,zF,aD,zG,aL,zH,zI,zJ,zK,aV,aQ,aR,aT,aS,aE,aK,aJ,aF,aM,aG,aW,bA,Vm.bind_map,aI,aU,zL]
 all_goals try simp only [bF]
 all_goals try rfl
theorem C7 {β:Type} (a0:bD) (k:Ex→St→Option β):cX TT pJ ⟨[(1,.ptr 1 0),(3,.ptr 3 0),(7,.d (.int .i64 a0.Tenor.Kind))],[(1,some (.box (aC a0.cells))),(3,some (.box (aC (bS.cells a0.Tenor))))]⟩ k = (jG a0).bind (fun (r:Unit ⊕ Bool)=>Sum.elim (fun (z:Unit)=>k .normal ⟨[],[]⟩) (fun (z:Bool)=>k .ret ⟨[(2,.d (.bool z))],[]⟩) r):=by
 simp -implicitDefEqProofs (decide:=true) (maxSteps:=2000000) only [pJ,jG,↓vF,↓DN,↓DR,DQ,DP,↓reduceIte,Int.reduceToNat,Nat.reduceBEq,Nat.reduceAdd,Nat.reduceLT,Nat.reduceLeDiff,Nat.reduceEqDiff,Int.reduceEq,ne_eq,zN,reduceCtorEq,bM,bO,bP,zM,zA,zB,aH,zC,zD,if_true,if_false,zE,zF,aD,zG,aL,zH,zI,zJ,zK,aV,aQ,aR,aT,aS,aE,aK,aJ,aF,aM,aG,aW,bA,Vm.bind_map,aI,aU,zL]
 all_goals try simp only [bF]
 all_goals try rfl
theorem GK (a0:bD):Vm.call TT 77 [.agg a0.cells] = (kG a0).map fun (r:Bool)=>.bool r:=by
 refine (bX (show TT 77 = some (.code ⟨1,57,[.tmp 2],aEf,false,false⟩) from rfl) _ rfl rfl).trans ?_
 show cX TT aEf ⟨[(0,cW a0.cells)],[]⟩ _ = _
 simp -implicitDefEqProofs (decide:=true) (maxSteps:=2000000) only [aEf,kG,↓vF,↓C7,↓DN,↓DR,DQ,DP,↓reduceIte,Int.reduceToNat,Nat.reduceBEq,Nat.reduceAdd,Nat.reduceLT,Nat.reduceLeDiff,Nat.reduceEqDiff,Int.reduceEq,ne_eq,zN,reduceCtorEq,bM,bO,bP,zM,zA,zB,aH,zC,zD,if_true,if_false,zE,zF,aD,zG,aL,zH,zI,zJ,zK,aV,aQ,aR,aT,aS,aE,aK,aJ,aF,aM,aG,aW,bA,Vm.bind_map,aI,aU,zL]
 all_goals try simp only [bF]
 all_goals try rfl
theorem lT {β:Type} (a0:bD) (d:Nat) (bl:List (Nat × Option aX)) (fz:List (Nat × Option aX)) (k:V→Option β) (kw:V→List (Nat × Option aX)→Option β):dM TT d bl 77 [.agg a0.cells] fz k kw = (kG a0).bind fun (r:Bool)=>k (.d (.bool r)):=by
 have h:=GK a0
 exact bR h (fun _=>rfl) fz
theorem EN (a0:aA) (a1:Int) (a2:Int) (p1:Int):cX TT mW ⟨[(1,.d (.int .i64 a1)),(2,.d (.int .i64 a2)),(11,.d (.sl (cM a9.cells a0.Usances))),(12,.d (.int .i64 (a0.Usances.length:Int))),(13,.d (.int .i64 p1))],[]⟩ (fun e s=>some (e,s)) = dW (fun (w:Int)=>(⟨[(1,.d (.int .i64 a1)),(2,.d (.int .i64 a2)),(11,.d (.sl (cM a9.cells a0.Usances))),(12,.d (.int .i64 (a0.Usances.length:Int))),(13,.d (.int .i64 w))],[]⟩ : St)) (fun (r:Unit ⊕ Int)=>Sum.elim (fun (z:Unit)=>(((.exit 0),⟨[],[]⟩):Ex × St)) (fun (z:Int)=>((.ret,⟨[(6,.d (.int .i64 z)),(7,.d (.int .i64 0))],[]⟩):Ex × St)) r) (gH a0 a1 a2 p1):=by
 simp -implicitDefEqProofs (decide:=true) (maxSteps:=2000000) only [mW,gH,↓DN,↓DR,DQ,DP,↓reduceIte,Int.reduceToNat,Nat.reduceBEq,Nat.reduceAdd,Nat.reduceLT,Nat.reduceLeDiff,Nat.reduceEqDiff,Int.reduceEq,ne_eq,zN,reduceCtorEq,bM,bO,bP,zM,zA,zB,aH,zC,zD,if_true,if_false,zE,zF,aD,zG,aL,zH,zI,zJ,zK,aV,aQ,aR,aT,aS,aE,aK,aJ,aF,aM,aG,aW,bA,Vm.bind_map,aI,aU,zL]
 all_goals try simp only [bF]
 all_goals try rfl
theorem D8 {β:Type} (a0:aA) (a1:Int) (a2:Int) (p1:Int) (k:Ex→St→Option β):cX TT wR ⟨[(1,.d (.int .i64 a1)),(2,.d (.int .i64 a2)),(11,.d (.sl (cM a9.cells a0.Usances))),(12,.d (.int .i64 (a0.Usances.length:Int))),(13,.d (.int .i64 p1))],[]⟩ k = (o8 a0 a1 a2 p1).bind (fun (r:Unit ⊕ Int)=>Sum.elim (fun (z:Unit)=>k (.exit 0) ⟨[],[]⟩) (fun (z:Int)=>k .ret ⟨[(6,.d (.int .i64 z)),(7,.d (.int .i64 0))],[]⟩) r):=by
 have hh:=fun (w:Int)=>EN a0 a1 a2 w
 have h:=fun ho=>cA (T:=TT) (k:=k) (c:=mW) (step:=(fun (w:Int)=>gH a0 a1 a2 w)) _ _ ho hh p1
 refine Eq.trans (h (fun r s e=>by have q:=congrArg Prod.fst e; rcases r with x | x <;> cases q)) ?_
 unfold o8
 exact bQ _ fun x=>by rcases x with x | x <;> rfl
theorem IM (a0:aA) (a1:Int) (a2:Int):Vm.call TT 78 [.agg a0.cells,.int .i64 a1,.int .i64 a2] = (nK a0 a1 a2).map fun (r:Int × Int)=>.tup [.int .i64 r.1,.int .i64 r.2]:=by
 refine (bX (show TT 78 = some (.code ⟨3,30,[.tmp 6,.tmp 7],aGi,false,false⟩) from rfl) _ rfl rfl).trans ?_
 show cX TT aGi ⟨[(0,cW a0.cells),(1,.d (.int .i64 a1)),(2,.d (.int .i64 a2))],[]⟩ _ = _
 simp -implicitDefEqProofs (decide:=true) (maxSteps:=2000000) only [aGi,nK,↓D8,↓DN,↓DR,DQ,DP,↓reduceIte,Int.reduceToNat,Nat.reduceBEq,Nat.reduceAdd,Nat.reduceLT,Nat.reduceLeDiff,Nat.reduceEqDiff,Int.reduceEq,ne_eq,zN,reduceCtorEq,bM,bO,bP,zM,zA,zB,aH,zC,zD,if_true,if_false,zE,zF,aD,zG,aL,zH,zI,zJ,zK,aV,aQ,aR,aT,aS,aE,aK,aJ,aF,aM,aG,aW,bA,Vm.bind_map,aI,aU,zL]
 all_goals try simp only [bF]
 all_goals try rfl
theorem nE {β:Type} (a0:aA) (a1:Int) (a2:Int) (d:Nat) (bl:List (Nat × Option aX)) (fz:List (Nat × Option aX)) (k:V→Option β) (kw:V→List (Nat × Option aX)→Option β):dM TT d bl 78 [.agg a0.cells,.int .i64 a1,.int .i64 a2] fz k kw = (nK a0 a1 a2).bind fun (r:Int × Int)=>k (.tup [.d (.int .i64 r.1),.d (.int .i64 r.2)]):=by
 have h:=IM a0 a1 a2
 exact bR h (fun _=>rfl) fz
theorem lQ {β:Type} (a0:aA) (a1:bD) (k:Ex→St→Option β):cX TT pI ⟨[(2,.ptr 2 0),(3,.ptr 3 0)],[(2,some (.box (aC a0.cells))),(3,some (.box (aC a1.cells)))]⟩ k = (kV a0 a1).bind (fun (r:Unit ⊕ Unit)=>Sum.elim (fun (z:Unit)=>k .normal ⟨[(2,.ptr 2 0),(3,.ptr 3 0)],[(2,some (.box (aC a0.cells))),(3,some (.box (aC a1.cells)))]⟩) (fun (z:Unit)=>k .ret ⟨[(4,.d (.int .i64 2))],[]⟩) r):=by
 simp -implicitDefEqProofs (decide:=true) (maxSteps:=2000000) only [pI,kV,↓oK,↓lW,↓lT,↓nE,↓DN,↓DR,DQ,DP,↓reduceIte,Int.reduceToNat,Nat.reduceBEq,Nat.reduceAdd,Nat.reduceLT,Nat.reduceLeDiff,Nat.reduceEqDiff,Int.reduceEq,ne_eq,zN,reduceCtorEq,bM,bO,bP,zM,zA,zB,aH,zC,zD,if_true,if_false,zE,zF,aD,zG,aL,zH,zI,zJ,zK,aV,aQ,aR,aT,aS,aE,aK,aJ,aF,aM,aG,aW,bA,Vm.bind_map,aI,aU,zL]
 all_goals try simp only [bF]
 all_goals try rfl
theorem pL {β:Type} (a0:aA) (a1:bD) (k:Ex→St→Option β):cX TT pF ⟨[(2,.ptr 2 0),(3,.ptr 3 0)],[(2,some (.box (aC a0.cells))),(3,some (.box (aC a1.cells)))]⟩ k = (kU a0 a1).bind (fun (r:Unit ⊕ Int)=>Sum.elim (fun (z:Unit)=>k .normal ⟨[(2,.ptr 2 0),(3,.ptr 3 0)],[(2,some (.box (aC a0.cells))),(3,some (.box (aC a1.cells)))]⟩) (fun (z:Int)=>k .ret ⟨[(4,.d (.int .i64 z))],[]⟩) r):=by
 simp -implicitDefEqProofs (decide:=true) (maxSteps:=2000000) only [pF,kU,↓lQ,↓oK,↓lW,↓lT,↓nE,↓DN,↓DR,DQ,DP,↓reduceIte,Int.reduceToNat,Nat.reduceBEq,Nat.reduceAdd,Nat.reduceLT,Nat.reduceLeDiff,Nat.reduceEqDiff,Int.reduceEq,ne_eq,zN,reduceCtorEq,bM,bO,bP,zM,zA,zB,aH,zC,zD,if_true,if_false,zE,zF,aD,zG,aL,zH,zI,zJ,zK,aV,aQ,aR,aT,aS,aE,aK,aJ,aF,aM,aG,aW,bA,Vm.bind_map,aI,aU,zL]
 all_goals try simp only [bF]
 all_goals try rfl
theorem vI {β:Type} (a0:aA) (a1:bD) (k:Ex→St→Option β):cX TT pM ⟨[(2,.ptr 2 0),(3,.ptr 3 0)],[(2,some (.box (aC a0.cells))),(3,some (.box (aC a1.cells)))]⟩ k = (iB a0 a1).bind (fun (r:Unit ⊕ Int)=>Sum.elim (fun (z:Unit)=>k .normal ⟨[(2,.ptr 2 0),(3,.ptr 3 0)],[(2,some (.box (aC a0.cells))),(3,some (.box (aC a1.cells)))]⟩) (fun (z:Int)=>k .ret ⟨[(4,.d (.int .i64 z))],[]⟩) r):=by
 simp -implicitDefEqProofs (decide:=true) (maxSteps:=2000000) only [pM,iB,↓lQ,↓pL,↓oK,↓lW,↓lT,↓nE,↓DN,↓DR,DQ,DP,↓reduceIte,Int.reduceToNat,Nat.reduceBEq,Nat.reduceAdd,Nat.reduceLT,Nat.reduceLeDiff,Nat.reduceEqDiff,Int.reduceEq,ne_eq,zN,reduceCtorEq,bM,bO,bP,zM,zA,zB,aH,zC,zD,if_true,if_false,zE,zF,aD,zG,aL,zH,zI,zJ,zK,aV,aQ,aR,aT,aS,aE,aK,aJ,aF,aM,aG,aW,bA,Vm.bind_map,aI,aU,zL]
 all_goals try simp only [bF]
 all_goals try rfl
theorem C6 {β:Type} (a0:aA) (a1:bD) (p7:Bool) (k:Ex→St→Option β):cX TT pG ⟨[(2,.ptr 2 0),(3,.ptr 3 0),(7,.d (.int .i64 (a0.Cities.length:Int))),(8,.d (.bool p7))],[(2,some (.box (aC a0.cells))),(3,some (.box (aC a1.cells)))]⟩ k = (cU a0 a1 p7).bind (fun (r:Int)=>k .ret ⟨[(4,.d (.int .i64 r))],[]⟩):=by
 simp -implicitDefEqProofs (decide:=true) (maxSteps:=2000000) only [pG,cU,↓lQ,↓pL,↓vI,↓oK,↓lW,↓lT,↓nE,↓DN,↓DR,DQ,DP,↓reduceIte,Int.reduceToNat,Nat.reduceBEq,Nat.reduceAdd,Nat.reduceLT,Nat.reduceLeDiff,Nat.reduceEqDiff,Int.reduceEq,ne_eq,zN,reduceCtorEq,bM,bO,bP,zM,zA,zB,aH,zC,zD,if_true,if_false,zE,zF,aD,zG,aL,zH,zI,zJ,zK,aV,aQ,aR,aT,aS,aE,aK,aJ,aF,aM,aG,aW,bA,Vm.bind_map,aI,aU,zL]
 all_goals try simp only [bF]
 all_goals try rfl
theorem GZ (a0:aA) (a1:bD):Vm.call TT 57 [.agg a0.cells,.agg a1.cells] = (gC a0 a1).map fun (r:Int)=>.int .i64 r:=by
 refine (bX (show TT 57 = some (.code ⟨2,157,[.tmp 4],aGj,false,false⟩) from rfl) _ rfl rfl).trans ?_
 show cX TT aGj ⟨[(0,cW a0.cells),(1,cW a1.cells)],[]⟩ _ = _
 simp -implicitDefEqProofs (decide:=true) (maxSteps:=2000000) only [aGj,gC,↓lQ,↓pL,↓vI,↓C6,↓oK,↓lW,↓lT,↓nE,↓DN,↓DR,DQ,DP,↓reduceIte,Int.reduceToNat,Nat.reduceBEq,Nat.reduceAdd,Nat.reduceLT,Nat.reduceLeDiff,Nat.reduceEqDiff,Int.reduceEq,ne_eq,zN,reduceCtorEq,bM,bO,bP,zM,zA,zB,aH,zC,zD,if_true,if_false,zE,zF,aD,zG,aL,zH,zI,zJ,zK,aV,aQ,aR,aT,aS,aE,aK,aJ,aF,aM,aG,aW,bA,Vm.bind_map,aI,aU,zL]
 all_goals try simp only [bF]
 all_goals try rfl
theorem tE {β:Type} (a0:aA) (a1:bD) (d:Nat) (bl:List (Nat × Option aX)) (fz:List (Nat × Option aX)) (k:V→Option β) (kw:V→List (Nat × Option aX)→Option β):dM TT d bl 57 [.agg a0.cells,.agg a1.cells] fz k kw = (gC a0 a1).bind fun (r:Int)=>k (.d (.int .i64 r)):=by
 have h:=GZ a0 a1
 exact bR h (fun _=>rfl) fz
theorem Q6 (a0:Int) (a1:Int) (a2:Int):Vm.call TT 59 [.int .i64 a0,.int .i64 a1,.int .i64 a2] = (cR a0 a1 a2).map fun (r:Bool)=>.bool r:=by
 refine (bX (show TT 59 = some (.code ⟨3,15,[.tmp 6],aF4,false,false⟩) from rfl) _ rfl rfl).trans ?_
 show cX TT aF4 ⟨[(0,.d (.int .i64 a0)),(1,.d (.int .i64 a1)),(2,.d (.int .i64 a2))],[]⟩ _ = _
 simp -implicitDefEqProofs (decide:=true) (maxSteps:=2000000) only [aF4,cR,↓DN,↓DR,DQ,DP,↓reduceIte,Int.reduceToNat,Nat.reduceBEq,Nat.reduceAdd,Nat.reduceLT,Nat.reduceLeDiff,Nat.reduceEqDiff,Int.reduceEq,ne_eq,zN,reduceCtorEq,bM,bO,bP,zM,zA,zB,aH,zC,zD,if_true,if_false,zE,zF,aD,zG,aL,zH,zI,zJ,zK,aV,aQ,aR,aT,aS,aE,aK,aJ,aF,aM,aG,aW,bA,Vm.bind_map,aI,aU,zL]
 all_goals try simp only [bF]
 all_goals try rfl
theorem cV {β:Type} (a0:Int) (a1:Int) (a2:Int) (d:Nat) (bl:List (Nat × Option aX)) (fz:List (Nat × Option aX)) (k:V→Option β) (kw:V→List (Nat × Option aX)→Option β):dM TT d bl 59 [.int .i64 a0,.int .i64 a1,.int .i64 a2] fz k kw = (cR a0 a1 a2).bind fun (r:Bool)=>k (.d (.bool r)):=by
 have h:=Q6 a0 a1 a2
 exact bR h (fun _=>rfl) fz
theorem IL (a0:aB) (a1:Int) (a2:Int):Vm.call TT 66 [.agg a0.cells,.int .i64 a1,.int .i64 a2] = (lE a0 a1 a2).map fun (r:Bool)=>.bool r:=by
 refine (bX (show TT 66 = some (.code ⟨3,19,[.tmp 6],aEe,false,false⟩) from rfl) _ rfl rfl).trans ?_
 show cX TT aEe ⟨[(0,cW a0.cells),(1,.d (.int .i64 a1)),(2,.d (.int .i64 a2))],[]⟩ _ = _
 simp -implicitDefEqProofs (decide:=true) (maxSteps:=2000000) only [aEe,lE,↓DN,↓DR,DQ,DP,↓reduceIte,Int.reduceToNat,Nat.reduceBEq,Nat.reduceAdd,Nat.reduceLT,Nat.reduceLeDiff,Nat.reduceEqDiff,Int.reduceEq,ne_eq,zN,reduceCtorEq,bM,bO,bP,zM,zA,zB,aH,zC,zD,if_true,if_false,zE,zF,aD,zG,aL,zH,zI,zJ,zK,aV,aQ,aR,aT,aS,aE,aK,aJ,aF,aM,aG,aW,bA,Vm.bind_map,aI,aU,zL]
 all_goals try simp only [bF]
 all_goals try rfl
theorem iG {β:Type} (a0:aB) (a1:Int) (a2:Int) (d:Nat) (bl:List (Nat × Option aX)) (fz:List (Nat × Option aX)) (k:V→Option β) (kw:V→List (Nat × Option aX)→Option β):dM TT d bl 66 [.agg a0.cells,.int .i64 a1,.int .i64 a2] fz k kw = (lE a0 a1 a2).bind fun (r:Bool)=>k (.d (.bool r)):=by
 have h:=IL a0 a1 a2
 exact bR h (fun _=>rfl) fz
theorem wD (a0:List Int) (a1:Int) (p1:Int):cX TT gX ⟨[(0,.d (.sl (cM cI a0))),(1,.d (.int .i64 a1)),(7,.d (.int .i64 (a0.length:Int))),(8,.d (.int .i64 p1))],[]⟩ (fun e s=>some (e,s)) = dW (fun (w:Int)=>(⟨[(0,.d (.sl (cM cI a0))),(1,.d (.int .i64 a1)),(7,.d (.int .i64 (a0.length:Int))),(8,.d (.int .i64 w))],[]⟩ : St)) (fun (r:Unit ⊕ Int)=>Sum.elim (fun (z:Unit)=>(((.exit 0),⟨[],[]⟩):Ex × St)) (fun (z:Int)=>((.ret,⟨[(4,.d (.int .i64 z))],[]⟩):Ex × St)) r) (eM a0 a1 p1):=by
 simp -implicitDefEqProofs (decide:=true) (maxSteps:=2000000) only [gX,eM,↓DN,↓DR,DQ,DP,↓reduceIte,Int.reduceToNat,Nat.reduceBEq,Nat.reduceAdd,Nat.reduceLT,Nat.reduceLeDiff,Nat.reduceEqDiff,Int.reduceEq,ne_eq,zN,reduceCtorEq,bM,bO,bP,zM,zA,zB,aH,zC,zD,if_true,if_false,zE,zF,aD,zG,aL,zH,zI,zJ,zK,aV,aQ,aR,aT,aS,aE,aK,aJ,aF,aM,aG,aW,bA,Vm.bind_map,aI,aU,zL]
 all_goals try simp only [bF]
 all_goals try rfl
theorem wA {β:Type} (a0:List Int) (a1:Int) (p1:Int) (k:Ex→St→Option β):cX TT oP ⟨[(0,.d (.sl (cM cI a0))),(1,.d (.int .i64 a1)),(7,.d (.int .i64 (a0.length:Int))),(8,.d (.int .i64 p1))],[]⟩ k = (gB a0 a1 p1).bind (fun (r:Unit ⊕ Int)=>Sum.elim (fun (z:Unit)=>k (.exit 0) ⟨[],[]⟩) (fun (z:Int)=>k .ret ⟨[(4,.d (.int .i64 z))],[]⟩) r):=by
 have hh:=fun (w:Int)=>wD a0 a1 w
 have h:=fun ho=>cA (T:=TT) (k:=k) (c:=gX) (step:=(fun (w:Int)=>eM a0 a1 w)) _ _ ho hh p1
 refine Eq.trans (h (fun r s e=>by have q:=congrArg Prod.fst e; rcases r with x | x <;> cases q)) ?_
 unfold gB
 exact bQ _ fun x=>by rcases x with x | x <;> rfl
theorem yT (a0:List Int) (a1:Int):Vm.call TT 117 [.sl (cM cI a0),.int .i64 a1] = (iL a0 a1).map fun (r:Int)=>.int .i64 r:=by
 refine (bX (show TT 117 = some (.code ⟨2,19,[.tmp 4],V4,false,false⟩) from rfl) _ rfl rfl).trans ?_
 show cX TT V4 ⟨[(0,.d (.sl (cM cI a0))),(1,.d (.int .i64 a1))],[]⟩ _ = _
 simp -implicitDefEqProofs (decide:=true) (maxSteps:=2000000) only [V4,iL,↓wA,↓DN,↓DR,DQ,DP,↓reduceIte,Int.reduceToNat,Nat.reduceBEq,Nat.reduceAdd,Nat.reduceLT,Nat.reduceLeDiff,Nat.reduceEqDiff,Int.reduceEq,ne_eq,zN,reduceCtorEq,bM,bO,bP,zM,zA,zB,aH,zC,zD,if_true,if_false,zE,zF,aD,zG,aL,zH,zI,zJ,zK,aV,aQ,aR,aT,aS,aE,aK,aJ,aF,aM,aG,aW,bA,Vm.bind_map,aI,aU,zL]
 all_goals try simp only [bF]
 all_goals try rfl
theorem zX {β:Type} (a0:List Int) (a1:Int) (d:Nat) (bl:List (Nat × Option aX)) (fz:List (Nat × Option aX)) (k:V→Option β) (kw:V→List (Nat × Option aX)→Option β):dM TT d bl 117 [.sl (cM cI a0),.int .i64 a1] fz k kw = (iL a0 a1).bind fun (r:Int)=>k (.d (.int .i64 r)):=by
 have h:=yT a0 a1
 exact bR h (fun _=>rfl) fz
theorem wU (a0:List Int) (a1:Int):Vm.call TT 111 [.sl (cM cI a0),.int .i64 a1] = (fC a0 a1).map fun (r:Bool)=>.bool r:=by
 refine (bX (show TT 111 = some (.code ⟨2,9,[.tmp 4],VT,false,false⟩) from rfl) _ rfl rfl).trans ?_
 show cX TT VT ⟨[(0,.d (.sl (cM cI a0))),(1,.d (.int .i64 a1))],[]⟩ _ = _
 simp -implicitDefEqProofs (decide:=true) (maxSteps:=2000000) only [VT,fC,↓zX,↓DN,↓DR,DQ,DP,↓reduceIte,Int.reduceToNat,Nat.reduceBEq,Nat.reduceAdd,Nat.reduceLT,Nat.reduceLeDiff,Nat.reduceEqDiff,Int.reduceEq,ne_eq,zN,reduceCtorEq,bM,bO,bP,zM,zA,zB,aH,zC,zD,if_true,if_false,zE,zF,aD,zG,aL,zH,zI,zJ,zK,aV,aQ,aR,aT,aS,aE,aK,aJ,aF,aM,aG,aW,bA,Vm.bind_map,aI,aU,zL]
 all_goals try simp only [bF]
 all_goals try rfl
theorem v8 {β:Type} (a0:List Int) (a1:Int) (d:Nat) (bl:List (Nat × Option aX)) (fz:List (Nat × Option aX)) (k:V→Option β) (kw:V→List (Nat × Option aX)→Option β):dM TT d bl 111 [.sl (cM cI a0),.int .i64 a1] fz k kw = (fC a0 a1).bind fun (r:Bool)=>k (.d (.bool r)):=by
 have h:=wU a0 a1
 exact bR h (fun _=>rfl) fz
theorem J5 (a0:aB) (a1:Int) (a2:List Int):Vm.call TT 101 [.agg a0.cells,.int .i64 a1,.sl (cM cI a2)] = (mY a0 a1 a2).map fun (r:Bool)=>.bool r:=by
 refine (bX (show TT 101 = some (.code ⟨3,39,[.tmp 6],WV,false,false⟩) from rfl) _ rfl rfl).trans ?_
 show cX TT WV ⟨[(0,cW a0.cells),(1,.d (.int .i64 a1)),(2,.d (.sl (cM cI a2)))],[]⟩ _ = _
 simp -implicitDefEqProofs (decide:=true) (maxSteps:=2000000) only [WV,mY,↓cV,↓iG,↓v8,↓DN,↓DR,DQ,DP,↓reduceIte,Int.reduceToNat,Nat.reduceBEq,Nat.reduceAdd,Nat.reduceLT,Nat.reduceLeDiff,Nat.reduceEqDiff,Int.reduceEq,ne_eq,zN,reduceCtorEq,bM,bO,bP,zM,zA,zB,aH,zC,zD,if_true,if_false,zE,zF,aD,zG,aL,zH,zI,zJ,zK,aV,aQ,aR,aT,aS,aE,aK,aJ,aF,aM,aG,aW,bA,Vm.bind_map,aI,aU,zL]
 all_goals try simp only [bF]
 all_goals try rfl
theorem oO {β:Type} (a0:aB) (a1:Int) (a2:List Int) (d:Nat) (bl:List (Nat × Option aX)) (fz:List (Nat × Option aX)) (k:V→Option β) (kw:V→List (Nat × Option aX)→Option β):dM TT d bl 101 [.agg a0.cells,.int .i64 a1,.sl (cM cI a2)] fz k kw = (mY a0 a1 a2).bind fun (r:Bool)=>k (.d (.bool r)):=by
 have h:=J5 a0 a1 a2
 exact bR h (fun _=>rfl) fz
theorem oW {β:Type} (a0:aA) (a1:aB) (a2:Int) (p2:Bool) (x1:aO) (p4:Bool) (k:Ex→St→Option β):cX TT sU ⟨[(2,.d (.int .i64 a2)),(3,.ptr 3 0),(4,.ptr 4 0),(7,.ptr 7 0),(8,.ptr 8 0),(9,.d (.bool p2)),(10,.d (.bool p4))],[(3,some (.box (aC a0.cells))),(4,some (.box (aC a1.cells))),(7,some (.box (aC x1.cells))),(8,some (.box (aC (bD.cells a1.Bill))))]⟩ k = (l9 a0 a1 a2 p2 x1 p4).bind (fun (r:Bool)=>k .ret ⟨[(6,.d (.bool r))],[]⟩):=by
 simp -implicitDefEqProofs (decide:=true) (maxSteps:=2000000) only [sU,l9,↓cV,↓oO,↓DN,↓DR,DQ,DP,↓reduceIte,Int.reduceToNat,Nat.reduceBEq,Nat.reduceAdd,Nat.reduceLT,Nat.reduceLeDiff,Nat.reduceEqDiff,Int.reduceEq,ne_eq,zN,reduceCtorEq,bM,bO,bP,zM,zA,zB,aH,zC,zD,if_true,if_false,zE,zF,aD,zG,aL,zH,zI,zJ,zK,aV,aQ,aR,aT,aS,aE,aK,aJ,aF,aM,aG,aW,bA,Vm.bind_map,aI,aU,zL]
 all_goals try simp only [bF]
 all_goals try rfl
theorem tM {β:Type} (a0:aA) (a1:aB) (a2:Int) (x1:aO) (p2:Bool) (k:Ex→St→Option β):cX TT tK ⟨[(2,.d (.int .i64 a2)),(3,.ptr 3 0),(4,.ptr 4 0),(7,.ptr 7 0),(8,.ptr 8 0),(9,.d (.bool p2))],[(3,some (.box (aC a0.cells))),(4,some (.box (aC a1.cells))),(7,some (.box (aC x1.cells))),(8,some (.box (aC (bD.cells a1.Bill))))]⟩ k = (mK a0 a1 a2 x1 p2).bind (fun (r:Bool)=>k .ret ⟨[(6,.d (.bool r))],[]⟩):=by
 simp -implicitDefEqProofs (decide:=true) (maxSteps:=2000000) only [tK,mK,↓oW,↓cV,↓oO,↓DN,↓DR,DQ,DP,↓reduceIte,Int.reduceToNat,Nat.reduceBEq,Nat.reduceAdd,Nat.reduceLT,Nat.reduceLeDiff,Nat.reduceEqDiff,Int.reduceEq,ne_eq,zN,reduceCtorEq,bM,bO,bP,zM,zA,zB,aH,zC,zD,if_true,if_false,zE,zF,aD,zG,aL,zH,zI,zJ,zK,aV,aQ,aR,aT,aS,aE,aK,aJ,aF,aM,aG,aW,bA,Vm.bind_map,aI,aU,zL]
 all_goals try simp only [bF]
 all_goals try rfl
theorem zZ {β:Type} (a0:aA) (a1:aB) (a2:Int) (x1:aO) (k:Ex→St→Option β):cX TT s5 ⟨[(2,.d (.int .i64 a2)),(3,.ptr 3 0),(4,.ptr 4 0),(7,.ptr 7 0),(8,.ptr 8 0)],[(3,some (.box (aC a0.cells))),(4,some (.box (aC a1.cells))),(7,some (.box (aC x1.cells))),(8,some (.box (aC (bD.cells a1.Bill))))]⟩ k = (kC a0 a1 a2 x1).bind (fun (r:Bool)=>k .ret ⟨[(6,.d (.bool r))],[]⟩):=by
 simp -implicitDefEqProofs (decide:=true) (maxSteps:=2000000) only [s5,kC,↓oW,↓tM,↓cV,↓oO,↓DN,↓DR,DQ,DP,↓reduceIte,Int.reduceToNat,Nat.reduceBEq,Nat.reduceAdd,Nat.reduceLT,Nat.reduceLeDiff,Nat.reduceEqDiff,Int.reduceEq,ne_eq,zN,reduceCtorEq,bM,bO,bP,zM,zA,zB,aH,zC,zD,if_true,if_false,zE,zF,aD,zG,aL,zH,zI,zJ,zK,aV,aQ,aR,aT,aS,aE,aK,aJ,aF,aM,aG,aW,bA,Vm.bind_map,aI,aU,zL]
 all_goals try simp only [bF]
 all_goals try rfl
theorem F8 {β:Type} (a0:aA) (a1:aB) (a2:Int) (x1:aO) (k:Ex→St→Option β):cX TT tN ⟨[(2,.d (.int .i64 a2)),(3,.ptr 3 0),(4,.ptr 4 0),(7,.ptr 7 0),(8,.ptr 8 0)],[(3,some (.box (aC a0.cells))),(4,some (.box (aC a1.cells))),(7,some (.box (aC x1.cells))),(8,some (.box (aC (bD.cells a1.Bill))))]⟩ k = (lX a0 a1 a2 x1).bind (fun (r:Bool)=>k .ret ⟨[(6,.d (.bool r))],[]⟩):=by
 simp -implicitDefEqProofs (decide:=true) (maxSteps:=2000000) only [tN,lX,↓oW,↓tM,↓zZ,↓cV,↓oO,↓DN,↓DR,DQ,DP,↓reduceIte,Int.reduceToNat,Nat.reduceBEq,Nat.reduceAdd,Nat.reduceLT,Nat.reduceLeDiff,Nat.reduceEqDiff,Int.reduceEq,ne_eq,zN,reduceCtorEq,bM,bO,bP,zM,zA,zB,aH,zC,zD,if_true,if_false,zE,zF,aD,zG,aL,zH,zI,zJ,zK,aV,aQ,aR,aT,aS,aE,aK,aJ,aF,aM,aG,aW,bA,Vm.bind_map,aI,aU,zL]
 all_goals try simp only [bF]
 all_goals try rfl
theorem MA (a0:aA) (a1:aB) (a2:Int):Vm.call TT 79 [.agg a0.cells,.agg a1.cells,.int .i64 a2] = (oS a0 a1 a2).map fun (r:Bool)=>.bool r:=by
 refine (bX (show TT 79 = some (.code ⟨3,165,[.tmp 6],aFB,false,false⟩) from rfl) _ rfl rfl).trans ?_
 show cX TT aFB ⟨[(0,cW a0.cells),(1,cW a1.cells),(2,.d (.int .i64 a2))],[]⟩ _ = _
 simp -implicitDefEqProofs (decide:=true) (maxSteps:=2000000) only [aFB,oS,↓oW,↓tM,↓zZ,↓F8,↓cV,↓oO,↓DN,↓DR,DQ,DP,↓reduceIte,Int.reduceToNat,Nat.reduceBEq,Nat.reduceAdd,Nat.reduceLT,Nat.reduceLeDiff,Nat.reduceEqDiff,Int.reduceEq,ne_eq,zN,reduceCtorEq,bM,bO,bP,zM,zA,zB,aH,zC,zD,if_true,if_false,zE,zF,aD,zG,aL,zH,zI,zJ,zK,aV,aQ,aR,aT,aS,aE,aK,aJ,aF,aM,aG,aW,bA,Vm.bind_map,aI,aU,zL]
 all_goals try simp only [bF]
 all_goals try rfl
theorem D0 {β:Type} (a0:aA) (a1:aB) (a2:Int) (d:Nat) (bl:List (Nat × Option aX)) (fz:List (Nat × Option aX)) (k:V→Option β) (kw:V→List (Nat × Option aX)→Option β):dM TT d bl 79 [.agg a0.cells,.agg a1.cells,.int .i64 a2] fz k kw = (oS a0 a1 a2).bind fun (r:Bool)=>k (.d (.bool r)):=by
 have h:=MA a0 a1 a2
 exact bR h (fun _=>rfl) fz
theorem GQ (a0:aA) (a1:aB) (a2:Int) (x1:aO) (p5:Int) (p6:Bool) (p7:Int):cX TT o2 ⟨[(2,.d (.int .i64 a2)),(3,.ptr 3 0),(4,.ptr 4 0),(7,.ptr 7 0),(8,.d (.int .i64 p5)),(9,.d (.bool p6)),(49,.d (.sl (cM aO.cells (dE a1.Signs 0 a2)))),(50,.d (.int .i64 ((dE a1.Signs 0 a2).length:Int))),(51,.d (.int .i64 p7))],[(3,some (.box (aC a0.cells))),(4,some (.box (aC a1.cells))),(7,some (.box (aC x1.cells)))]⟩ (fun e s=>some (e,s)) = dW (fun (w:Int × Bool × Int)=>(⟨[(2,.d (.int .i64 a2)),(3,.ptr 3 0),(4,.ptr 4 0),(7,.ptr 7 0),(8,.d (.int .i64 w.1)),(9,.d (.bool w.2.1)),(49,.d (.sl (cM aO.cells (dE a1.Signs 0 a2)))),(50,.d (.int .i64 ((dE a1.Signs 0 a2).length:Int))),(51,.d (.int .i64 w.2.2))],[(3,some (.box (aC a0.cells))),(4,some (.box (aC a1.cells))),(7,some (.box (aC x1.cells)))]⟩ : St)) (fun (r:Int × Bool)=>(((.exit 0),⟨[(2,.d (.int .i64 a2)),(3,.ptr 3 0),(4,.ptr 4 0),(7,.ptr 7 0),(8,.d (.int .i64 r.1)),(9,.d (.bool r.2))],[(3,some (.box (aC a0.cells))),(4,some (.box (aC a1.cells))),(7,some (.box (aC x1.cells)))]⟩):Ex × St)) (iU a0 a1 a2 x1 p5 p6 p7):=by
 simp -implicitDefEqProofs (decide:=true) (maxSteps:=2000000) only [o2,iU,↓cV,↓D0,↓DN,↓DR,DQ,DP,↓reduceIte,Int.reduceToNat,Nat.reduceBEq,Nat.reduceAdd,Nat.reduceLT,Nat.reduceLeDiff,Nat.reduceEqDiff,Int.reduceEq,ne_eq,zN,reduceCtorEq,bM,bO,bP,zM,zA,zB,aH,zC,zD,if_true,if_false,zE,zF,aD,zG,aL,zH,zI,zJ,zK,aV,aQ,aR,aT,aS,aE,aK,aJ,aF,aM,aG,aW,bA,Vm.bind_map,aI,aU,zL]
 all_goals try simp only [bF]
 all_goals try rfl
theorem GD {β:Type} (a0:aA) (a1:aB) (a2:Int) (x1:aO) (p5:Int) (p6:Bool) (p7:Int) (k:Ex→St→Option β):cX TT AK ⟨[(2,.d (.int .i64 a2)),(3,.ptr 3 0),(4,.ptr 4 0),(7,.ptr 7 0),(8,.d (.int .i64 p5)),(9,.d (.bool p6)),(49,.d (.sl (cM aO.cells (dE a1.Signs 0 a2)))),(50,.d (.int .i64 ((dE a1.Signs 0 a2).length:Int))),(51,.d (.int .i64 p7))],[(3,some (.box (aC a0.cells))),(4,some (.box (aC a1.cells))),(7,some (.box (aC x1.cells)))]⟩ k = (oU a0 a1 a2 x1 p5 p6 p7).bind (fun (r:Int × Bool)=>k (.exit 0) ⟨[(2,.d (.int .i64 a2)),(3,.ptr 3 0),(4,.ptr 4 0),(7,.ptr 7 0),(8,.d (.int .i64 r.1)),(9,.d (.bool r.2))],[(3,some (.box (aC a0.cells))),(4,some (.box (aC a1.cells))),(7,some (.box (aC x1.cells)))]⟩):=by
 have hh:=fun (w:Int × Bool × Int)=>GQ a0 a1 a2 x1 w.1 w.2.1 w.2.2
 have h:=fun ho=>cA (T:=TT) (k:=k) (c:=o2) (step:=(fun (w:Int × Bool × Int)=>iU a0 a1 a2 x1 w.1 w.2.1 w.2.2)) _ _ ho hh (p5,p6,p7)
 refine Eq.trans (h (fun r s e=>by have q:=congrArg Prod.fst e; rcases r with x <;> cases q)) ?_
 unfold oU
 exact bQ _ fun x=>by rcases x with x <;> rfl
theorem LX (a0:aA) (a1:aB) (a2:Int):Vm.call TT 58 [.agg a0.cells,.agg a1.cells,.int .i64 a2] = (qU a0 a1 a2).map fun (r:Int)=>.int .i64 r:=by
 refine (bX (show TT 58 = some (.code ⟨3,100,[.tmp 6],aD2,false,false⟩) from rfl) _ rfl rfl).trans ?_
 show cX TT aD2 ⟨[(0,cW a0.cells),(1,cW a1.cells),(2,.d (.int .i64 a2))],[]⟩ _ = _
 simp -implicitDefEqProofs (decide:=true) (maxSteps:=2000000) only [aD2,qU,↓GD,↓cV,↓D0,↓DN,↓DR,DQ,DP,↓reduceIte,Int.reduceToNat,Nat.reduceBEq,Nat.reduceAdd,Nat.reduceLT,Nat.reduceLeDiff,Nat.reduceEqDiff,Int.reduceEq,ne_eq,zN,reduceCtorEq,bM,bO,bP,zM,zA,zB,aH,zC,zD,if_true,if_false,zE,zF,aD,zG,aL,zH,zI,zJ,zK,aV,aQ,aR,aT,aS,aE,aK,aJ,aF,aM,aG,aW,bA,Vm.bind_map,aI,aU,zL]
 all_goals try simp only [bF]
 all_goals try rfl
theorem yC {β:Type} (a0:aA) (a1:aB) (a2:Int) (d:Nat) (bl:List (Nat × Option aX)) (fz:List (Nat × Option aX)) (k:V→Option β) (kw:V→List (Nat × Option aX)→Option β):dM TT d bl 58 [.agg a0.cells,.agg a1.cells,.int .i64 a2] fz k kw = (qU a0 a1 a2).bind fun (r:Int)=>k (.d (.int .i64 r)):=by
 have h:=LX a0 a1 a2
 exact bR h (fun _=>rfl) fz
end Go.Proofs.Ytfhebiceipgdmaa
