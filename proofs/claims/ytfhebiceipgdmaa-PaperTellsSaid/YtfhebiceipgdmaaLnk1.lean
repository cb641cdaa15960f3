/- The functions of the small machine compute the plain definitions. Printed by a program. -/
import Derived.Test.YtfhebiceipgdmaaFn
set_option linter.unusedVariables false
set_option linter.unusedSimpArgs false
namespace Go.Proofs.Ytfhebiceipgdmaa
open Vm
open Go.RowKit
set_option maxRecDepth 100000
set_option maxHeartbeats 4000000
attribute [local congr] pR rP pQ rO
theorem DG:Vm.call TT 56 [] = (nL).map fun (r:aA × aB)=>.tup [.agg (aA.cells r.1),.agg (aB.cells r.2)]:=by
 refine (bQ (show TT 56 = some (.code ⟨0,25,[.cell 0 8 true,.cell 1 19 true],aFW,false⟩) from rfl) _ rfl).trans ?_
 show cP TT aFW ⟨[],[]⟩ _ = _
 simp -implicitDefEqProofs (decide:=true) (maxSteps:=2000000) only [aFW,nL,↓DN,↓DR,DQ,DP,↓reduceIte,Int.reduceToNat,Nat.reduceBEq,Nat.reduceAdd,Nat.reduceLT,Nat.reduceLeDiff,Nat.reduceEqDiff,Int.reduceEq,ne_eq,zN,reduceCtorEq,bJ,bM,bN,zM,zA,zB,aH,zC,zD,if_true,if_false,zE,zF,aG,zG,aJ,zH,zI,zJ,zK,aQ,aP,aV,aT,aS,aD,aL,aM,aE,aK,aF,aR,aZ,aU,aI,aW,zL]
 all_goals try simp only [bG]
 all_goals try rfl
theorem DY {β:Type} (d:Nat) (bl:List (Nat × Option aY)) (fz:List (Nat × Option aY)) (k:V→Option β) (kw:V→List (Nat × Option aY)→Option β):cH TT d bl 56 [] fz k kw = (nL).bind fun (r:aA × aB)=>LK fz (.tup [cO (aA.cells r.1),cO (aB.cells r.2)]) k kw:=by
 have h:=DG
 exact fZ h (fun _=>rfl) (fun _=>rfl) fz
theorem vI (a0:List aX):Vm.call TT 62 [.sl (cM aX.cells a0)] = (eU a0).map fun (r:(List aX))=>.own (.ref 0) [(66,9)] [cM aX.cells r]:=by
 refine (G3 (show TT 62 = some (.told o62) from rfl) _).trans ?_
 have h1:sized 9 (cM aX.cells a0) = true:=fG _ _ (fun x=>by rfl) a0
 have h2:FI (cM aX.cells a0) = true:=JZ _ _ (fun x=>rfl)
 have h3:(cM aX.cells a0).length = a0.length:=List.length_map ..
 simp only [o62,CM,h1,h2,h3,true_and,eU]
 split <;> rfl
theorem tZ (a0:List bE):Vm.call TT 63 [.sl (cM bE.cells a0)] = (eA a0).map fun (r:(List bE))=>.own (.ref 0) [(72,2)] [cM bE.cells r]:=by
 refine (G3 (show TT 63 = some (.told o63) from rfl) _).trans ?_
 have h1:sized 2 (cM bE.cells a0) = true:=fG _ _ (fun x=>by rfl) a0
 have h2:FI (cM bE.cells a0) = true:=JZ _ _ (fun x=>rfl)
 have h3:(cM bE.cells a0).length = a0.length:=List.length_map ..
 simp only [o63,CM,h1,h2,h3,true_and,eA]
 split <;> rfl
theorem wH (a0:List bP):Vm.call TT 64 [.sl (cM bP.cells a0)] = (fJ a0).map fun (r:(List bP))=>.own (.ref 0) [(81,9)] [cM bP.cells r]:=by
 refine (G3 (show TT 64 = some (.told o64) from rfl) _).trans ?_
 have h1:sized 9 (cM bP.cells a0) = true:=fG _ _ (fun x=>by rfl) a0
 have h2:FI (cM bP.cells a0) = true:=JZ _ _ (fun x=>rfl)
 have h3:(cM bP.cells a0).length = a0.length:=List.length_map ..
 simp only [o64,CM,h1,h2,h3,true_and,fJ]
 split <;> rfl
theorem vH (a0:List bS):Vm.call TT 65 [.sl (cM bS.cells a0)] = (eT a0).map fun (r:(List bS))=>.own (.ref 0) [(58,3)] [cM bS.cells r]:=by
 refine (G3 (show TT 65 = some (.told o65) from rfl) _).trans ?_
 have h1:sized 3 (cM bS.cells a0) = true:=fG _ _ (fun x=>by rfl) a0
 have h2:FI (cM bS.cells a0) = true:=JZ _ _ (fun x=>rfl)
 have h3:(cM bS.cells a0).length = a0.length:=List.length_map ..
 simp only [o65,CM,h1,h2,h3,true_and,eT]
 split <;> rfl
theorem KB (a0:aA) (p1:Int) (p2:List ByteArray):cP TT rB ⟨[(1,.ptr 1 0),(2,.own 22 0),(3,.nil),(4,.nil),(12,.d (.sl (cM bL.cells a0.Cities))),(13,.d (.int .i64 (a0.Cities.length:Int))),(14,.d (.int .i64 p1))],[(1,some (.box (aC a0.cells))),(22,some (.rows 0 9 1 (cM cS p2)))]⟩ (fun e s=>some (e,s)) = cV (fun (w:Int × (List ByteArray))=>(⟨[(1,.ptr 1 0),(2,.own 22 0),(3,.nil),(4,.nil),(12,.d (.sl (cM bL.cells a0.Cities))),(13,.d (.int .i64 (a0.Cities.length:Int))),(14,.d (.int .i64 w.1))],[(1,some (.box (aC a0.cells))),(22,some (.rows 0 9 1 (cM cS w.2)))]⟩ : St)) (fun (r:(List ByteArray))=>(((.exit 0),⟨[(1,.ptr 1 0),(2,.own 22 0),(3,.nil),(4,.nil)],[(1,some (.box (aC a0.cells))),(22,some (.rows 0 9 1 (cM cS r)))]⟩):Ex × St)) (jH a0 p1 p2):=by
 simp -implicitDefEqProofs (decide:=true) (maxSteps:=2000000) only [rB,jH,↓DN,↓DR,DQ,DP,↓reduceIte,Int.reduceToNat,Nat.reduceBEq,Nat.reduceAdd,Nat.reduceLT,Nat.reduceLeDiff,Nat.reduceEqDiff,Int.reduceEq,ne_eq,zN,reduceCtorEq,bJ,bM,bN,zM,zA,zB,aH,zC,zD,if_true,if_false,zE,zF,aG,zG,aJ,zH,zI,zJ,zK,aQ,aP,aV,aT,aS,aD,aL,aM,aE,aK,aF,aR,aZ,aU,aI,aW,zL]
 all_goals try simp only [bG]
 all_goals try rfl
theorem vY {β:Type} (a0:aA) (p1:Int) (p2:List ByteArray) (k:Ex→St→Option β):cP TT B4 ⟨[(1,.ptr 1 0),(2,.own 22 0),(3,.nil),(4,.nil),(12,.d (.sl (cM bL.cells a0.Cities))),(13,.d (.int .i64 (a0.Cities.length:Int))),(14,.d (.int .i64 p1))],[(1,some (.box (aC a0.cells))),(22,some (.rows 0 9 1 (cM cS p2)))]⟩ k = (uK a0 p1 p2).bind (fun (r:(List ByteArray))=>k (.exit 0) ⟨[(1,.ptr 1 0),(2,.own 22 0),(3,.nil),(4,.nil)],[(1,some (.box (aC a0.cells))),(22,some (.rows 0 9 1 (cM cS r)))]⟩):=by
 have hh:=fun (w:Int × (List ByteArray))=>KB a0 w.1 w.2
 have h:=fun ho=>cA (T:=TT) (k:=k) (c:=rB) (step:=(fun (w:Int × (List ByteArray))=>jH a0 w.1 w.2)) _ _ ho hh (p1,p2)
 refine Eq.trans (h (fun r s e=>by have q:=congrArg Prod.fst e; rcases r with x <;> cases q)) ?_
 unfold uK
 exact bK _ fun x=>by rcases x with x <;> rfl
theorem KJ (a0:aA) (r5:(List ByteArray)) (p6:Int) (p7:List ByteArray):cP TT rD ⟨[(1,.ptr 1 0),(2,.own 22 0),(3,.own 35 0),(4,.nil),(25,.d (.sl (cM bU.cells a0.Firms))),(26,.d (.int .i64 (a0.Firms.length:Int))),(27,.d (.int .i64 p6))],[(1,some (.box (aC a0.cells))),(22,some (.rows 0 9 1 (cM cS r5))),(35,some (.rows 0 9 1 (cM cS p7)))]⟩ (fun e s=>some (e,s)) = cV (fun (w:Int × (List ByteArray))=>(⟨[(1,.ptr 1 0),(2,.own 22 0),(3,.own 35 0),(4,.nil),(25,.d (.sl (cM bU.cells a0.Firms))),(26,.d (.int .i64 (a0.Firms.length:Int))),(27,.d (.int .i64 w.1))],[(1,some (.box (aC a0.cells))),(22,some (.rows 0 9 1 (cM cS r5))),(35,some (.rows 0 9 1 (cM cS w.2)))]⟩ : St)) (fun (r:(List ByteArray))=>(((.exit 2),⟨[(1,.ptr 1 0),(2,.own 22 0),(3,.own 35 0),(4,.nil)],[(1,some (.box (aC a0.cells))),(22,some (.rows 0 9 1 (cM cS r5))),(35,some (.rows 0 9 1 (cM cS r)))]⟩):Ex × St)) (i5 a0 r5 p6 p7):=by
 simp -implicitDefEqProofs (decide:=true) (maxSteps:=2000000) only [rD,i5,↓vY,↓DN,↓DR,DQ,DP,↓reduceIte,Int.reduceToNat,Nat.reduceBEq,Nat.reduceAdd,Nat.reduceLT,Nat.reduceLeDiff,Nat.reduceEqDiff,Int.reduceEq,ne_eq,zN,reduceCtorEq,bJ,bM,bN,zM,zA,zB,aH,zC,zD,if_true,if_false,zE,zF,aG,zG,aJ,zH,zI,zJ,zK,aQ,aP,aV,aT,aS,aD,aL,aM,aE,aK,aF,aR,aZ,aU,aI,aW,zL]
 all_goals try simp only [bG]
 all_goals try rfl
theorem BV {β:Type} (a0:aA) (r5:(List ByteArray)) (p6:Int) (p7:List ByteArray) (k:Ex→St→Option β):cP TT B5 ⟨[(1,.ptr 1 0),(2,.own 22 0),(3,.own 35 0),(4,.nil),(25,.d (.sl (cM bU.cells a0.Firms))),(26,.d (.int .i64 (a0.Firms.length:Int))),(27,.d (.int .i64 p6))],[(1,some (.box (aC a0.cells))),(22,some (.rows 0 9 1 (cM cS r5))),(35,some (.rows 0 9 1 (cM cS p7)))]⟩ k = (uI a0 r5 p6 p7).bind (fun (r:(List ByteArray))=>k (.exit 2) ⟨[(1,.ptr 1 0),(2,.own 22 0),(3,.own 35 0),(4,.nil)],[(1,some (.box (aC a0.cells))),(22,some (.rows 0 9 1 (cM cS r5))),(35,some (.rows 0 9 1 (cM cS r)))]⟩):=by
 have hh:=fun (w:Int × (List ByteArray))=>KJ a0 r5 w.1 w.2
 have h:=fun ho=>cA (T:=TT) (k:=k) (c:=rD) (step:=(fun (w:Int × (List ByteArray))=>i5 a0 r5 w.1 w.2)) _ _ ho hh (p6,p7)
 refine Eq.trans (h (fun r s e=>by have q:=congrArg Prod.fst e; rcases r with x <;> cases q)) ?_
 unfold uI
 exact bK _ fun x=>by rcases x with x <;> rfl
theorem JE (a0:aA) (r10:(List ByteArray)) (r5:(List ByteArray)) (p11:Int) (p12:List ByteArray):cP TT qV ⟨[(2,.own 22 0),(3,.own 35 0),(4,.own 48 0),(38,.d (.sl (cM bD.cells a0.Orders))),(39,.d (.int .i64 (a0.Orders.length:Int))),(40,.d (.int .i64 p11))],[(22,some (.rows 0 9 1 (cM cS r5))),(35,some (.rows 0 9 1 (cM cS r10))),(48,some (.rows 0 9 1 (cM cS p12)))]⟩ (fun e s=>some (e,s)) = cV (fun (w:Int × (List ByteArray))=>(⟨[(2,.own 22 0),(3,.own 35 0),(4,.own 48 0),(38,.d (.sl (cM bD.cells a0.Orders))),(39,.d (.int .i64 (a0.Orders.length:Int))),(40,.d (.int .i64 w.1))],[(22,some (.rows 0 9 1 (cM cS r5))),(35,some (.rows 0 9 1 (cM cS r10))),(48,some (.rows 0 9 1 (cM cS w.2)))]⟩ : St)) (fun (r:(List ByteArray))=>(((.exit 4),⟨[(2,.own 22 0),(3,.own 35 0),(4,.own 48 0)],[(22,some (.rows 0 9 1 (cM cS r5))),(35,some (.rows 0 9 1 (cM cS r10))),(48,some (.rows 0 9 1 (cM cS r)))]⟩):Ex × St)) (jY a0 r10 r5 p11 p12):=by
 simp -implicitDefEqProofs (decide:=true) (maxSteps:=2000000) only [qV,jY,↓vY,↓BV,↓DN,↓DR,DQ,DP,↓reduceIte,Int.reduceToNat,Nat.reduceBEq,Nat.reduceAdd,Nat.reduceLT,Nat.reduceLeDiff,Nat.reduceEqDiff,Int.reduceEq,ne_eq,zN,reduceCtorEq,bJ,bM,bN,zM,zA,zB,aH,zC,zD,if_true,if_false,zE,zF,aG,zG,aJ,zH,zI,zJ,zK,aQ,aP,aV,aT,aS,aD,aL,aM,aE,aK,aF,aR,aZ,aU,aI,aW,zL]
 all_goals try simp only [bG]
 all_goals try rfl
theorem JQ {β:Type} (a0:aA) (r10:(List ByteArray)) (r5:(List ByteArray)) (p11:Int) (p12:List ByteArray) (k:Ex→St→Option β):cP TT B1 ⟨[(2,.own 22 0),(3,.own 35 0),(4,.own 48 0),(38,.d (.sl (cM bD.cells a0.Orders))),(39,.d (.int .i64 (a0.Orders.length:Int))),(40,.d (.int .i64 p11))],[(22,some (.rows 0 9 1 (cM cS r5))),(35,some (.rows 0 9 1 (cM cS r10))),(48,some (.rows 0 9 1 (cM cS p12)))]⟩ k = (uD a0 r10 r5 p11 p12).bind (fun (r:(List ByteArray))=>k (.exit 4) ⟨[(2,.own 22 0),(3,.own 35 0),(4,.own 48 0)],[(22,some (.rows 0 9 1 (cM cS r5))),(35,some (.rows 0 9 1 (cM cS r10))),(48,some (.rows 0 9 1 (cM cS r)))]⟩):=by
 have hh:=fun (w:Int × (List ByteArray))=>JE a0 r10 r5 w.1 w.2
 have h:=fun ho=>cA (T:=TT) (k:=k) (c:=qV) (step:=(fun (w:Int × (List ByteArray))=>jY a0 r10 r5 w.1 w.2)) _ _ ho hh (p11,p12)
 refine Eq.trans (h (fun r s e=>by have q:=congrArg Prod.fst e; rcases r with x <;> cases q)) ?_
 unfold uD
 exact bK _ fun x=>by rcases x with x <;> rfl
theorem O3 (a0:aA):Vm.call TT 91 [.agg a0.cells] = (sQ a0).map fun (r:(List ByteArray) × (List ByteArray) × (List ByteArray))=>.tup [.sl (cM cS r.1),.sl (cM cS r.2.1),.sl (cM cS r.2.2)]:=by
 refine (bQ (show TT 91 = some (.code ⟨1,53,[.tmp 2,.tmp 3,.tmp 4],aIe,false⟩) from rfl) _ rfl).trans ?_
 show cP TT aIe ⟨[(0,cO a0.cells)],[]⟩ _ = _
 simp -implicitDefEqProofs (decide:=true) (maxSteps:=2000000) only [aIe,sQ,↓vY,↓BV,↓JQ,↓DN,↓DR,DQ,DP,↓reduceIte,Int.reduceToNat,Nat.reduceBEq,Nat.reduceAdd,Nat.reduceLT,Nat.reduceLeDiff,Nat.reduceEqDiff,Int.reduceEq,ne_eq,zN,reduceCtorEq,bJ,bM,bN,zM,zA,zB,aH,zC,zD,if_true,if_false,zE,zF,aG,zG,aJ,zH,zI,zJ,zK,aQ,aP,aV,aT,aS,aD,aL,aM,aE,aK,aF,aR,aZ,aU,aI,aW,zL]
 all_goals try simp only [bG]
 all_goals try rfl
theorem GJ {β:Type} (a0:aA) (d:Nat) (bl:List (Nat × Option aY)) (fz:List (Nat × Option aY)) (k:V→Option β) (kw:V→List (Nat × Option aY)→Option β):cH TT d bl 91 [.agg a0.cells] fz k kw = (sQ a0).bind fun (r:(List ByteArray) × (List ByteArray) × (List ByteArray))=>LK fz (.tup [.d (.sl (cM cS r.1)),.d (.sl (cM cS r.2.1)),.d (.sl (cM cS r.2.2))]) k kw:=by
 have h:=O3 a0
 exact fZ h (fun _=>rfl) (fun _=>rfl) fz
theorem A0 {β:Type} (a0:ByteArray) (p1:Int) (x2:Int) (p3:Bool) (k:Ex→St→Option β):cP TT uN ⟨[(3,.d (.int .i64 p1)),(4,.d (.int .u8 x2)),(5,.d (.bool p3)),(14,.d (.sl (cM (cK .u8) (kF a0)))),(15,.d (.int .i64 ((kF a0).length:Int))),(16,.d (.int .i64 p1))],[]⟩ k = (gK a0 p1 x2 p3).bind (fun (r:Unit ⊕ Unit)=>Sum.elim (fun (z:Unit)=>k .normal ⟨[(14,.d (.sl (cM (cK .u8) (kF a0)))),(15,.d (.int .i64 ((kF a0).length:Int))),(16,.d (.int .i64 p1))],[]⟩) (fun (z:Unit)=>k .ret ⟨[(2,.d (.bool false))],[]⟩) r):=by
 simp -implicitDefEqProofs (decide:=true) (maxSteps:=2000000) only [uN,gK,↓DN,↓DR,DQ,DP,↓reduceIte,Int.reduceToNat,Nat.reduceBEq,Nat.reduceAdd,Nat.reduceLT,Nat.reduceLeDiff,Nat.reduceEqDiff,Int.reduceEq,ne_eq,zN,reduceCtorEq,bJ,bM,bN,zM,zA,zB,aH,zC,zD,if_true,if_false,zE,zF,aG,zG,aJ,zH,zI,zJ,zK,aQ,aP,aV,aT,aS,aD,aL,aM,aE,aK,aF,aR,aZ,aU,aI,aW,zL]
 all_goals try simp only [bG]
 all_goals try rfl
theorem IM (a0:ByteArray) (p1:Int):cP TT qB ⟨[(14,.d (.sl (cM (cK .u8) (kF a0)))),(15,.d (.int .i64 ((kF a0).length:Int))),(16,.d (.int .i64 p1))],[]⟩ (fun e s=>some (e,s)) = cV (fun (w:Int)=>(⟨[(14,.d (.sl (cM (cK .u8) (kF a0)))),(15,.d (.int .i64 ((kF a0).length:Int))),(16,.d (.int .i64 w))],[]⟩ : St)) (fun (r:Unit ⊕ Unit)=>Sum.elim (fun (z:Unit)=>(((.exit 0),⟨[],[]⟩):Ex × St)) (fun (z:Unit)=>((.ret,⟨[(2,.d (.bool false))],[]⟩):Ex × St)) r) (iA a0 p1):=by
 simp -implicitDefEqProofs (decide:=true) (maxSteps:=2000000) only [qB,iA,↓A0,↓DN,↓DR,DQ,DP,↓reduceIte,Int.reduceToNat,Nat.reduceBEq,Nat.reduceAdd,Nat.reduceLT,Nat.reduceLeDiff,Nat.reduceEqDiff,Int.reduceEq,ne_eq,zN,reduceCtorEq,bJ,bM,bN,zM,zA,zB,aH,zC,zD,if_true,if_false,zE,zF,aG,zG,aJ,zH,zI,zJ,zK,aQ,aP,aV,aT,aS,aD,aL,aM,aE,aK,aF,aR,aZ,aU,aI,aW,zL]
 all_goals try simp only [bG]
 all_goals try rfl
theorem IL {β:Type} (a0:ByteArray) (p1:Int) (k:Ex→St→Option β):cP TT zY ⟨[(14,.d (.sl (cM (cK .u8) (kF a0)))),(15,.d (.int .i64 ((kF a0).length:Int))),(16,.d (.int .i64 p1))],[]⟩ k = (sG a0 p1).bind (fun (r:Unit ⊕ Unit)=>Sum.elim (fun (z:Unit)=>k (.exit 0) ⟨[],[]⟩) (fun (z:Unit)=>k .ret ⟨[(2,.d (.bool false))],[]⟩) r):=by
 have hh:=fun (w:Int)=>IM a0 w
 have h:=fun ho=>cA (T:=TT) (k:=k) (c:=qB) (step:=(fun (w:Int)=>iA a0 w)) _ _ ho hh p1
 refine Eq.trans (h (fun r s e=>by have q:=congrArg Prod.fst e; rcases r with x | x <;> cases q)) ?_
 unfold sG
 exact bK _ fun x=>by rcases x with x | x <;> rfl
theorem MY (a0:ByteArray):Vm.call TT 115 [.str a0] = (qN a0).map fun (r:Bool)=>.bool r:=by
 refine (bQ (show TT 115 = some (.code ⟨1,54,[.tmp 2],ZE,false⟩) from rfl) _ rfl).trans ?_
 show cP TT ZE ⟨[(0,.d (.str a0))],[]⟩ _ = _
 simp -implicitDefEqProofs (decide:=true) (maxSteps:=2000000) only [ZE,qN,↓A0,↓IL,↓DN,↓DR,DQ,DP,↓reduceIte,Int.reduceToNat,Nat.reduceBEq,Nat.reduceAdd,Nat.reduceLT,Nat.reduceLeDiff,Nat.reduceEqDiff,Int.reduceEq,ne_eq,zN,reduceCtorEq,bJ,bM,bN,zM,zA,zB,aH,zC,zD,if_true,if_false,zE,zF,aG,zG,aJ,zH,zI,zJ,zK,aQ,aP,aV,aT,aS,aD,aL,aM,aE,aK,aF,aR,aZ,aU,aI,aW,zL]
 all_goals try simp only [bG]
 all_goals try rfl
theorem MV {β:Type} (a0:ByteArray) (d:Nat) (bl:List (Nat × Option aY)) (fz:List (Nat × Option aY)) (k:V→Option β) (kw:V→List (Nat × Option aY)→Option β):cH TT d bl 115 [.str a0] fz k kw = (qN a0).bind fun (r:Bool)=>k (.d (.bool r)):=by
 have h:=MY a0
 exact bI h (fun _=>rfl) fz
theorem wC (a0:List ByteArray) (a1:ByteArray) (p1:Int):cP TT gB ⟨[(0,.d (.sl (cM cS a0))),(1,.d (.str a1)),(7,.d (.int .i64 (a0.length:Int))),(8,.d (.int .i64 p1))],[]⟩ (fun e s=>some (e,s)) = cV (fun (w:Int)=>(⟨[(0,.d (.sl (cM cS a0))),(1,.d (.str a1)),(7,.d (.int .i64 (a0.length:Int))),(8,.d (.int .i64 w))],[]⟩ : St)) (fun (r:Unit ⊕ Int)=>Sum.elim (fun (z:Unit)=>(((.exit 0),⟨[],[]⟩):Ex × St)) (fun (z:Int)=>((.ret,⟨[(4,.d (.int .i64 z))],[]⟩):Ex × St)) r) (cT a0 a1 p1):=by
 simp -implicitDefEqProofs (decide:=true) (maxSteps:=2000000) only [gB,cT,↓DN,↓DR,DQ,DP,↓reduceIte,Int.reduceToNat,Nat.reduceBEq,Nat.reduceAdd,Nat.reduceLT,Nat.reduceLeDiff,Nat.reduceEqDiff,Int.reduceEq,ne_eq,zN,reduceCtorEq,bJ,bM,bN,zM,zA,zB,aH,zC,zD,if_true,if_false,zE,zF,aG,zG,aJ,zH,zI,zJ,zK,aQ,aP,aV,aT,aS,aD,aL,aM,aE,aK,aF,aR,aZ,aU,aI,aW,zL]
 all_goals try simp only [bG]
 all_goals try rfl
theorem vK {β:Type} (a0:List ByteArray) (a1:ByteArray) (p1:Int) (k:Ex→St→Option β):cP TT nY ⟨[(0,.d (.sl (cM cS a0))),(1,.d (.str a1)),(7,.d (.int .i64 (a0.length:Int))),(8,.d (.int .i64 p1))],[]⟩ k = (gJ a0 a1 p1).bind (fun (r:Unit ⊕ Int)=>Sum.elim (fun (z:Unit)=>k (.exit 0) ⟨[],[]⟩) (fun (z:Int)=>k .ret ⟨[(4,.d (.int .i64 z))],[]⟩) r):=by
 have hh:=fun (w:Int)=>wC a0 a1 w
 have h:=fun ho=>cA (T:=TT) (k:=k) (c:=gB) (step:=(fun (w:Int)=>cT a0 a1 w)) _ _ ho hh p1
 refine Eq.trans (h (fun r s e=>by have q:=congrArg Prod.fst e; rcases r with x | x <;> cases q)) ?_
 unfold gJ
 exact bK _ fun x=>by rcases x with x | x <;> rfl
theorem xX (a0:List ByteArray) (a1:ByteArray):Vm.call TT 121 [.sl (cM cS a0),.str a1] = (eR a0 a1).map fun (r:Int)=>.int .i64 r:=by
 refine (bQ (show TT 121 = some (.code ⟨2,19,[.tmp 4],ZH,false⟩) from rfl) _ rfl).trans ?_
 show cP TT ZH ⟨[(0,.d (.sl (cM cS a0))),(1,.d (.str a1))],[]⟩ _ = _
 simp -implicitDefEqProofs (decide:=true) (maxSteps:=2000000) only [ZH,eR,↓vK,↓DN,↓DR,DQ,DP,↓reduceIte,Int.reduceToNat,Nat.reduceBEq,Nat.reduceAdd,Nat.reduceLT,Nat.reduceLeDiff,Nat.reduceEqDiff,Int.reduceEq,ne_eq,zN,reduceCtorEq,bJ,bM,bN,zM,zA,zB,aH,zC,zD,if_true,if_false,zE,zF,aG,zG,aJ,zH,zI,zJ,zK,aQ,aP,aV,aT,aS,aD,aL,aM,aE,aK,aF,aR,aZ,aU,aI,aW,zL]
 all_goals try simp only [bG]
 all_goals try rfl
theorem xZ {β:Type} (a0:List ByteArray) (a1:ByteArray) (d:Nat) (bl:List (Nat × Option aY)) (fz:List (Nat × Option aY)) (k:V→Option β) (kw:V→List (Nat × Option aY)→Option β):cH TT d bl 121 [.sl (cM cS a0),.str a1] fz k kw = (eR a0 a1).bind fun (r:Int)=>k (.d (.int .i64 r)):=by
 have h:=xX a0 a1
 exact bI h (fun _=>rfl) fz
theorem vM (a0:List ByteArray) (a1:ByteArray):Vm.call TT 116 [.sl (cM cS a0),.str a1] = (dT a0 a1).map fun (r:Bool)=>.bool r:=by
 refine (bQ (show TT 116 = some (.code ⟨2,9,[.tmp 4],ZP,false⟩) from rfl) _ rfl).trans ?_
 show cP TT ZP ⟨[(0,.d (.sl (cM cS a0))),(1,.d (.str a1))],[]⟩ _ = _
 simp -implicitDefEqProofs (decide:=true) (maxSteps:=2000000) only [ZP,dT,↓xZ,↓DN,↓DR,DQ,DP,↓reduceIte,Int.reduceToNat,Nat.reduceBEq,Nat.reduceAdd,Nat.reduceLT,Nat.reduceLeDiff,Nat.reduceEqDiff,Int.reduceEq,ne_eq,zN,reduceCtorEq,bJ,bM,bN,zM,zA,zB,aH,zC,zD,if_true,if_false,zE,zF,aG,zG,aJ,zH,zI,zJ,zK,aQ,aP,aV,aT,aS,aD,aL,aM,aE,aK,aF,aR,aZ,aU,aI,aW,zL]
 all_goals try simp only [bG]
 all_goals try rfl
theorem wB {β:Type} (a0:List ByteArray) (a1:ByteArray) (d:Nat) (bl:List (Nat × Option aY)) (fz:List (Nat × Option aY)) (k:V→Option β) (kw:V→List (Nat × Option aY)→Option β):cH TT d bl 116 [.sl (cM cS a0),.str a1] fz k kw = (dT a0 a1).bind fun (r:Bool)=>k (.d (.bool r)):=by
 have h:=vM a0 a1
 exact bI h (fun _=>rfl) fz
theorem OW (a0:List ByteArray) (a1:Int):Vm.call TT 109 [.sl (cM cS a0),.int .i64 a1] = (lT a0 a1).map fun (r:Int)=>.int .i64 r:=by
 refine (bQ (show TT 109 = some (.code ⟨2,19,[.tmp 4],Z0,false⟩) from rfl) _ rfl).trans ?_
 show cP TT Z0 ⟨[(0,.d (.sl (cM cS a0))),(1,.d (.int .i64 a1))],[]⟩ _ = _
 simp -implicitDefEqProofs (decide:=true) (maxSteps:=2000000) only [Z0,lT,↓MV,↓wB,↓DN,↓DR,DQ,DP,↓reduceIte,Int.reduceToNat,Nat.reduceBEq,Nat.reduceAdd,Nat.reduceLT,Nat.reduceLeDiff,Nat.reduceEqDiff,Int.reduceEq,ne_eq,zN,reduceCtorEq,bJ,bM,bN,zM,zA,zB,aH,zC,zD,if_true,if_false,zE,zF,aG,zG,aJ,zH,zI,zJ,zK,aQ,aP,aV,aT,aS,aD,aL,aM,aE,aK,aF,aR,aZ,aU,aI,aW,zL]
 all_goals try simp only [bG]
 all_goals try rfl
theorem lY {β:Type} (a0:List ByteArray) (a1:Int) (d:Nat) (bl:List (Nat × Option aY)) (fz:List (Nat × Option aY)) (k:V→Option β) (kw:V→List (Nat × Option aY)→Option β):cH TT d bl 109 [.sl (cM cS a0),.int .i64 a1] fz k kw = (lT a0 a1).bind fun (r:Int)=>k (.d (.int .i64 r)):=by
 have h:=OW a0 a1
 exact bI h (fun _=>rfl) fz
theorem KU (a0:Int):Vm.call TT 93 [.int .i64 a0] = (rL a0).map fun (r:Bool)=>.bool r:=by
 refine (bQ (show TT 93 = some (.code ⟨1,3,[.tmp 2],aFD,false⟩) from rfl) _ rfl).trans ?_
 show cP TT aFD ⟨[(0,.d (.int .i64 a0))],[]⟩ _ = _
 simp -implicitDefEqProofs (decide:=true) (maxSteps:=2000000) only [aFD,rL,↓DN,↓DR,DQ,DP,↓reduceIte,Int.reduceToNat,Nat.reduceBEq,Nat.reduceAdd,Nat.reduceLT,Nat.reduceLeDiff,Nat.reduceEqDiff,Int.reduceEq,ne_eq,zN,reduceCtorEq,bJ,bM,bN,zM,zA,zB,aH,zC,zD,if_true,if_false,zE,zF,aG,zG,aJ,zH,zI,zJ,zK,aQ,aP,aV,aT,aS,aD,aL,aM,aE,aK,aF,aR,aZ,aU,aI,aW,zL]
 all_goals try simp only [bG]
 all_goals try rfl
theorem D7 {β:Type} (a0:Int) (d:Nat) (bl:List (Nat × Option aY)) (fz:List (Nat × Option aY)) (k:V→Option β) (kw:V→List (Nat × Option aY)→Option β):cH TT d bl 93 [.int .i64 a0] fz k kw = (rL a0).bind fun (r:Bool)=>k (.d (.bool r)):=by
 have h:=KU a0
 exact bI h (fun _=>rfl) fz
theorem H0 (a0:List ByteArray) (p1:Int):cP TT dS ⟨[(0,.d (.sl (cM cS a0))),(2,.d (.fn 93 [])),(14,.d (.int .i64 (a0.length:Int))),(15,.d (.int .i64 p1))],[]⟩ (fun e s=>some (e,s)) = cV (fun (w:Int)=>(⟨[(0,.d (.sl (cM cS a0))),(2,.d (.fn 93 [])),(14,.d (.int .i64 (a0.length:Int))),(15,.d (.int .i64 w))],[]⟩ : St)) (fun (r:Unit ⊕ Int)=>Sum.elim (fun (z:Unit)=>(((.exit 0),⟨[],[]⟩):Ex × St)) (fun (z:Int)=>((.ret,⟨[(6,.d (.int .i64 z))],[]⟩):Ex × St)) r) (mV a0 p1):=by
 simp -implicitDefEqProofs (decide:=true) (maxSteps:=2000000) only [dS,mV,↓D7,↓lY,↓DN,↓DR,DQ,DP,↓reduceIte,Int.reduceToNat,Nat.reduceBEq,Nat.reduceAdd,Nat.reduceLT,Nat.reduceLeDiff,Nat.reduceEqDiff,Int.reduceEq,ne_eq,zN,reduceCtorEq,bJ,bM,bN,zM,zA,zB,aH,zC,zD,if_true,if_false,zE,zF,aG,zG,aJ,zH,zI,zJ,zK,aQ,aP,aV,aT,aS,aD,aL,aM,aE,aK,aF,aR,aZ,aU,aI,aW,zL]
 all_goals try simp only [bG]
 all_goals try rfl
theorem H5 {β:Type} (a0:List ByteArray) (p1:Int) (k:Ex→St→Option β):cP TT pD ⟨[(0,.d (.sl (cM cS a0))),(2,.d (.fn 93 [])),(14,.d (.int .i64 (a0.length:Int))),(15,.d (.int .i64 p1))],[]⟩ k = (vQ a0 p1).bind (fun (r:Unit ⊕ Int)=>Sum.elim (fun (z:Unit)=>k (.exit 0) ⟨[],[]⟩) (fun (z:Int)=>k .ret ⟨[(6,.d (.int .i64 z))],[]⟩) r):=by
 have hh:=fun (w:Int)=>H0 a0 w
 have h:=fun ho=>cA (T:=TT) (k:=k) (c:=dS) (step:=(fun (w:Int)=>mV a0 w)) _ _ ho hh p1
 refine Eq.trans (h (fun r s e=>by have q:=congrArg Prod.fst e; rcases r with x | x <;> cases q)) ?_
 unfold vQ
 exact bK _ fun x=>by rcases x with x | x <;> rfl
theorem LG (a0:List ByteArray) (a1:Int):Vm.call TT 92 [.sl (cM cS a0),.int .i64 a1,.fn 93 []] = (pF a0 a1).map fun (r:Int)=>.int .i64 r:=by
 refine (bQ (show TT 92 = some (.code ⟨3,29,[.tmp 6],K3,false⟩) from rfl) _ rfl).trans ?_
 show cP TT K3 ⟨[(0,.d (.sl (cM cS a0))),(1,.d (.int .i64 a1)),(2,.d (.fn 93 []))],[]⟩ _ = _
 simp -implicitDefEqProofs (decide:=true) (maxSteps:=2000000) only [K3,pF,↓H5,↓D7,↓lY,↓DN,↓DR,DQ,DP,↓reduceIte,Int.reduceToNat,Nat.reduceBEq,Nat.reduceAdd,Nat.reduceLT,Nat.reduceLeDiff,Nat.reduceEqDiff,Int.reduceEq,ne_eq,zN,reduceCtorEq,bJ,bM,bN,zM,zA,zB,aH,zC,zD,if_true,if_false,zE,zF,aG,zG,aJ,zH,zI,zJ,zK,aQ,aP,aV,aT,aS,aD,aL,aM,aE,aK,aF,aR,aZ,aU,aI,aW,zL]
 all_goals try simp only [bG]
 all_goals try rfl
theorem D9 {β:Type} (a0:List ByteArray) (a1:Int) (d:Nat) (bl:List (Nat × Option aY)) (fz:List (Nat × Option aY)) (k:V→Option β) (kw:V→List (Nat × Option aY)→Option β):cH TT d bl 92 [.sl (cM cS a0),.int .i64 a1,.fn 93 []] fz k kw = (pF a0 a1).bind fun (r:Int)=>k (.d (.int .i64 r)):=by
 have h:=LG a0 a1
 exact bI h (fun _=>rfl) fz
end Go.Proofs.Ytfhebiceipgdmaa
