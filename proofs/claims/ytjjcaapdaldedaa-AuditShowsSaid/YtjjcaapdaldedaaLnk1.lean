/- The functions of the small machine compute the plain definitions. Printed by a program. -/
import Derived.Test.YtjjcaapdaldedaaFn
set_option linter.unusedVariables false
set_option linter.unusedSimpArgs false
namespace Go.Proofs.Ytjjcaapdaldedaa
open Vm
open Go.RowKit
set_option maxRecDepth 100000
set_option maxHeartbeats 4000000
attribute [local congr] u9 xI vD wQ
theorem zS (a0:ByteArray) (a1 p1:Int) (p2:List dL):eL TT jZ ⟨[(1,.d (.int .i64 a1)),(4,.ptr 4 0),(5,.ptr 5 0),(6,.d (.int .i64 p1))],[(4,some (.box [.d (.str ByteArray.empty),.d (.bool false),.nil,.nil])),(5,some (.box [.d (.str a0),.d (.bool false),.nil,.own 22 0])),(22,some (.rows 0 69 4 (cM dL.cells p2)))]⟩ (fun e s=>some (e,s)) = eZ (fun (w:Int × (List dL))=>(⟨[(1,.d (.int .i64 a1)),(4,.ptr 4 0),(5,.ptr 5 0),(6,.d (.int .i64 w.1))],[(4,some (.box [.d (.str ByteArray.empty),.d (.bool false),.nil,.nil])),(5,some (.box [.d (.str a0),.d (.bool false),.nil,.own 22 0])),(22,some (.rows 0 69 4 (cM dL.cells w.2)))]⟩ : St)) (fun (r:(List dL))=>(((.exit 0),⟨[(4,.ptr 4 0),(5,.ptr 5 0)],[(4,some (.box [.d (.str ByteArray.empty),.d (.bool false),.nil,.nil])),(5,some (.box [.d (.str a0),.d (.bool false),.nil,.own 22 0])),(22,some (.rows 0 69 4 (cM dL.cells r)))]⟩):Ex × St)) (j6 a0 a1 p1 p2):=by
 simp -implicitDefEqProofs (decide:=true) (maxSteps:=2000000) only [jZ,j6,↓DN,↓DR,DQ,DP,↓reduceIte,Int.reduceToNat,Nat.reduceBEq,Nat.reduceAdd,Nat.reduceLT,Nat.reduceLeDiff,Nat.reduceEqDiff,Int.reduceEq,ne_eq,zN,reduceCtorEq,dA,dF,dE,zM,zA,zB,aI,zC,zD,if_true,if_false,zE,zF,aC,zG,aJ,zH,zI,zJ,zK,aX,aS,aV,aY,aW,aF,aK,aO,aG,aL,aE,aT,bW,Vm.bind_map,aP,aU,zL]
 all_goals try simp only [cN]
 all_goals try rfl
theorem zP {β:Type} (a0:ByteArray) (a1 p1:Int) (p2:List dL) (k:Ex->St->Option β):eL TT rV ⟨[(1,.d (.int .i64 a1)),(4,.ptr 4 0),(5,.ptr 5 0),(6,.d (.int .i64 p1))],[(4,some (.box [.d (.str ByteArray.empty),.d (.bool false),.nil,.nil])),(5,some (.box [.d (.str a0),.d (.bool false),.nil,.own 22 0])),(22,some (.rows 0 69 4 (cM dL.cells p2)))]⟩ k = (oF a0 a1 p1 p2).bind (fun (r:(List dL))=>k (.exit 0) ⟨[(4,.ptr 4 0),(5,.ptr 5 0)],[(4,some (.box [.d (.str ByteArray.empty),.d (.bool false),.nil,.nil])),(5,some (.box [.d (.str a0),.d (.bool false),.nil,.own 22 0])),(22,some (.rows 0 69 4 (cM dL.cells r)))]⟩):=by
 have hh:=fun (w:Int × (List dL))=>zS a0 a1 w.1 w.2
 have h:=fun ho=>dS (T:=TT) (k:=k) (c:=jZ) (step:=(fun (w:Int × (List dL))=>j6 a0 a1 w.1 w.2)) _ _ ho hh (p1,p2)
 refine Eq.trans (h (fun r s e=>by have q:=congrArg Prod.fst e; rcases r with x <;> cases q)) ?_
 unfold oF
 exact cZ _ fun x=>by rcases x with x <;> rfl
theorem B4 (a0:ByteArray) (a1:Int):Vm.call TT 15 [.str a0,.int .i64 a1] = (k8 a0 a1).map fun (r:b4)=>.agg r.cells:=by
 refine (dQ (show TT 15 = some (.code ⟨2,25,[.cell 4 4 true],aDJ,false,false⟩) from rfl) _ rfl rfl).trans ?_
 show eL TT aDJ ⟨[(0,.d (.str a0)),(1,.d (.int .i64 a1))],[]⟩ _ = _
 simp -implicitDefEqProofs (decide:=true) (maxSteps:=2000000) only [aDJ,k8,↓zP,↓DN,↓DR,DQ,DP,↓reduceIte,Int.reduceToNat,Nat.reduceBEq,Nat.reduceAdd,Nat.reduceLT,Nat.reduceLeDiff,Nat.reduceEqDiff,Int.reduceEq,ne_eq,zN,reduceCtorEq,dA,dF,dE,zM,zA,zB,aI,zC,zD,if_true,if_false,zE,zF,aC,zG,aJ,zH,zI,zJ,zK,aX,aS,aV,aY,aW,aF,aK,aO,aG,aL,aE,aT,bW,Vm.bind_map,aP,aU,zL]
 all_goals try simp only [cN]
 all_goals try rfl
theorem B7 {β:Type} (a0:ByteArray) (a1:Int) (d:Nat) (bl fz:List (Nat × Option aR)) (k:V->Option β) (kw:V->List (Nat × Option aR)->Option β):eK TT d bl 15 [.str a0,.int .i64 a1] fz k kw = (k8 a0 a1).bind fun (r:b4)=>UU fz (iS r.cells) k kw:=by
 have h:=B4 a0 a1
 exact uJ h (fun _=>rfl) (fun _=>rfl) fz
theorem AE:Vm.call TT 16 [] = (lS).map fun (r:aB)=>.agg r.cells:=by
 refine (dQ (show TT 16 = some (.code ⟨0,16,[.cell 0 8 true],aDm,false,false⟩) from rfl) _ rfl rfl).trans ?_
 show eL TT aDm ⟨[],[]⟩ _ = _
 simp -implicitDefEqProofs (decide:=true) (maxSteps:=2000000) only [aDm,lS,↓B7,↓DN,↓DR,DQ,DP,↓reduceIte,Int.reduceToNat,Nat.reduceBEq,Nat.reduceAdd,Nat.reduceLT,Nat.reduceLeDiff,Nat.reduceEqDiff,Int.reduceEq,ne_eq,zN,reduceCtorEq,dA,dF,dE,zM,zA,zB,aI,zC,zD,if_true,if_false,zE,zF,aC,zG,aJ,zH,zI,zJ,zK,aX,aS,aV,aY,aW,aF,aK,aO,aG,aL,aE,aT,bW,Vm.bind_map,aP,aU,zL]
 all_goals try simp only [cN]
 all_goals try rfl
theorem AZ {β:Type} (d:Nat) (bl fz:List (Nat × Option aR)) (k:V->Option β) (kw:V->List (Nat × Option aR)->Option β):eK TT d bl 16 [] fz k kw = (lS).bind fun (r:aB)=>UU fz (iS r.cells) k kw:=by
 have h:=AE
 exact uJ h (fun _=>rfl) (fun _=>rfl) fz
theorem FV (a0:aB) (p1:Int) (p2:List ByteArray):eL TT pT ⟨[(1,.ptr 1 0),(2,.own 22 0),(3,.nil),(4,.nil),(12,.d (.sl (cM dT.cells a0.Cities))),(13,.d (.int .i64 (a0.Cities.length:Int))),(14,.d (.int .i64 p1))],[(1,some (.box (aD a0.cells))),(22,some (.rows 0 9 1 (cM cS p2)))]⟩ (fun e s=>some (e,s)) = eZ (fun (w:Int × (List ByteArray))=>(⟨[(1,.ptr 1 0),(2,.own 22 0),(3,.nil),(4,.nil),(12,.d (.sl (cM dT.cells a0.Cities))),(13,.d (.int .i64 (a0.Cities.length:Int))),(14,.d (.int .i64 w.1))],[(1,some (.box (aD a0.cells))),(22,some (.rows 0 9 1 (cM cS w.2)))]⟩ : St)) (fun (r:(List ByteArray))=>(((.exit 0),⟨[(1,.ptr 1 0),(2,.own 22 0),(3,.nil),(4,.nil)],[(1,some (.box (aD a0.cells))),(22,some (.rows 0 9 1 (cM cS r)))]⟩):Ex × St)) (jE a0 p1 p2):=by
 simp -implicitDefEqProofs (decide:=true) (maxSteps:=2000000) only [pT,jE,↓DN,↓DR,DQ,DP,↓reduceIte,Int.reduceToNat,Nat.reduceBEq,Nat.reduceAdd,Nat.reduceLT,Nat.reduceLeDiff,Nat.reduceEqDiff,Int.reduceEq,ne_eq,zN,reduceCtorEq,dA,dF,dE,zM,zA,zB,aI,zC,zD,if_true,if_false,zE,zF,aC,zG,aJ,zH,zI,zJ,zK,aX,aS,aV,aY,aW,aF,aK,aO,aG,aL,aE,aT,bW,Vm.bind_map,aP,aU,zL]
 all_goals try simp only [cN]
 all_goals try rfl
theorem s6 {β:Type} (a0:aB) (p1:Int) (p2:List ByteArray) (k:Ex->St->Option β):eL TT yG ⟨[(1,.ptr 1 0),(2,.own 22 0),(3,.nil),(4,.nil),(12,.d (.sl (cM dT.cells a0.Cities))),(13,.d (.int .i64 (a0.Cities.length:Int))),(14,.d (.int .i64 p1))],[(1,some (.box (aD a0.cells))),(22,some (.rows 0 9 1 (cM cS p2)))]⟩ k = (sB a0 p1 p2).bind (fun (r:(List ByteArray))=>k (.exit 0) ⟨[(1,.ptr 1 0),(2,.own 22 0),(3,.nil),(4,.nil)],[(1,some (.box (aD a0.cells))),(22,some (.rows 0 9 1 (cM cS r)))]⟩):=by
 have hh:=fun (w:Int × (List ByteArray))=>FV a0 w.1 w.2
 have h:=fun ho=>dS (T:=TT) (k:=k) (c:=pT) (step:=(fun (w:Int × (List ByteArray))=>jE a0 w.1 w.2)) _ _ ho hh (p1,p2)
 refine Eq.trans (h (fun r s e=>by have q:=congrArg Prod.fst e; rcases r with x <;> cases q)) ?_
 unfold sB
 exact cZ _ fun x=>by rcases x with x <;> rfl
theorem FF (a0:aB) (r5:(List ByteArray)) (p6:Int) (p7:List ByteArray):eL TT pU ⟨[(1,.ptr 1 0),(2,.own 22 0),(3,.own 35 0),(4,.nil),(25,.d (.sl (cM eV.cells a0.Firms))),(26,.d (.int .i64 (a0.Firms.length:Int))),(27,.d (.int .i64 p6))],[(1,some (.box (aD a0.cells))),(22,some (.rows 0 9 1 (cM cS r5))),(35,some (.rows 0 9 1 (cM cS p7)))]⟩ (fun e s=>some (e,s)) = eZ (fun (w:Int × (List ByteArray))=>(⟨[(1,.ptr 1 0),(2,.own 22 0),(3,.own 35 0),(4,.nil),(25,.d (.sl (cM eV.cells a0.Firms))),(26,.d (.int .i64 (a0.Firms.length:Int))),(27,.d (.int .i64 w.1))],[(1,some (.box (aD a0.cells))),(22,some (.rows 0 9 1 (cM cS r5))),(35,some (.rows 0 9 1 (cM cS w.2)))]⟩ : St)) (fun (r:(List ByteArray))=>(((.exit 2),⟨[(1,.ptr 1 0),(2,.own 22 0),(3,.own 35 0),(4,.nil)],[(1,some (.box (aD a0.cells))),(22,some (.rows 0 9 1 (cM cS r5))),(35,some (.rows 0 9 1 (cM cS r)))]⟩):Ex × St)) (jC a0 r5 p6 p7):=by
 simp -implicitDefEqProofs (decide:=true) (maxSteps:=2000000) only [pU,jC,↓s6,↓DN,↓DR,DQ,DP,↓reduceIte,Int.reduceToNat,Nat.reduceBEq,Nat.reduceAdd,Nat.reduceLT,Nat.reduceLeDiff,Nat.reduceEqDiff,Int.reduceEq,ne_eq,zN,reduceCtorEq,dA,dF,dE,zM,zA,zB,aI,zC,zD,if_true,if_false,zE,zF,aC,zG,aJ,zH,zI,zJ,zK,aX,aS,aV,aY,aW,aF,aK,aO,aG,aL,aE,aT,bW,Vm.bind_map,aP,aU,zL]
 all_goals try simp only [cN]
 all_goals try rfl
theorem yF {β:Type} (a0:aB) (r5:(List ByteArray)) (p6:Int) (p7:List ByteArray) (k:Ex->St->Option β):eL TT yE ⟨[(1,.ptr 1 0),(2,.own 22 0),(3,.own 35 0),(4,.nil),(25,.d (.sl (cM eV.cells a0.Firms))),(26,.d (.int .i64 (a0.Firms.length:Int))),(27,.d (.int .i64 p6))],[(1,some (.box (aD a0.cells))),(22,some (.rows 0 9 1 (cM cS r5))),(35,some (.rows 0 9 1 (cM cS p7)))]⟩ k = (sA a0 r5 p6 p7).bind (fun (r:(List ByteArray))=>k (.exit 2) ⟨[(1,.ptr 1 0),(2,.own 22 0),(3,.own 35 0),(4,.nil)],[(1,some (.box (aD a0.cells))),(22,some (.rows 0 9 1 (cM cS r5))),(35,some (.rows 0 9 1 (cM cS r)))]⟩):=by
 have hh:=fun (w:Int × (List ByteArray))=>FF a0 r5 w.1 w.2
 have h:=fun ho=>dS (T:=TT) (k:=k) (c:=pU) (step:=(fun (w:Int × (List ByteArray))=>jC a0 r5 w.1 w.2)) _ _ ho hh (p6,p7)
 refine Eq.trans (h (fun r s e=>by have q:=congrArg Prod.fst e; rcases r with x <;> cases q)) ?_
 unfold sA
 exact cZ _ fun x=>by rcases x with x <;> rfl
theorem GE (a0:aB) (r10 r5:(List ByteArray)) (p11:Int) (p12:List ByteArray):eL TT pL ⟨[(2,.own 22 0),(3,.own 35 0),(4,.own 48 0),(38,.d (.sl (cM b4.cells a0.Orders))),(39,.d (.int .i64 (a0.Orders.length:Int))),(40,.d (.int .i64 p11))],[(22,some (.rows 0 9 1 (cM cS r5))),(35,some (.rows 0 9 1 (cM cS r10))),(48,some (.rows 0 9 1 (cM cS p12)))]⟩ (fun e s=>some (e,s)) = eZ (fun (w:Int × (List ByteArray))=>(⟨[(2,.own 22 0),(3,.own 35 0),(4,.own 48 0),(38,.d (.sl (cM b4.cells a0.Orders))),(39,.d (.int .i64 (a0.Orders.length:Int))),(40,.d (.int .i64 w.1))],[(22,some (.rows 0 9 1 (cM cS r5))),(35,some (.rows 0 9 1 (cM cS r10))),(48,some (.rows 0 9 1 (cM cS w.2)))]⟩ : St)) (fun (r:(List ByteArray))=>(((.exit 4),⟨[(2,.own 22 0),(3,.own 35 0),(4,.own 48 0)],[(22,some (.rows 0 9 1 (cM cS r5))),(35,some (.rows 0 9 1 (cM cS r10))),(48,some (.rows 0 9 1 (cM cS r)))]⟩):Ex × St)) (jG a0 r10 r5 p11 p12):=by
 simp -implicitDefEqProofs (decide:=true) (maxSteps:=2000000) only [pL,jG,↓s6,↓yF,↓DN,↓DR,DQ,DP,↓reduceIte,Int.reduceToNat,Nat.reduceBEq,Nat.reduceAdd,Nat.reduceLT,Nat.reduceLeDiff,Nat.reduceEqDiff,Int.reduceEq,ne_eq,zN,reduceCtorEq,dA,dF,dE,zM,zA,zB,aI,zC,zD,if_true,if_false,zE,zF,aC,zG,aJ,zH,zI,zJ,zK,aX,aS,aV,aY,aW,aF,aK,aO,aG,aL,aE,aT,bW,Vm.bind_map,aP,aU,zL]
 all_goals try simp only [cN]
 all_goals try rfl
theorem FR {β:Type} (a0:aB) (r10 r5:(List ByteArray)) (p11:Int) (p12:List ByteArray) (k:Ex->St->Option β):eL TT yL ⟨[(2,.own 22 0),(3,.own 35 0),(4,.own 48 0),(38,.d (.sl (cM b4.cells a0.Orders))),(39,.d (.int .i64 (a0.Orders.length:Int))),(40,.d (.int .i64 p11))],[(22,some (.rows 0 9 1 (cM cS r5))),(35,some (.rows 0 9 1 (cM cS r10))),(48,some (.rows 0 9 1 (cM cS p12)))]⟩ k = (sE a0 r10 r5 p11 p12).bind (fun (r:(List ByteArray))=>k (.exit 4) ⟨[(2,.own 22 0),(3,.own 35 0),(4,.own 48 0)],[(22,some (.rows 0 9 1 (cM cS r5))),(35,some (.rows 0 9 1 (cM cS r10))),(48,some (.rows 0 9 1 (cM cS r)))]⟩):=by
 have hh:=fun (w:Int × (List ByteArray))=>GE a0 r10 r5 w.1 w.2
 have h:=fun ho=>dS (T:=TT) (k:=k) (c:=pL) (step:=(fun (w:Int × (List ByteArray))=>jG a0 r10 r5 w.1 w.2)) _ _ ho hh (p11,p12)
 refine Eq.trans (h (fun r s e=>by have q:=congrArg Prod.fst e; rcases r with x <;> cases q)) ?_
 unfold sE
 exact cZ _ fun x=>by rcases x with x <;> rfl
theorem J2 (a0:aB):Vm.call TT 28 [.agg a0.cells] = (qO a0).map fun (r:(List ByteArray) × (List ByteArray) × (List ByteArray))=>.tup [.sl (cM cS r.1),.sl (cM cS r.2.1),.sl (cM cS r.2.2)]:=by
 refine (dQ (show TT 28 = some (.code ⟨1,53,[.tmp 2,.tmp 3,.tmp 4],aEP,false,false⟩) from rfl) _ rfl rfl).trans ?_
 show eL TT aEP ⟨[(0,iS a0.cells)],[]⟩ _ = _
 simp -implicitDefEqProofs (decide:=true) (maxSteps:=2000000) only [aEP,qO,↓s6,↓yF,↓FR,↓DN,↓DR,DQ,DP,↓reduceIte,Int.reduceToNat,Nat.reduceBEq,Nat.reduceAdd,Nat.reduceLT,Nat.reduceLeDiff,Nat.reduceEqDiff,Int.reduceEq,ne_eq,zN,reduceCtorEq,dA,dF,dE,zM,zA,zB,aI,zC,zD,if_true,if_false,zE,zF,aC,zG,aJ,zH,zI,zJ,zK,aX,aS,aV,aY,aW,aF,aK,aO,aG,aL,aE,aT,bW,Vm.bind_map,aP,aU,zL]
 all_goals try simp only [cN]
 all_goals try rfl
theorem CW {β:Type} (a0:aB) (d:Nat) (bl fz:List (Nat × Option aR)) (k:V->Option β) (kw:V->List (Nat × Option aR)->Option β):eK TT d bl 28 [.agg a0.cells] fz k kw = (qO a0).bind fun (r:(List ByteArray) × (List ByteArray) × (List ByteArray))=>UU fz (.tup [.d (.sl (cM cS r.1)),.d (.sl (cM cS r.2.1)),.d (.sl (cM cS r.2.2))]) k kw:=by
 have h:=J2 a0
 exact uJ h (fun _=>rfl) (fun _=>rfl) fz
theorem xP {β:Type} (a0:ByteArray) (p1 x2:Int) (p3:Bool) (k:Ex->St->Option β):eL TT sL ⟨[(3,.d (.int .i64 p1)),(4,.d (.int .u8 x2)),(5,.d (.bool p3)),(14,.d (.sl (cM (cK .u8) (lQ a0)))),(15,.d (.int .i64 ((lQ a0).length:Int))),(16,.d (.int .i64 p1))],[]⟩ k = (gT a0 p1 x2 p3).bind (fun (r:Unit ⊕ Unit)=>Sum.elim (fun (z:Unit)=>k .normal ⟨[(14,.d (.sl (cM (cK .u8) (lQ a0)))),(15,.d (.int .i64 ((lQ a0).length:Int))),(16,.d (.int .i64 p1))],[]⟩) (fun (z:Unit)=>k .ret ⟨[(2,.d (.bool false))],[]⟩) r):=by
 simp -implicitDefEqProofs (decide:=true) (maxSteps:=2000000) only [sL,gT,↓DN,↓DR,DQ,DP,↓reduceIte,Int.reduceToNat,Nat.reduceBEq,Nat.reduceAdd,Nat.reduceLT,Nat.reduceLeDiff,Nat.reduceEqDiff,Int.reduceEq,ne_eq,zN,reduceCtorEq,dA,dF,dE,zM,zA,zB,aI,zC,zD,if_true,if_false,zE,zF,aC,zG,aJ,zH,zI,zJ,zK,aX,aS,aV,aY,aW,aF,aK,aO,aG,aL,aE,aT,bW,Vm.bind_map,aP,aU,zL]
 all_goals try simp only [cN]
 all_goals try rfl
theorem FD (a0:ByteArray) (p1:Int):eL TT oP ⟨[(14,.d (.sl (cM (cK .u8) (lQ a0)))),(15,.d (.int .i64 ((lQ a0).length:Int))),(16,.d (.int .i64 p1))],[]⟩ (fun e s=>some (e,s)) = eZ (fun (w:Int)=>(⟨[(14,.d (.sl (cM (cK .u8) (lQ a0)))),(15,.d (.int .i64 ((lQ a0).length:Int))),(16,.d (.int .i64 w))],[]⟩ : St)) (fun (r:Unit ⊕ Unit)=>Sum.elim (fun (z:Unit)=>(((.exit 0),⟨[],[]⟩):Ex × St)) (fun (z:Unit)=>((.ret,⟨[(2,.d (.bool false))],[]⟩):Ex × St)) r) (iK a0 p1):=by
 simp -implicitDefEqProofs (decide:=true) (maxSteps:=2000000) only [oP,iK,↓xP,↓DN,↓DR,DQ,DP,↓reduceIte,Int.reduceToNat,Nat.reduceBEq,Nat.reduceAdd,Nat.reduceLT,Nat.reduceLeDiff,Nat.reduceEqDiff,Int.reduceEq,ne_eq,zN,reduceCtorEq,dA,dF,dE,zM,zA,zB,aI,zC,zD,if_true,if_false,zE,zF,aC,zG,aJ,zH,zI,zJ,zK,aX,aS,aV,aY,aW,aF,aK,aO,aG,aL,aE,aT,bW,Vm.bind_map,aP,aU,zL]
 all_goals try simp only [cN]
 all_goals try rfl
theorem ES {β:Type} (a0:ByteArray) (p1:Int) (k:Ex->St->Option β):eL TT wW ⟨[(14,.d (.sl (cM (cK .u8) (lQ a0)))),(15,.d (.int .i64 ((lQ a0).length:Int))),(16,.d (.int .i64 p1))],[]⟩ k = (qT a0 p1).bind (fun (r:Unit ⊕ Unit)=>Sum.elim (fun (z:Unit)=>k (.exit 0) ⟨[],[]⟩) (fun (z:Unit)=>k .ret ⟨[(2,.d (.bool false))],[]⟩) r):=by
 have hh:=fun (w:Int)=>FD a0 w
 have h:=fun ho=>dS (T:=TT) (k:=k) (c:=oP) (step:=(fun (w:Int)=>iK a0 w)) _ _ ho hh p1
 refine Eq.trans (h (fun r s e=>by have q:=congrArg Prod.fst e; rcases r with x | x <;> cases q)) ?_
 unfold qT
 exact cZ _ fun x=>by rcases x with x | x <;> rfl
theorem IX (a0:ByteArray):Vm.call TT 71 [.str a0] = (pC a0).map fun (r:Bool)=>.bool r:=by
 refine (dQ (show TT 71 = some (.code ⟨1,54,[.tmp 2],aDE,false,false⟩) from rfl) _ rfl rfl).trans ?_
 show eL TT aDE ⟨[(0,.d (.str a0))],[]⟩ _ = _
 simp -implicitDefEqProofs (decide:=true) (maxSteps:=2000000) only [aDE,pC,↓xP,↓ES,↓DN,↓DR,DQ,DP,↓reduceIte,Int.reduceToNat,Nat.reduceBEq,Nat.reduceAdd,Nat.reduceLT,Nat.reduceLeDiff,Nat.reduceEqDiff,Int.reduceEq,ne_eq,zN,reduceCtorEq,dA,dF,dE,zM,zA,zB,aI,zC,zD,if_true,if_false,zE,zF,aC,zG,aJ,zH,zI,zJ,zK,aX,aS,aV,aY,aW,aF,aK,aO,aG,aL,aE,aT,bW,Vm.bind_map,aP,aU,zL]
 all_goals try simp only [cN]
 all_goals try rfl
theorem IW {β:Type} (a0:ByteArray) (d:Nat) (bl fz:List (Nat × Option aR)) (k:V->Option β) (kw:V->List (Nat × Option aR)->Option β):eK TT d bl 71 [.str a0] fz k kw = (pC a0).bind fun (r:Bool)=>k (.d (.bool r)):=by
 have h:=IX a0
 exact cU h (fun _=>rfl) fz
theorem tP (a0:List ByteArray) (a1:ByteArray) (p1:Int):eL TT gL ⟨[(0,.d (.sl (cM cS a0))),(1,.d (.str a1)),(7,.d (.int .i64 (a0.length:Int))),(8,.d (.int .i64 p1))],[]⟩ (fun e s=>some (e,s)) = eZ (fun (w:Int)=>(⟨[(0,.d (.sl (cM cS a0))),(1,.d (.str a1)),(7,.d (.int .i64 (a0.length:Int))),(8,.d (.int .i64 w))],[]⟩ : St)) (fun (r:Unit ⊕ Int)=>Sum.elim (fun (z:Unit)=>(((.exit 0),⟨[],[]⟩):Ex × St)) (fun (z:Int)=>((.ret,⟨[(4,.d (.int .i64 z))],[]⟩):Ex × St)) r) (eE a0 a1 p1):=by
 simp -implicitDefEqProofs (decide:=true) (maxSteps:=2000000) only [gL,eE,↓DN,↓DR,DQ,DP,↓reduceIte,Int.reduceToNat,Nat.reduceBEq,Nat.reduceAdd,Nat.reduceLT,Nat.reduceLeDiff,Nat.reduceEqDiff,Int.reduceEq,ne_eq,zN,reduceCtorEq,dA,dF,dE,zM,zA,zB,aI,zC,zD,if_true,if_false,zE,zF,aC,zG,aJ,zH,zI,zJ,zK,aX,aS,aV,aY,aW,aF,aK,aO,aG,aL,aE,aT,bW,Vm.bind_map,aP,aU,zL]
 all_goals try simp only [cN]
 all_goals try rfl
theorem s0 {β:Type} (a0:List ByteArray) (a1:ByteArray) (p1:Int) (k:Ex->St->Option β):eL TT mS ⟨[(0,.d (.sl (cM cS a0))),(1,.d (.str a1)),(7,.d (.int .i64 (a0.length:Int))),(8,.d (.int .i64 p1))],[]⟩ k = (gV a0 a1 p1).bind (fun (r:Unit ⊕ Int)=>Sum.elim (fun (z:Unit)=>k (.exit 0) ⟨[],[]⟩) (fun (z:Int)=>k .ret ⟨[(4,.d (.int .i64 z))],[]⟩) r):=by
 have hh:=fun (w:Int)=>tP a0 a1 w
 have h:=fun ho=>dS (T:=TT) (k:=k) (c:=gL) (step:=(fun (w:Int)=>eE a0 a1 w)) _ _ ho hh p1
 refine Eq.trans (h (fun r s e=>by have q:=congrArg Prod.fst e; rcases r with x | x <;> cases q)) ?_
 unfold gV
 exact cZ _ fun x=>by rcases x with x | x <;> rfl
theorem uX (a0:List ByteArray) (a1:ByteArray):Vm.call TT 79 [.sl (cM cS a0),.str a1] = (fO a0 a1).map fun (r:Int)=>.int .i64 r:=by
 refine (dQ (show TT 79 = some (.code ⟨2,19,[.tmp 4],aD0,false,false⟩) from rfl) _ rfl rfl).trans ?_
 show eL TT aD0 ⟨[(0,.d (.sl (cM cS a0))),(1,.d (.str a1))],[]⟩ _ = _
 simp -implicitDefEqProofs (decide:=true) (maxSteps:=2000000) only [aD0,fO,↓s0,↓DN,↓DR,DQ,DP,↓reduceIte,Int.reduceToNat,Nat.reduceBEq,Nat.reduceAdd,Nat.reduceLT,Nat.reduceLeDiff,Nat.reduceEqDiff,Int.reduceEq,ne_eq,zN,reduceCtorEq,dA,dF,dE,zM,zA,zB,aI,zC,zD,if_true,if_false,zE,zF,aC,zG,aJ,zH,zI,zJ,zK,aX,aS,aV,aY,aW,aF,aK,aO,aG,aL,aE,aT,bW,Vm.bind_map,aP,aU,zL]
 all_goals try simp only [cN]
 all_goals try rfl
theorem uS {β:Type} (a0:List ByteArray) (a1:ByteArray) (d:Nat) (bl fz:List (Nat × Option aR)) (k:V->Option β) (kw:V->List (Nat × Option aR)->Option β):eK TT d bl 79 [.sl (cM cS a0),.str a1] fz k kw = (fO a0 a1).bind fun (r:Int)=>k (.d (.int .i64 r)):=by
 have h:=uX a0 a1
 exact cU h (fun _=>rfl) fz
theorem tO (a0:List ByteArray) (a1:ByteArray):Vm.call TT 72 [.sl (cM cS a0),.str a1] = (fA a0 a1).map fun (r:Bool)=>.bool r:=by
 refine (dQ (show TT 72 = some (.code ⟨2,9,[.tmp 4],aDd,false,false⟩) from rfl) _ rfl rfl).trans ?_
 show eL TT aDd ⟨[(0,.d (.sl (cM cS a0))),(1,.d (.str a1))],[]⟩ _ = _
 simp -implicitDefEqProofs (decide:=true) (maxSteps:=2000000) only [aDd,fA,↓uS,↓DN,↓DR,DQ,DP,↓reduceIte,Int.reduceToNat,Nat.reduceBEq,Nat.reduceAdd,Nat.reduceLT,Nat.reduceLeDiff,Nat.reduceEqDiff,Int.reduceEq,ne_eq,zN,reduceCtorEq,dA,dF,dE,zM,zA,zB,aI,zC,zD,if_true,if_false,zE,zF,aC,zG,aJ,zH,zI,zJ,zK,aX,aS,aV,aY,aW,aF,aK,aO,aG,aL,aE,aT,bW,Vm.bind_map,aP,aU,zL]
 all_goals try simp only [cN]
 all_goals try rfl
theorem sZ {β:Type} (a0:List ByteArray) (a1:ByteArray) (d:Nat) (bl fz:List (Nat × Option aR)) (k:V->Option β) (kw:V->List (Nat × Option aR)->Option β):eK TT d bl 72 [.sl (cM cS a0),.str a1] fz k kw = (fA a0 a1).bind fun (r:Bool)=>k (.d (.bool r)):=by
 have h:=tO a0 a1
 exact cU h (fun _=>rfl) fz
theorem KJ (a0:List ByteArray) (a1:Int):Vm.call TT 57 [.sl (cM cS a0),.int .i64 a1] = (j0 a0 a1).map fun (r:Int)=>.int .i64 r:=by
 refine (dQ (show TT 57 = some (.code ⟨2,19,[.tmp 4],aD7,false,false⟩) from rfl) _ rfl rfl).trans ?_
 show eL TT aD7 ⟨[(0,.d (.sl (cM cS a0))),(1,.d (.int .i64 a1))],[]⟩ _ = _
 simp -implicitDefEqProofs (decide:=true) (maxSteps:=2000000) only [aD7,j0,↓IW,↓sZ,↓DN,↓DR,DQ,DP,↓reduceIte,Int.reduceToNat,Nat.reduceBEq,Nat.reduceAdd,Nat.reduceLT,Nat.reduceLeDiff,Nat.reduceEqDiff,Int.reduceEq,ne_eq,zN,reduceCtorEq,dA,dF,dE,zM,zA,zB,aI,zC,zD,if_true,if_false,zE,zF,aC,zG,aJ,zH,zI,zJ,zK,aX,aS,aV,aY,aW,aF,aK,aO,aG,aL,aE,aT,bW,Vm.bind_map,aP,aU,zL]
 all_goals try simp only [cN]
 all_goals try rfl
theorem j8 {β:Type} (a0:List ByteArray) (a1:Int) (d:Nat) (bl fz:List (Nat × Option aR)) (k:V->Option β) (kw:V->List (Nat × Option aR)->Option β):eK TT d bl 57 [.sl (cM cS a0),.int .i64 a1] fz k kw = (j0 a0 a1).bind fun (r:Int)=>k (.d (.int .i64 r)):=by
 have h:=KJ a0 a1
 exact cU h (fun _=>rfl) fz
theorem GZ (a0:Int):Vm.call TT 30 [.int .i64 a0] = (qL a0).map fun (r:Bool)=>.bool r:=by
 refine (dQ (show TT 30 = some (.code ⟨1,3,[.tmp 2],aDn,false,false⟩) from rfl) _ rfl rfl).trans ?_
 show eL TT aDn ⟨[(0,.d (.int .i64 a0))],[]⟩ _ = _
 simp -implicitDefEqProofs (decide:=true) (maxSteps:=2000000) only [aDn,qL,↓DN,↓DR,DQ,DP,↓reduceIte,Int.reduceToNat,Nat.reduceBEq,Nat.reduceAdd,Nat.reduceLT,Nat.reduceLeDiff,Nat.reduceEqDiff,Int.reduceEq,ne_eq,zN,reduceCtorEq,dA,dF,dE,zM,zA,zB,aI,zC,zD,if_true,if_false,zE,zF,aC,zG,aJ,zH,zI,zJ,zK,aX,aS,aV,aY,aW,aF,aK,aO,aG,aL,aE,aT,bW,Vm.bind_map,aP,aU,zL]
 all_goals try simp only [cN]
 all_goals try rfl
theorem AO {β:Type} (a0:Int) (d:Nat) (bl fz:List (Nat × Option aR)) (k:V->Option β) (kw:V->List (Nat × Option aR)->Option β):eK TT d bl 30 [.int .i64 a0] fz k kw = (qL a0).bind fun (r:Bool)=>k (.d (.bool r)):=by
 have h:=GZ a0
 exact cU h (fun _=>rfl) fz
theorem DG (a0:List ByteArray) (p1:Int):eL TT e9 ⟨[(0,.d (.sl (cM cS a0))),(2,.d (.fn 30 [])),(14,.d (.int .i64 (a0.length:Int))),(15,.d (.int .i64 p1))],[]⟩ (fun e s=>some (e,s)) = eZ (fun (w:Int)=>(⟨[(0,.d (.sl (cM cS a0))),(2,.d (.fn 30 [])),(14,.d (.int .i64 (a0.length:Int))),(15,.d (.int .i64 w))],[]⟩ : St)) (fun (r:Unit ⊕ Int)=>Sum.elim (fun (z:Unit)=>(((.exit 0),⟨[],[]⟩):Ex × St)) (fun (z:Int)=>((.ret,⟨[(6,.d (.int .i64 z))],[]⟩):Ex × St)) r) (k9 a0 p1):=by
 simp -implicitDefEqProofs (decide:=true) (maxSteps:=2000000) only [e9,k9,↓AO,↓j8,↓DN,↓DR,DQ,DP,↓reduceIte,Int.reduceToNat,Nat.reduceBEq,Nat.reduceAdd,Nat.reduceLT,Nat.reduceLeDiff,Nat.reduceEqDiff,Int.reduceEq,ne_eq,zN,reduceCtorEq,dA,dF,dE,zM,zA,zB,aI,zC,zD,if_true,if_false,zE,zF,aC,zG,aJ,zH,zI,zJ,zK,aX,aS,aV,aY,aW,aF,aK,aO,aG,aL,aE,aT,bW,Vm.bind_map,aP,aU,zL]
 all_goals try simp only [cN]
 all_goals try rfl
theorem DS {β:Type} (a0:List ByteArray) (p1:Int) (k:Ex->St->Option β):eL TT nI ⟨[(0,.d (.sl (cM cS a0))),(2,.d (.fn 30 [])),(14,.d (.int .i64 (a0.length:Int))),(15,.d (.int .i64 p1))],[]⟩ k = (tQ a0 p1).bind (fun (r:Unit ⊕ Int)=>Sum.elim (fun (z:Unit)=>k (.exit 0) ⟨[],[]⟩) (fun (z:Int)=>k .ret ⟨[(6,.d (.int .i64 z))],[]⟩) r):=by
 have hh:=fun (w:Int)=>DG a0 w
 have h:=fun ho=>dS (T:=TT) (k:=k) (c:=e9) (step:=(fun (w:Int)=>k9 a0 w)) _ _ ho hh p1
 refine Eq.trans (h (fun r s e=>by have q:=congrArg Prod.fst e; rcases r with x | x <;> cases q)) ?_
 unfold tQ
 exact cZ _ fun x=>by rcases x with x | x <;> rfl
theorem HM (a0:List ByteArray) (a1:Int):Vm.call TT 29 [.sl (cM cS a0),.int .i64 a1,.fn 30 []] = (nK a0 a1).map fun (r:Int)=>.int .i64 r:=by
 refine (dQ (show TT 29 = some (.code ⟨3,29,[.tmp 6],G2,false,false⟩) from rfl) _ rfl rfl).trans ?_
 show eL TT G2 ⟨[(0,.d (.sl (cM cS a0))),(1,.d (.int .i64 a1)),(2,.d (.fn 30 []))],[]⟩ _ = _
 simp -implicitDefEqProofs (decide:=true) (maxSteps:=2000000) only [G2,nK,↓DS,↓AO,↓j8,↓DN,↓DR,DQ,DP,↓reduceIte,Int.reduceToNat,Nat.reduceBEq,Nat.reduceAdd,Nat.reduceLT,Nat.reduceLeDiff,Nat.reduceEqDiff,Int.reduceEq,ne_eq,zN,reduceCtorEq,dA,dF,dE,zM,zA,zB,aI,zC,zD,if_true,if_false,zE,zF,aC,zG,aJ,zH,zI,zJ,zK,aX,aS,aV,aY,aW,aF,aK,aO,aG,aL,aE,aT,bW,Vm.bind_map,aP,aU,zL]
 all_goals try simp only [cN]
 all_goals try rfl
theorem AD {β:Type} (a0:List ByteArray) (a1:Int) (d:Nat) (bl fz:List (Nat × Option aR)) (k:V->Option β) (kw:V->List (Nat × Option aR)->Option β):eK TT d bl 29 [.sl (cM cS a0),.int .i64 a1,.fn 30 []] fz k kw = (nK a0 a1).bind fun (r:Int)=>k (.d (.int .i64 r)):=by
 have h:=HM a0 a1
 exact cU h (fun _=>rfl) fz
theorem OY (a0 a1:Int):Vm.call TT 33 [.int .i64 a0,.int .i64 a1] = (gU a0 a1).map fun (r:Bool)=>.bool r:=by
 refine (dQ (show TT 33 = some (.code ⟨2,12,[.tmp 4],aEO,false,false⟩) from rfl) _ rfl rfl).trans ?_
 show eL TT aEO ⟨[(0,.d (.int .i64 a0)),(1,.d (.int .i64 a1))],[]⟩ _ = _
 simp -implicitDefEqProofs (decide:=true) (maxSteps:=2000000) only [aEO,gU,↓DN,↓DR,DQ,DP,↓reduceIte,Int.reduceToNat,Nat.reduceBEq,Nat.reduceAdd,Nat.reduceLT,Nat.reduceLeDiff,Nat.reduceEqDiff,Int.reduceEq,ne_eq,zN,reduceCtorEq,dA,dF,dE,zM,zA,zB,aI,zC,zD,if_true,if_false,zE,zF,aC,zG,aJ,zH,zI,zJ,zK,aX,aS,aV,aY,aW,aF,aK,aO,aG,aL,aE,aT,bW,Vm.bind_map,aP,aU,zL]
 all_goals try simp only [cN]
 all_goals try rfl
theorem iB {β:Type} (a0 a1:Int) (d:Nat) (bl fz:List (Nat × Option aR)) (k:V->Option β) (kw:V->List (Nat × Option aR)->Option β):eK TT d bl 33 [.int .i64 a0,.int .i64 a1] fz k kw = (gU a0 a1).bind fun (r:Bool)=>k (.d (.bool r)):=by
 have h:=OY a0 a1
 exact cU h (fun _=>rfl) fz
theorem EK (a0:List Int) (a1 a2 p1:Int):eL TT oY ⟨[(0,.d (.sl (cM cI a0))),(1,.d (.int .i64 a1)),(2,.d (.int .i64 a2)),(9,.d (.sl (cM cI a0))),(10,.d (.int .i64 (a0.length:Int))),(11,.d (.int .i64 p1))],[]⟩ (fun e s=>some (e,s)) = eZ (fun (w:Int)=>(⟨[(0,.d (.sl (cM cI a0))),(1,.d (.int .i64 a1)),(2,.d (.int .i64 a2)),(9,.d (.sl (cM cI a0))),(10,.d (.int .i64 (a0.length:Int))),(11,.d (.int .i64 w))],[]⟩ : St)) (fun (r:Unit ⊕ Unit)=>Sum.elim (fun (z:Unit)=>(((.exit 0),⟨[],[]⟩):Ex × St)) (fun (z:Unit)=>((.ret,⟨[(6,.d (.bool false))],[]⟩):Ex × St)) r) (iM a0 a1 a2 p1):=by
 simp -implicitDefEqProofs (decide:=true) (maxSteps:=2000000) only [oY,iM,↓DN,↓DR,DQ,DP,↓reduceIte,Int.reduceToNat,Nat.reduceBEq,Nat.reduceAdd,Nat.reduceLT,Nat.reduceLeDiff,Nat.reduceEqDiff,Int.reduceEq,ne_eq,zN,reduceCtorEq,dA,dF,dE,zM,zA,zB,aI,zC,zD,if_true,if_false,zE,zF,aC,zG,aJ,zH,zI,zJ,zK,aX,aS,aV,aY,aW,aF,aK,aO,aG,aL,aE,aT,bW,Vm.bind_map,aP,aU,zL]
 all_goals try simp only [cN]
 all_goals try rfl
theorem EL {β:Type} (a0:List Int) (a1 a2 p1:Int) (k:Ex->St->Option β):eL TT xQ ⟨[(0,.d (.sl (cM cI a0))),(1,.d (.int .i64 a1)),(2,.d (.int .i64 a2)),(9,.d (.sl (cM cI a0))),(10,.d (.int .i64 (a0.length:Int))),(11,.d (.int .i64 p1))],[]⟩ k = (qU a0 a1 a2 p1).bind (fun (r:Unit ⊕ Unit)=>Sum.elim (fun (z:Unit)=>k (.exit 0) ⟨[],[]⟩) (fun (z:Unit)=>k .ret ⟨[(6,.d (.bool false))],[]⟩) r):=by
 have hh:=fun (w:Int)=>EK a0 a1 a2 w
 have h:=fun ho=>dS (T:=TT) (k:=k) (c:=oY) (step:=(fun (w:Int)=>iM a0 a1 a2 w)) _ _ ho hh p1
 refine Eq.trans (h (fun r s e=>by have q:=congrArg Prod.fst e; rcases r with x | x <;> cases q)) ?_
 unfold qU
 exact cZ _ fun x=>by rcases x with x | x <;> rfl
theorem I5 (a0:List Int) (a1 a2:Int):Vm.call TT 58 [.sl (cM cI a0),.int .i64 a1,.int .i64 a2] = (iT a0 a1 a2).map fun (r:Bool)=>.bool r:=by
 refine (dQ (show TT 58 = some (.code ⟨3,38,[.tmp 6],aEV,false,false⟩) from rfl) _ rfl rfl).trans ?_
 show eL TT aEV ⟨[(0,.d (.sl (cM cI a0))),(1,.d (.int .i64 a1)),(2,.d (.int .i64 a2))],[]⟩ _ = _
 simp -implicitDefEqProofs (decide:=true) (maxSteps:=2000000) only [aEV,iT,↓EL,↓DN,↓DR,DQ,DP,↓reduceIte,Int.reduceToNat,Nat.reduceBEq,Nat.reduceAdd,Nat.reduceLT,Nat.reduceLeDiff,Nat.reduceEqDiff,Int.reduceEq,ne_eq,zN,reduceCtorEq,dA,dF,dE,zM,zA,zB,aI,zC,zD,if_true,if_false,zE,zF,aC,zG,aJ,zH,zI,zJ,zK,aX,aS,aV,aY,aW,aF,aK,aO,aG,aL,aE,aT,bW,Vm.bind_map,aP,aU,zL]
 all_goals try simp only [cN]
 all_goals try rfl
theorem o6 {β:Type} (a0:List Int) (a1 a2:Int) (d:Nat) (bl fz:List (Nat × Option aR)) (k:V->Option β) (kw:V->List (Nat × Option aR)->Option β):eK TT d bl 58 [.sl (cM cI a0),.int .i64 a1,.int .i64 a2] fz k kw = (iT a0 a1 a2).bind fun (r:Bool)=>k (.d (.bool r)):=by
 have h:=I5 a0 a1 a2
 exact cU h (fun _=>rfl) fz
theorem GV (a0:aB) (a1:dT) (p1:Int):eL TT qW ⟨[(2,.ptr 2 0),(3,.ptr 3 0),(8,.d (.sl (cM cI a1.Feasts))),(9,.d (.int .i64 (a1.Feasts.length:Int))),(10,.d (.int .i64 p1))],[(2,some (.box (aD a0.cells))),(3,some (.box (aD a1.cells)))]⟩ (fun e s=>some (e,s)) = eZ (fun (w:Int)=>(⟨[(2,.ptr 2 0),(3,.ptr 3 0),(8,.d (.sl (cM cI a1.Feasts))),(9,.d (.int .i64 (a1.Feasts.length:Int))),(10,.d (.int .i64 w))],[(2,some (.box (aD a0.cells))),(3,some (.box (aD a1.cells)))]⟩ : St)) (fun (r:Unit ⊕ Unit)=>Sum.elim (fun (z:Unit)=>(((.exit 0),⟨[(2,.ptr 2 0),(3,.ptr 3 0)],[(2,some (.box (aD a0.cells))),(3,some (.box (aD a1.cells)))]⟩):Ex × St)) (fun (z:Unit)=>((.ret,⟨[(4,.d (.bool false))],[]⟩):Ex × St)) r) (jX a0 a1 p1):=by
 simp -implicitDefEqProofs (decide:=true) (maxSteps:=2000000) only [qW,jX,↓iB,↓o6,↓DN,↓DR,DQ,DP,↓reduceIte,Int.reduceToNat,Nat.reduceBEq,Nat.reduceAdd,Nat.reduceLT,Nat.reduceLeDiff,Nat.reduceEqDiff,Int.reduceEq,ne_eq,zN,reduceCtorEq,dA,dF,dE,zM,zA,zB,aI,zC,zD,if_true,if_false,zE,zF,aC,zG,aJ,zH,zI,zJ,zK,aX,aS,aV,aY,aW,aF,aK,aO,aG,aL,aE,aT,bW,Vm.bind_map,aP,aU,zL]
 all_goals try simp only [cN]
 all_goals try rfl
theorem GR {β:Type} (a0:aB) (a1:dT) (p1:Int) (k:Ex->St->Option β):eL TT AM ⟨[(2,.ptr 2 0),(3,.ptr 3 0),(8,.d (.sl (cM cI a1.Feasts))),(9,.d (.int .i64 (a1.Feasts.length:Int))),(10,.d (.int .i64 p1))],[(2,some (.box (aD a0.cells))),(3,some (.box (aD a1.cells)))]⟩ k = (tW a0 a1 p1).bind (fun (r:Unit ⊕ Unit)=>Sum.elim (fun (z:Unit)=>k (.exit 0) ⟨[(2,.ptr 2 0),(3,.ptr 3 0)],[(2,some (.box (aD a0.cells))),(3,some (.box (aD a1.cells)))]⟩) (fun (z:Unit)=>k .ret ⟨[(4,.d (.bool false))],[]⟩) r):=by
 have hh:=fun (w:Int)=>GV a0 a1 w
 have h:=fun ho=>dS (T:=TT) (k:=k) (c:=qW) (step:=(fun (w:Int)=>jX a0 a1 w)) _ _ ho hh p1
 refine Eq.trans (h (fun r s e=>by have q:=congrArg Prod.fst e; rcases r with x | x <;> cases q)) ?_
 unfold tW
 exact cZ _ fun x=>by rcases x with x | x <;> rfl
theorem LI (a0:aB) (a1:dT):Vm.call TT 32 [.agg a0.cells,.agg a1.cells] = (sS a0 a1).map fun (r:Bool)=>.bool r:=by
 refine (dQ (show TT 32 = some (.code ⟨2,64,[.tmp 4],aEn,false,false⟩) from rfl) _ rfl rfl).trans ?_
 show eL TT aEn ⟨[(0,iS a0.cells),(1,iS a1.cells)],[]⟩ _ = _
 simp -implicitDefEqProofs (decide:=true) (maxSteps:=2000000) only [aEn,sS,↓GR,↓iB,↓o6,↓DN,↓DR,DQ,DP,↓reduceIte,Int.reduceToNat,Nat.reduceBEq,Nat.reduceAdd,Nat.reduceLT,Nat.reduceLeDiff,Nat.reduceEqDiff,Int.reduceEq,ne_eq,zN,reduceCtorEq,dA,dF,dE,zM,zA,zB,aI,zC,zD,if_true,if_false,zE,zF,aC,zG,aJ,zH,zI,zJ,zK,aX,aS,aV,aY,aW,aF,aK,aO,aG,aL,aE,aT,bW,Vm.bind_map,aP,aU,zL]
 all_goals try simp only [cN]
 all_goals try rfl
theorem LT {β:Type} (a0:aB) (a1:dT) (d:Nat) (bl fz:List (Nat × Option aR)) (k:V->Option β) (kw:V->List (Nat × Option aR)->Option β):eK TT d bl 32 [.agg a0.cells,.agg a1.cells] fz k kw = (sS a0 a1).bind fun (r:Bool)=>k (.d (.bool r)):=by
 have h:=LI a0 a1
 exact cU h (fun _=>rfl) fz
end Go.Proofs.Ytjjcaapdaldedaa
