/- The functions of the small machine compute the plain definitions. Printed by a program. -/
import Derived.Test.YtfhebiceipgdmaaLnk1
set_option linter.unusedVariables false
set_option linter.unusedSimpArgs false
namespace Go.Proofs.Ytfhebiceipgdmaa
open Vm
open Go.RowKit
set_option maxRecDepth 100000
set_option maxHeartbeats 4000000
attribute [local congr] uI vW uO wI
theorem yA (a0:List Int) (p2:Int) (p3:Int):cX TT iX ⟨[(0,.d (.sl (cM cI a0))),(3,.d (.int .i64 p2)),(4,.d (.int .i64 p3))],[]⟩ (fun e s=>some (e,s)) = dW (fun (w:Int × Int)=>(⟨[(0,.d (.sl (cM cI a0))),(3,.d (.int .i64 w.1)),(4,.d (.int .i64 w.2))],[]⟩ : St)) (fun (r:Int)=>(((.exit 0),⟨[(3,.d (.int .i64 r))],[]⟩):Ex × St)) (dX a0 p2 p3):=by
 simp -implicitDefEqProofs (decide:=true) (maxSteps:=2000000) only [iX,dX,↓DN,↓DR,DQ,DP,↓reduceIte,Int.reduceToNat,Nat.reduceBEq,Nat.reduceAdd,Nat.reduceLT,Nat.reduceLeDiff,Nat.reduceEqDiff,Int.reduceEq,ne_eq,zN,reduceCtorEq,bM,bO,bP,zM,zA,zB,aH,zC,zD,if_true,if_false,zE,zF,aD,zG,aL,zH,zI,zJ,zK,aV,aQ,aR,aT,aS,aE,aK,aJ,aF,aM,aG,aW,bA,Vm.bind_map,aI,aU,zL]
 all_goals try simp only [bF]
 all_goals try rfl
theorem yE {β:Type} (a0:List Int) (p2:Int) (p3:Int) (k:Ex→St→Option β):cX TT pR ⟨[(0,.d (.sl (cM cI a0))),(3,.d (.int .i64 p2)),(4,.d (.int .i64 p3))],[]⟩ k = (j0 a0 p2 p3).bind (fun (r:Int)=>k (.exit 0) ⟨[(3,.d (.int .i64 r))],[]⟩):=by
 have hh:=fun (w:Int × Int)=>yA a0 w.1 w.2
 have h:=fun ho=>cA (T:=TT) (k:=k) (c:=iX) (step:=(fun (w:Int × Int)=>dX a0 w.1 w.2)) _ _ ho hh (p2,p3)
 refine Eq.trans (h (fun r s e=>by have q:=congrArg Prod.fst e; rcases r with x <;> cases q)) ?_
 unfold j0
 exact bQ _ fun x=>by rcases x with x <;> rfl
theorem BP (a0:List Int):Vm.call TT 46 [.sl (cM cI a0)] = (iF a0).map fun (r:Int)=>.int .i64 r:=by
 refine (bX (show TT 46 = some (.code ⟨1,25,[.tmp 2],aFL,false,false⟩) from rfl) _ rfl rfl).trans ?_
 show cX TT aFL ⟨[(0,.d (.sl (cM cI a0)))],[]⟩ _ = _
 simp -implicitDefEqProofs (decide:=true) (maxSteps:=2000000) only [aFL,iF,↓yE,↓DN,↓DR,DQ,DP,↓reduceIte,Int.reduceToNat,Nat.reduceBEq,Nat.reduceAdd,Nat.reduceLT,Nat.reduceLeDiff,Nat.reduceEqDiff,Int.reduceEq,ne_eq,zN,reduceCtorEq,bM,bO,bP,zM,zA,zB,aH,zC,zD,if_true,if_false,zE,zF,aD,zG,aL,zH,zI,zJ,zK,aV,aQ,aR,aT,aS,aE,aK,aJ,aF,aM,aG,aW,bA,Vm.bind_map,aI,aU,zL]
 all_goals try simp only [bF]
 all_goals try rfl
theorem kK {β:Type} (a0:List Int) (d:Nat) (bl:List (Nat × Option aX)) (fz:List (Nat × Option aX)) (k:V→Option β) (kw:V→List (Nat × Option aX)→Option β):dM TT d bl 46 [.sl (cM cI a0)] fz k kw = (iF a0).bind fun (r:Int)=>k (.d (.int .i64 r)):=by
 have h:=BP a0
 exact bR h (fun _=>rfl) fz
theorem FB (a0:aB) (p1:Int) (p2:List Int):cX TT nV ⟨[(1,.ptr 1 0),(3,.own 31 0),(4,.d (.int .i64 a0.Bill.Tenor.Kind)),(14,.d (.sl (cM aO.cells a0.Signs))),(15,.d (.int .i64 (a0.Signs.length:Int))),(16,.d (.int .i64 p1))],[(1,some (.box (aC a0.cells))),(31,some (.rows 0 3 1 (cM cI p2)))]⟩ (fun e s=>some (e,s)) = dW (fun (w:Int × (List Int))=>(⟨[(1,.ptr 1 0),(3,.own 31 0),(4,.d (.int .i64 a0.Bill.Tenor.Kind)),(14,.d (.sl (cM aO.cells a0.Signs))),(15,.d (.int .i64 (a0.Signs.length:Int))),(16,.d (.int .i64 w.1))],[(1,some (.box (aC a0.cells))),(31,some (.rows 0 3 1 (cM cI w.2)))]⟩ : St)) (fun (r:(List Int))=>(((.exit 0),⟨[(1,.ptr 1 0),(3,.own 31 0),(4,.d (.int .i64 a0.Bill.Tenor.Kind))],[(1,some (.box (aC a0.cells))),(31,some (.rows 0 3 1 (cM cI r)))]⟩):Ex × St)) (gR a0 p1 p2):=by
 simp -implicitDefEqProofs (decide:=true) (maxSteps:=2000000) only [nV,gR,↓kK,↓DN,↓DR,DQ,DP,↓reduceIte,Int.reduceToNat,Nat.reduceBEq,Nat.reduceAdd,Nat.reduceLT,Nat.reduceLeDiff,Nat.reduceEqDiff,Int.reduceEq,ne_eq,zN,reduceCtorEq,bM,bO,bP,zM,zA,zB,aH,zC,zD,if_true,if_false,zE,zF,aD,zG,aL,zH,zI,zJ,zK,aV,aQ,aR,aT,aS,aE,aK,aJ,aF,aM,aG,aW,bA,Vm.bind_map,aI,aU,zL]
 all_goals try simp only [bF]
 all_goals try rfl
theorem sI {β:Type} (a0:aB) (p1:Int) (p2:List Int) (k:Ex→St→Option β):cX TT xX ⟨[(1,.ptr 1 0),(3,.own 31 0),(4,.d (.int .i64 a0.Bill.Tenor.Kind)),(14,.d (.sl (cM aO.cells a0.Signs))),(15,.d (.int .i64 (a0.Signs.length:Int))),(16,.d (.int .i64 p1))],[(1,some (.box (aC a0.cells))),(31,some (.rows 0 3 1 (cM cI p2)))]⟩ k = (qH a0 p1 p2).bind (fun (r:(List Int))=>k (.exit 0) ⟨[(1,.ptr 1 0),(3,.own 31 0),(4,.d (.int .i64 a0.Bill.Tenor.Kind))],[(1,some (.box (aC a0.cells))),(31,some (.rows 0 3 1 (cM cI r)))]⟩):=by
 have hh:=fun (w:Int × (List Int))=>FB a0 w.1 w.2
 have h:=fun ho=>cA (T:=TT) (k:=k) (c:=nV) (step:=(fun (w:Int × (List Int))=>gR a0 w.1 w.2)) _ _ ho hh (p1,p2)
 refine Eq.trans (h (fun r s e=>by have q:=congrArg Prod.fst e; rcases r with x <;> cases q)) ?_
 unfold qH
 exact bQ _ fun x=>by rcases x with x <;> rfl
theorem xO {β:Type} (a0:aB) (p6:Int) (p7:List Int) (x8:bB) (k:Ex→St→Option β):cX TT rN ⟨[(3,.own 31 0),(4,.d (.int .i64 a0.Bill.Tenor.Kind)),(8,.ptr 8 0),(34,.d (.sl (cM bB.cells a0.Acts))),(35,.d (.int .i64 (a0.Acts.length:Int))),(36,.d (.int .i64 p6))],[(8,some (.box (aC x8.cells))),(31,some (.rows 0 3 1 (cM cI p7)))]⟩ k = (kS a0 p6 p7 x8).bind (fun (r:(List Int))=>k .normal ⟨[(3,.own 31 0),(4,.d (.int .i64 a0.Bill.Tenor.Kind)),(34,.d (.sl (cM bB.cells a0.Acts))),(35,.d (.int .i64 (a0.Acts.length:Int))),(36,.d (.int .i64 p6))],[(31,some (.rows 0 3 1 (cM cI r)))]⟩):=by
 simp -implicitDefEqProofs (decide:=true) (maxSteps:=2000000) only [rN,kS,↓sI,↓kK,↓DN,↓DR,DQ,DP,↓reduceIte,Int.reduceToNat,Nat.reduceBEq,Nat.reduceAdd,Nat.reduceLT,Nat.reduceLeDiff,Nat.reduceEqDiff,Int.reduceEq,ne_eq,zN,reduceCtorEq,bM,bO,bP,zM,zA,zB,aH,zC,zD,if_true,if_false,zE,zF,aD,zG,aL,zH,zI,zJ,zK,aV,aQ,aR,aT,aS,aE,aK,aJ,aF,aM,aG,aW,bA,Vm.bind_map,aI,aU,zL]
 all_goals try simp only [bF]
 all_goals try rfl
theorem FH (a0:aB) (p6:Int) (p7:List Int):cX TT nY ⟨[(3,.own 31 0),(4,.d (.int .i64 a0.Bill.Tenor.Kind)),(34,.d (.sl (cM bB.cells a0.Acts))),(35,.d (.int .i64 (a0.Acts.length:Int))),(36,.d (.int .i64 p6))],[(31,some (.rows 0 3 1 (cM cI p7)))]⟩ (fun e s=>some (e,s)) = dW (fun (w:Int × (List Int))=>(⟨[(3,.own 31 0),(4,.d (.int .i64 a0.Bill.Tenor.Kind)),(34,.d (.sl (cM bB.cells a0.Acts))),(35,.d (.int .i64 (a0.Acts.length:Int))),(36,.d (.int .i64 w.1))],[(31,some (.rows 0 3 1 (cM cI w.2)))]⟩ : St)) (fun (r:((List Int)) ⊕ Int)=>Sum.elim (fun (z:(List Int))=>(((.exit 2),⟨[(3,.own 31 0)],[(31,some (.rows 0 3 1 (cM cI z)))]⟩):Ex × St)) (fun (z:Int)=>((.ret,⟨[(2,.d (.int .i64 z))],[]⟩):Ex × St)) r) (gV a0 p6 p7):=by
 simp -implicitDefEqProofs (decide:=true) (maxSteps:=2000000) only [nY,gV,↓sI,↓xO,↓kK,↓DN,↓DR,DQ,DP,↓reduceIte,Int.reduceToNat,Nat.reduceBEq,Nat.reduceAdd,Nat.reduceLT,Nat.reduceLeDiff,Nat.reduceEqDiff,Int.reduceEq,ne_eq,zN,reduceCtorEq,bM,bO,bP,zM,zA,zB,aH,zC,zD,if_true,if_false,zE,zF,aD,zG,aL,zH,zI,zJ,zK,aV,aQ,aR,aT,aS,aE,aK,aJ,aF,aM,aG,aW,bA,Vm.bind_map,aI,aU,zL]
 all_goals try simp only [bF]
 all_goals try rfl
theorem FI {β:Type} (a0:aB) (p6:Int) (p7:List Int) (k:Ex→St→Option β):cX TT xH ⟨[(3,.own 31 0),(4,.d (.int .i64 a0.Bill.Tenor.Kind)),(34,.d (.sl (cM bB.cells a0.Acts))),(35,.d (.int .i64 (a0.Acts.length:Int))),(36,.d (.int .i64 p6))],[(31,some (.rows 0 3 1 (cM cI p7)))]⟩ k = (pS a0 p6 p7).bind (fun (r:((List Int)) ⊕ Int)=>Sum.elim (fun (z:(List Int))=>k (.exit 2) ⟨[(3,.own 31 0)],[(31,some (.rows 0 3 1 (cM cI z)))]⟩) (fun (z:Int)=>k .ret ⟨[(2,.d (.int .i64 z))],[]⟩) r):=by
 have hh:=fun (w:Int × (List Int))=>FH a0 w.1 w.2
 have h:=fun ho=>cA (T:=TT) (k:=k) (c:=nY) (step:=(fun (w:Int × (List Int))=>gV a0 w.1 w.2)) _ _ ho hh (p6,p7)
 refine Eq.trans (h (fun r s e=>by have q:=congrArg Prod.fst e; rcases r with x | x <;> cases q)) ?_
 unfold pS
 exact bQ _ fun x=>by rcases x with x | x <;> rfl
theorem I5 (a0:aB):Vm.call TT 17 [.agg a0.cells] = (j8 a0).map fun (r:Int)=>.int .i64 r:=by
 refine (bX (show TT 17 = some (.code ⟨1,67,[.tmp 2],aFy,false,false⟩) from rfl) _ rfl rfl).trans ?_
 show cX TT aFy ⟨[(0,cW a0.cells)],[]⟩ _ = _
 simp -implicitDefEqProofs (decide:=true) (maxSteps:=2000000) only [aFy,j8,↓sI,↓xO,↓FI,↓kK,↓DN,↓DR,DQ,DP,↓reduceIte,Int.reduceToNat,Nat.reduceBEq,Nat.reduceAdd,Nat.reduceLT,Nat.reduceLeDiff,Nat.reduceEqDiff,Int.reduceEq,ne_eq,zN,reduceCtorEq,bM,bO,bP,zM,zA,zB,aH,zC,zD,if_true,if_false,zE,zF,aD,zG,aL,zH,zI,zJ,zK,aV,aQ,aR,aT,aS,aE,aK,aJ,aF,aM,aG,aW,bA,Vm.bind_map,aI,aU,zL]
 all_goals try simp only [bF]
 all_goals try rfl
theorem iE {β:Type} (a0:aB) (d:Nat) (bl:List (Nat × Option aX)) (fz:List (Nat × Option aX)) (k:V→Option β) (kw:V→List (Nat × Option aX)→Option β):dM TT d bl 17 [.agg a0.cells] fz k kw = (j8 a0).bind fun (r:Int)=>k (.d (.int .i64 r)):=by
 have h:=I5 a0
 exact bR h (fun _=>rfl) fz
theorem mH {β:Type} (r1:aB) (r3:aA) (d:Nat) (bl:List (Nat × Option aX)) (fz:List (Nat × Option aX)) (k:V→Option β) (kw:V→List (Nat × Option aX)→Option β):dM TT d bl 25 [.agg r3.cells,.agg [.int .i64 r1.Bill.Drawer,.int .i64 r1.Bill.Drawee,.int .i64 r1.Bill.Payee,.int .i64 r1.Bill.Sum,.int .i64 r1.Bill.Currency,.int .i64 r1.Bill.Tenor.Kind,.int .i64 r1.Bill.Tenor.N,.int .i64 r1.Bill.Tenor.Unit,.int .i64 r1.Bill.Day,.int .i64 r1.Bill.City,.int .i64 r1.Bill.Pay,.int .i64 r1.Bill.Need,.int .i64 r1.Bill.Rate,.int .i64 r1.Bill.Flags,.int .i64 r1.Bill.Parts,.sl (cM aO.cells r1.Signs),.sl (cM aZ.cells r1.Alters),.sl (cM bB.cells r1.Acts),.sl (cM bG.cells r1.Facts),.int .i64 2,.int .i64 (-1),.int .i64 (-1),.int .i64 6,.int .i64 9]] fz k kw = (rG r3 (a7.mk r1 2 (-1) (-1) 6 9)).bind fun (r:(List aY))=>TJ fz (.d (.sl (cM aY.cells r))) k kw:=by
 have h:=B7 r3 (a7.mk r1 2 (-1) (-1) 6 9)
 exact s4 h (fun _=>rfl) (fun _=>rfl) fz
theorem qT {β:Type} (p8:Bool) (r1:aB) (p15:Bool) (k:Ex→St→Option β):cX TT lZ ⟨[(1,.ptr 1 0),(4,.d (.bool p8)),(5,.d (.bool p15))],[(1,some (.box (aC r1.cells)))]⟩ k = (eE p8 r1 p15).bind (fun (r:Bool)=>k .ret ⟨[(0,.d (.bool r))],[]⟩):=by
 simp -implicitDefEqProofs (decide:=true) (maxSteps:=2000000) only [lZ,eE,↓iE,↓gU,↓fN,↓wL,↓m8,↓lY,↓mH,↓DN,↓DR,DQ,DP,↓reduceIte,Int.reduceToNat,Nat.reduceBEq,Nat.reduceAdd,Nat.reduceLT,Nat.reduceLeDiff,Nat.reduceEqDiff,Int.reduceEq,ne_eq,zN,reduceCtorEq,bM,bO,bP,zM,zA,zB,aH,zC,zD,if_true,if_false,zE,zF,aD,zG,aL,zH,zI,zJ,zK,aV,aQ,aR,aT,aS,aE,aK,aJ,aF,aM,aG,aW,bA,Vm.bind_map,aI,aU,zL]
 all_goals try simp only [bF]
 all_goals try rfl
theorem zT {β:Type} (r1:aB) (r4:(List aY)) (p8:Bool) (k:Ex→St→Option β):cX TT mC ⟨[(1,.ptr 1 0),(3,.d (.sl (cM aY.cells r4))),(4,.d (.bool p8))],[(1,some (.box (aC r1.cells)))]⟩ k = (fE r1 r4 p8).bind (fun (r:Bool)=>k .ret ⟨[(0,.d (.bool r))],[]⟩):=by
 simp -implicitDefEqProofs (decide:=true) (maxSteps:=2000000) only [mC,fE,↓qT,↓iE,↓gU,↓fN,↓wL,↓m8,↓lY,↓mH,↓DN,↓DR,DQ,DP,↓reduceIte,Int.reduceToNat,Nat.reduceBEq,Nat.reduceAdd,Nat.reduceLT,Nat.reduceLeDiff,Nat.reduceEqDiff,Int.reduceEq,ne_eq,zN,reduceCtorEq,bM,bO,bP,zM,zA,zB,aH,zC,zD,if_true,if_false,zE,zF,aD,zG,aL,zH,zI,zJ,zK,aV,aQ,aR,aT,aS,aE,aK,aJ,aF,aM,aG,aW,bA,Vm.bind_map,aI,aU,zL]
 all_goals try simp only [bF]
 all_goals try rfl
theorem uG:Vm.call TT 14 [] = (eY).map fun (r:Bool)=>.bool r:=by
 refine (bX (show TT 14 = some (.code ⟨0,97,[.tmp 0],aFg,false,false⟩) from rfl) _ rfl rfl).trans ?_
 show cX TT aFg ⟨[],[]⟩ _ = _
 simp -implicitDefEqProofs (decide:=true) (maxSteps:=2000000) only [aFg,eY,↓qT,↓zT,↓iE,↓gU,↓fN,↓wL,↓m8,↓lY,↓mH,↓DN,↓DR,DQ,DP,↓reduceIte,Int.reduceToNat,Nat.reduceBEq,Nat.reduceAdd,Nat.reduceLT,Nat.reduceLeDiff,Nat.reduceEqDiff,Int.reduceEq,ne_eq,zN,reduceCtorEq,bM,bO,bP,zM,zA,zB,aH,zC,zD,if_true,if_false,zE,zF,aD,zG,aL,zH,zI,zJ,zK,aV,aQ,aR,aT,aS,aE,aK,aJ,aF,aM,aG,aW,bA,Vm.bind_map,aI,aU,zL]
 all_goals try simp only [bF]
 all_goals try rfl
theorem dN {β:Type} (d:Nat) (bl:List (Nat × Option aX)) (fz:List (Nat × Option aX)) (k:V→Option β) (kw:V→List (Nat × Option aX)→Option β):dM TT d bl 14 [] fz k kw = (eY).bind fun (r:Bool)=>k (.d (.bool r)):=by
 have h:=uG
 exact bR h (fun _=>rfl) fz
theorem AN (a0:aA) (p1:Int):cX TT j9 ⟨[(1,.ptr 1 0),(3,.d (.int .i64 p1))],[(1,some (.box (aC a0.cells)))]⟩ (fun e s=>some (e,s)) = dW (fun (w:Int)=>(⟨[(1,.ptr 1 0),(3,.d (.int .i64 w))],[(1,some (.box (aC a0.cells)))]⟩ : St)) (fun (r:Unit ⊕ Unit)=>Sum.elim (fun (z:Unit)=>(((.exit 0),⟨[(1,.ptr 1 0)],[(1,some (.box (aC a0.cells)))]⟩):Ex × St)) (fun (z:Unit)=>((.ret,⟨[(2,.d (.bool false))],[]⟩):Ex × St)) r) (eX a0 p1):=by
 simp -implicitDefEqProofs (decide:=true) (maxSteps:=2000000) only [j9,eX,↓DN,↓DR,DQ,DP,↓reduceIte,Int.reduceToNat,Nat.reduceBEq,Nat.reduceAdd,Nat.reduceLT,Nat.reduceLeDiff,Nat.reduceEqDiff,Int.reduceEq,ne_eq,zN,reduceCtorEq,bM,bO,bP,zM,zA,zB,aH,zC,zD,if_true,if_false,zE,zF,aD,zG,aL,zH,zI,zJ,zK,aV,aQ,aR,aT,aS,aE,aK,aJ,aF,aM,aG,aW,bA,Vm.bind_map,aI,aU,zL]
 all_goals try simp only [bF]
 all_goals try rfl
theorem rI {β:Type} (a0:aA) (p1:Int) (k:Ex→St→Option β):cX TT rJ ⟨[(1,.ptr 1 0),(3,.d (.int .i64 p1))],[(1,some (.box (aC a0.cells)))]⟩ k = (lB a0 p1).bind (fun (r:Unit ⊕ Unit)=>Sum.elim (fun (z:Unit)=>k (.exit 0) ⟨[(1,.ptr 1 0)],[(1,some (.box (aC a0.cells)))]⟩) (fun (z:Unit)=>k .ret ⟨[(2,.d (.bool false))],[]⟩) r):=by
 have hh:=fun (w:Int)=>AN a0 w
 have h:=fun ho=>cA (T:=TT) (k:=k) (c:=j9) (step:=(fun (w:Int)=>eX a0 w)) _ _ ho hh p1
 refine Eq.trans (h (fun r s e=>by have q:=congrArg Prod.fst e; rcases r with x | x <;> cases q)) ?_
 unfold lB
 exact bQ _ fun x=>by rcases x with x | x <;> rfl
theorem A6 (a0:aA) (p8:Int):cX TT jY ⟨[(1,.ptr 1 0),(4,.d (.int .i64 p8))],[(1,some (.box (aC a0.cells)))]⟩ (fun e s=>some (e,s)) = dW (fun (w:Int)=>(⟨[(1,.ptr 1 0),(4,.d (.int .i64 w))],[(1,some (.box (aC a0.cells)))]⟩ : St)) (fun (r:Unit ⊕ Unit)=>Sum.elim (fun (z:Unit)=>(((.exit 2),⟨[(1,.ptr 1 0)],[(1,some (.box (aC a0.cells)))]⟩):Ex × St)) (fun (z:Unit)=>((.ret,⟨[(2,.d (.bool false))],[]⟩):Ex × St)) r) (eW a0 p8):=by
 simp -implicitDefEqProofs (decide:=true) (maxSteps:=2000000) only [jY,eW,↓rI,↓DN,↓DR,DQ,DP,↓reduceIte,Int.reduceToNat,Nat.reduceBEq,Nat.reduceAdd,Nat.reduceLT,Nat.reduceLeDiff,Nat.reduceEqDiff,Int.reduceEq,ne_eq,zN,reduceCtorEq,bM,bO,bP,zM,zA,zB,aH,zC,zD,if_true,if_false,zE,zF,aD,zG,aL,zH,zI,zJ,zK,aV,aQ,aR,aT,aS,aE,aK,aJ,aF,aM,aG,aW,bA,Vm.bind_map,aI,aU,zL]
 all_goals try simp only [bF]
 all_goals try rfl
theorem A8 {β:Type} (a0:aA) (p8:Int) (k:Ex→St→Option β):cX TT rR ⟨[(1,.ptr 1 0),(4,.d (.int .i64 p8))],[(1,some (.box (aC a0.cells)))]⟩ k = (kX a0 p8).bind (fun (r:Unit ⊕ Unit)=>Sum.elim (fun (z:Unit)=>k (.exit 2) ⟨[(1,.ptr 1 0)],[(1,some (.box (aC a0.cells)))]⟩) (fun (z:Unit)=>k .ret ⟨[(2,.d (.bool false))],[]⟩) r):=by
 have hh:=fun (w:Int)=>A6 a0 w
 have h:=fun ho=>cA (T:=TT) (k:=k) (c:=jY) (step:=(fun (w:Int)=>eW a0 w)) _ _ ho hh p8
 refine Eq.trans (h (fun r s e=>by have q:=congrArg Prod.fst e; rcases r with x | x <;> cases q)) ?_
 unfold kX
 exact bQ _ fun x=>by rcases x with x | x <;> rfl
theorem DK (a0:aA):Vm.call TT 15 [.agg a0.cells] = (iC a0).map fun (r:Bool)=>.bool r:=by
 refine (bX (show TT 15 = some (.code ⟨1,119,[.tmp 2],aEr,false,false⟩) from rfl) _ rfl rfl).trans ?_
 show cX TT aEr ⟨[(0,cW a0.cells)],[]⟩ _ = _
 simp -implicitDefEqProofs (decide:=true) (maxSteps:=2000000) only [aEr,iC,↓rI,↓A8,↓DN,↓DR,DQ,DP,↓reduceIte,Int.reduceToNat,Nat.reduceBEq,Nat.reduceAdd,Nat.reduceLT,Nat.reduceLeDiff,Nat.reduceEqDiff,Int.reduceEq,ne_eq,zN,reduceCtorEq,bM,bO,bP,zM,zA,zB,aH,zC,zD,if_true,if_false,zE,zF,aD,zG,aL,zH,zI,zJ,zK,aV,aQ,aR,aT,aS,aE,aK,aJ,aF,aM,aG,aW,bA,Vm.bind_map,aI,aU,zL]
 all_goals try simp only [bF]
 all_goals try rfl
theorem dT {β:Type} (a0:aA) (d:Nat) (bl:List (Nat × Option aX)) (fz:List (Nat × Option aX)) (k:V→Option β) (kw:V→List (Nat × Option aX)→Option β):dM TT d bl 15 [.agg a0.cells] fz k kw = (iC a0).bind fun (r:Bool)=>k (.d (.bool r)):=by
 have h:=DK a0
 exact bR h (fun _=>rfl) fz
theorem C8 (a0:aB):Vm.call TT 16 [.agg a0.cells] = (gQ a0).map fun (r:Bool)=>.bool r:=by
 refine (bX (show TT 16 = some (.code ⟨1,25,[.tmp 2],aGT,false,false⟩) from rfl) _ rfl rfl).trans ?_
 show cX TT aGT ⟨[(0,cW a0.cells)],[]⟩ _ = _
 simp -implicitDefEqProofs (decide:=true) (maxSteps:=2000000) only [aGT,gQ,↓DN,↓DR,DQ,DP,↓reduceIte,Int.reduceToNat,Nat.reduceBEq,Nat.reduceAdd,Nat.reduceLT,Nat.reduceLeDiff,Nat.reduceEqDiff,Int.reduceEq,ne_eq,zN,reduceCtorEq,bM,bO,bP,zM,zA,zB,aH,zC,zD,if_true,if_false,zE,zF,aD,zG,aL,zH,zI,zJ,zK,aV,aQ,aR,aT,aS,aE,aK,aJ,aF,aM,aG,aW,bA,Vm.bind_map,aI,aU,zL]
 all_goals try simp only [bF]
 all_goals try rfl
theorem dU {β:Type} (a0:aB) (d:Nat) (bl:List (Nat × Option aX)) (fz:List (Nat × Option aX)) (k:V→Option β) (kw:V→List (Nat × Option aX)→Option β):dM TT d bl 16 [.agg a0.cells] fz k kw = (gQ a0).bind fun (r:Bool)=>k (.d (.bool r)):=by
 have h:=C8 a0
 exact bR h (fun _=>rfl) fz
theorem zV (a0:aB) (a1:aB) (p1:Int):cX TT jC ⟨[(2,.ptr 2 0),(3,.ptr 3 0),(5,.d (.int .i64 p1))],[(2,some (.box (aC a0.cells))),(3,some (.box (aC a1.cells)))]⟩ (fun e s=>some (e,s)) = dW (fun (w:Int)=>(⟨[(2,.ptr 2 0),(3,.ptr 3 0),(5,.d (.int .i64 w))],[(2,some (.box (aC a0.cells))),(3,some (.box (aC a1.cells)))]⟩ : St)) (fun (r:Unit ⊕ Unit)=>Sum.elim (fun (z:Unit)=>(((.exit 0),⟨[(2,.ptr 2 0),(3,.ptr 3 0)],[(2,some (.box (aC a0.cells))),(3,some (.box (aC a1.cells)))]⟩):Ex × St)) (fun (z:Unit)=>((.ret,⟨[(4,.d (.bool false))],[]⟩):Ex × St)) r) (eP a0 a1 p1):=by
 simp -implicitDefEqProofs (decide:=true) (maxSteps:=2000000) only [jC,eP,↓DN,↓DR,DQ,DP,↓reduceIte,Int.reduceToNat,Nat.reduceBEq,Nat.reduceAdd,Nat.reduceLT,Nat.reduceLeDiff,Nat.reduceEqDiff,Int.reduceEq,ne_eq,zN,reduceCtorEq,bM,bO,bP,zM,zA,zB,aH,zC,zD,if_true,if_false,zE,zF,aD,zG,aL,zH,zI,zJ,zK,aV,aQ,aR,aT,aS,aE,aK,aJ,aF,aM,aG,aW,bA,Vm.bind_map,aI,aU,zL]
 all_goals try simp only [bF]
 all_goals try rfl
theorem jI {β:Type} (a0:aB) (a1:aB) (p1:Int) (k:Ex→St→Option β):cX TT qX ⟨[(2,.ptr 2 0),(3,.ptr 3 0),(5,.d (.int .i64 p1))],[(2,some (.box (aC a0.cells))),(3,some (.box (aC a1.cells)))]⟩ k = (kM a0 a1 p1).bind (fun (r:Unit ⊕ Unit)=>Sum.elim (fun (z:Unit)=>k (.exit 0) ⟨[(2,.ptr 2 0),(3,.ptr 3 0)],[(2,some (.box (aC a0.cells))),(3,some (.box (aC a1.cells)))]⟩) (fun (z:Unit)=>k .ret ⟨[(4,.d (.bool false))],[]⟩) r):=by
 have hh:=fun (w:Int)=>zV a0 a1 w
 have h:=fun ho=>cA (T:=TT) (k:=k) (c:=jC) (step:=(fun (w:Int)=>eP a0 a1 w)) _ _ ho hh p1
 refine Eq.trans (h (fun r s e=>by have q:=congrArg Prod.fst e; rcases r with x | x <;> cases q)) ?_
 unfold kM
 exact bQ _ fun x=>by rcases x with x | x <;> rfl
theorem yX (a0:aB) (a1:aB) (p7:Int):cX TT jD ⟨[(2,.ptr 2 0),(3,.ptr 3 0),(6,.d (.int .i64 p7))],[(2,some (.box (aC a0.cells))),(3,some (.box (aC a1.cells)))]⟩ (fun e s=>some (e,s)) = dW (fun (w:Int)=>(⟨[(2,.ptr 2 0),(3,.ptr 3 0),(6,.d (.int .i64 w))],[(2,some (.box (aC a0.cells))),(3,some (.box (aC a1.cells)))]⟩ : St)) (fun (r:Unit ⊕ Unit)=>Sum.elim (fun (z:Unit)=>(((.exit 2),⟨[(2,.ptr 2 0),(3,.ptr 3 0)],[(2,some (.box (aC a0.cells))),(3,some (.box (aC a1.cells)))]⟩):Ex × St)) (fun (z:Unit)=>((.ret,⟨[(4,.d (.bool false))],[]⟩):Ex × St)) r) (eN a0 a1 p7):=by
 simp -implicitDefEqProofs (decide:=true) (maxSteps:=2000000) only [jD,eN,↓jI,↓DN,↓DR,DQ,DP,↓reduceIte,Int.reduceToNat,Nat.reduceBEq,Nat.reduceAdd,Nat.reduceLT,Nat.reduceLeDiff,Nat.reduceEqDiff,Int.reduceEq,ne_eq,zN,reduceCtorEq,bM,bO,bP,zM,zA,zB,aH,zC,zD,if_true,if_false,zE,zF,aD,zG,aL,zH,zI,zJ,zK,aV,aQ,aR,aT,aS,aE,aK,aJ,aF,aM,aG,aW,bA,Vm.bind_map,aI,aU,zL]
 all_goals try simp only [bF]
 all_goals try rfl
theorem lU {β:Type} (a0:aB) (a1:aB) (p7:Int) (k:Ex→St→Option β):cX TT qS ⟨[(2,.ptr 2 0),(3,.ptr 3 0),(6,.d (.int .i64 p7))],[(2,some (.box (aC a0.cells))),(3,some (.box (aC a1.cells)))]⟩ k = (kH a0 a1 p7).bind (fun (r:Unit ⊕ Unit)=>Sum.elim (fun (z:Unit)=>k (.exit 2) ⟨[(2,.ptr 2 0),(3,.ptr 3 0)],[(2,some (.box (aC a0.cells))),(3,some (.box (aC a1.cells)))]⟩) (fun (z:Unit)=>k .ret ⟨[(4,.d (.bool false))],[]⟩) r):=by
 have hh:=fun (w:Int)=>yX a0 a1 w
 have h:=fun ho=>cA (T:=TT) (k:=k) (c:=jD) (step:=(fun (w:Int)=>eN a0 a1 w)) _ _ ho hh p7
 refine Eq.trans (h (fun r s e=>by have q:=congrArg Prod.fst e; rcases r with x | x <;> cases q)) ?_
 unfold kH
 exact bQ _ fun x=>by rcases x with x | x <;> rfl
theorem AD (a0:aB) (a1:aB) (p13:Int):cX TT jB ⟨[(2,.ptr 2 0),(3,.ptr 3 0),(7,.d (.int .i64 p13))],[(2,some (.box (aC a0.cells))),(3,some (.box (aC a1.cells)))]⟩ (fun e s=>some (e,s)) = dW (fun (w:Int)=>(⟨[(2,.ptr 2 0),(3,.ptr 3 0),(7,.d (.int .i64 w))],[(2,some (.box (aC a0.cells))),(3,some (.box (aC a1.cells)))]⟩ : St)) (fun (r:Unit ⊕ Unit)=>Sum.elim (fun (z:Unit)=>(((.exit 4),⟨[(2,.ptr 2 0),(3,.ptr 3 0)],[(2,some (.box (aC a0.cells))),(3,some (.box (aC a1.cells)))]⟩):Ex × St)) (fun (z:Unit)=>((.ret,⟨[(4,.d (.bool false))],[]⟩):Ex × St)) r) (eH a0 a1 p13):=by
 simp -implicitDefEqProofs (decide:=true) (maxSteps:=2000000) only [jB,eH,↓jI,↓lU,↓DN,↓DR,DQ,DP,↓reduceIte,Int.reduceToNat,Nat.reduceBEq,Nat.reduceAdd,Nat.reduceLT,Nat.reduceLeDiff,Nat.reduceEqDiff,Int.reduceEq,ne_eq,zN,reduceCtorEq,bM,bO,bP,zM,zA,zB,aH,zC,zD,if_true,if_false,zE,zF,aD,zG,aL,zH,zI,zJ,zK,aV,aQ,aR,aT,aS,aE,aK,aJ,aF,aM,aG,aW,bA,Vm.bind_map,aI,aU,zL]
 all_goals try simp only [bF]
 all_goals try rfl
theorem qQ {β:Type} (a0:aB) (a1:aB) (p13:Int) (k:Ex→St→Option β):cX TT qZ ⟨[(2,.ptr 2 0),(3,.ptr 3 0),(7,.d (.int .i64 p13))],[(2,some (.box (aC a0.cells))),(3,some (.box (aC a1.cells)))]⟩ k = (kI a0 a1 p13).bind (fun (r:Unit ⊕ Unit)=>Sum.elim (fun (z:Unit)=>k (.exit 4) ⟨[(2,.ptr 2 0),(3,.ptr 3 0)],[(2,some (.box (aC a0.cells))),(3,some (.box (aC a1.cells)))]⟩) (fun (z:Unit)=>k .ret ⟨[(4,.d (.bool false))],[]⟩) r):=by
 have hh:=fun (w:Int)=>AD a0 a1 w
 have h:=fun ho=>cA (T:=TT) (k:=k) (c:=jB) (step:=(fun (w:Int)=>eH a0 a1 w)) _ _ ho hh p13
 refine Eq.trans (h (fun r s e=>by have q:=congrArg Prod.fst e; rcases r with x | x <;> cases q)) ?_
 unfold kI
 exact bQ _ fun x=>by rcases x with x | x <;> rfl
theorem yN (a0:aB) (a1:aB) (p19:Int):cX TT jJ ⟨[(2,.ptr 2 0),(3,.ptr 3 0),(8,.d (.int .i64 p19))],[(2,some (.box (aC a0.cells))),(3,some (.box (aC a1.cells)))]⟩ (fun e s=>some (e,s)) = dW (fun (w:Int)=>(⟨[(2,.ptr 2 0),(3,.ptr 3 0),(8,.d (.int .i64 w))],[(2,some (.box (aC a0.cells))),(3,some (.box (aC a1.cells)))]⟩ : St)) (fun (r:Unit ⊕ Unit)=>Sum.elim (fun (z:Unit)=>(((.exit 6),⟨[],[]⟩):Ex × St)) (fun (z:Unit)=>((.ret,⟨[(4,.d (.bool false))],[]⟩):Ex × St)) r) (eO a0 a1 p19):=by
 simp -implicitDefEqProofs (decide:=true) (maxSteps:=2000000) only [jJ,eO,↓jI,↓lU,↓qQ,↓DN,↓DR,DQ,DP,↓reduceIte,Int.reduceToNat,Nat.reduceBEq,Nat.reduceAdd,Nat.reduceLT,Nat.reduceLeDiff,Nat.reduceEqDiff,Int.reduceEq,ne_eq,zN,reduceCtorEq,bM,bO,bP,zM,zA,zB,aH,zC,zD,if_true,if_false,zE,zF,aD,zG,aL,zH,zI,zJ,zK,aV,aQ,aR,aT,aS,aE,aK,aJ,aF,aM,aG,aW,bA,Vm.bind_map,aI,aU,zL]
 all_goals try simp only [bF]
 all_goals try rfl
theorem yO {β:Type} (a0:aB) (a1:aB) (p19:Int) (k:Ex→St→Option β):cX TT qP ⟨[(2,.ptr 2 0),(3,.ptr 3 0),(8,.d (.int .i64 p19))],[(2,some (.box (aC a0.cells))),(3,some (.box (aC a1.cells)))]⟩ k = (kJ a0 a1 p19).bind (fun (r:Unit ⊕ Unit)=>Sum.elim (fun (z:Unit)=>k (.exit 6) ⟨[],[]⟩) (fun (z:Unit)=>k .ret ⟨[(4,.d (.bool false))],[]⟩) r):=by
 have hh:=fun (w:Int)=>yN a0 a1 w
 have h:=fun ho=>cA (T:=TT) (k:=k) (c:=jJ) (step:=(fun (w:Int)=>eO a0 a1 w)) _ _ ho hh p19
 refine Eq.trans (h (fun r s e=>by have q:=congrArg Prod.fst e; rcases r with x | x <;> cases q)) ?_
 unfold kJ
 exact bQ _ fun x=>by rcases x with x | x <;> rfl
theorem B2 (a0:aB) (a1:aB):Vm.call TT 21 [.agg a0.cells,.agg a1.cells] = (fK a0 a1).map fun (r:Bool)=>.bool r:=by
 refine (bX (show TT 21 = some (.code ⟨2,122,[.tmp 4],aEJ,false,false⟩) from rfl) _ rfl rfl).trans ?_
 show cX TT aEJ ⟨[(0,cW a0.cells),(1,cW a1.cells)],[]⟩ _ = _
 simp -implicitDefEqProofs (decide:=true) (maxSteps:=2000000) only [aEJ,fK,↓jI,↓lU,↓qQ,↓yO,↓DN,↓DR,DQ,DP,↓reduceIte,Int.reduceToNat,Nat.reduceBEq,Nat.reduceAdd,Nat.reduceLT,Nat.reduceLeDiff,Nat.reduceEqDiff,Int.reduceEq,ne_eq,zN,reduceCtorEq,bM,bO,bP,zM,zA,zB,aH,zC,zD,if_true,if_false,zE,zF,aD,zG,aL,zH,zI,zJ,zK,aV,aQ,aR,aT,aS,aE,aK,aJ,aF,aM,aG,aW,bA,Vm.bind_map,aI,aU,zL]
 all_goals try simp only [bF]
 all_goals try rfl
theorem lC {β:Type} (a0:aB) (a1:aB) (d:Nat) (bl:List (Nat × Option aX)) (fz:List (Nat × Option aX)) (k:V→Option β) (kw:V→List (Nat × Option aX)→Option β):dM TT d bl 21 [.agg a0.cells,.agg a1.cells] fz k kw = (fK a0 a1).bind fun (r:Bool)=>k (.d (.bool r)):=by
 have h:=B2 a0 a1
 exact bR h (fun _=>rfl) fz
theorem FX (a0:aA) (p1:Int) (p2:List ByteArray):cX TT oB ⟨[(1,.ptr 1 0),(2,.own 22 0),(3,.nil),(4,.nil),(12,.d (.sl (cM bJ.cells a0.Cities))),(13,.d (.int .i64 (a0.Cities.length:Int))),(14,.d (.int .i64 p1))],[(1,some (.box (aC a0.cells))),(22,some (.rows 0 9 1 (cM cS p2)))]⟩ (fun e s=>some (e,s)) = dW (fun (w:Int × (List ByteArray))=>(⟨[(1,.ptr 1 0),(2,.own 22 0),(3,.nil),(4,.nil),(12,.d (.sl (cM bJ.cells a0.Cities))),(13,.d (.int .i64 (a0.Cities.length:Int))),(14,.d (.int .i64 w.1))],[(1,some (.box (aC a0.cells))),(22,some (.rows 0 9 1 (cM cS w.2)))]⟩ : St)) (fun (r:(List ByteArray))=>(((.exit 0),⟨[(1,.ptr 1 0),(2,.own 22 0),(3,.nil),(4,.nil)],[(1,some (.box (aC a0.cells))),(22,some (.rows 0 9 1 (cM cS r)))]⟩):Ex × St)) (hU a0 p1 p2):=by
 simp -implicitDefEqProofs (decide:=true) (maxSteps:=2000000) only [oB,hU,↓DN,↓DR,DQ,DP,↓reduceIte,Int.reduceToNat,Nat.reduceBEq,Nat.reduceAdd,Nat.reduceLT,Nat.reduceLeDiff,Nat.reduceEqDiff,Int.reduceEq,ne_eq,zN,reduceCtorEq,bM,bO,bP,zM,zA,zB,aH,zC,zD,if_true,if_false,zE,zF,aD,zG,aL,zH,zI,zJ,zK,aV,aQ,aR,aT,aS,aE,aK,aJ,aF,aM,aG,aW,bA,Vm.bind_map,aI,aU,zL]
 all_goals try simp only [bF]
 all_goals try rfl
theorem sE {β:Type} (a0:aA) (p1:Int) (p2:List ByteArray) (k:Ex→St→Option β):cX TT xJ ⟨[(1,.ptr 1 0),(2,.own 22 0),(3,.nil),(4,.nil),(12,.d (.sl (cM bJ.cells a0.Cities))),(13,.d (.int .i64 (a0.Cities.length:Int))),(14,.d (.int .i64 p1))],[(1,some (.box (aC a0.cells))),(22,some (.rows 0 9 1 (cM cS p2)))]⟩ k = (qC a0 p1 p2).bind (fun (r:(List ByteArray))=>k (.exit 0) ⟨[(1,.ptr 1 0),(2,.own 22 0),(3,.nil),(4,.nil)],[(1,some (.box (aC a0.cells))),(22,some (.rows 0 9 1 (cM cS r)))]⟩):=by
 have hh:=fun (w:Int × (List ByteArray))=>FX a0 w.1 w.2
 have h:=fun ho=>cA (T:=TT) (k:=k) (c:=oB) (step:=(fun (w:Int × (List ByteArray))=>hU a0 w.1 w.2)) _ _ ho hh (p1,p2)
 refine Eq.trans (h (fun r s e=>by have q:=congrArg Prod.fst e; rcases r with x <;> cases q)) ?_
 unfold qC
 exact bQ _ fun x=>by rcases x with x <;> rfl
theorem FR (a0:aA) (r5:(List ByteArray)) (p6:Int) (p7:List ByteArray):cX TT nT ⟨[(1,.ptr 1 0),(2,.own 22 0),(3,.own 35 0),(4,.nil),(25,.d (.sl (cM bU.cells a0.Firms))),(26,.d (.int .i64 (a0.Firms.length:Int))),(27,.d (.int .i64 p6))],[(1,some (.box (aC a0.cells))),(22,some (.rows 0 9 1 (cM cS r5))),(35,some (.rows 0 9 1 (cM cS p7)))]⟩ (fun e s=>some (e,s)) = dW (fun (w:Int × (List ByteArray))=>(⟨[(1,.ptr 1 0),(2,.own 22 0),(3,.own 35 0),(4,.nil),(25,.d (.sl (cM bU.cells a0.Firms))),(26,.d (.int .i64 (a0.Firms.length:Int))),(27,.d (.int .i64 w.1))],[(1,some (.box (aC a0.cells))),(22,some (.rows 0 9 1 (cM cS r5))),(35,some (.rows 0 9 1 (cM cS w.2)))]⟩ : St)) (fun (r:(List ByteArray))=>(((.exit 2),⟨[(1,.ptr 1 0),(2,.own 22 0),(3,.own 35 0),(4,.nil)],[(1,some (.box (aC a0.cells))),(22,some (.rows 0 9 1 (cM cS r5))),(35,some (.rows 0 9 1 (cM cS r)))]⟩):Ex × St)) (gO a0 r5 p6 p7):=by
 simp -implicitDefEqProofs (decide:=true) (maxSteps:=2000000) only [nT,gO,↓sE,↓DN,↓DR,DQ,DP,↓reduceIte,Int.reduceToNat,Nat.reduceBEq,Nat.reduceAdd,Nat.reduceLT,Nat.reduceLeDiff,Nat.reduceEqDiff,Int.reduceEq,ne_eq,zN,reduceCtorEq,bM,bO,bP,zM,zA,zB,aH,zC,zD,if_true,if_false,zE,zF,aD,zG,aL,zH,zI,zJ,zK,aV,aQ,aR,aT,aS,aE,aK,aJ,aF,aM,aG,aW,bA,Vm.bind_map,aI,aU,zL]
 all_goals try simp only [bF]
 all_goals try rfl
theorem xL {β:Type} (a0:aA) (r5:(List ByteArray)) (p6:Int) (p7:List ByteArray) (k:Ex→St→Option β):cX TT xU ⟨[(1,.ptr 1 0),(2,.own 22 0),(3,.own 35 0),(4,.nil),(25,.d (.sl (cM bU.cells a0.Firms))),(26,.d (.int .i64 (a0.Firms.length:Int))),(27,.d (.int .i64 p6))],[(1,some (.box (aC a0.cells))),(22,some (.rows 0 9 1 (cM cS r5))),(35,some (.rows 0 9 1 (cM cS p7)))]⟩ k = (qB a0 r5 p6 p7).bind (fun (r:(List ByteArray))=>k (.exit 2) ⟨[(1,.ptr 1 0),(2,.own 22 0),(3,.own 35 0),(4,.nil)],[(1,some (.box (aC a0.cells))),(22,some (.rows 0 9 1 (cM cS r5))),(35,some (.rows 0 9 1 (cM cS r)))]⟩):=by
 have hh:=fun (w:Int × (List ByteArray))=>FR a0 r5 w.1 w.2
 have h:=fun ho=>cA (T:=TT) (k:=k) (c:=nT) (step:=(fun (w:Int × (List ByteArray))=>gO a0 r5 w.1 w.2)) _ _ ho hh (p6,p7)
 refine Eq.trans (h (fun r s e=>by have q:=congrArg Prod.fst e; rcases r with x <;> cases q)) ?_
 unfold qB
 exact bQ _ fun x=>by rcases x with x <;> rfl
theorem F1 (a0:aA) (r10:(List ByteArray)) (r5:(List ByteArray)) (p11:Int) (p12:List ByteArray):cX TT oA ⟨[(2,.own 22 0),(3,.own 35 0),(4,.own 48 0),(38,.d (.sl (cM bC.cells a0.Orders))),(39,.d (.int .i64 (a0.Orders.length:Int))),(40,.d (.int .i64 p11))],[(22,some (.rows 0 9 1 (cM cS r5))),(35,some (.rows 0 9 1 (cM cS r10))),(48,some (.rows 0 9 1 (cM cS p12)))]⟩ (fun e s=>some (e,s)) = dW (fun (w:Int × (List ByteArray))=>(⟨[(2,.own 22 0),(3,.own 35 0),(4,.own 48 0),(38,.d (.sl (cM bC.cells a0.Orders))),(39,.d (.int .i64 (a0.Orders.length:Int))),(40,.d (.int .i64 w.1))],[(22,some (.rows 0 9 1 (cM cS r5))),(35,some (.rows 0 9 1 (cM cS r10))),(48,some (.rows 0 9 1 (cM cS w.2)))]⟩ : St)) (fun (r:(List ByteArray))=>(((.exit 4),⟨[(2,.own 22 0),(3,.own 35 0),(4,.own 48 0)],[(22,some (.rows 0 9 1 (cM cS r5))),(35,some (.rows 0 9 1 (cM cS r10))),(48,some (.rows 0 9 1 (cM cS r)))]⟩):Ex × St)) (iA a0 r10 r5 p11 p12):=by
 simp -implicitDefEqProofs (decide:=true) (maxSteps:=2000000) only [oA,iA,↓sE,↓xL,↓DN,↓DR,DQ,DP,↓reduceIte,Int.reduceToNat,Nat.reduceBEq,Nat.reduceAdd,Nat.reduceLT,Nat.reduceLeDiff,Nat.reduceEqDiff,Int.reduceEq,ne_eq,zN,reduceCtorEq,bM,bO,bP,zM,zA,zB,aH,zC,zD,if_true,if_false,zE,zF,aD,zG,aL,zH,zI,zJ,zK,aV,aQ,aR,aT,aS,aE,aK,aJ,aF,aM,aG,aW,bA,Vm.bind_map,aI,aU,zL]
 all_goals try simp only [bF]
 all_goals try rfl
theorem E0 {β:Type} (a0:aA) (r10:(List ByteArray)) (r5:(List ByteArray)) (p11:Int) (p12:List ByteArray) (k:Ex→St→Option β):cX TT xN ⟨[(2,.own 22 0),(3,.own 35 0),(4,.own 48 0),(38,.d (.sl (cM bC.cells a0.Orders))),(39,.d (.int .i64 (a0.Orders.length:Int))),(40,.d (.int .i64 p11))],[(22,some (.rows 0 9 1 (cM cS r5))),(35,some (.rows 0 9 1 (cM cS r10))),(48,some (.rows 0 9 1 (cM cS p12)))]⟩ k = (pT a0 r10 r5 p11 p12).bind (fun (r:(List ByteArray))=>k (.exit 4) ⟨[(2,.own 22 0),(3,.own 35 0),(4,.own 48 0)],[(22,some (.rows 0 9 1 (cM cS r5))),(35,some (.rows 0 9 1 (cM cS r10))),(48,some (.rows 0 9 1 (cM cS r)))]⟩):=by
 have hh:=fun (w:Int × (List ByteArray))=>F1 a0 r10 r5 w.1 w.2
 have h:=fun ho=>cA (T:=TT) (k:=k) (c:=oA) (step:=(fun (w:Int × (List ByteArray))=>iA a0 r10 r5 w.1 w.2)) _ _ ho hh (p11,p12)
 refine Eq.trans (h (fun r s e=>by have q:=congrArg Prod.fst e; rcases r with x <;> cases q)) ?_
 unfold pT
 exact bQ _ fun x=>by rcases x with x <;> rfl
theorem KF (a0:aA):Vm.call TT 91 [.agg a0.cells] = (oY a0).map fun (r:(List ByteArray) × (List ByteArray) × (List ByteArray))=>.tup [.sl (cM cS r.1),.sl (cM cS r.2.1),.sl (cM cS r.2.2)]:=by
 refine (bX (show TT 91 = some (.code ⟨1,53,[.tmp 2,.tmp 3,.tmp 4],aF6,false,false⟩) from rfl) _ rfl rfl).trans ?_
 show cX TT aF6 ⟨[(0,cW a0.cells)],[]⟩ _ = _
 simp -implicitDefEqProofs (decide:=true) (maxSteps:=2000000) only [aF6,oY,↓sE,↓xL,↓E0,↓DN,↓DR,DQ,DP,↓reduceIte,Int.reduceToNat,Nat.reduceBEq,Nat.reduceAdd,Nat.reduceLT,Nat.reduceLeDiff,Nat.reduceEqDiff,Int.reduceEq,ne_eq,zN,reduceCtorEq,bM,bO,bP,zM,zA,zB,aH,zC,zD,if_true,if_false,zE,zF,aD,zG,aL,zH,zI,zJ,zK,aV,aQ,aR,aT,aS,aE,aK,aJ,aF,aM,aG,aW,bA,Vm.bind_map,aI,aU,zL]
 all_goals try simp only [bF]
 all_goals try rfl
theorem CG {β:Type} (a0:aA) (d:Nat) (bl:List (Nat × Option aX)) (fz:List (Nat × Option aX)) (k:V→Option β) (kw:V→List (Nat × Option aX)→Option β):dM TT d bl 91 [.agg a0.cells] fz k kw = (oY a0).bind fun (r:(List ByteArray) × (List ByteArray) × (List ByteArray))=>TJ fz (.tup [.d (.sl (cM cS r.1)),.d (.sl (cM cS r.2.1)),.d (.sl (cM cS r.2.2))]) k kw:=by
 have h:=KF a0
 exact s4 h (fun _=>rfl) (fun _=>rfl) fz
theorem wB {β:Type} (a0:ByteArray) (p1:Int) (x2:Int) (p3:Bool) (k:Ex→St→Option β):cX TT qK ⟨[(3,.d (.int .i64 p1)),(4,.d (.int .u8 x2)),(5,.d (.bool p3)),(14,.d (.sl (cM (cK .u8) (kQ a0)))),(15,.d (.int .i64 ((kQ a0).length:Int))),(16,.d (.int .i64 p1))],[]⟩ k = (fM a0 p1 x2 p3).bind (fun (r:Unit ⊕ Unit)=>Sum.elim (fun (z:Unit)=>k .normal ⟨[(14,.d (.sl (cM (cK .u8) (kQ a0)))),(15,.d (.int .i64 ((kQ a0).length:Int))),(16,.d (.int .i64 p1))],[]⟩) (fun (z:Unit)=>k .ret ⟨[(2,.d (.bool false))],[]⟩) r):=by
 simp -implicitDefEqProofs (decide:=true) (maxSteps:=2000000) only [qK,fM,↓DN,↓DR,DQ,DP,↓reduceIte,Int.reduceToNat,Nat.reduceBEq,Nat.reduceAdd,Nat.reduceLT,Nat.reduceLeDiff,Nat.reduceEqDiff,Int.reduceEq,ne_eq,zN,reduceCtorEq,bM,bO,bP,zM,zA,zB,aH,zC,zD,if_true,if_false,zE,zF,aD,zG,aL,zH,zI,zJ,zK,aV,aQ,aR,aT,aS,aE,aK,aJ,aF,aM,aG,aW,bA,Vm.bind_map,aI,aU,zL]
 all_goals try simp only [bF]
 all_goals try rfl
theorem EI (a0:ByteArray) (p1:Int):cX TT mX ⟨[(14,.d (.sl (cM (cK .u8) (kQ a0)))),(15,.d (.int .i64 ((kQ a0).length:Int))),(16,.d (.int .i64 p1))],[]⟩ (fun e s=>some (e,s)) = dW (fun (w:Int)=>(⟨[(14,.d (.sl (cM (cK .u8) (kQ a0)))),(15,.d (.int .i64 ((kQ a0).length:Int))),(16,.d (.int .i64 w))],[]⟩ : St)) (fun (r:Unit ⊕ Unit)=>Sum.elim (fun (z:Unit)=>(((.exit 0),⟨[],[]⟩):Ex × St)) (fun (z:Unit)=>((.ret,⟨[(2,.d (.bool false))],[]⟩):Ex × St)) r) (gG a0 p1):=by
 simp -implicitDefEqProofs (decide:=true) (maxSteps:=2000000) only [mX,gG,↓wB,↓DN,↓DR,DQ,DP,↓reduceIte,Int.reduceToNat,Nat.reduceBEq,Nat.reduceAdd,Nat.reduceLT,Nat.reduceLeDiff,Nat.reduceEqDiff,Int.reduceEq,ne_eq,zN,reduceCtorEq,bM,bO,bP,zM,zA,zB,aH,zC,zD,if_true,if_false,zE,zF,aD,zG,aL,zH,zI,zJ,zK,aV,aQ,aR,aT,aS,aE,aK,aJ,aF,aM,aG,aW,bA,Vm.bind_map,aI,aU,zL]
 all_goals try simp only [bF]
 all_goals try rfl
theorem D7 {β:Type} (a0:ByteArray) (p1:Int) (k:Ex→St→Option β):cX TT wH ⟨[(14,.d (.sl (cM (cK .u8) (kQ a0)))),(15,.d (.int .i64 ((kQ a0).length:Int))),(16,.d (.int .i64 p1))],[]⟩ k = (oV a0 p1).bind (fun (r:Unit ⊕ Unit)=>Sum.elim (fun (z:Unit)=>k (.exit 0) ⟨[],[]⟩) (fun (z:Unit)=>k .ret ⟨[(2,.d (.bool false))],[]⟩) r):=by
 have hh:=fun (w:Int)=>EI a0 w
 have h:=fun ho=>cA (T:=TT) (k:=k) (c:=mX) (step:=(fun (w:Int)=>gG a0 w)) _ _ ho hh p1
 refine Eq.trans (h (fun r s e=>by have q:=congrArg Prod.fst e; rcases r with x | x <;> cases q)) ?_
 unfold oV
 exact bQ _ fun x=>by rcases x with x | x <;> rfl
theorem IK (a0:ByteArray):Vm.call TT 115 [.str a0] = (nJ a0).map fun (r:Bool)=>.bool r:=by
 refine (bX (show TT 115 = some (.code ⟨1,54,[.tmp 2],WN,false,false⟩) from rfl) _ rfl rfl).trans ?_
 show cX TT WN ⟨[(0,.d (.str a0))],[]⟩ _ = _
 simp -implicitDefEqProofs (decide:=true) (maxSteps:=2000000) only [WN,nJ,↓wB,↓D7,↓DN,↓DR,DQ,DP,↓reduceIte,Int.reduceToNat,Nat.reduceBEq,Nat.reduceAdd,Nat.reduceLT,Nat.reduceLeDiff,Nat.reduceEqDiff,Int.reduceEq,ne_eq,zN,reduceCtorEq,bM,bO,bP,zM,zA,zB,aH,zC,zD,if_true,if_false,zE,zF,aD,zG,aL,zH,zI,zJ,zK,aV,aQ,aR,aT,aS,aE,aK,aJ,aF,aM,aG,aW,bA,Vm.bind_map,aI,aU,zL]
 all_goals try simp only [bF]
 all_goals try rfl
theorem IE {β:Type} (a0:ByteArray) (d:Nat) (bl:List (Nat × Option aX)) (fz:List (Nat × Option aX)) (k:V→Option β) (kw:V→List (Nat × Option aX)→Option β):dM TT d bl 115 [.str a0] fz k kw = (nJ a0).bind fun (r:Bool)=>k (.d (.bool r)):=by
 have h:=IK a0
 exact bR h (fun _=>rfl) fz
theorem rV (a0:List ByteArray) (a1:ByteArray) (p1:Int):cX TT fF ⟨[(0,.d (.sl (cM cS a0))),(1,.d (.str a1)),(7,.d (.int .i64 (a0.length:Int))),(8,.d (.int .i64 p1))],[]⟩ (fun e s=>some (e,s)) = dW (fun (w:Int)=>(⟨[(0,.d (.sl (cM cS a0))),(1,.d (.str a1)),(7,.d (.int .i64 (a0.length:Int))),(8,.d (.int .i64 w))],[]⟩ : St)) (fun (r:Unit ⊕ Int)=>Sum.elim (fun (z:Unit)=>(((.exit 0),⟨[],[]⟩):Ex × St)) (fun (z:Int)=>((.ret,⟨[(4,.d (.int .i64 z))],[]⟩):Ex × St)) r) (cO a0 a1 p1):=by
 simp -implicitDefEqProofs (decide:=true) (maxSteps:=2000000) only [fF,cO,↓DN,↓DR,DQ,DP,↓reduceIte,Int.reduceToNat,Nat.reduceBEq,Nat.reduceAdd,Nat.reduceLT,Nat.reduceLeDiff,Nat.reduceEqDiff,Int.reduceEq,ne_eq,zN,reduceCtorEq,bM,bO,bP,zM,zA,zB,aH,zC,zD,if_true,if_false,zE,zF,aD,zG,aL,zH,zI,zJ,zK,aV,aQ,aR,aT,aS,aE,aK,aJ,aF,aM,aG,aW,bA,Vm.bind_map,aI,aU,zL]
 all_goals try simp only [bF]
 all_goals try rfl
theorem rY {β:Type} (a0:List ByteArray) (a1:ByteArray) (p1:Int) (k:Ex→St→Option β):cX TT kW ⟨[(0,.d (.sl (cM cS a0))),(1,.d (.str a1)),(7,.d (.int .i64 (a0.length:Int))),(8,.d (.int .i64 p1))],[]⟩ k = (fO a0 a1 p1).bind (fun (r:Unit ⊕ Int)=>Sum.elim (fun (z:Unit)=>k (.exit 0) ⟨[],[]⟩) (fun (z:Int)=>k .ret ⟨[(4,.d (.int .i64 z))],[]⟩) r):=by
 have hh:=fun (w:Int)=>rV a0 a1 w
 have h:=fun ho=>cA (T:=TT) (k:=k) (c:=fF) (step:=(fun (w:Int)=>cO a0 a1 w)) _ _ ho hh p1
 refine Eq.trans (h (fun r s e=>by have q:=congrArg Prod.fst e; rcases r with x | x <;> cases q)) ?_
 unfold fO
 exact bQ _ fun x=>by rcases x with x | x <;> rfl
theorem tZ (a0:List ByteArray) (a1:ByteArray):Vm.call TT 121 [.sl (cM cS a0),.str a1] = (dZ a0 a1).map fun (r:Int)=>.int .i64 r:=by
 refine (bX (show TT 121 = some (.code ⟨2,19,[.tmp 4],WD,false,false⟩) from rfl) _ rfl rfl).trans ?_
 show cX TT WD ⟨[(0,.d (.sl (cM cS a0))),(1,.d (.str a1))],[]⟩ _ = _
 simp -implicitDefEqProofs (decide:=true) (maxSteps:=2000000) only [WD,dZ,↓rY,↓DN,↓DR,DQ,DP,↓reduceIte,Int.reduceToNat,Nat.reduceBEq,Nat.reduceAdd,Nat.reduceLT,Nat.reduceLeDiff,Nat.reduceEqDiff,Int.reduceEq,ne_eq,zN,reduceCtorEq,bM,bO,bP,zM,zA,zB,aH,zC,zD,if_true,if_false,zE,zF,aD,zG,aL,zH,zI,zJ,zK,aV,aQ,aR,aT,aS,aE,aK,aJ,aF,aM,aG,aW,bA,Vm.bind_map,aI,aU,zL]
 all_goals try simp only [bF]
 all_goals try rfl
theorem uA {β:Type} (a0:List ByteArray) (a1:ByteArray) (d:Nat) (bl:List (Nat × Option aX)) (fz:List (Nat × Option aX)) (k:V→Option β) (kw:V→List (Nat × Option aX)→Option β):dM TT d bl 121 [.sl (cM cS a0),.str a1] fz k kw = (dZ a0 a1).bind fun (r:Int)=>k (.d (.int .i64 r)):=by
 have h:=tZ a0 a1
 exact bR h (fun _=>rfl) fz
theorem sA (a0:List ByteArray) (a1:ByteArray):Vm.call TT 116 [.sl (cM cS a0),.str a1] = (dP a0 a1).map fun (r:Bool)=>.bool r:=by
 refine (bX (show TT 116 = some (.code ⟨2,9,[.tmp 4],WA,false,false⟩) from rfl) _ rfl rfl).trans ?_
 show cX TT WA ⟨[(0,.d (.sl (cM cS a0))),(1,.d (.str a1))],[]⟩ _ = _
 simp -implicitDefEqProofs (decide:=true) (maxSteps:=2000000) only [WA,dP,↓uA,↓DN,↓DR,DQ,DP,↓reduceIte,Int.reduceToNat,Nat.reduceBEq,Nat.reduceAdd,Nat.reduceLT,Nat.reduceLeDiff,Nat.reduceEqDiff,Int.reduceEq,ne_eq,zN,reduceCtorEq,bM,bO,bP,zM,zA,zB,aH,zC,zD,if_true,if_false,zE,zF,aD,zG,aL,zH,zI,zJ,zK,aV,aQ,aR,aT,aS,aE,aK,aJ,aF,aM,aG,aW,bA,Vm.bind_map,aI,aU,zL]
 all_goals try simp only [bF]
 all_goals try rfl
theorem rO {β:Type} (a0:List ByteArray) (a1:ByteArray) (d:Nat) (bl:List (Nat × Option aX)) (fz:List (Nat × Option aX)) (k:V→Option β) (kw:V→List (Nat × Option aX)→Option β):dM TT d bl 116 [.sl (cM cS a0),.str a1] fz k kw = (dP a0 a1).bind fun (r:Bool)=>k (.d (.bool r)):=by
 have h:=sA a0 a1
 exact bR h (fun _=>rfl) fz
theorem JQ (a0:List ByteArray) (a1:Int):Vm.call TT 109 [.sl (cM cS a0),.int .i64 a1] = (iV a0 a1).map fun (r:Int)=>.int .i64 r:=by
 refine (bX (show TT 109 = some (.code ⟨2,19,[.tmp 4],WH,false,false⟩) from rfl) _ rfl rfl).trans ?_
 show cX TT WH ⟨[(0,.d (.sl (cM cS a0))),(1,.d (.int .i64 a1))],[]⟩ _ = _
 simp -implicitDefEqProofs (decide:=true) (maxSteps:=2000000) only [WH,iV,↓IE,↓rO,↓DN,↓DR,DQ,DP,↓reduceIte,Int.reduceToNat,Nat.reduceBEq,Nat.reduceAdd,Nat.reduceLT,Nat.reduceLeDiff,Nat.reduceEqDiff,Int.reduceEq,ne_eq,zN,reduceCtorEq,bM,bO,bP,zM,zA,zB,aH,zC,zD,if_true,if_false,zE,zF,aD,zG,aL,zH,zI,zJ,zK,aV,aQ,aR,aT,aS,aE,aK,aJ,aF,aM,aG,aW,bA,Vm.bind_map,aI,aU,zL]
 all_goals try simp only [bF]
 all_goals try rfl
theorem i0 {β:Type} (a0:List ByteArray) (a1:Int) (d:Nat) (bl:List (Nat × Option aX)) (fz:List (Nat × Option aX)) (k:V→Option β) (kw:V→List (Nat × Option aX)→Option β):dM TT d bl 109 [.sl (cM cS a0),.int .i64 a1] fz k kw = (iV a0 a1).bind fun (r:Int)=>k (.d (.int .i64 r)):=by
 have h:=JQ a0 a1
 exact bR h (fun _=>rfl) fz
theorem HD (a0:Int):Vm.call TT 93 [.int .i64 a0] = (oJ a0).map fun (r:Bool)=>.bool r:=by
 refine (bX (show TT 93 = some (.code ⟨1,3,[.tmp 2],aGU,false,false⟩) from rfl) _ rfl rfl).trans ?_
 show cX TT aGU ⟨[(0,.d (.int .i64 a0))],[]⟩ _ = _
 simp -implicitDefEqProofs (decide:=true) (maxSteps:=2000000) only [aGU,oJ,↓DN,↓DR,DQ,DP,↓reduceIte,Int.reduceToNat,Nat.reduceBEq,Nat.reduceAdd,Nat.reduceLT,Nat.reduceLeDiff,Nat.reduceEqDiff,Int.reduceEq,ne_eq,zN,reduceCtorEq,bM,bO,bP,zM,zA,zB,aH,zC,zD,if_true,if_false,zE,zF,aD,zG,aL,zH,zI,zJ,zK,aV,aQ,aR,aT,aS,aE,aK,aJ,aF,aM,aG,aW,bA,Vm.bind_map,aI,aU,zL]
 all_goals try simp only [bF]
 all_goals try rfl
theorem yP {β:Type} (a0:Int) (d:Nat) (bl:List (Nat × Option aX)) (fz:List (Nat × Option aX)) (k:V→Option β) (kw:V→List (Nat × Option aX)→Option β):dM TT d bl 93 [.int .i64 a0] fz k kw = (oJ a0).bind fun (r:Bool)=>k (.d (.bool r)):=by
 have h:=HD a0
 exact bR h (fun _=>rfl) fz
end Go.Proofs.Ytfhebiceipgdmaa
