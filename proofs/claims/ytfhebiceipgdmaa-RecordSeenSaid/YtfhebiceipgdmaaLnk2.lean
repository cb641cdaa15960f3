/- The functions of the small machine compute the plain definitions. Printed by a program. -/
import Derived.Test.YtfhebiceipgdmaaLnk1
set_option linter.unusedVariables false
set_option linter.unusedSimpArgs false
namespace Go.Proofs.Ytfhebiceipgdmaa
open Vm
open Go.RowKit
set_option maxRecDepth 100000
set_option maxHeartbeats 4000000
attribute [local congr] uO wG uN vX
theorem xZ (a0:List Int) (p2:Int) (p3:Int):cX TT iY ⟨[(0,.d (.sl (cM cI a0))),(3,.d (.int .i64 p2)),(4,.d (.int .i64 p3))],[]⟩ (fun e s=>some (e,s)) = dV (fun (w:Int × Int)=>(⟨[(0,.d (.sl (cM cI a0))),(3,.d (.int .i64 w.1)),(4,.d (.int .i64 w.2))],[]⟩ : St)) (fun (r:Int)=>(((.exit 0),⟨[(3,.d (.int .i64 r))],[]⟩):Ex × St)) (dX a0 p2 p3):=by
 simp -implicitDefEqProofs (decide:=true) (maxSteps:=2000000) only [iY,dX,↓DN,↓DR,DQ,DP,↓reduceIte,Int.reduceToNat,Nat.reduceBEq,Nat.reduceAdd,Nat.reduceLT,Nat.reduceLeDiff,Nat.reduceEqDiff,Int.reduceEq,ne_eq,zN,reduceCtorEq,bL,bO,bP,zM,zA,zB,aH,zC,zD,if_true,if_false,zE,zF,aE,zG,aM,zH,zI,zJ,zK,aV,aS,aR,aW,aQ,aF,aI,aL,aG,aK,aD,aT,a9,Vm.bind_map,aJ,aU,zL]
 all_goals try simp only [bF]
 all_goals try rfl
theorem yA {β:Type} (a0:List Int) (p2:Int) (p3:Int) (k:Ex→St→Option β):cX TT pP ⟨[(0,.d (.sl (cM cI a0))),(3,.d (.int .i64 p2)),(4,.d (.int .i64 p3))],[]⟩ k = (j0 a0 p2 p3).bind (fun (r:Int)=>k (.exit 0) ⟨[(3,.d (.int .i64 r))],[]⟩):=by
 have hh:=fun (w:Int × Int)=>xZ a0 w.1 w.2
 have h:=fun ho=>cC (T:=TT) (k:=k) (c:=iY) (step:=(fun (w:Int × Int)=>dX a0 w.1 w.2)) _ _ ho hh (p2,p3)
 refine Eq.trans (h (fun r s e=>by have q:=congrArg Prod.fst e; rcases r with x <;> cases q)) ?_
 unfold j0
 exact bQ _ fun x=>by rcases x with x <;> rfl
theorem BS (a0:List Int):Vm.call TT 46 [.sl (cM cI a0)] = (iF a0).map fun (r:Int)=>.int .i64 r:=by
 refine (bX (show TT 46 = some (.code ⟨1,25,[.tmp 2],aF7,false,false⟩) from rfl) _ rfl rfl).trans ?_
 show cX TT aF7 ⟨[(0,.d (.sl (cM cI a0)))],[]⟩ _ = _
 simp -implicitDefEqProofs (decide:=true) (maxSteps:=2000000) only [aF7,iF,↓yA,↓DN,↓DR,DQ,DP,↓reduceIte,Int.reduceToNat,Nat.reduceBEq,Nat.reduceAdd,Nat.reduceLT,Nat.reduceLeDiff,Nat.reduceEqDiff,Int.reduceEq,ne_eq,zN,reduceCtorEq,bL,bO,bP,zM,zA,zB,aH,zC,zD,if_true,if_false,zE,zF,aE,zG,aM,zH,zI,zJ,zK,aV,aS,aR,aW,aQ,aF,aI,aL,aG,aK,aD,aT,a9,Vm.bind_map,aJ,aU,zL]
 all_goals try simp only [bF]
 all_goals try rfl
theorem kO {β:Type} (a0:List Int) (d:Nat) (bl:List (Nat × Option aX)) (fz:List (Nat × Option aX)) (k:V→Option β) (kw:V→List (Nat × Option aX)→Option β):dM TT d bl 46 [.sl (cM cI a0)] fz k kw = (iF a0).bind fun (r:Int)=>k (.d (.int .i64 r)):=by
 have h:=BS a0
 exact bR h (fun _=>rfl) fz
theorem ES (a0:aB) (p1:Int) (p2:List Int):cX TT nU ⟨[(1,.ptr 1 0),(3,.own 31 0),(4,.d (.int .i64 a0.Bill.Tenor.Kind)),(14,.d (.sl (cM aO.cells a0.Signs))),(15,.d (.int .i64 (a0.Signs.length:Int))),(16,.d (.int .i64 p1))],[(1,some (.box (aC a0.cells))),(31,some (.rows 0 3 1 (cM cI p2)))]⟩ (fun e s=>some (e,s)) = dV (fun (w:Int × (List Int))=>(⟨[(1,.ptr 1 0),(3,.own 31 0),(4,.d (.int .i64 a0.Bill.Tenor.Kind)),(14,.d (.sl (cM aO.cells a0.Signs))),(15,.d (.int .i64 (a0.Signs.length:Int))),(16,.d (.int .i64 w.1))],[(1,some (.box (aC a0.cells))),(31,some (.rows 0 3 1 (cM cI w.2)))]⟩ : St)) (fun (r:(List Int))=>(((.exit 0),⟨[(1,.ptr 1 0),(3,.own 31 0),(4,.d (.int .i64 a0.Bill.Tenor.Kind))],[(1,some (.box (aC a0.cells))),(31,some (.rows 0 3 1 (cM cI r)))]⟩):Ex × St)) (gZ a0 p1 p2):=by
 simp -implicitDefEqProofs (decide:=true) (maxSteps:=2000000) only [nU,gZ,↓kO,↓DN,↓DR,DQ,DP,↓reduceIte,Int.reduceToNat,Nat.reduceBEq,Nat.reduceAdd,Nat.reduceLT,Nat.reduceLeDiff,Nat.reduceEqDiff,Int.reduceEq,ne_eq,zN,reduceCtorEq,bL,bO,bP,zM,zA,zB,aH,zC,zD,if_true,if_false,zE,zF,aE,zG,aM,zH,zI,zJ,zK,aV,aS,aR,aW,aQ,aF,aI,aL,aG,aK,aD,aT,a9,Vm.bind_map,aJ,aU,zL]
 all_goals try simp only [bF]
 all_goals try rfl
theorem rE {β:Type} (a0:aB) (p1:Int) (p2:List Int) (k:Ex→St→Option β):cX TT xH ⟨[(1,.ptr 1 0),(3,.own 31 0),(4,.d (.int .i64 a0.Bill.Tenor.Kind)),(14,.d (.sl (cM aO.cells a0.Signs))),(15,.d (.int .i64 (a0.Signs.length:Int))),(16,.d (.int .i64 p1))],[(1,some (.box (aC a0.cells))),(31,some (.rows 0 3 1 (cM cI p2)))]⟩ k = (pX a0 p1 p2).bind (fun (r:(List Int))=>k (.exit 0) ⟨[(1,.ptr 1 0),(3,.own 31 0),(4,.d (.int .i64 a0.Bill.Tenor.Kind))],[(1,some (.box (aC a0.cells))),(31,some (.rows 0 3 1 (cM cI r)))]⟩):=by
 have hh:=fun (w:Int × (List Int))=>ES a0 w.1 w.2
 have h:=fun ho=>cC (T:=TT) (k:=k) (c:=nU) (step:=(fun (w:Int × (List Int))=>gZ a0 w.1 w.2)) _ _ ho hh (p1,p2)
 refine Eq.trans (h (fun r s e=>by have q:=congrArg Prod.fst e; rcases r with x <;> cases q)) ?_
 unfold pX
 exact bQ _ fun x=>by rcases x with x <;> rfl
theorem xL {β:Type} (a0:aB) (p6:Int) (p7:List Int) (x8:bB) (k:Ex→St→Option β):cX TT rC ⟨[(3,.own 31 0),(4,.d (.int .i64 a0.Bill.Tenor.Kind)),(8,.ptr 8 0),(34,.d (.sl (cM bB.cells a0.Acts))),(35,.d (.int .i64 (a0.Acts.length:Int))),(36,.d (.int .i64 p6))],[(8,some (.box (aC x8.cells))),(31,some (.rows 0 3 1 (cM cI p7)))]⟩ k = (kS a0 p6 p7 x8).bind (fun (r:(List Int))=>k .normal ⟨[(3,.own 31 0),(4,.d (.int .i64 a0.Bill.Tenor.Kind)),(34,.d (.sl (cM bB.cells a0.Acts))),(35,.d (.int .i64 (a0.Acts.length:Int))),(36,.d (.int .i64 p6))],[(31,some (.rows 0 3 1 (cM cI r)))]⟩):=by
 simp -implicitDefEqProofs (decide:=true) (maxSteps:=2000000) only [rC,kS,↓rE,↓kO,↓DN,↓DR,DQ,DP,↓reduceIte,Int.reduceToNat,Nat.reduceBEq,Nat.reduceAdd,Nat.reduceLT,Nat.reduceLeDiff,Nat.reduceEqDiff,Int.reduceEq,ne_eq,zN,reduceCtorEq,bL,bO,bP,zM,zA,zB,aH,zC,zD,if_true,if_false,zE,zF,aE,zG,aM,zH,zI,zJ,zK,aV,aS,aR,aW,aQ,aF,aI,aL,aG,aK,aD,aT,a9,Vm.bind_map,aJ,aU,zL]
 all_goals try simp only [bF]
 all_goals try rfl
theorem FT (a0:aB) (p6:Int) (p7:List Int):cX TT n7 ⟨[(3,.own 31 0),(4,.d (.int .i64 a0.Bill.Tenor.Kind)),(34,.d (.sl (cM bB.cells a0.Acts))),(35,.d (.int .i64 (a0.Acts.length:Int))),(36,.d (.int .i64 p6))],[(31,some (.rows 0 3 1 (cM cI p7)))]⟩ (fun e s=>some (e,s)) = dV (fun (w:Int × (List Int))=>(⟨[(3,.own 31 0),(4,.d (.int .i64 a0.Bill.Tenor.Kind)),(34,.d (.sl (cM bB.cells a0.Acts))),(35,.d (.int .i64 (a0.Acts.length:Int))),(36,.d (.int .i64 w.1))],[(31,some (.rows 0 3 1 (cM cI w.2)))]⟩ : St)) (fun (r:((List Int)) ⊕ Int)=>Sum.elim (fun (z:(List Int))=>(((.exit 2),⟨[(3,.own 31 0)],[(31,some (.rows 0 3 1 (cM cI z)))]⟩):Ex × St)) (fun (z:Int)=>((.ret,⟨[(2,.d (.int .i64 z))],[]⟩):Ex × St)) r) (iD a0 p6 p7):=by
 simp -implicitDefEqProofs (decide:=true) (maxSteps:=2000000) only [n7,iD,↓rE,↓xL,↓kO,↓DN,↓DR,DQ,DP,↓reduceIte,Int.reduceToNat,Nat.reduceBEq,Nat.reduceAdd,Nat.reduceLT,Nat.reduceLeDiff,Nat.reduceEqDiff,Int.reduceEq,ne_eq,zN,reduceCtorEq,bL,bO,bP,zM,zA,zB,aH,zC,zD,if_true,if_false,zE,zF,aE,zG,aM,zH,zI,zJ,zK,aV,aS,aR,aW,aQ,aF,aI,aL,aG,aK,aD,aT,a9,Vm.bind_map,aJ,aU,zL]
 all_goals try simp only [bF]
 all_goals try rfl
theorem FJ {β:Type} (a0:aB) (p6:Int) (p7:List Int) (k:Ex→St→Option β):cX TT xI ⟨[(3,.own 31 0),(4,.d (.int .i64 a0.Bill.Tenor.Kind)),(34,.d (.sl (cM bB.cells a0.Acts))),(35,.d (.int .i64 (a0.Acts.length:Int))),(36,.d (.int .i64 p6))],[(31,some (.rows 0 3 1 (cM cI p7)))]⟩ k = (pZ a0 p6 p7).bind (fun (r:((List Int)) ⊕ Int)=>Sum.elim (fun (z:(List Int))=>k (.exit 2) ⟨[(3,.own 31 0)],[(31,some (.rows 0 3 1 (cM cI z)))]⟩) (fun (z:Int)=>k .ret ⟨[(2,.d (.int .i64 z))],[]⟩) r):=by
 have hh:=fun (w:Int × (List Int))=>FT a0 w.1 w.2
 have h:=fun ho=>cC (T:=TT) (k:=k) (c:=n7) (step:=(fun (w:Int × (List Int))=>iD a0 w.1 w.2)) _ _ ho hh (p6,p7)
 refine Eq.trans (h (fun r s e=>by have q:=congrArg Prod.fst e; rcases r with x | x <;> cases q)) ?_
 unfold pZ
 exact bQ _ fun x=>by rcases x with x | x <;> rfl
theorem JK (a0:aB):Vm.call TT 17 [.agg a0.cells] = (j7 a0).map fun (r:Int)=>.int .i64 r:=by
 refine (bX (show TT 17 = some (.code ⟨1,67,[.tmp 2],aFC,false,false⟩) from rfl) _ rfl rfl).trans ?_
 show cX TT aFC ⟨[(0,cW a0.cells)],[]⟩ _ = _
 simp -implicitDefEqProofs (decide:=true) (maxSteps:=2000000) only [aFC,j7,↓rE,↓xL,↓FJ,↓kO,↓DN,↓DR,DQ,DP,↓reduceIte,Int.reduceToNat,Nat.reduceBEq,Nat.reduceAdd,Nat.reduceLT,Nat.reduceLeDiff,Nat.reduceEqDiff,Int.reduceEq,ne_eq,zN,reduceCtorEq,bL,bO,bP,zM,zA,zB,aH,zC,zD,if_true,if_false,zE,zF,aE,zG,aM,zH,zI,zJ,zK,aV,aS,aR,aW,aQ,aF,aI,aL,aG,aK,aD,aT,a9,Vm.bind_map,aJ,aU,zL]
 all_goals try simp only [bF]
 all_goals try rfl
theorem gR {β:Type} (a0:aB) (d:Nat) (bl:List (Nat × Option aX)) (fz:List (Nat × Option aX)) (k:V→Option β) (kw:V→List (Nat × Option aX)→Option β):dM TT d bl 17 [.agg a0.cells] fz k kw = (j7 a0).bind fun (r:Int)=>k (.d (.int .i64 r)):=by
 have h:=JK a0
 exact bR h (fun _=>rfl) fz
theorem mG {β:Type} (r1:aB) (r3:aA) (d:Nat) (bl:List (Nat × Option aX)) (fz:List (Nat × Option aX)) (k:V→Option β) (kw:V→List (Nat × Option aX)→Option β):dM TT d bl 25 [.agg r3.cells,.agg [.int .i64 r1.Bill.Drawer,.int .i64 r1.Bill.Drawee,.int .i64 r1.Bill.Payee,.int .i64 r1.Bill.Sum,.int .i64 r1.Bill.Currency,.int .i64 r1.Bill.Tenor.Kind,.int .i64 r1.Bill.Tenor.N,.int .i64 r1.Bill.Tenor.Unit,.int .i64 r1.Bill.Day,.int .i64 r1.Bill.City,.int .i64 r1.Bill.Pay,.int .i64 r1.Bill.Need,.int .i64 r1.Bill.Rate,.int .i64 r1.Bill.Flags,.int .i64 r1.Bill.Parts,.sl (cM aO.cells r1.Signs),.sl (cM aZ.cells r1.Alters),.sl (cM bB.cells r1.Acts),.sl (cM bG.cells r1.Facts),.int .i64 2,.int .i64 (-1),.int .i64 (-1),.int .i64 6,.int .i64 9]] fz k kw = (sB r3 (a7.mk r1 2 (-1) (-1) 6 9)).bind fun (r:(List aY))=>T8 fz (.d (.sl (cM aY.cells r))) k kw:=by
 have h:=B5 r3 (a7.mk r1 2 (-1) (-1) 6 9)
 exact sV h (fun _=>rfl) (fun _=>rfl) fz
theorem qS {β:Type} (p8:Bool) (r1:aB) (p15:Bool) (k:Ex→St→Option β):cX TT lT ⟨[(1,.ptr 1 0),(4,.d (.bool p8)),(5,.d (.bool p15))],[(1,some (.box (aC r1.cells)))]⟩ k = (eE p8 r1 p15).bind (fun (r:Bool)=>k .ret ⟨[(0,.d (.bool r))],[]⟩):=by
 simp -implicitDefEqProofs (decide:=true) (maxSteps:=2000000) only [lT,eE,↓gR,↓gV,↓fM,↓wC,↓m0,↓mL,↓mG,↓DN,↓DR,DQ,DP,↓reduceIte,Int.reduceToNat,Nat.reduceBEq,Nat.reduceAdd,Nat.reduceLT,Nat.reduceLeDiff,Nat.reduceEqDiff,Int.reduceEq,ne_eq,zN,reduceCtorEq,bL,bO,bP,zM,zA,zB,aH,zC,zD,if_true,if_false,zE,zF,aE,zG,aM,zH,zI,zJ,zK,aV,aS,aR,aW,aQ,aF,aI,aL,aG,aK,aD,aT,a9,Vm.bind_map,aJ,aU,zL]
 all_goals try simp only [bF]
 all_goals try rfl
theorem AF {β:Type} (r1:aB) (r4:(List aY)) (p8:Bool) (k:Ex→St→Option β):cX TT lY ⟨[(1,.ptr 1 0),(3,.d (.sl (cM aY.cells r4))),(4,.d (.bool p8))],[(1,some (.box (aC r1.cells)))]⟩ k = (fD r1 r4 p8).bind (fun (r:Bool)=>k .ret ⟨[(0,.d (.bool r))],[]⟩):=by
 simp -implicitDefEqProofs (decide:=true) (maxSteps:=2000000) only [lY,fD,↓qS,↓gR,↓gV,↓fM,↓wC,↓m0,↓mL,↓mG,↓DN,↓DR,DQ,DP,↓reduceIte,Int.reduceToNat,Nat.reduceBEq,Nat.reduceAdd,Nat.reduceLT,Nat.reduceLeDiff,Nat.reduceEqDiff,Int.reduceEq,ne_eq,zN,reduceCtorEq,bL,bO,bP,zM,zA,zB,aH,zC,zD,if_true,if_false,zE,zF,aE,zG,aM,zH,zI,zJ,zK,aV,aS,aR,aW,aQ,aF,aI,aL,aG,aK,aD,aT,a9,Vm.bind_map,aJ,aU,zL]
 all_goals try simp only [bF]
 all_goals try rfl
theorem uI:Vm.call TT 14 [] = (eW).map fun (r:Bool)=>.bool r:=by
 refine (bX (show TT 14 = some (.code ⟨0,97,[.tmp 0],aED,false,false⟩) from rfl) _ rfl rfl).trans ?_
 show cX TT aED ⟨[],[]⟩ _ = _
 simp -implicitDefEqProofs (decide:=true) (maxSteps:=2000000) only [aED,eW,↓qS,↓AF,↓gR,↓gV,↓fM,↓wC,↓m0,↓mL,↓mG,↓DN,↓DR,DQ,DP,↓reduceIte,Int.reduceToNat,Nat.reduceBEq,Nat.reduceAdd,Nat.reduceLT,Nat.reduceLeDiff,Nat.reduceEqDiff,Int.reduceEq,ne_eq,zN,reduceCtorEq,bL,bO,bP,zM,zA,zB,aH,zC,zD,if_true,if_false,zE,zF,aE,zG,aM,zH,zI,zJ,zK,aV,aS,aR,aW,aQ,aF,aI,aL,aG,aK,aD,aT,a9,Vm.bind_map,aJ,aU,zL]
 all_goals try simp only [bF]
 all_goals try rfl
theorem dN {β:Type} (d:Nat) (bl:List (Nat × Option aX)) (fz:List (Nat × Option aX)) (k:V→Option β) (kw:V→List (Nat × Option aX)→Option β):dM TT d bl 14 [] fz k kw = (eW).bind fun (r:Bool)=>k (.d (.bool r)):=by
 have h:=uI
 exact bR h (fun _=>rfl) fz
theorem AO (a0:aA) (p1:Int):cX TT jZ ⟨[(1,.ptr 1 0),(3,.d (.int .i64 p1))],[(1,some (.box (aC a0.cells)))]⟩ (fun e s=>some (e,s)) = dV (fun (w:Int)=>(⟨[(1,.ptr 1 0),(3,.d (.int .i64 w))],[(1,some (.box (aC a0.cells)))]⟩ : St)) (fun (r:Unit ⊕ Unit)=>Sum.elim (fun (z:Unit)=>(((.exit 0),⟨[(1,.ptr 1 0)],[(1,some (.box (aC a0.cells)))]⟩):Ex × St)) (fun (z:Unit)=>((.ret,⟨[(2,.d (.bool false))],[]⟩):Ex × St)) r) (eX a0 p1):=by
 simp -implicitDefEqProofs (decide:=true) (maxSteps:=2000000) only [jZ,eX,↓DN,↓DR,DQ,DP,↓reduceIte,Int.reduceToNat,Nat.reduceBEq,Nat.reduceAdd,Nat.reduceLT,Nat.reduceLeDiff,Nat.reduceEqDiff,Int.reduceEq,ne_eq,zN,reduceCtorEq,bL,bO,bP,zM,zA,zB,aH,zC,zD,if_true,if_false,zE,zF,aE,zG,aM,zH,zI,zJ,zK,aV,aS,aR,aW,aQ,aF,aI,aL,aG,aK,aD,aT,a9,Vm.bind_map,aJ,aU,zL]
 all_goals try simp only [bF]
 all_goals try rfl
theorem sK {β:Type} (a0:aA) (p1:Int) (k:Ex→St→Option β):cX TT sA ⟨[(1,.ptr 1 0),(3,.d (.int .i64 p1))],[(1,some (.box (aC a0.cells)))]⟩ k = (lA a0 p1).bind (fun (r:Unit ⊕ Unit)=>Sum.elim (fun (z:Unit)=>k (.exit 0) ⟨[(1,.ptr 1 0)],[(1,some (.box (aC a0.cells)))]⟩) (fun (z:Unit)=>k .ret ⟨[(2,.d (.bool false))],[]⟩) r):=by
 have hh:=fun (w:Int)=>AO a0 w
 have h:=fun ho=>cC (T:=TT) (k:=k) (c:=jZ) (step:=(fun (w:Int)=>eX a0 w)) _ _ ho hh p1
 refine Eq.trans (h (fun r s e=>by have q:=congrArg Prod.fst e; rcases r with x | x <;> cases q)) ?_
 unfold lA
 exact bQ _ fun x=>by rcases x with x | x <;> rfl
theorem A0 (a0:aA) (p8:Int):cX TT jY ⟨[(1,.ptr 1 0),(4,.d (.int .i64 p8))],[(1,some (.box (aC a0.cells)))]⟩ (fun e s=>some (e,s)) = dV (fun (w:Int)=>(⟨[(1,.ptr 1 0),(4,.d (.int .i64 w))],[(1,some (.box (aC a0.cells)))]⟩ : St)) (fun (r:Unit ⊕ Unit)=>Sum.elim (fun (z:Unit)=>(((.exit 2),⟨[(1,.ptr 1 0)],[(1,some (.box (aC a0.cells)))]⟩):Ex × St)) (fun (z:Unit)=>((.ret,⟨[(2,.d (.bool false))],[]⟩):Ex × St)) r) (eY a0 p8):=by
 simp -implicitDefEqProofs (decide:=true) (maxSteps:=2000000) only [jY,eY,↓sK,↓DN,↓DR,DQ,DP,↓reduceIte,Int.reduceToNat,Nat.reduceBEq,Nat.reduceAdd,Nat.reduceLT,Nat.reduceLeDiff,Nat.reduceEqDiff,Int.reduceEq,ne_eq,zN,reduceCtorEq,bL,bO,bP,zM,zA,zB,aH,zC,zD,if_true,if_false,zE,zF,aE,zG,aM,zH,zI,zJ,zK,aV,aS,aR,aW,aQ,aF,aI,aL,aG,aK,aD,aT,a9,Vm.bind_map,aJ,aU,zL]
 all_goals try simp only [bF]
 all_goals try rfl
theorem AW {β:Type} (a0:aA) (p8:Int) (k:Ex→St→Option β):cX TT rO ⟨[(1,.ptr 1 0),(4,.d (.int .i64 p8))],[(1,some (.box (aC a0.cells)))]⟩ k = (k7 a0 p8).bind (fun (r:Unit ⊕ Unit)=>Sum.elim (fun (z:Unit)=>k (.exit 2) ⟨[(1,.ptr 1 0)],[(1,some (.box (aC a0.cells)))]⟩) (fun (z:Unit)=>k .ret ⟨[(2,.d (.bool false))],[]⟩) r):=by
 have hh:=fun (w:Int)=>A0 a0 w
 have h:=fun ho=>cC (T:=TT) (k:=k) (c:=jY) (step:=(fun (w:Int)=>eY a0 w)) _ _ ho hh p8
 refine Eq.trans (h (fun r s e=>by have q:=congrArg Prod.fst e; rcases r with x | x <;> cases q)) ?_
 unfold k7
 exact bQ _ fun x=>by rcases x with x | x <;> rfl
theorem C3 (a0:aA):Vm.call TT 15 [.agg a0.cells] = (gU a0).map fun (r:Bool)=>.bool r:=by
 refine (bX (show TT 15 = some (.code ⟨1,119,[.tmp 2],aHa,false,false⟩) from rfl) _ rfl rfl).trans ?_
 show cX TT aHa ⟨[(0,cW a0.cells)],[]⟩ _ = _
 simp -implicitDefEqProofs (decide:=true) (maxSteps:=2000000) only [aHa,gU,↓sK,↓AW,↓DN,↓DR,DQ,DP,↓reduceIte,Int.reduceToNat,Nat.reduceBEq,Nat.reduceAdd,Nat.reduceLT,Nat.reduceLeDiff,Nat.reduceEqDiff,Int.reduceEq,ne_eq,zN,reduceCtorEq,bL,bO,bP,zM,zA,zB,aH,zC,zD,if_true,if_false,zE,zF,aE,zG,aM,zH,zI,zJ,zK,aV,aS,aR,aW,aQ,aF,aI,aL,aG,aK,aD,aT,a9,Vm.bind_map,aJ,aU,zL]
 all_goals try simp only [bF]
 all_goals try rfl
theorem dT {β:Type} (a0:aA) (d:Nat) (bl:List (Nat × Option aX)) (fz:List (Nat × Option aX)) (k:V→Option β) (kw:V→List (Nat × Option aX)→Option β):dM TT d bl 15 [.agg a0.cells] fz k kw = (gU a0).bind fun (r:Bool)=>k (.d (.bool r)):=by
 have h:=C3 a0
 exact bR h (fun _=>rfl) fz
theorem DD (a0:aB):Vm.call TT 16 [.agg a0.cells] = (iA a0).map fun (r:Bool)=>.bool r:=by
 refine (bX (show TT 16 = some (.code ⟨1,25,[.tmp 2],aEz,false,false⟩) from rfl) _ rfl rfl).trans ?_
 show cX TT aEz ⟨[(0,cW a0.cells)],[]⟩ _ = _
 simp -implicitDefEqProofs (decide:=true) (maxSteps:=2000000) only [aEz,iA,↓DN,↓DR,DQ,DP,↓reduceIte,Int.reduceToNat,Nat.reduceBEq,Nat.reduceAdd,Nat.reduceLT,Nat.reduceLeDiff,Nat.reduceEqDiff,Int.reduceEq,ne_eq,zN,reduceCtorEq,bL,bO,bP,zM,zA,zB,aH,zC,zD,if_true,if_false,zE,zF,aE,zG,aM,zH,zI,zJ,zK,aV,aS,aR,aW,aQ,aF,aI,aL,aG,aK,aD,aT,a9,Vm.bind_map,aJ,aU,zL]
 all_goals try simp only [bF]
 all_goals try rfl
theorem dU {β:Type} (a0:aB) (d:Nat) (bl:List (Nat × Option aX)) (fz:List (Nat × Option aX)) (k:V→Option β) (kw:V→List (Nat × Option aX)→Option β):dM TT d bl 16 [.agg a0.cells] fz k kw = (iA a0).bind fun (r:Bool)=>k (.d (.bool r)):=by
 have h:=DD a0
 exact bR h (fun _=>rfl) fz
theorem AB (a0:aB) (a1:aB) (p1:Int):cX TT jD ⟨[(2,.ptr 2 0),(3,.ptr 3 0),(5,.d (.int .i64 p1))],[(2,some (.box (aC a0.cells))),(3,some (.box (aC a1.cells)))]⟩ (fun e s=>some (e,s)) = dV (fun (w:Int)=>(⟨[(2,.ptr 2 0),(3,.ptr 3 0),(5,.d (.int .i64 w))],[(2,some (.box (aC a0.cells))),(3,some (.box (aC a1.cells)))]⟩ : St)) (fun (r:Unit ⊕ Unit)=>Sum.elim (fun (z:Unit)=>(((.exit 0),⟨[(2,.ptr 2 0),(3,.ptr 3 0)],[(2,some (.box (aC a0.cells))),(3,some (.box (aC a1.cells)))]⟩):Ex × St)) (fun (z:Unit)=>((.ret,⟨[(4,.d (.bool false))],[]⟩):Ex × St)) r) (eI a0 a1 p1):=by
 simp -implicitDefEqProofs (decide:=true) (maxSteps:=2000000) only [jD,eI,↓DN,↓DR,DQ,DP,↓reduceIte,Int.reduceToNat,Nat.reduceBEq,Nat.reduceAdd,Nat.reduceLT,Nat.reduceLeDiff,Nat.reduceEqDiff,Int.reduceEq,ne_eq,zN,reduceCtorEq,bL,bO,bP,zM,zA,zB,aH,zC,zD,if_true,if_false,zE,zF,aE,zG,aM,zH,zI,zJ,zK,aV,aS,aR,aW,aQ,aF,aI,aL,aG,aK,aD,aT,a9,Vm.bind_map,aJ,aU,zL]
 all_goals try simp only [bF]
 all_goals try rfl
theorem jM {β:Type} (a0:aB) (a1:aB) (p1:Int) (k:Ex→St→Option β):cX TT qU ⟨[(2,.ptr 2 0),(3,.ptr 3 0),(5,.d (.int .i64 p1))],[(2,some (.box (aC a0.cells))),(3,some (.box (aC a1.cells)))]⟩ k = (kK a0 a1 p1).bind (fun (r:Unit ⊕ Unit)=>Sum.elim (fun (z:Unit)=>k (.exit 0) ⟨[(2,.ptr 2 0),(3,.ptr 3 0)],[(2,some (.box (aC a0.cells))),(3,some (.box (aC a1.cells)))]⟩) (fun (z:Unit)=>k .ret ⟨[(4,.d (.bool false))],[]⟩) r):=by
 have hh:=fun (w:Int)=>AB a0 a1 w
 have h:=fun ho=>cC (T:=TT) (k:=k) (c:=jD) (step:=(fun (w:Int)=>eI a0 a1 w)) _ _ ho hh p1
 refine Eq.trans (h (fun r s e=>by have q:=congrArg Prod.fst e; rcases r with x | x <;> cases q)) ?_
 unfold kK
 exact bQ _ fun x=>by rcases x with x | x <;> rfl
theorem AL (a0:aB) (a1:aB) (p7:Int):cX TT jK ⟨[(2,.ptr 2 0),(3,.ptr 3 0),(6,.d (.int .i64 p7))],[(2,some (.box (aC a0.cells))),(3,some (.box (aC a1.cells)))]⟩ (fun e s=>some (e,s)) = dV (fun (w:Int)=>(⟨[(2,.ptr 2 0),(3,.ptr 3 0),(6,.d (.int .i64 w))],[(2,some (.box (aC a0.cells))),(3,some (.box (aC a1.cells)))]⟩ : St)) (fun (r:Unit ⊕ Unit)=>Sum.elim (fun (z:Unit)=>(((.exit 2),⟨[(2,.ptr 2 0),(3,.ptr 3 0)],[(2,some (.box (aC a0.cells))),(3,some (.box (aC a1.cells)))]⟩):Ex × St)) (fun (z:Unit)=>((.ret,⟨[(4,.d (.bool false))],[]⟩):Ex × St)) r) (eM a0 a1 p7):=by
 simp -implicitDefEqProofs (decide:=true) (maxSteps:=2000000) only [jK,eM,↓jM,↓DN,↓DR,DQ,DP,↓reduceIte,Int.reduceToNat,Nat.reduceBEq,Nat.reduceAdd,Nat.reduceLT,Nat.reduceLeDiff,Nat.reduceEqDiff,Int.reduceEq,ne_eq,zN,reduceCtorEq,bL,bO,bP,zM,zA,zB,aH,zC,zD,if_true,if_false,zE,zF,aE,zG,aM,zH,zI,zJ,zK,aV,aS,aR,aW,aQ,aF,aI,aL,aG,aK,aD,aT,a9,Vm.bind_map,aJ,aU,zL]
 all_goals try simp only [bF]
 all_goals try rfl
theorem mM {β:Type} (a0:aB) (a1:aB) (p7:Int) (k:Ex→St→Option β):cX TT qQ ⟨[(2,.ptr 2 0),(3,.ptr 3 0),(6,.d (.int .i64 p7))],[(2,some (.box (aC a0.cells))),(3,some (.box (aC a1.cells)))]⟩ k = (kM a0 a1 p7).bind (fun (r:Unit ⊕ Unit)=>Sum.elim (fun (z:Unit)=>k (.exit 2) ⟨[(2,.ptr 2 0),(3,.ptr 3 0)],[(2,some (.box (aC a0.cells))),(3,some (.box (aC a1.cells)))]⟩) (fun (z:Unit)=>k .ret ⟨[(4,.d (.bool false))],[]⟩) r):=by
 have hh:=fun (w:Int)=>AL a0 a1 w
 have h:=fun ho=>cC (T:=TT) (k:=k) (c:=jK) (step:=(fun (w:Int)=>eM a0 a1 w)) _ _ ho hh p7
 refine Eq.trans (h (fun r s e=>by have q:=congrArg Prod.fst e; rcases r with x | x <;> cases q)) ?_
 unfold kM
 exact bQ _ fun x=>by rcases x with x | x <;> rfl
theorem AE (a0:aB) (a1:aB) (p13:Int):cX TT jE ⟨[(2,.ptr 2 0),(3,.ptr 3 0),(7,.d (.int .i64 p13))],[(2,some (.box (aC a0.cells))),(3,some (.box (aC a1.cells)))]⟩ (fun e s=>some (e,s)) = dV (fun (w:Int)=>(⟨[(2,.ptr 2 0),(3,.ptr 3 0),(7,.d (.int .i64 w))],[(2,some (.box (aC a0.cells))),(3,some (.box (aC a1.cells)))]⟩ : St)) (fun (r:Unit ⊕ Unit)=>Sum.elim (fun (z:Unit)=>(((.exit 4),⟨[(2,.ptr 2 0),(3,.ptr 3 0)],[(2,some (.box (aC a0.cells))),(3,some (.box (aC a1.cells)))]⟩):Ex × St)) (fun (z:Unit)=>((.ret,⟨[(4,.d (.bool false))],[]⟩):Ex × St)) r) (eO a0 a1 p13):=by
 simp -implicitDefEqProofs (decide:=true) (maxSteps:=2000000) only [jE,eO,↓jM,↓mM,↓DN,↓DR,DQ,DP,↓reduceIte,Int.reduceToNat,Nat.reduceBEq,Nat.reduceAdd,Nat.reduceLT,Nat.reduceLeDiff,Nat.reduceEqDiff,Int.reduceEq,ne_eq,zN,reduceCtorEq,bL,bO,bP,zM,zA,zB,aH,zC,zD,if_true,if_false,zE,zF,aE,zG,aM,zH,zI,zJ,zK,aV,aS,aR,aW,aQ,aF,aI,aL,aG,aK,aD,aT,a9,Vm.bind_map,aJ,aU,zL]
 all_goals try simp only [bF]
 all_goals try rfl
theorem rA {β:Type} (a0:aB) (a1:aB) (p13:Int) (k:Ex→St→Option β):cX TT qT ⟨[(2,.ptr 2 0),(3,.ptr 3 0),(7,.d (.int .i64 p13))],[(2,some (.box (aC a0.cells))),(3,some (.box (aC a1.cells)))]⟩ k = (kN a0 a1 p13).bind (fun (r:Unit ⊕ Unit)=>Sum.elim (fun (z:Unit)=>k (.exit 4) ⟨[(2,.ptr 2 0),(3,.ptr 3 0)],[(2,some (.box (aC a0.cells))),(3,some (.box (aC a1.cells)))]⟩) (fun (z:Unit)=>k .ret ⟨[(4,.d (.bool false))],[]⟩) r):=by
 have hh:=fun (w:Int)=>AE a0 a1 w
 have h:=fun ho=>cC (T:=TT) (k:=k) (c:=jE) (step:=(fun (w:Int)=>eO a0 a1 w)) _ _ ho hh p13
 refine Eq.trans (h (fun r s e=>by have q:=congrArg Prod.fst e; rcases r with x | x <;> cases q)) ?_
 unfold kN
 exact bQ _ fun x=>by rcases x with x | x <;> rfl
theorem zX (a0:aB) (a1:aB) (p19:Int):cX TT jF ⟨[(2,.ptr 2 0),(3,.ptr 3 0),(8,.d (.int .i64 p19))],[(2,some (.box (aC a0.cells))),(3,some (.box (aC a1.cells)))]⟩ (fun e s=>some (e,s)) = dV (fun (w:Int)=>(⟨[(2,.ptr 2 0),(3,.ptr 3 0),(8,.d (.int .i64 w))],[(2,some (.box (aC a0.cells))),(3,some (.box (aC a1.cells)))]⟩ : St)) (fun (r:Unit ⊕ Unit)=>Sum.elim (fun (z:Unit)=>(((.exit 6),⟨[],[]⟩):Ex × St)) (fun (z:Unit)=>((.ret,⟨[(4,.d (.bool false))],[]⟩):Ex × St)) r) (eN a0 a1 p19):=by
 simp -implicitDefEqProofs (decide:=true) (maxSteps:=2000000) only [jF,eN,↓jM,↓mM,↓rA,↓DN,↓DR,DQ,DP,↓reduceIte,Int.reduceToNat,Nat.reduceBEq,Nat.reduceAdd,Nat.reduceLT,Nat.reduceLeDiff,Nat.reduceEqDiff,Int.reduceEq,ne_eq,zN,reduceCtorEq,bL,bO,bP,zM,zA,zB,aH,zC,zD,if_true,if_false,zE,zF,aE,zG,aM,zH,zI,zJ,zK,aV,aS,aR,aW,aQ,aF,aI,aL,aG,aK,aD,aT,a9,Vm.bind_map,aJ,aU,zL]
 all_goals try simp only [bF]
 all_goals try rfl
theorem zT {β:Type} (a0:aB) (a1:aB) (p19:Int) (k:Ex→St→Option β):cX TT qR ⟨[(2,.ptr 2 0),(3,.ptr 3 0),(8,.d (.int .i64 p19))],[(2,some (.box (aC a0.cells))),(3,some (.box (aC a1.cells)))]⟩ k = (kI a0 a1 p19).bind (fun (r:Unit ⊕ Unit)=>Sum.elim (fun (z:Unit)=>k (.exit 6) ⟨[],[]⟩) (fun (z:Unit)=>k .ret ⟨[(4,.d (.bool false))],[]⟩) r):=by
 have hh:=fun (w:Int)=>zX a0 a1 w
 have h:=fun ho=>cC (T:=TT) (k:=k) (c:=jF) (step:=(fun (w:Int)=>eN a0 a1 w)) _ _ ho hh p19
 refine Eq.trans (h (fun r s e=>by have q:=congrArg Prod.fst e; rcases r with x | x <;> cases q)) ?_
 unfold kI
 exact bQ _ fun x=>by rcases x with x | x <;> rfl
theorem BV (a0:aB) (a1:aB):Vm.call TT 21 [.agg a0.cells,.agg a1.cells] = (fJ a0 a1).map fun (r:Bool)=>.bool r:=by
 refine (bX (show TT 21 = some (.code ⟨2,122,[.tmp 4],aHb,false,false⟩) from rfl) _ rfl rfl).trans ?_
 show cX TT aHb ⟨[(0,cW a0.cells),(1,cW a1.cells)],[]⟩ _ = _
 simp -implicitDefEqProofs (decide:=true) (maxSteps:=2000000) only [aHb,fJ,↓jM,↓mM,↓rA,↓zT,↓DN,↓DR,DQ,DP,↓reduceIte,Int.reduceToNat,Nat.reduceBEq,Nat.reduceAdd,Nat.reduceLT,Nat.reduceLeDiff,Nat.reduceEqDiff,Int.reduceEq,ne_eq,zN,reduceCtorEq,bL,bO,bP,zM,zA,zB,aH,zC,zD,if_true,if_false,zE,zF,aE,zG,aM,zH,zI,zJ,zK,aV,aS,aR,aW,aQ,aF,aI,aL,aG,aK,aD,aT,a9,Vm.bind_map,aJ,aU,zL]
 all_goals try simp only [bF]
 all_goals try rfl
theorem kY {β:Type} (a0:aB) (a1:aB) (d:Nat) (bl:List (Nat × Option aX)) (fz:List (Nat × Option aX)) (k:V→Option β) (kw:V→List (Nat × Option aX)→Option β):dM TT d bl 21 [.agg a0.cells,.agg a1.cells] fz k kw = (fJ a0 a1).bind fun (r:Bool)=>k (.d (.bool r)):=by
 have h:=BV a0 a1
 exact bR h (fun _=>rfl) fz
theorem FI (a0:aA) (p1:Int) (p2:List ByteArray):cX TT nV ⟨[(1,.ptr 1 0),(2,.own 22 0),(3,.nil),(4,.nil),(12,.d (.sl (cM bJ.cells a0.Cities))),(13,.d (.int .i64 (a0.Cities.length:Int))),(14,.d (.int .i64 p1))],[(1,some (.box (aC a0.cells))),(22,some (.rows 0 9 1 (cM cS p2)))]⟩ (fun e s=>some (e,s)) = dV (fun (w:Int × (List ByteArray))=>(⟨[(1,.ptr 1 0),(2,.own 22 0),(3,.nil),(4,.nil),(12,.d (.sl (cM bJ.cells a0.Cities))),(13,.d (.int .i64 (a0.Cities.length:Int))),(14,.d (.int .i64 w.1))],[(1,some (.box (aC a0.cells))),(22,some (.rows 0 9 1 (cM cS w.2)))]⟩ : St)) (fun (r:(List ByteArray))=>(((.exit 0),⟨[(1,.ptr 1 0),(2,.own 22 0),(3,.nil),(4,.nil)],[(1,some (.box (aC a0.cells))),(22,some (.rows 0 9 1 (cM cS r)))]⟩):Ex × St)) (iE a0 p1 p2):=by
 simp -implicitDefEqProofs (decide:=true) (maxSteps:=2000000) only [nV,iE,↓DN,↓DR,DQ,DP,↓reduceIte,Int.reduceToNat,Nat.reduceBEq,Nat.reduceAdd,Nat.reduceLT,Nat.reduceLeDiff,Nat.reduceEqDiff,Int.reduceEq,ne_eq,zN,reduceCtorEq,bL,bO,bP,zM,zA,zB,aH,zC,zD,if_true,if_false,zE,zF,aE,zG,aM,zH,zI,zJ,zK,aV,aS,aR,aW,aQ,aF,aI,aL,aG,aK,aD,aT,a9,Vm.bind_map,aJ,aU,zL]
 all_goals try simp only [bF]
 all_goals try rfl
theorem sL {β:Type} (a0:aA) (p1:Int) (p2:List ByteArray) (k:Ex→St→Option β):cX TT xG ⟨[(1,.ptr 1 0),(2,.own 22 0),(3,.nil),(4,.nil),(12,.d (.sl (cM bJ.cells a0.Cities))),(13,.d (.int .i64 (a0.Cities.length:Int))),(14,.d (.int .i64 p1))],[(1,some (.box (aC a0.cells))),(22,some (.rows 0 9 1 (cM cS p2)))]⟩ k = (qC a0 p1 p2).bind (fun (r:(List ByteArray))=>k (.exit 0) ⟨[(1,.ptr 1 0),(2,.own 22 0),(3,.nil),(4,.nil)],[(1,some (.box (aC a0.cells))),(22,some (.rows 0 9 1 (cM cS r)))]⟩):=by
 have hh:=fun (w:Int × (List ByteArray))=>FI a0 w.1 w.2
 have h:=fun ho=>cC (T:=TT) (k:=k) (c:=nV) (step:=(fun (w:Int × (List ByteArray))=>iE a0 w.1 w.2)) _ _ ho hh (p1,p2)
 refine Eq.trans (h (fun r s e=>by have q:=congrArg Prod.fst e; rcases r with x <;> cases q)) ?_
 unfold qC
 exact bQ _ fun x=>by rcases x with x <;> rfl
theorem FQ (a0:aA) (r5:(List ByteArray)) (p6:Int) (p7:List ByteArray):cX TT nW ⟨[(1,.ptr 1 0),(2,.own 22 0),(3,.own 35 0),(4,.nil),(25,.d (.sl (cM bU.cells a0.Firms))),(26,.d (.int .i64 (a0.Firms.length:Int))),(27,.d (.int .i64 p6))],[(1,some (.box (aC a0.cells))),(22,some (.rows 0 9 1 (cM cS r5))),(35,some (.rows 0 9 1 (cM cS p7)))]⟩ (fun e s=>some (e,s)) = dV (fun (w:Int × (List ByteArray))=>(⟨[(1,.ptr 1 0),(2,.own 22 0),(3,.own 35 0),(4,.nil),(25,.d (.sl (cM bU.cells a0.Firms))),(26,.d (.int .i64 (a0.Firms.length:Int))),(27,.d (.int .i64 w.1))],[(1,some (.box (aC a0.cells))),(22,some (.rows 0 9 1 (cM cS r5))),(35,some (.rows 0 9 1 (cM cS w.2)))]⟩ : St)) (fun (r:(List ByteArray))=>(((.exit 2),⟨[(1,.ptr 1 0),(2,.own 22 0),(3,.own 35 0),(4,.nil)],[(1,some (.box (aC a0.cells))),(22,some (.rows 0 9 1 (cM cS r5))),(35,some (.rows 0 9 1 (cM cS r)))]⟩):Ex × St)) (iB a0 r5 p6 p7):=by
 simp -implicitDefEqProofs (decide:=true) (maxSteps:=2000000) only [nW,iB,↓sL,↓DN,↓DR,DQ,DP,↓reduceIte,Int.reduceToNat,Nat.reduceBEq,Nat.reduceAdd,Nat.reduceLT,Nat.reduceLeDiff,Nat.reduceEqDiff,Int.reduceEq,ne_eq,zN,reduceCtorEq,bL,bO,bP,zM,zA,zB,aH,zC,zD,if_true,if_false,zE,zF,aE,zG,aM,zH,zI,zJ,zK,aV,aS,aR,aW,aQ,aF,aI,aL,aG,aK,aD,aT,a9,Vm.bind_map,aJ,aU,zL]
 all_goals try simp only [bF]
 all_goals try rfl
theorem w9 {β:Type} (a0:aA) (r5:(List ByteArray)) (p6:Int) (p7:List ByteArray) (k:Ex→St→Option β):cX TT xQ ⟨[(1,.ptr 1 0),(2,.own 22 0),(3,.own 35 0),(4,.nil),(25,.d (.sl (cM bU.cells a0.Firms))),(26,.d (.int .i64 (a0.Firms.length:Int))),(27,.d (.int .i64 p6))],[(1,some (.box (aC a0.cells))),(22,some (.rows 0 9 1 (cM cS r5))),(35,some (.rows 0 9 1 (cM cS p7)))]⟩ k = (pS a0 r5 p6 p7).bind (fun (r:(List ByteArray))=>k (.exit 2) ⟨[(1,.ptr 1 0),(2,.own 22 0),(3,.own 35 0),(4,.nil)],[(1,some (.box (aC a0.cells))),(22,some (.rows 0 9 1 (cM cS r5))),(35,some (.rows 0 9 1 (cM cS r)))]⟩):=by
 have hh:=fun (w:Int × (List ByteArray))=>FQ a0 r5 w.1 w.2
 have h:=fun ho=>cC (T:=TT) (k:=k) (c:=nW) (step:=(fun (w:Int × (List ByteArray))=>iB a0 r5 w.1 w.2)) _ _ ho hh (p6,p7)
 refine Eq.trans (h (fun r s e=>by have q:=congrArg Prod.fst e; rcases r with x <;> cases q)) ?_
 unfold pS
 exact bQ _ fun x=>by rcases x with x <;> rfl
theorem F0 (a0:aA) (r10:(List ByteArray)) (r5:(List ByteArray)) (p11:Int) (p12:List ByteArray):cX TT oE ⟨[(2,.own 22 0),(3,.own 35 0),(4,.own 48 0),(38,.d (.sl (cM bC.cells a0.Orders))),(39,.d (.int .i64 (a0.Orders.length:Int))),(40,.d (.int .i64 p11))],[(22,some (.rows 0 9 1 (cM cS r5))),(35,some (.rows 0 9 1 (cM cS r10))),(48,some (.rows 0 9 1 (cM cS p12)))]⟩ (fun e s=>some (e,s)) = dV (fun (w:Int × (List ByteArray))=>(⟨[(2,.own 22 0),(3,.own 35 0),(4,.own 48 0),(38,.d (.sl (cM bC.cells a0.Orders))),(39,.d (.int .i64 (a0.Orders.length:Int))),(40,.d (.int .i64 w.1))],[(22,some (.rows 0 9 1 (cM cS r5))),(35,some (.rows 0 9 1 (cM cS r10))),(48,some (.rows 0 9 1 (cM cS w.2)))]⟩ : St)) (fun (r:(List ByteArray))=>(((.exit 4),⟨[(2,.own 22 0),(3,.own 35 0),(4,.own 48 0)],[(22,some (.rows 0 9 1 (cM cS r5))),(35,some (.rows 0 9 1 (cM cS r10))),(48,some (.rows 0 9 1 (cM cS r)))]⟩):Ex × St)) (gT a0 r10 r5 p11 p12):=by
 simp -implicitDefEqProofs (decide:=true) (maxSteps:=2000000) only [oE,gT,↓sL,↓w9,↓DN,↓DR,DQ,DP,↓reduceIte,Int.reduceToNat,Nat.reduceBEq,Nat.reduceAdd,Nat.reduceLT,Nat.reduceLeDiff,Nat.reduceEqDiff,Int.reduceEq,ne_eq,zN,reduceCtorEq,bL,bO,bP,zM,zA,zB,aH,zC,zD,if_true,if_false,zE,zF,aE,zG,aM,zH,zI,zJ,zK,aV,aS,aR,aW,aQ,aF,aI,aL,aG,aK,aD,aT,a9,Vm.bind_map,aJ,aU,zL]
 all_goals try simp only [bF]
 all_goals try rfl
theorem FD {β:Type} (a0:aA) (r10:(List ByteArray)) (r5:(List ByteArray)) (p11:Int) (p12:List ByteArray) (k:Ex→St→Option β):cX TT xF ⟨[(2,.own 22 0),(3,.own 35 0),(4,.own 48 0),(38,.d (.sl (cM bC.cells a0.Orders))),(39,.d (.int .i64 (a0.Orders.length:Int))),(40,.d (.int .i64 p11))],[(22,some (.rows 0 9 1 (cM cS r5))),(35,some (.rows 0 9 1 (cM cS r10))),(48,some (.rows 0 9 1 (cM cS p12)))]⟩ k = (qF a0 r10 r5 p11 p12).bind (fun (r:(List ByteArray))=>k (.exit 4) ⟨[(2,.own 22 0),(3,.own 35 0),(4,.own 48 0)],[(22,some (.rows 0 9 1 (cM cS r5))),(35,some (.rows 0 9 1 (cM cS r10))),(48,some (.rows 0 9 1 (cM cS r)))]⟩):=by
 have hh:=fun (w:Int × (List ByteArray))=>F0 a0 r10 r5 w.1 w.2
 have h:=fun ho=>cC (T:=TT) (k:=k) (c:=oE) (step:=(fun (w:Int × (List ByteArray))=>gT a0 r10 r5 w.1 w.2)) _ _ ho hh (p11,p12)
 refine Eq.trans (h (fun r s e=>by have q:=congrArg Prod.fst e; rcases r with x <;> cases q)) ?_
 unfold qF
 exact bQ _ fun x=>by rcases x with x <;> rfl
theorem J4 (a0:aA):Vm.call TT 91 [.agg a0.cells] = (pC a0).map fun (r:(List ByteArray) × (List ByteArray) × (List ByteArray))=>.tup [.sl (cM cS r.1),.sl (cM cS r.2.1),.sl (cM cS r.2.2)]:=by
 refine (bX (show TT 91 = some (.code ⟨1,53,[.tmp 2,.tmp 3,.tmp 4],aGD,false,false⟩) from rfl) _ rfl rfl).trans ?_
 show cX TT aGD ⟨[(0,cW a0.cells)],[]⟩ _ = _
 simp -implicitDefEqProofs (decide:=true) (maxSteps:=2000000) only [aGD,pC,↓sL,↓w9,↓FD,↓DN,↓DR,DQ,DP,↓reduceIte,Int.reduceToNat,Nat.reduceBEq,Nat.reduceAdd,Nat.reduceLT,Nat.reduceLeDiff,Nat.reduceEqDiff,Int.reduceEq,ne_eq,zN,reduceCtorEq,bL,bO,bP,zM,zA,zB,aH,zC,zD,if_true,if_false,zE,zF,aE,zG,aM,zH,zI,zJ,zK,aV,aS,aR,aW,aQ,aF,aI,aL,aG,aK,aD,aT,a9,Vm.bind_map,aJ,aU,zL]
 all_goals try simp only [bF]
 all_goals try rfl
theorem B7 {β:Type} (a0:aA) (d:Nat) (bl:List (Nat × Option aX)) (fz:List (Nat × Option aX)) (k:V→Option β) (kw:V→List (Nat × Option aX)→Option β):dM TT d bl 91 [.agg a0.cells] fz k kw = (pC a0).bind fun (r:(List ByteArray) × (List ByteArray) × (List ByteArray))=>T8 fz (.tup [.d (.sl (cM cS r.1)),.d (.sl (cM cS r.2.1)),.d (.sl (cM cS r.2.2))]) k kw:=by
 have h:=J4 a0
 exact sV h (fun _=>rfl) (fun _=>rfl) fz
theorem wI {β:Type} (a0:ByteArray) (p1:Int) (x2:Int) (p3:Bool) (k:Ex→St→Option β):cX TT qL ⟨[(3,.d (.int .i64 p1)),(4,.d (.int .u8 x2)),(5,.d (.bool p3)),(14,.d (.sl (cM (cK .u8) (kQ a0)))),(15,.d (.int .i64 ((kQ a0).length:Int))),(16,.d (.int .i64 p1))],[]⟩ k = (fO a0 p1 x2 p3).bind (fun (r:Unit ⊕ Unit)=>Sum.elim (fun (z:Unit)=>k .normal ⟨[(14,.d (.sl (cM (cK .u8) (kQ a0)))),(15,.d (.int .i64 ((kQ a0).length:Int))),(16,.d (.int .i64 p1))],[]⟩) (fun (z:Unit)=>k .ret ⟨[(2,.d (.bool false))],[]⟩) r):=by
 simp -implicitDefEqProofs (decide:=true) (maxSteps:=2000000) only [qL,fO,↓DN,↓DR,DQ,DP,↓reduceIte,Int.reduceToNat,Nat.reduceBEq,Nat.reduceAdd,Nat.reduceLT,Nat.reduceLeDiff,Nat.reduceEqDiff,Int.reduceEq,ne_eq,zN,reduceCtorEq,bL,bO,bP,zM,zA,zB,aH,zC,zD,if_true,if_false,zE,zF,aE,zG,aM,zH,zI,zJ,zK,aV,aS,aR,aW,aQ,aF,aI,aL,aG,aK,aD,aT,a9,Vm.bind_map,aJ,aU,zL]
 all_goals try simp only [bF]
 all_goals try rfl
theorem D6 (a0:ByteArray) (p1:Int):cX TT nB ⟨[(14,.d (.sl (cM (cK .u8) (kQ a0)))),(15,.d (.int .i64 ((kQ a0).length:Int))),(16,.d (.int .i64 p1))],[]⟩ (fun e s=>some (e,s)) = dV (fun (w:Int)=>(⟨[(14,.d (.sl (cM (cK .u8) (kQ a0)))),(15,.d (.int .i64 ((kQ a0).length:Int))),(16,.d (.int .i64 w))],[]⟩ : St)) (fun (r:Unit ⊕ Unit)=>Sum.elim (fun (z:Unit)=>(((.exit 0),⟨[],[]⟩):Ex × St)) (fun (z:Unit)=>((.ret,⟨[(2,.d (.bool false))],[]⟩):Ex × St)) r) (gH a0 p1):=by
 simp -implicitDefEqProofs (decide:=true) (maxSteps:=2000000) only [nB,gH,↓wI,↓DN,↓DR,DQ,DP,↓reduceIte,Int.reduceToNat,Nat.reduceBEq,Nat.reduceAdd,Nat.reduceLT,Nat.reduceLeDiff,Nat.reduceEqDiff,Int.reduceEq,ne_eq,zN,reduceCtorEq,bL,bO,bP,zM,zA,zB,aH,zC,zD,if_true,if_false,zE,zF,aE,zG,aM,zH,zI,zJ,zK,aV,aS,aR,aW,aQ,aF,aI,aL,aG,aK,aD,aT,a9,Vm.bind_map,aJ,aU,zL]
 all_goals try simp only [bF]
 all_goals try rfl
theorem EC {β:Type} (a0:ByteArray) (p1:Int) (k:Ex→St→Option β):cX TT vY ⟨[(14,.d (.sl (cM (cK .u8) (kQ a0)))),(15,.d (.int .i64 ((kQ a0).length:Int))),(16,.d (.int .i64 p1))],[]⟩ k = (o8 a0 p1).bind (fun (r:Unit ⊕ Unit)=>Sum.elim (fun (z:Unit)=>k (.exit 0) ⟨[],[]⟩) (fun (z:Unit)=>k .ret ⟨[(2,.d (.bool false))],[]⟩) r):=by
 have hh:=fun (w:Int)=>D6 a0 w
 have h:=fun ho=>cC (T:=TT) (k:=k) (c:=nB) (step:=(fun (w:Int)=>gH a0 w)) _ _ ho hh p1
 refine Eq.trans (h (fun r s e=>by have q:=congrArg Prod.fst e; rcases r with x | x <;> cases q)) ?_
 unfold o8
 exact bQ _ fun x=>by rcases x with x | x <;> rfl
theorem II (a0:ByteArray):Vm.call TT 115 [.str a0] = (nN a0).map fun (r:Bool)=>.bool r:=by
 refine (bX (show TT 115 = some (.code ⟨1,54,[.tmp 2],WA,false,false⟩) from rfl) _ rfl rfl).trans ?_
 show cX TT WA ⟨[(0,.d (.str a0))],[]⟩ _ = _
 simp -implicitDefEqProofs (decide:=true) (maxSteps:=2000000) only [WA,nN,↓wI,↓EC,↓DN,↓DR,DQ,DP,↓reduceIte,Int.reduceToNat,Nat.reduceBEq,Nat.reduceAdd,Nat.reduceLT,Nat.reduceLeDiff,Nat.reduceEqDiff,Int.reduceEq,ne_eq,zN,reduceCtorEq,bL,bO,bP,zM,zA,zB,aH,zC,zD,if_true,if_false,zE,zF,aE,zG,aM,zH,zI,zJ,zK,aV,aS,aR,aW,aQ,aF,aI,aL,aG,aK,aD,aT,a9,Vm.bind_map,aJ,aU,zL]
 all_goals try simp only [bF]
 all_goals try rfl
theorem IA {β:Type} (a0:ByteArray) (d:Nat) (bl:List (Nat × Option aX)) (fz:List (Nat × Option aX)) (k:V→Option β) (kw:V→List (Nat × Option aX)→Option β):dM TT d bl 115 [.str a0] fz k kw = (nN a0).bind fun (r:Bool)=>k (.d (.bool r)):=by
 have h:=II a0
 exact bR h (fun _=>rfl) fz
theorem rF (a0:List ByteArray) (a1:ByteArray) (p1:Int):cX TT fF ⟨[(0,.d (.sl (cM cS a0))),(1,.d (.str a1)),(7,.d (.int .i64 (a0.length:Int))),(8,.d (.int .i64 p1))],[]⟩ (fun e s=>some (e,s)) = dV (fun (w:Int)=>(⟨[(0,.d (.sl (cM cS a0))),(1,.d (.str a1)),(7,.d (.int .i64 (a0.length:Int))),(8,.d (.int .i64 w))],[]⟩ : St)) (fun (r:Unit ⊕ Int)=>Sum.elim (fun (z:Unit)=>(((.exit 0),⟨[],[]⟩):Ex × St)) (fun (z:Int)=>((.ret,⟨[(4,.d (.int .i64 z))],[]⟩):Ex × St)) r) (cP a0 a1 p1):=by
 simp -implicitDefEqProofs (decide:=true) (maxSteps:=2000000) only [fF,cP,↓DN,↓DR,DQ,DP,↓reduceIte,Int.reduceToNat,Nat.reduceBEq,Nat.reduceAdd,Nat.reduceLT,Nat.reduceLeDiff,Nat.reduceEqDiff,Int.reduceEq,ne_eq,zN,reduceCtorEq,bL,bO,bP,zM,zA,zB,aH,zC,zD,if_true,if_false,zE,zF,aE,zG,aM,zH,zI,zJ,zK,aV,aS,aR,aW,aQ,aF,aI,aL,aG,aK,aD,aT,a9,Vm.bind_map,aJ,aU,zL]
 all_goals try simp only [bF]
 all_goals try rfl
theorem rM {β:Type} (a0:List ByteArray) (a1:ByteArray) (p1:Int) (k:Ex→St→Option β):cX TT kZ ⟨[(0,.d (.sl (cM cS a0))),(1,.d (.str a1)),(7,.d (.int .i64 (a0.length:Int))),(8,.d (.int .i64 p1))],[]⟩ k = (fN a0 a1 p1).bind (fun (r:Unit ⊕ Int)=>Sum.elim (fun (z:Unit)=>k (.exit 0) ⟨[],[]⟩) (fun (z:Int)=>k .ret ⟨[(4,.d (.int .i64 z))],[]⟩) r):=by
 have hh:=fun (w:Int)=>rF a0 a1 w
 have h:=fun ho=>cC (T:=TT) (k:=k) (c:=fF) (step:=(fun (w:Int)=>cP a0 a1 w)) _ _ ho hh p1
 refine Eq.trans (h (fun r s e=>by have q:=congrArg Prod.fst e; rcases r with x | x <;> cases q)) ?_
 unfold fN
 exact bQ _ fun x=>by rcases x with x | x <;> rfl
theorem uM (a0:List ByteArray) (a1:ByteArray):Vm.call TT 121 [.sl (cM cS a0),.str a1] = (eB a0 a1).map fun (r:Int)=>.int .i64 r:=by
 refine (bX (show TT 121 = some (.code ⟨2,19,[.tmp 4],WL,false,false⟩) from rfl) _ rfl rfl).trans ?_
 show cX TT WL ⟨[(0,.d (.sl (cM cS a0))),(1,.d (.str a1))],[]⟩ _ = _
 simp -implicitDefEqProofs (decide:=true) (maxSteps:=2000000) only [WL,eB,↓rM,↓DN,↓DR,DQ,DP,↓reduceIte,Int.reduceToNat,Nat.reduceBEq,Nat.reduceAdd,Nat.reduceLT,Nat.reduceLeDiff,Nat.reduceEqDiff,Int.reduceEq,ne_eq,zN,reduceCtorEq,bL,bO,bP,zM,zA,zB,aH,zC,zD,if_true,if_false,zE,zF,aE,zG,aM,zH,zI,zJ,zK,aV,aS,aR,aW,aQ,aF,aI,aL,aG,aK,aD,aT,a9,Vm.bind_map,aJ,aU,zL]
 all_goals try simp only [bF]
 all_goals try rfl
theorem uF {β:Type} (a0:List ByteArray) (a1:ByteArray) (d:Nat) (bl:List (Nat × Option aX)) (fz:List (Nat × Option aX)) (k:V→Option β) (kw:V→List (Nat × Option aX)→Option β):dM TT d bl 121 [.sl (cM cS a0),.str a1] fz k kw = (eB a0 a1).bind fun (r:Int)=>k (.d (.int .i64 r)):=by
 have h:=uM a0 a1
 exact bR h (fun _=>rfl) fz
theorem rP (a0:List ByteArray) (a1:ByteArray):Vm.call TT 116 [.sl (cM cS a0),.str a1] = (dO a0 a1).map fun (r:Bool)=>.bool r:=by
 refine (bX (show TT 116 = some (.code ⟨2,9,[.tmp 4],WK,false,false⟩) from rfl) _ rfl rfl).trans ?_
 show cX TT WK ⟨[(0,.d (.sl (cM cS a0))),(1,.d (.str a1))],[]⟩ _ = _
 simp -implicitDefEqProofs (decide:=true) (maxSteps:=2000000) only [WK,dO,↓uF,↓DN,↓DR,DQ,DP,↓reduceIte,Int.reduceToNat,Nat.reduceBEq,Nat.reduceAdd,Nat.reduceLT,Nat.reduceLeDiff,Nat.reduceEqDiff,Int.reduceEq,ne_eq,zN,reduceCtorEq,bL,bO,bP,zM,zA,zB,aH,zC,zD,if_true,if_false,zE,zF,aE,zG,aM,zH,zI,zJ,zK,aV,aS,aR,aW,aQ,aF,aI,aL,aG,aK,aD,aT,a9,Vm.bind_map,aJ,aU,zL]
 all_goals try simp only [bF]
 all_goals try rfl
theorem rQ {β:Type} (a0:List ByteArray) (a1:ByteArray) (d:Nat) (bl:List (Nat × Option aX)) (fz:List (Nat × Option aX)) (k:V→Option β) (kw:V→List (Nat × Option aX)→Option β):dM TT d bl 116 [.sl (cM cS a0),.str a1] fz k kw = (dO a0 a1).bind fun (r:Bool)=>k (.d (.bool r)):=by
 have h:=rP a0 a1
 exact bR h (fun _=>rfl) fz
theorem KA (a0:List ByteArray) (a1:Int):Vm.call TT 109 [.sl (cM cS a0),.int .i64 a1] = (iV a0 a1).map fun (r:Int)=>.int .i64 r:=by
 refine (bX (show TT 109 = some (.code ⟨2,19,[.tmp 4],V6,false,false⟩) from rfl) _ rfl rfl).trans ?_
 show cX TT V6 ⟨[(0,.d (.sl (cM cS a0))),(1,.d (.int .i64 a1))],[]⟩ _ = _
 simp -implicitDefEqProofs (decide:=true) (maxSteps:=2000000) only [V6,iV,↓IA,↓rQ,↓DN,↓DR,DQ,DP,↓reduceIte,Int.reduceToNat,Nat.reduceBEq,Nat.reduceAdd,Nat.reduceLT,Nat.reduceLeDiff,Nat.reduceEqDiff,Int.reduceEq,ne_eq,zN,reduceCtorEq,bL,bO,bP,zM,zA,zB,aH,zC,zD,if_true,if_false,zE,zF,aE,zG,aM,zH,zI,zJ,zK,aV,aS,aR,aW,aQ,aF,aI,aL,aG,aK,aD,aT,a9,Vm.bind_map,aJ,aU,zL]
 all_goals try simp only [bF]
 all_goals try rfl
theorem i7 {β:Type} (a0:List ByteArray) (a1:Int) (d:Nat) (bl:List (Nat × Option aX)) (fz:List (Nat × Option aX)) (k:V→Option β) (kw:V→List (Nat × Option aX)→Option β):dM TT d bl 109 [.sl (cM cS a0),.int .i64 a1] fz k kw = (iV a0 a1).bind fun (r:Int)=>k (.d (.int .i64 r)):=by
 have h:=KA a0 a1
 exact bR h (fun _=>rfl) fz
theorem G2 (a0:Int):Vm.call TT 93 [.int .i64 a0] = (oL a0).map fun (r:Bool)=>.bool r:=by
 refine (bX (show TT 93 = some (.code ⟨1,3,[.tmp 2],aGW,false,false⟩) from rfl) _ rfl rfl).trans ?_
 show cX TT aGW ⟨[(0,.d (.int .i64 a0))],[]⟩ _ = _
 simp -implicitDefEqProofs (decide:=true) (maxSteps:=2000000) only [aGW,oL,↓DN,↓DR,DQ,DP,↓reduceIte,Int.reduceToNat,Nat.reduceBEq,Nat.reduceAdd,Nat.reduceLT,Nat.reduceLeDiff,Nat.reduceEqDiff,Int.reduceEq,ne_eq,zN,reduceCtorEq,bL,bO,bP,zM,zA,zB,aH,zC,zD,if_true,if_false,zE,zF,aE,zG,aM,zH,zI,zJ,zK,aV,aS,aR,aW,aQ,aF,aI,aL,aG,aK,aD,aT,a9,Vm.bind_map,aJ,aU,zL]
 all_goals try simp only [bF]
 all_goals try rfl
theorem zR {β:Type} (a0:Int) (d:Nat) (bl:List (Nat × Option aX)) (fz:List (Nat × Option aX)) (k:V→Option β) (kw:V→List (Nat × Option aX)→Option β):dM TT d bl 93 [.int .i64 a0] fz k kw = (oL a0).bind fun (r:Bool)=>k (.d (.bool r)):=by
 have h:=G2 a0
 exact bR h (fun _=>rfl) fz
end Go.Proofs.Ytfhebiceipgdmaa
