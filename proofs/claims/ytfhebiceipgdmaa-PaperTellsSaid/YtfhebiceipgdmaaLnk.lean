/- The functions of the small machine compute the plain definitions. Printed by a program. -/
import Derived.Test.YtfhebiceipgdmaaLnk7
set_option linter.unusedVariables false
set_option linter.unusedSimpArgs false
namespace Go.Proofs.Ytfhebiceipgdmaa
open Vm
open Go.RowKit
set_option maxRecDepth 100000
set_option maxHeartbeats 4000000
attribute [local congr] pR rP pQ rO
theorem A3 (a0:aB) (p1:Int) (p2:List Int):cP TT iX ⟨[(1,.ptr 1 0),(3,.own 22 0),(4,.d (.int .i64 p1))],[(1,some (.box (aC a0.cells))),(22,some (.rows 0 3 1 (cM cI p2)))]⟩ (fun e s=>some (e,s)) = cV (fun (w:Int × (List Int))=>(⟨[(1,.ptr 1 0),(3,.own 22 0),(4,.d (.int .i64 w.1))],[(1,some (.box (aC a0.cells))),(22,some (.rows 0 3 1 (cM cI w.2)))]⟩ : St)) (fun (r:(List Int))=>(((.exit 0),⟨[(3,.own 22 0)],[(22,some (.rows 0 3 1 (cM cI r)))]⟩):Ex × St)) (dW a0 p1 p2):=by
 simp -implicitDefEqProofs (decide:=true) (maxSteps:=2000000) only [iX,dW,↓DN,↓DR,DQ,DP,↓reduceIte,Int.reduceToNat,Nat.reduceBEq,Nat.reduceAdd,Nat.reduceLT,Nat.reduceLeDiff,Nat.reduceEqDiff,Int.reduceEq,ne_eq,zN,reduceCtorEq,bJ,bM,bN,zM,zA,zB,aH,zC,zD,if_true,if_false,zE,zF,aG,zG,aJ,zH,zI,zJ,zK,aQ,aP,aV,aT,aS,aD,aL,aM,aE,aK,aF,aR,aZ,aU,aI,aW,zL]
 all_goals try simp only [bG]
 all_goals try rfl
theorem AJ {β:Type} (a0:aB) (p1:Int) (p2:List Int) (k:Ex→St→Option β):cP TT rW ⟨[(1,.ptr 1 0),(3,.own 22 0),(4,.d (.int .i64 p1))],[(1,some (.box (aC a0.cells))),(22,some (.rows 0 3 1 (cM cI p2)))]⟩ k = (hU a0 p1 p2).bind (fun (r:(List Int))=>k (.exit 0) ⟨[(3,.own 22 0)],[(22,some (.rows 0 3 1 (cM cI r)))]⟩):=by
 have hh:=fun (w:Int × (List Int))=>A3 a0 w.1 w.2
 have h:=fun ho=>cA (T:=TT) (k:=k) (c:=iX) (step:=(fun (w:Int × (List Int))=>dW a0 w.1 w.2)) _ _ ho hh (p1,p2)
 refine Eq.trans (h (fun r s e=>by have q:=congrArg Prod.fst e; rcases r with x <;> cases q)) ?_
 unfold hU
 exact bK _ fun x=>by rcases x with x <;> rfl
theorem DU (a0:aB):Vm.call TT 42 [.agg a0.cells] = (gY a0).map fun (r:(List Int))=>.sl (cM cI r):=by
 refine (bQ (show TT 42 = some (.code ⟨1,24,[.tmp 2],aHt,false⟩) from rfl) _ rfl).trans ?_
 show cP TT aHt ⟨[(0,cO a0.cells)],[]⟩ _ = _
 simp -implicitDefEqProofs (decide:=true) (maxSteps:=2000000) only [aHt,gY,↓AJ,↓DN,↓DR,DQ,DP,↓reduceIte,Int.reduceToNat,Nat.reduceBEq,Nat.reduceAdd,Nat.reduceLT,Nat.reduceLeDiff,Nat.reduceEqDiff,Int.reduceEq,ne_eq,zN,reduceCtorEq,bJ,bM,bN,zM,zA,zB,aH,zC,zD,if_true,if_false,zE,zF,aG,zG,aJ,zH,zI,zJ,zK,aQ,aP,aV,aT,aS,aD,aL,aM,aE,aK,aF,aR,aZ,aU,aI,aW,zL]
 all_goals try simp only [bG]
 all_goals try rfl
theorem C8 {β:Type} (a0:aB) (d:Nat) (bl:List (Nat × Option aY)) (fz:List (Nat × Option aY)) (k:V→Option β) (kw:V→List (Nat × Option aY)→Option β):cH TT d bl 42 [.agg a0.cells] fz k kw = (gY a0).bind fun (r:(List Int))=>LK fz (.d (.sl (cM cI r))) k kw:=by
 have h:=DU a0
 exact fZ h (fun _=>rfl) (fun _=>rfl) fz
theorem CY (a0:aB) (a1:Int) (p1:Int):cP TT lV ⟨[(1,.d (.int .i64 a1)),(2,.ptr 2 0),(5,.d (.int .i64 p1))],[(2,some (.box (aC a0.cells)))]⟩ (fun e s=>some (e,s)) = cV (fun (w:Int)=>(⟨[(1,.d (.int .i64 a1)),(2,.ptr 2 0),(5,.d (.int .i64 w))],[(2,some (.box (aC a0.cells)))]⟩ : St)) (fun (r:Unit ⊕ Int)=>Sum.elim (fun (z:Unit)=>(((.exit 0),⟨[(2,.ptr 2 0)],[(2,some (.box (aC a0.cells)))]⟩):Ex × St)) (fun (z:Int)=>((.ret,⟨[(4,.d (.int .i64 z))],[]⟩):Ex × St)) r) (eQ a0 a1 p1):=by
 simp -implicitDefEqProofs (decide:=true) (maxSteps:=2000000) only [lV,eQ,↓DN,↓DR,DQ,DP,↓reduceIte,Int.reduceToNat,Nat.reduceBEq,Nat.reduceAdd,Nat.reduceLT,Nat.reduceLeDiff,Nat.reduceEqDiff,Int.reduceEq,ne_eq,zN,reduceCtorEq,bJ,bM,bN,zM,zA,zB,aH,zC,zD,if_true,if_false,zE,zF,aG,zG,aJ,zH,zI,zJ,zK,aQ,aP,aV,aT,aS,aD,aL,aM,aE,aK,aF,aR,aZ,aU,aI,aW,zL]
 all_goals try simp only [bG]
 all_goals try rfl
theorem CR {β:Type} (a0:aB) (a1:Int) (p1:Int) (k:Ex→St→Option β):cP TT tQ ⟨[(1,.d (.int .i64 a1)),(2,.ptr 2 0),(5,.d (.int .i64 p1))],[(2,some (.box (aC a0.cells)))]⟩ k = (jP a0 a1 p1).bind (fun (r:Unit ⊕ Int)=>Sum.elim (fun (z:Unit)=>k (.exit 0) ⟨[(2,.ptr 2 0)],[(2,some (.box (aC a0.cells)))]⟩) (fun (z:Int)=>k .ret ⟨[(4,.d (.int .i64 z))],[]⟩) r):=by
 have hh:=fun (w:Int)=>CY a0 a1 w
 have h:=fun ho=>cA (T:=TT) (k:=k) (c:=lV) (step:=(fun (w:Int)=>eQ a0 a1 w)) _ _ ho hh p1
 refine Eq.trans (h (fun r s e=>by have q:=congrArg Prod.fst e; rcases r with x | x <;> cases q)) ?_
 unfold jP
 exact bK _ fun x=>by rcases x with x | x <;> rfl
theorem FV (a0:aB) (a1:Int):Vm.call TT 43 [.agg a0.cells,.int .i64 a1] = (kD a0 a1).map fun (r:Int)=>.int .i64 r:=by
 refine (bQ (show TT 43 = some (.code ⟨2,31,[.tmp 4],aG9,false⟩) from rfl) _ rfl).trans ?_
 show cP TT aG9 ⟨[(0,cO a0.cells),(1,.d (.int .i64 a1))],[]⟩ _ = _
 simp -implicitDefEqProofs (decide:=true) (maxSteps:=2000000) only [aG9,kD,↓CR,↓DN,↓DR,DQ,DP,↓reduceIte,Int.reduceToNat,Nat.reduceBEq,Nat.reduceAdd,Nat.reduceLT,Nat.reduceLeDiff,Nat.reduceEqDiff,Int.reduceEq,ne_eq,zN,reduceCtorEq,bJ,bM,bN,zM,zA,zB,aH,zC,zD,if_true,if_false,zE,zF,aG,zG,aJ,zH,zI,zJ,zK,aQ,aP,aV,aT,aS,aD,aL,aM,aE,aK,aF,aR,aZ,aU,aI,aW,zL]
 all_goals try simp only [bG]
 all_goals try rfl
theorem F5 {β:Type} (a0:aB) (a1:Int) (d:Nat) (bl:List (Nat × Option aY)) (fz:List (Nat × Option aY)) (k:V→Option β) (kw:V→List (Nat × Option aY)→Option β):cH TT d bl 43 [.agg a0.cells,.int .i64 a1] fz k kw = (kD a0 a1).bind fun (r:Int)=>k (.d (.int .i64 r)):=by
 have h:=FV a0 a1
 exact bI h (fun _=>rfl) fz
theorem AS (a0:aA) (a1:aB) (a2:aX) (a3:Int) (a4:Int):Vm.call TT 10 [.agg a0.cells,.agg a1.cells,.agg a2.cells,.int .i64 a3,.int .i64 a4] = (hX a0 a1 a2 a3 a4).map fun (r:Bool)=>.bool r:=by
 refine (bQ (show TT 10 = some (.code ⟨5,88,[.tmp 10],aFL,false⟩) from rfl) _ rfl).trans ?_
 show cP TT aFL ⟨[(0,cO a0.cells),(1,cO a1.cells),(2,cO a2.cells),(3,.d (.int .i64 a3)),(4,.d (.int .i64 a4))],[]⟩ _ = _
 simp -implicitDefEqProofs (decide:=true) (maxSteps:=2000000) only [aFL,hX,↓F9,↓HG,↓AA,↓KC,↓GY,↓EC,↓ME,↓GV,↓HS,↓wO,↓uA,↓I6,↓BB,↓MR,↓EM,↓C8,↓F5,↓DN,↓DR,DQ,DP,↓reduceIte,Int.reduceToNat,Nat.reduceBEq,Nat.reduceAdd,Nat.reduceLT,Nat.reduceLeDiff,Nat.reduceEqDiff,Int.reduceEq,ne_eq,zN,reduceCtorEq,bJ,bM,bN,zM,zA,zB,aH,zC,zD,if_true,if_false,zE,zF,aG,zG,aJ,zH,zI,zJ,zK,aQ,aP,aV,aT,aS,aD,aL,aM,aE,aK,aF,aR,aZ,aU,aI,aW,zL]
 all_goals try simp only [bG]
 all_goals try rfl
end Go.Proofs.Ytfhebiceipgdmaa
