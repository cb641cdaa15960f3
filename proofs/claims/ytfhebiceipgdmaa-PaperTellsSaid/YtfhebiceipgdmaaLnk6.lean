/- The functions of the small machine compute the plain definitions. Printed by a program. -/
import Derived.Test.YtfhebiceipgdmaaLnk5
set_option linter.unusedVariables false
set_option linter.unusedSimpArgs false
namespace Go.Proofs.Ytfhebiceipgdmaa
open Vm
open Go.RowKit
set_option maxRecDepth 100000
set_option maxHeartbeats 4000000
attribute [local congr] pR rP pQ rO
theorem A9 (a0:aA) (p1:Int) (p2:List ByteArray):cP TT kU ⟨[(1,.ptr 1 0),(3,.own 25 0),(4,.d (.int .i64 p1))],[(1,some (.box (aC a0.cells))),(25,some (.rows 0 9 1 (cM cS p2)))]⟩ (fun e s=>some (e,s)) = cV (fun (w:Int × (List ByteArray))=>(⟨[(1,.ptr 1 0),(3,.own 25 0),(4,.d (.int .i64 w.1))],[(1,some (.box (aC a0.cells))),(25,some (.rows 0 9 1 (cM cS w.2)))]⟩ : St)) (fun (r:Unit ⊕ Int)=>Sum.elim (fun (z:Unit)=>(((.exit 0),⟨[],[]⟩):Ex × St)) (fun (z:Int)=>((.ret,⟨[(2,.d (.int .i64 z))],[]⟩):Ex × St)) r) (eF a0 p1 p2):=by
 simp -implicitDefEqProofs (decide:=true) (maxSteps:=2000000) only [kU,eF,↓eV,↓rM,↓DN,↓DR,DQ,DP,↓reduceIte,Int.reduceToNat,Nat.reduceBEq,Nat.reduceAdd,Nat.reduceLT,Nat.reduceLeDiff,Nat.reduceEqDiff,Int.reduceEq,ne_eq,zN,reduceCtorEq,bJ,bM,bN,zM,zA,zB,aH,zC,zD,if_true,if_false,zE,zF,aG,zG,aJ,zH,zI,zJ,zK,aQ,aP,aV,aT,aS,aD,aL,aM,aE,aK,aF,aR,aZ,aU,aI,aW,zL]
 all_goals try simp only [bG]
 all_goals try rfl
theorem BJ {β:Type} (a0:aA) (p1:Int) (p2:List ByteArray) (k:Ex→St→Option β):cP TT sS ⟨[(1,.ptr 1 0),(3,.own 25 0),(4,.d (.int .i64 p1))],[(1,some (.box (aC a0.cells))),(25,some (.rows 0 9 1 (cM cS p2)))]⟩ k = (mG a0 p1 p2).bind (fun (r:Unit ⊕ Int)=>Sum.elim (fun (z:Unit)=>k (.exit 0) ⟨[],[]⟩) (fun (z:Int)=>k .ret ⟨[(2,.d (.int .i64 z))],[]⟩) r):=by
 have hh:=fun (w:Int × (List ByteArray))=>A9 a0 w.1 w.2
 have h:=fun ho=>cA (T:=TT) (k:=k) (c:=kU) (step:=(fun (w:Int × (List ByteArray))=>eF a0 w.1 w.2)) _ _ ho hh (p1,p2)
 refine Eq.trans (h (fun r s e=>by have q:=congrArg Prod.fst e; rcases r with x | x <;> cases q)) ?_
 unfold mG
 exact bK _ fun x=>by rcases x with x | x <;> rfl
theorem EX (a0:aA):Vm.call TT 105 [.agg a0.cells] = (iI a0).map fun (r:Int)=>.int .i64 r:=by
 refine (bQ (show TT 105 = some (.code ⟨1,39,[.tmp 2],ZY,false⟩) from rfl) _ rfl).trans ?_
 show cP TT ZY ⟨[(0,cO a0.cells)],[]⟩ _ = _
 simp -implicitDefEqProofs (decide:=true) (maxSteps:=2000000) only [ZY,iI,↓BJ,↓eV,↓rM,↓DN,↓DR,DQ,DP,↓reduceIte,Int.reduceToNat,Nat.reduceBEq,Nat.reduceAdd,Nat.reduceLT,Nat.reduceLeDiff,Nat.reduceEqDiff,Int.reduceEq,ne_eq,zN,reduceCtorEq,bJ,bM,bN,zM,zA,zB,aH,zC,zD,if_true,if_false,zE,zF,aG,zG,aJ,zH,zI,zJ,zK,aQ,aP,aV,aT,aS,aD,aL,aM,aE,aK,aF,aR,aZ,aU,aI,aW,zL]
 all_goals try simp only [bG]
 all_goals try rfl
theorem m4 {β:Type} (a0:aA) (d:Nat) (bl:List (Nat × Option aY)) (fz:List (Nat × Option aY)) (k:V→Option β) (kw:V→List (Nat × Option aY)→Option β):cH TT d bl 105 [.agg a0.cells] fz k kw = (iI a0).bind fun (r:Int)=>k (.d (.int .i64 r)):=by
 have h:=EX a0
 exact bI h (fun _=>rfl) fz
theorem AQ (a0:aA) (p1:Int) (x2:bA) (p6:Int):cP TT jG ⟨[(1,.ptr 1 0),(3,.d (.int .i64 p1)),(4,.ptr 4 0),(5,.d (.int .i64 p6))],[(1,some (.box (aC a0.cells))),(4,some (.box (aC x2.cells)))]⟩ (fun e s=>some (e,s)) = cV (fun (w:Int)=>(⟨[(1,.ptr 1 0),(3,.d (.int .i64 p1)),(4,.ptr 4 0),(5,.d (.int .i64 w))],[(1,some (.box (aC a0.cells))),(4,some (.box (aC x2.cells)))]⟩ : St)) (fun (r:Unit ⊕ Unit)=>Sum.elim (fun (z:Unit)=>(((.exit 2),⟨[(1,.ptr 1 0),(3,.d (.int .i64 p1))],[(1,some (.box (aC a0.cells)))]⟩):Ex × St)) (fun (z:Unit)=>((.ret,⟨[(2,.d (.int .i64 5))],[]⟩):Ex × St)) r) (dV a0 p1 x2 p6):=by
 simp -implicitDefEqProofs (decide:=true) (maxSteps:=2000000) only [jG,dV,↓bC,↓DN,↓DR,DQ,DP,↓reduceIte,Int.reduceToNat,Nat.reduceBEq,Nat.reduceAdd,Nat.reduceLT,Nat.reduceLeDiff,Nat.reduceEqDiff,Int.reduceEq,ne_eq,zN,reduceCtorEq,bJ,bM,bN,zM,zA,zB,aH,zC,zD,if_true,if_false,zE,zF,aG,zG,aJ,zH,zI,zJ,zK,aQ,aP,aV,aT,aS,aD,aL,aM,aE,aK,aF,aR,aZ,aU,aI,aW,zL]
 all_goals try simp only [bG]
 all_goals try rfl
theorem rY {β:Type} (a0:aA) (p1:Int) (x2:bA) (p6:Int) (k:Ex→St→Option β):cP TT rH ⟨[(1,.ptr 1 0),(3,.d (.int .i64 p1)),(4,.ptr 4 0),(5,.d (.int .i64 p6))],[(1,some (.box (aC a0.cells))),(4,some (.box (aC x2.cells)))]⟩ k = (lN a0 p1 x2 p6).bind (fun (r:Unit ⊕ Unit)=>Sum.elim (fun (z:Unit)=>k (.exit 2) ⟨[(1,.ptr 1 0),(3,.d (.int .i64 p1))],[(1,some (.box (aC a0.cells)))]⟩) (fun (z:Unit)=>k .ret ⟨[(2,.d (.int .i64 5))],[]⟩) r):=by
 have hh:=fun (w:Int)=>AQ a0 p1 x2 w
 have h:=fun ho=>cA (T:=TT) (k:=k) (c:=jG) (step:=(fun (w:Int)=>dV a0 p1 x2 w)) _ _ ho hh p6
 refine Eq.trans (h (fun r s e=>by have q:=congrArg Prod.fst e; rcases r with x | x <;> cases q)) ?_
 unfold lN
 exact bK _ fun x=>by rcases x with x | x <;> rfl
theorem AD (a0:aA) (p1:Int):cP TT jO ⟨[(1,.ptr 1 0),(3,.d (.int .i64 p1))],[(1,some (.box (aC a0.cells)))]⟩ (fun e s=>some (e,s)) = cV (fun (w:Int)=>(⟨[(1,.ptr 1 0),(3,.d (.int .i64 w))],[(1,some (.box (aC a0.cells)))]⟩ : St)) (fun (r:Unit ⊕ Int)=>Sum.elim (fun (z:Unit)=>(((.exit 0),⟨[],[]⟩):Ex × St)) (fun (z:Int)=>((.ret,⟨[(2,.d (.int .i64 z))],[]⟩):Ex × St)) r) (dY a0 p1):=by
 simp -implicitDefEqProofs (decide:=true) (maxSteps:=2000000) only [jO,dY,↓rY,↓bC,↓DN,↓DR,DQ,DP,↓reduceIte,Int.reduceToNat,Nat.reduceBEq,Nat.reduceAdd,Nat.reduceLT,Nat.reduceLeDiff,Nat.reduceEqDiff,Int.reduceEq,ne_eq,zN,reduceCtorEq,bJ,bM,bN,zM,zA,zB,aH,zC,zD,if_true,if_false,zE,zF,aG,zG,aJ,zH,zI,zJ,zK,aQ,aP,aV,aT,aS,aD,aL,aM,aE,aK,aF,aR,aZ,aU,aI,aW,zL]
 all_goals try simp only [bG]
 all_goals try rfl
theorem AU {β:Type} (a0:aA) (p1:Int) (k:Ex→St→Option β):cP TT rS ⟨[(1,.ptr 1 0),(3,.d (.int .i64 p1))],[(1,some (.box (aC a0.cells)))]⟩ k = (oN a0 p1).bind (fun (r:Unit ⊕ Int)=>Sum.elim (fun (z:Unit)=>k (.exit 0) ⟨[],[]⟩) (fun (z:Int)=>k .ret ⟨[(2,.d (.int .i64 z))],[]⟩) r):=by
 have hh:=fun (w:Int)=>AD a0 w
 have h:=fun ho=>cA (T:=TT) (k:=k) (c:=jO) (step:=(fun (w:Int)=>dY a0 w)) _ _ ho hh p1
 refine Eq.trans (h (fun r s e=>by have q:=congrArg Prod.fst e; rcases r with x | x <;> cases q)) ?_
 unfold oN
 exact bK _ fun x=>by rcases x with x | x <;> rfl
theorem D3 (a0:aA):Vm.call TT 106 [.agg a0.cells] = (gZ a0).map fun (r:Int)=>.int .i64 r:=by
 refine (bQ (show TT 106 = some (.code ⟨1,71,[.tmp 2],Y1,false⟩) from rfl) _ rfl).trans ?_
 show cP TT Y1 ⟨[(0,cO a0.cells)],[]⟩ _ = _
 simp -implicitDefEqProofs (decide:=true) (maxSteps:=2000000) only [Y1,gZ,↓rY,↓AU,↓bC,↓DN,↓DR,DQ,DP,↓reduceIte,Int.reduceToNat,Nat.reduceBEq,Nat.reduceAdd,Nat.reduceLT,Nat.reduceLeDiff,Nat.reduceEqDiff,Int.reduceEq,ne_eq,zN,reduceCtorEq,bJ,bM,bN,zM,zA,zB,aH,zC,zD,if_true,if_false,zE,zF,aG,zG,aJ,zH,zI,zJ,zK,aQ,aP,aV,aT,aS,aD,aL,aM,aE,aK,aF,aR,aZ,aU,aI,aW,zL]
 all_goals try simp only [bG]
 all_goals try rfl
theorem l9 {β:Type} (a0:aA) (d:Nat) (bl:List (Nat × Option aY)) (fz:List (Nat × Option aY)) (k:V→Option β) (kw:V→List (Nat × Option aY)→Option β):cH TT d bl 106 [.agg a0.cells] fz k kw = (gZ a0).bind fun (r:Int)=>k (.d (.int .i64 r)):=by
 have h:=D3 a0
 exact bI h (fun _=>rfl) fz
theorem BC (a0:aA) (p1:Int):cP TT kN ⟨[(1,.ptr 1 0),(3,.d (.int .i64 p1))],[(1,some (.box (aC a0.cells)))]⟩ (fun e s=>some (e,s)) = cV (fun (w:Int)=>(⟨[(1,.ptr 1 0),(3,.d (.int .i64 w))],[(1,some (.box (aC a0.cells)))]⟩ : St)) (fun (r:Unit ⊕ Unit)=>Sum.elim (fun (z:Unit)=>(((.exit 0),⟨[(1,.ptr 1 0)],[(1,some (.box (aC a0.cells)))]⟩):Ex × St)) (fun (z:Unit)=>((.ret,⟨[(2,.d (.int .i64 1))],[]⟩):Ex × St)) r) (eC a0 p1):=by
 simp -implicitDefEqProofs (decide:=true) (maxSteps:=2000000) only [kN,eC,↓bC,↓DN,↓DR,DQ,DP,↓reduceIte,Int.reduceToNat,Nat.reduceBEq,Nat.reduceAdd,Nat.reduceLT,Nat.reduceLeDiff,Nat.reduceEqDiff,Int.reduceEq,ne_eq,zN,reduceCtorEq,bJ,bM,bN,zM,zA,zB,aH,zC,zD,if_true,if_false,zE,zF,aG,zG,aJ,zH,zI,zJ,zK,aQ,aP,aV,aT,aS,aD,aL,aM,aE,aK,aF,aR,aZ,aU,aI,aW,zL]
 all_goals try simp only [bG]
 all_goals try rfl
theorem s7 {β:Type} (a0:aA) (p1:Int) (k:Ex→St→Option β):cP TT s6 ⟨[(1,.ptr 1 0),(3,.d (.int .i64 p1))],[(1,some (.box (aC a0.cells)))]⟩ k = (mA a0 p1).bind (fun (r:Unit ⊕ Unit)=>Sum.elim (fun (z:Unit)=>k (.exit 0) ⟨[(1,.ptr 1 0)],[(1,some (.box (aC a0.cells)))]⟩) (fun (z:Unit)=>k .ret ⟨[(2,.d (.int .i64 1))],[]⟩) r):=by
 have hh:=fun (w:Int)=>BC a0 w
 have h:=fun ho=>cA (T:=TT) (k:=k) (c:=kN) (step:=(fun (w:Int)=>eC a0 w)) _ _ ho hh p1
 refine Eq.trans (h (fun r s e=>by have q:=congrArg Prod.fst e; rcases r with x | x <;> cases q)) ?_
 unfold mA
 exact bK _ fun x=>by rcases x with x | x <;> rfl
theorem BG (a0:aA) (p11:Int):cP TT kS ⟨[(1,.ptr 1 0),(5,.d (.int .i64 p11))],[(1,some (.box (aC a0.cells)))]⟩ (fun e s=>some (e,s)) = cV (fun (w:Int)=>(⟨[(1,.ptr 1 0),(5,.d (.int .i64 w))],[(1,some (.box (aC a0.cells)))]⟩ : St)) (fun (r:Unit ⊕ Unit)=>Sum.elim (fun (z:Unit)=>(((.exit 2),⟨[],[]⟩):Ex × St)) (fun (z:Unit)=>((.ret,⟨[(2,.d (.int .i64 1))],[]⟩):Ex × St)) r) (eI a0 p11):=by
 simp -implicitDefEqProofs (decide:=true) (maxSteps:=2000000) only [kS,eI,↓s7,↓bC,↓DN,↓DR,DQ,DP,↓reduceIte,Int.reduceToNat,Nat.reduceBEq,Nat.reduceAdd,Nat.reduceLT,Nat.reduceLeDiff,Nat.reduceEqDiff,Int.reduceEq,ne_eq,zN,reduceCtorEq,bJ,bM,bN,zM,zA,zB,aH,zC,zD,if_true,if_false,zE,zF,aG,zG,aJ,zH,zI,zJ,zK,aQ,aP,aV,aT,aS,aD,aL,aM,aE,aK,aF,aR,aZ,aU,aI,aW,zL]
 all_goals try simp only [bG]
 all_goals try rfl
theorem BO {β:Type} (a0:aA) (p11:Int) (k:Ex→St→Option β):cP TT sU ⟨[(1,.ptr 1 0),(5,.d (.int .i64 p11))],[(1,some (.box (aC a0.cells)))]⟩ k = (mT a0 p11).bind (fun (r:Unit ⊕ Unit)=>Sum.elim (fun (z:Unit)=>k (.exit 2) ⟨[],[]⟩) (fun (z:Unit)=>k .ret ⟨[(2,.d (.int .i64 1))],[]⟩) r):=by
 have hh:=fun (w:Int)=>BG a0 w
 have h:=fun ho=>cA (T:=TT) (k:=k) (c:=kS) (step:=(fun (w:Int)=>eI a0 w)) _ _ ho hh p11
 refine Eq.trans (h (fun r s e=>by have q:=congrArg Prod.fst e; rcases r with x | x <;> cases q)) ?_
 unfold mT
 exact bK _ fun x=>by rcases x with x | x <;> rfl
theorem FC (a0:aA):Vm.call TT 107 [.agg a0.cells] = (iM a0).map fun (r:Int)=>.int .i64 r:=by
 refine (bQ (show TT 107 = some (.code ⟨1,101,[.tmp 2],Y6,false⟩) from rfl) _ rfl).trans ?_
 show cP TT Y6 ⟨[(0,cO a0.cells)],[]⟩ _ = _
 simp -implicitDefEqProofs (decide:=true) (maxSteps:=2000000) only [Y6,iM,↓s7,↓BO,↓bC,↓DN,↓DR,DQ,DP,↓reduceIte,Int.reduceToNat,Nat.reduceBEq,Nat.reduceAdd,Nat.reduceLT,Nat.reduceLeDiff,Nat.reduceEqDiff,Int.reduceEq,ne_eq,zN,reduceCtorEq,bJ,bM,bN,zM,zA,zB,aH,zC,zD,if_true,if_false,zE,zF,aG,zG,aJ,zH,zI,zJ,zK,aQ,aP,aV,aT,aS,aD,aL,aM,aE,aK,aF,aR,aZ,aU,aI,aW,zL]
 all_goals try simp only [bG]
 all_goals try rfl
theorem m5 {β:Type} (a0:aA) (d:Nat) (bl:List (Nat × Option aY)) (fz:List (Nat × Option aY)) (k:V→Option β) (kw:V→List (Nat × Option aY)→Option β):cH TT d bl 107 [.agg a0.cells] fz k kw = (iM a0).bind fun (r:Int)=>k (.d (.int .i64 r)):=by
 have h:=FC a0
 exact bI h (fun _=>rfl) fz
theorem oF {β:Type} (a0:aA) (p7:Int) (k:Ex→St→Option β):cP TT oQ ⟨[(1,.ptr 1 0),(3,.d (.int .i64 p7))],[(1,some (.box (aC a0.cells)))]⟩ k = (jC a0 p7).bind (fun (r:Int)=>k .ret ⟨[(2,.d (.int .i64 r))],[]⟩):=by
 simp -implicitDefEqProofs (decide:=true) (maxSteps:=2000000) only [oQ,jC,↓m6,↓nQ,↓m4,↓l9,↓m5,↓DN,↓DR,DQ,DP,↓reduceIte,Int.reduceToNat,Nat.reduceBEq,Nat.reduceAdd,Nat.reduceLT,Nat.reduceLeDiff,Nat.reduceEqDiff,Int.reduceEq,ne_eq,zN,reduceCtorEq,bJ,bM,bN,zM,zA,zB,aH,zC,zD,if_true,if_false,zE,zF,aG,zG,aJ,zH,zI,zJ,zK,aQ,aP,aV,aT,aS,aD,aL,aM,aE,aK,aF,aR,aZ,aU,aI,aW,zL]
 all_goals try simp only [bG]
 all_goals try rfl
theorem tL {β:Type} (a0:aA) (p5:Int) (k:Ex→St→Option β):cP TT oP ⟨[(1,.ptr 1 0),(3,.d (.int .i64 p5))],[(1,some (.box (aC a0.cells)))]⟩ k = (iY a0 p5).bind (fun (r:Int)=>k .ret ⟨[(2,.d (.int .i64 r))],[]⟩):=by
 simp -implicitDefEqProofs (decide:=true) (maxSteps:=2000000) only [oP,iY,↓oF,↓m6,↓nQ,↓m4,↓l9,↓m5,↓DN,↓DR,DQ,DP,↓reduceIte,Int.reduceToNat,Nat.reduceBEq,Nat.reduceAdd,Nat.reduceLT,Nat.reduceLeDiff,Nat.reduceEqDiff,Int.reduceEq,ne_eq,zN,reduceCtorEq,bJ,bM,bN,zM,zA,zB,aH,zC,zD,if_true,if_false,zE,zF,aG,zG,aJ,zH,zI,zJ,zK,aQ,aP,aV,aT,aS,aD,aL,aM,aE,aK,aF,aR,aZ,aU,aI,aW,zL]
 all_goals try simp only [bG]
 all_goals try rfl
theorem CO {β:Type} (a0:aA) (p3:Int) (k:Ex→St→Option β):cP TT n8 ⟨[(1,.ptr 1 0),(3,.d (.int .i64 p3))],[(1,some (.box (aC a0.cells)))]⟩ k = (jI a0 p3).bind (fun (r:Int)=>k .ret ⟨[(2,.d (.int .i64 r))],[]⟩):=by
 simp -implicitDefEqProofs (decide:=true) (maxSteps:=2000000) only [n8,jI,↓oF,↓tL,↓m6,↓nQ,↓m4,↓l9,↓m5,↓DN,↓DR,DQ,DP,↓reduceIte,Int.reduceToNat,Nat.reduceBEq,Nat.reduceAdd,Nat.reduceLT,Nat.reduceLeDiff,Nat.reduceEqDiff,Int.reduceEq,ne_eq,zN,reduceCtorEq,bJ,bM,bN,zM,zA,zB,aH,zC,zD,if_true,if_false,zE,zF,aG,zG,aJ,zH,zI,zJ,zK,aQ,aP,aV,aT,aS,aD,aL,aM,aE,aK,aF,aR,aZ,aU,aI,aW,zL]
 all_goals try simp only [bG]
 all_goals try rfl
theorem FO (a0:aA):Vm.call TT 83 [.agg a0.cells] = (j8 a0).map fun (r:Int)=>.int .i64 r:=by
 refine (bQ (show TT 83 = some (.code ⟨1,23,[.tmp 2],aHb,false⟩) from rfl) _ rfl).trans ?_
 show cP TT aHb ⟨[(0,cO a0.cells)],[]⟩ _ = _
 simp -implicitDefEqProofs (decide:=true) (maxSteps:=2000000) only [aHb,j8,↓oF,↓tL,↓CO,↓m6,↓nQ,↓m4,↓l9,↓m5,↓DN,↓DR,DQ,DP,↓reduceIte,Int.reduceToNat,Nat.reduceBEq,Nat.reduceAdd,Nat.reduceLT,Nat.reduceLeDiff,Nat.reduceEqDiff,Int.reduceEq,ne_eq,zN,reduceCtorEq,bJ,bM,bN,zM,zA,zB,aH,zC,zD,if_true,if_false,zE,zF,aG,zG,aJ,zH,zI,zJ,zK,aQ,aP,aV,aT,aS,aD,aL,aM,aE,aK,aF,aR,aZ,aU,aI,aW,zL]
 all_goals try simp only [bG]
 all_goals try rfl
theorem wN {β:Type} (a0:aA) (d:Nat) (bl:List (Nat × Option aY)) (fz:List (Nat × Option aY)) (k:V→Option β) (kw:V→List (Nat × Option aY)→Option β):cH TT d bl 83 [.agg a0.cells] fz k kw = (j8 a0).bind fun (r:Int)=>k (.d (.int .i64 r)):=by
 have h:=FO a0
 exact bI h (fun _=>rfl) fz
theorem JA (a0:Int) (a1:Int):Vm.call TT 84 [.int .i64 a0,.int .i64 a1] = (eZ a0 a1).map fun (r:Bool)=>.bool r:=by
 refine (bQ (show TT 84 = some (.code ⟨2,12,[.tmp 4],aGY,false⟩) from rfl) _ rfl).trans ?_
 show cP TT aGY ⟨[(0,.d (.int .i64 a0)),(1,.d (.int .i64 a1))],[]⟩ _ = _
 simp -implicitDefEqProofs (decide:=true) (maxSteps:=2000000) only [aGY,eZ,↓DN,↓DR,DQ,DP,↓reduceIte,Int.reduceToNat,Nat.reduceBEq,Nat.reduceAdd,Nat.reduceLT,Nat.reduceLeDiff,Nat.reduceEqDiff,Int.reduceEq,ne_eq,zN,reduceCtorEq,bJ,bM,bN,zM,zA,zB,aH,zC,zD,if_true,if_false,zE,zF,aG,zG,aJ,zH,zI,zJ,zK,aQ,aP,aV,aT,aS,aD,aL,aM,aE,aK,aF,aR,aZ,aU,aI,aW,zL]
 all_goals try simp only [bG]
 all_goals try rfl
theorem uL {β:Type} (a0:Int) (a1:Int) (d:Nat) (bl:List (Nat × Option aY)) (fz:List (Nat × Option aY)) (k:V→Option β) (kw:V→List (Nat × Option aY)→Option β):cH TT d bl 84 [.int .i64 a0,.int .i64 a1] fz k kw = (eZ a0 a1).bind fun (r:Bool)=>k (.d (.bool r)):=by
 have h:=JA a0 a1
 exact bI h (fun _=>rfl) fz
theorem GD (a0:Int) (a1:Int):Vm.call TT 85 [.int .i64 a0,.int .i64 a1] = (iD a0 a1).map fun (r:Bool)=>.bool r:=by
 refine (bQ (show TT 85 = some (.code ⟨2,12,[.tmp 4],aHn,false⟩) from rfl) _ rfl).trans ?_
 show cP TT aHn ⟨[(0,.d (.int .i64 a0)),(1,.d (.int .i64 a1))],[]⟩ _ = _
 simp -implicitDefEqProofs (decide:=true) (maxSteps:=2000000) only [aHn,iD,↓uL,↓DN,↓DR,DQ,DP,↓reduceIte,Int.reduceToNat,Nat.reduceBEq,Nat.reduceAdd,Nat.reduceLT,Nat.reduceLeDiff,Nat.reduceEqDiff,Int.reduceEq,ne_eq,zN,reduceCtorEq,bJ,bM,bN,zM,zA,zB,aH,zC,zD,if_true,if_false,zE,zF,aG,zG,aJ,zH,zI,zJ,zK,aQ,aP,aV,aT,aS,aD,aL,aM,aE,aK,aF,aR,aZ,aU,aI,aW,zL]
 all_goals try simp only [bG]
 all_goals try rfl
theorem xR {β:Type} (a0:Int) (a1:Int) (d:Nat) (bl:List (Nat × Option aY)) (fz:List (Nat × Option aY)) (k:V→Option β) (kw:V→List (Nat × Option aY)→Option β):cH TT d bl 85 [.int .i64 a0,.int .i64 a1] fz k kw = (iD a0 a1).bind fun (r:Bool)=>k (.d (.bool r)):=by
 have h:=GD a0 a1
 exact bI h (fun _=>rfl) fz
theorem FT (a0:Int):Vm.call TT 86 [.int .i64 a0] = (kC a0).map fun (r:Bool)=>.bool r:=by
 refine (bQ (show TT 86 = some (.code ⟨1,9,[.tmp 2],aG1,false⟩) from rfl) _ rfl).trans ?_
 show cP TT aG1 ⟨[(0,.d (.int .i64 a0))],[]⟩ _ = _
 simp -implicitDefEqProofs (decide:=true) (maxSteps:=2000000) only [aG1,kC,↓DN,↓DR,DQ,DP,↓reduceIte,Int.reduceToNat,Nat.reduceBEq,Nat.reduceAdd,Nat.reduceLT,Nat.reduceLeDiff,Nat.reduceEqDiff,Int.reduceEq,ne_eq,zN,reduceCtorEq,bJ,bM,bN,zM,zA,zB,aH,zC,zD,if_true,if_false,zE,zF,aG,zG,aJ,zH,zI,zJ,zK,aQ,aP,aV,aT,aS,aD,aL,aM,aE,aK,aF,aR,aZ,aU,aI,aW,zL]
 all_goals try simp only [bG]
 all_goals try rfl
theorem wJ {β:Type} (a0:Int) (d:Nat) (bl:List (Nat × Option aY)) (fz:List (Nat × Option aY)) (k:V→Option β) (kw:V→List (Nat × Option aY)→Option β):cH TT d bl 86 [.int .i64 a0] fz k kw = (kC a0).bind fun (r:Bool)=>k (.d (.bool r)):=by
 have h:=FT a0
 exact bI h (fun _=>rfl) fz
theorem FS (a0:bF):Vm.call TT 87 [.agg a0.cells] = (gS a0).map fun (r:Bool)=>.bool r:=by
 refine (bQ (show TT 87 = some (.code ⟨1,68,[.tmp 2],aHN,false⟩) from rfl) _ rfl).trans ?_
 show cP TT aHN ⟨[(0,cO a0.cells)],[]⟩ _ = _
 simp -implicitDefEqProofs (decide:=true) (maxSteps:=2000000) only [aHN,gS,↓DN,↓DR,DQ,DP,↓reduceIte,Int.reduceToNat,Nat.reduceBEq,Nat.reduceAdd,Nat.reduceLT,Nat.reduceLeDiff,Nat.reduceEqDiff,Int.reduceEq,ne_eq,zN,reduceCtorEq,bJ,bM,bN,zM,zA,zB,aH,zC,zD,if_true,if_false,zE,zF,aG,zG,aJ,zH,zI,zJ,zK,aQ,aP,aV,aT,aS,aD,aL,aM,aE,aK,aF,aR,aZ,aU,aI,aW,zL]
 all_goals try simp only [bG]
 all_goals try rfl
theorem wQ {β:Type} (a0:bF) (d:Nat) (bl:List (Nat × Option aY)) (fz:List (Nat × Option aY)) (k:V→Option β) (kw:V→List (Nat × Option aY)→Option β):cH TT d bl 87 [.agg a0.cells] fz k kw = (gS a0).bind fun (r:Bool)=>k (.d (.bool r)):=by
 have h:=FS a0
 exact bI h (fun _=>rfl) fz
theorem A5 (a0:aA) (a1:Int) (a2:Int) (p1:Int):cP TT kQ ⟨[(1,.d (.int .i64 a1)),(2,.d (.int .i64 a2)),(3,.ptr 3 0),(8,.d (.int .i64 p1))],[(3,some (.box (aC a0.cells)))]⟩ (fun e s=>some (e,s)) = cV (fun (w:Int)=>(⟨[(1,.d (.int .i64 a1)),(2,.d (.int .i64 a2)),(3,.ptr 3 0),(8,.d (.int .i64 w))],[(3,some (.box (aC a0.cells)))]⟩ : St)) (fun (r:Unit ⊕ Int)=>Sum.elim (fun (z:Unit)=>(((.exit 0),⟨[],[]⟩):Ex × St)) (fun (z:Int)=>((.ret,⟨[(6,.d (.int .i64 z)),(7,.d (.int .i64 0))],[]⟩):Ex × St)) r) (eJ a0 a1 a2 p1):=by
 simp -implicitDefEqProofs (decide:=true) (maxSteps:=2000000) only [kQ,eJ,↓DN,↓DR,DQ,DP,↓reduceIte,Int.reduceToNat,Nat.reduceBEq,Nat.reduceAdd,Nat.reduceLT,Nat.reduceLeDiff,Nat.reduceEqDiff,Int.reduceEq,ne_eq,zN,reduceCtorEq,bJ,bM,bN,zM,zA,zB,aH,zC,zD,if_true,if_false,zE,zF,aG,zG,aJ,zH,zI,zJ,zK,aQ,aP,aV,aT,aS,aD,aL,aM,aE,aK,aF,aR,aZ,aU,aI,aW,zL]
 all_goals try simp only [bG]
 all_goals try rfl
theorem BD {β:Type} (a0:aA) (a1:Int) (a2:Int) (p1:Int) (k:Ex→St→Option β):cP TT s8 ⟨[(1,.d (.int .i64 a1)),(2,.d (.int .i64 a2)),(3,.ptr 3 0),(8,.d (.int .i64 p1))],[(3,some (.box (aC a0.cells)))]⟩ k = (mP a0 a1 a2 p1).bind (fun (r:Unit ⊕ Int)=>Sum.elim (fun (z:Unit)=>k (.exit 0) ⟨[],[]⟩) (fun (z:Int)=>k .ret ⟨[(6,.d (.int .i64 z)),(7,.d (.int .i64 0))],[]⟩) r):=by
 have hh:=fun (w:Int)=>A5 a0 a1 a2 w
 have h:=fun ho=>cA (T:=TT) (k:=k) (c:=kQ) (step:=(fun (w:Int)=>eJ a0 a1 a2 w)) _ _ ho hh p1
 refine Eq.trans (h (fun r s e=>by have q:=congrArg Prod.fst e; rcases r with x | x <;> cases q)) ?_
 unfold mP
 exact bK _ fun x=>by rcases x with x | x <;> rfl
theorem EQ (a0:aA) (a1:Int) (a2:Int):Vm.call TT 88 [.agg a0.cells,.int .i64 a1,.int .i64 a2] = (iL a0 a1 a2).map fun (r:Int × Int)=>.tup [.int .i64 r.1,.int .i64 r.2]:=by
 refine (bQ (show TT 88 = some (.code ⟨3,40,[.tmp 6,.tmp 7],aGz,false⟩) from rfl) _ rfl).trans ?_
 show cP TT aGz ⟨[(0,cO a0.cells),(1,.d (.int .i64 a1)),(2,.d (.int .i64 a2))],[]⟩ _ = _
 simp -implicitDefEqProofs (decide:=true) (maxSteps:=2000000) only [aGz,iL,↓BD,↓DN,↓DR,DQ,DP,↓reduceIte,Int.reduceToNat,Nat.reduceBEq,Nat.reduceAdd,Nat.reduceLT,Nat.reduceLeDiff,Nat.reduceEqDiff,Int.reduceEq,ne_eq,zN,reduceCtorEq,bJ,bM,bN,zM,zA,zB,aH,zC,zD,if_true,if_false,zE,zF,aG,zG,aJ,zH,zI,zJ,zK,aQ,aP,aV,aT,aS,aD,aL,aM,aE,aK,aF,aR,aZ,aU,aI,aW,zL]
 all_goals try simp only [bG]
 all_goals try rfl
theorem vS {β:Type} (a0:aA) (a1:Int) (a2:Int) (d:Nat) (bl:List (Nat × Option aY)) (fz:List (Nat × Option aY)) (k:V→Option β) (kw:V→List (Nat × Option aY)→Option β):cH TT d bl 88 [.agg a0.cells,.int .i64 a1,.int .i64 a2] fz k kw = (iL a0 a1 a2).bind fun (r:Int × Int)=>k (.tup [.d (.int .i64 r.1),.d (.int .i64 r.2)]):=by
 have h:=EQ a0 a1 a2
 exact bI h (fun _=>rfl) fz
theorem CQ {β:Type} (a0:aA) (a1:bF) (k:Ex→St→Option β):cP TT oT ⟨[(2,.ptr 2 0),(3,.ptr 3 0)],[(2,some (.box (aC a0.cells))),(3,some (.box (aC a1.cells)))]⟩ k = (jL a0 a1).bind (fun (r:Int)=>k .ret ⟨[(4,.d (.int .i64 r))],[]⟩):=by
 simp -implicitDefEqProofs (decide:=true) (maxSteps:=2000000) only [oT,jL,↓wN,↓uL,↓xR,↓wJ,↓wQ,↓vS,↓DN,↓DR,DQ,DP,↓reduceIte,Int.reduceToNat,Nat.reduceBEq,Nat.reduceAdd,Nat.reduceLT,Nat.reduceLeDiff,Nat.reduceEqDiff,Int.reduceEq,ne_eq,zN,reduceCtorEq,bJ,bM,bN,zM,zA,zB,aH,zC,zD,if_true,if_false,zE,zF,aG,zG,aJ,zH,zI,zJ,zK,aQ,aP,aV,aT,aS,aD,aL,aM,aE,aK,aF,aR,aZ,aU,aI,aW,zL]
 all_goals try simp only [bG]
 all_goals try rfl
theorem FZ (a0:aA) (a1:bF):Vm.call TT 67 [.agg a0.cells,.agg a1.cells] = (gR a0 a1).map fun (r:Int)=>.int .i64 r:=by
 refine (bQ (show TT 67 = some (.code ⟨2,140,[.tmp 4],aH3,false⟩) from rfl) _ rfl).trans ?_
 show cP TT aH3 ⟨[(0,cO a0.cells),(1,cO a1.cells)],[]⟩ _ = _
 simp -implicitDefEqProofs (decide:=true) (maxSteps:=2000000) only [aH3,gR,↓CQ,↓wN,↓uL,↓xR,↓wJ,↓wQ,↓vS,↓DN,↓DR,DQ,DP,↓reduceIte,Int.reduceToNat,Nat.reduceBEq,Nat.reduceAdd,Nat.reduceLT,Nat.reduceLeDiff,Nat.reduceEqDiff,Int.reduceEq,ne_eq,zN,reduceCtorEq,bJ,bM,bN,zM,zA,zB,aH,zC,zD,if_true,if_false,zE,zF,aG,zG,aJ,zH,zI,zJ,zK,aQ,aP,aV,aT,aS,aD,aL,aM,aE,aK,aF,aR,aZ,aU,aI,aW,zL]
 all_goals try simp only [bG]
 all_goals try rfl
theorem fX {β:Type} (a0:aA) (a1:bF) (d:Nat) (bl:List (Nat × Option aY)) (fz:List (Nat × Option aY)) (k:V→Option β) (kw:V→List (Nat × Option aY)→Option β):cH TT d bl 67 [.agg a0.cells,.agg a1.cells] fz k kw = (gR a0 a1).bind fun (r:Int)=>k (.d (.int .i64 r)):=by
 have h:=FZ a0 a1
 exact bI h (fun _=>rfl) fz
theorem I2 (a0:aB) (a1:Int) (a2:Int):Vm.call TT 72 [.agg a0.cells,.int .i64 a1,.int .i64 a2] = (iK a0 a1 a2).map fun (r:Bool)=>.bool r:=by
 refine (bQ (show TT 72 = some (.code ⟨3,19,[.tmp 6],aGf,false⟩) from rfl) _ rfl).trans ?_
 show cP TT aGf ⟨[(0,cO a0.cells),(1,.d (.int .i64 a1)),(2,.d (.int .i64 a2))],[]⟩ _ = _
 simp -implicitDefEqProofs (decide:=true) (maxSteps:=2000000) only [aGf,iK,↓DN,↓DR,DQ,DP,↓reduceIte,Int.reduceToNat,Nat.reduceBEq,Nat.reduceAdd,Nat.reduceLT,Nat.reduceLeDiff,Nat.reduceEqDiff,Int.reduceEq,ne_eq,zN,reduceCtorEq,bJ,bM,bN,zM,zA,zB,aH,zC,zD,if_true,if_false,zE,zF,aG,zG,aJ,zH,zI,zJ,zK,aQ,aP,aV,aT,aS,aD,aL,aM,aE,aK,aF,aR,aZ,aU,aI,aW,zL]
 all_goals try simp only [bG]
 all_goals try rfl
theorem gF {β:Type} (a0:aB) (a1:Int) (a2:Int) (d:Nat) (bl:List (Nat × Option aY)) (fz:List (Nat × Option aY)) (k:V→Option β) (kw:V→List (Nat × Option aY)→Option β):cH TT d bl 72 [.agg a0.cells,.int .i64 a1,.int .i64 a2] fz k kw = (iK a0 a1 a2).bind fun (r:Bool)=>k (.d (.bool r)):=by
 have h:=I2 a0 a1 a2
 exact bI h (fun _=>rfl) fz
theorem FP (a0:aB) (a1:Int):Vm.call TT 108 [.agg a0.cells,.int .i64 a1] = (gQ a0 a1).map fun (r:Bool)=>.bool r:=by
 refine (bQ (show TT 108 = some (.code ⟨2,27,[.tmp 4],ZR,false⟩) from rfl) _ rfl).trans ?_
 show cP TT ZR ⟨[(0,cO a0.cells),(1,.d (.int .i64 a1))],[]⟩ _ = _
 simp -implicitDefEqProofs (decide:=true) (maxSteps:=2000000) only [ZR,gQ,↓bC,↓gF,↓DN,↓DR,DQ,DP,↓reduceIte,Int.reduceToNat,Nat.reduceBEq,Nat.reduceAdd,Nat.reduceLT,Nat.reduceLeDiff,Nat.reduceEqDiff,Int.reduceEq,ne_eq,zN,reduceCtorEq,bJ,bM,bN,zM,zA,zB,aH,zC,zD,if_true,if_false,zE,zF,aG,zG,aJ,zH,zI,zJ,zK,aQ,aP,aV,aT,aS,aD,aL,aM,aE,aK,aF,aR,aZ,aU,aI,aW,zL]
 all_goals try simp only [bG]
 all_goals try rfl
theorem F0 {β:Type} (a0:aB) (a1:Int) (d:Nat) (bl:List (Nat × Option aY)) (fz:List (Nat × Option aY)) (k:V→Option β) (kw:V→List (Nat × Option aY)→Option β):cH TT d bl 108 [.agg a0.cells,.int .i64 a1] fz k kw = (gQ a0 a1).bind fun (r:Bool)=>k (.d (.bool r)):=by
 have h:=FP a0 a1
 exact bI h (fun _=>rfl) fz
end Go.Proofs.Ytfhebiceipgdmaa
