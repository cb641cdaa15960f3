/- The functions of the small machine compute the plain definitions. Printed by a program. -/
import Derived.Test.YtfhebiceipgdmaaLnk1
set_option linter.unusedVariables false
set_option linter.unusedSimpArgs false
namespace Go.Proofs.Ytfhebiceipgdmaa
open Vm
open Go.RowKit
set_option maxRecDepth 100000
set_option maxHeartbeats 4000000
attribute [local congr] pR rP pQ rO
theorem T5 (a0:Int) (a1:Int):Vm.call TT 74 [.int .i64 a0,.int .i64 a1] = (gN a0 a1).map fun (r:Bool)=>.bool r:=by
 refine (bQ (show TT 74 = some (.code ⟨2,12,[.tmp 4],aFp,false⟩) from rfl) _ rfl).trans ?_
 show cP TT aFp ⟨[(0,.d (.int .i64 a0)),(1,.d (.int .i64 a1))],[]⟩ _ = _
 simp -implicitDefEqProofs (decide:=true) (maxSteps:=2000000) only [aFp,gN,↓DN,↓DR,DQ,DP,↓reduceIte,Int.reduceToNat,Nat.reduceBEq,Nat.reduceAdd,Nat.reduceLT,Nat.reduceLeDiff,Nat.reduceEqDiff,Int.reduceEq,ne_eq,zN,reduceCtorEq,bJ,bM,bN,zM,zA,zB,aH,zC,zD,if_true,if_false,zE,zF,aG,zG,aJ,zH,zI,zJ,zK,aQ,aP,aV,aT,aS,aD,aL,aM,aE,aK,aF,aR,aZ,aU,aI,aW,zL]
 all_goals try simp only [bG]
 all_goals try rfl
theorem gV {β:Type} (a0:Int) (a1:Int) (d:Nat) (bl:List (Nat × Option aY)) (fz:List (Nat × Option aY)) (k:V→Option β) (kw:V→List (Nat × Option aY)→Option β):cH TT d bl 74 [.int .i64 a0,.int .i64 a1] fz k kw = (gN a0 a1).bind fun (r:Bool)=>k (.d (.bool r)):=by
 have h:=T5 a0 a1
 exact bI h (fun _=>rfl) fz
theorem IK (a0:List Int) (a1:Int) (a2:Int) (p1:Int):cP TT pX ⟨[(0,.d (.sl (cM cI a0))),(1,.d (.int .i64 a1)),(2,.d (.int .i64 a2)),(9,.d (.sl (cM cI a0))),(10,.d (.int .i64 (a0.length:Int))),(11,.d (.int .i64 p1))],[]⟩ (fun e s=>some (e,s)) = cV (fun (w:Int)=>(⟨[(0,.d (.sl (cM cI a0))),(1,.d (.int .i64 a1)),(2,.d (.int .i64 a2)),(9,.d (.sl (cM cI a0))),(10,.d (.int .i64 (a0.length:Int))),(11,.d (.int .i64 w))],[]⟩ : St)) (fun (r:Unit ⊕ Unit)=>Sum.elim (fun (z:Unit)=>(((.exit 0),⟨[],[]⟩):Ex × St)) (fun (z:Unit)=>((.ret,⟨[(6,.d (.bool false))],[]⟩):Ex × St)) r) (iE a0 a1 a2 p1):=by
 simp -implicitDefEqProofs (decide:=true) (maxSteps:=2000000) only [pX,iE,↓DN,↓DR,DQ,DP,↓reduceIte,Int.reduceToNat,Nat.reduceBEq,Nat.reduceAdd,Nat.reduceLT,Nat.reduceLeDiff,Nat.reduceEqDiff,Int.reduceEq,ne_eq,zN,reduceCtorEq,bJ,bM,bN,zM,zA,zB,aH,zC,zD,if_true,if_false,zE,zF,aG,zG,aJ,zH,zI,zJ,zK,aQ,aP,aV,aT,aS,aD,aL,aM,aE,aK,aF,aR,aZ,aU,aI,aW,zL]
 all_goals try simp only [bG]
 all_goals try rfl
theorem I7 {β:Type} (a0:List Int) (a1:Int) (a2:Int) (p1:Int) (k:Ex→St→Option β):cP TT A1 ⟨[(0,.d (.sl (cM cI a0))),(1,.d (.int .i64 a1)),(2,.d (.int .i64 a2)),(9,.d (.sl (cM cI a0))),(10,.d (.int .i64 (a0.length:Int))),(11,.d (.int .i64 p1))],[]⟩ k = (sR a0 a1 a2 p1).bind (fun (r:Unit ⊕ Unit)=>Sum.elim (fun (z:Unit)=>k (.exit 0) ⟨[],[]⟩) (fun (z:Unit)=>k .ret ⟨[(6,.d (.bool false))],[]⟩) r):=by
 have hh:=fun (w:Int)=>IK a0 a1 a2 w
 have h:=fun ho=>cA (T:=TT) (k:=k) (c:=pX) (step:=(fun (w:Int)=>iE a0 a1 a2 w)) _ _ ho hh p1
 refine Eq.trans (h (fun r s e=>by have q:=congrArg Prod.fst e; rcases r with x | x <;> cases q)) ?_
 unfold sR
 exact bK _ fun x=>by rcases x with x | x <;> rfl
theorem MT (a0:List Int) (a1:Int) (a2:Int):Vm.call TT 110 [.sl (cM cI a0),.int .i64 a1,.int .i64 a2] = (iV a0 a1 a2).map fun (r:Bool)=>.bool r:=by
 refine (bQ (show TT 110 = some (.code ⟨3,38,[.tmp 6],ZO,false⟩) from rfl) _ rfl).trans ?_
 show cP TT ZO ⟨[(0,.d (.sl (cM cI a0))),(1,.d (.int .i64 a1)),(2,.d (.int .i64 a2))],[]⟩ _ = _
 simp -implicitDefEqProofs (decide:=true) (maxSteps:=2000000) only [ZO,iV,↓I7,↓DN,↓DR,DQ,DP,↓reduceIte,Int.reduceToNat,Nat.reduceBEq,Nat.reduceAdd,Nat.reduceLT,Nat.reduceLeDiff,Nat.reduceEqDiff,Int.reduceEq,ne_eq,zN,reduceCtorEq,bJ,bM,bN,zM,zA,zB,aH,zC,zD,if_true,if_false,zE,zF,aG,zG,aJ,zH,zI,zJ,zK,aQ,aP,aV,aT,aS,aD,aL,aM,aE,aK,aF,aR,aZ,aU,aI,aW,zL]
 all_goals try simp only [bG]
 all_goals try rfl
theorem qC {β:Type} (a0:List Int) (a1:Int) (a2:Int) (d:Nat) (bl:List (Nat × Option aY)) (fz:List (Nat × Option aY)) (k:V→Option β) (kw:V→List (Nat × Option aY)→Option β):cH TT d bl 110 [.sl (cM cI a0),.int .i64 a1,.int .i64 a2] fz k kw = (iV a0 a1 a2).bind fun (r:Bool)=>k (.d (.bool r)):=by
 have h:=MT a0 a1 a2
 exact bI h (fun _=>rfl) fz
theorem KN (a0:aA) (a1:bL) (p1:Int):cP TT sN ⟨[(2,.ptr 2 0),(3,.ptr 3 0),(8,.d (.sl (cM cI a1.Feasts))),(9,.d (.int .i64 (a1.Feasts.length:Int))),(10,.d (.int .i64 p1))],[(2,some (.box (aC a0.cells))),(3,some (.box (aC a1.cells)))]⟩ (fun e s=>some (e,s)) = cV (fun (w:Int)=>(⟨[(2,.ptr 2 0),(3,.ptr 3 0),(8,.d (.sl (cM cI a1.Feasts))),(9,.d (.int .i64 (a1.Feasts.length:Int))),(10,.d (.int .i64 w))],[(2,some (.box (aC a0.cells))),(3,some (.box (aC a1.cells)))]⟩ : St)) (fun (r:Unit ⊕ Unit)=>Sum.elim (fun (z:Unit)=>(((.exit 0),⟨[(2,.ptr 2 0),(3,.ptr 3 0)],[(2,some (.box (aC a0.cells))),(3,some (.box (aC a1.cells)))]⟩):Ex × St)) (fun (z:Unit)=>((.ret,⟨[(4,.d (.bool false))],[]⟩):Ex × St)) r) (lB a0 a1 p1):=by
 simp -implicitDefEqProofs (decide:=true) (maxSteps:=2000000) only [sN,lB,↓gV,↓qC,↓DN,↓DR,DQ,DP,↓reduceIte,Int.reduceToNat,Nat.reduceBEq,Nat.reduceAdd,Nat.reduceLT,Nat.reduceLeDiff,Nat.reduceEqDiff,Int.reduceEq,ne_eq,zN,reduceCtorEq,bJ,bM,bN,zM,zA,zB,aH,zC,zD,if_true,if_false,zE,zF,aG,zG,aJ,zH,zI,zJ,zK,aQ,aP,aV,aT,aS,aD,aL,aM,aE,aK,aF,aR,aZ,aU,aI,aW,zL]
 all_goals try simp only [bG]
 all_goals try rfl
theorem LH {β:Type} (a0:aA) (a1:bL) (p1:Int) (k:Ex→St→Option β):cP TT DC ⟨[(2,.ptr 2 0),(3,.ptr 3 0),(8,.d (.sl (cM cI a1.Feasts))),(9,.d (.int .i64 (a1.Feasts.length:Int))),(10,.d (.int .i64 p1))],[(2,some (.box (aC a0.cells))),(3,some (.box (aC a1.cells)))]⟩ k = (wE a0 a1 p1).bind (fun (r:Unit ⊕ Unit)=>Sum.elim (fun (z:Unit)=>k (.exit 0) ⟨[(2,.ptr 2 0),(3,.ptr 3 0)],[(2,some (.box (aC a0.cells))),(3,some (.box (aC a1.cells)))]⟩) (fun (z:Unit)=>k .ret ⟨[(4,.d (.bool false))],[]⟩) r):=by
 have hh:=fun (w:Int)=>KN a0 a1 w
 have h:=fun ho=>cA (T:=TT) (k:=k) (c:=sN) (step:=(fun (w:Int)=>lB a0 a1 w)) _ _ ho hh p1
 refine Eq.trans (h (fun r s e=>by have q:=congrArg Prod.fst e; rcases r with x | x <;> cases q)) ?_
 unfold wE
 exact bK _ fun x=>by rcases x with x | x <;> rfl
theorem PM (a0:aA) (a1:bL):Vm.call TT 95 [.agg a0.cells,.agg a1.cells] = (uX a0 a1).map fun (r:Bool)=>.bool r:=by
 refine (bQ (show TT 95 = some (.code ⟨2,64,[.tmp 4],aHH,false⟩) from rfl) _ rfl).trans ?_
 show cP TT aHH ⟨[(0,cO a0.cells),(1,cO a1.cells)],[]⟩ _ = _
 simp -implicitDefEqProofs (decide:=true) (maxSteps:=2000000) only [aHH,uX,↓LH,↓gV,↓qC,↓DN,↓DR,DQ,DP,↓reduceIte,Int.reduceToNat,Nat.reduceBEq,Nat.reduceAdd,Nat.reduceLT,Nat.reduceLeDiff,Nat.reduceEqDiff,Int.reduceEq,ne_eq,zN,reduceCtorEq,bJ,bM,bN,zM,zA,zB,aH,zC,zD,if_true,if_false,zE,zF,aG,zG,aJ,zH,zI,zJ,zK,aQ,aP,aV,aT,aS,aD,aL,aM,aE,aK,aF,aR,aZ,aU,aI,aW,zL]
 all_goals try simp only [bG]
 all_goals try rfl
theorem PE {β:Type} (a0:aA) (a1:bL) (d:Nat) (bl:List (Nat × Option aY)) (fz:List (Nat × Option aY)) (k:V→Option β) (kw:V→List (Nat × Option aY)→Option β):cH TT d bl 95 [.agg a0.cells,.agg a1.cells] fz k kw = (uX a0 a1).bind fun (r:Bool)=>k (.d (.bool r)):=by
 have h:=PM a0 a1
 exact bI h (fun _=>rfl) fz
theorem HT (a0:Int) (a1:aA):Vm.call TT 94 [.int .i64 a0,.ptr a1.cells 0] = (mO a0 a1).map fun (r:Bool)=>.bool r:=by
 refine (bQ (show TT 94 = some (.code ⟨2,11,[.tmp 3],aFG,false⟩) from rfl) _ rfl).trans ?_
 show cP TT aFG ⟨[(0,.d (.int .i64 a0)),(1,.d (.ptr a1.cells 0))],[]⟩ _ = _
 simp -implicitDefEqProofs (decide:=true) (maxSteps:=2000000) only [aFG,mO,↓PE,↓DN,↓DR,DQ,DP,↓reduceIte,Int.reduceToNat,Nat.reduceBEq,Nat.reduceAdd,Nat.reduceLT,Nat.reduceLeDiff,Nat.reduceEqDiff,Int.reduceEq,ne_eq,zN,reduceCtorEq,bJ,bM,bN,zM,zA,zB,aH,zC,zD,if_true,if_false,zE,zF,aG,zG,aJ,zH,zI,zJ,zK,aQ,aP,aV,aT,aS,aD,aL,aM,aE,aK,aF,aR,aZ,aU,aI,aW,zL]
 all_goals try simp only [bG]
 all_goals try rfl
theorem yS {β:Type} (a0:Int) (a1:aA) (d:Nat) (bl:List (Nat × Option aY)) (fz:List (Nat × Option aY)) (k:V→Option β) (kw:V→List (Nat × Option aY)→Option β):cH TT d bl 94 [.int .i64 a0,.ptr a1.cells 0] fz k kw = (mO a0 a1).bind fun (r:Bool)=>k (.d (.bool r)):=by
 have h:=HT a0 a1
 exact bI h (fun _=>rfl) fz
theorem HU (a0:List ByteArray) (a2:aA) (p1:Int):cP TT dS ⟨[(0,.d (.sl (cM cS a0))),(2,.d (.fn 94 [.ptr a2.cells 0])),(14,.d (.int .i64 (a0.length:Int))),(15,.d (.int .i64 p1))],[]⟩ (fun e s=>some (e,s)) = cV (fun (w:Int)=>(⟨[(0,.d (.sl (cM cS a0))),(2,.d (.fn 94 [.ptr a2.cells 0])),(14,.d (.int .i64 (a0.length:Int))),(15,.d (.int .i64 w))],[]⟩ : St)) (fun (r:Unit ⊕ Int)=>Sum.elim (fun (z:Unit)=>(((.exit 0),⟨[],[]⟩):Ex × St)) (fun (z:Int)=>((.ret,⟨[(6,.d (.int .i64 z))],[]⟩):Ex × St)) r) (mX a0 a2 p1):=by
 simp -implicitDefEqProofs (decide:=true) (maxSteps:=2000000) only [dS,mX,↓yS,↓lY,↓DN,↓DR,DQ,DP,↓reduceIte,Int.reduceToNat,Nat.reduceBEq,Nat.reduceAdd,Nat.reduceLT,Nat.reduceLeDiff,Nat.reduceEqDiff,Int.reduceEq,ne_eq,zN,reduceCtorEq,bJ,bM,bN,zM,zA,zB,aH,zC,zD,if_true,if_false,zE,zF,aG,zG,aJ,zH,zI,zJ,zK,aQ,aP,aV,aT,aS,aD,aL,aM,aE,aK,aF,aR,aZ,aU,aI,aW,zL]
 all_goals try simp only [bG]
 all_goals try rfl
theorem H4 {β:Type} (a0:List ByteArray) (a2:aA) (p1:Int) (k:Ex→St→Option β):cP TT pD ⟨[(0,.d (.sl (cM cS a0))),(2,.d (.fn 94 [.ptr a2.cells 0])),(14,.d (.int .i64 (a0.length:Int))),(15,.d (.int .i64 p1))],[]⟩ k = (vR a0 a2 p1).bind (fun (r:Unit ⊕ Int)=>Sum.elim (fun (z:Unit)=>k (.exit 0) ⟨[],[]⟩) (fun (z:Int)=>k .ret ⟨[(6,.d (.int .i64 z))],[]⟩) r):=by
 have hh:=fun (w:Int)=>HU a0 a2 w
 have h:=fun ho=>cA (T:=TT) (k:=k) (c:=dS) (step:=(fun (w:Int)=>mX a0 a2 w)) _ _ ho hh p1
 refine Eq.trans (h (fun r s e=>by have q:=congrArg Prod.fst e; rcases r with x | x <;> cases q)) ?_
 unfold vR
 exact bK _ fun x=>by rcases x with x | x <;> rfl
theorem KO (a0:List ByteArray) (a1:Int) (a2:aA):Vm.call TT 92 [.sl (cM cS a0),.int .i64 a1,.fn 94 [.ptr a2.cells 0]] = (o4 a0 a1 a2).map fun (r:Int)=>.int .i64 r:=by
 refine (bQ (show TT 92 = some (.code ⟨3,29,[.tmp 6],K3,false⟩) from rfl) _ rfl).trans ?_
 show cP TT K3 ⟨[(0,.d (.sl (cM cS a0))),(1,.d (.int .i64 a1)),(2,.d (.fn 94 [.ptr a2.cells 0]))],[]⟩ _ = _
 simp -implicitDefEqProofs (decide:=true) (maxSteps:=2000000) only [K3,o4,↓H4,↓yS,↓lY,↓DN,↓DR,DQ,DP,↓reduceIte,Int.reduceToNat,Nat.reduceBEq,Nat.reduceAdd,Nat.reduceLT,Nat.reduceLeDiff,Nat.reduceEqDiff,Int.reduceEq,ne_eq,zN,reduceCtorEq,bJ,bM,bN,zM,zA,zB,aH,zC,zD,if_true,if_false,zE,zF,aG,zG,aJ,zH,zI,zJ,zK,aQ,aP,aV,aT,aS,aD,aL,aM,aE,aK,aF,aR,aZ,aU,aI,aW,zL]
 all_goals try simp only [bG]
 all_goals try rfl
theorem DB {β:Type} (a0:List ByteArray) (a1:Int) (a2:aA) (d:Nat) (bl:List (Nat × Option aY)) (fz:List (Nat × Option aY)) (k:V→Option β) (kw:V→List (Nat × Option aY)→Option β):cH TT d bl 92 [.sl (cM cS a0),.int .i64 a1,.fn 94 [.ptr a2.cells 0]] fz k kw = (o4 a0 a1 a2).bind fun (r:Int)=>k (.d (.int .i64 r)):=by
 have h:=KO a0 a1 a2
 exact bI h (fun _=>rfl) fz
theorem HY (a0:Int) (a1:aA):Vm.call TT 96 [.int .i64 a0,.ptr a1.cells 0] = (mC a0 a1).map fun (r:Bool)=>.bool r:=by
 refine (bQ (show TT 96 = some (.code ⟨2,26,[.tmp 3],aHZ,false⟩) from rfl) _ rfl).trans ?_
 show cP TT aHZ ⟨[(0,.d (.int .i64 a0)),(1,.d (.ptr a1.cells 0))],[]⟩ _ = _
 simp -implicitDefEqProofs (decide:=true) (maxSteps:=2000000) only [aHZ,mC,↓gV,↓DN,↓DR,DQ,DP,↓reduceIte,Int.reduceToNat,Nat.reduceBEq,Nat.reduceAdd,Nat.reduceLT,Nat.reduceLeDiff,Nat.reduceEqDiff,Int.reduceEq,ne_eq,zN,reduceCtorEq,bJ,bM,bN,zM,zA,zB,aH,zC,zD,if_true,if_false,zE,zF,aG,zG,aJ,zH,zI,zJ,zK,aQ,aP,aV,aT,aS,aD,aL,aM,aE,aK,aF,aR,aZ,aU,aI,aW,zL]
 all_goals try simp only [bG]
 all_goals try rfl
theorem yQ {β:Type} (a0:Int) (a1:aA) (d:Nat) (bl:List (Nat × Option aY)) (fz:List (Nat × Option aY)) (k:V→Option β) (kw:V→List (Nat × Option aY)→Option β):cH TT d bl 96 [.int .i64 a0,.ptr a1.cells 0] fz k kw = (mC a0 a1).bind fun (r:Bool)=>k (.d (.bool r)):=by
 have h:=HY a0 a1
 exact bI h (fun _=>rfl) fz
theorem HN (a0:List ByteArray) (a2:aA) (p1:Int):cP TT dS ⟨[(0,.d (.sl (cM cS a0))),(2,.d (.fn 96 [.ptr a2.cells 0])),(14,.d (.int .i64 (a0.length:Int))),(15,.d (.int .i64 p1))],[]⟩ (fun e s=>some (e,s)) = cV (fun (w:Int)=>(⟨[(0,.d (.sl (cM cS a0))),(2,.d (.fn 96 [.ptr a2.cells 0])),(14,.d (.int .i64 (a0.length:Int))),(15,.d (.int .i64 w))],[]⟩ : St)) (fun (r:Unit ⊕ Int)=>Sum.elim (fun (z:Unit)=>(((.exit 0),⟨[],[]⟩):Ex × St)) (fun (z:Int)=>((.ret,⟨[(6,.d (.int .i64 z))],[]⟩):Ex × St)) r) (mZ a0 a2 p1):=by
 simp -implicitDefEqProofs (decide:=true) (maxSteps:=2000000) only [dS,mZ,↓yQ,↓lY,↓DN,↓DR,DQ,DP,↓reduceIte,Int.reduceToNat,Nat.reduceBEq,Nat.reduceAdd,Nat.reduceLT,Nat.reduceLeDiff,Nat.reduceEqDiff,Int.reduceEq,ne_eq,zN,reduceCtorEq,bJ,bM,bN,zM,zA,zB,aH,zC,zD,if_true,if_false,zE,zF,aG,zG,aJ,zH,zI,zJ,zK,aQ,aP,aV,aT,aS,aD,aL,aM,aE,aK,aF,aR,aZ,aU,aI,aW,zL]
 all_goals try simp only [bG]
 all_goals try rfl
theorem HJ {β:Type} (a0:List ByteArray) (a2:aA) (p1:Int) (k:Ex→St→Option β):cP TT pD ⟨[(0,.d (.sl (cM cS a0))),(2,.d (.fn 96 [.ptr a2.cells 0])),(14,.d (.int .i64 (a0.length:Int))),(15,.d (.int .i64 p1))],[]⟩ k = (vW a0 a2 p1).bind (fun (r:Unit ⊕ Int)=>Sum.elim (fun (z:Unit)=>k (.exit 0) ⟨[],[]⟩) (fun (z:Int)=>k .ret ⟨[(6,.d (.int .i64 z))],[]⟩) r):=by
 have hh:=fun (w:Int)=>HN a0 a2 w
 have h:=fun ho=>cA (T:=TT) (k:=k) (c:=dS) (step:=(fun (w:Int)=>mZ a0 a2 w)) _ _ ho hh p1
 refine Eq.trans (h (fun r s e=>by have q:=congrArg Prod.fst e; rcases r with x | x <;> cases q)) ?_
 unfold vW
 exact bK _ fun x=>by rcases x with x | x <;> rfl
theorem K1 (a0:List ByteArray) (a1:Int) (a2:aA):Vm.call TT 92 [.sl (cM cS a0),.int .i64 a1,.fn 96 [.ptr a2.cells 0]] = (pG a0 a1 a2).map fun (r:Int)=>.int .i64 r:=by
 refine (bQ (show TT 92 = some (.code ⟨3,29,[.tmp 6],K3,false⟩) from rfl) _ rfl).trans ?_
 show cP TT K3 ⟨[(0,.d (.sl (cM cS a0))),(1,.d (.int .i64 a1)),(2,.d (.fn 96 [.ptr a2.cells 0]))],[]⟩ _ = _
 simp -implicitDefEqProofs (decide:=true) (maxSteps:=2000000) only [K3,pG,↓HJ,↓yQ,↓lY,↓DN,↓DR,DQ,DP,↓reduceIte,Int.reduceToNat,Nat.reduceBEq,Nat.reduceAdd,Nat.reduceLT,Nat.reduceLeDiff,Nat.reduceEqDiff,Int.reduceEq,ne_eq,zN,reduceCtorEq,bJ,bM,bN,zM,zA,zB,aH,zC,zD,if_true,if_false,zE,zF,aG,zG,aJ,zH,zI,zJ,zK,aQ,aP,aV,aT,aS,aD,aL,aM,aE,aK,aF,aR,aZ,aU,aI,aW,zL]
 all_goals try simp only [bG]
 all_goals try rfl
theorem DX {β:Type} (a0:List ByteArray) (a1:Int) (a2:aA) (d:Nat) (bl:List (Nat × Option aY)) (fz:List (Nat × Option aY)) (k:V→Option β) (kw:V→List (Nat × Option aY)→Option β):cH TT d bl 92 [.sl (cM cS a0),.int .i64 a1,.fn 96 [.ptr a2.cells 0]] fz k kw = (pG a0 a1 a2).bind fun (r:Int)=>k (.d (.int .i64 r)):=by
 have h:=K1 a0 a1 a2
 exact bI h (fun _=>rfl) fz
theorem JJ (a0:bD) (p1:Int) (p2:List Int):cP TT rA ⟨[(1,.ptr 1 0),(3,.own 20 0),(4,.nil),(10,.d (.sl (cM bH.cells a0.Choices))),(11,.d (.int .i64 (a0.Choices.length:Int))),(12,.d (.int .i64 p1))],[(1,some (.box (aC a0.cells))),(20,some (.rows 0 3 1 (cM cI p2)))]⟩ (fun e s=>some (e,s)) = cV (fun (w:Int × (List Int))=>(⟨[(1,.ptr 1 0),(3,.own 20 0),(4,.nil),(10,.d (.sl (cM bH.cells a0.Choices))),(11,.d (.int .i64 (a0.Choices.length:Int))),(12,.d (.int .i64 w.1))],[(1,some (.box (aC a0.cells))),(20,some (.rows 0 3 1 (cM cI w.2)))]⟩ : St)) (fun (r:((List Int)) ⊕ Unit)=>Sum.elim (fun (z:(List Int))=>(((.exit 0),⟨[(1,.ptr 1 0),(3,.own 20 0),(4,.nil)],[(1,some (.box (aC a0.cells))),(20,some (.rows 0 3 1 (cM cI z)))]⟩):Ex × St)) (fun (z:Unit)=>((.ret,⟨[(2,.d (.bool false))],[]⟩):Ex × St)) r) (jZ a0 p1 p2):=by
 simp -implicitDefEqProofs (decide:=true) (maxSteps:=2000000) only [rA,jZ,↓gV,↓qC,↓DN,↓DR,DQ,DP,↓reduceIte,Int.reduceToNat,Nat.reduceBEq,Nat.reduceAdd,Nat.reduceLT,Nat.reduceLeDiff,Nat.reduceEqDiff,Int.reduceEq,ne_eq,zN,reduceCtorEq,bJ,bM,bN,zM,zA,zB,aH,zC,zD,if_true,if_false,zE,zF,aG,zG,aJ,zH,zI,zJ,zK,aQ,aP,aV,aT,aS,aD,aL,aM,aE,aK,aF,aR,aZ,aU,aI,aW,zL]
 all_goals try simp only [bG]
 all_goals try rfl
theorem BT {β:Type} (a0:bD) (p1:Int) (p2:List Int) (k:Ex→St→Option β):cP TT B6 ⟨[(1,.ptr 1 0),(3,.own 20 0),(4,.nil),(10,.d (.sl (cM bH.cells a0.Choices))),(11,.d (.int .i64 (a0.Choices.length:Int))),(12,.d (.int .i64 p1))],[(1,some (.box (aC a0.cells))),(20,some (.rows 0 3 1 (cM cI p2)))]⟩ k = (uC a0 p1 p2).bind (fun (r:((List Int)) ⊕ Unit)=>Sum.elim (fun (z:(List Int))=>k (.exit 0) ⟨[(1,.ptr 1 0),(3,.own 20 0),(4,.nil)],[(1,some (.box (aC a0.cells))),(20,some (.rows 0 3 1 (cM cI z)))]⟩) (fun (z:Unit)=>k .ret ⟨[(2,.d (.bool false))],[]⟩) r):=by
 have hh:=fun (w:Int × (List Int))=>JJ a0 w.1 w.2
 have h:=fun ho=>cA (T:=TT) (k:=k) (c:=rA) (step:=(fun (w:Int × (List Int))=>jZ a0 w.1 w.2)) _ _ ho hh (p1,p2)
 refine Eq.trans (h (fun r s e=>by have q:=congrArg Prod.fst e; rcases r with x | x <;> cases q)) ?_
 unfold uC
 exact bK _ fun x=>by rcases x with x | x <;> rfl
theorem J9 (a0:bD) (z7:(List Int)) (p9:Int) (p10:List Int):cP TT qW ⟨[(3,.own 20 0),(4,.own 37 0),(27,.d (.sl (cM bW.cells a0.Rules))),(28,.d (.int .i64 (a0.Rules.length:Int))),(29,.d (.int .i64 p9))],[(20,some (.rows 0 3 1 (cM cI z7))),(37,some (.rows 0 3 1 (cM cI p10)))]⟩ (fun e s=>some (e,s)) = cV (fun (w:Int × (List Int))=>(⟨[(3,.own 20 0),(4,.own 37 0),(27,.d (.sl (cM bW.cells a0.Rules))),(28,.d (.int .i64 (a0.Rules.length:Int))),(29,.d (.int .i64 w.1))],[(20,some (.rows 0 3 1 (cM cI z7))),(37,some (.rows 0 3 1 (cM cI w.2)))]⟩ : St)) (fun (r:(List Int))=>(((.exit 2),⟨[(3,.own 20 0),(4,.own 37 0)],[(20,some (.rows 0 3 1 (cM cI z7))),(37,some (.rows 0 3 1 (cM cI r)))]⟩):Ex × St)) (jX a0 z7 p9 p10):=by
 simp -implicitDefEqProofs (decide:=true) (maxSteps:=2000000) only [qW,jX,↓BT,↓gV,↓qC,↓DN,↓DR,DQ,DP,↓reduceIte,Int.reduceToNat,Nat.reduceBEq,Nat.reduceAdd,Nat.reduceLT,Nat.reduceLeDiff,Nat.reduceEqDiff,Int.reduceEq,ne_eq,zN,reduceCtorEq,bJ,bM,bN,zM,zA,zB,aH,zC,zD,if_true,if_false,zE,zF,aG,zG,aJ,zH,zI,zJ,zK,aQ,aP,aV,aT,aS,aD,aL,aM,aE,aK,aF,aR,aZ,aU,aI,aW,zL]
 all_goals try simp only [bG]
 all_goals try rfl
theorem KA {β:Type} (a0:bD) (z7:(List Int)) (p9:Int) (p10:List Int) (k:Ex→St→Option β):cP TT B8 ⟨[(3,.own 20 0),(4,.own 37 0),(27,.d (.sl (cM bW.cells a0.Rules))),(28,.d (.int .i64 (a0.Rules.length:Int))),(29,.d (.int .i64 p9))],[(20,some (.rows 0 3 1 (cM cI z7))),(37,some (.rows 0 3 1 (cM cI p10)))]⟩ k = (uE a0 z7 p9 p10).bind (fun (r:(List Int))=>k (.exit 2) ⟨[(3,.own 20 0),(4,.own 37 0)],[(20,some (.rows 0 3 1 (cM cI z7))),(37,some (.rows 0 3 1 (cM cI r)))]⟩):=by
 have hh:=fun (w:Int × (List Int))=>J9 a0 z7 w.1 w.2
 have h:=fun ho=>cA (T:=TT) (k:=k) (c:=qW) (step:=(fun (w:Int × (List Int))=>jX a0 z7 w.1 w.2)) _ _ ho hh (p9,p10)
 refine Eq.trans (h (fun r s e=>by have q:=congrArg Prod.fst e; rcases r with x <;> cases q)) ?_
 unfold uE
 exact bK _ fun x=>by rcases x with x <;> rfl
theorem OJ (a0:bD):Vm.call TT 98 [.agg a0.cells] = (sD a0).map fun (r:Bool)=>.bool r:=by
 refine (bQ (show TT 98 = some (.code ⟨1,45,[.tmp 2],aHj,false⟩) from rfl) _ rfl).trans ?_
 show cP TT aHj ⟨[(0,cO a0.cells)],[]⟩ _ = _
 simp -implicitDefEqProofs (decide:=true) (maxSteps:=2000000) only [aHj,sD,↓BT,↓KA,↓gV,↓qC,↓DN,↓DR,DQ,DP,↓reduceIte,Int.reduceToNat,Nat.reduceBEq,Nat.reduceAdd,Nat.reduceLT,Nat.reduceLeDiff,Nat.reduceEqDiff,Int.reduceEq,ne_eq,zN,reduceCtorEq,bJ,bM,bN,zM,zA,zB,aH,zC,zD,if_true,if_false,zE,zF,aG,zG,aJ,zH,zI,zJ,zK,aQ,aP,aV,aT,aS,aD,aL,aM,aE,aK,aF,aR,aZ,aU,aI,aW,zL]
 all_goals try simp only [bG]
 all_goals try rfl
theorem M8 {β:Type} (a0:bD) (d:Nat) (bl:List (Nat × Option aY)) (fz:List (Nat × Option aY)) (k:V→Option β) (kw:V→List (Nat × Option aY)→Option β):cH TT d bl 98 [.agg a0.cells] fz k kw = (sD a0).bind fun (r:Bool)=>k (.d (.bool r)):=by
 have h:=OJ a0
 exact bI h (fun _=>rfl) fz
theorem HO (a0:Int) (a1:aA):Vm.call TT 97 [.int .i64 a0,.ptr a1.cells 0] = (mJ a0 a1).map fun (r:Bool)=>.bool r:=by
 refine (bQ (show TT 97 = some (.code ⟨2,10,[.tmp 3],aId,false⟩) from rfl) _ rfl).trans ?_
 show cP TT aId ⟨[(0,.d (.int .i64 a0)),(1,.d (.ptr a1.cells 0))],[]⟩ _ = _
 simp -implicitDefEqProofs (decide:=true) (maxSteps:=2000000) only [aId,mJ,↓M8,↓DN,↓DR,DQ,DP,↓reduceIte,Int.reduceToNat,Nat.reduceBEq,Nat.reduceAdd,Nat.reduceLT,Nat.reduceLeDiff,Nat.reduceEqDiff,Int.reduceEq,ne_eq,zN,reduceCtorEq,bJ,bM,bN,zM,zA,zB,aH,zC,zD,if_true,if_false,zE,zF,aG,zG,aJ,zH,zI,zJ,zK,aQ,aP,aV,aT,aS,aD,aL,aM,aE,aK,aF,aR,aZ,aU,aI,aW,zL]
 all_goals try simp only [bG]
 all_goals try rfl
theorem yW {β:Type} (a0:Int) (a1:aA) (d:Nat) (bl:List (Nat × Option aY)) (fz:List (Nat × Option aY)) (k:V→Option β) (kw:V→List (Nat × Option aY)→Option β):cH TT d bl 97 [.int .i64 a0,.ptr a1.cells 0] fz k kw = (mJ a0 a1).bind fun (r:Bool)=>k (.d (.bool r)):=by
 have h:=HO a0 a1
 exact bI h (fun _=>rfl) fz
theorem HI (a0:List ByteArray) (a2:aA) (p1:Int):cP TT dS ⟨[(0,.d (.sl (cM cS a0))),(2,.d (.fn 97 [.ptr a2.cells 0])),(14,.d (.int .i64 (a0.length:Int))),(15,.d (.int .i64 p1))],[]⟩ (fun e s=>some (e,s)) = cV (fun (w:Int)=>(⟨[(0,.d (.sl (cM cS a0))),(2,.d (.fn 97 [.ptr a2.cells 0])),(14,.d (.int .i64 (a0.length:Int))),(15,.d (.int .i64 w))],[]⟩ : St)) (fun (r:Unit ⊕ Int)=>Sum.elim (fun (z:Unit)=>(((.exit 0),⟨[],[]⟩):Ex × St)) (fun (z:Int)=>((.ret,⟨[(6,.d (.int .i64 z))],[]⟩):Ex × St)) r) (mW a0 a2 p1):=by
 simp -implicitDefEqProofs (decide:=true) (maxSteps:=2000000) only [dS,mW,↓yW,↓lY,↓DN,↓DR,DQ,DP,↓reduceIte,Int.reduceToNat,Nat.reduceBEq,Nat.reduceAdd,Nat.reduceLT,Nat.reduceLeDiff,Nat.reduceEqDiff,Int.reduceEq,ne_eq,zN,reduceCtorEq,bJ,bM,bN,zM,zA,zB,aH,zC,zD,if_true,if_false,zE,zF,aG,zG,aJ,zH,zI,zJ,zK,aQ,aP,aV,aT,aS,aD,aL,aM,aE,aK,aF,aR,aZ,aU,aI,aW,zL]
 all_goals try simp only [bG]
 all_goals try rfl
theorem HZ {β:Type} (a0:List ByteArray) (a2:aA) (p1:Int) (k:Ex→St→Option β):cP TT pD ⟨[(0,.d (.sl (cM cS a0))),(2,.d (.fn 97 [.ptr a2.cells 0])),(14,.d (.int .i64 (a0.length:Int))),(15,.d (.int .i64 p1))],[]⟩ k = (vU a0 a2 p1).bind (fun (r:Unit ⊕ Int)=>Sum.elim (fun (z:Unit)=>k (.exit 0) ⟨[],[]⟩) (fun (z:Int)=>k .ret ⟨[(6,.d (.int .i64 z))],[]⟩) r):=by
 have hh:=fun (w:Int)=>HI a0 a2 w
 have h:=fun ho=>cA (T:=TT) (k:=k) (c:=dS) (step:=(fun (w:Int)=>mW a0 a2 w)) _ _ ho hh p1
 refine Eq.trans (h (fun r s e=>by have q:=congrArg Prod.fst e; rcases r with x | x <;> cases q)) ?_
 unfold vU
 exact bK _ fun x=>by rcases x with x | x <;> rfl
theorem LP (a0:List ByteArray) (a1:Int) (a2:aA):Vm.call TT 92 [.sl (cM cS a0),.int .i64 a1,.fn 97 [.ptr a2.cells 0]] = (o0 a0 a1 a2).map fun (r:Int)=>.int .i64 r:=by
 refine (bQ (show TT 92 = some (.code ⟨3,29,[.tmp 6],K3,false⟩) from rfl) _ rfl).trans ?_
 show cP TT K3 ⟨[(0,.d (.sl (cM cS a0))),(1,.d (.int .i64 a1)),(2,.d (.fn 97 [.ptr a2.cells 0]))],[]⟩ _ = _
 simp -implicitDefEqProofs (decide:=true) (maxSteps:=2000000) only [K3,o0,↓HZ,↓yW,↓lY,↓DN,↓DR,DQ,DP,↓reduceIte,Int.reduceToNat,Nat.reduceBEq,Nat.reduceAdd,Nat.reduceLT,Nat.reduceLeDiff,Nat.reduceEqDiff,Int.reduceEq,ne_eq,zN,reduceCtorEq,bJ,bM,bN,zM,zA,zB,aH,zC,zD,if_true,if_false,zE,zF,aG,zG,aJ,zH,zI,zJ,zK,aQ,aP,aV,aT,aS,aD,aL,aM,aE,aK,aF,aR,aZ,aU,aI,aW,zL]
 all_goals try simp only [bG]
 all_goals try rfl
theorem DW {β:Type} (a0:List ByteArray) (a1:Int) (a2:aA) (d:Nat) (bl:List (Nat × Option aY)) (fz:List (Nat × Option aY)) (k:V→Option β) (kw:V→List (Nat × Option aY)→Option β):cH TT d bl 92 [.sl (cM cS a0),.int .i64 a1,.fn 97 [.ptr a2.cells 0]] fz k kw = (o0 a0 a1 a2).bind fun (r:Int)=>k (.d (.int .i64 r)):=by
 have h:=LP a0 a1 a2
 exact bI h (fun _=>rfl) fz
theorem HV (a0:aA) (p1:Int) (x2:bA) (p5:Int):cP TT oU ⟨[(1,.ptr 1 0),(4,.ptr 4 0),(12,.d (.sl (cM bA.cells a0.Usances))),(13,.d (.int .i64 (a0.Usances.length:Int))),(14,.d (.int .i64 p1)),(48,.d (.sl (cM bA.cells (dX a0.Usances 0 p1)))),(49,.d (.int .i64 ((dX a0.Usances 0 p1).length:Int))),(50,.d (.int .i64 p5))],[(1,some (.box (aC a0.cells))),(4,some (.box (aC x2.cells)))]⟩ (fun e s=>some (e,s)) = cV (fun (w:Int)=>(⟨[(1,.ptr 1 0),(4,.ptr 4 0),(12,.d (.sl (cM bA.cells a0.Usances))),(13,.d (.int .i64 (a0.Usances.length:Int))),(14,.d (.int .i64 p1)),(48,.d (.sl (cM bA.cells (dX a0.Usances 0 p1)))),(49,.d (.int .i64 ((dX a0.Usances 0 p1).length:Int))),(50,.d (.int .i64 w))],[(1,some (.box (aC a0.cells))),(4,some (.box (aC x2.cells)))]⟩ : St)) (fun (r:Unit ⊕ Unit)=>Sum.elim (fun (z:Unit)=>(((.exit 2),⟨[(1,.ptr 1 0),(12,.d (.sl (cM bA.cells a0.Usances))),(13,.d (.int .i64 (a0.Usances.length:Int))),(14,.d (.int .i64 p1))],[(1,some (.box (aC a0.cells)))]⟩):Ex × St)) (fun (z:Unit)=>((.ret,⟨[(2,.d (.int .i64 5))],[]⟩):Ex × St)) r) (gP a0 p1 x2 p5):=by
 simp -implicitDefEqProofs (decide:=true) (maxSteps:=2000000) only [oU,gP,↓gV,↓DN,↓DR,DQ,DP,↓reduceIte,Int.reduceToNat,Nat.reduceBEq,Nat.reduceAdd,Nat.reduceLT,Nat.reduceLeDiff,Nat.reduceEqDiff,Int.reduceEq,ne_eq,zN,reduceCtorEq,bJ,bM,bN,zM,zA,zB,aH,zC,zD,if_true,if_false,zE,zF,aG,zG,aJ,zH,zI,zJ,zK,aQ,aP,aV,aT,aS,aD,aL,aM,aE,aK,aF,aR,aZ,aU,aI,aW,zL]
 all_goals try simp only [bG]
 all_goals try rfl
theorem yR {β:Type} (a0:aA) (p1:Int) (x2:bA) (p5:Int) (k:Ex→St→Option β):cP TT yT ⟨[(1,.ptr 1 0),(4,.ptr 4 0),(12,.d (.sl (cM bA.cells a0.Usances))),(13,.d (.int .i64 (a0.Usances.length:Int))),(14,.d (.int .i64 p1)),(48,.d (.sl (cM bA.cells (dX a0.Usances 0 p1)))),(49,.d (.int .i64 ((dX a0.Usances 0 p1).length:Int))),(50,.d (.int .i64 p5))],[(1,some (.box (aC a0.cells))),(4,some (.box (aC x2.cells)))]⟩ k = (qX a0 p1 x2 p5).bind (fun (r:Unit ⊕ Unit)=>Sum.elim (fun (z:Unit)=>k (.exit 2) ⟨[(1,.ptr 1 0),(12,.d (.sl (cM bA.cells a0.Usances))),(13,.d (.int .i64 (a0.Usances.length:Int))),(14,.d (.int .i64 p1))],[(1,some (.box (aC a0.cells)))]⟩) (fun (z:Unit)=>k .ret ⟨[(2,.d (.int .i64 5))],[]⟩) r):=by
 have hh:=fun (w:Int)=>HV a0 p1 x2 w
 have h:=fun ho=>cA (T:=TT) (k:=k) (c:=oU) (step:=(fun (w:Int)=>gP a0 p1 x2 w)) _ _ ho hh p5
 refine Eq.trans (h (fun r s e=>by have q:=congrArg Prod.fst e; rcases r with x | x <;> cases q)) ?_
 unfold qX
 exact bK _ fun x=>by rcases x with x | x <;> rfl
theorem HX (a0:aA) (p1:Int):cP TT oY ⟨[(1,.ptr 1 0),(12,.d (.sl (cM bA.cells a0.Usances))),(13,.d (.int .i64 (a0.Usances.length:Int))),(14,.d (.int .i64 p1))],[(1,some (.box (aC a0.cells)))]⟩ (fun e s=>some (e,s)) = cV (fun (w:Int)=>(⟨[(1,.ptr 1 0),(12,.d (.sl (cM bA.cells a0.Usances))),(13,.d (.int .i64 (a0.Usances.length:Int))),(14,.d (.int .i64 w))],[(1,some (.box (aC a0.cells)))]⟩ : St)) (fun (r:Unit ⊕ Int)=>Sum.elim (fun (z:Unit)=>(((.exit 0),⟨[],[]⟩):Ex × St)) (fun (z:Int)=>((.ret,⟨[(2,.d (.int .i64 z))],[]⟩):Ex × St)) r) (gU a0 p1):=by
 simp -implicitDefEqProofs (decide:=true) (maxSteps:=2000000) only [oY,gU,↓yR,↓gV,↓DN,↓DR,DQ,DP,↓reduceIte,Int.reduceToNat,Nat.reduceBEq,Nat.reduceAdd,Nat.reduceLT,Nat.reduceLeDiff,Nat.reduceEqDiff,Int.reduceEq,ne_eq,zN,reduceCtorEq,bJ,bM,bN,zM,zA,zB,aH,zC,zD,if_true,if_false,zE,zF,aG,zG,aJ,zH,zI,zJ,zK,aQ,aP,aV,aT,aS,aD,aL,aM,aE,aK,aF,aR,aZ,aU,aI,aW,zL]
 all_goals try simp only [bG]
 all_goals try rfl
theorem HP {β:Type} (a0:aA) (p1:Int) (k:Ex→St→Option β):cP TT yP ⟨[(1,.ptr 1 0),(12,.d (.sl (cM bA.cells a0.Usances))),(13,.d (.int .i64 (a0.Usances.length:Int))),(14,.d (.int .i64 p1))],[(1,some (.box (aC a0.cells)))]⟩ k = (vO a0 p1).bind (fun (r:Unit ⊕ Int)=>Sum.elim (fun (z:Unit)=>k (.exit 0) ⟨[],[]⟩) (fun (z:Int)=>k .ret ⟨[(2,.d (.int .i64 z))],[]⟩) r):=by
 have hh:=fun (w:Int)=>HX a0 w
 have h:=fun ho=>cA (T:=TT) (k:=k) (c:=oY) (step:=(fun (w:Int)=>gU a0 w)) _ _ ho hh p1
 refine Eq.trans (h (fun r s e=>by have q:=congrArg Prod.fst e; rcases r with x | x <;> cases q)) ?_
 unfold vO
 exact bK _ fun x=>by rcases x with x | x <;> rfl
theorem LQ (a0:aA):Vm.call TT 99 [.agg a0.cells] = (pA a0).map fun (r:Int)=>.int .i64 r:=by
 refine (bQ (show TT 99 = some (.code ⟨1,68,[.tmp 2],aIt,false⟩) from rfl) _ rfl).trans ?_
 show cP TT aIt ⟨[(0,cO a0.cells)],[]⟩ _ = _
 simp -implicitDefEqProofs (decide:=true) (maxSteps:=2000000) only [aIt,pA,↓yR,↓HP,↓gV,↓DN,↓DR,DQ,DP,↓reduceIte,Int.reduceToNat,Nat.reduceBEq,Nat.reduceAdd,Nat.reduceLT,Nat.reduceLeDiff,Nat.reduceEqDiff,Int.reduceEq,ne_eq,zN,reduceCtorEq,bJ,bM,bN,zM,zA,zB,aH,zC,zD,if_true,if_false,zE,zF,aG,zG,aJ,zH,zI,zJ,zK,aQ,aP,aV,aT,aS,aD,aL,aM,aE,aK,aF,aR,aZ,aU,aI,aW,zL]
 all_goals try simp only [bG]
 all_goals try rfl
theorem EJ {β:Type} (a0:aA) (d:Nat) (bl:List (Nat × Option aY)) (fz:List (Nat × Option aY)) (k:V→Option β) (kw:V→List (Nat × Option aY)→Option β):cH TT d bl 99 [.agg a0.cells] fz k kw = (pA a0).bind fun (r:Int)=>k (.d (.int .i64 r)):=by
 have h:=LQ a0
 exact bI h (fun _=>rfl) fz
theorem LC (a0:aA) (p1:Int):cP TT sP ⟨[(1,.ptr 1 0),(12,.d (.sl (cM bX.cells a0.Rates))),(13,.d (.int .i64 (a0.Rates.length:Int))),(14,.d (.int .i64 p1))],[(1,some (.box (aC a0.cells)))]⟩ (fun e s=>some (e,s)) = cV (fun (w:Int)=>(⟨[(1,.ptr 1 0),(12,.d (.sl (cM bX.cells a0.Rates))),(13,.d (.int .i64 (a0.Rates.length:Int))),(14,.d (.int .i64 w))],[(1,some (.box (aC a0.cells)))]⟩ : St)) (fun (r:Unit ⊕ Unit)=>Sum.elim (fun (z:Unit)=>(((.exit 0),⟨[(1,.ptr 1 0)],[(1,some (.box (aC a0.cells)))]⟩):Ex × St)) (fun (z:Unit)=>((.ret,⟨[(2,.d (.int .i64 1))],[]⟩):Ex × St)) r) (lF a0 p1):=by
 simp -implicitDefEqProofs (decide:=true) (maxSteps:=2000000) only [sP,lF,↓gV,↓DN,↓DR,DQ,DP,↓reduceIte,Int.reduceToNat,Nat.reduceBEq,Nat.reduceAdd,Nat.reduceLT,Nat.reduceLeDiff,Nat.reduceEqDiff,Int.reduceEq,ne_eq,zN,reduceCtorEq,bJ,bM,bN,zM,zA,zB,aH,zC,zD,if_true,if_false,zE,zF,aG,zG,aJ,zH,zI,zJ,zK,aQ,aP,aV,aT,aS,aD,aL,aM,aE,aK,aF,aR,aZ,aU,aI,aW,zL]
 all_goals try simp only [bG]
 all_goals try rfl
theorem DS {β:Type} (a0:aA) (p1:Int) (k:Ex→St→Option β):cP TT D4 ⟨[(1,.ptr 1 0),(12,.d (.sl (cM bX.cells a0.Rates))),(13,.d (.int .i64 (a0.Rates.length:Int))),(14,.d (.int .i64 p1))],[(1,some (.box (aC a0.cells)))]⟩ k = (vZ a0 p1).bind (fun (r:Unit ⊕ Unit)=>Sum.elim (fun (z:Unit)=>k (.exit 0) ⟨[(1,.ptr 1 0)],[(1,some (.box (aC a0.cells)))]⟩) (fun (z:Unit)=>k .ret ⟨[(2,.d (.int .i64 1))],[]⟩) r):=by
 have hh:=fun (w:Int)=>LC a0 w
 have h:=fun ho=>cA (T:=TT) (k:=k) (c:=sP) (step:=(fun (w:Int)=>lF a0 w)) _ _ ho hh p1
 refine Eq.trans (h (fun r s e=>by have q:=congrArg Prod.fst e; rcases r with x | x <;> cases q)) ?_
 unfold vZ
 exact bK _ fun x=>by rcases x with x | x <;> rfl
theorem KR (a0:aA) (p11:Int):cP TT sO ⟨[(1,.ptr 1 0),(67,.d (.sl (cM bZ.cells a0.Halts))),(68,.d (.int .i64 (a0.Halts.length:Int))),(69,.d (.int .i64 p11))],[(1,some (.box (aC a0.cells)))]⟩ (fun e s=>some (e,s)) = cV (fun (w:Int)=>(⟨[(1,.ptr 1 0),(67,.d (.sl (cM bZ.cells a0.Halts))),(68,.d (.int .i64 (a0.Halts.length:Int))),(69,.d (.int .i64 w))],[(1,some (.box (aC a0.cells)))]⟩ : St)) (fun (r:Unit ⊕ Unit)=>Sum.elim (fun (z:Unit)=>(((.exit 2),⟨[],[]⟩):Ex × St)) (fun (z:Unit)=>((.ret,⟨[(2,.d (.int .i64 1))],[]⟩):Ex × St)) r) (lE a0 p11):=by
 simp -implicitDefEqProofs (decide:=true) (maxSteps:=2000000) only [sO,lE,↓DS,↓gV,↓DN,↓DR,DQ,DP,↓reduceIte,Int.reduceToNat,Nat.reduceBEq,Nat.reduceAdd,Nat.reduceLT,Nat.reduceLeDiff,Nat.reduceEqDiff,Int.reduceEq,ne_eq,zN,reduceCtorEq,bJ,bM,bN,zM,zA,zB,aH,zC,zD,if_true,if_false,zE,zF,aG,zG,aJ,zH,zI,zJ,zK,aQ,aP,aV,aT,aS,aD,aL,aM,aE,aK,aF,aR,aZ,aU,aI,aW,zL]
 all_goals try simp only [bG]
 all_goals try rfl
theorem K2 {β:Type} (a0:aA) (p11:Int) (k:Ex→St→Option β):cP TT DL ⟨[(1,.ptr 1 0),(67,.d (.sl (cM bZ.cells a0.Halts))),(68,.d (.int .i64 (a0.Halts.length:Int))),(69,.d (.int .i64 p11))],[(1,some (.box (aC a0.cells)))]⟩ k = (vL a0 p11).bind (fun (r:Unit ⊕ Unit)=>Sum.elim (fun (z:Unit)=>k (.exit 2) ⟨[],[]⟩) (fun (z:Unit)=>k .ret ⟨[(2,.d (.int .i64 1))],[]⟩) r):=by
 have hh:=fun (w:Int)=>KR a0 w
 have h:=fun ho=>cA (T:=TT) (k:=k) (c:=sO) (step:=(fun (w:Int)=>lE a0 w)) _ _ ho hh p11
 refine Eq.trans (h (fun r s e=>by have q:=congrArg Prod.fst e; rcases r with x | x <;> cases q)) ?_
 unfold vL
 exact bK _ fun x=>by rcases x with x | x <;> rfl
theorem PZ (a0:aA):Vm.call TT 100 [.agg a0.cells] = (uS a0).map fun (r:Int)=>.int .i64 r:=by
 refine (bQ (show TT 100 = some (.code ⟨1,98,[.tmp 2],ZA,false⟩) from rfl) _ rfl).trans ?_
 show cP TT ZA ⟨[(0,cO a0.cells)],[]⟩ _ = _
 simp -implicitDefEqProofs (decide:=true) (maxSteps:=2000000) only [ZA,uS,↓DS,↓K2,↓gV,↓DN,↓DR,DQ,DP,↓reduceIte,Int.reduceToNat,Nat.reduceBEq,Nat.reduceAdd,Nat.reduceLT,Nat.reduceLeDiff,Nat.reduceEqDiff,Int.reduceEq,ne_eq,zN,reduceCtorEq,bJ,bM,bN,zM,zA,zB,aH,zC,zD,if_true,if_false,zE,zF,aG,zG,aJ,zH,zI,zJ,zK,aQ,aP,aV,aT,aS,aD,aL,aM,aE,aK,aF,aR,aZ,aU,aI,aW,zL]
 all_goals try simp only [bG]
 all_goals try rfl
theorem ID {β:Type} (a0:aA) (d:Nat) (bl:List (Nat × Option aY)) (fz:List (Nat × Option aY)) (k:V→Option β) (kw:V→List (Nat × Option aY)→Option β):cH TT d bl 100 [.agg a0.cells] fz k kw = (uS a0).bind fun (r:Int)=>k (.d (.int .i64 r)):=by
 have h:=PZ a0
 exact bI h (fun _=>rfl) fz
end Go.Proofs.Ytfhebiceipgdmaa
