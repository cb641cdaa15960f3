/- The functions of the small machine compute the plain definitions. Printed by a program. -/
import Derived.Test.YtiimibimkpimbaaLnk1
set_option linter.unusedVariables false
set_option linter.unusedSimpArgs false
namespace Go.Proofs.Ytiimibimkpimbaa
open Vm
open Go.RowKit
set_option maxRecDepth 100000
set_option maxHeartbeats 4000000
attribute [local congr] xZ A7 yE AX
theorem oB (a0:List aA) (a1:aA):Vm.call TT 29 [.sl (cM aA.cells a0),.agg a1.cells] = (cG a0 a1).map fun (r:Bool)=>.bool r:=by
 refine (dN (show TT 29 = some (.code ⟨2,9,[.tmp 4],aGi,false,false⟩) from rfl) _ rfl rfl).trans ?_
 show eB TT aGi ⟨[(0,.d (.sl (cM aA.cells a0))),(1,oC a1.cells)],[]⟩ _ = _
 simp -implicitDefEqProofs (decide:=true) (maxSteps:=2000000) only [aGi,cG,↓pG,↓DN,↓DR,DQ,DP,↓reduceIte,Int.reduceToNat,Nat.reduceBEq,Nat.reduceAdd,Nat.reduceLT,Nat.reduceLeDiff,Nat.reduceEqDiff,Int.reduceEq,ne_eq,zN,reduceCtorEq,bY,b9,b8,zM,zA,zB,aL,zC,zD,if_true,if_false,zE,zF,aI,zG,aS,zH,zI,zJ,zK,aX,aV,a8,aZ,aU,aH,aP,aQ,aJ,aR,aG,aY,bH,Vm.bind_map,aO,aW,zL]
 all_goals try simp only [bO]
 all_goals try rfl
theorem dR {β:Type} (a0:List aA) (a1:aA) (d:Nat) (bl fz:List (Nat × Option aM)) (k:V->Option β) (kw:V->List (Nat × Option aM)->Option β):fJ TT d bl 29 [.sl (cM aA.cells a0),.agg a1.cells] fz k kw = (cG a0 a1).bind fun (r:Bool)=>k (.d (.bool r)):=by
 have h:=oB a0 a1
 exact cV h (fun _=>rfl) fz
theorem yZ (a0:aA) (a1 a2 a3:Int):Vm.call TT 27 [.agg a0.cells,.ptr [.int .i64 a1] 0,.ptr [.int .i64 a2] 0,.ptr [.int .i64 a3] 0] = (iP a0 a1 a2 a3).map fun (r:Bool)=>.bool r:=by
 refine (dN (show TT 27 = some (.code ⟨4,22,[.tmp 5],aIw,false,false⟩) from rfl) _ rfl rfl).trans ?_
 show eB TT aIw ⟨[(0,oC a0.cells),(1,.d (.ptr [.int .i64 a1] 0)),(2,.d (.ptr [.int .i64 a2] 0)),(3,.d (.ptr [.int .i64 a3] 0))],[]⟩ _ = _
 simp -implicitDefEqProofs (decide:=true) (maxSteps:=2000000) only [aIw,iP,↓DN,↓DR,DQ,DP,↓reduceIte,Int.reduceToNat,Nat.reduceBEq,Nat.reduceAdd,Nat.reduceLT,Nat.reduceLeDiff,Nat.reduceEqDiff,Int.reduceEq,ne_eq,zN,reduceCtorEq,bY,b9,b8,zM,zA,zB,aL,zC,zD,if_true,if_false,zE,zF,aI,zG,aS,zH,zI,zJ,zK,aX,aV,a8,aZ,aU,aH,aP,aQ,aJ,aR,aG,aY,bH,Vm.bind_map,aO,aW,zL]
 all_goals try simp only [bO]
 all_goals try rfl
theorem sS {β:Type} (a0:aA) (a1 a2 a3:Int) (d:Nat) (bl fz:List (Nat × Option aM)) (k:V->Option β) (kw:V->List (Nat × Option aM)->Option β):fJ TT d bl 27 [.agg a0.cells,.ptr [.int .i64 a1] 0,.ptr [.int .i64 a2] 0,.ptr [.int .i64 a3] 0] fz k kw = (iP a0 a1 a2 a3).bind fun (r:Bool)=>k (.d (.bool r)):=by
 have h:=yZ a0 a1 a2 a3
 exact cV h (fun _=>rfl) fz
theorem lU (a0:List aA) (a1 a2 a3 p1:Int):eB TT bC ⟨[(0,.d (.sl (cM aA.cells a0))),(1,.d (.fn 27 [.ptr [.int .i64 a1] 0,.ptr [.int .i64 a2] 0,.ptr [.int .i64 a3] 0])),(7,.d (.int .i64 (a0.length:Int))),(8,.d (.int .i64 p1))],[]⟩ (fun e s=>some (e,s)) = eN (fun (w:Int)=>(⟨[(0,.d (.sl (cM aA.cells a0))),(1,.d (.fn 27 [.ptr [.int .i64 a1] 0,.ptr [.int .i64 a2] 0,.ptr [.int .i64 a3] 0])),(7,.d (.int .i64 (a0.length:Int))),(8,.d (.int .i64 w))],[]⟩ : St)) (fun (r:Unit ⊕ Int)=>Sum.elim (fun (z:Unit)=>(((.exit 0),⟨[],[]⟩):Ex × St)) (fun (z:Int)=>((.ret,⟨[(4,.d (.int .i64 z))],[]⟩):Ex × St)) r) (bD a0 a1 a2 a3 p1):=by
 simp -implicitDefEqProofs (decide:=true) (maxSteps:=2000000) only [bC,bD,↓sS,↓DN,↓DR,DQ,DP,↓reduceIte,Int.reduceToNat,Nat.reduceBEq,Nat.reduceAdd,Nat.reduceLT,Nat.reduceLeDiff,Nat.reduceEqDiff,Int.reduceEq,ne_eq,zN,reduceCtorEq,bY,b9,b8,zM,zA,zB,aL,zC,zD,if_true,if_false,zE,zF,aI,zG,aS,zH,zI,zJ,zK,aX,aV,a8,aZ,aU,aH,aP,aQ,aJ,aR,aG,aY,bH,Vm.bind_map,aO,aW,zL]
 all_goals try simp only [bO]
 all_goals try rfl
theorem lV {β:Type} (a0:List aA) (a1 a2 a3 p1:Int) (k:Ex->St->Option β):eB TT dD ⟨[(0,.d (.sl (cM aA.cells a0))),(1,.d (.fn 27 [.ptr [.int .i64 a1] 0,.ptr [.int .i64 a2] 0,.ptr [.int .i64 a3] 0])),(7,.d (.int .i64 (a0.length:Int))),(8,.d (.int .i64 p1))],[]⟩ k = (dA a0 a1 a2 a3 p1).bind (fun (r:Unit ⊕ Int)=>Sum.elim (fun (z:Unit)=>k (.exit 0) ⟨[],[]⟩) (fun (z:Int)=>k .ret ⟨[(4,.d (.int .i64 z))],[]⟩) r):=by
 have hh:=fun (w:Int)=>lU a0 a1 a2 a3 w
 have h:=fun ho=>cO (T:=TT) (k:=k) (c:=bC) (step:=(fun (w:Int)=>bD a0 a1 a2 a3 w)) _ _ ho hh p1
 refine Eq.trans (h (fun r s e=>by have q:=congrArg Prod.fst e; rcases r with x | x <;> cases q)) ?_
 unfold dA
 exact bL _ fun x=>by rcases x with x | x <;> rfl
theorem mT (a0:List aA) (a1 a2 a3:Int):Vm.call TT 40 [.sl (cM aA.cells a0),.fn 27 [.ptr [.int .i64 a1] 0,.ptr [.int .i64 a2] 0,.ptr [.int .i64 a3] 0]] = (cQ a0 a1 a2 a3).map fun (r:Int)=>.int .i64 r:=by
 refine (dN (show TT 40 = some (.code ⟨2,19,[.tmp 4],ND,false,false⟩) from rfl) _ rfl rfl).trans ?_
 show eB TT ND ⟨[(0,.d (.sl (cM aA.cells a0))),(1,.d (.fn 27 [.ptr [.int .i64 a1] 0,.ptr [.int .i64 a2] 0,.ptr [.int .i64 a3] 0]))],[]⟩ _ = _
 simp -implicitDefEqProofs (decide:=true) (maxSteps:=2000000) only [ND,cQ,↓lV,↓sS,↓DN,↓DR,DQ,DP,↓reduceIte,Int.reduceToNat,Nat.reduceBEq,Nat.reduceAdd,Nat.reduceLT,Nat.reduceLeDiff,Nat.reduceEqDiff,Int.reduceEq,ne_eq,zN,reduceCtorEq,bY,b9,b8,zM,zA,zB,aL,zC,zD,if_true,if_false,zE,zF,aI,zG,aS,zH,zI,zJ,zK,aX,aV,a8,aZ,aU,aH,aP,aQ,aJ,aR,aG,aY,bH,Vm.bind_map,aO,aW,zL]
 all_goals try simp only [bO]
 all_goals try rfl
theorem mL {β:Type} (a0:List aA) (a1 a2 a3:Int) (d:Nat) (bl fz:List (Nat × Option aM)) (k:V->Option β) (kw:V->List (Nat × Option aM)->Option β):fJ TT d bl 40 [.sl (cM aA.cells a0),.fn 27 [.ptr [.int .i64 a1] 0,.ptr [.int .i64 a2] 0,.ptr [.int .i64 a3] 0]] fz k kw = (cQ a0 a1 a2 a3).bind fun (r:Int)=>k (.d (.int .i64 r)):=by
 have h:=mT a0 a1 a2 a3
 exact cV h (fun _=>rfl) fz
theorem lS (a0:List aA) (a1 a2 a3:Int):Vm.call TT 26 [.sl (cM aA.cells a0),.fn 27 [.ptr [.int .i64 a1] 0,.ptr [.int .i64 a2] 0,.ptr [.int .i64 a3] 0]] = (cH a0 a1 a2 a3).map fun (r:Bool)=>.bool r:=by
 refine (dN (show TT 26 = some (.code ⟨2,9,[.tmp 4],NN,false,false⟩) from rfl) _ rfl rfl).trans ?_
 show eB TT NN ⟨[(0,.d (.sl (cM aA.cells a0))),(1,.d (.fn 27 [.ptr [.int .i64 a1] 0,.ptr [.int .i64 a2] 0,.ptr [.int .i64 a3] 0]))],[]⟩ _ = _
 simp -implicitDefEqProofs (decide:=true) (maxSteps:=2000000) only [NN,cH,↓mL,↓DN,↓DR,DQ,DP,↓reduceIte,Int.reduceToNat,Nat.reduceBEq,Nat.reduceAdd,Nat.reduceLT,Nat.reduceLeDiff,Nat.reduceEqDiff,Int.reduceEq,ne_eq,zN,reduceCtorEq,bY,b9,b8,zM,zA,zB,aL,zC,zD,if_true,if_false,zE,zF,aI,zG,aS,zH,zI,zJ,zK,aX,aV,a8,aZ,aU,aH,aP,aQ,aJ,aR,aG,aY,bH,Vm.bind_map,aO,aW,zL]
 all_goals try simp only [bO]
 all_goals try rfl
theorem lR {β:Type} (a0:List aA) (a1 a2 a3:Int) (d:Nat) (bl fz:List (Nat × Option aM)) (k:V->Option β) (kw:V->List (Nat × Option aM)->Option β):fJ TT d bl 26 [.sl (cM aA.cells a0),.fn 27 [.ptr [.int .i64 a1] 0,.ptr [.int .i64 a2] 0,.ptr [.int .i64 a3] 0]] fz k kw = (cH a0 a1 a2 a3).bind fun (r:Bool)=>k (.d (.bool r)):=by
 have h:=lS a0 a1 a2 a3
 exact cV h (fun _=>rfl) fz
theorem CI (a0 a1 a2:Int) (a3:List aA):Vm.call TT 25 [.int .i64 a0,.int .i64 a1,.int .i64 a2,.ptr [.sl (cM aA.cells a3)] 0] = (gN a0 a1 a2 a3).map fun (r:Bool)=>.bool r:=by
 refine (dN (show TT 25 = some (.code ⟨4,11,[.tmp 7],aGA,false,false⟩) from rfl) _ rfl rfl).trans ?_
 show eB TT aGA ⟨[(0,.d (.int .i64 a0)),(1,.d (.int .i64 a1)),(2,.d (.int .i64 a2)),(3,.d (.ptr [.sl (cM aA.cells a3)] 0))],[]⟩ _ = _
 simp -implicitDefEqProofs (decide:=true) (maxSteps:=2000000) only [aGA,gN,↓lR,↓DN,↓DR,DQ,DP,↓reduceIte,Int.reduceToNat,Nat.reduceBEq,Nat.reduceAdd,Nat.reduceLT,Nat.reduceLeDiff,Nat.reduceEqDiff,Int.reduceEq,ne_eq,zN,reduceCtorEq,bY,b9,b8,zM,zA,zB,aL,zC,zD,if_true,if_false,zE,zF,aI,zG,aS,zH,zI,zJ,zK,aX,aV,a8,aZ,aU,aH,aP,aQ,aJ,aR,aG,aY,bH,Vm.bind_map,aO,aW,zL]
 all_goals try simp only [bO]
 all_goals try rfl
theorem m6 {β:Type} (a0 a1 a2:Int) (a3:List aA) (d:Nat) (bl fz:List (Nat × Option aM)) (k:V->Option β) (kw:V->List (Nat × Option aM)->Option β):fJ TT d bl 25 [.int .i64 a0,.int .i64 a1,.int .i64 a2,.ptr [.sl (cM aA.cells a3)] 0] fz k kw = (gN a0 a1 a2 a3).bind fun (r:Bool)=>k (.d (.bool r)):=by
 have h:=CI a0 a1 a2 a3
 exact cV h (fun _=>rfl) fz
theorem oG (a0:List aA):Vm.call TT 31 [.own (.ref 0) [(32,9)] [cM aA.cells a0],.fn 32 []] = (dZ a0).map fun (r:List aA)=>.own (.tup []) [(32,9)] [cM aA.cells r] :=
 (XH (show TT 31 = some (.toldL o31) from rfl) _ rfl).trans (aC1 aA.cells (fun _=>rfl) 32 32 (fun _=>rfl) a0)
theorem oQ {β:Type} (r25:(List aA)) (bl:List (Nat × Option aM)) (kw:V->List (Nat × Option aM)->Option β):F6 TT bl 31 86 0 [.own (.ref 0) [(32,9)] [cM aA.cells r25],.fn 32 []] kw = (dZ r25).bind fun (r:(List aA))=>dF bl 86 fun b=>C3 0 32 9 (cM aA.cells r) b fun b2=>kw (.tup []) [(86,b2)]:=zY (oG r25) (fun _=>rfl) (fun _=>qD _ (fun _=>rfl) _) 86 0
theorem EX (a0 a1 a2:Int) (a3:List aA) (p2:Int) (p3:List aA):eB TT oP ⟨[(0,.d (.int .i64 a0)),(1,.d (.int .i64 a1)),(2,.d (.int .i64 a2)),(3,.d (.sl (cM aA.cells a3))),(8,.nil),(9,.own 10039 0),(14,.d (.sl (cM aA.cells a3))),(15,.d (.int .i64 (a3.length:Int))),(16,.d (.int .i64 p2))],[(10039,some (.rows 0 32 9 (cM aA.cells p3))),(800001,some (.outer [.d (.int .i64 a2)]))]⟩ (fun e s=>some (e,s)) = eN (fun (w:Int × (List aA))=>(⟨[(0,.d (.int .i64 a0)),(1,.d (.int .i64 a1)),(2,.d (.int .i64 a2)),(3,.d (.sl (cM aA.cells a3))),(8,.nil),(9,.own 10039 0),(14,.d (.sl (cM aA.cells a3))),(15,.d (.int .i64 (a3.length:Int))),(16,.d (.int .i64 w.1))],[(10039,some (.rows 0 32 9 (cM aA.cells w.2))),(800001,some (.outer [.d (.int .i64 a2)]))]⟩ : St)) (fun (r:(List aA))=>(((.exit 0),⟨[(0,.d (.int .i64 a0)),(1,.d (.int .i64 a1)),(2,.d (.int .i64 a2)),(3,.d (.sl (cM aA.cells a3))),(8,.nil),(9,.own 10039 0)],[(10039,some (.rows 0 32 9 (cM aA.cells r))),(800001,some (.outer [.d (.int .i64 a2)]))]⟩):Ex × St)) (fK a0 a1 a2 a3 p2 p3):=by
 simp -implicitDefEqProofs (decide:=true) (maxSteps:=2000000) only [oP,fK,↓cW,↓dJ,↓m6,↓cZ,↓dR,↓tU,↓oQ,↓DN,↓DR,DQ,DP,↓reduceIte,Int.reduceToNat,Nat.reduceBEq,Nat.reduceAdd,Nat.reduceLT,Nat.reduceLeDiff,Nat.reduceEqDiff,Int.reduceEq,ne_eq,zN,reduceCtorEq,bY,b9,b8,zM,zA,zB,aL,zC,zD,if_true,if_false,zE,zF,aI,zG,aS,zH,zI,zJ,zK,aX,aV,a8,aZ,aU,aH,aP,aQ,aJ,aR,aG,aY,bH,Vm.bind_map,aO,aW,zL]
 all_goals try simp only [bO]
 all_goals try rfl
theorem rJ {β:Type} (a0 a1 a2:Int) (a3:List aA) (p2:Int) (p3:List aA) (k:Ex->St->Option β):eB TT wK ⟨[(0,.d (.int .i64 a0)),(1,.d (.int .i64 a1)),(2,.d (.int .i64 a2)),(3,.d (.sl (cM aA.cells a3))),(8,.nil),(9,.own 10039 0),(14,.d (.sl (cM aA.cells a3))),(15,.d (.int .i64 (a3.length:Int))),(16,.d (.int .i64 p2))],[(10039,some (.rows 0 32 9 (cM aA.cells p3))),(800001,some (.outer [.d (.int .i64 a2)]))]⟩ k = (nU a0 a1 a2 a3 p2 p3).bind (fun (r:(List aA))=>k (.exit 0) ⟨[(0,.d (.int .i64 a0)),(1,.d (.int .i64 a1)),(2,.d (.int .i64 a2)),(3,.d (.sl (cM aA.cells a3))),(8,.nil),(9,.own 10039 0)],[(10039,some (.rows 0 32 9 (cM aA.cells r))),(800001,some (.outer [.d (.int .i64 a2)]))]⟩):=by
 have hh:=fun (w:Int × (List aA))=>EX a0 a1 a2 a3 w.1 w.2
 have h:=fun ho=>cO (T:=TT) (k:=k) (c:=oP) (step:=(fun (w:Int × (List aA))=>fK a0 a1 a2 a3 w.1 w.2)) _ _ ho hh (p2,p3)
 refine Eq.trans (h (fun r s e=>by have q:=congrArg Prod.fst e; rcases r with x <;> cases q)) ?_
 unfold nU
 exact bL _ fun x=>by rcases x with x <;> rfl
theorem EW (a0 a1 a2:Int) (a3:List aA) (r7:(List aA)) (p8:Int) (p9:List aA):eB TT oU ⟨[(0,.d (.int .i64 a0)),(1,.d (.int .i64 a1)),(2,.d (.int .i64 a2)),(8,.own 10074 0),(9,.own 10039 0),(41,.d (.sl (cM aA.cells a3))),(42,.d (.int .i64 (a3.length:Int))),(43,.d (.int .i64 p8))],[(10039,some (.rows 0 32 9 (cM aA.cells r7))),(10074,some (.rows 0 32 9 (cM aA.cells p9))),(800001,some (.outer [.d (.int .i64 a2)]))]⟩ (fun e s=>some (e,s)) = eN (fun (w:Int × (List aA))=>(⟨[(0,.d (.int .i64 a0)),(1,.d (.int .i64 a1)),(2,.d (.int .i64 a2)),(8,.own 10074 0),(9,.own 10039 0),(41,.d (.sl (cM aA.cells a3))),(42,.d (.int .i64 (a3.length:Int))),(43,.d (.int .i64 w.1))],[(10039,some (.rows 0 32 9 (cM aA.cells r7))),(10074,some (.rows 0 32 9 (cM aA.cells w.2))),(800001,some (.outer [.d (.int .i64 a2)]))]⟩ : St)) (fun (r:(List aA))=>(((.exit 2),⟨[(8,.own 10074 0),(9,.own 10039 0)],[(10039,some (.rows 0 32 9 (cM aA.cells r7))),(10074,some (.rows 0 32 9 (cM aA.cells r))),(800001,some (.outer [.d (.int .i64 a2)]))]⟩):Ex × St)) (fN a0 a1 a2 a3 r7 p8 p9):=by
 simp -implicitDefEqProofs (decide:=true) (maxSteps:=2000000) only [oU,fN,↓rJ,↓cW,↓dJ,↓m6,↓cZ,↓dR,↓tU,↓oQ,↓DN,↓DR,DQ,DP,↓reduceIte,Int.reduceToNat,Nat.reduceBEq,Nat.reduceAdd,Nat.reduceLT,Nat.reduceLeDiff,Nat.reduceEqDiff,Int.reduceEq,ne_eq,zN,reduceCtorEq,bY,b9,b8,zM,zA,zB,aL,zC,zD,if_true,if_false,zE,zF,aI,zG,aS,zH,zI,zJ,zK,aX,aV,a8,aZ,aU,aH,aP,aQ,aJ,aR,aG,aY,bH,Vm.bind_map,aO,aW,zL]
 all_goals try simp only [bO]
 all_goals try rfl
theorem wM {β:Type} (a0 a1 a2:Int) (a3:List aA) (r7:(List aA)) (p8:Int) (p9:List aA) (k:Ex->St->Option β):eB TT wG ⟨[(0,.d (.int .i64 a0)),(1,.d (.int .i64 a1)),(2,.d (.int .i64 a2)),(8,.own 10074 0),(9,.own 10039 0),(41,.d (.sl (cM aA.cells a3))),(42,.d (.int .i64 (a3.length:Int))),(43,.d (.int .i64 p8))],[(10039,some (.rows 0 32 9 (cM aA.cells r7))),(10074,some (.rows 0 32 9 (cM aA.cells p9))),(800001,some (.outer [.d (.int .i64 a2)]))]⟩ k = (nO a0 a1 a2 a3 r7 p8 p9).bind (fun (r:(List aA))=>k (.exit 2) ⟨[(8,.own 10074 0),(9,.own 10039 0)],[(10039,some (.rows 0 32 9 (cM aA.cells r7))),(10074,some (.rows 0 32 9 (cM aA.cells r))),(800001,some (.outer [.d (.int .i64 a2)]))]⟩):=by
 have hh:=fun (w:Int × (List aA))=>EW a0 a1 a2 a3 r7 w.1 w.2
 have h:=fun ho=>cO (T:=TT) (k:=k) (c:=oU) (step:=(fun (w:Int × (List aA))=>fN a0 a1 a2 a3 r7 w.1 w.2)) _ _ ho hh (p8,p9)
 refine Eq.trans (h (fun r s e=>by have q:=congrArg Prod.fst e; rcases r with x <;> cases q)) ?_
 unfold nO
 exact bL _ fun x=>by rcases x with x <;> rfl
theorem ET (a2:Int) (r14 r7:(List aA)) (p15:Int) (p16:List aA):eB TT oS ⟨[(2,.d (.int .i64 a2)),(9,.d (.ptr [.sl (cM aA.cells r14)] 0)),(10,.own 10039 0),(11,.d (.fn 25 [.ptr [.sl (cM aA.cells r14)] 0])),(12,.own 86 0),(31,.d (.sl (cM aA.cells r14))),(32,.d (.int .i64 (r14.length:Int))),(33,.d (.int .i64 p15))],[(86,some (.rows 0 32 9 (cM aA.cells p16))),(10039,some (.rows 0 32 9 (cM aA.cells r7)))]⟩ (fun e s=>some (e,s)) = eN (fun (w:Int × (List aA))=>(⟨[(2,.d (.int .i64 a2)),(9,.d (.ptr [.sl (cM aA.cells r14)] 0)),(10,.own 10039 0),(11,.d (.fn 25 [.ptr [.sl (cM aA.cells r14)] 0])),(12,.own 86 0),(31,.d (.sl (cM aA.cells r14))),(32,.d (.int .i64 (r14.length:Int))),(33,.d (.int .i64 w.1))],[(86,some (.rows 0 32 9 (cM aA.cells w.2))),(10039,some (.rows 0 32 9 (cM aA.cells r7)))]⟩ : St)) (fun (r:(List aA))=>(((.exit 0),⟨[(12,.own 86 0)],[(86,some (.rows 0 32 9 (cM aA.cells r)))]⟩):Ex × St)) (fL a2 r14 r7 p15 p16):=by
 simp -implicitDefEqProofs (decide:=true) (maxSteps:=2000000) only [oS,fL,↓rJ,↓wM,↓cW,↓dJ,↓m6,↓cZ,↓dR,↓tU,↓oQ,↓DN,↓DR,DQ,DP,↓reduceIte,Int.reduceToNat,Nat.reduceBEq,Nat.reduceAdd,Nat.reduceLT,Nat.reduceLeDiff,Nat.reduceEqDiff,Int.reduceEq,ne_eq,zN,reduceCtorEq,bY,b9,b8,zM,zA,zB,aL,zC,zD,if_true,if_false,zE,zF,aI,zG,aS,zH,zI,zJ,zK,aX,aV,a8,aZ,aU,aH,aP,aQ,aJ,aR,aG,aY,bH,Vm.bind_map,aO,aW,zL]
 all_goals try simp only [bO]
 all_goals try rfl
theorem EY {β:Type} (a2:Int) (r14 r7:(List aA)) (p15:Int) (p16:List aA) (k:Ex->St->Option β):eB TT wC ⟨[(2,.d (.int .i64 a2)),(9,.d (.ptr [.sl (cM aA.cells r14)] 0)),(10,.own 10039 0),(11,.d (.fn 25 [.ptr [.sl (cM aA.cells r14)] 0])),(12,.own 86 0),(31,.d (.sl (cM aA.cells r14))),(32,.d (.int .i64 (r14.length:Int))),(33,.d (.int .i64 p15))],[(86,some (.rows 0 32 9 (cM aA.cells p16))),(10039,some (.rows 0 32 9 (cM aA.cells r7)))]⟩ k = (kY a2 r14 r7 p15 p16).bind (fun (r:(List aA))=>k (.exit 0) ⟨[(12,.own 86 0)],[(86,some (.rows 0 32 9 (cM aA.cells r)))]⟩):=by
 have hh:=fun (w:Int × (List aA))=>ET a2 r14 r7 w.1 w.2
 have h:=fun ho=>cO (T:=TT) (k:=k) (c:=oS) (step:=(fun (w:Int × (List aA))=>fL a2 r14 r7 w.1 w.2)) _ _ ho hh (p15,p16)
 refine Eq.trans (h (fun r s e=>by have q:=congrArg Prod.fst e; rcases r with x <;> cases q)) ?_
 unfold kY
 exact bL _ fun x=>by rcases x with x <;> rfl
theorem HX (a0 a1 a2:Int) (a3:List aA):Vm.call TT 14 [.int .i64 a0,.int .i64 a1,.int .i64 a2,.sl (cM aA.cells a3)] = (kQ a0 a1 a2 a3).map fun (r:(List aA))=>.sl (cM aA.cells r):=by
 refine (dN (show TT 14 = some (.code ⟨4,91,[.tmp 8],aGS,false,false⟩) from rfl) _ rfl rfl).trans ?_
 show eB TT aGS ⟨[(0,.d (.int .i64 a0)),(1,.d (.int .i64 a1)),(2,.d (.int .i64 a2)),(3,.d (.sl (cM aA.cells a3)))],[]⟩ _ = _
 simp -implicitDefEqProofs (decide:=true) (maxSteps:=2000000) only [aGS,kQ,↓rJ,↓wM,↓EY,↓cW,↓dJ,↓m6,↓cZ,↓dR,↓tU,↓oQ,↓DN,↓DR,DQ,DP,↓reduceIte,Int.reduceToNat,Nat.reduceBEq,Nat.reduceAdd,Nat.reduceLT,Nat.reduceLeDiff,Nat.reduceEqDiff,Int.reduceEq,ne_eq,zN,reduceCtorEq,bY,b9,b8,zM,zA,zB,aL,zC,zD,if_true,if_false,zE,zF,aI,zG,aS,zH,zI,zJ,zK,aX,aV,a8,aZ,aU,aH,aP,aQ,aJ,aR,aG,aY,bH,Vm.bind_map,aO,aW,zL]
 all_goals try simp only [bO]
 all_goals try rfl
theorem bS {β:Type} (a0 a1 a2:Int) (a3:List aA) (d:Nat) (bl fz:List (Nat × Option aM)) (k:V->Option β) (kw:V->List (Nat × Option aM)->Option β):fJ TT d bl 14 [.int .i64 a0,.int .i64 a1,.int .i64 a2,.sl (cM aA.cells a3)] fz k kw = (kQ a0 a1 a2 a3).bind fun (r:(List aA))=>fzK fz (.d (.sl (cM aA.cells r))) k kw:=by
 have h:=HX a0 a1 a2 a3
 exact BK h (fun _=>rfl) (fun _=>rfl) fz
theorem VQ (a0:aA):Vm.call TT 67 [.agg a0.cells] = (vQ a0).map fun (r:aE)=>.agg r.cells:=by
 refine (dN (show TT 67 = some (.code ⟨1,8,[.cell 2 2 true],aFK,false,false⟩) from rfl) _ rfl rfl).trans ?_
 show eB TT aFK ⟨[(0,oC a0.cells)],[]⟩ _ = _
 simp -implicitDefEqProofs (decide:=true) (maxSteps:=2000000) only [aFK,vQ,↓DN,↓DR,DQ,DP,↓reduceIte,Int.reduceToNat,Nat.reduceBEq,Nat.reduceAdd,Nat.reduceLT,Nat.reduceLeDiff,Nat.reduceEqDiff,Int.reduceEq,ne_eq,zN,reduceCtorEq,bY,b9,b8,zM,zA,zB,aL,zC,zD,if_true,if_false,zE,zF,aI,zG,aS,zH,zI,zJ,zK,aX,aV,a8,aZ,aU,aH,aP,aQ,aJ,aR,aG,aY,bH,Vm.bind_map,aO,aW,zL]
 all_goals try simp only [bO]
 all_goals try rfl
theorem gO {β:Type} (a0:aA) (d:Nat) (bl fz:List (Nat × Option aM)) (k:V->Option β) (kw:V->List (Nat × Option aM)->Option β):fJ TT d bl 67 [.agg a0.cells] fz k kw = (vQ a0).bind fun (r:aE)=>k (oC r.cells):=by
 have h:=VQ a0
 exact cV h (fun _=>rfl) fz
theorem A3 (a0:aA):Vm.call TT 69 [.agg a0.cells] = (kT a0).map fun (r:Int)=>.int .i64 r:=by
 refine (dN (show TT 69 = some (.code ⟨1,5,[.tmp 2],aGs,false,false⟩) from rfl) _ rfl rfl).trans ?_
 show eB TT aGs ⟨[(0,oC a0.cells)],[]⟩ _ = _
 simp -implicitDefEqProofs (decide:=true) (maxSteps:=2000000) only [aGs,kT,↓DN,↓DR,DQ,DP,↓reduceIte,Int.reduceToNat,Nat.reduceBEq,Nat.reduceAdd,Nat.reduceLT,Nat.reduceLeDiff,Nat.reduceEqDiff,Int.reduceEq,ne_eq,zN,reduceCtorEq,bY,b9,b8,zM,zA,zB,aL,zC,zD,if_true,if_false,zE,zF,aI,zG,aS,zH,zI,zJ,zK,aX,aV,a8,aZ,aU,aH,aP,aQ,aJ,aR,aG,aY,bH,Vm.bind_map,aO,aW,zL]
 all_goals try simp only [bO]
 all_goals try rfl
theorem bP {β:Type} (a0:aA) (d:Nat) (bl fz:List (Nat × Option aM)) (k:V->Option β) (kw:V->List (Nat × Option aM)->Option β):fJ TT d bl 69 [.agg a0.cells] fz k kw = (kT a0).bind fun (r:Int)=>k (.d (.int .i64 r)):=by
 have h:=A3 a0
 exact cV h (fun _=>rfl) fz
theorem CT (a0:Int) (a1:List aK) (p1:Int):eB TT nV ⟨[(0,.d (.int .i64 a0)),(18,.d (.sl (cM aK.cells a1))),(19,.d (.int .i64 (a1.length:Int))),(20,.d (.int .i64 p1))],[]⟩ (fun e s=>some (e,s)) = eN (fun (w:Int)=>(⟨[(0,.d (.int .i64 a0)),(18,.d (.sl (cM aK.cells a1))),(19,.d (.int .i64 (a1.length:Int))),(20,.d (.int .i64 w))],[]⟩ : St)) (fun (r:Unit ⊕ Unit)=>Sum.elim (fun (z:Unit)=>(((.exit 0),⟨[],[]⟩):Ex × St)) (fun (z:Unit)=>((.ret,⟨[(4,.d (.bool false))],[]⟩):Ex × St)) r) (eZ a0 a1 p1):=by
 simp -implicitDefEqProofs (decide:=true) (maxSteps:=2000000) only [nV,eZ,↓DN,↓DR,DQ,DP,↓reduceIte,Int.reduceToNat,Nat.reduceBEq,Nat.reduceAdd,Nat.reduceLT,Nat.reduceLeDiff,Nat.reduceEqDiff,Int.reduceEq,ne_eq,zN,reduceCtorEq,bY,b9,b8,zM,zA,zB,aL,zC,zD,if_true,if_false,zE,zF,aI,zG,aS,zH,zI,zJ,zK,aX,aV,a8,aZ,aU,aH,aP,aQ,aJ,aR,aG,aY,bH,Vm.bind_map,aO,aW,zL]
 all_goals try simp only [bO]
 all_goals try rfl
theorem C1 {β:Type} (a0:Int) (a1:List aK) (p1:Int) (k:Ex->St->Option β):eB TT vG ⟨[(0,.d (.int .i64 a0)),(18,.d (.sl (cM aK.cells a1))),(19,.d (.int .i64 (a1.length:Int))),(20,.d (.int .i64 p1))],[]⟩ k = (mQ a0 a1 p1).bind (fun (r:Unit ⊕ Unit)=>Sum.elim (fun (z:Unit)=>k (.exit 0) ⟨[],[]⟩) (fun (z:Unit)=>k .ret ⟨[(4,.d (.bool false))],[]⟩) r):=by
 have hh:=fun (w:Int)=>CT a0 a1 w
 have h:=fun ho=>cO (T:=TT) (k:=k) (c:=nV) (step:=(fun (w:Int)=>eZ a0 a1 w)) _ _ ho hh p1
 refine Eq.trans (h (fun r s e=>by have q:=congrArg Prod.fst e; rcases r with x | x <;> cases q)) ?_
 unfold mQ
 exact bL _ fun x=>by rcases x with x | x <;> rfl
theorem GP (a0:Int) (a1:List aK):Vm.call TT 33 [.int .i64 a0,.sl (cM aK.cells a1)] = (lI a0 a1).map fun (r:Bool)=>.bool r:=by
 refine (dN (show TT 33 = some (.code ⟨2,62,[.tmp 4],aIr,false,false⟩) from rfl) _ rfl rfl).trans ?_
 show eB TT aIr ⟨[(0,.d (.int .i64 a0)),(1,.d (.sl (cM aK.cells a1)))],[]⟩ _ = _
 simp -implicitDefEqProofs (decide:=true) (maxSteps:=2000000) only [aIr,lI,↓C1,↓DN,↓DR,DQ,DP,↓reduceIte,Int.reduceToNat,Nat.reduceBEq,Nat.reduceAdd,Nat.reduceLT,Nat.reduceLeDiff,Nat.reduceEqDiff,Int.reduceEq,ne_eq,zN,reduceCtorEq,bY,b9,b8,zM,zA,zB,aL,zC,zD,if_true,if_false,zE,zF,aI,zG,aS,zH,zI,zJ,zK,aX,aV,a8,aZ,aU,aH,aP,aQ,aJ,aR,aG,aY,bH,Vm.bind_map,aO,aW,zL]
 all_goals try simp only [bO]
 all_goals try rfl
theorem tF {β:Type} (a0:Int) (a1:List aK) (d:Nat) (bl fz:List (Nat × Option aM)) (k:V->Option β) (kw:V->List (Nat × Option aM)->Option β):fJ TT d bl 33 [.int .i64 a0,.sl (cM aK.cells a1)] fz k kw = (lI a0 a1).bind fun (r:Bool)=>k (.d (.bool r)):=by
 have h:=GP a0 a1
 exact cV h (fun _=>rfl) fz
theorem vL {β:Type} (a0:List aK) (a1:List Int) (p1:Int) (x3:aK) (p6:List aB) (k:Ex->St->Option β):eB TT qT ⟨[(1,.d (.sl (cM cI a1))),(5,.own 37 0),(6,.d (.int .i64 p1)),(7,.ptr 7 0),(8,.d (.sl (cM aK.cells a0))),(9,.d (.int .i64 (a0.length:Int))),(10,.d (.int .i64 p1))],[(7,some (.box (bQ x3.cells))),(37,some (.rows 0 73 6 (cM aB.cells p6)))]⟩ k = (kG a0 a1 p1 x3 p6).bind (fun (r:(List aB))=>k .normal ⟨[(1,.d (.sl (cM cI a1))),(5,.own 37 0),(8,.d (.sl (cM aK.cells a0))),(9,.d (.int .i64 (a0.length:Int))),(10,.d (.int .i64 p1))],[(37,some (.rows 0 73 6 (cM aB.cells r)))]⟩):=by
 simp -implicitDefEqProofs (decide:=true) (maxSteps:=2000000) only [qT,kG,↓DN,↓DR,DQ,DP,↓reduceIte,Int.reduceToNat,Nat.reduceBEq,Nat.reduceAdd,Nat.reduceLT,Nat.reduceLeDiff,Nat.reduceEqDiff,Int.reduceEq,ne_eq,zN,reduceCtorEq,bY,b9,b8,zM,zA,zB,aL,zC,zD,if_true,if_false,zE,zF,aI,zG,aS,zH,zI,zJ,zK,aX,aV,a8,aZ,aU,aH,aP,aQ,aJ,aR,aG,aY,bH,Vm.bind_map,aO,aW,zL]
 all_goals try simp only [bO]
 all_goals try rfl
theorem DK (a0:List aK) (a1:List Int) (p1:Int) (p2:List aB):eB TT nR ⟨[(1,.d (.sl (cM cI a1))),(5,.own 37 0),(8,.d (.sl (cM aK.cells a0))),(9,.d (.int .i64 (a0.length:Int))),(10,.d (.int .i64 p1))],[(37,some (.rows 0 73 6 (cM aB.cells p2)))]⟩ (fun e s=>some (e,s)) = eN (fun (w:Int × (List aB))=>(⟨[(1,.d (.sl (cM cI a1))),(5,.own 37 0),(8,.d (.sl (cM aK.cells a0))),(9,.d (.int .i64 (a0.length:Int))),(10,.d (.int .i64 w.1))],[(37,some (.rows 0 73 6 (cM aB.cells w.2)))]⟩ : St)) (fun (r:(List aB))=>(((.exit 0),⟨[(5,.own 37 0)],[(37,some (.rows 0 73 6 (cM aB.cells r)))]⟩):Ex × St)) (eR a0 a1 p1 p2):=by
 simp -implicitDefEqProofs (decide:=true) (maxSteps:=2000000) only [nR,eR,↓vL,↓DN,↓DR,DQ,DP,↓reduceIte,Int.reduceToNat,Nat.reduceBEq,Nat.reduceAdd,Nat.reduceLT,Nat.reduceLeDiff,Nat.reduceEqDiff,Int.reduceEq,ne_eq,zN,reduceCtorEq,bY,b9,b8,zM,zA,zB,aL,zC,zD,if_true,if_false,zE,zF,aI,zG,aS,zH,zI,zJ,zK,aX,aV,a8,aZ,aU,aH,aP,aQ,aJ,aR,aG,aY,bH,Vm.bind_map,aO,aW,zL]
 all_goals try simp only [bO]
 all_goals try rfl
theorem DD {β:Type} (a0:List aK) (a1:List Int) (p1:Int) (p2:List aB) (k:Ex->St->Option β):eB TT vC ⟨[(1,.d (.sl (cM cI a1))),(5,.own 37 0),(8,.d (.sl (cM aK.cells a0))),(9,.d (.int .i64 (a0.length:Int))),(10,.d (.int .i64 p1))],[(37,some (.rows 0 73 6 (cM aB.cells p2)))]⟩ k = (pK a0 a1 p1 p2).bind (fun (r:(List aB))=>k (.exit 0) ⟨[(5,.own 37 0)],[(37,some (.rows 0 73 6 (cM aB.cells r)))]⟩):=by
 have hh:=fun (w:Int × (List aB))=>DK a0 a1 w.1 w.2
 have h:=fun ho=>cO (T:=TT) (k:=k) (c:=nR) (step:=(fun (w:Int × (List aB))=>eR a0 a1 w.1 w.2)) _ _ ho hh (p1,p2)
 refine Eq.trans (h (fun r s e=>by have q:=congrArg Prod.fst e; rcases r with x <;> cases q)) ?_
 unfold pK
 exact bL _ fun x=>by rcases x with x <;> rfl
theorem tO (a0:List aK) (a1:List Int):Vm.call TT 37 [.sl (cM aK.cells a0),.sl (cM cI a1)] = (g9 a0 a1).map fun (r:(List aB))=>.own (.ref 0) [(73,6)] [cM aB.cells r]:=by
 refine (GK (show TT 37 = some (.code ⟨2,58,[.tmp 4],aG1,true,false⟩) from rfl) _ rfl rfl).trans ?_
 show eB TT aG1 ⟨[(0,.d (.sl (cM aK.cells a0))),(1,.d (.sl (cM cI a1)))],[]⟩ _ = _
 simp -implicitDefEqProofs (decide:=true) (maxSteps:=2000000) only [aG1,g9,↓vL,↓DD,↓DN,↓DR,DQ,DP,↓reduceIte,Int.reduceToNat,Nat.reduceBEq,Nat.reduceAdd,Nat.reduceLT,Nat.reduceLeDiff,Nat.reduceEqDiff,Int.reduceEq,ne_eq,zN,reduceCtorEq,bY,b9,b8,zM,zA,zB,aL,zC,zD,if_true,if_false,zE,zF,aI,zG,aS,zH,zI,zJ,zK,aX,aV,a8,aZ,aU,aH,aP,aQ,aJ,aR,aG,aY,bH,Vm.bind_map,aO,aW,zL]
 all_goals try simp only [bO]
 all_goals try rfl
theorem rZ (a0:List Int) (a1:Int):Vm.call TT 66 [.sl (cM cI a0),.int .i64 a1] = (iG a0 a1).map fun (r:(List Int))=>.own (.ref 0) [(3,1)] [cM cI r] :=
 (aBP (show TT 66 = some (.told o66) from rfl) _ rfl).trans (aF0 3 a1 a0)
end Go.Proofs.Ytiimibimkpimbaa
