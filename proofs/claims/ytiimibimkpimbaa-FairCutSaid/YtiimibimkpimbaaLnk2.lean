/- The functions of the small machine compute the plain definitions. Printed by a program. -/
import Derived.Test.YtiimibimkpimbaaLnk1
set_option linter.unusedVariables false
set_option linter.unusedSimpArgs false
namespace Go.Proofs.Ytiimibimkpimbaa
open Vm
open Go.RowKit
set_option maxRecDepth 100000
set_option maxHeartbeats 4000000
attribute [local congr] xI AF xS AQ
theorem n7 (a0:List aA) (a1:aA):Vm.call TT 29 [.sl (cM aA.cells a0),.agg a1.cells] = (cC a0 a1).map fun (r:Bool)=>.bool r:=by
 refine (eC (show TT 29 = some (.code ⟨2,9,[.tmp 4],aHe,false,false⟩) from rfl) _ rfl rfl).trans ?_
 show eH TT aHe ⟨[(0,.d (.sl (cM aA.cells a0))),(1,n9 a1.cells)],[]⟩ _ = _
 simp -implicitDefEqProofs (decide:=true) (maxSteps:=2000000) only [aHe,cC,↓oZ,↓DN,↓DR,DQ,DP,↓reduceIte,Int.reduceToNat,Nat.reduceBEq,Nat.reduceAdd,Nat.reduceLT,Nat.reduceLeDiff,Nat.reduceEqDiff,Int.reduceEq,ne_eq,zN,reduceCtorEq,bW,bZ,bY,zM,zA,zB,aK,zC,zD,if_true,if_false,zE,zF,aG,zG,aP,zH,zI,zJ,zK,aV,a8,aZ,aW,aY,aI,aO,aR,aJ,aS,aH,aU,bH,Vm.bind_map,aQ,aX,zL]
 all_goals try simp only [bN]
 all_goals try rfl
theorem dQ {β:Type} (a0:List aA) (a1:aA) (d:Nat) (bl:List (Nat × Option aL)) (fz:List (Nat × Option aL)) (k:V→Option β) (kw:V→List (Nat × Option aL)→Option β):fY TT d bl 29 [.sl (cM aA.cells a0),.agg a1.cells] fz k kw = (cC a0 a1).bind fun (r:Bool)=>k (.d (.bool r)):=by
 have h:=n7 a0 a1
 exact cZ h (fun _=>rfl) fz
theorem yR (a0:aA) (a1:Int) (a2:Int) (a3:Int):Vm.call TT 27 [.agg a0.cells,.ptr [.int .i64 a1] 0,.ptr [.int .i64 a2] 0,.ptr [.int .i64 a3] 0] = (iK a0 a1 a2 a3).map fun (r:Bool)=>.bool r:=by
 refine (eC (show TT 27 = some (.code ⟨4,22,[.tmp 5],aFp,false,false⟩) from rfl) _ rfl rfl).trans ?_
 show eH TT aFp ⟨[(0,n9 a0.cells),(1,.d (.ptr [.int .i64 a1] 0)),(2,.d (.ptr [.int .i64 a2] 0)),(3,.d (.ptr [.int .i64 a3] 0))],[]⟩ _ = _
 simp -implicitDefEqProofs (decide:=true) (maxSteps:=2000000) only [aFp,iK,↓DN,↓DR,DQ,DP,↓reduceIte,Int.reduceToNat,Nat.reduceBEq,Nat.reduceAdd,Nat.reduceLT,Nat.reduceLeDiff,Nat.reduceEqDiff,Int.reduceEq,ne_eq,zN,reduceCtorEq,bW,bZ,bY,zM,zA,zB,aK,zC,zD,if_true,if_false,zE,zF,aG,zG,aP,zH,zI,zJ,zK,aV,a8,aZ,aW,aY,aI,aO,aR,aJ,aS,aH,aU,bH,Vm.bind_map,aQ,aX,zL]
 all_goals try simp only [bN]
 all_goals try rfl
theorem rY {β:Type} (a0:aA) (a1:Int) (a2:Int) (a3:Int) (d:Nat) (bl:List (Nat × Option aL)) (fz:List (Nat × Option aL)) (k:V→Option β) (kw:V→List (Nat × Option aL)→Option β):fY TT d bl 27 [.agg a0.cells,.ptr [.int .i64 a1] 0,.ptr [.int .i64 a2] 0,.ptr [.int .i64 a3] 0] fz k kw = (iK a0 a1 a2 a3).bind fun (r:Bool)=>k (.d (.bool r)):=by
 have h:=yR a0 a1 a2 a3
 exact cZ h (fun _=>rfl) fz
theorem lG (a0:List aA) (a1:Int) (a2:Int) (a3:Int) (p1:Int):eH TT bC ⟨[(0,.d (.sl (cM aA.cells a0))),(1,.d (.fn 27 [.ptr [.int .i64 a1] 0,.ptr [.int .i64 a2] 0,.ptr [.int .i64 a3] 0])),(7,.d (.int .i64 (a0.length:Int))),(8,.d (.int .i64 p1))],[]⟩ (fun e s=>some (e,s)) = eW (fun (w:Int)=>(⟨[(0,.d (.sl (cM aA.cells a0))),(1,.d (.fn 27 [.ptr [.int .i64 a1] 0,.ptr [.int .i64 a2] 0,.ptr [.int .i64 a3] 0])),(7,.d (.int .i64 (a0.length:Int))),(8,.d (.int .i64 w))],[]⟩ : St)) (fun (r:Unit ⊕ Int)=>Sum.elim (fun (z:Unit)=>(((.exit 0),⟨[],[]⟩):Ex × St)) (fun (z:Int)=>((.ret,⟨[(4,.d (.int .i64 z))],[]⟩):Ex × St)) r) (bG a0 a1 a2 a3 p1):=by
 simp -implicitDefEqProofs (decide:=true) (maxSteps:=2000000) only [bC,bG,↓rY,↓DN,↓DR,DQ,DP,↓reduceIte,Int.reduceToNat,Nat.reduceBEq,Nat.reduceAdd,Nat.reduceLT,Nat.reduceLeDiff,Nat.reduceEqDiff,Int.reduceEq,ne_eq,zN,reduceCtorEq,bW,bZ,bY,zM,zA,zB,aK,zC,zD,if_true,if_false,zE,zF,aG,zG,aP,zH,zI,zJ,zK,aV,a8,aZ,aW,aY,aI,aO,aR,aJ,aS,aH,aU,bH,Vm.bind_map,aQ,aX,zL]
 all_goals try simp only [bN]
 all_goals try rfl
theorem lL {β:Type} (a0:List aA) (a1:Int) (a2:Int) (a3:Int) (p1:Int) (k:Ex→St→Option β):eH TT dG ⟨[(0,.d (.sl (cM aA.cells a0))),(1,.d (.fn 27 [.ptr [.int .i64 a1] 0,.ptr [.int .i64 a2] 0,.ptr [.int .i64 a3] 0])),(7,.d (.int .i64 (a0.length:Int))),(8,.d (.int .i64 p1))],[]⟩ k = (dB a0 a1 a2 a3 p1).bind (fun (r:Unit ⊕ Int)=>Sum.elim (fun (z:Unit)=>k (.exit 0) ⟨[],[]⟩) (fun (z:Int)=>k .ret ⟨[(4,.d (.int .i64 z))],[]⟩) r):=by
 have hh:=fun (w:Int)=>lG a0 a1 a2 a3 w
 have h:=fun ho=>cP (T:=TT) (k:=k) (c:=bC) (step:=(fun (w:Int)=>bG a0 a1 a2 a3 w)) _ _ ho hh p1
 refine Eq.trans (h (fun r s e=>by have q:=congrArg Prod.fst e; rcases r with x | x <;> cases q)) ?_
 unfold dB
 exact bL _ fun x=>by rcases x with x | x <;> rfl
theorem mJ (a0:List aA) (a1:Int) (a2:Int) (a3:Int):Vm.call TT 40 [.sl (cM aA.cells a0),.fn 27 [.ptr [.int .i64 a1] 0,.ptr [.int .i64 a2] 0,.ptr [.int .i64 a3] 0]] = (cN a0 a1 a2 a3).map fun (r:Int)=>.int .i64 r:=by
 refine (eC (show TT 40 = some (.code ⟨2,19,[.tmp 4],M8,false,false⟩) from rfl) _ rfl rfl).trans ?_
 show eH TT M8 ⟨[(0,.d (.sl (cM aA.cells a0))),(1,.d (.fn 27 [.ptr [.int .i64 a1] 0,.ptr [.int .i64 a2] 0,.ptr [.int .i64 a3] 0]))],[]⟩ _ = _
 simp -implicitDefEqProofs (decide:=true) (maxSteps:=2000000) only [M8,cN,↓lL,↓rY,↓DN,↓DR,DQ,DP,↓reduceIte,Int.reduceToNat,Nat.reduceBEq,Nat.reduceAdd,Nat.reduceLT,Nat.reduceLeDiff,Nat.reduceEqDiff,Int.reduceEq,ne_eq,zN,reduceCtorEq,bW,bZ,bY,zM,zA,zB,aK,zC,zD,if_true,if_false,zE,zF,aG,zG,aP,zH,zI,zJ,zK,aV,a8,aZ,aW,aY,aI,aO,aR,aJ,aS,aH,aU,bH,Vm.bind_map,aQ,aX,zL]
 all_goals try simp only [bN]
 all_goals try rfl
theorem mS {β:Type} (a0:List aA) (a1:Int) (a2:Int) (a3:Int) (d:Nat) (bl:List (Nat × Option aL)) (fz:List (Nat × Option aL)) (k:V→Option β) (kw:V→List (Nat × Option aL)→Option β):fY TT d bl 40 [.sl (cM aA.cells a0),.fn 27 [.ptr [.int .i64 a1] 0,.ptr [.int .i64 a2] 0,.ptr [.int .i64 a3] 0]] fz k kw = (cN a0 a1 a2 a3).bind fun (r:Int)=>k (.d (.int .i64 r)):=by
 have h:=mJ a0 a1 a2 a3
 exact cZ h (fun _=>rfl) fz
theorem lM (a0:List aA) (a1:Int) (a2:Int) (a3:Int):Vm.call TT 26 [.sl (cM aA.cells a0),.fn 27 [.ptr [.int .i64 a1] 0,.ptr [.int .i64 a2] 0,.ptr [.int .i64 a3] 0]] = (cE a0 a1 a2 a3).map fun (r:Bool)=>.bool r:=by
 refine (eC (show TT 26 = some (.code ⟨2,9,[.tmp 4],MN,false,false⟩) from rfl) _ rfl rfl).trans ?_
 show eH TT MN ⟨[(0,.d (.sl (cM aA.cells a0))),(1,.d (.fn 27 [.ptr [.int .i64 a1] 0,.ptr [.int .i64 a2] 0,.ptr [.int .i64 a3] 0]))],[]⟩ _ = _
 simp -implicitDefEqProofs (decide:=true) (maxSteps:=2000000) only [MN,cE,↓mS,↓DN,↓DR,DQ,DP,↓reduceIte,Int.reduceToNat,Nat.reduceBEq,Nat.reduceAdd,Nat.reduceLT,Nat.reduceLeDiff,Nat.reduceEqDiff,Int.reduceEq,ne_eq,zN,reduceCtorEq,bW,bZ,bY,zM,zA,zB,aK,zC,zD,if_true,if_false,zE,zF,aG,zG,aP,zH,zI,zJ,zK,aV,a8,aZ,aW,aY,aI,aO,aR,aJ,aS,aH,aU,bH,Vm.bind_map,aQ,aX,zL]
 all_goals try simp only [bN]
 all_goals try rfl
theorem lF {β:Type} (a0:List aA) (a1:Int) (a2:Int) (a3:Int) (d:Nat) (bl:List (Nat × Option aL)) (fz:List (Nat × Option aL)) (k:V→Option β) (kw:V→List (Nat × Option aL)→Option β):fY TT d bl 26 [.sl (cM aA.cells a0),.fn 27 [.ptr [.int .i64 a1] 0,.ptr [.int .i64 a2] 0,.ptr [.int .i64 a3] 0]] fz k kw = (cE a0 a1 a2 a3).bind fun (r:Bool)=>k (.d (.bool r)):=by
 have h:=lM a0 a1 a2 a3
 exact cZ h (fun _=>rfl) fz
theorem BV (a0:Int) (a1:Int) (a2:Int) (a3:List aA):Vm.call TT 25 [.int .i64 a0,.int .i64 a1,.int .i64 a2,.ptr [.sl (cM aA.cells a3)] 0] = (gK a0 a1 a2 a3).map fun (r:Bool)=>.bool r:=by
 refine (eC (show TT 25 = some (.code ⟨4,11,[.tmp 7],aHA,false,false⟩) from rfl) _ rfl rfl).trans ?_
 show eH TT aHA ⟨[(0,.d (.int .i64 a0)),(1,.d (.int .i64 a1)),(2,.d (.int .i64 a2)),(3,.d (.ptr [.sl (cM aA.cells a3)] 0))],[]⟩ _ = _
 simp -implicitDefEqProofs (decide:=true) (maxSteps:=2000000) only [aHA,gK,↓lF,↓DN,↓DR,DQ,DP,↓reduceIte,Int.reduceToNat,Nat.reduceBEq,Nat.reduceAdd,Nat.reduceLT,Nat.reduceLeDiff,Nat.reduceEqDiff,Int.reduceEq,ne_eq,zN,reduceCtorEq,bW,bZ,bY,zM,zA,zB,aK,zC,zD,if_true,if_false,zE,zF,aG,zG,aP,zH,zI,zJ,zK,aV,a8,aZ,aW,aY,aI,aO,aR,aJ,aS,aH,aU,bH,Vm.bind_map,aQ,aX,zL]
 all_goals try simp only [bN]
 all_goals try rfl
theorem mT {β:Type} (a0:Int) (a1:Int) (a2:Int) (a3:List aA) (d:Nat) (bl:List (Nat × Option aL)) (fz:List (Nat × Option aL)) (k:V→Option β) (kw:V→List (Nat × Option aL)→Option β):fY TT d bl 25 [.int .i64 a0,.int .i64 a1,.int .i64 a2,.ptr [.sl (cM aA.cells a3)] 0] fz k kw = (gK a0 a1 a2 a3).bind fun (r:Bool)=>k (.d (.bool r)):=by
 have h:=BV a0 a1 a2 a3
 exact cZ h (fun _=>rfl) fz
theorem nV (a0:List aA):Vm.call TT 31 [.own (.ref 0) [(32,9)] [cM aA.cells a0],.fn 32 []] = (d9 a0).map fun (r:List aA)=>.own (.tup []) [(32,9)] [cM aA.cells r] :=
 (WY (show TT 31 = some (.toldL o31) from rfl) _ rfl).trans (aDP aA.cells (fun _=>rfl) 32 32 (fun _=>rfl) a0)
theorem oL {β:Type} (r25:(List aA)) (bl:List (Nat × Option aL)) (kw:V→List (Nat × Option aL)→Option β):FR TT bl 31 86 0 [.own (.ref 0) [(32,9)] [cM aA.cells r25],.fn 32 []] kw = (d9 r25).bind fun (r:(List aA))=>dK bl 86 fun b=>B1 0 32 9 (cM aA.cells r) b fun b2=>kw (.tup []) [(86,b2)]:=zV (nV r25) (fun _=>rfl) (fun _=>pL _ (fun _=>rfl) _) 86 0
theorem EF (a0:Int) (a1:Int) (a2:Int) (a3:List aA) (p2:Int) (p3:List aA):eH TT oE ⟨[(0,.d (.int .i64 a0)),(1,.d (.int .i64 a1)),(2,.d (.int .i64 a2)),(3,.d (.sl (cM aA.cells a3))),(8,.nil),(9,.own 10039 0),(14,.d (.sl (cM aA.cells a3))),(15,.d (.int .i64 (a3.length:Int))),(16,.d (.int .i64 p2))],[(10039,some (.rows 0 32 9 (cM aA.cells p3))),(800001,some (.outer [.d (.int .i64 a2)]))]⟩ (fun e s=>some (e,s)) = eW (fun (w:Int × (List aA))=>(⟨[(0,.d (.int .i64 a0)),(1,.d (.int .i64 a1)),(2,.d (.int .i64 a2)),(3,.d (.sl (cM aA.cells a3))),(8,.nil),(9,.own 10039 0),(14,.d (.sl (cM aA.cells a3))),(15,.d (.int .i64 (a3.length:Int))),(16,.d (.int .i64 w.1))],[(10039,some (.rows 0 32 9 (cM aA.cells w.2))),(800001,some (.outer [.d (.int .i64 a2)]))]⟩ : St)) (fun (r:(List aA))=>(((.exit 0),⟨[(0,.d (.int .i64 a0)),(1,.d (.int .i64 a1)),(2,.d (.int .i64 a2)),(3,.d (.sl (cM aA.cells a3))),(8,.nil),(9,.own 10039 0)],[(10039,some (.rows 0 32 9 (cM aA.cells r))),(800001,some (.outer [.d (.int .i64 a2)]))]⟩):Ex × St)) (fH a0 a1 a2 a3 p2 p3):=by
 simp -implicitDefEqProofs (decide:=true) (maxSteps:=2000000) only [oE,fH,↓cR,↓dO,↓mT,↓cX,↓dQ,↓sU,↓oL,↓DN,↓DR,DQ,DP,↓reduceIte,Int.reduceToNat,Nat.reduceBEq,Nat.reduceAdd,Nat.reduceLT,Nat.reduceLeDiff,Nat.reduceEqDiff,Int.reduceEq,ne_eq,zN,reduceCtorEq,bW,bZ,bY,zM,zA,zB,aK,zC,zD,if_true,if_false,zE,zF,aG,zG,aP,zH,zI,zJ,zK,aV,a8,aZ,aW,aY,aI,aO,aR,aJ,aS,aH,aU,bH,Vm.bind_map,aQ,aX,zL]
 all_goals try simp only [bN]
 all_goals try rfl
theorem qU {β:Type} (a0:Int) (a1:Int) (a2:Int) (a3:List aA) (p2:Int) (p3:List aA) (k:Ex→St→Option β):eH TT vO ⟨[(0,.d (.int .i64 a0)),(1,.d (.int .i64 a1)),(2,.d (.int .i64 a2)),(3,.d (.sl (cM aA.cells a3))),(8,.nil),(9,.own 10039 0),(14,.d (.sl (cM aA.cells a3))),(15,.d (.int .i64 (a3.length:Int))),(16,.d (.int .i64 p2))],[(10039,some (.rows 0 32 9 (cM aA.cells p3))),(800001,some (.outer [.d (.int .i64 a2)]))]⟩ k = (nK a0 a1 a2 a3 p2 p3).bind (fun (r:(List aA))=>k (.exit 0) ⟨[(0,.d (.int .i64 a0)),(1,.d (.int .i64 a1)),(2,.d (.int .i64 a2)),(3,.d (.sl (cM aA.cells a3))),(8,.nil),(9,.own 10039 0)],[(10039,some (.rows 0 32 9 (cM aA.cells r))),(800001,some (.outer [.d (.int .i64 a2)]))]⟩):=by
 have hh:=fun (w:Int × (List aA))=>EF a0 a1 a2 a3 w.1 w.2
 have h:=fun ho=>cP (T:=TT) (k:=k) (c:=oE) (step:=(fun (w:Int × (List aA))=>fH a0 a1 a2 a3 w.1 w.2)) _ _ ho hh (p2,p3)
 refine Eq.trans (h (fun r s e=>by have q:=congrArg Prod.fst e; rcases r with x <;> cases q)) ?_
 unfold nK
 exact bL _ fun x=>by rcases x with x <;> rfl
theorem EA (a0:Int) (a1:Int) (a2:Int) (a3:List aA) (r7:(List aA)) (p8:Int) (p9:List aA):eH TT oK ⟨[(0,.d (.int .i64 a0)),(1,.d (.int .i64 a1)),(2,.d (.int .i64 a2)),(8,.own 10074 0),(9,.own 10039 0),(41,.d (.sl (cM aA.cells a3))),(42,.d (.int .i64 (a3.length:Int))),(43,.d (.int .i64 p8))],[(10039,some (.rows 0 32 9 (cM aA.cells r7))),(10074,some (.rows 0 32 9 (cM aA.cells p9))),(800001,some (.outer [.d (.int .i64 a2)]))]⟩ (fun e s=>some (e,s)) = eW (fun (w:Int × (List aA))=>(⟨[(0,.d (.int .i64 a0)),(1,.d (.int .i64 a1)),(2,.d (.int .i64 a2)),(8,.own 10074 0),(9,.own 10039 0),(41,.d (.sl (cM aA.cells a3))),(42,.d (.int .i64 (a3.length:Int))),(43,.d (.int .i64 w.1))],[(10039,some (.rows 0 32 9 (cM aA.cells r7))),(10074,some (.rows 0 32 9 (cM aA.cells w.2))),(800001,some (.outer [.d (.int .i64 a2)]))]⟩ : St)) (fun (r:(List aA))=>(((.exit 2),⟨[(8,.own 10074 0),(9,.own 10039 0)],[(10039,some (.rows 0 32 9 (cM aA.cells r7))),(10074,some (.rows 0 32 9 (cM aA.cells r))),(800001,some (.outer [.d (.int .i64 a2)]))]⟩):Ex × St)) (fK a0 a1 a2 a3 r7 p8 p9):=by
 simp -implicitDefEqProofs (decide:=true) (maxSteps:=2000000) only [oK,fK,↓qU,↓cR,↓dO,↓mT,↓cX,↓dQ,↓sU,↓oL,↓DN,↓DR,DQ,DP,↓reduceIte,Int.reduceToNat,Nat.reduceBEq,Nat.reduceAdd,Nat.reduceLT,Nat.reduceLeDiff,Nat.reduceEqDiff,Int.reduceEq,ne_eq,zN,reduceCtorEq,bW,bZ,bY,zM,zA,zB,aK,zC,zD,if_true,if_false,zE,zF,aG,zG,aP,zH,zI,zJ,zK,aV,a8,aZ,aW,aY,aI,aO,aR,aJ,aS,aH,aU,bH,Vm.bind_map,aQ,aX,zL]
 all_goals try simp only [bN]
 all_goals try rfl
theorem vM {β:Type} (a0:Int) (a1:Int) (a2:Int) (a3:List aA) (r7:(List aA)) (p8:Int) (p9:List aA) (k:Ex→St→Option β):eH TT vP ⟨[(0,.d (.int .i64 a0)),(1,.d (.int .i64 a1)),(2,.d (.int .i64 a2)),(8,.own 10074 0),(9,.own 10039 0),(41,.d (.sl (cM aA.cells a3))),(42,.d (.int .i64 (a3.length:Int))),(43,.d (.int .i64 p8))],[(10039,some (.rows 0 32 9 (cM aA.cells r7))),(10074,some (.rows 0 32 9 (cM aA.cells p9))),(800001,some (.outer [.d (.int .i64 a2)]))]⟩ k = (nI a0 a1 a2 a3 r7 p8 p9).bind (fun (r:(List aA))=>k (.exit 2) ⟨[(8,.own 10074 0),(9,.own 10039 0)],[(10039,some (.rows 0 32 9 (cM aA.cells r7))),(10074,some (.rows 0 32 9 (cM aA.cells r))),(800001,some (.outer [.d (.int .i64 a2)]))]⟩):=by
 have hh:=fun (w:Int × (List aA))=>EA a0 a1 a2 a3 r7 w.1 w.2
 have h:=fun ho=>cP (T:=TT) (k:=k) (c:=oK) (step:=(fun (w:Int × (List aA))=>fK a0 a1 a2 a3 r7 w.1 w.2)) _ _ ho hh (p8,p9)
 refine Eq.trans (h (fun r s e=>by have q:=congrArg Prod.fst e; rcases r with x <;> cases q)) ?_
 unfold nI
 exact bL _ fun x=>by rcases x with x <;> rfl
theorem D4 (a2:Int) (r14:(List aA)) (r7:(List aA)) (p15:Int) (p16:List aA):eH TT oG ⟨[(2,.d (.int .i64 a2)),(9,.d (.ptr [.sl (cM aA.cells r14)] 0)),(10,.own 10039 0),(11,.d (.fn 25 [.ptr [.sl (cM aA.cells r14)] 0])),(12,.own 86 0),(31,.d (.sl (cM aA.cells r14))),(32,.d (.int .i64 (r14.length:Int))),(33,.d (.int .i64 p15))],[(86,some (.rows 0 32 9 (cM aA.cells p16))),(10039,some (.rows 0 32 9 (cM aA.cells r7)))]⟩ (fun e s=>some (e,s)) = eW (fun (w:Int × (List aA))=>(⟨[(2,.d (.int .i64 a2)),(9,.d (.ptr [.sl (cM aA.cells r14)] 0)),(10,.own 10039 0),(11,.d (.fn 25 [.ptr [.sl (cM aA.cells r14)] 0])),(12,.own 86 0),(31,.d (.sl (cM aA.cells r14))),(32,.d (.int .i64 (r14.length:Int))),(33,.d (.int .i64 w.1))],[(86,some (.rows 0 32 9 (cM aA.cells w.2))),(10039,some (.rows 0 32 9 (cM aA.cells r7)))]⟩ : St)) (fun (r:(List aA))=>(((.exit 0),⟨[(12,.own 86 0)],[(86,some (.rows 0 32 9 (cM aA.cells r)))]⟩):Ex × St)) (fJ a2 r14 r7 p15 p16):=by
 simp -implicitDefEqProofs (decide:=true) (maxSteps:=2000000) only [oG,fJ,↓qU,↓vM,↓cR,↓dO,↓mT,↓cX,↓dQ,↓sU,↓oL,↓DN,↓DR,DQ,DP,↓reduceIte,Int.reduceToNat,Nat.reduceBEq,Nat.reduceAdd,Nat.reduceLT,Nat.reduceLeDiff,Nat.reduceEqDiff,Int.reduceEq,ne_eq,zN,reduceCtorEq,bW,bZ,bY,zM,zA,zB,aK,zC,zD,if_true,if_false,zE,zF,aG,zG,aP,zH,zI,zJ,zK,aV,a8,aZ,aW,aY,aI,aO,aR,aJ,aS,aH,aU,bH,Vm.bind_map,aQ,aX,zL]
 all_goals try simp only [bN]
 all_goals try rfl
theorem EC {β:Type} (a2:Int) (r14:(List aA)) (r7:(List aA)) (p15:Int) (p16:List aA) (k:Ex→St→Option β):eH TT vU ⟨[(2,.d (.int .i64 a2)),(9,.d (.ptr [.sl (cM aA.cells r14)] 0)),(10,.own 10039 0),(11,.d (.fn 25 [.ptr [.sl (cM aA.cells r14)] 0])),(12,.own 86 0),(31,.d (.sl (cM aA.cells r14))),(32,.d (.int .i64 (r14.length:Int))),(33,.d (.int .i64 p15))],[(86,some (.rows 0 32 9 (cM aA.cells p16))),(10039,some (.rows 0 32 9 (cM aA.cells r7)))]⟩ k = (k6 a2 r14 r7 p15 p16).bind (fun (r:(List aA))=>k (.exit 0) ⟨[(12,.own 86 0)],[(86,some (.rows 0 32 9 (cM aA.cells r)))]⟩):=by
 have hh:=fun (w:Int × (List aA))=>D4 a2 r14 r7 w.1 w.2
 have h:=fun ho=>cP (T:=TT) (k:=k) (c:=oG) (step:=(fun (w:Int × (List aA))=>fJ a2 r14 r7 w.1 w.2)) _ _ ho hh (p15,p16)
 refine Eq.trans (h (fun r s e=>by have q:=congrArg Prod.fst e; rcases r with x <;> cases q)) ?_
 unfold k6
 exact bL _ fun x=>by rcases x with x <;> rfl
theorem GX (a0:Int) (a1:Int) (a2:Int) (a3:List aA):Vm.call TT 14 [.int .i64 a0,.int .i64 a1,.int .i64 a2,.sl (cM aA.cells a3)] = (dW a0 a1 a2 a3).map fun (r:(List aA))=>.sl (cM aA.cells r):=by
 refine (eC (show TT 14 = some (.code ⟨4,91,[.tmp 8],aGD,false,false⟩) from rfl) _ rfl rfl).trans ?_
 show eH TT aGD ⟨[(0,.d (.int .i64 a0)),(1,.d (.int .i64 a1)),(2,.d (.int .i64 a2)),(3,.d (.sl (cM aA.cells a3)))],[]⟩ _ = _
 simp -implicitDefEqProofs (decide:=true) (maxSteps:=2000000) only [aGD,dW,↓qU,↓vM,↓EC,↓cR,↓dO,↓mT,↓cX,↓dQ,↓sU,↓oL,↓DN,↓DR,DQ,DP,↓reduceIte,Int.reduceToNat,Nat.reduceBEq,Nat.reduceAdd,Nat.reduceLT,Nat.reduceLeDiff,Nat.reduceEqDiff,Int.reduceEq,ne_eq,zN,reduceCtorEq,bW,bZ,bY,zM,zA,zB,aK,zC,zD,if_true,if_false,zE,zF,aG,zG,aP,zH,zI,zJ,zK,aV,a8,aZ,aW,aY,aI,aO,aR,aJ,aS,aH,aU,bH,Vm.bind_map,aQ,aX,zL]
 all_goals try simp only [bN]
 all_goals try rfl
theorem bP {β:Type} (a0:Int) (a1:Int) (a2:Int) (a3:List aA) (d:Nat) (bl:List (Nat × Option aL)) (fz:List (Nat × Option aL)) (k:V→Option β) (kw:V→List (Nat × Option aL)→Option β):fY TT d bl 14 [.int .i64 a0,.int .i64 a1,.int .i64 a2,.sl (cM aA.cells a3)] fz k kw = (dW a0 a1 a2 a3).bind fun (r:(List aA))=>fzK fz (.d (.sl (cM aA.cells r))) k kw:=by
 have h:=GX a0 a1 a2 a3
 exact AZ h (fun _=>rfl) (fun _=>rfl) fz
theorem VL (a0:aA):Vm.call TT 67 [.agg a0.cells] = (uS a0).map fun (r:aE)=>.agg r.cells:=by
 refine (eC (show TT 67 = some (.code ⟨1,8,[.cell 2 2 true],aFx,false,false⟩) from rfl) _ rfl rfl).trans ?_
 show eH TT aFx ⟨[(0,n9 a0.cells)],[]⟩ _ = _
 simp -implicitDefEqProofs (decide:=true) (maxSteps:=2000000) only [aFx,uS,↓DN,↓DR,DQ,DP,↓reduceIte,Int.reduceToNat,Nat.reduceBEq,Nat.reduceAdd,Nat.reduceLT,Nat.reduceLeDiff,Nat.reduceEqDiff,Int.reduceEq,ne_eq,zN,reduceCtorEq,bW,bZ,bY,zM,zA,zB,aK,zC,zD,if_true,if_false,zE,zF,aG,zG,aP,zH,zI,zJ,zK,aV,a8,aZ,aW,aY,aI,aO,aR,aJ,aS,aH,aU,bH,Vm.bind_map,aQ,aX,zL]
 all_goals try simp only [bN]
 all_goals try rfl
theorem gL {β:Type} (a0:aA) (d:Nat) (bl:List (Nat × Option aL)) (fz:List (Nat × Option aL)) (k:V→Option β) (kw:V→List (Nat × Option aL)→Option β):fY TT d bl 67 [.agg a0.cells] fz k kw = (uS a0).bind fun (r:aE)=>k (n9 r.cells):=by
 have h:=VL a0
 exact cZ h (fun _=>rfl) fz
theorem AJ (a0:aA):Vm.call TT 69 [.agg a0.cells] = (kM a0).map fun (r:Int)=>.int .i64 r:=by
 refine (eC (show TT 69 = some (.code ⟨1,5,[.tmp 2],aF4,false,false⟩) from rfl) _ rfl rfl).trans ?_
 show eH TT aF4 ⟨[(0,n9 a0.cells)],[]⟩ _ = _
 simp -implicitDefEqProofs (decide:=true) (maxSteps:=2000000) only [aF4,kM,↓DN,↓DR,DQ,DP,↓reduceIte,Int.reduceToNat,Nat.reduceBEq,Nat.reduceAdd,Nat.reduceLT,Nat.reduceLeDiff,Nat.reduceEqDiff,Int.reduceEq,ne_eq,zN,reduceCtorEq,bW,bZ,bY,zM,zA,zB,aK,zC,zD,if_true,if_false,zE,zF,aG,zG,aP,zH,zI,zJ,zK,aV,a8,aZ,aW,aY,aI,aO,aR,aJ,aS,aH,aU,bH,Vm.bind_map,aQ,aX,zL]
 all_goals try simp only [bN]
 all_goals try rfl
theorem bO {β:Type} (a0:aA) (d:Nat) (bl:List (Nat × Option aL)) (fz:List (Nat × Option aL)) (k:V→Option β) (kw:V→List (Nat × Option aL)→Option β):fY TT d bl 69 [.agg a0.cells] fz k kw = (kM a0).bind fun (r:Int)=>k (.d (.int .i64 r)):=by
 have h:=AJ a0
 exact cZ h (fun _=>rfl) fz
theorem BZ (a0:Int) (a1:List aM) (p1:Int):eH TT nJ ⟨[(0,.d (.int .i64 a0)),(18,.d (.sl (cM aM.cells a1))),(19,.d (.int .i64 (a1.length:Int))),(20,.d (.int .i64 p1))],[]⟩ (fun e s=>some (e,s)) = eW (fun (w:Int)=>(⟨[(0,.d (.int .i64 a0)),(18,.d (.sl (cM aM.cells a1))),(19,.d (.int .i64 (a1.length:Int))),(20,.d (.int .i64 w))],[]⟩ : St)) (fun (r:Unit ⊕ Unit)=>Sum.elim (fun (z:Unit)=>(((.exit 0),⟨[],[]⟩):Ex × St)) (fun (z:Unit)=>((.ret,⟨[(4,.d (.bool false))],[]⟩):Ex × St)) r) (fA a0 a1 p1):=by
 simp -implicitDefEqProofs (decide:=true) (maxSteps:=2000000) only [nJ,fA,↓DN,↓DR,DQ,DP,↓reduceIte,Int.reduceToNat,Nat.reduceBEq,Nat.reduceAdd,Nat.reduceLT,Nat.reduceLeDiff,Nat.reduceEqDiff,Int.reduceEq,ne_eq,zN,reduceCtorEq,bW,bZ,bY,zM,zA,zB,aK,zC,zD,if_true,if_false,zE,zF,aG,zG,aP,zH,zI,zJ,zK,aV,a8,aZ,aW,aY,aI,aO,aR,aJ,aS,aH,aU,bH,Vm.bind_map,aQ,aX,zL]
 all_goals try simp only [bN]
 all_goals try rfl
theorem CW {β:Type} (a0:Int) (a1:List aM) (p1:Int) (k:Ex→St→Option β):eH TT u7 ⟨[(0,.d (.int .i64 a0)),(18,.d (.sl (cM aM.cells a1))),(19,.d (.int .i64 (a1.length:Int))),(20,.d (.int .i64 p1))],[]⟩ k = (mO a0 a1 p1).bind (fun (r:Unit ⊕ Unit)=>Sum.elim (fun (z:Unit)=>k (.exit 0) ⟨[],[]⟩) (fun (z:Unit)=>k .ret ⟨[(4,.d (.bool false))],[]⟩) r):=by
 have hh:=fun (w:Int)=>BZ a0 a1 w
 have h:=fun ho=>cP (T:=TT) (k:=k) (c:=nJ) (step:=(fun (w:Int)=>fA a0 a1 w)) _ _ ho hh p1
 refine Eq.trans (h (fun r s e=>by have q:=congrArg Prod.fst e; rcases r with x | x <;> cases q)) ?_
 unfold mO
 exact bL _ fun x=>by rcases x with x | x <;> rfl
theorem F9 (a0:Int) (a1:List aM):Vm.call TT 33 [.int .i64 a0,.sl (cM aM.cells a1)] = (k8 a0 a1).map fun (r:Bool)=>.bool r:=by
 refine (eC (show TT 33 = some (.code ⟨2,62,[.tmp 4],aGP,false,false⟩) from rfl) _ rfl rfl).trans ?_
 show eH TT aGP ⟨[(0,.d (.int .i64 a0)),(1,.d (.sl (cM aM.cells a1)))],[]⟩ _ = _
 simp -implicitDefEqProofs (decide:=true) (maxSteps:=2000000) only [aGP,k8,↓CW,↓DN,↓DR,DQ,DP,↓reduceIte,Int.reduceToNat,Nat.reduceBEq,Nat.reduceAdd,Nat.reduceLT,Nat.reduceLeDiff,Nat.reduceEqDiff,Int.reduceEq,ne_eq,zN,reduceCtorEq,bW,bZ,bY,zM,zA,zB,aK,zC,zD,if_true,if_false,zE,zF,aG,zG,aP,zH,zI,zJ,zK,aV,a8,aZ,aW,aY,aI,aO,aR,aJ,aS,aH,aU,bH,Vm.bind_map,aQ,aX,zL]
 all_goals try simp only [bN]
 all_goals try rfl
theorem s0 {β:Type} (a0:Int) (a1:List aM) (d:Nat) (bl:List (Nat × Option aL)) (fz:List (Nat × Option aL)) (k:V→Option β) (kw:V→List (Nat × Option aL)→Option β):fY TT d bl 33 [.int .i64 a0,.sl (cM aM.cells a1)] fz k kw = (k8 a0 a1).bind fun (r:Bool)=>k (.d (.bool r)):=by
 have h:=F9 a0 a1
 exact cZ h (fun _=>rfl) fz
theorem uY {β:Type} (a0:List aM) (a1:List Int) (p1:Int) (x3:aM) (p6:List aB) (k:Ex→St→Option β):eH TT qE ⟨[(1,.d (.sl (cM cI a1))),(5,.own 37 0),(6,.d (.int .i64 p1)),(7,.ptr 7 0),(8,.d (.sl (cM aM.cells a0))),(9,.d (.int .i64 (a0.length:Int))),(10,.d (.int .i64 p1))],[(7,some (.box (bQ x3.cells))),(37,some (.rows 0 73 6 (cM aB.cells p6)))]⟩ k = (kG a0 a1 p1 x3 p6).bind (fun (r:(List aB))=>k .normal ⟨[(1,.d (.sl (cM cI a1))),(5,.own 37 0),(8,.d (.sl (cM aM.cells a0))),(9,.d (.int .i64 (a0.length:Int))),(10,.d (.int .i64 p1))],[(37,some (.rows 0 73 6 (cM aB.cells r)))]⟩):=by
 simp -implicitDefEqProofs (decide:=true) (maxSteps:=2000000) only [qE,kG,↓DN,↓DR,DQ,DP,↓reduceIte,Int.reduceToNat,Nat.reduceBEq,Nat.reduceAdd,Nat.reduceLT,Nat.reduceLeDiff,Nat.reduceEqDiff,Int.reduceEq,ne_eq,zN,reduceCtorEq,bW,bZ,bY,zM,zA,zB,aK,zC,zD,if_true,if_false,zE,zF,aG,zG,aP,zH,zI,zJ,zK,aV,a8,aZ,aW,aY,aI,aO,aR,aJ,aS,aH,aU,bH,Vm.bind_map,aQ,aX,zL]
 all_goals try simp only [bN]
 all_goals try rfl
theorem CI (a0:List aM) (a1:List Int) (p1:Int) (p2:List aB):eH TT nH ⟨[(1,.d (.sl (cM cI a1))),(5,.own 37 0),(8,.d (.sl (cM aM.cells a0))),(9,.d (.int .i64 (a0.length:Int))),(10,.d (.int .i64 p1))],[(37,some (.rows 0 73 6 (cM aB.cells p2)))]⟩ (fun e s=>some (e,s)) = eW (fun (w:Int × (List aB))=>(⟨[(1,.d (.sl (cM cI a1))),(5,.own 37 0),(8,.d (.sl (cM aM.cells a0))),(9,.d (.int .i64 (a0.length:Int))),(10,.d (.int .i64 w.1))],[(37,some (.rows 0 73 6 (cM aB.cells w.2)))]⟩ : St)) (fun (r:(List aB))=>(((.exit 0),⟨[(5,.own 37 0)],[(37,some (.rows 0 73 6 (cM aB.cells r)))]⟩):Ex × St)) (eR a0 a1 p1 p2):=by
 simp -implicitDefEqProofs (decide:=true) (maxSteps:=2000000) only [nH,eR,↓uY,↓DN,↓DR,DQ,DP,↓reduceIte,Int.reduceToNat,Nat.reduceBEq,Nat.reduceAdd,Nat.reduceLT,Nat.reduceLeDiff,Nat.reduceEqDiff,Int.reduceEq,ne_eq,zN,reduceCtorEq,bW,bZ,bY,zM,zA,zB,aK,zC,zD,if_true,if_false,zE,zF,aG,zG,aP,zH,zI,zJ,zK,aV,a8,aZ,aW,aY,aI,aO,aR,aJ,aS,aH,aU,bH,Vm.bind_map,aQ,aX,zL]
 all_goals try simp only [bN]
 all_goals try rfl
theorem B2 {β:Type} (a0:List aM) (a1:List Int) (p1:Int) (p2:List aB) (k:Ex→St→Option β):eH TT u9 ⟨[(1,.d (.sl (cM cI a1))),(5,.own 37 0),(8,.d (.sl (cM aM.cells a0))),(9,.d (.int .i64 (a0.length:Int))),(10,.d (.int .i64 p1))],[(37,some (.rows 0 73 6 (cM aB.cells p2)))]⟩ k = (o8 a0 a1 p1 p2).bind (fun (r:(List aB))=>k (.exit 0) ⟨[(5,.own 37 0)],[(37,some (.rows 0 73 6 (cM aB.cells r)))]⟩):=by
 have hh:=fun (w:Int × (List aB))=>CI a0 a1 w.1 w.2
 have h:=fun ho=>cP (T:=TT) (k:=k) (c:=nH) (step:=(fun (w:Int × (List aB))=>eR a0 a1 w.1 w.2)) _ _ ho hh (p1,p2)
 refine Eq.trans (h (fun r s e=>by have q:=congrArg Prod.fst e; rcases r with x <;> cases q)) ?_
 unfold o8
 exact bL _ fun x=>by rcases x with x <;> rfl
theorem tK (a0:List aM) (a1:List Int):Vm.call TT 37 [.sl (cM aM.cells a0),.sl (cM cI a1)] = (gX a0 a1).map fun (r:(List aB))=>.own (.ref 0) [(73,6)] [cM aB.cells r]:=by
 refine (GE (show TT 37 = some (.code ⟨2,58,[.tmp 4],aFz,true,false⟩) from rfl) _ rfl rfl).trans ?_
 show eH TT aFz ⟨[(0,.d (.sl (cM aM.cells a0))),(1,.d (.sl (cM cI a1)))],[]⟩ _ = _
 simp -implicitDefEqProofs (decide:=true) (maxSteps:=2000000) only [aFz,gX,↓uY,↓B2,↓DN,↓DR,DQ,DP,↓reduceIte,Int.reduceToNat,Nat.reduceBEq,Nat.reduceAdd,Nat.reduceLT,Nat.reduceLeDiff,Nat.reduceEqDiff,Int.reduceEq,ne_eq,zN,reduceCtorEq,bW,bZ,bY,zM,zA,zB,aK,zC,zD,if_true,if_false,zE,zF,aG,zG,aP,zH,zI,zJ,zK,aV,a8,aZ,aW,aY,aI,aO,aR,aJ,aS,aH,aU,bH,Vm.bind_map,aQ,aX,zL]
 all_goals try simp only [bN]
 all_goals try rfl
theorem rH (a0:List Int) (a1:Int):Vm.call TT 66 [.sl (cM cI a0),.int .i64 a1] = (iA a0 a1).map fun (r:(List Int))=>.own (.ref 0) [(3,1)] [cM cI r] :=
 (aBl (show TT 66 = some (.told o66) from rfl) _ rfl).trans (aF8 3 a1 a0)
end Go.Proofs.Ytiimibimkpimbaa
