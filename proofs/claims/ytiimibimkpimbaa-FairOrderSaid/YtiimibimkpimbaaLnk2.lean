/- The functions of the small machine compute the plain definitions. Printed by a program. -/
import Derived.Test.YtiimibimkpimbaaLnk1
set_option linter.unusedVariables false
set_option linter.unusedSimpArgs false
namespace Go.Proofs.Ytiimibimkpimbaa
open Vm
open Go.RowKit
set_option maxRecDepth 100000
set_option maxHeartbeats 4000000
attribute [local congr] xL AL xD BA
theorem nV (a0:List aA) (a1:aA):Vm.call TT 29 [.sl (cM aA.cells a0),.agg a1.cells] = (cC a0 a1).map fun (r:Bool)=>.bool r:=by
 refine (dZ (show TT 29 = some (.code ⟨2,9,[.tmp 4],aFo,false,false⟩) from rfl) _ rfl rfl).trans ?_
 show eG TT aFo ⟨[(0,.d (.sl (cM aA.cells a0))),(1,nS a1.cells)],[]⟩ _ = _
 simp -implicitDefEqProofs (decide:=true) (maxSteps:=2000000) only [aFo,cC,↓oR,↓DN,↓DR,DQ,DP,↓reduceIte,Int.reduceToNat,Nat.reduceBEq,Nat.reduceAdd,Nat.reduceLT,Nat.reduceLeDiff,Nat.reduceEqDiff,Int.reduceEq,ne_eq,zN,reduceCtorEq,bY,b7,b8,zM,zA,zB,aL,zC,zD,if_true,if_false,zE,zF,aJ,zG,aO,zH,zI,zJ,zK,bA,aW,aY,a8,aX,aI,aQ,aS,aH,aP,aG,aV,bH,Vm.bind_map,aR,aZ,zL]
 all_goals try simp only [bP]
 all_goals try rfl
theorem dT {β:Type} (a0:List aA) (a1:aA) (d:Nat) (bl:List (Nat × Option aK)) (fz:List (Nat × Option aK)) (k:V→Option β) (kw:V→List (Nat × Option aK)→Option β):fP TT d bl 29 [.sl (cM aA.cells a0),.agg a1.cells] fz k kw = (cC a0 a1).bind fun (r:Bool)=>k (.d (.bool r)):=by
 have h:=nV a0 a1
 exact cZ h (fun _=>rfl) fz
theorem zO (a0:aA) (a1:Int) (a2:Int) (a3:Int):Vm.call TT 27 [.agg a0.cells,.ptr [.int .i64 a1] 0,.ptr [.int .i64 a2] 0,.ptr [.int .i64 a3] 0] = (iB a0 a1 a2 a3).map fun (r:Bool)=>.bool r:=by
 refine (dZ (show TT 27 = some (.code ⟨4,22,[.tmp 5],aHb,false,false⟩) from rfl) _ rfl rfl).trans ?_
 show eG TT aHb ⟨[(0,nS a0.cells),(1,.d (.ptr [.int .i64 a1] 0)),(2,.d (.ptr [.int .i64 a2] 0)),(3,.d (.ptr [.int .i64 a3] 0))],[]⟩ _ = _
 simp -implicitDefEqProofs (decide:=true) (maxSteps:=2000000) only [aHb,iB,↓DN,↓DR,DQ,DP,↓reduceIte,Int.reduceToNat,Nat.reduceBEq,Nat.reduceAdd,Nat.reduceLT,Nat.reduceLeDiff,Nat.reduceEqDiff,Int.reduceEq,ne_eq,zN,reduceCtorEq,bY,b7,b8,zM,zA,zB,aL,zC,zD,if_true,if_false,zE,zF,aJ,zG,aO,zH,zI,zJ,zK,bA,aW,aY,a8,aX,aI,aQ,aS,aH,aP,aG,aV,bH,Vm.bind_map,aR,aZ,zL]
 all_goals try simp only [bP]
 all_goals try rfl
theorem rR {β:Type} (a0:aA) (a1:Int) (a2:Int) (a3:Int) (d:Nat) (bl:List (Nat × Option aK)) (fz:List (Nat × Option aK)) (k:V→Option β) (kw:V→List (Nat × Option aK)→Option β):fP TT d bl 27 [.agg a0.cells,.ptr [.int .i64 a1] 0,.ptr [.int .i64 a2] 0,.ptr [.int .i64 a3] 0] fz k kw = (iB a0 a1 a2 a3).bind fun (r:Bool)=>k (.d (.bool r)):=by
 have h:=zO a0 a1 a2 a3
 exact cZ h (fun _=>rfl) fz
theorem k8 (a0:List aA) (a1:Int) (a2:Int) (a3:Int) (p1:Int):eG TT bC ⟨[(0,.d (.sl (cM aA.cells a0))),(1,.d (.fn 27 [.ptr [.int .i64 a1] 0,.ptr [.int .i64 a2] 0,.ptr [.int .i64 a3] 0])),(7,.d (.int .i64 (a0.length:Int))),(8,.d (.int .i64 p1))],[]⟩ (fun e s=>some (e,s)) = eR (fun (w:Int)=>(⟨[(0,.d (.sl (cM aA.cells a0))),(1,.d (.fn 27 [.ptr [.int .i64 a1] 0,.ptr [.int .i64 a2] 0,.ptr [.int .i64 a3] 0])),(7,.d (.int .i64 (a0.length:Int))),(8,.d (.int .i64 w))],[]⟩ : St)) (fun (r:Unit ⊕ Int)=>Sum.elim (fun (z:Unit)=>(((.exit 0),⟨[],[]⟩):Ex × St)) (fun (z:Int)=>((.ret,⟨[(4,.d (.int .i64 z))],[]⟩):Ex × St)) r) (bG a0 a1 a2 a3 p1):=by
 simp -implicitDefEqProofs (decide:=true) (maxSteps:=2000000) only [bC,bG,↓rR,↓DN,↓DR,DQ,DP,↓reduceIte,Int.reduceToNat,Nat.reduceBEq,Nat.reduceAdd,Nat.reduceLT,Nat.reduceLeDiff,Nat.reduceEqDiff,Int.reduceEq,ne_eq,zN,reduceCtorEq,bY,b7,b8,zM,zA,zB,aL,zC,zD,if_true,if_false,zE,zF,aJ,zG,aO,zH,zI,zJ,zK,bA,aW,aY,a8,aX,aI,aQ,aS,aH,aP,aG,aV,bH,Vm.bind_map,aR,aZ,zL]
 all_goals try simp only [bP]
 all_goals try rfl
theorem lD {β:Type} (a0:List aA) (a1:Int) (a2:Int) (a3:Int) (p1:Int) (k:Ex→St→Option β):eG TT dE ⟨[(0,.d (.sl (cM aA.cells a0))),(1,.d (.fn 27 [.ptr [.int .i64 a1] 0,.ptr [.int .i64 a2] 0,.ptr [.int .i64 a3] 0])),(7,.d (.int .i64 (a0.length:Int))),(8,.d (.int .i64 p1))],[]⟩ k = (dD a0 a1 a2 a3 p1).bind (fun (r:Unit ⊕ Int)=>Sum.elim (fun (z:Unit)=>k (.exit 0) ⟨[],[]⟩) (fun (z:Int)=>k .ret ⟨[(4,.d (.int .i64 z))],[]⟩) r):=by
 have hh:=fun (w:Int)=>k8 a0 a1 a2 a3 w
 have h:=fun ho=>cV (T:=TT) (k:=k) (c:=bC) (step:=(fun (w:Int)=>bG a0 a1 a2 a3 w)) _ _ ho hh p1
 refine Eq.trans (h (fun r s e=>by have q:=congrArg Prod.fst e; rcases r with x | x <;> cases q)) ?_
 unfold dD
 exact bM _ fun x=>by rcases x with x | x <;> rfl
theorem lU (a0:List aA) (a1:Int) (a2:Int) (a3:Int):Vm.call TT 40 [.sl (cM aA.cells a0),.fn 27 [.ptr [.int .i64 a1] 0,.ptr [.int .i64 a2] 0,.ptr [.int .i64 a3] 0]] = (cU a0 a1 a2 a3).map fun (r:Int)=>.int .i64 r:=by
 refine (dZ (show TT 40 = some (.code ⟨2,19,[.tmp 4],MF,false,false⟩) from rfl) _ rfl rfl).trans ?_
 show eG TT MF ⟨[(0,.d (.sl (cM aA.cells a0))),(1,.d (.fn 27 [.ptr [.int .i64 a1] 0,.ptr [.int .i64 a2] 0,.ptr [.int .i64 a3] 0]))],[]⟩ _ = _
 simp -implicitDefEqProofs (decide:=true) (maxSteps:=2000000) only [MF,cU,↓lD,↓rR,↓DN,↓DR,DQ,DP,↓reduceIte,Int.reduceToNat,Nat.reduceBEq,Nat.reduceAdd,Nat.reduceLT,Nat.reduceLeDiff,Nat.reduceEqDiff,Int.reduceEq,ne_eq,zN,reduceCtorEq,bY,b7,b8,zM,zA,zB,aL,zC,zD,if_true,if_false,zE,zF,aJ,zG,aO,zH,zI,zJ,zK,bA,aW,aY,a8,aX,aI,aQ,aS,aH,aP,aG,aV,bH,Vm.bind_map,aR,aZ,zL]
 all_goals try simp only [bP]
 all_goals try rfl
theorem lZ {β:Type} (a0:List aA) (a1:Int) (a2:Int) (a3:Int) (d:Nat) (bl:List (Nat × Option aK)) (fz:List (Nat × Option aK)) (k:V→Option β) (kw:V→List (Nat × Option aK)→Option β):fP TT d bl 40 [.sl (cM aA.cells a0),.fn 27 [.ptr [.int .i64 a1] 0,.ptr [.int .i64 a2] 0,.ptr [.int .i64 a3] 0]] fz k kw = (cU a0 a1 a2 a3).bind fun (r:Int)=>k (.d (.int .i64 r)):=by
 have h:=lU a0 a1 a2 a3
 exact cZ h (fun _=>rfl) fz
theorem lB (a0:List aA) (a1:Int) (a2:Int) (a3:Int):Vm.call TT 26 [.sl (cM aA.cells a0),.fn 27 [.ptr [.int .i64 a1] 0,.ptr [.int .i64 a2] 0,.ptr [.int .i64 a3] 0]] = (cD a0 a1 a2 a3).map fun (r:Bool)=>.bool r:=by
 refine (dZ (show TT 26 = some (.code ⟨2,9,[.tmp 4],MZ,false,false⟩) from rfl) _ rfl rfl).trans ?_
 show eG TT MZ ⟨[(0,.d (.sl (cM aA.cells a0))),(1,.d (.fn 27 [.ptr [.int .i64 a1] 0,.ptr [.int .i64 a2] 0,.ptr [.int .i64 a3] 0]))],[]⟩ _ = _
 simp -implicitDefEqProofs (decide:=true) (maxSteps:=2000000) only [MZ,cD,↓lZ,↓DN,↓DR,DQ,DP,↓reduceIte,Int.reduceToNat,Nat.reduceBEq,Nat.reduceAdd,Nat.reduceLT,Nat.reduceLeDiff,Nat.reduceEqDiff,Int.reduceEq,ne_eq,zN,reduceCtorEq,bY,b7,b8,zM,zA,zB,aL,zC,zD,if_true,if_false,zE,zF,aJ,zG,aO,zH,zI,zJ,zK,bA,aW,aY,a8,aX,aI,aQ,aS,aH,aP,aG,aV,bH,Vm.bind_map,aR,aZ,zL]
 all_goals try simp only [bP]
 all_goals try rfl
theorem k9 {β:Type} (a0:List aA) (a1:Int) (a2:Int) (a3:Int) (d:Nat) (bl:List (Nat × Option aK)) (fz:List (Nat × Option aK)) (k:V→Option β) (kw:V→List (Nat × Option aK)→Option β):fP TT d bl 26 [.sl (cM aA.cells a0),.fn 27 [.ptr [.int .i64 a1] 0,.ptr [.int .i64 a2] 0,.ptr [.int .i64 a3] 0]] fz k kw = (cD a0 a1 a2 a3).bind fun (r:Bool)=>k (.d (.bool r)):=by
 have h:=lB a0 a1 a2 a3
 exact cZ h (fun _=>rfl) fz
theorem BU (a0:Int) (a1:Int) (a2:Int) (a3:List aA):Vm.call TT 25 [.int .i64 a0,.int .i64 a1,.int .i64 a2,.ptr [.sl (cM aA.cells a3)] 0] = (gD a0 a1 a2 a3).map fun (r:Bool)=>.bool r:=by
 refine (dZ (show TT 25 = some (.code ⟨4,11,[.tmp 7],aHW,false,false⟩) from rfl) _ rfl rfl).trans ?_
 show eG TT aHW ⟨[(0,.d (.int .i64 a0)),(1,.d (.int .i64 a1)),(2,.d (.int .i64 a2)),(3,.d (.ptr [.sl (cM aA.cells a3)] 0))],[]⟩ _ = _
 simp -implicitDefEqProofs (decide:=true) (maxSteps:=2000000) only [aHW,gD,↓k9,↓DN,↓DR,DQ,DP,↓reduceIte,Int.reduceToNat,Nat.reduceBEq,Nat.reduceAdd,Nat.reduceLT,Nat.reduceLeDiff,Nat.reduceEqDiff,Int.reduceEq,ne_eq,zN,reduceCtorEq,bY,b7,b8,zM,zA,zB,aL,zC,zD,if_true,if_false,zE,zF,aJ,zG,aO,zH,zI,zJ,zK,bA,aW,aY,a8,aX,aI,aQ,aS,aH,aP,aG,aV,bH,Vm.bind_map,aR,aZ,zL]
 all_goals try simp only [bP]
 all_goals try rfl
theorem mM {β:Type} (a0:Int) (a1:Int) (a2:Int) (a3:List aA) (d:Nat) (bl:List (Nat × Option aK)) (fz:List (Nat × Option aK)) (k:V→Option β) (kw:V→List (Nat × Option aK)→Option β):fP TT d bl 25 [.int .i64 a0,.int .i64 a1,.int .i64 a2,.ptr [.sl (cM aA.cells a3)] 0] fz k kw = (gD a0 a1 a2 a3).bind fun (r:Bool)=>k (.d (.bool r)):=by
 have h:=BU a0 a1 a2 a3
 exact cZ h (fun _=>rfl) fz
theorem nW (a0:List aA):Vm.call TT 31 [.own (.ref 0) [(32,9)] [cM aA.cells a0],.fn 32 []] = (d9 a0).map fun (r:List aA)=>.own (.tup []) [(32,9)] [cM aA.cells r] :=
 (V7 (show TT 31 = some (.toldL o31) from rfl) _ rfl).trans (aCK aA.cells (fun _=>rfl) 32 32 (fun _=>rfl) a0)
theorem oE {β:Type} (r25:(List aA)) (bl:List (Nat × Option aK)) (kw:V→List (Nat × Option aK)→Option β):E9 TT bl 31 86 0 [.own (.ref 0) [(32,9)] [cM aA.cells r25],.fn 32 []] kw = (d9 r25).bind fun (r:(List aA))=>dG bl 86 fun b=>B6 0 32 9 (cM aA.cells r) b fun b2=>kw (.tup []) [(86,b2)]:=zU (nW r25) (fun _=>rfl) (fun _=>pJ _ (fun _=>rfl) _) 86 0
theorem D4 (a0:Int) (a1:Int) (a2:Int) (a3:List aA) (p2:Int) (p3:List aA):eG TT oA ⟨[(0,.d (.int .i64 a0)),(1,.d (.int .i64 a1)),(2,.d (.int .i64 a2)),(3,.d (.sl (cM aA.cells a3))),(8,.nil),(9,.own 10039 0),(14,.d (.sl (cM aA.cells a3))),(15,.d (.int .i64 (a3.length:Int))),(16,.d (.int .i64 p2))],[(10039,some (.rows 0 32 9 (cM aA.cells p3))),(800001,some (.outer [.d (.int .i64 a2)]))]⟩ (fun e s=>some (e,s)) = eR (fun (w:Int × (List aA))=>(⟨[(0,.d (.int .i64 a0)),(1,.d (.int .i64 a1)),(2,.d (.int .i64 a2)),(3,.d (.sl (cM aA.cells a3))),(8,.nil),(9,.own 10039 0),(14,.d (.sl (cM aA.cells a3))),(15,.d (.int .i64 (a3.length:Int))),(16,.d (.int .i64 w.1))],[(10039,some (.rows 0 32 9 (cM aA.cells w.2))),(800001,some (.outer [.d (.int .i64 a2)]))]⟩ : St)) (fun (r:(List aA))=>(((.exit 0),⟨[(0,.d (.int .i64 a0)),(1,.d (.int .i64 a1)),(2,.d (.int .i64 a2)),(3,.d (.sl (cM aA.cells a3))),(8,.nil),(9,.own 10039 0)],[(10039,some (.rows 0 32 9 (cM aA.cells r))),(800001,some (.outer [.d (.int .i64 a2)]))]⟩):Ex × St)) (fI a0 a1 a2 a3 p2 p3):=by
 simp -implicitDefEqProofs (decide:=true) (maxSteps:=2000000) only [oA,fI,↓cW,↓dL,↓mM,↓c9,↓dT,↓sX,↓oE,↓DN,↓DR,DQ,DP,↓reduceIte,Int.reduceToNat,Nat.reduceBEq,Nat.reduceAdd,Nat.reduceLT,Nat.reduceLeDiff,Nat.reduceEqDiff,Int.reduceEq,ne_eq,zN,reduceCtorEq,bY,b7,b8,zM,zA,zB,aL,zC,zD,if_true,if_false,zE,zF,aJ,zG,aO,zH,zI,zJ,zK,bA,aW,aY,a8,aX,aI,aQ,aS,aH,aP,aG,aV,bH,Vm.bind_map,aR,aZ,zL]
 all_goals try simp only [bP]
 all_goals try rfl
theorem qQ {β:Type} (a0:Int) (a1:Int) (a2:Int) (a3:List aA) (p2:Int) (p3:List aA) (k:Ex→St→Option β):eG TT vU ⟨[(0,.d (.int .i64 a0)),(1,.d (.int .i64 a1)),(2,.d (.int .i64 a2)),(3,.d (.sl (cM aA.cells a3))),(8,.nil),(9,.own 10039 0),(14,.d (.sl (cM aA.cells a3))),(15,.d (.int .i64 (a3.length:Int))),(16,.d (.int .i64 p2))],[(10039,some (.rows 0 32 9 (cM aA.cells p3))),(800001,some (.outer [.d (.int .i64 a2)]))]⟩ k = (nB a0 a1 a2 a3 p2 p3).bind (fun (r:(List aA))=>k (.exit 0) ⟨[(0,.d (.int .i64 a0)),(1,.d (.int .i64 a1)),(2,.d (.int .i64 a2)),(3,.d (.sl (cM aA.cells a3))),(8,.nil),(9,.own 10039 0)],[(10039,some (.rows 0 32 9 (cM aA.cells r))),(800001,some (.outer [.d (.int .i64 a2)]))]⟩):=by
 have hh:=fun (w:Int × (List aA))=>D4 a0 a1 a2 a3 w.1 w.2
 have h:=fun ho=>cV (T:=TT) (k:=k) (c:=oA) (step:=(fun (w:Int × (List aA))=>fI a0 a1 a2 a3 w.1 w.2)) _ _ ho hh (p2,p3)
 refine Eq.trans (h (fun r s e=>by have q:=congrArg Prod.fst e; rcases r with x <;> cases q)) ?_
 unfold nB
 exact bM _ fun x=>by rcases x with x <;> rfl
theorem D7 (a0:Int) (a1:Int) (a2:Int) (a3:List aA) (r7:(List aA)) (p8:Int) (p9:List aA):eG TT n9 ⟨[(0,.d (.int .i64 a0)),(1,.d (.int .i64 a1)),(2,.d (.int .i64 a2)),(8,.own 10074 0),(9,.own 10039 0),(41,.d (.sl (cM aA.cells a3))),(42,.d (.int .i64 (a3.length:Int))),(43,.d (.int .i64 p8))],[(10039,some (.rows 0 32 9 (cM aA.cells r7))),(10074,some (.rows 0 32 9 (cM aA.cells p9))),(800001,some (.outer [.d (.int .i64 a2)]))]⟩ (fun e s=>some (e,s)) = eR (fun (w:Int × (List aA))=>(⟨[(0,.d (.int .i64 a0)),(1,.d (.int .i64 a1)),(2,.d (.int .i64 a2)),(8,.own 10074 0),(9,.own 10039 0),(41,.d (.sl (cM aA.cells a3))),(42,.d (.int .i64 (a3.length:Int))),(43,.d (.int .i64 w.1))],[(10039,some (.rows 0 32 9 (cM aA.cells r7))),(10074,some (.rows 0 32 9 (cM aA.cells w.2))),(800001,some (.outer [.d (.int .i64 a2)]))]⟩ : St)) (fun (r:(List aA))=>(((.exit 2),⟨[(8,.own 10074 0),(9,.own 10039 0)],[(10039,some (.rows 0 32 9 (cM aA.cells r7))),(10074,some (.rows 0 32 9 (cM aA.cells r))),(800001,some (.outer [.d (.int .i64 a2)]))]⟩):Ex × St)) (fK a0 a1 a2 a3 r7 p8 p9):=by
 simp -implicitDefEqProofs (decide:=true) (maxSteps:=2000000) only [n9,fK,↓qQ,↓cW,↓dL,↓mM,↓c9,↓dT,↓sX,↓oE,↓DN,↓DR,DQ,DP,↓reduceIte,Int.reduceToNat,Nat.reduceBEq,Nat.reduceAdd,Nat.reduceLT,Nat.reduceLeDiff,Nat.reduceEqDiff,Int.reduceEq,ne_eq,zN,reduceCtorEq,bY,b7,b8,zM,zA,zB,aL,zC,zD,if_true,if_false,zE,zF,aJ,zG,aO,zH,zI,zJ,zK,bA,aW,aY,a8,aX,aI,aQ,aS,aH,aP,aG,aV,bH,Vm.bind_map,aR,aZ,zL]
 all_goals try simp only [bP]
 all_goals try rfl
theorem vM {β:Type} (a0:Int) (a1:Int) (a2:Int) (a3:List aA) (r7:(List aA)) (p8:Int) (p9:List aA) (k:Ex→St→Option β):eG TT vK ⟨[(0,.d (.int .i64 a0)),(1,.d (.int .i64 a1)),(2,.d (.int .i64 a2)),(8,.own 10074 0),(9,.own 10039 0),(41,.d (.sl (cM aA.cells a3))),(42,.d (.int .i64 (a3.length:Int))),(43,.d (.int .i64 p8))],[(10039,some (.rows 0 32 9 (cM aA.cells r7))),(10074,some (.rows 0 32 9 (cM aA.cells p9))),(800001,some (.outer [.d (.int .i64 a2)]))]⟩ k = (nM a0 a1 a2 a3 r7 p8 p9).bind (fun (r:(List aA))=>k (.exit 2) ⟨[(8,.own 10074 0),(9,.own 10039 0)],[(10039,some (.rows 0 32 9 (cM aA.cells r7))),(10074,some (.rows 0 32 9 (cM aA.cells r))),(800001,some (.outer [.d (.int .i64 a2)]))]⟩):=by
 have hh:=fun (w:Int × (List aA))=>D7 a0 a1 a2 a3 r7 w.1 w.2
 have h:=fun ho=>cV (T:=TT) (k:=k) (c:=n9) (step:=(fun (w:Int × (List aA))=>fK a0 a1 a2 a3 r7 w.1 w.2)) _ _ ho hh (p8,p9)
 refine Eq.trans (h (fun r s e=>by have q:=congrArg Prod.fst e; rcases r with x <;> cases q)) ?_
 unfold nM
 exact bM _ fun x=>by rcases x with x <;> rfl
theorem D3 (a2:Int) (r14:(List aA)) (r7:(List aA)) (p15:Int) (p16:List aA):eG TT nZ ⟨[(2,.d (.int .i64 a2)),(9,.d (.ptr [.sl (cM aA.cells r14)] 0)),(10,.own 10039 0),(11,.d (.fn 25 [.ptr [.sl (cM aA.cells r14)] 0])),(12,.own 86 0),(31,.d (.sl (cM aA.cells r14))),(32,.d (.int .i64 (r14.length:Int))),(33,.d (.int .i64 p15))],[(86,some (.rows 0 32 9 (cM aA.cells p16))),(10039,some (.rows 0 32 9 (cM aA.cells r7)))]⟩ (fun e s=>some (e,s)) = eR (fun (w:Int × (List aA))=>(⟨[(2,.d (.int .i64 a2)),(9,.d (.ptr [.sl (cM aA.cells r14)] 0)),(10,.own 10039 0),(11,.d (.fn 25 [.ptr [.sl (cM aA.cells r14)] 0])),(12,.own 86 0),(31,.d (.sl (cM aA.cells r14))),(32,.d (.int .i64 (r14.length:Int))),(33,.d (.int .i64 w.1))],[(86,some (.rows 0 32 9 (cM aA.cells w.2))),(10039,some (.rows 0 32 9 (cM aA.cells r7)))]⟩ : St)) (fun (r:(List aA))=>(((.exit 0),⟨[(12,.own 86 0)],[(86,some (.rows 0 32 9 (cM aA.cells r)))]⟩):Ex × St)) (fJ a2 r14 r7 p15 p16):=by
 simp -implicitDefEqProofs (decide:=true) (maxSteps:=2000000) only [nZ,fJ,↓qQ,↓vM,↓cW,↓dL,↓mM,↓c9,↓dT,↓sX,↓oE,↓DN,↓DR,DQ,DP,↓reduceIte,Int.reduceToNat,Nat.reduceBEq,Nat.reduceAdd,Nat.reduceLT,Nat.reduceLeDiff,Nat.reduceEqDiff,Int.reduceEq,ne_eq,zN,reduceCtorEq,bY,b7,b8,zM,zA,zB,aL,zC,zD,if_true,if_false,zE,zF,aJ,zG,aO,zH,zI,zJ,zK,bA,aW,aY,a8,aX,aI,aQ,aS,aH,aP,aG,aV,bH,Vm.bind_map,aR,aZ,zL]
 all_goals try simp only [bP]
 all_goals try rfl
theorem D6 {β:Type} (a2:Int) (r14:(List aA)) (r7:(List aA)) (p15:Int) (p16:List aA) (k:Ex→St→Option β):eG TT vV ⟨[(2,.d (.int .i64 a2)),(9,.d (.ptr [.sl (cM aA.cells r14)] 0)),(10,.own 10039 0),(11,.d (.fn 25 [.ptr [.sl (cM aA.cells r14)] 0])),(12,.own 86 0),(31,.d (.sl (cM aA.cells r14))),(32,.d (.int .i64 (r14.length:Int))),(33,.d (.int .i64 p15))],[(86,some (.rows 0 32 9 (cM aA.cells p16))),(10039,some (.rows 0 32 9 (cM aA.cells r7)))]⟩ k = (kK a2 r14 r7 p15 p16).bind (fun (r:(List aA))=>k (.exit 0) ⟨[(12,.own 86 0)],[(86,some (.rows 0 32 9 (cM aA.cells r)))]⟩):=by
 have hh:=fun (w:Int × (List aA))=>D3 a2 r14 r7 w.1 w.2
 have h:=fun ho=>cV (T:=TT) (k:=k) (c:=nZ) (step:=(fun (w:Int × (List aA))=>fJ a2 r14 r7 w.1 w.2)) _ _ ho hh (p15,p16)
 refine Eq.trans (h (fun r s e=>by have q:=congrArg Prod.fst e; rcases r with x <;> cases q)) ?_
 unfold kK
 exact bM _ fun x=>by rcases x with x <;> rfl
theorem G6 (a0:Int) (a1:Int) (a2:Int) (a3:List aA):Vm.call TT 14 [.int .i64 a0,.int .i64 a1,.int .i64 a2,.sl (cM aA.cells a3)] = (lT a0 a1 a2 a3).map fun (r:(List aA))=>.sl (cM aA.cells r):=by
 refine (dZ (show TT 14 = some (.code ⟨4,91,[.tmp 8],aGp,false,false⟩) from rfl) _ rfl rfl).trans ?_
 show eG TT aGp ⟨[(0,.d (.int .i64 a0)),(1,.d (.int .i64 a1)),(2,.d (.int .i64 a2)),(3,.d (.sl (cM aA.cells a3)))],[]⟩ _ = _
 simp -implicitDefEqProofs (decide:=true) (maxSteps:=2000000) only [aGp,lT,↓qQ,↓vM,↓D6,↓cW,↓dL,↓mM,↓c9,↓dT,↓sX,↓oE,↓DN,↓DR,DQ,DP,↓reduceIte,Int.reduceToNat,Nat.reduceBEq,Nat.reduceAdd,Nat.reduceLT,Nat.reduceLeDiff,Nat.reduceEqDiff,Int.reduceEq,ne_eq,zN,reduceCtorEq,bY,b7,b8,zM,zA,zB,aL,zC,zD,if_true,if_false,zE,zF,aJ,zG,aO,zH,zI,zJ,zK,bA,aW,aY,a8,aX,aI,aQ,aS,aH,aP,aG,aV,bH,Vm.bind_map,aR,aZ,zL]
 all_goals try simp only [bP]
 all_goals try rfl
theorem cO {β:Type} (a0:Int) (a1:Int) (a2:Int) (a3:List aA) (d:Nat) (bl:List (Nat × Option aK)) (fz:List (Nat × Option aK)) (k:V→Option β) (kw:V→List (Nat × Option aK)→Option β):fP TT d bl 14 [.int .i64 a0,.int .i64 a1,.int .i64 a2,.sl (cM aA.cells a3)] fz k kw = (lT a0 a1 a2 a3).bind fun (r:(List aA))=>fzK fz (.d (.sl (cM aA.cells r))) k kw:=by
 have h:=G6 a0 a1 a2 a3
 exact A6 h (fun _=>rfl) (fun _=>rfl) fz
theorem UT (a0:aA):Vm.call TT 67 [.agg a0.cells] = (uQ a0).map fun (r:aE)=>.agg r.cells:=by
 refine (dZ (show TT 67 = some (.code ⟨1,8,[.cell 2 2 true],aF6,false,false⟩) from rfl) _ rfl rfl).trans ?_
 show eG TT aF6 ⟨[(0,nS a0.cells)],[]⟩ _ = _
 simp -implicitDefEqProofs (decide:=true) (maxSteps:=2000000) only [aF6,uQ,↓DN,↓DR,DQ,DP,↓reduceIte,Int.reduceToNat,Nat.reduceBEq,Nat.reduceAdd,Nat.reduceLT,Nat.reduceLeDiff,Nat.reduceEqDiff,Int.reduceEq,ne_eq,zN,reduceCtorEq,bY,b7,b8,zM,zA,zB,aL,zC,zD,if_true,if_false,zE,zF,aJ,zG,aO,zH,zI,zJ,zK,bA,aW,aY,a8,aX,aI,aQ,aS,aH,aP,aG,aV,bH,Vm.bind_map,aR,aZ,zL]
 all_goals try simp only [bP]
 all_goals try rfl
theorem gE {β:Type} (a0:aA) (d:Nat) (bl:List (Nat × Option aK)) (fz:List (Nat × Option aK)) (k:V→Option β) (kw:V→List (Nat × Option aK)→Option β):fP TT d bl 67 [.agg a0.cells] fz k kw = (uQ a0).bind fun (r:aE)=>k (nS r.cells):=by
 have h:=UT a0
 exact cZ h (fun _=>rfl) fz
theorem AG (a0:aA):Vm.call TT 69 [.agg a0.cells] = (kC a0).map fun (r:Int)=>.int .i64 r:=by
 refine (dZ (show TT 69 = some (.code ⟨1,5,[.tmp 2],aGW,false,false⟩) from rfl) _ rfl rfl).trans ?_
 show eG TT aGW ⟨[(0,nS a0.cells)],[]⟩ _ = _
 simp -implicitDefEqProofs (decide:=true) (maxSteps:=2000000) only [aGW,kC,↓DN,↓DR,DQ,DP,↓reduceIte,Int.reduceToNat,Nat.reduceBEq,Nat.reduceAdd,Nat.reduceLT,Nat.reduceLeDiff,Nat.reduceEqDiff,Int.reduceEq,ne_eq,zN,reduceCtorEq,bY,b7,b8,zM,zA,zB,aL,zC,zD,if_true,if_false,zE,zF,aJ,zG,aO,zH,zI,zJ,zK,bA,aW,aY,a8,aX,aI,aQ,aS,aH,aP,aG,aV,bH,Vm.bind_map,aR,aZ,zL]
 all_goals try simp only [bP]
 all_goals try rfl
theorem bO {β:Type} (a0:aA) (d:Nat) (bl:List (Nat × Option aK)) (fz:List (Nat × Option aK)) (k:V→Option β) (kw:V→List (Nat × Option aK)→Option β):fP TT d bl 69 [.agg a0.cells] fz k kw = (kC a0).bind fun (r:Int)=>k (.d (.int .i64 r)):=by
 have h:=AG a0
 exact cZ h (fun _=>rfl) fz
theorem CU (a0:Int) (a1:List aM) (p1:Int):eG TT mW ⟨[(0,.d (.int .i64 a0)),(18,.d (.sl (cM aM.cells a1))),(19,.d (.int .i64 (a1.length:Int))),(20,.d (.int .i64 p1))],[]⟩ (fun e s=>some (e,s)) = eR (fun (w:Int)=>(⟨[(0,.d (.int .i64 a0)),(18,.d (.sl (cM aM.cells a1))),(19,.d (.int .i64 (a1.length:Int))),(20,.d (.int .i64 w))],[]⟩ : St)) (fun (r:Unit ⊕ Unit)=>Sum.elim (fun (z:Unit)=>(((.exit 0),⟨[],[]⟩):Ex × St)) (fun (z:Unit)=>((.ret,⟨[(4,.d (.bool false))],[]⟩):Ex × St)) r) (eY a0 a1 p1):=by
 simp -implicitDefEqProofs (decide:=true) (maxSteps:=2000000) only [mW,eY,↓DN,↓DR,DQ,DP,↓reduceIte,Int.reduceToNat,Nat.reduceBEq,Nat.reduceAdd,Nat.reduceLT,Nat.reduceLeDiff,Nat.reduceEqDiff,Int.reduceEq,ne_eq,zN,reduceCtorEq,bY,b7,b8,zM,zA,zB,aL,zC,zD,if_true,if_false,zE,zF,aJ,zG,aO,zH,zI,zJ,zK,bA,aW,aY,a8,aX,aI,aQ,aS,aH,aP,aG,aV,bH,Vm.bind_map,aR,aZ,zL]
 all_goals try simp only [bP]
 all_goals try rfl
theorem CZ {β:Type} (a0:Int) (a1:List aM) (p1:Int) (k:Ex→St→Option β):eG TT uN ⟨[(0,.d (.int .i64 a0)),(18,.d (.sl (cM aM.cells a1))),(19,.d (.int .i64 (a1.length:Int))),(20,.d (.int .i64 p1))],[]⟩ k = (lS a0 a1 p1).bind (fun (r:Unit ⊕ Unit)=>Sum.elim (fun (z:Unit)=>k (.exit 0) ⟨[],[]⟩) (fun (z:Unit)=>k .ret ⟨[(4,.d (.bool false))],[]⟩) r):=by
 have hh:=fun (w:Int)=>CU a0 a1 w
 have h:=fun ho=>cV (T:=TT) (k:=k) (c:=mW) (step:=(fun (w:Int)=>eY a0 a1 w)) _ _ ho hh p1
 refine Eq.trans (h (fun r s e=>by have q:=congrArg Prod.fst e; rcases r with x | x <;> cases q)) ?_
 unfold lS
 exact bM _ fun x=>by rcases x with x | x <;> rfl
theorem GA (a0:Int) (a1:List aM):Vm.call TT 33 [.int .i64 a0,.sl (cM aM.cells a1)] = (kV a0 a1).map fun (r:Bool)=>.bool r:=by
 refine (dZ (show TT 33 = some (.code ⟨2,62,[.tmp 4],aHQ,false,false⟩) from rfl) _ rfl rfl).trans ?_
 show eG TT aHQ ⟨[(0,.d (.int .i64 a0)),(1,.d (.sl (cM aM.cells a1)))],[]⟩ _ = _
 simp -implicitDefEqProofs (decide:=true) (maxSteps:=2000000) only [aHQ,kV,↓CZ,↓DN,↓DR,DQ,DP,↓reduceIte,Int.reduceToNat,Nat.reduceBEq,Nat.reduceAdd,Nat.reduceLT,Nat.reduceLeDiff,Nat.reduceEqDiff,Int.reduceEq,ne_eq,zN,reduceCtorEq,bY,b7,b8,zM,zA,zB,aL,zC,zD,if_true,if_false,zE,zF,aJ,zG,aO,zH,zI,zJ,zK,bA,aW,aY,a8,aX,aI,aQ,aS,aH,aP,aG,aV,bH,Vm.bind_map,aR,aZ,zL]
 all_goals try simp only [bP]
 all_goals try rfl
theorem sM {β:Type} (a0:Int) (a1:List aM) (d:Nat) (bl:List (Nat × Option aK)) (fz:List (Nat × Option aK)) (k:V→Option β) (kw:V→List (Nat × Option aK)→Option β):fP TT d bl 33 [.int .i64 a0,.sl (cM aM.cells a1)] fz k kw = (kV a0 a1).bind fun (r:Bool)=>k (.d (.bool r)):=by
 have h:=GA a0 a1
 exact cZ h (fun _=>rfl) fz
theorem uO {β:Type} (a0:List aM) (a1:List Int) (p1:Int) (x3:aM) (p6:List aB) (k:Ex→St→Option β):eG TT pV ⟨[(1,.d (.sl (cM cI a1))),(5,.own 37 0),(6,.d (.int .i64 p1)),(7,.ptr 7 0),(8,.d (.sl (cM aM.cells a0))),(9,.d (.int .i64 (a0.length:Int))),(10,.d (.int .i64 p1))],[(7,some (.box (bQ x3.cells))),(37,some (.rows 0 73 6 (cM aB.cells p6)))]⟩ k = (jZ a0 a1 p1 x3 p6).bind (fun (r:(List aB))=>k .normal ⟨[(1,.d (.sl (cM cI a1))),(5,.own 37 0),(8,.d (.sl (cM aM.cells a0))),(9,.d (.int .i64 (a0.length:Int))),(10,.d (.int .i64 p1))],[(37,some (.rows 0 73 6 (cM aB.cells r)))]⟩):=by
 simp -implicitDefEqProofs (decide:=true) (maxSteps:=2000000) only [pV,jZ,↓DN,↓DR,DQ,DP,↓reduceIte,Int.reduceToNat,Nat.reduceBEq,Nat.reduceAdd,Nat.reduceLT,Nat.reduceLeDiff,Nat.reduceEqDiff,Int.reduceEq,ne_eq,zN,reduceCtorEq,bY,b7,b8,zM,zA,zB,aL,zC,zD,if_true,if_false,zE,zF,aJ,zG,aO,zH,zI,zJ,zK,bA,aW,aY,a8,aX,aI,aQ,aS,aH,aP,aG,aV,bH,Vm.bind_map,aR,aZ,zL]
 all_goals try simp only [bP]
 all_goals try rfl
theorem CC (a0:List aM) (a1:List Int) (p1:Int) (p2:List aB):eG TT nF ⟨[(1,.d (.sl (cM cI a1))),(5,.own 37 0),(8,.d (.sl (cM aM.cells a0))),(9,.d (.int .i64 (a0.length:Int))),(10,.d (.int .i64 p1))],[(37,some (.rows 0 73 6 (cM aB.cells p2)))]⟩ (fun e s=>some (e,s)) = eR (fun (w:Int × (List aB))=>(⟨[(1,.d (.sl (cM cI a1))),(5,.own 37 0),(8,.d (.sl (cM aM.cells a0))),(9,.d (.int .i64 (a0.length:Int))),(10,.d (.int .i64 w.1))],[(37,some (.rows 0 73 6 (cM aB.cells w.2)))]⟩ : St)) (fun (r:(List aB))=>(((.exit 0),⟨[(5,.own 37 0)],[(37,some (.rows 0 73 6 (cM aB.cells r)))]⟩):Ex × St)) (eK a0 a1 p1 p2):=by
 simp -implicitDefEqProofs (decide:=true) (maxSteps:=2000000) only [nF,eK,↓uO,↓DN,↓DR,DQ,DP,↓reduceIte,Int.reduceToNat,Nat.reduceBEq,Nat.reduceAdd,Nat.reduceLT,Nat.reduceLeDiff,Nat.reduceEqDiff,Int.reduceEq,ne_eq,zN,reduceCtorEq,bY,b7,b8,zM,zA,zB,aL,zC,zD,if_true,if_false,zE,zF,aJ,zG,aO,zH,zI,zJ,zK,bA,aW,aY,a8,aX,aI,aQ,aS,aH,aP,aG,aV,bH,Vm.bind_map,aR,aZ,zL]
 all_goals try simp only [bP]
 all_goals try rfl
theorem C8 {β:Type} (a0:List aM) (a1:List Int) (p1:Int) (p2:List aB) (k:Ex→St→Option β):eG TT uZ ⟨[(1,.d (.sl (cM cI a1))),(5,.own 37 0),(8,.d (.sl (cM aM.cells a0))),(9,.d (.int .i64 (a0.length:Int))),(10,.d (.int .i64 p1))],[(37,some (.rows 0 73 6 (cM aB.cells p2)))]⟩ k = (oU a0 a1 p1 p2).bind (fun (r:(List aB))=>k (.exit 0) ⟨[(5,.own 37 0)],[(37,some (.rows 0 73 6 (cM aB.cells r)))]⟩):=by
 have hh:=fun (w:Int × (List aB))=>CC a0 a1 w.1 w.2
 have h:=fun ho=>cV (T:=TT) (k:=k) (c:=nF) (step:=(fun (w:Int × (List aB))=>eK a0 a1 w.1 w.2)) _ _ ho hh (p1,p2)
 refine Eq.trans (h (fun r s e=>by have q:=congrArg Prod.fst e; rcases r with x <;> cases q)) ?_
 unfold oU
 exact bM _ fun x=>by rcases x with x <;> rfl
theorem tA (a0:List aM) (a1:List Int):Vm.call TT 37 [.sl (cM aM.cells a0),.sl (cM cI a1)] = (gP a0 a1).map fun (r:(List aB))=>.own (.ref 0) [(73,6)] [cM aB.cells r]:=by
 refine (F6 (show TT 37 = some (.code ⟨2,58,[.tmp 4],aGX,true,false⟩) from rfl) _ rfl rfl).trans ?_
 show eG TT aGX ⟨[(0,.d (.sl (cM aM.cells a0))),(1,.d (.sl (cM cI a1)))],[]⟩ _ = _
 simp -implicitDefEqProofs (decide:=true) (maxSteps:=2000000) only [aGX,gP,↓uO,↓C8,↓DN,↓DR,DQ,DP,↓reduceIte,Int.reduceToNat,Nat.reduceBEq,Nat.reduceAdd,Nat.reduceLT,Nat.reduceLeDiff,Nat.reduceEqDiff,Int.reduceEq,ne_eq,zN,reduceCtorEq,bY,b7,b8,zM,zA,zB,aL,zC,zD,if_true,if_false,zE,zF,aJ,zG,aO,zH,zI,zJ,zK,bA,aW,aY,a8,aX,aI,aQ,aS,aH,aP,aG,aV,bH,Vm.bind_map,aR,aZ,zL]
 all_goals try simp only [bP]
 all_goals try rfl
theorem rD (a0:List Int) (a1:Int):Vm.call TT 66 [.sl (cM cI a0),.int .i64 a1] = (gX a0 a1).map fun (r:(List Int))=>.own (.ref 0) [(3,1)] [cM cI r] :=
 (aBq (show TT 66 = some (.told o66) from rfl) _ rfl).trans (aFn 3 a1 a0)
end Go.Proofs.Ytiimibimkpimbaa
