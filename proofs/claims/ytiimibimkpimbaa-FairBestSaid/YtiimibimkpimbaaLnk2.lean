/- The functions of the small machine compute the plain definitions. Printed by a program. -/
import Derived.Test.YtiimibimkpimbaaLnk1
set_option linter.unusedVariables false
set_option linter.unusedSimpArgs false
namespace Go.Proofs.Ytiimibimkpimbaa
open Vm
open Go.RowKit
set_option maxRecDepth 100000
set_option maxHeartbeats 4000000
attribute [local congr] yC BE yA A3
theorem oL (a0:List aA) (a1:aA):Vm.call TT 29 [.sl (cM aA.cells a0),.agg a1.cells] = (cC a0 a1).map fun (r:Bool)=>.bool r:=by
 refine (dO (show TT 29 = some (.code ⟨2,9,[.tmp 4],aHM,false,false⟩) from rfl) _ rfl rfl).trans ?_
 show dY TT aHM ⟨[(0,.d (.sl (cM aA.cells a0))),(1,oK a1.cells)],[]⟩ _ = _
 simp -implicitDefEqProofs (decide:=true) (maxSteps:=2000000) only [aHM,cC,↓pJ,↓DN,↓DR,DQ,DP,↓reduceIte,Int.reduceToNat,Nat.reduceBEq,Nat.reduceAdd,Nat.reduceLT,Nat.reduceLeDiff,Nat.reduceEqDiff,Int.reduceEq,ne_eq,zN,reduceCtorEq,bW,bZ,b7,zM,zA,zB,aL,zC,zD,if_true,if_false,zE,zF,aH,zG,aQ,zH,zI,zJ,zK,a8,aU,aZ,aX,aV,aI,aM,aR,aK,aP,aJ,aW,bG,Vm.bind_map,aO,aY,zL]
 all_goals try simp only [bN]
 all_goals try rfl
theorem dQ {β:Type} (a0:List aA) (a1:aA) (d:Nat) (bl:List (Nat × Option aS)) (fz:List (Nat × Option aS)) (k:V→Option β) (kw:V→List (Nat × Option aS)→Option β):fH TT d bl 29 [.sl (cM aA.cells a0),.agg a1.cells] fz k kw = (cC a0 a1).bind fun (r:Bool)=>k (.d (.bool r)):=by
 have h:=oL a0 a1
 exact cP h (fun _=>rfl) fz
theorem AU (a0:aA) (a1:Int) (a2:Int) (a3:Int):Vm.call TT 27 [.agg a0.cells,.ptr [.int .i64 a1] 0,.ptr [.int .i64 a2] 0,.ptr [.int .i64 a3] 0] = (iI a0 a1 a2 a3).map fun (r:Bool)=>.bool r:=by
 refine (dO (show TT 27 = some (.code ⟨4,22,[.tmp 5],aHU,false,false⟩) from rfl) _ rfl rfl).trans ?_
 show dY TT aHU ⟨[(0,oK a0.cells),(1,.d (.ptr [.int .i64 a1] 0)),(2,.d (.ptr [.int .i64 a2] 0)),(3,.d (.ptr [.int .i64 a3] 0))],[]⟩ _ = _
 simp -implicitDefEqProofs (decide:=true) (maxSteps:=2000000) only [aHU,iI,↓DN,↓DR,DQ,DP,↓reduceIte,Int.reduceToNat,Nat.reduceBEq,Nat.reduceAdd,Nat.reduceLT,Nat.reduceLeDiff,Nat.reduceEqDiff,Int.reduceEq,ne_eq,zN,reduceCtorEq,bW,bZ,b7,zM,zA,zB,aL,zC,zD,if_true,if_false,zE,zF,aH,zG,aQ,zH,zI,zJ,zK,a8,aU,aZ,aX,aV,aI,aM,aR,aK,aP,aJ,aW,bG,Vm.bind_map,aO,aY,zL]
 all_goals try simp only [bN]
 all_goals try rfl
theorem sV {β:Type} (a0:aA) (a1:Int) (a2:Int) (a3:Int) (d:Nat) (bl:List (Nat × Option aS)) (fz:List (Nat × Option aS)) (k:V→Option β) (kw:V→List (Nat × Option aS)→Option β):fH TT d bl 27 [.agg a0.cells,.ptr [.int .i64 a1] 0,.ptr [.int .i64 a2] 0,.ptr [.int .i64 a3] 0] fz k kw = (iI a0 a1 a2 a3).bind fun (r:Bool)=>k (.d (.bool r)):=by
 have h:=AU a0 a1 a2 a3
 exact cP h (fun _=>rfl) fz
theorem lE (a0:List aA) (a1:Int) (a2:Int) (a3:Int) (p1:Int):dY TT bC ⟨[(0,.d (.sl (cM aA.cells a0))),(1,.d (.fn 27 [.ptr [.int .i64 a1] 0,.ptr [.int .i64 a2] 0,.ptr [.int .i64 a3] 0])),(7,.d (.int .i64 (a0.length:Int))),(8,.d (.int .i64 p1))],[]⟩ (fun e s=>some (e,s)) = eE (fun (w:Int)=>(⟨[(0,.d (.sl (cM aA.cells a0))),(1,.d (.fn 27 [.ptr [.int .i64 a1] 0,.ptr [.int .i64 a2] 0,.ptr [.int .i64 a3] 0])),(7,.d (.int .i64 (a0.length:Int))),(8,.d (.int .i64 w))],[]⟩ : St)) (fun (r:Unit ⊕ Int)=>Sum.elim (fun (z:Unit)=>(((.exit 0),⟨[],[]⟩):Ex × St)) (fun (z:Int)=>((.ret,⟨[(4,.d (.int .i64 z))],[]⟩):Ex × St)) r) (bE a0 a1 a2 a3 p1):=by
 simp -implicitDefEqProofs (decide:=true) (maxSteps:=2000000) only [bC,bE,↓sV,↓DN,↓DR,DQ,DP,↓reduceIte,Int.reduceToNat,Nat.reduceBEq,Nat.reduceAdd,Nat.reduceLT,Nat.reduceLeDiff,Nat.reduceEqDiff,Int.reduceEq,ne_eq,zN,reduceCtorEq,bW,bZ,b7,zM,zA,zB,aL,zC,zD,if_true,if_false,zE,zF,aH,zG,aQ,zH,zI,zJ,zK,a8,aU,aZ,aX,aV,aI,aM,aR,aK,aP,aJ,aW,bG,Vm.bind_map,aO,aY,zL]
 all_goals try simp only [bN]
 all_goals try rfl
theorem lI {β:Type} (a0:List aA) (a1:Int) (a2:Int) (a3:Int) (p1:Int) (k:Ex→St→Option β):dY TT dD ⟨[(0,.d (.sl (cM aA.cells a0))),(1,.d (.fn 27 [.ptr [.int .i64 a1] 0,.ptr [.int .i64 a2] 0,.ptr [.int .i64 a3] 0])),(7,.d (.int .i64 (a0.length:Int))),(8,.d (.int .i64 p1))],[]⟩ k = (c9 a0 a1 a2 a3 p1).bind (fun (r:Unit ⊕ Int)=>Sum.elim (fun (z:Unit)=>k (.exit 0) ⟨[],[]⟩) (fun (z:Int)=>k .ret ⟨[(4,.d (.int .i64 z))],[]⟩) r):=by
 have hh:=fun (w:Int)=>lE a0 a1 a2 a3 w
 have h:=fun ho=>cG (T:=TT) (k:=k) (c:=bC) (step:=(fun (w:Int)=>bE a0 a1 a2 a3 w)) _ _ ho hh p1
 refine Eq.trans (h (fun r s e=>by have q:=congrArg Prod.fst e; rcases r with x | x <;> cases q)) ?_
 unfold c9
 exact bJ _ fun x=>by rcases x with x | x <;> rfl
theorem mQ (a0:List aA) (a1:Int) (a2:Int) (a3:Int):Vm.call TT 40 [.sl (cM aA.cells a0),.fn 27 [.ptr [.int .i64 a1] 0,.ptr [.int .i64 a2] 0,.ptr [.int .i64 a3] 0]] = (cO a0 a1 a2 a3).map fun (r:Int)=>.int .i64 r:=by
 refine (dO (show TT 40 = some (.code ⟨2,19,[.tmp 4],NM,false,false⟩) from rfl) _ rfl rfl).trans ?_
 show dY TT NM ⟨[(0,.d (.sl (cM aA.cells a0))),(1,.d (.fn 27 [.ptr [.int .i64 a1] 0,.ptr [.int .i64 a2] 0,.ptr [.int .i64 a3] 0]))],[]⟩ _ = _
 simp -implicitDefEqProofs (decide:=true) (maxSteps:=2000000) only [NM,cO,↓lI,↓sV,↓DN,↓DR,DQ,DP,↓reduceIte,Int.reduceToNat,Nat.reduceBEq,Nat.reduceAdd,Nat.reduceLT,Nat.reduceLeDiff,Nat.reduceEqDiff,Int.reduceEq,ne_eq,zN,reduceCtorEq,bW,bZ,b7,zM,zA,zB,aL,zC,zD,if_true,if_false,zE,zF,aH,zG,aQ,zH,zI,zJ,zK,a8,aU,aZ,aX,aV,aI,aM,aR,aK,aP,aJ,aW,bG,Vm.bind_map,aO,aY,zL]
 all_goals try simp only [bN]
 all_goals try rfl
theorem mV {β:Type} (a0:List aA) (a1:Int) (a2:Int) (a3:Int) (d:Nat) (bl:List (Nat × Option aS)) (fz:List (Nat × Option aS)) (k:V→Option β) (kw:V→List (Nat × Option aS)→Option β):fH TT d bl 40 [.sl (cM aA.cells a0),.fn 27 [.ptr [.int .i64 a1] 0,.ptr [.int .i64 a2] 0,.ptr [.int .i64 a3] 0]] fz k kw = (cO a0 a1 a2 a3).bind fun (r:Int)=>k (.d (.int .i64 r)):=by
 have h:=mQ a0 a1 a2 a3
 exact cP h (fun _=>rfl) fz
theorem lP (a0:List aA) (a1:Int) (a2:Int) (a3:Int):Vm.call TT 26 [.sl (cM aA.cells a0),.fn 27 [.ptr [.int .i64 a1] 0,.ptr [.int .i64 a2] 0,.ptr [.int .i64 a3] 0]] = (cD a0 a1 a2 a3).map fun (r:Bool)=>.bool r:=by
 refine (dO (show TT 26 = some (.code ⟨2,9,[.tmp 4],NE,false,false⟩) from rfl) _ rfl rfl).trans ?_
 show dY TT NE ⟨[(0,.d (.sl (cM aA.cells a0))),(1,.d (.fn 27 [.ptr [.int .i64 a1] 0,.ptr [.int .i64 a2] 0,.ptr [.int .i64 a3] 0]))],[]⟩ _ = _
 simp -implicitDefEqProofs (decide:=true) (maxSteps:=2000000) only [NE,cD,↓mV,↓DN,↓DR,DQ,DP,↓reduceIte,Int.reduceToNat,Nat.reduceBEq,Nat.reduceAdd,Nat.reduceLT,Nat.reduceLeDiff,Nat.reduceEqDiff,Int.reduceEq,ne_eq,zN,reduceCtorEq,bW,bZ,b7,zM,zA,zB,aL,zC,zD,if_true,if_false,zE,zF,aH,zG,aQ,zH,zI,zJ,zK,a8,aU,aZ,aX,aV,aI,aM,aR,aK,aP,aJ,aW,bG,Vm.bind_map,aO,aY,zL]
 all_goals try simp only [bN]
 all_goals try rfl
theorem lM {β:Type} (a0:List aA) (a1:Int) (a2:Int) (a3:Int) (d:Nat) (bl:List (Nat × Option aS)) (fz:List (Nat × Option aS)) (k:V→Option β) (kw:V→List (Nat × Option aS)→Option β):fH TT d bl 26 [.sl (cM aA.cells a0),.fn 27 [.ptr [.int .i64 a1] 0,.ptr [.int .i64 a2] 0,.ptr [.int .i64 a3] 0]] fz k kw = (cD a0 a1 a2 a3).bind fun (r:Bool)=>k (.d (.bool r)):=by
 have h:=lP a0 a1 a2 a3
 exact cP h (fun _=>rfl) fz
theorem CP (a0:Int) (a1:Int) (a2:Int) (a3:List aA):Vm.call TT 25 [.int .i64 a0,.int .i64 a1,.int .i64 a2,.ptr [.sl (cM aA.cells a3)] 0] = (gJ a0 a1 a2 a3).map fun (r:Bool)=>.bool r:=by
 refine (dO (show TT 25 = some (.code ⟨4,11,[.tmp 7],aGk,false,false⟩) from rfl) _ rfl rfl).trans ?_
 show dY TT aGk ⟨[(0,.d (.int .i64 a0)),(1,.d (.int .i64 a1)),(2,.d (.int .i64 a2)),(3,.d (.ptr [.sl (cM aA.cells a3)] 0))],[]⟩ _ = _
 simp -implicitDefEqProofs (decide:=true) (maxSteps:=2000000) only [aGk,gJ,↓lM,↓DN,↓DR,DQ,DP,↓reduceIte,Int.reduceToNat,Nat.reduceBEq,Nat.reduceAdd,Nat.reduceLT,Nat.reduceLeDiff,Nat.reduceEqDiff,Int.reduceEq,ne_eq,zN,reduceCtorEq,bW,bZ,b7,zM,zA,zB,aL,zC,zD,if_true,if_false,zE,zF,aH,zG,aQ,zH,zI,zJ,zK,a8,aU,aZ,aX,aV,aI,aM,aR,aK,aP,aJ,aW,bG,Vm.bind_map,aO,aY,zL]
 all_goals try simp only [bN]
 all_goals try rfl
theorem m8 {β:Type} (a0:Int) (a1:Int) (a2:Int) (a3:List aA) (d:Nat) (bl:List (Nat × Option aS)) (fz:List (Nat × Option aS)) (k:V→Option β) (kw:V→List (Nat × Option aS)→Option β):fH TT d bl 25 [.int .i64 a0,.int .i64 a1,.int .i64 a2,.ptr [.sl (cM aA.cells a3)] 0] fz k kw = (gJ a0 a1 a2 a3).bind fun (r:Bool)=>k (.d (.bool r)):=by
 have h:=CP a0 a1 a2 a3
 exact cP h (fun _=>rfl) fz
theorem oH (a0:List aA):Vm.call TT 31 [.own (.ref 0) [(32,9)] [cM aA.cells a0],.fn 32 []] = (dX a0).map fun (r:List aA)=>.own (.tup []) [(32,9)] [cM aA.cells r] :=
 (VC (show TT 31 = some (.toldL o31) from rfl) _ rfl).trans (aFv aA.cells (fun _=>rfl) 32 32 (fun _=>rfl) a0)
theorem o0 {β:Type} (r25:(List aA)) (bl:List (Nat × Option aS)) (kw:V→List (Nat × Option aS)→Option β):GX TT bl 31 86 0 [.own (.ref 0) [(32,9)] [cM aA.cells r25],.fn 32 []] kw = (dX r25).bind fun (r:(List aA))=>dG bl 86 fun b=>DH 0 32 9 (cM aA.cells r) b fun b2=>kw (.tup []) [(86,b2)]:=zV (oH r25) (fun _=>rfl) (fun _=>pM _ (fun _=>rfl) _) 86 0
theorem EX (a0:Int) (a1:Int) (a2:Int) (a3:List aA) (p2:Int) (p3:List aA):dY TT oU ⟨[(0,.d (.int .i64 a0)),(1,.d (.int .i64 a1)),(2,.d (.int .i64 a2)),(3,.d (.sl (cM aA.cells a3))),(8,.nil),(9,.own 10039 0),(14,.d (.sl (cM aA.cells a3))),(15,.d (.int .i64 (a3.length:Int))),(16,.d (.int .i64 p2))],[(10039,some (.rows 0 32 9 (cM aA.cells p3))),(800001,some (.outer [.d (.int .i64 a2)]))]⟩ (fun e s=>some (e,s)) = eE (fun (w:Int × (List aA))=>(⟨[(0,.d (.int .i64 a0)),(1,.d (.int .i64 a1)),(2,.d (.int .i64 a2)),(3,.d (.sl (cM aA.cells a3))),(8,.nil),(9,.own 10039 0),(14,.d (.sl (cM aA.cells a3))),(15,.d (.int .i64 (a3.length:Int))),(16,.d (.int .i64 w.1))],[(10039,some (.rows 0 32 9 (cM aA.cells w.2))),(800001,some (.outer [.d (.int .i64 a2)]))]⟩ : St)) (fun (r:(List aA))=>(((.exit 0),⟨[(0,.d (.int .i64 a0)),(1,.d (.int .i64 a1)),(2,.d (.int .i64 a2)),(3,.d (.sl (cM aA.cells a3))),(8,.nil),(9,.own 10039 0)],[(10039,some (.rows 0 32 9 (cM aA.cells r))),(800001,some (.outer [.d (.int .i64 a2)]))]⟩):Ex × St)) (fK a0 a1 a2 a3 p2 p3):=by
 simp -implicitDefEqProofs (decide:=true) (maxSteps:=2000000) only [oU,fK,↓cQ,↓dK,↓m8,↓cV,↓dQ,↓tR,↓o0,↓DN,↓DR,DQ,DP,↓reduceIte,Int.reduceToNat,Nat.reduceBEq,Nat.reduceAdd,Nat.reduceLT,Nat.reduceLeDiff,Nat.reduceEqDiff,Int.reduceEq,ne_eq,zN,reduceCtorEq,bW,bZ,b7,zM,zA,zB,aL,zC,zD,if_true,if_false,zE,zF,aH,zG,aQ,zH,zI,zJ,zK,a8,aU,aZ,aX,aV,aI,aM,aR,aK,aP,aJ,aW,bG,Vm.bind_map,aO,aY,zL]
 all_goals try simp only [bN]
 all_goals try rfl
theorem rQ {β:Type} (a0:Int) (a1:Int) (a2:Int) (a3:List aA) (p2:Int) (p3:List aA) (k:Ex→St→Option β):dY TT wL ⟨[(0,.d (.int .i64 a0)),(1,.d (.int .i64 a1)),(2,.d (.int .i64 a2)),(3,.d (.sl (cM aA.cells a3))),(8,.nil),(9,.own 10039 0),(14,.d (.sl (cM aA.cells a3))),(15,.d (.int .i64 (a3.length:Int))),(16,.d (.int .i64 p2))],[(10039,some (.rows 0 32 9 (cM aA.cells p3))),(800001,some (.outer [.d (.int .i64 a2)]))]⟩ k = (oE a0 a1 a2 a3 p2 p3).bind (fun (r:(List aA))=>k (.exit 0) ⟨[(0,.d (.int .i64 a0)),(1,.d (.int .i64 a1)),(2,.d (.int .i64 a2)),(3,.d (.sl (cM aA.cells a3))),(8,.nil),(9,.own 10039 0)],[(10039,some (.rows 0 32 9 (cM aA.cells r))),(800001,some (.outer [.d (.int .i64 a2)]))]⟩):=by
 have hh:=fun (w:Int × (List aA))=>EX a0 a1 a2 a3 w.1 w.2
 have h:=fun ho=>cG (T:=TT) (k:=k) (c:=oU) (step:=(fun (w:Int × (List aA))=>fK a0 a1 a2 a3 w.1 w.2)) _ _ ho hh (p2,p3)
 refine Eq.trans (h (fun r s e=>by have q:=congrArg Prod.fst e; rcases r with x <;> cases q)) ?_
 unfold oE
 exact bJ _ fun x=>by rcases x with x <;> rfl
theorem EV (a0:Int) (a1:Int) (a2:Int) (a3:List aA) (r7:(List aA)) (p8:Int) (p9:List aA):dY TT oS ⟨[(0,.d (.int .i64 a0)),(1,.d (.int .i64 a1)),(2,.d (.int .i64 a2)),(8,.own 10074 0),(9,.own 10039 0),(41,.d (.sl (cM aA.cells a3))),(42,.d (.int .i64 (a3.length:Int))),(43,.d (.int .i64 p8))],[(10039,some (.rows 0 32 9 (cM aA.cells r7))),(10074,some (.rows 0 32 9 (cM aA.cells p9))),(800001,some (.outer [.d (.int .i64 a2)]))]⟩ (fun e s=>some (e,s)) = eE (fun (w:Int × (List aA))=>(⟨[(0,.d (.int .i64 a0)),(1,.d (.int .i64 a1)),(2,.d (.int .i64 a2)),(8,.own 10074 0),(9,.own 10039 0),(41,.d (.sl (cM aA.cells a3))),(42,.d (.int .i64 (a3.length:Int))),(43,.d (.int .i64 w.1))],[(10039,some (.rows 0 32 9 (cM aA.cells r7))),(10074,some (.rows 0 32 9 (cM aA.cells w.2))),(800001,some (.outer [.d (.int .i64 a2)]))]⟩ : St)) (fun (r:(List aA))=>(((.exit 2),⟨[(8,.own 10074 0),(9,.own 10039 0)],[(10039,some (.rows 0 32 9 (cM aA.cells r7))),(10074,some (.rows 0 32 9 (cM aA.cells r))),(800001,some (.outer [.d (.int .i64 a2)]))]⟩):Ex × St)) (fJ a0 a1 a2 a3 r7 p8 p9):=by
 simp -implicitDefEqProofs (decide:=true) (maxSteps:=2000000) only [oS,fJ,↓rQ,↓cQ,↓dK,↓m8,↓cV,↓dQ,↓tR,↓o0,↓DN,↓DR,DQ,DP,↓reduceIte,Int.reduceToNat,Nat.reduceBEq,Nat.reduceAdd,Nat.reduceLT,Nat.reduceLeDiff,Nat.reduceEqDiff,Int.reduceEq,ne_eq,zN,reduceCtorEq,bW,bZ,b7,zM,zA,zB,aL,zC,zD,if_true,if_false,zE,zF,aH,zG,aQ,zH,zI,zJ,zK,a8,aU,aZ,aX,aV,aI,aM,aR,aK,aP,aJ,aW,bG,Vm.bind_map,aO,aY,zL]
 all_goals try simp only [bN]
 all_goals try rfl
theorem wC {β:Type} (a0:Int) (a1:Int) (a2:Int) (a3:List aA) (r7:(List aA)) (p8:Int) (p9:List aA) (k:Ex→St→Option β):dY TT wA ⟨[(0,.d (.int .i64 a0)),(1,.d (.int .i64 a1)),(2,.d (.int .i64 a2)),(8,.own 10074 0),(9,.own 10039 0),(41,.d (.sl (cM aA.cells a3))),(42,.d (.int .i64 (a3.length:Int))),(43,.d (.int .i64 p8))],[(10039,some (.rows 0 32 9 (cM aA.cells r7))),(10074,some (.rows 0 32 9 (cM aA.cells p9))),(800001,some (.outer [.d (.int .i64 a2)]))]⟩ k = (n7 a0 a1 a2 a3 r7 p8 p9).bind (fun (r:(List aA))=>k (.exit 2) ⟨[(8,.own 10074 0),(9,.own 10039 0)],[(10039,some (.rows 0 32 9 (cM aA.cells r7))),(10074,some (.rows 0 32 9 (cM aA.cells r))),(800001,some (.outer [.d (.int .i64 a2)]))]⟩):=by
 have hh:=fun (w:Int × (List aA))=>EV a0 a1 a2 a3 r7 w.1 w.2
 have h:=fun ho=>cG (T:=TT) (k:=k) (c:=oS) (step:=(fun (w:Int × (List aA))=>fJ a0 a1 a2 a3 r7 w.1 w.2)) _ _ ho hh (p8,p9)
 refine Eq.trans (h (fun r s e=>by have q:=congrArg Prod.fst e; rcases r with x <;> cases q)) ?_
 unfold n7
 exact bJ _ fun x=>by rcases x with x <;> rfl
theorem E0 (a2:Int) (r14:(List aA)) (r7:(List aA)) (p15:Int) (p16:List aA):dY TT oY ⟨[(2,.d (.int .i64 a2)),(9,.d (.ptr [.sl (cM aA.cells r14)] 0)),(10,.own 10039 0),(11,.d (.fn 25 [.ptr [.sl (cM aA.cells r14)] 0])),(12,.own 86 0),(31,.d (.sl (cM aA.cells r14))),(32,.d (.int .i64 (r14.length:Int))),(33,.d (.int .i64 p15))],[(86,some (.rows 0 32 9 (cM aA.cells p16))),(10039,some (.rows 0 32 9 (cM aA.cells r7)))]⟩ (fun e s=>some (e,s)) = eE (fun (w:Int × (List aA))=>(⟨[(2,.d (.int .i64 a2)),(9,.d (.ptr [.sl (cM aA.cells r14)] 0)),(10,.own 10039 0),(11,.d (.fn 25 [.ptr [.sl (cM aA.cells r14)] 0])),(12,.own 86 0),(31,.d (.sl (cM aA.cells r14))),(32,.d (.int .i64 (r14.length:Int))),(33,.d (.int .i64 w.1))],[(86,some (.rows 0 32 9 (cM aA.cells w.2))),(10039,some (.rows 0 32 9 (cM aA.cells r7)))]⟩ : St)) (fun (r:(List aA))=>(((.exit 0),⟨[(12,.own 86 0)],[(86,some (.rows 0 32 9 (cM aA.cells r)))]⟩):Ex × St)) (fL a2 r14 r7 p15 p16):=by
 simp -implicitDefEqProofs (decide:=true) (maxSteps:=2000000) only [oY,fL,↓rQ,↓wC,↓cQ,↓dK,↓m8,↓cV,↓dQ,↓tR,↓o0,↓DN,↓DR,DQ,DP,↓reduceIte,Int.reduceToNat,Nat.reduceBEq,Nat.reduceAdd,Nat.reduceLT,Nat.reduceLeDiff,Nat.reduceEqDiff,Int.reduceEq,ne_eq,zN,reduceCtorEq,bW,bZ,b7,zM,zA,zB,aL,zC,zD,if_true,if_false,zE,zF,aH,zG,aQ,zH,zI,zJ,zK,a8,aU,aZ,aX,aV,aI,aM,aR,aK,aP,aJ,aW,bG,Vm.bind_map,aO,aY,zL]
 all_goals try simp only [bN]
 all_goals try rfl
theorem EW {β:Type} (a2:Int) (r14:(List aA)) (r7:(List aA)) (p15:Int) (p16:List aA) (k:Ex→St→Option β):dY TT wD ⟨[(2,.d (.int .i64 a2)),(9,.d (.ptr [.sl (cM aA.cells r14)] 0)),(10,.own 10039 0),(11,.d (.fn 25 [.ptr [.sl (cM aA.cells r14)] 0])),(12,.own 86 0),(31,.d (.sl (cM aA.cells r14))),(32,.d (.int .i64 (r14.length:Int))),(33,.d (.int .i64 p15))],[(86,some (.rows 0 32 9 (cM aA.cells p16))),(10039,some (.rows 0 32 9 (cM aA.cells r7)))]⟩ k = (kQ a2 r14 r7 p15 p16).bind (fun (r:(List aA))=>k (.exit 0) ⟨[(12,.own 86 0)],[(86,some (.rows 0 32 9 (cM aA.cells r)))]⟩):=by
 have hh:=fun (w:Int × (List aA))=>E0 a2 r14 r7 w.1 w.2
 have h:=fun ho=>cG (T:=TT) (k:=k) (c:=oY) (step:=(fun (w:Int × (List aA))=>fL a2 r14 r7 w.1 w.2)) _ _ ho hh (p15,p16)
 refine Eq.trans (h (fun r s e=>by have q:=congrArg Prod.fst e; rcases r with x <;> cases q)) ?_
 unfold kQ
 exact bJ _ fun x=>by rcases x with x <;> rfl
theorem H0 (a0:Int) (a1:Int) (a2:Int) (a3:List aA):Vm.call TT 14 [.int .i64 a0,.int .i64 a1,.int .i64 a2,.sl (cM aA.cells a3)] = (kN a0 a1 a2 a3).map fun (r:(List aA))=>.sl (cM aA.cells r):=by
 refine (dO (show TT 14 = some (.code ⟨4,91,[.tmp 8],aIm,false,false⟩) from rfl) _ rfl rfl).trans ?_
 show dY TT aIm ⟨[(0,.d (.int .i64 a0)),(1,.d (.int .i64 a1)),(2,.d (.int .i64 a2)),(3,.d (.sl (cM aA.cells a3)))],[]⟩ _ = _
 simp -implicitDefEqProofs (decide:=true) (maxSteps:=2000000) only [aIm,kN,↓rQ,↓wC,↓EW,↓cQ,↓dK,↓m8,↓cV,↓dQ,↓tR,↓o0,↓DN,↓DR,DQ,DP,↓reduceIte,Int.reduceToNat,Nat.reduceBEq,Nat.reduceAdd,Nat.reduceLT,Nat.reduceLeDiff,Nat.reduceEqDiff,Int.reduceEq,ne_eq,zN,reduceCtorEq,bW,bZ,b7,zM,zA,zB,aL,zC,zD,if_true,if_false,zE,zF,aH,zG,aQ,zH,zI,zJ,zK,a8,aU,aZ,aX,aV,aI,aM,aR,aK,aP,aJ,aW,bG,Vm.bind_map,aO,aY,zL]
 all_goals try simp only [bN]
 all_goals try rfl
theorem bV {β:Type} (a0:Int) (a1:Int) (a2:Int) (a3:List aA) (d:Nat) (bl:List (Nat × Option aS)) (fz:List (Nat × Option aS)) (k:V→Option β) (kw:V→List (Nat × Option aS)→Option β):fH TT d bl 14 [.int .i64 a0,.int .i64 a1,.int .i64 a2,.sl (cM aA.cells a3)] fz k kw = (kN a0 a1 a2 a3).bind fun (r:(List aA))=>fzK fz (.d (.sl (cM aA.cells r))) k kw:=by
 have h:=H0 a0 a1 a2 a3
 exact BD h (fun _=>rfl) (fun _=>rfl) fz
theorem VB (a0:aA):Vm.call TT 67 [.agg a0.cells] = (vB a0).map fun (r:aE)=>.agg r.cells:=by
 refine (dO (show TT 67 = some (.code ⟨1,8,[.cell 2 2 true],aGQ,false,false⟩) from rfl) _ rfl rfl).trans ?_
 show dY TT aGQ ⟨[(0,oK a0.cells)],[]⟩ _ = _
 simp -implicitDefEqProofs (decide:=true) (maxSteps:=2000000) only [aGQ,vB,↓DN,↓DR,DQ,DP,↓reduceIte,Int.reduceToNat,Nat.reduceBEq,Nat.reduceAdd,Nat.reduceLT,Nat.reduceLeDiff,Nat.reduceEqDiff,Int.reduceEq,ne_eq,zN,reduceCtorEq,bW,bZ,b7,zM,zA,zB,aL,zC,zD,if_true,if_false,zE,zF,aH,zG,aQ,zH,zI,zJ,zK,a8,aU,aZ,aX,aV,aI,aM,aR,aK,aP,aJ,aW,bG,Vm.bind_map,aO,aY,zL]
 all_goals try simp only [bN]
 all_goals try rfl
theorem gK {β:Type} (a0:aA) (d:Nat) (bl:List (Nat × Option aS)) (fz:List (Nat × Option aS)) (k:V→Option β) (kw:V→List (Nat × Option aS)→Option β):fH TT d bl 67 [.agg a0.cells] fz k kw = (vB a0).bind fun (r:aE)=>k (oK r.cells):=by
 have h:=VB a0
 exact cP h (fun _=>rfl) fz
theorem AZ (a0:aA):Vm.call TT 69 [.agg a0.cells] = (kJ a0).map fun (r:Int)=>.int .i64 r:=by
 refine (dO (show TT 69 = some (.code ⟨1,5,[.tmp 2],aF3,false,false⟩) from rfl) _ rfl rfl).trans ?_
 show dY TT aF3 ⟨[(0,oK a0.cells)],[]⟩ _ = _
 simp -implicitDefEqProofs (decide:=true) (maxSteps:=2000000) only [aF3,kJ,↓DN,↓DR,DQ,DP,↓reduceIte,Int.reduceToNat,Nat.reduceBEq,Nat.reduceAdd,Nat.reduceLT,Nat.reduceLeDiff,Nat.reduceEqDiff,Int.reduceEq,ne_eq,zN,reduceCtorEq,bW,bZ,b7,zM,zA,zB,aL,zC,zD,if_true,if_false,zE,zF,aH,zG,aQ,zH,zI,zJ,zK,a8,aU,aZ,aX,aV,aI,aM,aR,aK,aP,aJ,aW,bG,Vm.bind_map,aO,aY,zL]
 all_goals try simp only [bN]
 all_goals try rfl
theorem bP {β:Type} (a0:aA) (d:Nat) (bl:List (Nat × Option aS)) (fz:List (Nat × Option aS)) (k:V→Option β) (kw:V→List (Nat × Option aS)→Option β):fH TT d bl 69 [.agg a0.cells] fz k kw = (kJ a0).bind fun (r:Int)=>k (.d (.int .i64 r)):=by
 have h:=AZ a0
 exact cP h (fun _=>rfl) fz
theorem DC (a0:Int) (a1:List aG) (p1:Int):dY TT nR ⟨[(0,.d (.int .i64 a0)),(18,.d (.sl (cM aG.cells a1))),(19,.d (.int .i64 (a1.length:Int))),(20,.d (.int .i64 p1))],[]⟩ (fun e s=>some (e,s)) = eE (fun (w:Int)=>(⟨[(0,.d (.int .i64 a0)),(18,.d (.sl (cM aG.cells a1))),(19,.d (.int .i64 (a1.length:Int))),(20,.d (.int .i64 w))],[]⟩ : St)) (fun (r:Unit ⊕ Unit)=>Sum.elim (fun (z:Unit)=>(((.exit 0),⟨[],[]⟩):Ex × St)) (fun (z:Unit)=>((.ret,⟨[(4,.d (.bool false))],[]⟩):Ex × St)) r) (e9 a0 a1 p1):=by
 simp -implicitDefEqProofs (decide:=true) (maxSteps:=2000000) only [nR,e9,↓DN,↓DR,DQ,DP,↓reduceIte,Int.reduceToNat,Nat.reduceBEq,Nat.reduceAdd,Nat.reduceLT,Nat.reduceLeDiff,Nat.reduceEqDiff,Int.reduceEq,ne_eq,zN,reduceCtorEq,bW,bZ,b7,zM,zA,zB,aL,zC,zD,if_true,if_false,zE,zF,aH,zG,aQ,zH,zI,zJ,zK,a8,aU,aZ,aX,aV,aI,aM,aR,aK,aP,aJ,aW,bG,Vm.bind_map,aO,aY,zL]
 all_goals try simp only [bN]
 all_goals try rfl
theorem DK {β:Type} (a0:Int) (a1:List aG) (p1:Int) (k:Ex→St→Option β):dY TT vK ⟨[(0,.d (.int .i64 a0)),(18,.d (.sl (cM aG.cells a1))),(19,.d (.int .i64 (a1.length:Int))),(20,.d (.int .i64 p1))],[]⟩ k = (mW a0 a1 p1).bind (fun (r:Unit ⊕ Unit)=>Sum.elim (fun (z:Unit)=>k (.exit 0) ⟨[],[]⟩) (fun (z:Unit)=>k .ret ⟨[(4,.d (.bool false))],[]⟩) r):=by
 have hh:=fun (w:Int)=>DC a0 a1 w
 have h:=fun ho=>cG (T:=TT) (k:=k) (c:=nR) (step:=(fun (w:Int)=>e9 a0 a1 w)) _ _ ho hh p1
 refine Eq.trans (h (fun r s e=>by have q:=congrArg Prod.fst e; rcases r with x | x <;> cases q)) ?_
 unfold mW
 exact bJ _ fun x=>by rcases x with x | x <;> rfl
theorem GF (a0:Int) (a1:List aG):Vm.call TT 33 [.int .i64 a0,.sl (cM aG.cells a1)] = (jT a0 a1).map fun (r:Bool)=>.bool r:=by
 refine (dO (show TT 33 = some (.code ⟨2,62,[.tmp 4],aIi,false,false⟩) from rfl) _ rfl rfl).trans ?_
 show dY TT aIi ⟨[(0,.d (.int .i64 a0)),(1,.d (.sl (cM aG.cells a1)))],[]⟩ _ = _
 simp -implicitDefEqProofs (decide:=true) (maxSteps:=2000000) only [aIi,jT,↓DK,↓DN,↓DR,DQ,DP,↓reduceIte,Int.reduceToNat,Nat.reduceBEq,Nat.reduceAdd,Nat.reduceLT,Nat.reduceLeDiff,Nat.reduceEqDiff,Int.reduceEq,ne_eq,zN,reduceCtorEq,bW,bZ,b7,zM,zA,zB,aL,zC,zD,if_true,if_false,zE,zF,aH,zG,aQ,zH,zI,zJ,zK,a8,aU,aZ,aX,aV,aI,aM,aR,aK,aP,aJ,aW,bG,Vm.bind_map,aO,aY,zL]
 all_goals try simp only [bN]
 all_goals try rfl
theorem jO {β:Type} (a0:Int) (a1:List aG) (d:Nat) (bl:List (Nat × Option aS)) (fz:List (Nat × Option aS)) (k:V→Option β) (kw:V→List (Nat × Option aS)→Option β):fH TT d bl 33 [.int .i64 a0,.sl (cM aG.cells a1)] fz k kw = (jT a0 a1).bind fun (r:Bool)=>k (.d (.bool r)):=by
 have h:=GF a0 a1
 exact cP h (fun _=>rfl) fz
theorem vO {β:Type} (a0:List aG) (a1:List Int) (p1:Int) (x3:aG) (p6:List aB) (k:Ex→St→Option β):dY TT qR ⟨[(1,.d (.sl (cM cI a1))),(5,.own 37 0),(6,.d (.int .i64 p1)),(7,.ptr 7 0),(8,.d (.sl (cM aG.cells a0))),(9,.d (.int .i64 (a0.length:Int))),(10,.d (.int .i64 p1))],[(7,some (.box (bQ x3.cells))),(37,some (.rows 0 73 6 (cM aB.cells p6)))]⟩ k = (kD a0 a1 p1 x3 p6).bind (fun (r:(List aB))=>k .normal ⟨[(1,.d (.sl (cM cI a1))),(5,.own 37 0),(8,.d (.sl (cM aG.cells a0))),(9,.d (.int .i64 (a0.length:Int))),(10,.d (.int .i64 p1))],[(37,some (.rows 0 73 6 (cM aB.cells r)))]⟩):=by
 simp -implicitDefEqProofs (decide:=true) (maxSteps:=2000000) only [qR,kD,↓DN,↓DR,DQ,DP,↓reduceIte,Int.reduceToNat,Nat.reduceBEq,Nat.reduceAdd,Nat.reduceLT,Nat.reduceLeDiff,Nat.reduceEqDiff,Int.reduceEq,ne_eq,zN,reduceCtorEq,bW,bZ,b7,zM,zA,zB,aL,zC,zD,if_true,if_false,zE,zF,aH,zG,aQ,zH,zI,zJ,zK,a8,aU,aZ,aX,aV,aI,aM,aR,aK,aP,aJ,aW,bG,Vm.bind_map,aO,aY,zL]
 all_goals try simp only [bN]
 all_goals try rfl
theorem DJ (a0:List aG) (a1:List Int) (p1:Int) (p2:List aB):dY TT oD ⟨[(1,.d (.sl (cM cI a1))),(5,.own 37 0),(8,.d (.sl (cM aG.cells a0))),(9,.d (.int .i64 (a0.length:Int))),(10,.d (.int .i64 p1))],[(37,some (.rows 0 73 6 (cM aB.cells p2)))]⟩ (fun e s=>some (e,s)) = eE (fun (w:Int × (List aB))=>(⟨[(1,.d (.sl (cM cI a1))),(5,.own 37 0),(8,.d (.sl (cM aG.cells a0))),(9,.d (.int .i64 (a0.length:Int))),(10,.d (.int .i64 w.1))],[(37,some (.rows 0 73 6 (cM aB.cells w.2)))]⟩ : St)) (fun (r:(List aB))=>(((.exit 0),⟨[(5,.own 37 0)],[(37,some (.rows 0 73 6 (cM aB.cells r)))]⟩):Ex × St)) (eN a0 a1 p1 p2):=by
 simp -implicitDefEqProofs (decide:=true) (maxSteps:=2000000) only [oD,eN,↓vO,↓DN,↓DR,DQ,DP,↓reduceIte,Int.reduceToNat,Nat.reduceBEq,Nat.reduceAdd,Nat.reduceLT,Nat.reduceLeDiff,Nat.reduceEqDiff,Int.reduceEq,ne_eq,zN,reduceCtorEq,bW,bZ,b7,zM,zA,zB,aL,zC,zD,if_true,if_false,zE,zF,aH,zG,aQ,zH,zI,zJ,zK,a8,aU,aZ,aX,aV,aI,aM,aR,aK,aP,aJ,aW,bG,Vm.bind_map,aO,aY,zL]
 all_goals try simp only [bN]
 all_goals try rfl
theorem CY {β:Type} (a0:List aG) (a1:List Int) (p1:Int) (p2:List aB) (k:Ex→St→Option β):dY TT vE ⟨[(1,.d (.sl (cM cI a1))),(5,.own 37 0),(8,.d (.sl (cM aG.cells a0))),(9,.d (.int .i64 (a0.length:Int))),(10,.d (.int .i64 p1))],[(37,some (.rows 0 73 6 (cM aB.cells p2)))]⟩ k = (pR a0 a1 p1 p2).bind (fun (r:(List aB))=>k (.exit 0) ⟨[(5,.own 37 0)],[(37,some (.rows 0 73 6 (cM aB.cells r)))]⟩):=by
 have hh:=fun (w:Int × (List aB))=>DJ a0 a1 w.1 w.2
 have h:=fun ho=>cG (T:=TT) (k:=k) (c:=oD) (step:=(fun (w:Int × (List aB))=>eN a0 a1 w.1 w.2)) _ _ ho hh (p1,p2)
 refine Eq.trans (h (fun r s e=>by have q:=congrArg Prod.fst e; rcases r with x <;> cases q)) ?_
 unfold pR
 exact bJ _ fun x=>by rcases x with x <;> rfl
theorem qD (a0:List aG) (a1:List Int):Vm.call TT 37 [.sl (cM aG.cells a0),.sl (cM cI a1)] = (fM a0 a1).map fun (r:(List aB))=>.own (.ref 0) [(73,6)] [cM aB.cells r]:=by
 refine (GJ (show TT 37 = some (.code ⟨2,58,[.tmp 4],aGp,true,false⟩) from rfl) _ rfl rfl).trans ?_
 show dY TT aGp ⟨[(0,.d (.sl (cM aG.cells a0))),(1,.d (.sl (cM cI a1)))],[]⟩ _ = _
 simp -implicitDefEqProofs (decide:=true) (maxSteps:=2000000) only [aGp,fM,↓vO,↓CY,↓DN,↓DR,DQ,DP,↓reduceIte,Int.reduceToNat,Nat.reduceBEq,Nat.reduceAdd,Nat.reduceLT,Nat.reduceLeDiff,Nat.reduceEqDiff,Int.reduceEq,ne_eq,zN,reduceCtorEq,bW,bZ,b7,zM,zA,zB,aL,zC,zD,if_true,if_false,zE,zF,aH,zG,aQ,zH,zI,zJ,zK,a8,aU,aZ,aX,aV,aI,aM,aR,aK,aP,aJ,aW,bG,Vm.bind_map,aO,aY,zL]
 all_goals try simp only [bN]
 all_goals try rfl
theorem rT (a0:List Int) (a1:Int):Vm.call TT 66 [.sl (cM cI a0),.int .i64 a1] = (hY a0 a1).map fun (r:(List Int))=>.own (.ref 0) [(3,1)] [cM cI r] :=
 (aAx (show TT 66 = some (.told o66) from rfl) _ rfl).trans (aHL 3 a1 a0)
end Go.Proofs.Ytiimibimkpimbaa
