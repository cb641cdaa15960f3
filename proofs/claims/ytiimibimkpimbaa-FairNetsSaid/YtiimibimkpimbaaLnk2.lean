/- The functions of the small machine compute the plain definitions. Printed by a program. -/
import Derived.Test.YtiimibimkpimbaaLnk1
set_option linter.unusedVariables false
set_option linter.unusedSimpArgs false
namespace Go.Proofs.Ytiimibimkpimbaa
open Vm
open Go.RowKit
set_option maxRecDepth 100000
set_option maxHeartbeats 4000000
attribute [local congr] yI BN yL BP
theorem oF (a0:List aA) (a1:aA):Vm.call TT 29 [.sl (cM aA.cells a0),.agg a1.cells] = (cD a0 a1).map fun (r:Bool)=>.bool r:=by
 refine (dZ (show TT 29 = some (.code ⟨2,9,[.tmp 4],aHu,false,false⟩) from rfl) _ rfl rfl).trans ?_
 show eG TT aHu ⟨[(0,.d (.sl (cM aA.cells a0))),(1,oJ a1.cells)],[]⟩ _ = _
 simp -implicitDefEqProofs (decide:=true) (maxSteps:=2000000) only [aHu,cD,↓pG,↓DN,↓DR,DQ,DP,↓reduceIte,Int.reduceToNat,Nat.reduceBEq,Nat.reduceAdd,Nat.reduceLT,Nat.reduceLeDiff,Nat.reduceEqDiff,Int.reduceEq,ne_eq,zN,reduceCtorEq,bW,b7,bZ,zM,zA,zB,aK,zC,zD,if_true,if_false,zE,zF,aJ,zG,aO,zH,zI,zJ,zK,a8,aY,aV,aU,aX,aG,aR,aQ,aI,aM,aH,aW,bH,Vm.bind_map,aP,aZ,zL]
 all_goals try simp only [bO]
 all_goals try rfl
theorem dT {β:Type} (a0:List aA) (a1:aA) (d:Nat) (bl:List (Nat × Option aL)) (fz:List (Nat × Option aL)) (k:V→Option β) (kw:V→List (Nat × Option aL)→Option β):fT TT d bl 29 [.sl (cM aA.cells a0),.agg a1.cells] fz k kw = (cD a0 a1).bind fun (r:Bool)=>k (.d (.bool r)):=by
 have h:=oF a0 a1
 exact cU h (fun _=>rfl) fz
theorem zY (a0:aA) (a1:Int) (a2:Int) (a3:Int):Vm.call TT 27 [.agg a0.cells,.ptr [.int .i64 a1] 0,.ptr [.int .i64 a2] 0,.ptr [.int .i64 a3] 0] = (iR a0 a1 a2 a3).map fun (r:Bool)=>.bool r:=by
 refine (dZ (show TT 27 = some (.code ⟨4,22,[.tmp 5],aF9,false,false⟩) from rfl) _ rfl rfl).trans ?_
 show eG TT aF9 ⟨[(0,oJ a0.cells),(1,.d (.ptr [.int .i64 a1] 0)),(2,.d (.ptr [.int .i64 a2] 0)),(3,.d (.ptr [.int .i64 a3] 0))],[]⟩ _ = _
 simp -implicitDefEqProofs (decide:=true) (maxSteps:=2000000) only [aF9,iR,↓DN,↓DR,DQ,DP,↓reduceIte,Int.reduceToNat,Nat.reduceBEq,Nat.reduceAdd,Nat.reduceLT,Nat.reduceLeDiff,Nat.reduceEqDiff,Int.reduceEq,ne_eq,zN,reduceCtorEq,bW,b7,bZ,zM,zA,zB,aK,zC,zD,if_true,if_false,zE,zF,aJ,zG,aO,zH,zI,zJ,zK,a8,aY,aV,aU,aX,aG,aR,aQ,aI,aM,aH,aW,bH,Vm.bind_map,aP,aZ,zL]
 all_goals try simp only [bO]
 all_goals try rfl
theorem sP {β:Type} (a0:aA) (a1:Int) (a2:Int) (a3:Int) (d:Nat) (bl:List (Nat × Option aL)) (fz:List (Nat × Option aL)) (k:V→Option β) (kw:V→List (Nat × Option aL)→Option β):fT TT d bl 27 [.agg a0.cells,.ptr [.int .i64 a1] 0,.ptr [.int .i64 a2] 0,.ptr [.int .i64 a3] 0] fz k kw = (iR a0 a1 a2 a3).bind fun (r:Bool)=>k (.d (.bool r)):=by
 have h:=zY a0 a1 a2 a3
 exact cU h (fun _=>rfl) fz
theorem lW (a0:List aA) (a1:Int) (a2:Int) (a3:Int) (p1:Int):eG TT bC ⟨[(0,.d (.sl (cM aA.cells a0))),(1,.d (.fn 27 [.ptr [.int .i64 a1] 0,.ptr [.int .i64 a2] 0,.ptr [.int .i64 a3] 0])),(7,.d (.int .i64 (a0.length:Int))),(8,.d (.int .i64 p1))],[]⟩ (fun e s=>some (e,s)) = eN (fun (w:Int)=>(⟨[(0,.d (.sl (cM aA.cells a0))),(1,.d (.fn 27 [.ptr [.int .i64 a1] 0,.ptr [.int .i64 a2] 0,.ptr [.int .i64 a3] 0])),(7,.d (.int .i64 (a0.length:Int))),(8,.d (.int .i64 w))],[]⟩ : St)) (fun (r:Unit ⊕ Int)=>Sum.elim (fun (z:Unit)=>(((.exit 0),⟨[],[]⟩):Ex × St)) (fun (z:Int)=>((.ret,⟨[(4,.d (.int .i64 z))],[]⟩):Ex × St)) r) (bE a0 a1 a2 a3 p1):=by
 simp -implicitDefEqProofs (decide:=true) (maxSteps:=2000000) only [bC,bE,↓sP,↓DN,↓DR,DQ,DP,↓reduceIte,Int.reduceToNat,Nat.reduceBEq,Nat.reduceAdd,Nat.reduceLT,Nat.reduceLeDiff,Nat.reduceEqDiff,Int.reduceEq,ne_eq,zN,reduceCtorEq,bW,b7,bZ,zM,zA,zB,aK,zC,zD,if_true,if_false,zE,zF,aJ,zG,aO,zH,zI,zJ,zK,a8,aY,aV,aU,aX,aG,aR,aQ,aI,aM,aH,aW,bH,Vm.bind_map,aP,aZ,zL]
 all_goals try simp only [bO]
 all_goals try rfl
theorem lO {β:Type} (a0:List aA) (a1:Int) (a2:Int) (a3:Int) (p1:Int) (k:Ex→St→Option β):eG TT dH ⟨[(0,.d (.sl (cM aA.cells a0))),(1,.d (.fn 27 [.ptr [.int .i64 a1] 0,.ptr [.int .i64 a2] 0,.ptr [.int .i64 a3] 0])),(7,.d (.int .i64 (a0.length:Int))),(8,.d (.int .i64 p1))],[]⟩ k = (dE a0 a1 a2 a3 p1).bind (fun (r:Unit ⊕ Int)=>Sum.elim (fun (z:Unit)=>k (.exit 0) ⟨[],[]⟩) (fun (z:Int)=>k .ret ⟨[(4,.d (.int .i64 z))],[]⟩) r):=by
 have hh:=fun (w:Int)=>lW a0 a1 a2 a3 w
 have h:=fun ho=>cG (T:=TT) (k:=k) (c:=bC) (step:=(fun (w:Int)=>bE a0 a1 a2 a3 w)) _ _ ho hh p1
 refine Eq.trans (h (fun r s e=>by have q:=congrArg Prod.fst e; rcases r with x | x <;> cases q)) ?_
 unfold dE
 exact bJ _ fun x=>by rcases x with x | x <;> rfl
theorem mR (a0:List aA) (a1:Int) (a2:Int) (a3:Int):Vm.call TT 40 [.sl (cM aA.cells a0),.fn 27 [.ptr [.int .i64 a1] 0,.ptr [.int .i64 a2] 0,.ptr [.int .i64 a3] 0]] = (cO a0 a1 a2 a3).map fun (r:Int)=>.int .i64 r:=by
 refine (dZ (show TT 40 = some (.code ⟨2,19,[.tmp 4],NT,false,false⟩) from rfl) _ rfl rfl).trans ?_
 show eG TT NT ⟨[(0,.d (.sl (cM aA.cells a0))),(1,.d (.fn 27 [.ptr [.int .i64 a1] 0,.ptr [.int .i64 a2] 0,.ptr [.int .i64 a3] 0]))],[]⟩ _ = _
 simp -implicitDefEqProofs (decide:=true) (maxSteps:=2000000) only [NT,cO,↓lO,↓sP,↓DN,↓DR,DQ,DP,↓reduceIte,Int.reduceToNat,Nat.reduceBEq,Nat.reduceAdd,Nat.reduceLT,Nat.reduceLeDiff,Nat.reduceEqDiff,Int.reduceEq,ne_eq,zN,reduceCtorEq,bW,b7,bZ,zM,zA,zB,aK,zC,zD,if_true,if_false,zE,zF,aJ,zG,aO,zH,zI,zJ,zK,a8,aY,aV,aU,aX,aG,aR,aQ,aI,aM,aH,aW,bH,Vm.bind_map,aP,aZ,zL]
 all_goals try simp only [bO]
 all_goals try rfl
theorem mP {β:Type} (a0:List aA) (a1:Int) (a2:Int) (a3:Int) (d:Nat) (bl:List (Nat × Option aL)) (fz:List (Nat × Option aL)) (k:V→Option β) (kw:V→List (Nat × Option aL)→Option β):fT TT d bl 40 [.sl (cM aA.cells a0),.fn 27 [.ptr [.int .i64 a1] 0,.ptr [.int .i64 a2] 0,.ptr [.int .i64 a3] 0]] fz k kw = (cO a0 a1 a2 a3).bind fun (r:Int)=>k (.d (.int .i64 r)):=by
 have h:=mR a0 a1 a2 a3
 exact cU h (fun _=>rfl) fz
theorem lV (a0:List aA) (a1:Int) (a2:Int) (a3:Int):Vm.call TT 26 [.sl (cM aA.cells a0),.fn 27 [.ptr [.int .i64 a1] 0,.ptr [.int .i64 a2] 0,.ptr [.int .i64 a3] 0]] = (cE a0 a1 a2 a3).map fun (r:Bool)=>.bool r:=by
 refine (dZ (show TT 26 = some (.code ⟨2,9,[.tmp 4],NI,false,false⟩) from rfl) _ rfl rfl).trans ?_
 show eG TT NI ⟨[(0,.d (.sl (cM aA.cells a0))),(1,.d (.fn 27 [.ptr [.int .i64 a1] 0,.ptr [.int .i64 a2] 0,.ptr [.int .i64 a3] 0]))],[]⟩ _ = _
 simp -implicitDefEqProofs (decide:=true) (maxSteps:=2000000) only [NI,cE,↓mP,↓DN,↓DR,DQ,DP,↓reduceIte,Int.reduceToNat,Nat.reduceBEq,Nat.reduceAdd,Nat.reduceLT,Nat.reduceLeDiff,Nat.reduceEqDiff,Int.reduceEq,ne_eq,zN,reduceCtorEq,bW,b7,bZ,zM,zA,zB,aK,zC,zD,if_true,if_false,zE,zF,aJ,zG,aO,zH,zI,zJ,zK,a8,aY,aV,aU,aX,aG,aR,aQ,aI,aM,aH,aW,bH,Vm.bind_map,aP,aZ,zL]
 all_goals try simp only [bO]
 all_goals try rfl
theorem lN {β:Type} (a0:List aA) (a1:Int) (a2:Int) (a3:Int) (d:Nat) (bl:List (Nat × Option aL)) (fz:List (Nat × Option aL)) (k:V→Option β) (kw:V→List (Nat × Option aL)→Option β):fT TT d bl 26 [.sl (cM aA.cells a0),.fn 27 [.ptr [.int .i64 a1] 0,.ptr [.int .i64 a2] 0,.ptr [.int .i64 a3] 0]] fz k kw = (cE a0 a1 a2 a3).bind fun (r:Bool)=>k (.d (.bool r)):=by
 have h:=lV a0 a1 a2 a3
 exact cU h (fun _=>rfl) fz
theorem CH (a0:Int) (a1:Int) (a2:Int) (a3:List aA):Vm.call TT 25 [.int .i64 a0,.int .i64 a1,.int .i64 a2,.ptr [.sl (cM aA.cells a3)] 0] = (gN a0 a1 a2 a3).map fun (r:Bool)=>.bool r:=by
 refine (dZ (show TT 25 = some (.code ⟨4,11,[.tmp 7],aIq,false,false⟩) from rfl) _ rfl rfl).trans ?_
 show eG TT aIq ⟨[(0,.d (.int .i64 a0)),(1,.d (.int .i64 a1)),(2,.d (.int .i64 a2)),(3,.d (.ptr [.sl (cM aA.cells a3)] 0))],[]⟩ _ = _
 simp -implicitDefEqProofs (decide:=true) (maxSteps:=2000000) only [aIq,gN,↓lN,↓DN,↓DR,DQ,DP,↓reduceIte,Int.reduceToNat,Nat.reduceBEq,Nat.reduceAdd,Nat.reduceLT,Nat.reduceLeDiff,Nat.reduceEqDiff,Int.reduceEq,ne_eq,zN,reduceCtorEq,bW,b7,bZ,zM,zA,zB,aK,zC,zD,if_true,if_false,zE,zF,aJ,zG,aO,zH,zI,zJ,zK,a8,aY,aV,aU,aX,aG,aR,aQ,aI,aM,aH,aW,bH,Vm.bind_map,aP,aZ,zL]
 all_goals try simp only [bO]
 all_goals try rfl
theorem nB {β:Type} (a0:Int) (a1:Int) (a2:Int) (a3:List aA) (d:Nat) (bl:List (Nat × Option aL)) (fz:List (Nat × Option aL)) (k:V→Option β) (kw:V→List (Nat × Option aL)→Option β):fT TT d bl 25 [.int .i64 a0,.int .i64 a1,.int .i64 a2,.ptr [.sl (cM aA.cells a3)] 0] fz k kw = (gN a0 a1 a2 a3).bind fun (r:Bool)=>k (.d (.bool r)):=by
 have h:=CH a0 a1 a2 a3
 exact cU h (fun _=>rfl) fz
theorem oK (a0:List aA):Vm.call TT 31 [.own (.ref 0) [(32,9)] [cM aA.cells a0],.fn 32 []] = (eC a0).map fun (r:List aA)=>.own (.tup []) [(32,9)] [cM aA.cells r] :=
 (YK (show TT 31 = some (.toldL o31) from rfl) _ rfl).trans (aEl aA.cells (fun _=>rfl) 32 32 (fun _=>rfl) a0)
theorem oZ {β:Type} (r25:(List aA)) (bl:List (Nat × Option aL)) (kw:V→List (Nat × Option aL)→Option β):GR TT bl 31 86 0 [.own (.ref 0) [(32,9)] [cM aA.cells r25],.fn 32 []] kw = (eC r25).bind fun (r:(List aA))=>dK bl 86 fun b=>CW 0 32 9 (cM aA.cells r) b fun b2=>kw (.tup []) [(86,b2)]:=AN (oK r25) (fun _=>rfl) (fun _=>qG _ (fun _=>rfl) _) 86 0
theorem E1 (a0:Int) (a1:Int) (a2:Int) (a3:List aA) (p2:Int) (p3:List aA):eG TT o0 ⟨[(0,.d (.int .i64 a0)),(1,.d (.int .i64 a1)),(2,.d (.int .i64 a2)),(3,.d (.sl (cM aA.cells a3))),(8,.nil),(9,.own 10039 0),(14,.d (.sl (cM aA.cells a3))),(15,.d (.int .i64 (a3.length:Int))),(16,.d (.int .i64 p2))],[(10039,some (.rows 0 32 9 (cM aA.cells p3))),(800001,some (.outer [.d (.int .i64 a2)]))]⟩ (fun e s=>some (e,s)) = eN (fun (w:Int × (List aA))=>(⟨[(0,.d (.int .i64 a0)),(1,.d (.int .i64 a1)),(2,.d (.int .i64 a2)),(3,.d (.sl (cM aA.cells a3))),(8,.nil),(9,.own 10039 0),(14,.d (.sl (cM aA.cells a3))),(15,.d (.int .i64 (a3.length:Int))),(16,.d (.int .i64 w.1))],[(10039,some (.rows 0 32 9 (cM aA.cells w.2))),(800001,some (.outer [.d (.int .i64 a2)]))]⟩ : St)) (fun (r:(List aA))=>(((.exit 0),⟨[(0,.d (.int .i64 a0)),(1,.d (.int .i64 a1)),(2,.d (.int .i64 a2)),(3,.d (.sl (cM aA.cells a3))),(8,.nil),(9,.own 10039 0)],[(10039,some (.rows 0 32 9 (cM aA.cells r))),(800001,some (.outer [.d (.int .i64 a2)]))]⟩):Ex × St)) (fS a0 a1 a2 a3 p2 p3):=by
 simp -implicitDefEqProofs (decide:=true) (maxSteps:=2000000) only [o0,fS,↓cR,↓dP,↓nB,↓cX,↓dT,↓uB,↓oZ,↓DN,↓DR,DQ,DP,↓reduceIte,Int.reduceToNat,Nat.reduceBEq,Nat.reduceAdd,Nat.reduceLT,Nat.reduceLeDiff,Nat.reduceEqDiff,Int.reduceEq,ne_eq,zN,reduceCtorEq,bW,b7,bZ,zM,zA,zB,aK,zC,zD,if_true,if_false,zE,zF,aJ,zG,aO,zH,zI,zJ,zK,a8,aY,aV,aU,aX,aG,aR,aQ,aI,aM,aH,aW,bH,Vm.bind_map,aP,aZ,zL]
 all_goals try simp only [bO]
 all_goals try rfl
theorem rJ {β:Type} (a0:Int) (a1:Int) (a2:Int) (a3:List aA) (p2:Int) (p3:List aA) (k:Ex→St→Option β):eG TT wG ⟨[(0,.d (.int .i64 a0)),(1,.d (.int .i64 a1)),(2,.d (.int .i64 a2)),(3,.d (.sl (cM aA.cells a3))),(8,.nil),(9,.own 10039 0),(14,.d (.sl (cM aA.cells a3))),(15,.d (.int .i64 (a3.length:Int))),(16,.d (.int .i64 p2))],[(10039,some (.rows 0 32 9 (cM aA.cells p3))),(800001,some (.outer [.d (.int .i64 a2)]))]⟩ k = (nZ a0 a1 a2 a3 p2 p3).bind (fun (r:(List aA))=>k (.exit 0) ⟨[(0,.d (.int .i64 a0)),(1,.d (.int .i64 a1)),(2,.d (.int .i64 a2)),(3,.d (.sl (cM aA.cells a3))),(8,.nil),(9,.own 10039 0)],[(10039,some (.rows 0 32 9 (cM aA.cells r))),(800001,some (.outer [.d (.int .i64 a2)]))]⟩):=by
 have hh:=fun (w:Int × (List aA))=>E1 a0 a1 a2 a3 w.1 w.2
 have h:=fun ho=>cG (T:=TT) (k:=k) (c:=o0) (step:=(fun (w:Int × (List aA))=>fS a0 a1 a2 a3 w.1 w.2)) _ _ ho hh (p2,p3)
 refine Eq.trans (h (fun r s e=>by have q:=congrArg Prod.fst e; rcases r with x <;> cases q)) ?_
 unfold nZ
 exact bJ _ fun x=>by rcases x with x <;> rfl
theorem EW (a0:Int) (a1:Int) (a2:Int) (a3:List aA) (r7:(List aA)) (p8:Int) (p9:List aA):eG TT oS ⟨[(0,.d (.int .i64 a0)),(1,.d (.int .i64 a1)),(2,.d (.int .i64 a2)),(8,.own 10074 0),(9,.own 10039 0),(41,.d (.sl (cM aA.cells a3))),(42,.d (.int .i64 (a3.length:Int))),(43,.d (.int .i64 p8))],[(10039,some (.rows 0 32 9 (cM aA.cells r7))),(10074,some (.rows 0 32 9 (cM aA.cells p9))),(800001,some (.outer [.d (.int .i64 a2)]))]⟩ (fun e s=>some (e,s)) = eN (fun (w:Int × (List aA))=>(⟨[(0,.d (.int .i64 a0)),(1,.d (.int .i64 a1)),(2,.d (.int .i64 a2)),(8,.own 10074 0),(9,.own 10039 0),(41,.d (.sl (cM aA.cells a3))),(42,.d (.int .i64 (a3.length:Int))),(43,.d (.int .i64 w.1))],[(10039,some (.rows 0 32 9 (cM aA.cells r7))),(10074,some (.rows 0 32 9 (cM aA.cells w.2))),(800001,some (.outer [.d (.int .i64 a2)]))]⟩ : St)) (fun (r:(List aA))=>(((.exit 2),⟨[(8,.own 10074 0),(9,.own 10039 0)],[(10039,some (.rows 0 32 9 (cM aA.cells r7))),(10074,some (.rows 0 32 9 (cM aA.cells r))),(800001,some (.outer [.d (.int .i64 a2)]))]⟩):Ex × St)) (fP a0 a1 a2 a3 r7 p8 p9):=by
 simp -implicitDefEqProofs (decide:=true) (maxSteps:=2000000) only [oS,fP,↓rJ,↓cR,↓dP,↓nB,↓cX,↓dT,↓uB,↓oZ,↓DN,↓DR,DQ,DP,↓reduceIte,Int.reduceToNat,Nat.reduceBEq,Nat.reduceAdd,Nat.reduceLT,Nat.reduceLeDiff,Nat.reduceEqDiff,Int.reduceEq,ne_eq,zN,reduceCtorEq,bW,b7,bZ,zM,zA,zB,aK,zC,zD,if_true,if_false,zE,zF,aJ,zG,aO,zH,zI,zJ,zK,a8,aY,aV,aU,aX,aG,aR,aQ,aI,aM,aH,aW,bH,Vm.bind_map,aP,aZ,zL]
 all_goals try simp only [bO]
 all_goals try rfl
theorem wH {β:Type} (a0:Int) (a1:Int) (a2:Int) (a3:List aA) (r7:(List aA)) (p8:Int) (p9:List aA) (k:Ex→St→Option β):eG TT wA ⟨[(0,.d (.int .i64 a0)),(1,.d (.int .i64 a1)),(2,.d (.int .i64 a2)),(8,.own 10074 0),(9,.own 10039 0),(41,.d (.sl (cM aA.cells a3))),(42,.d (.int .i64 (a3.length:Int))),(43,.d (.int .i64 p8))],[(10039,some (.rows 0 32 9 (cM aA.cells r7))),(10074,some (.rows 0 32 9 (cM aA.cells p9))),(800001,some (.outer [.d (.int .i64 a2)]))]⟩ k = (n8 a0 a1 a2 a3 r7 p8 p9).bind (fun (r:(List aA))=>k (.exit 2) ⟨[(8,.own 10074 0),(9,.own 10039 0)],[(10039,some (.rows 0 32 9 (cM aA.cells r7))),(10074,some (.rows 0 32 9 (cM aA.cells r))),(800001,some (.outer [.d (.int .i64 a2)]))]⟩):=by
 have hh:=fun (w:Int × (List aA))=>EW a0 a1 a2 a3 r7 w.1 w.2
 have h:=fun ho=>cG (T:=TT) (k:=k) (c:=oS) (step:=(fun (w:Int × (List aA))=>fP a0 a1 a2 a3 r7 w.1 w.2)) _ _ ho hh (p8,p9)
 refine Eq.trans (h (fun r s e=>by have q:=congrArg Prod.fst e; rcases r with x <;> cases q)) ?_
 unfold n8
 exact bJ _ fun x=>by rcases x with x <;> rfl
theorem EX (a2:Int) (r14:(List aA)) (r7:(List aA)) (p15:Int) (p16:List aA):eG TT oY ⟨[(2,.d (.int .i64 a2)),(9,.d (.ptr [.sl (cM aA.cells r14)] 0)),(10,.own 10039 0),(11,.d (.fn 25 [.ptr [.sl (cM aA.cells r14)] 0])),(12,.own 86 0),(31,.d (.sl (cM aA.cells r14))),(32,.d (.int .i64 (r14.length:Int))),(33,.d (.int .i64 p15))],[(86,some (.rows 0 32 9 (cM aA.cells p16))),(10039,some (.rows 0 32 9 (cM aA.cells r7)))]⟩ (fun e s=>some (e,s)) = eN (fun (w:Int × (List aA))=>(⟨[(2,.d (.int .i64 a2)),(9,.d (.ptr [.sl (cM aA.cells r14)] 0)),(10,.own 10039 0),(11,.d (.fn 25 [.ptr [.sl (cM aA.cells r14)] 0])),(12,.own 86 0),(31,.d (.sl (cM aA.cells r14))),(32,.d (.int .i64 (r14.length:Int))),(33,.d (.int .i64 w.1))],[(86,some (.rows 0 32 9 (cM aA.cells w.2))),(10039,some (.rows 0 32 9 (cM aA.cells r7)))]⟩ : St)) (fun (r:(List aA))=>(((.exit 0),⟨[(12,.own 86 0)],[(86,some (.rows 0 32 9 (cM aA.cells r)))]⟩):Ex × St)) (fR a2 r14 r7 p15 p16):=by
 simp -implicitDefEqProofs (decide:=true) (maxSteps:=2000000) only [oY,fR,↓rJ,↓wH,↓cR,↓dP,↓nB,↓cX,↓dT,↓uB,↓oZ,↓DN,↓DR,DQ,DP,↓reduceIte,Int.reduceToNat,Nat.reduceBEq,Nat.reduceAdd,Nat.reduceLT,Nat.reduceLeDiff,Nat.reduceEqDiff,Int.reduceEq,ne_eq,zN,reduceCtorEq,bW,b7,bZ,zM,zA,zB,aK,zC,zD,if_true,if_false,zE,zF,aJ,zG,aO,zH,zI,zJ,zK,a8,aY,aV,aU,aX,aG,aR,aQ,aI,aM,aH,aW,bH,Vm.bind_map,aP,aZ,zL]
 all_goals try simp only [bO]
 all_goals try rfl
theorem E0 {β:Type} (a2:Int) (r14:(List aA)) (r7:(List aA)) (p15:Int) (p16:List aA) (k:Ex→St→Option β):eG TT wI ⟨[(2,.d (.int .i64 a2)),(9,.d (.ptr [.sl (cM aA.cells r14)] 0)),(10,.own 10039 0),(11,.d (.fn 25 [.ptr [.sl (cM aA.cells r14)] 0])),(12,.own 86 0),(31,.d (.sl (cM aA.cells r14))),(32,.d (.int .i64 (r14.length:Int))),(33,.d (.int .i64 p15))],[(86,some (.rows 0 32 9 (cM aA.cells p16))),(10039,some (.rows 0 32 9 (cM aA.cells r7)))]⟩ k = (lB a2 r14 r7 p15 p16).bind (fun (r:(List aA))=>k (.exit 0) ⟨[(12,.own 86 0)],[(86,some (.rows 0 32 9 (cM aA.cells r)))]⟩):=by
 have hh:=fun (w:Int × (List aA))=>EX a2 r14 r7 w.1 w.2
 have h:=fun ho=>cG (T:=TT) (k:=k) (c:=oY) (step:=(fun (w:Int × (List aA))=>fR a2 r14 r7 w.1 w.2)) _ _ ho hh (p15,p16)
 refine Eq.trans (h (fun r s e=>by have q:=congrArg Prod.fst e; rcases r with x <;> cases q)) ?_
 unfold lB
 exact bJ _ fun x=>by rcases x with x <;> rfl
theorem IB (a0:Int) (a1:Int) (a2:Int) (a3:List aA):Vm.call TT 14 [.int .i64 a0,.int .i64 a1,.int .i64 a2,.sl (cM aA.cells a3)] = (iS a0 a1 a2 a3).map fun (r:(List aA))=>.sl (cM aA.cells r):=by
 refine (dZ (show TT 14 = some (.code ⟨4,91,[.tmp 8],aHS,false,false⟩) from rfl) _ rfl rfl).trans ?_
 show eG TT aHS ⟨[(0,.d (.int .i64 a0)),(1,.d (.int .i64 a1)),(2,.d (.int .i64 a2)),(3,.d (.sl (cM aA.cells a3)))],[]⟩ _ = _
 simp -implicitDefEqProofs (decide:=true) (maxSteps:=2000000) only [aHS,iS,↓rJ,↓wH,↓E0,↓cR,↓dP,↓nB,↓cX,↓dT,↓uB,↓oZ,↓DN,↓DR,DQ,DP,↓reduceIte,Int.reduceToNat,Nat.reduceBEq,Nat.reduceAdd,Nat.reduceLT,Nat.reduceLeDiff,Nat.reduceEqDiff,Int.reduceEq,ne_eq,zN,reduceCtorEq,bW,b7,bZ,zM,zA,zB,aK,zC,zD,if_true,if_false,zE,zF,aJ,zG,aO,zH,zI,zJ,zK,a8,aY,aV,aU,aX,aG,aR,aQ,aI,aM,aH,aW,bH,Vm.bind_map,aP,aZ,zL]
 all_goals try simp only [bO]
 all_goals try rfl
theorem bQ {β:Type} (a0:Int) (a1:Int) (a2:Int) (a3:List aA) (d:Nat) (bl:List (Nat × Option aL)) (fz:List (Nat × Option aL)) (k:V→Option β) (kw:V→List (Nat × Option aL)→Option β):fT TT d bl 14 [.int .i64 a0,.int .i64 a1,.int .i64 a2,.sl (cM aA.cells a3)] fz k kw = (iS a0 a1 a2 a3).bind fun (r:(List aA))=>fzK fz (.d (.sl (cM aA.cells r))) k kw:=by
 have h:=IB a0 a1 a2 a3
 exact A8 h (fun _=>rfl) (fun _=>rfl) fz
theorem U9 (a0:aA):Vm.call TT 67 [.agg a0.cells] = (vA a0).map fun (r:aE)=>.agg r.cells:=by
 refine (dZ (show TT 67 = some (.code ⟨1,8,[.cell 2 2 true],aIH,false,false⟩) from rfl) _ rfl rfl).trans ?_
 show eG TT aIH ⟨[(0,oJ a0.cells)],[]⟩ _ = _
 simp -implicitDefEqProofs (decide:=true) (maxSteps:=2000000) only [aIH,vA,↓DN,↓DR,DQ,DP,↓reduceIte,Int.reduceToNat,Nat.reduceBEq,Nat.reduceAdd,Nat.reduceLT,Nat.reduceLeDiff,Nat.reduceEqDiff,Int.reduceEq,ne_eq,zN,reduceCtorEq,bW,b7,bZ,zM,zA,zB,aK,zC,zD,if_true,if_false,zE,zF,aJ,zG,aO,zH,zI,zJ,zK,a8,aY,aV,aU,aX,aG,aR,aQ,aI,aM,aH,aW,bH,Vm.bind_map,aP,aZ,zL]
 all_goals try simp only [bO]
 all_goals try rfl
theorem gO {β:Type} (a0:aA) (d:Nat) (bl:List (Nat × Option aL)) (fz:List (Nat × Option aL)) (k:V→Option β) (kw:V→List (Nat × Option aL)→Option β):fT TT d bl 67 [.agg a0.cells] fz k kw = (vA a0).bind fun (r:aE)=>k (oJ r.cells):=by
 have h:=U9 a0
 exact cU h (fun _=>rfl) fz
theorem BK (a0:aA):Vm.call TT 69 [.agg a0.cells] = (kV a0).map fun (r:Int)=>.int .i64 r:=by
 refine (dZ (show TT 69 = some (.code ⟨1,5,[.tmp 2],aHk,false,false⟩) from rfl) _ rfl rfl).trans ?_
 show eG TT aHk ⟨[(0,oJ a0.cells)],[]⟩ _ = _
 simp -implicitDefEqProofs (decide:=true) (maxSteps:=2000000) only [aHk,kV,↓DN,↓DR,DQ,DP,↓reduceIte,Int.reduceToNat,Nat.reduceBEq,Nat.reduceAdd,Nat.reduceLT,Nat.reduceLeDiff,Nat.reduceEqDiff,Int.reduceEq,ne_eq,zN,reduceCtorEq,bW,b7,bZ,zM,zA,zB,aK,zC,zD,if_true,if_false,zE,zF,aJ,zG,aO,zH,zI,zJ,zK,a8,aY,aV,aU,aX,aG,aR,aQ,aI,aM,aH,aW,bH,Vm.bind_map,aP,aZ,zL]
 all_goals try simp only [bO]
 all_goals try rfl
theorem bR {β:Type} (a0:aA) (d:Nat) (bl:List (Nat × Option aL)) (fz:List (Nat × Option aL)) (k:V→Option β) (kw:V→List (Nat × Option aL)→Option β):fT TT d bl 69 [.agg a0.cells] fz k kw = (kV a0).bind fun (r:Int)=>k (.d (.int .i64 r)):=by
 have h:=BK a0
 exact cU h (fun _=>rfl) fz
theorem CP (a0:Int) (a1:List aS) (p1:Int):eG TT nX ⟨[(0,.d (.int .i64 a0)),(18,.d (.sl (cM aS.cells a1))),(19,.d (.int .i64 (a1.length:Int))),(20,.d (.int .i64 p1))],[]⟩ (fun e s=>some (e,s)) = eN (fun (w:Int)=>(⟨[(0,.d (.int .i64 a0)),(18,.d (.sl (cM aS.cells a1))),(19,.d (.int .i64 (a1.length:Int))),(20,.d (.int .i64 w))],[]⟩ : St)) (fun (r:Unit ⊕ Unit)=>Sum.elim (fun (z:Unit)=>(((.exit 0),⟨[],[]⟩):Ex × St)) (fun (z:Unit)=>((.ret,⟨[(4,.d (.bool false))],[]⟩):Ex × St)) r) (fE a0 a1 p1):=by
 simp -implicitDefEqProofs (decide:=true) (maxSteps:=2000000) only [nX,fE,↓DN,↓DR,DQ,DP,↓reduceIte,Int.reduceToNat,Nat.reduceBEq,Nat.reduceAdd,Nat.reduceLT,Nat.reduceLeDiff,Nat.reduceEqDiff,Int.reduceEq,ne_eq,zN,reduceCtorEq,bW,b7,bZ,zM,zA,zB,aK,zC,zD,if_true,if_false,zE,zF,aJ,zG,aO,zH,zI,zJ,zK,a8,aY,aV,aU,aX,aG,aR,aQ,aI,aM,aH,aW,bH,Vm.bind_map,aP,aZ,zL]
 all_goals try simp only [bO]
 all_goals try rfl
theorem CT {β:Type} (a0:Int) (a1:List aS) (p1:Int) (k:Ex→St→Option β):eG TT vG ⟨[(0,.d (.int .i64 a0)),(18,.d (.sl (cM aS.cells a1))),(19,.d (.int .i64 (a1.length:Int))),(20,.d (.int .i64 p1))],[]⟩ k = (m8 a0 a1 p1).bind (fun (r:Unit ⊕ Unit)=>Sum.elim (fun (z:Unit)=>k (.exit 0) ⟨[],[]⟩) (fun (z:Unit)=>k .ret ⟨[(4,.d (.bool false))],[]⟩) r):=by
 have hh:=fun (w:Int)=>CP a0 a1 w
 have h:=fun ho=>cG (T:=TT) (k:=k) (c:=nX) (step:=(fun (w:Int)=>fE a0 a1 w)) _ _ ho hh p1
 refine Eq.trans (h (fun r s e=>by have q:=congrArg Prod.fst e; rcases r with x | x <;> cases q)) ?_
 unfold m8
 exact bJ _ fun x=>by rcases x with x | x <;> rfl
theorem G3 (a0:Int) (a1:List aS):Vm.call TT 33 [.int .i64 a0,.sl (cM aS.cells a1)] = (lL a0 a1).map fun (r:Bool)=>.bool r:=by
 refine (dZ (show TT 33 = some (.code ⟨2,62,[.tmp 4],aHy,false,false⟩) from rfl) _ rfl rfl).trans ?_
 show eG TT aHy ⟨[(0,.d (.int .i64 a0)),(1,.d (.sl (cM aS.cells a1)))],[]⟩ _ = _
 simp -implicitDefEqProofs (decide:=true) (maxSteps:=2000000) only [aHy,lL,↓CT,↓DN,↓DR,DQ,DP,↓reduceIte,Int.reduceToNat,Nat.reduceBEq,Nat.reduceAdd,Nat.reduceLT,Nat.reduceLeDiff,Nat.reduceEqDiff,Int.reduceEq,ne_eq,zN,reduceCtorEq,bW,b7,bZ,zM,zA,zB,aK,zC,zD,if_true,if_false,zE,zF,aJ,zG,aO,zH,zI,zJ,zK,a8,aY,aV,aU,aX,aG,aR,aQ,aI,aM,aH,aW,bH,Vm.bind_map,aP,aZ,zL]
 all_goals try simp only [bO]
 all_goals try rfl
theorem uA {β:Type} (a0:Int) (a1:List aS) (d:Nat) (bl:List (Nat × Option aL)) (fz:List (Nat × Option aL)) (k:V→Option β) (kw:V→List (Nat × Option aL)→Option β):fT TT d bl 33 [.int .i64 a0,.sl (cM aS.cells a1)] fz k kw = (lL a0 a1).bind fun (r:Bool)=>k (.d (.bool r)):=by
 have h:=G3 a0 a1
 exact cU h (fun _=>rfl) fz
theorem vD {β:Type} (a0:List aS) (a1:List Int) (p1:Int) (x3:aS) (p6:List aB) (k:Ex→St→Option β):eG TT qR ⟨[(1,.d (.sl (cM cI a1))),(5,.own 37 0),(6,.d (.int .i64 p1)),(7,.ptr 7 0),(8,.d (.sl (cM aS.cells a0))),(9,.d (.int .i64 (a0.length:Int))),(10,.d (.int .i64 p1))],[(7,some (.box (bM x3.cells))),(37,some (.rows 0 73 6 (cM aB.cells p6)))]⟩ k = (kQ a0 a1 p1 x3 p6).bind (fun (r:(List aB))=>k .normal ⟨[(1,.d (.sl (cM cI a1))),(5,.own 37 0),(8,.d (.sl (cM aS.cells a0))),(9,.d (.int .i64 (a0.length:Int))),(10,.d (.int .i64 p1))],[(37,some (.rows 0 73 6 (cM aB.cells r)))]⟩):=by
 simp -implicitDefEqProofs (decide:=true) (maxSteps:=2000000) only [qR,kQ,↓DN,↓DR,DQ,DP,↓reduceIte,Int.reduceToNat,Nat.reduceBEq,Nat.reduceAdd,Nat.reduceLT,Nat.reduceLeDiff,Nat.reduceEqDiff,Int.reduceEq,ne_eq,zN,reduceCtorEq,bW,b7,bZ,zM,zA,zB,aK,zC,zD,if_true,if_false,zE,zF,aJ,zG,aO,zH,zI,zJ,zK,a8,aY,aV,aU,aX,aG,aR,aQ,aI,aM,aH,aW,bH,Vm.bind_map,aP,aZ,zL]
 all_goals try simp only [bO]
 all_goals try rfl
theorem C2 (a0:List aS) (a1:List Int) (p1:Int) (p2:List aB):eG TT nY ⟨[(1,.d (.sl (cM cI a1))),(5,.own 37 0),(8,.d (.sl (cM aS.cells a0))),(9,.d (.int .i64 (a0.length:Int))),(10,.d (.int .i64 p1))],[(37,some (.rows 0 73 6 (cM aB.cells p2)))]⟩ (fun e s=>some (e,s)) = eN (fun (w:Int × (List aB))=>(⟨[(1,.d (.sl (cM cI a1))),(5,.own 37 0),(8,.d (.sl (cM aS.cells a0))),(9,.d (.int .i64 (a0.length:Int))),(10,.d (.int .i64 w.1))],[(37,some (.rows 0 73 6 (cM aB.cells w.2)))]⟩ : St)) (fun (r:(List aB))=>(((.exit 0),⟨[(5,.own 37 0)],[(37,some (.rows 0 73 6 (cM aB.cells r)))]⟩):Ex × St)) (eV a0 a1 p1 p2):=by
 simp -implicitDefEqProofs (decide:=true) (maxSteps:=2000000) only [nY,eV,↓vD,↓DN,↓DR,DQ,DP,↓reduceIte,Int.reduceToNat,Nat.reduceBEq,Nat.reduceAdd,Nat.reduceLT,Nat.reduceLeDiff,Nat.reduceEqDiff,Int.reduceEq,ne_eq,zN,reduceCtorEq,bW,b7,bZ,zM,zA,zB,aK,zC,zD,if_true,if_false,zE,zF,aJ,zG,aO,zH,zI,zJ,zK,a8,aY,aV,aU,aX,aG,aR,aQ,aI,aM,aH,aW,bH,Vm.bind_map,aP,aZ,zL]
 all_goals try simp only [bO]
 all_goals try rfl
theorem DX {β:Type} (a0:List aS) (a1:List Int) (p1:Int) (p2:List aB) (k:Ex→St→Option β):eG TT u7 ⟨[(1,.d (.sl (cM cI a1))),(5,.own 37 0),(8,.d (.sl (cM aS.cells a0))),(9,.d (.int .i64 (a0.length:Int))),(10,.d (.int .i64 p1))],[(37,some (.rows 0 73 6 (cM aB.cells p2)))]⟩ k = (pK a0 a1 p1 p2).bind (fun (r:(List aB))=>k (.exit 0) ⟨[(5,.own 37 0)],[(37,some (.rows 0 73 6 (cM aB.cells r)))]⟩):=by
 have hh:=fun (w:Int × (List aB))=>C2 a0 a1 w.1 w.2
 have h:=fun ho=>cG (T:=TT) (k:=k) (c:=nY) (step:=(fun (w:Int × (List aB))=>eV a0 a1 w.1 w.2)) _ _ ho hh (p1,p2)
 refine Eq.trans (h (fun r s e=>by have q:=congrArg Prod.fst e; rcases r with x <;> cases q)) ?_
 unfold pK
 exact bJ _ fun x=>by rcases x with x <;> rfl
theorem s0 (a0:List aS) (a1:List Int):Vm.call TT 37 [.sl (cM aS.cells a0),.sl (cM cI a1)] = (hJ a0 a1).map fun (r:(List aB))=>.own (.ref 0) [(73,6)] [cM aB.cells r]:=by
 refine (GO (show TT 37 = some (.code ⟨2,58,[.tmp 4],aHN,true,false⟩) from rfl) _ rfl rfl).trans ?_
 show eG TT aHN ⟨[(0,.d (.sl (cM aS.cells a0))),(1,.d (.sl (cM cI a1)))],[]⟩ _ = _
 simp -implicitDefEqProofs (decide:=true) (maxSteps:=2000000) only [aHN,hJ,↓vD,↓DX,↓DN,↓DR,DQ,DP,↓reduceIte,Int.reduceToNat,Nat.reduceBEq,Nat.reduceAdd,Nat.reduceLT,Nat.reduceLeDiff,Nat.reduceEqDiff,Int.reduceEq,ne_eq,zN,reduceCtorEq,bW,b7,bZ,zM,zA,zB,aK,zC,zD,if_true,if_false,zE,zF,aJ,zG,aO,zH,zI,zJ,zK,a8,aY,aV,aU,aX,aG,aR,aQ,aI,aM,aH,aW,bH,Vm.bind_map,aP,aZ,zL]
 all_goals try simp only [bO]
 all_goals try rfl
theorem rX (a0:List Int) (a1:Int):Vm.call TT 66 [.sl (cM cI a0),.int .i64 a1] = (hZ a0 a1).map fun (r:(List Int))=>.own (.ref 0) [(3,1)] [cM cI r] :=
 (aBN (show TT 66 = some (.told o66) from rfl) _ rfl).trans (aHD 3 a1 a0)
end Go.Proofs.Ytiimibimkpimbaa
