/- The functions of the small machine compute the plain definitions. Printed by a program. -/
import Derived.Test.YtjjcaapdaldedaaLnk3
set_option linter.unusedVariables false
set_option linter.unusedSimpArgs false
namespace Go.Proofs.Ytjjcaapdaldedaa
open Vm
open Go.RowKit
set_option maxRecDepth 100000
set_option maxHeartbeats 4000000
attribute [local congr] u9 xI vD wQ
theorem wD (a0 a1:List Int) (p1:Int):eL TT iQ ⟨[(0,.d (.sl (cM cI a0))),(1,.d (.sl (cM cI a1))),(5,.d (.int .i64 p1))],[]⟩ (fun e s=>some (e,s)) = eZ (fun (w:Int)=>(⟨[(0,.d (.sl (cM cI a0))),(1,.d (.sl (cM cI a1))),(5,.d (.int .i64 w))],[]⟩ : St)) (fun (r:Unit ⊕ Unit)=>Sum.elim (fun (z:Unit)=>(((.exit 0),⟨[],[]⟩):Ex × St)) (fun (z:Unit)=>((.ret,⟨[(4,.d (.bool false))],[]⟩):Ex × St)) r) (iP a0 a1 p1):=by
 simp -implicitDefEqProofs (decide:=true) (maxSteps:=2000000) only [iQ,iP,↓DN,↓DR,DQ,DP,↓reduceIte,Int.reduceToNat,Nat.reduceBEq,Nat.reduceAdd,Nat.reduceLT,Nat.reduceLeDiff,Nat.reduceEqDiff,Int.reduceEq,ne_eq,zN,reduceCtorEq,dA,dF,dE,zM,zA,zB,aI,zC,zD,if_true,if_false,zE,zF,aC,zG,aJ,zH,zI,zJ,zK,aX,aS,aV,aY,aW,aF,aK,aO,aG,aL,aE,aT,bW,Vm.bind_map,aP,aU,zL]
 all_goals try simp only [cN]
 all_goals try rfl
theorem wF {β:Type} (a0 a1:List Int) (p1:Int) (k:Ex->St->Option β):eL TT qA ⟨[(0,.d (.sl (cM cI a0))),(1,.d (.sl (cM cI a1))),(5,.d (.int .i64 p1))],[]⟩ k = (mA a0 a1 p1).bind (fun (r:Unit ⊕ Unit)=>Sum.elim (fun (z:Unit)=>k (.exit 0) ⟨[],[]⟩) (fun (z:Unit)=>k .ret ⟨[(4,.d (.bool false))],[]⟩) r):=by
 have hh:=fun (w:Int)=>wD a0 a1 w
 have h:=fun ho=>dS (T:=TT) (k:=k) (c:=iQ) (step:=(fun (w:Int)=>iP a0 a1 w)) _ _ ho hh p1
 refine Eq.trans (h (fun r s e=>by have q:=congrArg Prod.fst e; rcases r with x | x <;> cases q)) ?_
 unfold mA
 exact cZ _ fun x=>by rcases x with x | x <;> rfl
theorem y9 (a0 a1:List Int):Vm.call TT 27 [.sl (cM cI a0),.sl (cM cI a1)] = (iW a0 a1).map fun (r:Bool)=>.bool r:=by
 refine (dQ (show TT 27 = some (.code ⟨2,26,[.tmp 4],aED,false,false⟩) from rfl) _ rfl rfl).trans ?_
 show eL TT aED ⟨[(0,.d (.sl (cM cI a0))),(1,.d (.sl (cM cI a1)))],[]⟩ _ = _
 simp -implicitDefEqProofs (decide:=true) (maxSteps:=2000000) only [aED,iW,↓wF,↓DN,↓DR,DQ,DP,↓reduceIte,Int.reduceToNat,Nat.reduceBEq,Nat.reduceAdd,Nat.reduceLT,Nat.reduceLeDiff,Nat.reduceEqDiff,Int.reduceEq,ne_eq,zN,reduceCtorEq,dA,dF,dE,zM,zA,zB,aI,zC,zD,if_true,if_false,zE,zF,aC,zG,aJ,zH,zI,zJ,zK,aX,aS,aV,aY,aW,aF,aK,aO,aG,aL,aE,aT,bW,Vm.bind_map,aP,aU,zL]
 all_goals try simp only [cN]
 all_goals try rfl
theorem yZ {β:Type} (a0 a1:List Int) (d:Nat) (bl fz:List (Nat × Option aR)) (k:V->Option β) (kw:V->List (Nat × Option aR)->Option β):eK TT d bl 27 [.sl (cM cI a0),.sl (cM cI a1)] fz k kw = (iW a0 a1).bind fun (r:Bool)=>k (.d (.bool r)):=by
 have h:=y9 a0 a1
 exact cU h (fun _=>rfl) fz
theorem CN (a0 a1:aA):Vm.call TT 22 [.agg a0.cells,.agg a1.cells] = (o0 a0 a1).map fun (r:Bool)=>.bool r:=by
 refine (dQ (show TT 22 = some (.code ⟨2,38,[.tmp 4],aC5,false,false⟩) from rfl) _ rfl rfl).trans ?_
 show eL TT aC5 ⟨[(0,iS a0.cells),(1,iS a1.cells)],[]⟩ _ = _
 simp -implicitDefEqProofs (decide:=true) (maxSteps:=2000000) only [aC5,o0,↓yZ,↓DN,↓DR,DQ,DP,↓reduceIte,Int.reduceToNat,Nat.reduceBEq,Nat.reduceAdd,Nat.reduceLT,Nat.reduceLeDiff,Nat.reduceEqDiff,Int.reduceEq,ne_eq,zN,reduceCtorEq,dA,dF,dE,zM,zA,zB,aI,zC,zD,if_true,if_false,zE,zF,aC,zG,aJ,zH,zI,zJ,zK,aX,aS,aV,aY,aW,aF,aK,aO,aG,aL,aE,aT,bW,Vm.bind_map,aP,aU,zL]
 all_goals try simp only [cN]
 all_goals try rfl
theorem uZ {β:Type} (a0 a1:aA) (d:Nat) (bl fz:List (Nat × Option aR)) (k:V->Option β) (kw:V->List (Nat × Option aR)->Option β):eK TT d bl 22 [.agg a0.cells,.agg a1.cells] fz k kw = (o0 a0 a1).bind fun (r:Bool)=>k (.d (.bool r)):=by
 have h:=CN a0 a1
 exact cU h (fun _=>rfl) fz
theorem w9 (a0 a1:List aA) (p1:Int):eL TT jA ⟨[(0,.d (.sl (cM aA.cells a0))),(1,.d (.sl (cM aA.cells a1))),(5,.d (.int .i64 p1))],[]⟩ (fun e s=>some (e,s)) = eZ (fun (w:Int)=>(⟨[(0,.d (.sl (cM aA.cells a0))),(1,.d (.sl (cM aA.cells a1))),(5,.d (.int .i64 w))],[]⟩ : St)) (fun (r:Unit ⊕ Unit)=>Sum.elim (fun (z:Unit)=>(((.exit 0),⟨[],[]⟩):Ex × St)) (fun (z:Unit)=>((.ret,⟨[(4,.d (.bool false))],[]⟩):Ex × St)) r) (i8 a0 a1 p1):=by
 simp -implicitDefEqProofs (decide:=true) (maxSteps:=2000000) only [jA,i8,↓uZ,↓DN,↓DR,DQ,DP,↓reduceIte,Int.reduceToNat,Nat.reduceBEq,Nat.reduceAdd,Nat.reduceLT,Nat.reduceLeDiff,Nat.reduceEqDiff,Int.reduceEq,ne_eq,zN,reduceCtorEq,dA,dF,dE,zM,zA,zB,aI,zC,zD,if_true,if_false,zE,zF,aC,zG,aJ,zH,zI,zJ,zK,aX,aS,aV,aY,aW,aF,aK,aO,aG,aL,aE,aT,bW,Vm.bind_map,aP,aU,zL]
 all_goals try simp only [cN]
 all_goals try rfl
theorem wV {β:Type} (a0 a1:List aA) (p1:Int) (k:Ex->St->Option β):eL TT qM ⟨[(0,.d (.sl (cM aA.cells a0))),(1,.d (.sl (cM aA.cells a1))),(5,.d (.int .i64 p1))],[]⟩ k = (mW a0 a1 p1).bind (fun (r:Unit ⊕ Unit)=>Sum.elim (fun (z:Unit)=>k (.exit 0) ⟨[],[]⟩) (fun (z:Unit)=>k .ret ⟨[(4,.d (.bool false))],[]⟩) r):=by
 have hh:=fun (w:Int)=>w9 a0 a1 w
 have h:=fun ho=>dS (T:=TT) (k:=k) (c:=jA) (step:=(fun (w:Int)=>i8 a0 a1 w)) _ _ ho hh p1
 refine Eq.trans (h (fun r s e=>by have q:=congrArg Prod.fst e; rcases r with x | x <;> cases q)) ?_
 unfold mW
 exact cZ _ fun x=>by rcases x with x | x <;> rfl
theorem AG (a0 a1:List aA):Vm.call TT 10 [.sl (cM aA.cells a0),.sl (cM aA.cells a1)] = (lV a0 a1).map fun (r:Bool)=>.bool r:=by
 refine (dQ (show TT 10 = some (.code ⟨2,27,[.tmp 4],aDv,false,false⟩) from rfl) _ rfl rfl).trans ?_
 show eL TT aDv ⟨[(0,.d (.sl (cM aA.cells a0))),(1,.d (.sl (cM aA.cells a1)))],[]⟩ _ = _
 simp -implicitDefEqProofs (decide:=true) (maxSteps:=2000000) only [aDv,lV,↓wV,↓uZ,↓DN,↓DR,DQ,DP,↓reduceIte,Int.reduceToNat,Nat.reduceBEq,Nat.reduceAdd,Nat.reduceLT,Nat.reduceLeDiff,Nat.reduceEqDiff,Int.reduceEq,ne_eq,zN,reduceCtorEq,dA,dF,dE,zM,zA,zB,aI,zC,zD,if_true,if_false,zE,zF,aC,zG,aJ,zH,zI,zJ,zK,aX,aS,aV,aY,aW,aF,aK,aO,aG,aL,aE,aT,bW,Vm.bind_map,aP,aU,zL]
 all_goals try simp only [cN]
 all_goals try rfl
theorem AF {β:Type} (a0 a1:List aA) (d:Nat) (bl fz:List (Nat × Option aR)) (k:V->Option β) (kw:V->List (Nat × Option aR)->Option β):eK TT d bl 10 [.sl (cM aA.cells a0),.sl (cM aA.cells a1)] fz k kw = (lV a0 a1).bind fun (r:Bool)=>k (.d (.bool r)):=by
 have h:=AG a0 a1
 exact cU h (fun _=>rfl) fz
theorem B3 (a0 a1:Int):Vm.call TT 67 [.int .i64 a0,.ptr [.int .i64 a1] 0] = (kZ a0 a1).map fun (r:Bool)=>.bool r:=by
 refine (dQ (show TT 67 = some (.code ⟨2,11,[.tmp 3],aEj,false,false⟩) from rfl) _ rfl rfl).trans ?_
 show eL TT aEj ⟨[(0,.d (.int .i64 a0)),(1,.d (.ptr [.int .i64 a1] 0))],[]⟩ _ = _
 simp -implicitDefEqProofs (decide:=true) (maxSteps:=2000000) only [aEj,kZ,↓DN,↓DR,DQ,DP,↓reduceIte,Int.reduceToNat,Nat.reduceBEq,Nat.reduceAdd,Nat.reduceLT,Nat.reduceLeDiff,Nat.reduceEqDiff,Int.reduceEq,ne_eq,zN,reduceCtorEq,dA,dF,dE,zM,zA,zB,aI,zC,zD,if_true,if_false,zE,zF,aC,zG,aJ,zH,zI,zJ,zK,aX,aS,aV,aY,aW,aF,aK,aO,aG,aL,aE,aT,bW,Vm.bind_map,aP,aU,zL]
 all_goals try simp only [cN]
 all_goals try rfl
theorem t9 {β:Type} (a0 a1:Int) (d:Nat) (bl fz:List (Nat × Option aR)) (k:V->Option β) (kw:V->List (Nat × Option aR)->Option β):eK TT d bl 67 [.int .i64 a0,.ptr [.int .i64 a1] 0] fz k kw = (kZ a0 a1).bind fun (r:Bool)=>k (.d (.bool r)):=by
 have h:=B3 a0 a1
 exact cU h (fun _=>rfl) fz
theorem sU (a0:List Int) (a1 p1:Int):eL TT gW ⟨[(0,.d (.sl (cM cI a0))),(1,.d (.fn 67 [.ptr [.int .i64 a1] 0])),(7,.d (.int .i64 (a0.length:Int))),(8,.d (.int .i64 p1))],[]⟩ (fun e s=>some (e,s)) = eZ (fun (w:Int)=>(⟨[(0,.d (.sl (cM cI a0))),(1,.d (.fn 67 [.ptr [.int .i64 a1] 0])),(7,.d (.int .i64 (a0.length:Int))),(8,.d (.int .i64 w))],[]⟩ : St)) (fun (r:Unit ⊕ Int)=>Sum.elim (fun (z:Unit)=>(((.exit 0),⟨[],[]⟩):Ex × St)) (fun (z:Int)=>((.ret,⟨[(4,.d (.int .i64 z))],[]⟩):Ex × St)) r) (eD a0 a1 p1):=by
 simp -implicitDefEqProofs (decide:=true) (maxSteps:=2000000) only [gW,eD,↓t9,↓DN,↓DR,DQ,DP,↓reduceIte,Int.reduceToNat,Nat.reduceBEq,Nat.reduceAdd,Nat.reduceLT,Nat.reduceLeDiff,Nat.reduceEqDiff,Int.reduceEq,ne_eq,zN,reduceCtorEq,dA,dF,dE,zM,zA,zB,aI,zC,zD,if_true,if_false,zE,zF,aC,zG,aJ,zH,zI,zJ,zK,aX,aS,aV,aY,aW,aF,aK,aO,aG,aL,aE,aT,bW,Vm.bind_map,aP,aU,zL]
 all_goals try simp only [cN]
 all_goals try rfl
theorem sV {β:Type} (a0:List Int) (a1 p1:Int) (k:Ex->St->Option β):eL TT nU ⟨[(0,.d (.sl (cM cI a0))),(1,.d (.fn 67 [.ptr [.int .i64 a1] 0])),(7,.d (.int .i64 (a0.length:Int))),(8,.d (.int .i64 p1))],[]⟩ k = (gP a0 a1 p1).bind (fun (r:Unit ⊕ Int)=>Sum.elim (fun (z:Unit)=>k (.exit 0) ⟨[],[]⟩) (fun (z:Int)=>k .ret ⟨[(4,.d (.int .i64 z))],[]⟩) r):=by
 have hh:=fun (w:Int)=>sU a0 a1 w
 have h:=fun ho=>dS (T:=TT) (k:=k) (c:=gW) (step:=(fun (w:Int)=>eD a0 a1 w)) _ _ ho hh p1
 refine Eq.trans (h (fun r s e=>by have q:=congrArg Prod.fst e; rcases r with x | x <;> cases q)) ?_
 unfold gP
 exact cZ _ fun x=>by rcases x with x | x <;> rfl
theorem uH (a0:List Int) (a1:Int):Vm.call TT 77 [.sl (cM cI a0),.fn 67 [.ptr [.int .i64 a1] 0]] = (gC a0 a1).map fun (r:Int)=>.int .i64 r:=by
 refine (dQ (show TT 77 = some (.code ⟨2,19,[.tmp 4],aFk,false,false⟩) from rfl) _ rfl rfl).trans ?_
 show eL TT aFk ⟨[(0,.d (.sl (cM cI a0))),(1,.d (.fn 67 [.ptr [.int .i64 a1] 0]))],[]⟩ _ = _
 simp -implicitDefEqProofs (decide:=true) (maxSteps:=2000000) only [aFk,gC,↓sV,↓t9,↓DN,↓DR,DQ,DP,↓reduceIte,Int.reduceToNat,Nat.reduceBEq,Nat.reduceAdd,Nat.reduceLT,Nat.reduceLeDiff,Nat.reduceEqDiff,Int.reduceEq,ne_eq,zN,reduceCtorEq,dA,dF,dE,zM,zA,zB,aI,zC,zD,if_true,if_false,zE,zF,aC,zG,aJ,zH,zI,zJ,zK,aX,aS,aV,aY,aW,aF,aK,aO,aG,aL,aE,aT,bW,Vm.bind_map,aP,aU,zL]
 all_goals try simp only [cN]
 all_goals try rfl
theorem uO {β:Type} (a0:List Int) (a1:Int) (d:Nat) (bl fz:List (Nat × Option aR)) (k:V->Option β) (kw:V->List (Nat × Option aR)->Option β):eK TT d bl 77 [.sl (cM cI a0),.fn 67 [.ptr [.int .i64 a1] 0]] fz k kw = (gC a0 a1).bind fun (r:Int)=>k (.d (.int .i64 r)):=by
 have h:=uH a0 a1
 exact cU h (fun _=>rfl) fz
theorem sX (a0:List Int) (a1:Int):Vm.call TT 66 [.sl (cM cI a0),.fn 67 [.ptr [.int .i64 a1] 0]] = (eX a0 a1).map fun (r:Bool)=>.bool r:=by
 refine (dQ (show TT 66 = some (.code ⟨2,9,[.tmp 4],aEv,false,false⟩) from rfl) _ rfl rfl).trans ?_
 show eL TT aEv ⟨[(0,.d (.sl (cM cI a0))),(1,.d (.fn 67 [.ptr [.int .i64 a1] 0]))],[]⟩ _ = _
 simp -implicitDefEqProofs (decide:=true) (maxSteps:=2000000) only [aEv,eX,↓uO,↓DN,↓DR,DQ,DP,↓reduceIte,Int.reduceToNat,Nat.reduceBEq,Nat.reduceAdd,Nat.reduceLT,Nat.reduceLeDiff,Nat.reduceEqDiff,Int.reduceEq,ne_eq,zN,reduceCtorEq,dA,dF,dE,zM,zA,zB,aI,zC,zD,if_true,if_false,zE,zF,aC,zG,aJ,zH,zI,zJ,zK,aX,aS,aV,aY,aW,aF,aK,aO,aG,aL,aE,aT,bW,Vm.bind_map,aP,aU,zL]
 all_goals try simp only [cN]
 all_goals try rfl
theorem sW {β:Type} (a0:List Int) (a1:Int) (d:Nat) (bl fz:List (Nat × Option aR)) (k:V->Option β) (kw:V->List (Nat × Option aR)->Option β):eK TT d bl 66 [.sl (cM cI a0),.fn 67 [.ptr [.int .i64 a1] 0]] fz k kw = (eX a0 a1).bind fun (r:Bool)=>k (.d (.bool r)):=by
 have h:=sX a0 a1
 exact cU h (fun _=>rfl) fz
theorem HH (a0:aB) (a1 a2:Int) (a3:List Int):Vm.call TT 51 [.agg a0.cells,.int .i64 a1,.int .i64 a2,.sl (cM cI a3)] = (lO a0 a1 a2 a3).map fun (r:Bool)=>.bool r:=by
 refine (dQ (show TT 51 = some (.code ⟨4,37,[.tmp 8],aDj,false,false⟩) from rfl) _ rfl rfl).trans ?_
 show eL TT aDj ⟨[(0,iS a0.cells),(1,.d (.int .i64 a1)),(2,.d (.int .i64 a2)),(3,.d (.sl (cM cI a3)))],[]⟩ _ = _
 simp -implicitDefEqProofs (decide:=true) (maxSteps:=2000000) only [aDj,lO,↓sW,↓DN,↓DR,DQ,DP,↓reduceIte,Int.reduceToNat,Nat.reduceBEq,Nat.reduceAdd,Nat.reduceLT,Nat.reduceLeDiff,Nat.reduceEqDiff,Int.reduceEq,ne_eq,zN,reduceCtorEq,dA,dF,dE,zM,zA,zB,aI,zC,zD,if_true,if_false,zE,zF,aC,zG,aJ,zH,zI,zJ,zK,aX,aS,aV,aY,aW,aF,aK,aO,aG,aL,aE,aT,bW,Vm.bind_map,aP,aU,zL]
 all_goals try simp only [cN]
 all_goals try rfl
theorem qS {β:Type} (a0:aB) (a1 a2:Int) (a3:List Int) (d:Nat) (bl fz:List (Nat × Option aR)) (k:V->Option β) (kw:V->List (Nat × Option aR)->Option β):eK TT d bl 51 [.agg a0.cells,.int .i64 a1,.int .i64 a2,.sl (cM cI a3)] fz k kw = (lO a0 a1 a2 a3).bind fun (r:Bool)=>k (.d (.bool r)):=by
 have h:=HH a0 a1 a2 a3
 exact cU h (fun _=>rfl) fz
theorem CE (a1 a2:Int) (a3:List Int) (x2:b4) (p3:Int):eL TT mT ⟨[(1,.d (.int .i64 a1)),(2,.d (.int .i64 a2)),(3,.d (.sl (cM cI a3))),(23,.d (.sl (cM cW.cells x2.Choices))),(24,.d (.int .i64 (x2.Choices.length:Int))),(25,.d (.int .i64 p3))],[]⟩ (fun e s=>some (e,s)) = eZ (fun (w:Int)=>(⟨[(1,.d (.int .i64 a1)),(2,.d (.int .i64 a2)),(3,.d (.sl (cM cI a3))),(23,.d (.sl (cM cW.cells x2.Choices))),(24,.d (.int .i64 (x2.Choices.length:Int))),(25,.d (.int .i64 w))],[]⟩ : St)) (fun (r:Unit ⊕ (Int × Bool))=>Sum.elim (fun (z:Unit)=>(((.exit 0),⟨[(1,.d (.int .i64 a1))],[]⟩):Ex × St)) (fun (z:Int × Bool)=>((.ret,⟨[(8,.d (.int .i64 z.1)),(9,.d (.bool z.2))],[]⟩):Ex × St)) r) (gQ a1 a2 a3 x2 p3):=by
 simp -implicitDefEqProofs (decide:=true) (maxSteps:=2000000) only [mT,gQ,↓qS,↓DN,↓DR,DQ,DP,↓reduceIte,Int.reduceToNat,Nat.reduceBEq,Nat.reduceAdd,Nat.reduceLT,Nat.reduceLeDiff,Nat.reduceEqDiff,Int.reduceEq,ne_eq,zN,reduceCtorEq,dA,dF,dE,zM,zA,zB,aI,zC,zD,if_true,if_false,zE,zF,aC,zG,aJ,zH,zI,zJ,zK,aX,aS,aV,aY,aW,aF,aK,aO,aG,aL,aE,aT,bW,Vm.bind_map,aP,aU,zL]
 all_goals try simp only [cN]
 all_goals try rfl
theorem CV {β:Type} (a1 a2:Int) (a3:List Int) (x2:b4) (p3:Int) (k:Ex->St->Option β):eL TT uV ⟨[(1,.d (.int .i64 a1)),(2,.d (.int .i64 a2)),(3,.d (.sl (cM cI a3))),(23,.d (.sl (cM cW.cells x2.Choices))),(24,.d (.int .i64 (x2.Choices.length:Int))),(25,.d (.int .i64 p3))],[]⟩ k = (oD a1 a2 a3 x2 p3).bind (fun (r:Unit ⊕ (Int × Bool))=>Sum.elim (fun (z:Unit)=>k (.exit 0) ⟨[(1,.d (.int .i64 a1))],[]⟩) (fun (z:Int × Bool)=>k .ret ⟨[(8,.d (.int .i64 z.1)),(9,.d (.bool z.2))],[]⟩) r):=by
 have hh:=fun (w:Int)=>CE a1 a2 a3 x2 w
 have h:=fun ho=>dS (T:=TT) (k:=k) (c:=mT) (step:=(fun (w:Int)=>gQ a1 a2 a3 x2 w)) _ _ ho hh p3
 refine Eq.trans (h (fun r s e=>by have q:=congrArg Prod.fst e; rcases r with x | x <;> cases q)) ?_
 unfold oD
 exact cZ _ fun x=>by rcases x with x | x <;> rfl
theorem F7 (a0:aB) (a1 a2:Int) (a3:List Int):Vm.call TT 52 [.agg a0.cells,.int .i64 a1,.int .i64 a2,.sl (cM cI a3)] = (mE a0 a1 a2 a3).map fun (r:Int × Bool)=>.tup [.int .i64 r.1,.bool r.2]:=by
 refine (dQ (show TT 52 = some (.code ⟨4,47,[.tmp 8,.tmp 9],aEN,false,false⟩) from rfl) _ rfl rfl).trans ?_
 show eL TT aEN ⟨[(0,iS a0.cells),(1,.d (.int .i64 a1)),(2,.d (.int .i64 a2)),(3,.d (.sl (cM cI a3)))],[]⟩ _ = _
 simp -implicitDefEqProofs (decide:=true) (maxSteps:=2000000) only [aEN,mE,↓CV,↓qS,↓DN,↓DR,DQ,DP,↓reduceIte,Int.reduceToNat,Nat.reduceBEq,Nat.reduceAdd,Nat.reduceLT,Nat.reduceLeDiff,Nat.reduceEqDiff,Int.reduceEq,ne_eq,zN,reduceCtorEq,dA,dF,dE,zM,zA,zB,aI,zC,zD,if_true,if_false,zE,zF,aC,zG,aJ,zH,zI,zJ,zK,aX,aS,aV,aY,aW,aF,aK,aO,aG,aL,aE,aT,bW,Vm.bind_map,aP,aU,zL]
 all_goals try simp only [cN]
 all_goals try rfl
theorem yQ {β:Type} (a0:aB) (a1 a2:Int) (a3:List Int) (d:Nat) (bl fz:List (Nat × Option aR)) (k:V->Option β) (kw:V->List (Nat × Option aR)->Option β):eK TT d bl 52 [.agg a0.cells,.int .i64 a1,.int .i64 a2,.sl (cM cI a3)] fz k kw = (mE a0 a1 a2 a3).bind fun (r:Int × Bool)=>k (.tup [.d (.int .i64 r.1),.d (.bool r.2)]):=by
 have h:=F7 a0 a1 a2 a3
 exact cU h (fun _=>rfl) fz
theorem FC (a0:aB) (a2:Int) (a3 p3:List Int):eL TT oU ⟨[(2,.d (.int .i64 a2)),(3,.d (.sl (cM cI a3))),(4,.ptr 4 0),(10,.own 29 0)],[(4,some (.box (aD a0.cells))),(29,some (.rows 0 3 1 (cM cI p3)))]⟩ (fun e s=>some (e,s)) = eZ (fun (w:(List Int))=>(⟨[(2,.d (.int .i64 a2)),(3,.d (.sl (cM cI a3))),(4,.ptr 4 0),(10,.own 29 0)],[(4,some (.box (aD a0.cells))),(29,some (.rows 0 3 1 (cM cI w)))]⟩ : St)) (fun (r:Int × (List Int))=>((.ret,⟨[(8,.own 29 0),(9,.d (.int .i64 r.1))],[(29,some (.rows 0 3 1 (cM cI r.2)))]⟩):Ex × St)) (jU a0 a2 a3 p3):=by
 simp -implicitDefEqProofs (decide:=true) (maxSteps:=2000000) only [oU,jU,↓aH,↓qS,↓yQ,↓DN,↓DR,DQ,DP,↓reduceIte,Int.reduceToNat,Nat.reduceBEq,Nat.reduceAdd,Nat.reduceLT,Nat.reduceLeDiff,Nat.reduceEqDiff,Int.reduceEq,ne_eq,zN,reduceCtorEq,dA,dF,dE,zM,zA,zB,aI,zC,zD,if_true,if_false,zE,zF,aC,zG,aJ,zH,zI,zJ,zK,aX,aS,aV,aY,aW,aF,aK,aO,aG,aL,aE,aT,bW,Vm.bind_map,aP,aU,zL]
 all_goals try simp only [cN]
 all_goals try rfl
theorem EV {β:Type} (a0:aB) (a2:Int) (a3 p3:List Int) (k:Ex->St->Option β):eL TT wO ⟨[(2,.d (.int .i64 a2)),(3,.d (.sl (cM cI a3))),(4,.ptr 4 0),(10,.own 29 0)],[(4,some (.box (aD a0.cells))),(29,some (.rows 0 3 1 (cM cI p3)))]⟩ k = (qQ a0 a2 a3 p3).bind (fun (r:Int × (List Int))=>k .ret ⟨[(8,.own 29 0),(9,.d (.int .i64 r.1))],[(29,some (.rows 0 3 1 (cM cI r.2)))]⟩):=by
 have hh:=fun (w:(List Int))=>FC a0 a2 a3 w
 have h:=fun ho=>dS (T:=TT) (k:=k) (c:=oU) (step:=(fun (w:(List Int))=>jU a0 a2 a3 w)) _ _ ho hh p3
 refine Eq.trans (h (fun r s e=>by have q:=congrArg Prod.fst e; rcases r with x <;> cases q)) ?_
 unfold qQ
 exact cZ _ fun x=>by rcases x with x <;> rfl
theorem I3 (a0:aB) (a1 a2:Int) (a3:List Int):Vm.call TT 23 [.agg a0.cells,.int .i64 a1,.int .i64 a2,.sl (cM cI a3)] = (pA a0 a1 a2 a3).map fun (r:(List Int) × Int)=>.tup [.sl (cM cI r.1),.int .i64 r.2]:=by
 refine (dQ (show TT 23 = some (.code ⟨4,73,[.tmp 8,.tmp 9],aDS,false,false⟩) from rfl) _ rfl rfl).trans ?_
 show eL TT aDS ⟨[(0,iS a0.cells),(1,.d (.int .i64 a1)),(2,.d (.int .i64 a2)),(3,.d (.sl (cM cI a3)))],[]⟩ _ = _
 simp -implicitDefEqProofs (decide:=true) (maxSteps:=2000000) only [aDS,pA,↓EV,↓aH,↓qS,↓yQ,↓DN,↓DR,DQ,DP,↓reduceIte,Int.reduceToNat,Nat.reduceBEq,Nat.reduceAdd,Nat.reduceLT,Nat.reduceLeDiff,Nat.reduceEqDiff,Int.reduceEq,ne_eq,zN,reduceCtorEq,dA,dF,dE,zM,zA,zB,aI,zC,zD,if_true,if_false,zE,zF,aC,zG,aJ,zH,zI,zJ,zK,aX,aS,aV,aY,aW,aF,aK,aO,aG,aL,aE,aT,bW,Vm.bind_map,aP,aU,zL]
 all_goals try simp only [cN]
 all_goals try rfl
theorem BW {β:Type} (a0:aB) (a1 a2:Int) (a3:List Int) (d:Nat) (bl fz:List (Nat × Option aR)) (k:V->Option β) (kw:V->List (Nat × Option aR)->Option β):eK TT d bl 23 [.agg a0.cells,.int .i64 a1,.int .i64 a2,.sl (cM cI a3)] fz k kw = (pA a0 a1 a2 a3).bind fun (r:(List Int) × Int)=>UU fz (.tup [.d (.sl (cM cI r.1)),.d (.int .i64 r.2)]) k kw:=by
 have h:=I3 a0 a1 a2 a3
 exact uJ h (fun _=>rfl) (fun _=>rfl) fz
theorem xK (a0 a1:List Int) (p1:Int):eL TT iY ⟨[(0,.d (.sl (cM cI a0))),(1,.d (.sl (cM cI a1))),(12,.d (.int .i64 (a0.length:Int))),(13,.d (.int .i64 p1))],[]⟩ (fun e s=>some (e,s)) = eZ (fun (w:Int)=>(⟨[(0,.d (.sl (cM cI a0))),(1,.d (.sl (cM cI a1))),(12,.d (.int .i64 (a0.length:Int))),(13,.d (.int .i64 w))],[]⟩ : St)) (fun (r:Unit ⊕ Unit)=>Sum.elim (fun (z:Unit)=>(((.exit 0),⟨[],[]⟩):Ex × St)) (fun (z:Unit)=>((.ret,⟨[(4,.d (.bool false))],[]⟩):Ex × St)) r) (fH a0 a1 p1):=by
 simp -implicitDefEqProofs (decide:=true) (maxSteps:=2000000) only [iY,fH,↓DN,↓DR,DQ,DP,↓reduceIte,Int.reduceToNat,Nat.reduceBEq,Nat.reduceAdd,Nat.reduceLT,Nat.reduceLeDiff,Nat.reduceEqDiff,Int.reduceEq,ne_eq,zN,reduceCtorEq,dA,dF,dE,zM,zA,zB,aI,zC,zD,if_true,if_false,zE,zF,aC,zG,aJ,zH,zI,zJ,zK,aX,aS,aV,aY,aW,aF,aK,aO,aG,aL,aE,aT,bW,Vm.bind_map,aP,aU,zL]
 all_goals try simp only [cN]
 all_goals try rfl
theorem xL {β:Type} (a0 a1:List Int) (p1:Int) (k:Ex->St->Option β):eL TT qI ⟨[(0,.d (.sl (cM cI a0))),(1,.d (.sl (cM cI a1))),(12,.d (.int .i64 (a0.length:Int))),(13,.d (.int .i64 p1))],[]⟩ k = (j5 a0 a1 p1).bind (fun (r:Unit ⊕ Unit)=>Sum.elim (fun (z:Unit)=>k (.exit 0) ⟨[],[]⟩) (fun (z:Unit)=>k .ret ⟨[(4,.d (.bool false))],[]⟩) r):=by
 have hh:=fun (w:Int)=>xK a0 a1 w
 have h:=fun ho=>dS (T:=TT) (k:=k) (c:=iY) (step:=(fun (w:Int)=>fH a0 a1 w)) _ _ ho hh p1
 refine Eq.trans (h (fun r s e=>by have q:=congrArg Prod.fst e; rcases r with x | x <;> cases q)) ?_
 unfold j5
 exact cZ _ fun x=>by rcases x with x | x <;> rfl
theorem AL (a0 a1:List Int):Vm.call TT 24 [.sl (cM cI a0),.sl (cM cI a1)] = (gI a0 a1).map fun (r:Bool)=>.bool r:=by
 refine (dQ (show TT 24 = some (.code ⟨2,26,[.tmp 4],aD1,false,false⟩) from rfl) _ rfl rfl).trans ?_
 show eL TT aD1 ⟨[(0,.d (.sl (cM cI a0))),(1,.d (.sl (cM cI a1)))],[]⟩ _ = _
 simp -implicitDefEqProofs (decide:=true) (maxSteps:=2000000) only [aD1,gI,↓xL,↓DN,↓DR,DQ,DP,↓reduceIte,Int.reduceToNat,Nat.reduceBEq,Nat.reduceAdd,Nat.reduceLT,Nat.reduceLeDiff,Nat.reduceEqDiff,Int.reduceEq,ne_eq,zN,reduceCtorEq,dA,dF,dE,zM,zA,zB,aI,zC,zD,if_true,if_false,zE,zF,aC,zG,aJ,zH,zI,zJ,zK,aX,aS,aV,aY,aW,aF,aK,aO,aG,aL,aE,aT,bW,Vm.bind_map,aP,aU,zL]
 all_goals try simp only [cN]
 all_goals try rfl
theorem sT {β:Type} (a0 a1:List Int) (d:Nat) (bl fz:List (Nat × Option aR)) (k:V->Option β) (kw:V->List (Nat × Option aR)->Option β):eK TT d bl 24 [.sl (cM cI a0),.sl (cM cI a1)] fz k kw = (gI a0 a1).bind fun (r:Bool)=>k (.d (.bool r)):=by
 have h:=AL a0 a1
 exact cU h (fun _=>rfl) fz
theorem FJ {β:Type} (a0:aB) (a1:aA) (r2:(List Int) × Int) (k:Ex->St->Option β):eL TT tD ⟨[(2,.ptr 2 0),(3,.ptr 3 0),(5,.d (.sl (cM cI r2.1))),(6,.d (.int .i64 r2.2))],[(2,some (.box (aD a0.cells))),(3,some (.box (aD a1.cells)))]⟩ k = (mB a0 a1 r2).bind (fun (r:Bool)=>k .ret ⟨[(4,.d (.bool r))],[]⟩):=by
 simp -implicitDefEqProofs (decide:=true) (maxSteps:=2000000) only [tD,mB,↓lM,↓BW,↓sT,↓cQ,↓DN,↓DR,DQ,DP,↓reduceIte,Int.reduceToNat,Nat.reduceBEq,Nat.reduceAdd,Nat.reduceLT,Nat.reduceLeDiff,Nat.reduceEqDiff,Int.reduceEq,ne_eq,zN,reduceCtorEq,dA,dF,dE,zM,zA,zB,aI,zC,zD,if_true,if_false,zE,zF,aC,zG,aJ,zH,zI,zJ,zK,aX,aS,aV,aY,aW,aF,aK,aO,aG,aL,aE,aT,bW,Vm.bind_map,aP,aU,zL]
 all_goals try simp only [cN]
 all_goals try rfl
theorem qJ (a0:aB) (a1:aA):Vm.call TT 11 [.agg a0.cells,.agg a1.cells] = (fR a0 a1).map fun (r:Bool)=>.bool r:=by
 refine (dQ (show TT 11 = some (.code ⟨2,58,[.tmp 4],aEb,false,false⟩) from rfl) _ rfl rfl).trans ?_
 show eL TT aEb ⟨[(0,iS a0.cells),(1,iS a1.cells)],[]⟩ _ = _
 simp -implicitDefEqProofs (decide:=true) (maxSteps:=2000000) only [aEb,fR,↓FJ,↓lM,↓BW,↓sT,↓cQ,↓DN,↓DR,DQ,DP,↓reduceIte,Int.reduceToNat,Nat.reduceBEq,Nat.reduceAdd,Nat.reduceLT,Nat.reduceLeDiff,Nat.reduceEqDiff,Int.reduceEq,ne_eq,zN,reduceCtorEq,dA,dF,dE,zM,zA,zB,aI,zC,zD,if_true,if_false,zE,zF,aC,zG,aJ,zH,zI,zJ,zK,aX,aS,aV,aY,aW,aF,aK,aO,aG,aL,aE,aT,bW,Vm.bind_map,aP,aU,zL]
 all_goals try simp only [cN]
 all_goals try rfl
theorem wP {β:Type} (a0:aB) (a1:aA) (d:Nat) (bl fz:List (Nat × Option aR)) (k:V->Option β) (kw:V->List (Nat × Option aR)->Option β):eK TT d bl 11 [.agg a0.cells,.agg a1.cells] fz k kw = (fR a0 a1).bind fun (r:Bool)=>k (.d (.bool r)):=by
 have h:=qJ a0 a1
 exact cU h (fun _=>rfl) fz
theorem CX (a0:aB):Vm.call TT 13 [.agg a0.cells] = (lH a0).map fun (r:Bool)=>.bool r:=by
 refine (dQ (show TT 13 = some (.code ⟨1,17,[.tmp 2],aCM,false,false⟩) from rfl) _ rfl rfl).trans ?_
 show eL TT aCM ⟨[(0,iS a0.cells)],[]⟩ _ = _
 simp -implicitDefEqProofs (decide:=true) (maxSteps:=2000000) only [aCM,lH,↓tV,↓DN,↓DR,DQ,DP,↓reduceIte,Int.reduceToNat,Nat.reduceBEq,Nat.reduceAdd,Nat.reduceLT,Nat.reduceLeDiff,Nat.reduceEqDiff,Int.reduceEq,ne_eq,zN,reduceCtorEq,dA,dF,dE,zM,zA,zB,aI,zC,zD,if_true,if_false,zE,zF,aC,zG,aJ,zH,zI,zJ,zK,aX,aS,aV,aY,aW,aF,aK,aO,aG,aL,aE,aT,bW,Vm.bind_map,aP,aU,zL]
 all_goals try simp only [cN]
 all_goals try rfl
theorem xB {β:Type} (a0:aB) (d:Nat) (bl fz:List (Nat × Option aR)) (k:V->Option β) (kw:V->List (Nat × Option aR)->Option β):eK TT d bl 13 [.agg a0.cells] fz k kw = (lH a0).bind fun (r:Bool)=>k (.d (.bool r)):=by
 have h:=CX a0
 exact cU h (fun _=>rfl) fz
end Go.Proofs.Ytjjcaapdaldedaa
