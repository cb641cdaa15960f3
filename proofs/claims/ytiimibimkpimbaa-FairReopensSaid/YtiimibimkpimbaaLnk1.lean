/- The functions of the small machine compute the plain definitions. Printed by a program. -/
import Derived.Test.YtiimibimkpimbaaFn
set_option linter.unusedVariables false
set_option linter.unusedSimpArgs false
namespace Go.Proofs.Ytiimibimkpimbaa
open Vm
open Go.RowKit
set_option maxRecDepth 100000
set_option maxHeartbeats 4000000
attribute [local congr] xZ A7 yE AX
theorem xT (a1 p1:Int) (p2:List aA):eB TT j8 ⟨[(1,.d (.int .i64 a1)),(5,.own 12 0),(6,.d (.int .i64 p1))],[(12,some (.rows 0 32 9 (cM aA.cells p2)))]⟩ (fun e s=>some (e,s)) = eN (fun (w:Int × (List aA))=>(⟨[(1,.d (.int .i64 a1)),(5,.own 12 0),(6,.d (.int .i64 w.1))],[(12,some (.rows 0 32 9 (cM aA.cells w.2)))]⟩ : St)) (fun (r:(List aA))=>(((.exit 0),⟨[(5,.own 12 0)],[(12,some (.rows 0 32 9 (cM aA.cells r)))]⟩):Ex × St)) (bA a1 p1 p2):=by
 simp -implicitDefEqProofs (decide:=true) (maxSteps:=2000000) only [j8,bA,↓DN,↓DR,DQ,DP,↓reduceIte,Int.reduceToNat,Nat.reduceBEq,Nat.reduceAdd,Nat.reduceLT,Nat.reduceLeDiff,Nat.reduceEqDiff,Int.reduceEq,ne_eq,zN,reduceCtorEq,bY,b9,b8,zM,zA,zB,aL,zC,zD,if_true,if_false,zE,zF,aI,zG,aS,zH,zI,zJ,zK,aX,aV,a8,aZ,aU,aH,aP,aQ,aJ,aR,aG,aY,bH,Vm.bind_map,aO,aW,zL]
 all_goals try simp only [bO]
 all_goals try rfl
theorem xW {β:Type} (a1 p1:Int) (p2:List aA) (k:Ex->St->Option β):eB TT rB ⟨[(1,.d (.int .i64 a1)),(5,.own 12 0),(6,.d (.int .i64 p1))],[(12,some (.rows 0 32 9 (cM aA.cells p2)))]⟩ k = (kZ a1 p1 p2).bind (fun (r:(List aA))=>k (.exit 0) ⟨[(5,.own 12 0)],[(12,some (.rows 0 32 9 (cM aA.cells r)))]⟩):=by
 have hh:=fun (w:Int × (List aA))=>xT a1 w.1 w.2
 have h:=fun ho=>cO (T:=TT) (k:=k) (c:=j8) (step:=(fun (w:Int × (List aA))=>bA a1 w.1 w.2)) _ _ ho hh (p1,p2)
 refine Eq.trans (h (fun r s e=>by have q:=congrArg Prod.fst e; rcases r with x <;> cases q)) ?_
 unfold kZ
 exact bL _ fun x=>by rcases x with x <;> rfl
theorem hY (a0 a1:Int):Vm.call TT 19 [.int .i64 a0,.int .i64 a1] = (cC a0 a1).map fun (r:(List aA))=>.own (.ref 0) [(32,9)] [cM aA.cells r]:=by
 refine (GK (show TT 19 = some (.code ⟨2,31,[.tmp 4],aHO,true,false⟩) from rfl) _ rfl rfl).trans ?_
 show eB TT aHO ⟨[(0,.d (.int .i64 a0)),(1,.d (.int .i64 a1))],[]⟩ _ = _
 simp -implicitDefEqProofs (decide:=true) (maxSteps:=2000000) only [aHO,cC,↓xW,↓DN,↓DR,DQ,DP,↓reduceIte,Int.reduceToNat,Nat.reduceBEq,Nat.reduceAdd,Nat.reduceLT,Nat.reduceLeDiff,Nat.reduceEqDiff,Int.reduceEq,ne_eq,zN,reduceCtorEq,bY,b9,b8,zM,zA,zB,aL,zC,zD,if_true,if_false,zE,zF,aI,zG,aS,zH,zI,zJ,zK,aX,aV,a8,aZ,aU,aH,aP,aQ,aJ,aR,aG,aY,bH,Vm.bind_map,aO,aW,zL]
 all_goals try simp only [bO]
 all_goals try rfl
theorem K5 (a0 a1:Int):Vm.call TT 38 [.int .i64 a0,.int .i64 a1] = (dY a0 a1).map fun (r:Bool)=>.bool r:=by
 refine (dN (show TT 38 = some (.code ⟨2,12,[.tmp 4],aGq,false,false⟩) from rfl) _ rfl rfl).trans ?_
 show eB TT aGq ⟨[(0,.d (.int .i64 a0)),(1,.d (.int .i64 a1))],[]⟩ _ = _
 simp -implicitDefEqProofs (decide:=true) (maxSteps:=2000000) only [aGq,dY,↓DN,↓DR,DQ,DP,↓reduceIte,Int.reduceToNat,Nat.reduceBEq,Nat.reduceAdd,Nat.reduceLT,Nat.reduceLeDiff,Nat.reduceEqDiff,Int.reduceEq,ne_eq,zN,reduceCtorEq,bY,b9,b8,zM,zA,zB,aL,zC,zD,if_true,if_false,zE,zF,aI,zG,aS,zH,zI,zJ,zK,aX,aV,a8,aZ,aU,aH,aP,aQ,aJ,aR,aG,aY,bH,Vm.bind_map,aO,aW,zL]
 all_goals try simp only [bO]
 all_goals try rfl
theorem qQ {β:Type} (a0 a1:Int) (d:Nat) (bl fz:List (Nat × Option aM)) (k:V->Option β) (kw:V->List (Nat × Option aM)->Option β):fJ TT d bl 38 [.int .i64 a0,.int .i64 a1] fz k kw = (dY a0 a1).bind fun (r:Bool)=>k (.d (.bool r)):=by
 have h:=K5 a0 a1
 exact cV h (fun _=>rfl) fz
theorem QT (a0 a1 a2:Int) (a3:List aA):Vm.call TT 21 [.int .i64 a0,.int .i64 a1,.int .i64 a2,.sl (cM aA.cells a3)] = (qP a0 a1 a2 a3).map fun (r:Bool)=>.bool r:=by
 refine (dN (show TT 21 = some (.code ⟨4,26,[.tmp 8],aGc,false,false⟩) from rfl) _ rfl rfl).trans ?_
 show eB TT aGc ⟨[(0,.d (.int .i64 a0)),(1,.d (.int .i64 a1)),(2,.d (.int .i64 a2)),(3,.d (.sl (cM aA.cells a3)))],[]⟩ _ = _
 simp -implicitDefEqProofs (decide:=true) (maxSteps:=2000000) only [aGc,qP,↓qQ,↓DN,↓DR,DQ,DP,↓reduceIte,Int.reduceToNat,Nat.reduceBEq,Nat.reduceAdd,Nat.reduceLT,Nat.reduceLeDiff,Nat.reduceEqDiff,Int.reduceEq,ne_eq,zN,reduceCtorEq,bY,b9,b8,zM,zA,zB,aL,zC,zD,if_true,if_false,zE,zF,aI,zG,aS,zH,zI,zJ,zK,aX,aV,a8,aZ,aU,aH,aP,aQ,aJ,aR,aG,aY,bH,Vm.bind_map,aO,aW,zL]
 all_goals try simp only [bO]
 all_goals try rfl
theorem dJ {β:Type} (a0 a1 a2:Int) (a3:List aA) (d:Nat) (bl fz:List (Nat × Option aM)) (k:V->Option β) (kw:V->List (Nat × Option aM)->Option β):fJ TT d bl 21 [.int .i64 a0,.int .i64 a1,.int .i64 a2,.sl (cM aA.cells a3)] fz k kw = (qP a0 a1 a2 a3).bind fun (r:Bool)=>k (.d (.bool r)):=by
 have h:=QT a0 a1 a2 a3
 exact cV h (fun _=>rfl) fz
theorem u3 {β:Type} (a1:Int) (a2:aA) (p4:Bool) (k:Ex->St->Option β):eB TT u0 ⟨[(1,.d (.int .i64 a1)),(5,.ptr 5 0),(7,.ptr 7 0),(8,.d (.bool p4)),(28,.d (.int .i64 a2.Kind))],[(5,some (.box (bQ a2.cells))),(7,some (.box [.d (.int .i64 a2.Kind),.d (.int .i64 0),.d (.int .i64 a2.Day),.d (.int .i64 0),.d (.int .i64 0),.d (.int .i64 0),.d (.int .i64 0),.d (.int .i64 0),.d (.int .i64 0)]))]⟩ k = (qJ a1 a2 p4).bind (fun (r:Bool × Int × Int × Int)=>k .normal ⟨[(1,.d (.int .i64 a1)),(5,.ptr 5 0),(7,.ptr 7 0),(8,.d (.bool r.1))],[(5,some (.box (bQ a2.cells))),(7,some (.box [.d (.int .i64 a2.Kind),.d (.int .i64 r.2.1),.d (.int .i64 a2.Day),.d (.int .i64 r.2.2.1),.d (.int .i64 0),.d (.int .i64 0),.d (.int .i64 0),.d (.int .i64 r.2.2.2),.d (.int .i64 0)]))]⟩):=by
 simp -implicitDefEqProofs (decide:=true) (maxSteps:=2000000) only [u0,qJ,↓qQ,↓DN,↓DR,DQ,DP,↓reduceIte,Int.reduceToNat,Nat.reduceBEq,Nat.reduceAdd,Nat.reduceLT,Nat.reduceLeDiff,Nat.reduceEqDiff,Int.reduceEq,ne_eq,zN,reduceCtorEq,bY,b9,b8,zM,zA,zB,aL,zC,zD,if_true,if_false,zE,zF,aI,zG,aS,zH,zI,zJ,zK,aX,aV,a8,aZ,aU,aH,aP,aQ,aJ,aR,aG,aY,bH,Vm.bind_map,aO,aW,zL]
 all_goals try simp only [bO]
 all_goals try rfl
theorem rA {β:Type} (a1:Int) (a2:aA) (p18:Bool) (p19 p20 p21 p22 p23 p24 p25:Int) (k:Ex->St->Option β):eB TT pB ⟨[(1,.d (.int .i64 a1)),(5,.ptr 5 0),(7,.ptr 7 0),(8,.d (.bool p18))],[(5,some (.box (bQ a2.cells))),(7,some (.box [.d (.int .i64 a2.Kind),.d (.int .i64 p19),.d (.int .i64 a2.Day),.d (.int .i64 p20),.d (.int .i64 p21),.d (.int .i64 p22),.d (.int .i64 p23),.d (.int .i64 p24),.d (.int .i64 p25)]))]⟩ k = (dE a1 a2 p18 p19 p20 p21 p22 p23 p24 p25).bind (fun (r:Int)=>k .ret ⟨[(6,.d (.int .i64 r))],[]⟩):=by
 simp -implicitDefEqProofs (decide:=true) (maxSteps:=2000000) only [pB,dE,↓u3,↓qQ,↓DN,↓DR,DQ,DP,↓reduceIte,Int.reduceToNat,Nat.reduceBEq,Nat.reduceAdd,Nat.reduceLT,Nat.reduceLeDiff,Nat.reduceEqDiff,Int.reduceEq,ne_eq,zN,reduceCtorEq,bY,b9,b8,zM,zA,zB,aL,zC,zD,if_true,if_false,zE,zF,aI,zG,aS,zH,zI,zJ,zK,aX,aV,a8,aZ,aU,aH,aP,aQ,aJ,aR,aG,aY,bH,Vm.bind_map,aO,aW,zL]
 all_goals try simp only [bO]
 all_goals try rfl
theorem wE {β:Type} (a1:Int) (a2:aA) (r9:Bool) (k:Ex->St->Option β):eB TT pB ⟨[(1,.d (.int .i64 a1)),(5,.ptr 5 0),(7,.ptr 7 0),(8,.d (.bool r9))],[(5,some (.box (bQ a2.cells))),(7,some (.box (bQ a2.cells)))]⟩ k = (dE a1 a2 r9 a2.Room a2.No a2.From a2.To a2.Currency a2.Due a2.Sum).bind (fun (r:Int)=>k .ret ⟨[(6,.d (.int .i64 r))],[]⟩):=rA a1 a2 r9 a2.Room a2.No a2.From a2.To a2.Currency a2.Due a2.Sum k
theorem wI {β:Type} (a1:Int) (a2:aA) (k:Ex->St->Option β):eB TT pB ⟨[(1,.d (.int .i64 a1)),(5,.ptr 5 0),(7,.ptr 7 0),(8,.d (.bool false))],[(5,some (.box (bQ a2.cells))),(7,some (.box (bQ a2.cells)))]⟩ k = (dE a1 a2 false a2.Room a2.No a2.From a2.To a2.Currency a2.Due a2.Sum).bind (fun (r:Int)=>k .ret ⟨[(6,.d (.int .i64 r))],[]⟩):=rA a1 a2 false a2.Room a2.No a2.From a2.To a2.Currency a2.Due a2.Sum k
theorem HS {β:Type} (a0 a1:Int) (a2:aA) (p4:Bool) (k:Ex->St->Option β):eB TT uP ⟨[(0,.d (.int .i64 a0)),(1,.d (.int .i64 a1)),(5,.ptr 5 0),(7,.ptr 7 0),(8,.d (.bool p4))],[(5,some (.box (bQ a2.cells))),(7,some (.box [.d (.int .i64 a2.Kind),.d (.int .i64 0),.d (.int .i64 a2.Day),.d (.int .i64 0),.d (.int .i64 0),.d (.int .i64 0),.d (.int .i64 0),.d (.int .i64 0),.d (.int .i64 0)]))]⟩ k = (mP a0 a1 a2 p4).bind (fun (r:Int)=>k .ret ⟨[(6,.d (.int .i64 r))],[]⟩):=by
 simp -implicitDefEqProofs (decide:=true) (maxSteps:=2000000) only [uP,mP,↓u3,↓rA,↓wE,↓wI,↓qQ,↓DN,↓DR,DQ,DP,↓reduceIte,Int.reduceToNat,Nat.reduceBEq,Nat.reduceAdd,Nat.reduceLT,Nat.reduceLeDiff,Nat.reduceEqDiff,Int.reduceEq,ne_eq,zN,reduceCtorEq,bY,b9,b8,zM,zA,zB,aL,zC,zD,if_true,if_false,zE,zF,aI,zG,aS,zH,zI,zJ,zK,aX,aV,a8,aZ,aU,aH,aP,aQ,aJ,aR,aG,aY,bH,Vm.bind_map,aO,aW,zL]
 all_goals try simp only [bO]
 all_goals try rfl
theorem E3 (a0 a1:Int) (a2:aA):Vm.call TT 20 [.int .i64 a0,.int .i64 a1,.agg a2.cells] = (kU a0 a1 a2).map fun (r:Int)=>.int .i64 r:=by
 refine (dN (show TT 20 = some (.code ⟨3,135,[.tmp 6],aGg,false,false⟩) from rfl) _ rfl rfl).trans ?_
 show eB TT aGg ⟨[(0,.d (.int .i64 a0)),(1,.d (.int .i64 a1)),(2,oC a2.cells)],[]⟩ _ = _
 simp -implicitDefEqProofs (decide:=true) (maxSteps:=2000000) only [aGg,kU,↓u3,↓rA,↓wE,↓wI,↓HS,↓qQ,↓DN,↓DR,DQ,DP,↓reduceIte,Int.reduceToNat,Nat.reduceBEq,Nat.reduceAdd,Nat.reduceLT,Nat.reduceLeDiff,Nat.reduceEqDiff,Int.reduceEq,ne_eq,zN,reduceCtorEq,bY,b9,b8,zM,zA,zB,aL,zC,zD,if_true,if_false,zE,zF,aI,zG,aS,zH,zI,zJ,zK,aX,aV,a8,aZ,aU,aH,aP,aQ,aJ,aR,aG,aY,bH,Vm.bind_map,aO,aW,zL]
 all_goals try simp only [bO]
 all_goals try rfl
theorem cW {β:Type} (a0 a1:Int) (a2:aA) (d:Nat) (bl fz:List (Nat × Option aM)) (k:V->Option β) (kw:V->List (Nat × Option aM)->Option β):fJ TT d bl 20 [.int .i64 a0,.int .i64 a1,.agg a2.cells] fz k kw = (kU a0 a1 a2).bind fun (r:Int)=>k (.d (.int .i64 r)):=by
 have h:=E3 a0 a1 a2
 exact cV h (fun _=>rfl) fz
theorem E0 (a0:aA) (a1 a2:Int):Vm.call TT 42 [.agg a0.cells,.ptr [.int .i64 a1] 0,.ptr [.int .i64 a2] 0] = (kW a0 a1 a2).map fun (r:Bool)=>.bool r:=by
 refine (dN (show TT 42 = some (.code ⟨3,26,[.tmp 4],aHe,false,false⟩) from rfl) _ rfl rfl).trans ?_
 show eB TT aHe ⟨[(0,oC a0.cells),(1,.d (.ptr [.int .i64 a1] 0)),(2,.d (.ptr [.int .i64 a2] 0))],[]⟩ _ = _
 simp -implicitDefEqProofs (decide:=true) (maxSteps:=2000000) only [aHe,kW,↓DN,↓DR,DQ,DP,↓reduceIte,Int.reduceToNat,Nat.reduceBEq,Nat.reduceAdd,Nat.reduceLT,Nat.reduceLeDiff,Nat.reduceEqDiff,Int.reduceEq,ne_eq,zN,reduceCtorEq,bY,b9,b8,zM,zA,zB,aL,zC,zD,if_true,if_false,zE,zF,aI,zG,aS,zH,zI,zJ,zK,aX,aV,a8,aZ,aU,aH,aP,aQ,aJ,aR,aG,aY,bH,Vm.bind_map,aO,aW,zL]
 all_goals try simp only [bO]
 all_goals try rfl
theorem wH {β:Type} (a0:aA) (a1 a2:Int) (d:Nat) (bl fz:List (Nat × Option aM)) (k:V->Option β) (kw:V->List (Nat × Option aM)->Option β):fJ TT d bl 42 [.agg a0.cells,.ptr [.int .i64 a1] 0,.ptr [.int .i64 a2] 0] fz k kw = (kW a0 a1 a2).bind fun (r:Bool)=>k (.d (.bool r)):=by
 have h:=E0 a0 a1 a2
 exact cV h (fun _=>rfl) fz
theorem lK (a0:List aA) (a1 a2 p1:Int):eB TT bC ⟨[(0,.d (.sl (cM aA.cells a0))),(1,.d (.fn 42 [.ptr [.int .i64 a1] 0,.ptr [.int .i64 a2] 0])),(7,.d (.int .i64 (a0.length:Int))),(8,.d (.int .i64 p1))],[]⟩ (fun e s=>some (e,s)) = eN (fun (w:Int)=>(⟨[(0,.d (.sl (cM aA.cells a0))),(1,.d (.fn 42 [.ptr [.int .i64 a1] 0,.ptr [.int .i64 a2] 0])),(7,.d (.int .i64 (a0.length:Int))),(8,.d (.int .i64 w))],[]⟩ : St)) (fun (r:Unit ⊕ Int)=>Sum.elim (fun (z:Unit)=>(((.exit 0),⟨[],[]⟩):Ex × St)) (fun (z:Int)=>((.ret,⟨[(4,.d (.int .i64 z))],[]⟩):Ex × St)) r) (bG a0 a1 a2 p1):=by
 simp -implicitDefEqProofs (decide:=true) (maxSteps:=2000000) only [bC,bG,↓wH,↓DN,↓DR,DQ,DP,↓reduceIte,Int.reduceToNat,Nat.reduceBEq,Nat.reduceAdd,Nat.reduceLT,Nat.reduceLeDiff,Nat.reduceEqDiff,Int.reduceEq,ne_eq,zN,reduceCtorEq,bY,b9,b8,zM,zA,zB,aL,zC,zD,if_true,if_false,zE,zF,aI,zG,aS,zH,zI,zJ,zK,aX,aV,a8,aZ,aU,aH,aP,aQ,aJ,aR,aG,aY,bH,Vm.bind_map,aO,aW,zL]
 all_goals try simp only [bO]
 all_goals try rfl
theorem lM {β:Type} (a0:List aA) (a1 a2 p1:Int) (k:Ex->St->Option β):eB TT dD ⟨[(0,.d (.sl (cM aA.cells a0))),(1,.d (.fn 42 [.ptr [.int .i64 a1] 0,.ptr [.int .i64 a2] 0])),(7,.d (.int .i64 (a0.length:Int))),(8,.d (.int .i64 p1))],[]⟩ k = (dC a0 a1 a2 p1).bind (fun (r:Unit ⊕ Int)=>Sum.elim (fun (z:Unit)=>k (.exit 0) ⟨[],[]⟩) (fun (z:Int)=>k .ret ⟨[(4,.d (.int .i64 z))],[]⟩) r):=by
 have hh:=fun (w:Int)=>lK a0 a1 a2 w
 have h:=fun ho=>cO (T:=TT) (k:=k) (c:=bC) (step:=(fun (w:Int)=>bG a0 a1 a2 w)) _ _ ho hh p1
 refine Eq.trans (h (fun r s e=>by have q:=congrArg Prod.fst e; rcases r with x | x <;> cases q)) ?_
 unfold dC
 exact bL _ fun x=>by rcases x with x | x <;> rfl
theorem mK (a0:List aA) (a1 a2:Int):Vm.call TT 40 [.sl (cM aA.cells a0),.fn 42 [.ptr [.int .i64 a1] 0,.ptr [.int .i64 a2] 0]] = (cP a0 a1 a2).map fun (r:Int)=>.int .i64 r:=by
 refine (dN (show TT 40 = some (.code ⟨2,19,[.tmp 4],ND,false,false⟩) from rfl) _ rfl rfl).trans ?_
 show eB TT ND ⟨[(0,.d (.sl (cM aA.cells a0))),(1,.d (.fn 42 [.ptr [.int .i64 a1] 0,.ptr [.int .i64 a2] 0]))],[]⟩ _ = _
 simp -implicitDefEqProofs (decide:=true) (maxSteps:=2000000) only [ND,cP,↓lM,↓wH,↓DN,↓DR,DQ,DP,↓reduceIte,Int.reduceToNat,Nat.reduceBEq,Nat.reduceAdd,Nat.reduceLT,Nat.reduceLeDiff,Nat.reduceEqDiff,Int.reduceEq,ne_eq,zN,reduceCtorEq,bY,b9,b8,zM,zA,zB,aL,zC,zD,if_true,if_false,zE,zF,aI,zG,aS,zH,zI,zJ,zK,aX,aV,a8,aZ,aU,aH,aP,aQ,aJ,aR,aG,aY,bH,Vm.bind_map,aO,aW,zL]
 all_goals try simp only [bO]
 all_goals try rfl
theorem mW {β:Type} (a0:List aA) (a1 a2:Int) (d:Nat) (bl fz:List (Nat × Option aM)) (k:V->Option β) (kw:V->List (Nat × Option aM)->Option β):fJ TT d bl 40 [.sl (cM aA.cells a0),.fn 42 [.ptr [.int .i64 a1] 0,.ptr [.int .i64 a2] 0]] fz k kw = (cP a0 a1 a2).bind fun (r:Int)=>k (.d (.int .i64 r)):=by
 have h:=mK a0 a1 a2
 exact cV h (fun _=>rfl) fz
theorem lT (a0:List aA) (a1 a2:Int):Vm.call TT 26 [.sl (cM aA.cells a0),.fn 42 [.ptr [.int .i64 a1] 0,.ptr [.int .i64 a2] 0]] = (cE a0 a1 a2).map fun (r:Bool)=>.bool r:=by
 refine (dN (show TT 26 = some (.code ⟨2,9,[.tmp 4],NN,false,false⟩) from rfl) _ rfl rfl).trans ?_
 show eB TT NN ⟨[(0,.d (.sl (cM aA.cells a0))),(1,.d (.fn 42 [.ptr [.int .i64 a1] 0,.ptr [.int .i64 a2] 0]))],[]⟩ _ = _
 simp -implicitDefEqProofs (decide:=true) (maxSteps:=2000000) only [NN,cE,↓mW,↓DN,↓DR,DQ,DP,↓reduceIte,Int.reduceToNat,Nat.reduceBEq,Nat.reduceAdd,Nat.reduceLT,Nat.reduceLeDiff,Nat.reduceEqDiff,Int.reduceEq,ne_eq,zN,reduceCtorEq,bY,b9,b8,zM,zA,zB,aL,zC,zD,if_true,if_false,zE,zF,aI,zG,aS,zH,zI,zJ,zK,aX,aV,a8,aZ,aU,aH,aP,aQ,aJ,aR,aG,aY,bH,Vm.bind_map,aO,aW,zL]
 all_goals try simp only [bO]
 all_goals try rfl
theorem lP {β:Type} (a0:List aA) (a1 a2:Int) (d:Nat) (bl fz:List (Nat × Option aM)) (k:V->Option β) (kw:V->List (Nat × Option aM)->Option β):fJ TT d bl 26 [.sl (cM aA.cells a0),.fn 42 [.ptr [.int .i64 a1] 0,.ptr [.int .i64 a2] 0]] fz k kw = (cE a0 a1 a2).bind fun (r:Bool)=>k (.d (.bool r)):=by
 have h:=lT a0 a1 a2
 exact cV h (fun _=>rfl) fz
theorem LI (a0:List aA) (a1 a2:Int):Vm.call TT 30 [.sl (cM aA.cells a0),.int .i64 a1,.int .i64 a2] = (pL a0 a1 a2).map fun (r:Bool)=>.bool r:=by
 refine (dN (show TT 30 = some (.code ⟨3,10,[.tmp 6],aIm,false,false⟩) from rfl) _ rfl rfl).trans ?_
 show eB TT aIm ⟨[(0,.d (.sl (cM aA.cells a0))),(1,.d (.int .i64 a1)),(2,.d (.int .i64 a2))],[]⟩ _ = _
 simp -implicitDefEqProofs (decide:=true) (maxSteps:=2000000) only [aIm,pL,↓lP,↓DN,↓DR,DQ,DP,↓reduceIte,Int.reduceToNat,Nat.reduceBEq,Nat.reduceAdd,Nat.reduceLT,Nat.reduceLeDiff,Nat.reduceEqDiff,Int.reduceEq,ne_eq,zN,reduceCtorEq,bY,b9,b8,zM,zA,zB,aL,zC,zD,if_true,if_false,zE,zF,aI,zG,aS,zH,zI,zJ,zK,aX,aV,a8,aZ,aU,aH,aP,aQ,aJ,aR,aG,aY,bH,Vm.bind_map,aO,aW,zL]
 all_goals try simp only [bO]
 all_goals try rfl
theorem tU {β:Type} (a0:List aA) (a1 a2:Int) (d:Nat) (bl fz:List (Nat × Option aM)) (k:V->Option β) (kw:V->List (Nat × Option aM)->Option β):fJ TT d bl 30 [.sl (cM aA.cells a0),.int .i64 a1,.int .i64 a2] fz k kw = (pL a0 a1 a2).bind fun (r:Bool)=>k (.d (.bool r)):=by
 have h:=LI a0 a1 a2
 exact cV h (fun _=>rfl) fz
theorem CF (a0 a1:aA):Vm.call TT 28 [.agg a0.cells,.ptr a1.cells 0] = (jT a0 a1).map fun (r:Bool)=>.bool r:=by
 refine (dN (show TT 28 = some (.code ⟨2,19,[.tmp 3],aHb,false,false⟩) from rfl) _ rfl rfl).trans ?_
 show eB TT aHb ⟨[(0,oC a0.cells),(1,.d (.ptr a1.cells 0))],[]⟩ _ = _
 simp -implicitDefEqProofs (decide:=true) (maxSteps:=2000000) only [aHb,jT,↓DN,↓DR,DQ,DP,↓reduceIte,Int.reduceToNat,Nat.reduceBEq,Nat.reduceAdd,Nat.reduceLT,Nat.reduceLeDiff,Nat.reduceEqDiff,Int.reduceEq,ne_eq,zN,reduceCtorEq,bY,b9,b8,zM,zA,zB,aL,zC,zD,if_true,if_false,zE,zF,aI,zG,aS,zH,zI,zJ,zK,aX,aV,a8,aZ,aU,aH,aP,aQ,aJ,aR,aG,aY,bH,Vm.bind_map,aO,aW,zL]
 all_goals try simp only [bO]
 all_goals try rfl
theorem uJ {β:Type} (a0 a1:aA) (d:Nat) (bl fz:List (Nat × Option aM)) (k:V->Option β) (kw:V->List (Nat × Option aM)->Option β):fJ TT d bl 28 [.agg a0.cells,.ptr a1.cells 0] fz k kw = (jT a0 a1).bind fun (r:Bool)=>k (.d (.bool r)):=by
 have h:=CF a0 a1
 exact cV h (fun _=>rfl) fz
theorem lN (a0:List aA) (a1:aA) (p1:Int):eB TT bC ⟨[(0,.d (.sl (cM aA.cells a0))),(1,.d (.fn 28 [.ptr a1.cells 0])),(7,.d (.int .i64 (a0.length:Int))),(8,.d (.int .i64 p1))],[]⟩ (fun e s=>some (e,s)) = eN (fun (w:Int)=>(⟨[(0,.d (.sl (cM aA.cells a0))),(1,.d (.fn 28 [.ptr a1.cells 0])),(7,.d (.int .i64 (a0.length:Int))),(8,.d (.int .i64 w))],[]⟩ : St)) (fun (r:Unit ⊕ Int)=>Sum.elim (fun (z:Unit)=>(((.exit 0),⟨[],[]⟩):Ex × St)) (fun (z:Int)=>((.ret,⟨[(4,.d (.int .i64 z))],[]⟩):Ex × St)) r) (bE a0 a1 p1):=by
 simp -implicitDefEqProofs (decide:=true) (maxSteps:=2000000) only [bC,bE,↓uJ,↓DN,↓DR,DQ,DP,↓reduceIte,Int.reduceToNat,Nat.reduceBEq,Nat.reduceAdd,Nat.reduceLT,Nat.reduceLeDiff,Nat.reduceEqDiff,Int.reduceEq,ne_eq,zN,reduceCtorEq,bY,b9,b8,zM,zA,zB,aL,zC,zD,if_true,if_false,zE,zF,aI,zG,aS,zH,zI,zJ,zK,aX,aV,a8,aZ,aU,aH,aP,aQ,aJ,aR,aG,aY,bH,Vm.bind_map,aO,aW,zL]
 all_goals try simp only [bO]
 all_goals try rfl
theorem lL {β:Type} (a0:List aA) (a1:aA) (p1:Int) (k:Ex->St->Option β):eB TT dD ⟨[(0,.d (.sl (cM aA.cells a0))),(1,.d (.fn 28 [.ptr a1.cells 0])),(7,.d (.int .i64 (a0.length:Int))),(8,.d (.int .i64 p1))],[]⟩ k = (dB a0 a1 p1).bind (fun (r:Unit ⊕ Int)=>Sum.elim (fun (z:Unit)=>k (.exit 0) ⟨[],[]⟩) (fun (z:Int)=>k .ret ⟨[(4,.d (.int .i64 z))],[]⟩) r):=by
 have hh:=fun (w:Int)=>lN a0 a1 w
 have h:=fun ho=>cO (T:=TT) (k:=k) (c:=bC) (step:=(fun (w:Int)=>bE a0 a1 w)) _ _ ho hh p1
 refine Eq.trans (h (fun r s e=>by have q:=congrArg Prod.fst e; rcases r with x | x <;> cases q)) ?_
 unfold dB
 exact bL _ fun x=>by rcases x with x | x <;> rfl
theorem mV (a0:List aA) (a1:aA):Vm.call TT 40 [.sl (cM aA.cells a0),.fn 28 [.ptr a1.cells 0]] = (cU a0 a1).map fun (r:Int)=>.int .i64 r:=by
 refine (dN (show TT 40 = some (.code ⟨2,19,[.tmp 4],ND,false,false⟩) from rfl) _ rfl rfl).trans ?_
 show eB TT ND ⟨[(0,.d (.sl (cM aA.cells a0))),(1,.d (.fn 28 [.ptr a1.cells 0]))],[]⟩ _ = _
 simp -implicitDefEqProofs (decide:=true) (maxSteps:=2000000) only [ND,cU,↓lL,↓uJ,↓DN,↓DR,DQ,DP,↓reduceIte,Int.reduceToNat,Nat.reduceBEq,Nat.reduceAdd,Nat.reduceLT,Nat.reduceLeDiff,Nat.reduceEqDiff,Int.reduceEq,ne_eq,zN,reduceCtorEq,bY,b9,b8,zM,zA,zB,aL,zC,zD,if_true,if_false,zE,zF,aI,zG,aS,zH,zI,zJ,zK,aX,aV,a8,aZ,aU,aH,aP,aQ,aJ,aR,aG,aY,bH,Vm.bind_map,aO,aW,zL]
 all_goals try simp only [bO]
 all_goals try rfl
theorem mR {β:Type} (a0:List aA) (a1:aA) (d:Nat) (bl fz:List (Nat × Option aM)) (k:V->Option β) (kw:V->List (Nat × Option aM)->Option β):fJ TT d bl 40 [.sl (cM aA.cells a0),.fn 28 [.ptr a1.cells 0]] fz k kw = (cU a0 a1).bind fun (r:Int)=>k (.d (.int .i64 r)):=by
 have h:=mV a0 a1
 exact cV h (fun _=>rfl) fz
theorem lO (a0:List aA) (a1:aA):Vm.call TT 26 [.sl (cM aA.cells a0),.fn 28 [.ptr a1.cells 0]] = (bX a0 a1).map fun (r:Bool)=>.bool r:=by
 refine (dN (show TT 26 = some (.code ⟨2,9,[.tmp 4],NN,false,false⟩) from rfl) _ rfl rfl).trans ?_
 show eB TT NN ⟨[(0,.d (.sl (cM aA.cells a0))),(1,.d (.fn 28 [.ptr a1.cells 0]))],[]⟩ _ = _
 simp -implicitDefEqProofs (decide:=true) (maxSteps:=2000000) only [NN,bX,↓mR,↓DN,↓DR,DQ,DP,↓reduceIte,Int.reduceToNat,Nat.reduceBEq,Nat.reduceAdd,Nat.reduceLT,Nat.reduceLeDiff,Nat.reduceEqDiff,Int.reduceEq,ne_eq,zN,reduceCtorEq,bY,b9,b8,zM,zA,zB,aL,zC,zD,if_true,if_false,zE,zF,aI,zG,aS,zH,zI,zJ,zK,aX,aV,a8,aZ,aU,aH,aP,aQ,aJ,aR,aG,aY,bH,Vm.bind_map,aO,aW,zL]
 all_goals try simp only [bO]
 all_goals try rfl
theorem cZ {β:Type} (a0:List aA) (a1:aA) (d:Nat) (bl fz:List (Nat × Option aM)) (k:V->Option β) (kw:V->List (Nat × Option aM)->Option β):fJ TT d bl 26 [.sl (cM aA.cells a0),.fn 28 [.ptr a1.cells 0]] fz k kw = (bX a0 a1).bind fun (r:Bool)=>k (.d (.bool r)):=by
 have h:=lO a0 a1
 exact cV h (fun _=>rfl) fz
theorem oI (a0:List aA) (a1:aA) (p1:Int):eB TT dT ⟨[(0,.d (.sl (cM aA.cells a0))),(3,.ptr 3 0),(7,.d (.int .i64 (a0.length:Int))),(8,.d (.int .i64 p1))],[(3,some (.box (bQ a1.cells)))]⟩ (fun e s=>some (e,s)) = eN (fun (w:Int)=>(⟨[(0,.d (.sl (cM aA.cells a0))),(3,.ptr 3 0),(7,.d (.int .i64 (a0.length:Int))),(8,.d (.int .i64 w))],[(3,some (.box (bQ a1.cells)))]⟩ : St)) (fun (r:Unit ⊕ Int)=>Sum.elim (fun (z:Unit)=>(((.exit 0),⟨[],[]⟩):Ex × St)) (fun (z:Int)=>((.ret,⟨[(4,.d (.int .i64 z))],[]⟩):Ex × St)) r) (bJ a0 a1 p1):=by
 simp -implicitDefEqProofs (decide:=true) (maxSteps:=2000000) only [dT,bJ,↓DN,↓DR,DQ,DP,↓reduceIte,Int.reduceToNat,Nat.reduceBEq,Nat.reduceAdd,Nat.reduceLT,Nat.reduceLeDiff,Nat.reduceEqDiff,Int.reduceEq,ne_eq,zN,reduceCtorEq,bY,b9,b8,zM,zA,zB,aL,zC,zD,if_true,if_false,zE,zF,aI,zG,aS,zH,zI,zJ,zK,aX,aV,a8,aZ,aU,aH,aP,aQ,aJ,aR,aG,aY,bH,Vm.bind_map,aO,aW,zL]
 all_goals try simp only [bO]
 all_goals try rfl
theorem oE {β:Type} (a0:List aA) (a1:aA) (p1:Int) (k:Ex->St->Option β):eB TT iT ⟨[(0,.d (.sl (cM aA.cells a0))),(3,.ptr 3 0),(7,.d (.int .i64 (a0.length:Int))),(8,.d (.int .i64 p1))],[(3,some (.box (bQ a1.cells)))]⟩ k = (d9 a0 a1 p1).bind (fun (r:Unit ⊕ Int)=>Sum.elim (fun (z:Unit)=>k (.exit 0) ⟨[],[]⟩) (fun (z:Int)=>k .ret ⟨[(4,.d (.int .i64 z))],[]⟩) r):=by
 have hh:=fun (w:Int)=>oI a0 a1 w
 have h:=fun ho=>cO (T:=TT) (k:=k) (c:=dT) (step:=(fun (w:Int)=>bJ a0 a1 w)) _ _ ho hh p1
 refine Eq.trans (h (fun r s e=>by have q:=congrArg Prod.fst e; rcases r with x | x <;> cases q)) ?_
 unfold d9
 exact bL _ fun x=>by rcases x with x | x <;> rfl
theorem pE (a0:List aA) (a1:aA):Vm.call TT 41 [.sl (cM aA.cells a0),.agg a1.cells] = (dH a0 a1).map fun (r:Int)=>.int .i64 r:=by
 refine (dN (show TT 41 = some (.code ⟨2,19,[.tmp 4],aGO,false,false⟩) from rfl) _ rfl rfl).trans ?_
 show eB TT aGO ⟨[(0,.d (.sl (cM aA.cells a0))),(1,oC a1.cells)],[]⟩ _ = _
 simp -implicitDefEqProofs (decide:=true) (maxSteps:=2000000) only [aGO,dH,↓oE,↓DN,↓DR,DQ,DP,↓reduceIte,Int.reduceToNat,Nat.reduceBEq,Nat.reduceAdd,Nat.reduceLT,Nat.reduceLeDiff,Nat.reduceEqDiff,Int.reduceEq,ne_eq,zN,reduceCtorEq,bY,b9,b8,zM,zA,zB,aL,zC,zD,if_true,if_false,zE,zF,aI,zG,aS,zH,zI,zJ,zK,aX,aV,a8,aZ,aU,aH,aP,aQ,aJ,aR,aG,aY,bH,Vm.bind_map,aO,aW,zL]
 all_goals try simp only [bO]
 all_goals try rfl
theorem pG {β:Type} (a0:List aA) (a1:aA) (d:Nat) (bl fz:List (Nat × Option aM)) (k:V->Option β) (kw:V->List (Nat × Option aM)->Option β):fJ TT d bl 41 [.sl (cM aA.cells a0),.agg a1.cells] fz k kw = (dH a0 a1).bind fun (r:Int)=>k (.d (.int .i64 r)):=by
 have h:=pE a0 a1
 exact cV h (fun _=>rfl) fz
end Go.Proofs.Ytiimibimkpimbaa
