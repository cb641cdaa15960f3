/- The functions of the small machine compute the plain definitions. Printed by a program. -/
import Derived.Test.YtiimibimkpimbaaFn
set_option linter.unusedVariables false
set_option linter.unusedSimpArgs false
namespace Go.Proofs.Ytiimibimkpimbaa
open Vm
open Go.RowKit
set_option maxRecDepth 100000
set_option maxHeartbeats 4000000
attribute [local congr] yC BE yA A3
theorem xQ (a1:Int) (p1:Int) (p2:List aA):dY TT jX ⟨[(1,.d (.int .i64 a1)),(5,.own 12 0),(6,.d (.int .i64 p1))],[(12,some (.rows 0 32 9 (cM aA.cells p2)))]⟩ (fun e s=>some (e,s)) = eE (fun (w:Int × (List aA))=>(⟨[(1,.d (.int .i64 a1)),(5,.own 12 0),(6,.d (.int .i64 w.1))],[(12,some (.rows 0 32 9 (cM aA.cells w.2)))]⟩ : St)) (fun (r:(List aA))=>(((.exit 0),⟨[(5,.own 12 0)],[(12,some (.rows 0 32 9 (cM aA.cells r)))]⟩):Ex × St)) (bA a1 p1 p2):=by
 simp -implicitDefEqProofs (decide:=true) (maxSteps:=2000000) only [jX,bA,↓DN,↓DR,DQ,DP,↓reduceIte,Int.reduceToNat,Nat.reduceBEq,Nat.reduceAdd,Nat.reduceLT,Nat.reduceLeDiff,Nat.reduceEqDiff,Int.reduceEq,ne_eq,zN,reduceCtorEq,bW,bZ,b7,zM,zA,zB,aL,zC,zD,if_true,if_false,zE,zF,aH,zG,aQ,zH,zI,zJ,zK,a8,aU,aZ,aX,aV,aI,aM,aR,aK,aP,aJ,aW,bG,Vm.bind_map,aO,aY,zL]
 all_goals try simp only [bN]
 all_goals try rfl
theorem xV {β:Type} (a1:Int) (p1:Int) (p2:List aA) (k:Ex→St→Option β):dY TT rJ ⟨[(1,.d (.int .i64 a1)),(5,.own 12 0),(6,.d (.int .i64 p1))],[(12,some (.rows 0 32 9 (cM aA.cells p2)))]⟩ k = (kT a1 p1 p2).bind (fun (r:(List aA))=>k (.exit 0) ⟨[(5,.own 12 0)],[(12,some (.rows 0 32 9 (cM aA.cells r)))]⟩):=by
 have hh:=fun (w:Int × (List aA))=>xQ a1 w.1 w.2
 have h:=fun ho=>cG (T:=TT) (k:=k) (c:=jX) (step:=(fun (w:Int × (List aA))=>bA a1 w.1 w.2)) _ _ ho hh (p1,p2)
 refine Eq.trans (h (fun r s e=>by have q:=congrArg Prod.fst e; rcases r with x <;> cases q)) ?_
 unfold kT
 exact bJ _ fun x=>by rcases x with x <;> rfl
theorem iA (a0:Int) (a1:Int):Vm.call TT 19 [.int .i64 a0,.int .i64 a1] = (b9 a0 a1).map fun (r:(List aA))=>.own (.ref 0) [(32,9)] [cM aA.cells r]:=by
 refine (GJ (show TT 19 = some (.code ⟨2,31,[.tmp 4],aGR,true,false⟩) from rfl) _ rfl rfl).trans ?_
 show dY TT aGR ⟨[(0,.d (.int .i64 a0)),(1,.d (.int .i64 a1))],[]⟩ _ = _
 simp -implicitDefEqProofs (decide:=true) (maxSteps:=2000000) only [aGR,b9,↓xV,↓DN,↓DR,DQ,DP,↓reduceIte,Int.reduceToNat,Nat.reduceBEq,Nat.reduceAdd,Nat.reduceLT,Nat.reduceLeDiff,Nat.reduceEqDiff,Int.reduceEq,ne_eq,zN,reduceCtorEq,bW,bZ,b7,zM,zA,zB,aL,zC,zD,if_true,if_false,zE,zF,aH,zG,aQ,zH,zI,zJ,zK,a8,aU,aZ,aX,aV,aI,aM,aR,aK,aP,aJ,aW,bG,Vm.bind_map,aO,aY,zL]
 all_goals try simp only [bN]
 all_goals try rfl
theorem KO (a0:Int) (a1:Int):Vm.call TT 38 [.int .i64 a0,.int .i64 a1] = (d9 a0 a1).map fun (r:Bool)=>.bool r:=by
 refine (dO (show TT 38 = some (.code ⟨2,12,[.tmp 4],aH7,false,false⟩) from rfl) _ rfl rfl).trans ?_
 show dY TT aH7 ⟨[(0,.d (.int .i64 a0)),(1,.d (.int .i64 a1))],[]⟩ _ = _
 simp -implicitDefEqProofs (decide:=true) (maxSteps:=2000000) only [aH7,d9,↓DN,↓DR,DQ,DP,↓reduceIte,Int.reduceToNat,Nat.reduceBEq,Nat.reduceAdd,Nat.reduceLT,Nat.reduceLeDiff,Nat.reduceEqDiff,Int.reduceEq,ne_eq,zN,reduceCtorEq,bW,bZ,b7,zM,zA,zB,aL,zC,zD,if_true,if_false,zE,zF,aH,zG,aQ,zH,zI,zJ,zK,a8,aU,aZ,aX,aV,aI,aM,aR,aK,aP,aJ,aW,bG,Vm.bind_map,aO,aY,zL]
 all_goals try simp only [bN]
 all_goals try rfl
theorem qS {β:Type} (a0:Int) (a1:Int) (d:Nat) (bl:List (Nat × Option aS)) (fz:List (Nat × Option aS)) (k:V→Option β) (kw:V→List (Nat × Option aS)→Option β):fH TT d bl 38 [.int .i64 a0,.int .i64 a1] fz k kw = (d9 a0 a1).bind fun (r:Bool)=>k (.d (.bool r)):=by
 have h:=KO a0 a1
 exact cP h (fun _=>rfl) fz
theorem QC (a0:Int) (a1:Int) (a2:Int) (a3:List aA):Vm.call TT 21 [.int .i64 a0,.int .i64 a1,.int .i64 a2,.sl (cM aA.cells a3)] = (qM a0 a1 a2 a3).map fun (r:Bool)=>.bool r:=by
 refine (dO (show TT 21 = some (.code ⟨4,26,[.tmp 8],aGL,false,false⟩) from rfl) _ rfl rfl).trans ?_
 show dY TT aGL ⟨[(0,.d (.int .i64 a0)),(1,.d (.int .i64 a1)),(2,.d (.int .i64 a2)),(3,.d (.sl (cM aA.cells a3)))],[]⟩ _ = _
 simp -implicitDefEqProofs (decide:=true) (maxSteps:=2000000) only [aGL,qM,↓qS,↓DN,↓DR,DQ,DP,↓reduceIte,Int.reduceToNat,Nat.reduceBEq,Nat.reduceAdd,Nat.reduceLT,Nat.reduceLeDiff,Nat.reduceEqDiff,Int.reduceEq,ne_eq,zN,reduceCtorEq,bW,bZ,b7,zM,zA,zB,aL,zC,zD,if_true,if_false,zE,zF,aH,zG,aQ,zH,zI,zJ,zK,a8,aU,aZ,aX,aV,aI,aM,aR,aK,aP,aJ,aW,bG,Vm.bind_map,aO,aY,zL]
 all_goals try simp only [bN]
 all_goals try rfl
theorem dK {β:Type} (a0:Int) (a1:Int) (a2:Int) (a3:List aA) (d:Nat) (bl:List (Nat × Option aS)) (fz:List (Nat × Option aS)) (k:V→Option β) (kw:V→List (Nat × Option aS)→Option β):fH TT d bl 21 [.int .i64 a0,.int .i64 a1,.int .i64 a2,.sl (cM aA.cells a3)] fz k kw = (qM a0 a1 a2 a3).bind fun (r:Bool)=>k (.d (.bool r)):=by
 have h:=QC a0 a1 a2 a3
 exact cP h (fun _=>rfl) fz
theorem uR {β:Type} (a1:Int) (a2:aA) (p4:Bool) (k:Ex→St→Option β):dY TT uX ⟨[(1,.d (.int .i64 a1)),(5,.ptr 5 0),(7,.ptr 7 0),(8,.d (.bool p4)),(28,.d (.int .i64 a2.Kind))],[(5,some (.box (bQ a2.cells))),(7,some (.box [.d (.int .i64 a2.Kind),.d (.int .i64 0),.d (.int .i64 a2.Day),.d (.int .i64 0),.d (.int .i64 0),.d (.int .i64 0),.d (.int .i64 0),.d (.int .i64 0),.d (.int .i64 0)]))]⟩ k = (qY a1 a2 p4).bind (fun (r:Bool × Int × Int × Int)=>k .normal ⟨[(1,.d (.int .i64 a1)),(5,.ptr 5 0),(7,.ptr 7 0),(8,.d (.bool r.1))],[(5,some (.box (bQ a2.cells))),(7,some (.box [.d (.int .i64 a2.Kind),.d (.int .i64 r.2.1),.d (.int .i64 a2.Day),.d (.int .i64 r.2.2.1),.d (.int .i64 0),.d (.int .i64 0),.d (.int .i64 0),.d (.int .i64 r.2.2.2),.d (.int .i64 0)]))]⟩):=by
 simp -implicitDefEqProofs (decide:=true) (maxSteps:=2000000) only [uX,qY,↓qS,↓DN,↓DR,DQ,DP,↓reduceIte,Int.reduceToNat,Nat.reduceBEq,Nat.reduceAdd,Nat.reduceLT,Nat.reduceLeDiff,Nat.reduceEqDiff,Int.reduceEq,ne_eq,zN,reduceCtorEq,bW,bZ,b7,zM,zA,zB,aL,zC,zD,if_true,if_false,zE,zF,aH,zG,aQ,zH,zI,zJ,zK,a8,aU,aZ,aX,aV,aI,aM,aR,aK,aP,aJ,aW,bG,Vm.bind_map,aO,aY,zL]
 all_goals try simp only [bN]
 all_goals try rfl
theorem rF {β:Type} (a1:Int) (a2:aA) (p18:Bool) (p19:Int) (p20:Int) (p21:Int) (p22:Int) (p23:Int) (p24:Int) (p25:Int) (k:Ex→St→Option β):dY TT pG ⟨[(1,.d (.int .i64 a1)),(5,.ptr 5 0),(7,.ptr 7 0),(8,.d (.bool p18))],[(5,some (.box (bQ a2.cells))),(7,some (.box [.d (.int .i64 a2.Kind),.d (.int .i64 p19),.d (.int .i64 a2.Day),.d (.int .i64 p20),.d (.int .i64 p21),.d (.int .i64 p22),.d (.int .i64 p23),.d (.int .i64 p24),.d (.int .i64 p25)]))]⟩ k = (dE a1 a2 p18 p19 p20 p21 p22 p23 p24 p25).bind (fun (r:Int)=>k .ret ⟨[(6,.d (.int .i64 r))],[]⟩):=by
 simp -implicitDefEqProofs (decide:=true) (maxSteps:=2000000) only [pG,dE,↓uR,↓qS,↓DN,↓DR,DQ,DP,↓reduceIte,Int.reduceToNat,Nat.reduceBEq,Nat.reduceAdd,Nat.reduceLT,Nat.reduceLeDiff,Nat.reduceEqDiff,Int.reduceEq,ne_eq,zN,reduceCtorEq,bW,bZ,b7,zM,zA,zB,aL,zC,zD,if_true,if_false,zE,zF,aH,zG,aQ,zH,zI,zJ,zK,a8,aU,aZ,aX,aV,aI,aM,aR,aK,aP,aJ,aW,bG,Vm.bind_map,aO,aY,zL]
 all_goals try simp only [bN]
 all_goals try rfl
theorem wI {β:Type} (a1:Int) (a2:aA) (r9:Bool) (k:Ex→St→Option β):dY TT pG ⟨[(1,.d (.int .i64 a1)),(5,.ptr 5 0),(7,.ptr 7 0),(8,.d (.bool r9))],[(5,some (.box (bQ a2.cells))),(7,some (.box (bQ a2.cells)))]⟩ k = (dE a1 a2 r9 a2.Room a2.No a2.From a2.To a2.Currency a2.Due a2.Sum).bind (fun (r:Int)=>k .ret ⟨[(6,.d (.int .i64 r))],[]⟩):=rF a1 a2 r9 a2.Room a2.No a2.From a2.To a2.Currency a2.Due a2.Sum k
theorem wG {β:Type} (a1:Int) (a2:aA) (k:Ex→St→Option β):dY TT pG ⟨[(1,.d (.int .i64 a1)),(5,.ptr 5 0),(7,.ptr 7 0),(8,.d (.bool false))],[(5,some (.box (bQ a2.cells))),(7,some (.box (bQ a2.cells)))]⟩ k = (dE a1 a2 false a2.Room a2.No a2.From a2.To a2.Currency a2.Due a2.Sum).bind (fun (r:Int)=>k .ret ⟨[(6,.d (.int .i64 r))],[]⟩):=rF a1 a2 false a2.Room a2.No a2.From a2.To a2.Currency a2.Due a2.Sum k
theorem IF {β:Type} (a0:Int) (a1:Int) (a2:aA) (p4:Bool) (k:Ex→St→Option β):dY TT uQ ⟨[(0,.d (.int .i64 a0)),(1,.d (.int .i64 a1)),(5,.ptr 5 0),(7,.ptr 7 0),(8,.d (.bool p4))],[(5,some (.box (bQ a2.cells))),(7,some (.box [.d (.int .i64 a2.Kind),.d (.int .i64 0),.d (.int .i64 a2.Day),.d (.int .i64 0),.d (.int .i64 0),.d (.int .i64 0),.d (.int .i64 0),.d (.int .i64 0),.d (.int .i64 0)]))]⟩ k = (mP a0 a1 a2 p4).bind (fun (r:Int)=>k .ret ⟨[(6,.d (.int .i64 r))],[]⟩):=by
 simp -implicitDefEqProofs (decide:=true) (maxSteps:=2000000) only [uQ,mP,↓uR,↓rF,↓wI,↓wG,↓qS,↓DN,↓DR,DQ,DP,↓reduceIte,Int.reduceToNat,Nat.reduceBEq,Nat.reduceAdd,Nat.reduceLT,Nat.reduceLeDiff,Nat.reduceEqDiff,Int.reduceEq,ne_eq,zN,reduceCtorEq,bW,bZ,b7,zM,zA,zB,aL,zC,zD,if_true,if_false,zE,zF,aH,zG,aQ,zH,zI,zJ,zK,a8,aU,aZ,aX,aV,aI,aM,aR,aK,aP,aJ,aW,bG,Vm.bind_map,aO,aY,zL]
 all_goals try simp only [bN]
 all_goals try rfl
theorem E9 (a0:Int) (a1:Int) (a2:aA):Vm.call TT 20 [.int .i64 a0,.int .i64 a1,.agg a2.cells] = (kP a0 a1 a2).map fun (r:Int)=>.int .i64 r:=by
 refine (dO (show TT 20 = some (.code ⟨3,135,[.tmp 6],aHw,false,false⟩) from rfl) _ rfl rfl).trans ?_
 show dY TT aHw ⟨[(0,.d (.int .i64 a0)),(1,.d (.int .i64 a1)),(2,oK a2.cells)],[]⟩ _ = _
 simp -implicitDefEqProofs (decide:=true) (maxSteps:=2000000) only [aHw,kP,↓uR,↓rF,↓wI,↓wG,↓IF,↓qS,↓DN,↓DR,DQ,DP,↓reduceIte,Int.reduceToNat,Nat.reduceBEq,Nat.reduceAdd,Nat.reduceLT,Nat.reduceLeDiff,Nat.reduceEqDiff,Int.reduceEq,ne_eq,zN,reduceCtorEq,bW,bZ,b7,zM,zA,zB,aL,zC,zD,if_true,if_false,zE,zF,aH,zG,aQ,zH,zI,zJ,zK,a8,aU,aZ,aX,aV,aI,aM,aR,aK,aP,aJ,aW,bG,Vm.bind_map,aO,aY,zL]
 all_goals try simp only [bN]
 all_goals try rfl
theorem cQ {β:Type} (a0:Int) (a1:Int) (a2:aA) (d:Nat) (bl:List (Nat × Option aS)) (fz:List (Nat × Option aS)) (k:V→Option β) (kw:V→List (Nat × Option aS)→Option β):fH TT d bl 20 [.int .i64 a0,.int .i64 a1,.agg a2.cells] fz k kw = (kP a0 a1 a2).bind fun (r:Int)=>k (.d (.int .i64 r)):=by
 have h:=E9 a0 a1 a2
 exact cP h (fun _=>rfl) fz
theorem EY (a0:aA) (a1:Int) (a2:Int):Vm.call TT 42 [.agg a0.cells,.ptr [.int .i64 a1] 0,.ptr [.int .i64 a2] 0] = (kW a0 a1 a2).map fun (r:Bool)=>.bool r:=by
 refine (dO (show TT 42 = some (.code ⟨3,26,[.tmp 4],aHH,false,false⟩) from rfl) _ rfl rfl).trans ?_
 show dY TT aHH ⟨[(0,oK a0.cells),(1,.d (.ptr [.int .i64 a1] 0)),(2,.d (.ptr [.int .i64 a2] 0))],[]⟩ _ = _
 simp -implicitDefEqProofs (decide:=true) (maxSteps:=2000000) only [aHH,kW,↓DN,↓DR,DQ,DP,↓reduceIte,Int.reduceToNat,Nat.reduceBEq,Nat.reduceAdd,Nat.reduceLT,Nat.reduceLeDiff,Nat.reduceEqDiff,Int.reduceEq,ne_eq,zN,reduceCtorEq,bW,bZ,b7,zM,zA,zB,aL,zC,zD,if_true,if_false,zE,zF,aH,zG,aQ,zH,zI,zJ,zK,a8,aU,aZ,aX,aV,aI,aM,aR,aK,aP,aJ,aW,bG,Vm.bind_map,aO,aY,zL]
 all_goals try simp only [bN]
 all_goals try rfl
theorem wK {β:Type} (a0:aA) (a1:Int) (a2:Int) (d:Nat) (bl:List (Nat × Option aS)) (fz:List (Nat × Option aS)) (k:V→Option β) (kw:V→List (Nat × Option aS)→Option β):fH TT d bl 42 [.agg a0.cells,.ptr [.int .i64 a1] 0,.ptr [.int .i64 a2] 0] fz k kw = (kW a0 a1 a2).bind fun (r:Bool)=>k (.d (.bool r)):=by
 have h:=EY a0 a1 a2
 exact cP h (fun _=>rfl) fz
theorem lD (a0:List aA) (a1:Int) (a2:Int) (p1:Int):dY TT bC ⟨[(0,.d (.sl (cM aA.cells a0))),(1,.d (.fn 42 [.ptr [.int .i64 a1] 0,.ptr [.int .i64 a2] 0])),(7,.d (.int .i64 (a0.length:Int))),(8,.d (.int .i64 p1))],[]⟩ (fun e s=>some (e,s)) = eE (fun (w:Int)=>(⟨[(0,.d (.sl (cM aA.cells a0))),(1,.d (.fn 42 [.ptr [.int .i64 a1] 0,.ptr [.int .i64 a2] 0])),(7,.d (.int .i64 (a0.length:Int))),(8,.d (.int .i64 w))],[]⟩ : St)) (fun (r:Unit ⊕ Int)=>Sum.elim (fun (z:Unit)=>(((.exit 0),⟨[],[]⟩):Ex × St)) (fun (z:Int)=>((.ret,⟨[(4,.d (.int .i64 z))],[]⟩):Ex × St)) r) (bH a0 a1 a2 p1):=by
 simp -implicitDefEqProofs (decide:=true) (maxSteps:=2000000) only [bC,bH,↓wK,↓DN,↓DR,DQ,DP,↓reduceIte,Int.reduceToNat,Nat.reduceBEq,Nat.reduceAdd,Nat.reduceLT,Nat.reduceLeDiff,Nat.reduceEqDiff,Int.reduceEq,ne_eq,zN,reduceCtorEq,bW,bZ,b7,zM,zA,zB,aL,zC,zD,if_true,if_false,zE,zF,aH,zG,aQ,zH,zI,zJ,zK,a8,aU,aZ,aX,aV,aI,aM,aR,aK,aP,aJ,aW,bG,Vm.bind_map,aO,aY,zL]
 all_goals try simp only [bN]
 all_goals try rfl
theorem lG {β:Type} (a0:List aA) (a1:Int) (a2:Int) (p1:Int) (k:Ex→St→Option β):dY TT dD ⟨[(0,.d (.sl (cM aA.cells a0))),(1,.d (.fn 42 [.ptr [.int .i64 a1] 0,.ptr [.int .i64 a2] 0])),(7,.d (.int .i64 (a0.length:Int))),(8,.d (.int .i64 p1))],[]⟩ k = (dA a0 a1 a2 p1).bind (fun (r:Unit ⊕ Int)=>Sum.elim (fun (z:Unit)=>k (.exit 0) ⟨[],[]⟩) (fun (z:Int)=>k .ret ⟨[(4,.d (.int .i64 z))],[]⟩) r):=by
 have hh:=fun (w:Int)=>lD a0 a1 a2 w
 have h:=fun ho=>cG (T:=TT) (k:=k) (c:=bC) (step:=(fun (w:Int)=>bH a0 a1 a2 w)) _ _ ho hh p1
 refine Eq.trans (h (fun r s e=>by have q:=congrArg Prod.fst e; rcases r with x | x <;> cases q)) ?_
 unfold dA
 exact bJ _ fun x=>by rcases x with x | x <;> rfl
theorem mZ (a0:List aA) (a1:Int) (a2:Int):Vm.call TT 40 [.sl (cM aA.cells a0),.fn 42 [.ptr [.int .i64 a1] 0,.ptr [.int .i64 a2] 0]] = (cJ a0 a1 a2).map fun (r:Int)=>.int .i64 r:=by
 refine (dO (show TT 40 = some (.code ⟨2,19,[.tmp 4],NM,false,false⟩) from rfl) _ rfl rfl).trans ?_
 show dY TT NM ⟨[(0,.d (.sl (cM aA.cells a0))),(1,.d (.fn 42 [.ptr [.int .i64 a1] 0,.ptr [.int .i64 a2] 0]))],[]⟩ _ = _
 simp -implicitDefEqProofs (decide:=true) (maxSteps:=2000000) only [NM,cJ,↓lG,↓wK,↓DN,↓DR,DQ,DP,↓reduceIte,Int.reduceToNat,Nat.reduceBEq,Nat.reduceAdd,Nat.reduceLT,Nat.reduceLeDiff,Nat.reduceEqDiff,Int.reduceEq,ne_eq,zN,reduceCtorEq,bW,bZ,b7,zM,zA,zB,aL,zC,zD,if_true,if_false,zE,zF,aH,zG,aQ,zH,zI,zJ,zK,a8,aU,aZ,aX,aV,aI,aM,aR,aK,aP,aJ,aW,bG,Vm.bind_map,aO,aY,zL]
 all_goals try simp only [bN]
 all_goals try rfl
theorem mX {β:Type} (a0:List aA) (a1:Int) (a2:Int) (d:Nat) (bl:List (Nat × Option aS)) (fz:List (Nat × Option aS)) (k:V→Option β) (kw:V→List (Nat × Option aS)→Option β):fH TT d bl 40 [.sl (cM aA.cells a0),.fn 42 [.ptr [.int .i64 a1] 0,.ptr [.int .i64 a2] 0]] fz k kw = (cJ a0 a1 a2).bind fun (r:Int)=>k (.d (.int .i64 r)):=by
 have h:=mZ a0 a1 a2
 exact cP h (fun _=>rfl) fz
theorem lQ (a0:List aA) (a1:Int) (a2:Int):Vm.call TT 26 [.sl (cM aA.cells a0),.fn 42 [.ptr [.int .i64 a1] 0,.ptr [.int .i64 a2] 0]] = (cE a0 a1 a2).map fun (r:Bool)=>.bool r:=by
 refine (dO (show TT 26 = some (.code ⟨2,9,[.tmp 4],NE,false,false⟩) from rfl) _ rfl rfl).trans ?_
 show dY TT NE ⟨[(0,.d (.sl (cM aA.cells a0))),(1,.d (.fn 42 [.ptr [.int .i64 a1] 0,.ptr [.int .i64 a2] 0]))],[]⟩ _ = _
 simp -implicitDefEqProofs (decide:=true) (maxSteps:=2000000) only [NE,cE,↓mX,↓DN,↓DR,DQ,DP,↓reduceIte,Int.reduceToNat,Nat.reduceBEq,Nat.reduceAdd,Nat.reduceLT,Nat.reduceLeDiff,Nat.reduceEqDiff,Int.reduceEq,ne_eq,zN,reduceCtorEq,bW,bZ,b7,zM,zA,zB,aL,zC,zD,if_true,if_false,zE,zF,aH,zG,aQ,zH,zI,zJ,zK,a8,aU,aZ,aX,aV,aI,aM,aR,aK,aP,aJ,aW,bG,Vm.bind_map,aO,aY,zL]
 all_goals try simp only [bN]
 all_goals try rfl
theorem lR {β:Type} (a0:List aA) (a1:Int) (a2:Int) (d:Nat) (bl:List (Nat × Option aS)) (fz:List (Nat × Option aS)) (k:V→Option β) (kw:V→List (Nat × Option aS)→Option β):fH TT d bl 26 [.sl (cM aA.cells a0),.fn 42 [.ptr [.int .i64 a1] 0,.ptr [.int .i64 a2] 0]] fz k kw = (cE a0 a1 a2).bind fun (r:Bool)=>k (.d (.bool r)):=by
 have h:=lQ a0 a1 a2
 exact cP h (fun _=>rfl) fz
theorem MC (a0:List aA) (a1:Int) (a2:Int):Vm.call TT 30 [.sl (cM aA.cells a0),.int .i64 a1,.int .i64 a2] = (pP a0 a1 a2).map fun (r:Bool)=>.bool r:=by
 refine (dO (show TT 30 = some (.code ⟨3,10,[.tmp 6],aFF,false,false⟩) from rfl) _ rfl rfl).trans ?_
 show dY TT aFF ⟨[(0,.d (.sl (cM aA.cells a0))),(1,.d (.int .i64 a1)),(2,.d (.int .i64 a2))],[]⟩ _ = _
 simp -implicitDefEqProofs (decide:=true) (maxSteps:=2000000) only [aFF,pP,↓lR,↓DN,↓DR,DQ,DP,↓reduceIte,Int.reduceToNat,Nat.reduceBEq,Nat.reduceAdd,Nat.reduceLT,Nat.reduceLeDiff,Nat.reduceEqDiff,Int.reduceEq,ne_eq,zN,reduceCtorEq,bW,bZ,b7,zM,zA,zB,aL,zC,zD,if_true,if_false,zE,zF,aH,zG,aQ,zH,zI,zJ,zK,a8,aU,aZ,aX,aV,aI,aM,aR,aK,aP,aJ,aW,bG,Vm.bind_map,aO,aY,zL]
 all_goals try simp only [bN]
 all_goals try rfl
theorem tR {β:Type} (a0:List aA) (a1:Int) (a2:Int) (d:Nat) (bl:List (Nat × Option aS)) (fz:List (Nat × Option aS)) (k:V→Option β) (kw:V→List (Nat × Option aS)→Option β):fH TT d bl 30 [.sl (cM aA.cells a0),.int .i64 a1,.int .i64 a2] fz k kw = (pP a0 a1 a2).bind fun (r:Bool)=>k (.d (.bool r)):=by
 have h:=MC a0 a1 a2
 exact cP h (fun _=>rfl) fz
theorem CG (a0:aA) (a1:aA):Vm.call TT 28 [.agg a0.cells,.ptr a1.cells 0] = (jP a0 a1).map fun (r:Bool)=>.bool r:=by
 refine (dO (show TT 28 = some (.code ⟨2,19,[.tmp 3],aFC,false,false⟩) from rfl) _ rfl rfl).trans ?_
 show dY TT aFC ⟨[(0,oK a0.cells),(1,.d (.ptr a1.cells 0))],[]⟩ _ = _
 simp -implicitDefEqProofs (decide:=true) (maxSteps:=2000000) only [aFC,jP,↓DN,↓DR,DQ,DP,↓reduceIte,Int.reduceToNat,Nat.reduceBEq,Nat.reduceAdd,Nat.reduceLT,Nat.reduceLeDiff,Nat.reduceEqDiff,Int.reduceEq,ne_eq,zN,reduceCtorEq,bW,bZ,b7,zM,zA,zB,aL,zC,zD,if_true,if_false,zE,zF,aH,zG,aQ,zH,zI,zJ,zK,a8,aU,aZ,aX,aV,aI,aM,aR,aK,aP,aJ,aW,bG,Vm.bind_map,aO,aY,zL]
 all_goals try simp only [bN]
 all_goals try rfl
theorem uL {β:Type} (a0:aA) (a1:aA) (d:Nat) (bl:List (Nat × Option aS)) (fz:List (Nat × Option aS)) (k:V→Option β) (kw:V→List (Nat × Option aS)→Option β):fH TT d bl 28 [.agg a0.cells,.ptr a1.cells 0] fz k kw = (jP a0 a1).bind fun (r:Bool)=>k (.d (.bool r)):=by
 have h:=CG a0 a1
 exact cP h (fun _=>rfl) fz
theorem lO (a0:List aA) (a1:aA) (p1:Int):dY TT bC ⟨[(0,.d (.sl (cM aA.cells a0))),(1,.d (.fn 28 [.ptr a1.cells 0])),(7,.d (.int .i64 (a0.length:Int))),(8,.d (.int .i64 p1))],[]⟩ (fun e s=>some (e,s)) = eE (fun (w:Int)=>(⟨[(0,.d (.sl (cM aA.cells a0))),(1,.d (.fn 28 [.ptr a1.cells 0])),(7,.d (.int .i64 (a0.length:Int))),(8,.d (.int .i64 w))],[]⟩ : St)) (fun (r:Unit ⊕ Int)=>Sum.elim (fun (z:Unit)=>(((.exit 0),⟨[],[]⟩):Ex × St)) (fun (z:Int)=>((.ret,⟨[(4,.d (.int .i64 z))],[]⟩):Ex × St)) r) (bD a0 a1 p1):=by
 simp -implicitDefEqProofs (decide:=true) (maxSteps:=2000000) only [bC,bD,↓uL,↓DN,↓DR,DQ,DP,↓reduceIte,Int.reduceToNat,Nat.reduceBEq,Nat.reduceAdd,Nat.reduceLT,Nat.reduceLeDiff,Nat.reduceEqDiff,Int.reduceEq,ne_eq,zN,reduceCtorEq,bW,bZ,b7,zM,zA,zB,aL,zC,zD,if_true,if_false,zE,zF,aH,zG,aQ,zH,zI,zJ,zK,a8,aU,aZ,aX,aV,aI,aM,aR,aK,aP,aJ,aW,bG,Vm.bind_map,aO,aY,zL]
 all_goals try simp only [bN]
 all_goals try rfl
theorem lF {β:Type} (a0:List aA) (a1:aA) (p1:Int) (k:Ex→St→Option β):dY TT dD ⟨[(0,.d (.sl (cM aA.cells a0))),(1,.d (.fn 28 [.ptr a1.cells 0])),(7,.d (.int .i64 (a0.length:Int))),(8,.d (.int .i64 p1))],[]⟩ k = (dC a0 a1 p1).bind (fun (r:Unit ⊕ Int)=>Sum.elim (fun (z:Unit)=>k (.exit 0) ⟨[],[]⟩) (fun (z:Int)=>k .ret ⟨[(4,.d (.int .i64 z))],[]⟩) r):=by
 have hh:=fun (w:Int)=>lO a0 a1 w
 have h:=fun ho=>cG (T:=TT) (k:=k) (c:=bC) (step:=(fun (w:Int)=>bD a0 a1 w)) _ _ ho hh p1
 refine Eq.trans (h (fun r s e=>by have q:=congrArg Prod.fst e; rcases r with x | x <;> cases q)) ?_
 unfold dC
 exact bJ _ fun x=>by rcases x with x | x <;> rfl
theorem mK (a0:List aA) (a1:aA):Vm.call TT 40 [.sl (cM aA.cells a0),.fn 28 [.ptr a1.cells 0]] = (cH a0 a1).map fun (r:Int)=>.int .i64 r:=by
 refine (dO (show TT 40 = some (.code ⟨2,19,[.tmp 4],NM,false,false⟩) from rfl) _ rfl rfl).trans ?_
 show dY TT NM ⟨[(0,.d (.sl (cM aA.cells a0))),(1,.d (.fn 28 [.ptr a1.cells 0]))],[]⟩ _ = _
 simp -implicitDefEqProofs (decide:=true) (maxSteps:=2000000) only [NM,cH,↓lF,↓uL,↓DN,↓DR,DQ,DP,↓reduceIte,Int.reduceToNat,Nat.reduceBEq,Nat.reduceAdd,Nat.reduceLT,Nat.reduceLeDiff,Nat.reduceEqDiff,Int.reduceEq,ne_eq,zN,reduceCtorEq,bW,bZ,b7,zM,zA,zB,aL,zC,zD,if_true,if_false,zE,zF,aH,zG,aQ,zH,zI,zJ,zK,a8,aU,aZ,aX,aV,aI,aM,aR,aK,aP,aJ,aW,bG,Vm.bind_map,aO,aY,zL]
 all_goals try simp only [bN]
 all_goals try rfl
theorem mT {β:Type} (a0:List aA) (a1:aA) (d:Nat) (bl:List (Nat × Option aS)) (fz:List (Nat × Option aS)) (k:V→Option β) (kw:V→List (Nat × Option aS)→Option β):fH TT d bl 40 [.sl (cM aA.cells a0),.fn 28 [.ptr a1.cells 0]] fz k kw = (cH a0 a1).bind fun (r:Int)=>k (.d (.int .i64 r)):=by
 have h:=mK a0 a1
 exact cP h (fun _=>rfl) fz
theorem lS (a0:List aA) (a1:aA):Vm.call TT 26 [.sl (cM aA.cells a0),.fn 28 [.ptr a1.cells 0]] = (bX a0 a1).map fun (r:Bool)=>.bool r:=by
 refine (dO (show TT 26 = some (.code ⟨2,9,[.tmp 4],NE,false,false⟩) from rfl) _ rfl rfl).trans ?_
 show dY TT NE ⟨[(0,.d (.sl (cM aA.cells a0))),(1,.d (.fn 28 [.ptr a1.cells 0]))],[]⟩ _ = _
 simp -implicitDefEqProofs (decide:=true) (maxSteps:=2000000) only [NE,bX,↓mT,↓DN,↓DR,DQ,DP,↓reduceIte,Int.reduceToNat,Nat.reduceBEq,Nat.reduceAdd,Nat.reduceLT,Nat.reduceLeDiff,Nat.reduceEqDiff,Int.reduceEq,ne_eq,zN,reduceCtorEq,bW,bZ,b7,zM,zA,zB,aL,zC,zD,if_true,if_false,zE,zF,aH,zG,aQ,zH,zI,zJ,zK,a8,aU,aZ,aX,aV,aI,aM,aR,aK,aP,aJ,aW,bG,Vm.bind_map,aO,aY,zL]
 all_goals try simp only [bN]
 all_goals try rfl
theorem cV {β:Type} (a0:List aA) (a1:aA) (d:Nat) (bl:List (Nat × Option aS)) (fz:List (Nat × Option aS)) (k:V→Option β) (kw:V→List (Nat × Option aS)→Option β):fH TT d bl 26 [.sl (cM aA.cells a0),.fn 28 [.ptr a1.cells 0]] fz k kw = (bX a0 a1).bind fun (r:Bool)=>k (.d (.bool r)):=by
 have h:=lS a0 a1
 exact cP h (fun _=>rfl) fz
theorem oQ (a0:List aA) (a1:aA) (p1:Int):dY TT dS ⟨[(0,.d (.sl (cM aA.cells a0))),(3,.ptr 3 0),(7,.d (.int .i64 (a0.length:Int))),(8,.d (.int .i64 p1))],[(3,some (.box (bQ a1.cells)))]⟩ (fun e s=>some (e,s)) = eE (fun (w:Int)=>(⟨[(0,.d (.sl (cM aA.cells a0))),(3,.ptr 3 0),(7,.d (.int .i64 (a0.length:Int))),(8,.d (.int .i64 w))],[(3,some (.box (bQ a1.cells)))]⟩ : St)) (fun (r:Unit ⊕ Int)=>Sum.elim (fun (z:Unit)=>(((.exit 0),⟨[],[]⟩):Ex × St)) (fun (z:Int)=>((.ret,⟨[(4,.d (.int .i64 z))],[]⟩):Ex × St)) r) (bK a0 a1 p1):=by
 simp -implicitDefEqProofs (decide:=true) (maxSteps:=2000000) only [dS,bK,↓DN,↓DR,DQ,DP,↓reduceIte,Int.reduceToNat,Nat.reduceBEq,Nat.reduceAdd,Nat.reduceLT,Nat.reduceLeDiff,Nat.reduceEqDiff,Int.reduceEq,ne_eq,zN,reduceCtorEq,bW,bZ,b7,zM,zA,zB,aL,zC,zD,if_true,if_false,zE,zF,aH,zG,aQ,zH,zI,zJ,zK,a8,aU,aZ,aX,aV,aI,aM,aR,aK,aP,aJ,aW,bG,Vm.bind_map,aO,aY,zL]
 all_goals try simp only [bN]
 all_goals try rfl
theorem oJ {β:Type} (a0:List aA) (a1:aA) (p1:Int) (k:Ex→St→Option β):dY TT iN ⟨[(0,.d (.sl (cM aA.cells a0))),(3,.ptr 3 0),(7,.d (.int .i64 (a0.length:Int))),(8,.d (.int .i64 p1))],[(3,some (.box (bQ a1.cells)))]⟩ k = (dZ a0 a1 p1).bind (fun (r:Unit ⊕ Int)=>Sum.elim (fun (z:Unit)=>k (.exit 0) ⟨[],[]⟩) (fun (z:Int)=>k .ret ⟨[(4,.d (.int .i64 z))],[]⟩) r):=by
 have hh:=fun (w:Int)=>oQ a0 a1 w
 have h:=fun ho=>cG (T:=TT) (k:=k) (c:=dS) (step:=(fun (w:Int)=>bK a0 a1 w)) _ _ ho hh p1
 refine Eq.trans (h (fun r s e=>by have q:=congrArg Prod.fst e; rcases r with x | x <;> cases q)) ?_
 unfold dZ
 exact bJ _ fun x=>by rcases x with x | x <;> rfl
theorem pI (a0:List aA) (a1:aA):Vm.call TT 41 [.sl (cM aA.cells a0),.agg a1.cells] = (dI a0 a1).map fun (r:Int)=>.int .i64 r:=by
 refine (dO (show TT 41 = some (.code ⟨2,19,[.tmp 4],aGB,false,false⟩) from rfl) _ rfl rfl).trans ?_
 show dY TT aGB ⟨[(0,.d (.sl (cM aA.cells a0))),(1,oK a1.cells)],[]⟩ _ = _
 simp -implicitDefEqProofs (decide:=true) (maxSteps:=2000000) only [aGB,dI,↓oJ,↓DN,↓DR,DQ,DP,↓reduceIte,Int.reduceToNat,Nat.reduceBEq,Nat.reduceAdd,Nat.reduceLT,Nat.reduceLeDiff,Nat.reduceEqDiff,Int.reduceEq,ne_eq,zN,reduceCtorEq,bW,bZ,b7,zM,zA,zB,aL,zC,zD,if_true,if_false,zE,zF,aH,zG,aQ,zH,zI,zJ,zK,a8,aU,aZ,aX,aV,aI,aM,aR,aK,aP,aJ,aW,bG,Vm.bind_map,aO,aY,zL]
 all_goals try simp only [bN]
 all_goals try rfl
theorem pJ {β:Type} (a0:List aA) (a1:aA) (d:Nat) (bl:List (Nat × Option aS)) (fz:List (Nat × Option aS)) (k:V→Option β) (kw:V→List (Nat × Option aS)→Option β):fH TT d bl 41 [.sl (cM aA.cells a0),.agg a1.cells] fz k kw = (dI a0 a1).bind fun (r:Int)=>k (.d (.int .i64 r)):=by
 have h:=pI a0 a1
 exact cP h (fun _=>rfl) fz
end Go.Proofs.Ytiimibimkpimbaa
