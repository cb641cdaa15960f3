/- The functions of the small machine compute the plain definitions. Printed by a program. -/
import Derived.Test.YtiimibimkpimbaaFn
set_option linter.unusedVariables false
set_option linter.unusedSimpArgs false
namespace Go.Proofs.Ytiimibimkpimbaa
open Vm
open Go.RowKit
set_option maxRecDepth 100000
set_option maxHeartbeats 4000000
attribute [local congr] xI AF xS AQ
theorem xF (a1:Int) (p1:Int) (p2:List aA):eH TT j0 ⟨[(1,.d (.int .i64 a1)),(5,.own 12 0),(6,.d (.int .i64 p1))],[(12,some (.rows 0 32 9 (cM aA.cells p2)))]⟩ (fun e s=>some (e,s)) = eW (fun (w:Int × (List aA))=>(⟨[(1,.d (.int .i64 a1)),(5,.own 12 0),(6,.d (.int .i64 w.1))],[(12,some (.rows 0 32 9 (cM aA.cells w.2)))]⟩ : St)) (fun (r:(List aA))=>(((.exit 0),⟨[(5,.own 12 0)],[(12,some (.rows 0 32 9 (cM aA.cells r)))]⟩):Ex × St)) (bA a1 p1 p2):=by
 simp -implicitDefEqProofs (decide:=true) (maxSteps:=2000000) only [j0,bA,↓DN,↓DR,DQ,DP,↓reduceIte,Int.reduceToNat,Nat.reduceBEq,Nat.reduceAdd,Nat.reduceLT,Nat.reduceLeDiff,Nat.reduceEqDiff,Int.reduceEq,ne_eq,zN,reduceCtorEq,bW,bZ,bY,zM,zA,zB,aK,zC,zD,if_true,if_false,zE,zF,aG,zG,aP,zH,zI,zJ,zK,aV,a8,aZ,aW,aY,aI,aO,aR,aJ,aS,aH,aU,bH,Vm.bind_map,aQ,aX,zL]
 all_goals try simp only [bN]
 all_goals try rfl
theorem xE {β:Type} (a1:Int) (p1:Int) (p2:List aA) (k:Ex→St→Option β):eH TT qT ⟨[(1,.d (.int .i64 a1)),(5,.own 12 0),(6,.d (.int .i64 p1))],[(12,some (.rows 0 32 9 (cM aA.cells p2)))]⟩ k = (kX a1 p1 p2).bind (fun (r:(List aA))=>k (.exit 0) ⟨[(5,.own 12 0)],[(12,some (.rows 0 32 9 (cM aA.cells r)))]⟩):=by
 have hh:=fun (w:Int × (List aA))=>xF a1 w.1 w.2
 have h:=fun ho=>cP (T:=TT) (k:=k) (c:=j0) (step:=(fun (w:Int × (List aA))=>bA a1 w.1 w.2)) _ _ ho hh (p1,p2)
 refine Eq.trans (h (fun r s e=>by have q:=congrArg Prod.fst e; rcases r with x <;> cases q)) ?_
 unfold kX
 exact bL _ fun x=>by rcases x with x <;> rfl
theorem iD (a0:Int) (a1:Int):Vm.call TT 19 [.int .i64 a0,.int .i64 a1] = (b9 a0 a1).map fun (r:(List aA))=>.own (.ref 0) [(32,9)] [cM aA.cells r]:=by
 refine (GE (show TT 19 = some (.code ⟨2,31,[.tmp 4],aGH,true,false⟩) from rfl) _ rfl rfl).trans ?_
 show eH TT aGH ⟨[(0,.d (.int .i64 a0)),(1,.d (.int .i64 a1))],[]⟩ _ = _
 simp -implicitDefEqProofs (decide:=true) (maxSteps:=2000000) only [aGH,b9,↓xE,↓DN,↓DR,DQ,DP,↓reduceIte,Int.reduceToNat,Nat.reduceBEq,Nat.reduceAdd,Nat.reduceLT,Nat.reduceLeDiff,Nat.reduceEqDiff,Int.reduceEq,ne_eq,zN,reduceCtorEq,bW,bZ,bY,zM,zA,zB,aK,zC,zD,if_true,if_false,zE,zF,aG,zG,aP,zH,zI,zJ,zK,aV,a8,aZ,aW,aY,aI,aO,aR,aJ,aS,aH,aU,bH,Vm.bind_map,aQ,aX,zL]
 all_goals try simp only [bN]
 all_goals try rfl
theorem JY (a0:Int) (a1:Int):Vm.call TT 38 [.int .i64 a0,.int .i64 a1] = (eA a0 a1).map fun (r:Bool)=>.bool r:=by
 refine (eC (show TT 38 = some (.code ⟨2,12,[.tmp 4],aGS,false,false⟩) from rfl) _ rfl rfl).trans ?_
 show eH TT aGS ⟨[(0,.d (.int .i64 a0)),(1,.d (.int .i64 a1))],[]⟩ _ = _
 simp -implicitDefEqProofs (decide:=true) (maxSteps:=2000000) only [aGS,eA,↓DN,↓DR,DQ,DP,↓reduceIte,Int.reduceToNat,Nat.reduceBEq,Nat.reduceAdd,Nat.reduceLT,Nat.reduceLeDiff,Nat.reduceEqDiff,Int.reduceEq,ne_eq,zN,reduceCtorEq,bW,bZ,bY,zM,zA,zB,aK,zC,zD,if_true,if_false,zE,zF,aG,zG,aP,zH,zI,zJ,zK,aV,a8,aZ,aW,aY,aI,aO,aR,aJ,aS,aH,aU,bH,Vm.bind_map,aQ,aX,zL]
 all_goals try simp only [bN]
 all_goals try rfl
theorem qF {β:Type} (a0:Int) (a1:Int) (d:Nat) (bl:List (Nat × Option aL)) (fz:List (Nat × Option aL)) (k:V→Option β) (kw:V→List (Nat × Option aL)→Option β):fY TT d bl 38 [.int .i64 a0,.int .i64 a1] fz k kw = (eA a0 a1).bind fun (r:Bool)=>k (.d (.bool r)):=by
 have h:=JY a0 a1
 exact cZ h (fun _=>rfl) fz
theorem O5 (a0:Int) (a1:Int) (a2:Int) (a3:List aA):Vm.call TT 21 [.int .i64 a0,.int .i64 a1,.int .i64 a2,.sl (cM aA.cells a3)] = (qD a0 a1 a2 a3).map fun (r:Bool)=>.bool r:=by
 refine (eC (show TT 21 = some (.code ⟨4,26,[.tmp 8],aHC,false,false⟩) from rfl) _ rfl rfl).trans ?_
 show eH TT aHC ⟨[(0,.d (.int .i64 a0)),(1,.d (.int .i64 a1)),(2,.d (.int .i64 a2)),(3,.d (.sl (cM aA.cells a3)))],[]⟩ _ = _
 simp -implicitDefEqProofs (decide:=true) (maxSteps:=2000000) only [aHC,qD,↓qF,↓DN,↓DR,DQ,DP,↓reduceIte,Int.reduceToNat,Nat.reduceBEq,Nat.reduceAdd,Nat.reduceLT,Nat.reduceLeDiff,Nat.reduceEqDiff,Int.reduceEq,ne_eq,zN,reduceCtorEq,bW,bZ,bY,zM,zA,zB,aK,zC,zD,if_true,if_false,zE,zF,aG,zG,aP,zH,zI,zJ,zK,aV,a8,aZ,aW,aY,aI,aO,aR,aJ,aS,aH,aU,bH,Vm.bind_map,aQ,aX,zL]
 all_goals try simp only [bN]
 all_goals try rfl
theorem dO {β:Type} (a0:Int) (a1:Int) (a2:Int) (a3:List aA) (d:Nat) (bl:List (Nat × Option aL)) (fz:List (Nat × Option aL)) (k:V→Option β) (kw:V→List (Nat × Option aL)→Option β):fY TT d bl 21 [.int .i64 a0,.int .i64 a1,.int .i64 a2,.sl (cM aA.cells a3)] fz k kw = (qD a0 a1 a2 a3).bind fun (r:Bool)=>k (.d (.bool r)):=by
 have h:=O5 a0 a1 a2 a3
 exact cZ h (fun _=>rfl) fz
theorem uN {β:Type} (a1:Int) (a2:aA) (p4:Bool) (k:Ex→St→Option β):eH TT uF ⟨[(1,.d (.int .i64 a1)),(5,.ptr 5 0),(7,.ptr 7 0),(8,.d (.bool p4)),(28,.d (.int .i64 a2.Kind))],[(5,some (.box (bQ a2.cells))),(7,some (.box [.d (.int .i64 a2.Kind),.d (.int .i64 0),.d (.int .i64 a2.Day),.d (.int .i64 0),.d (.int .i64 0),.d (.int .i64 0),.d (.int .i64 0),.d (.int .i64 0),.d (.int .i64 0)]))]⟩ k = (pX a1 a2 p4).bind (fun (r:Bool × Int × Int × Int)=>k .normal ⟨[(1,.d (.int .i64 a1)),(5,.ptr 5 0),(7,.ptr 7 0),(8,.d (.bool r.1))],[(5,some (.box (bQ a2.cells))),(7,some (.box [.d (.int .i64 a2.Kind),.d (.int .i64 r.2.1),.d (.int .i64 a2.Day),.d (.int .i64 r.2.2.1),.d (.int .i64 0),.d (.int .i64 0),.d (.int .i64 0),.d (.int .i64 r.2.2.2),.d (.int .i64 0)]))]⟩):=by
 simp -implicitDefEqProofs (decide:=true) (maxSteps:=2000000) only [uF,pX,↓qF,↓DN,↓DR,DQ,DP,↓reduceIte,Int.reduceToNat,Nat.reduceBEq,Nat.reduceAdd,Nat.reduceLT,Nat.reduceLeDiff,Nat.reduceEqDiff,Int.reduceEq,ne_eq,zN,reduceCtorEq,bW,bZ,bY,zM,zA,zB,aK,zC,zD,if_true,if_false,zE,zF,aG,zG,aP,zH,zI,zJ,zK,aV,a8,aZ,aW,aY,aI,aO,aR,aJ,aS,aH,aU,bH,Vm.bind_map,aQ,aX,zL]
 all_goals try simp only [bN]
 all_goals try rfl
theorem qJ {β:Type} (a1:Int) (a2:aA) (p18:Bool) (p19:Int) (p20:Int) (p21:Int) (p22:Int) (p23:Int) (p24:Int) (p25:Int) (k:Ex→St→Option β):eH TT oY ⟨[(1,.d (.int .i64 a1)),(5,.ptr 5 0),(7,.ptr 7 0),(8,.d (.bool p18))],[(5,some (.box (bQ a2.cells))),(7,some (.box [.d (.int .i64 a2.Kind),.d (.int .i64 p19),.d (.int .i64 a2.Day),.d (.int .i64 p20),.d (.int .i64 p21),.d (.int .i64 p22),.d (.int .i64 p23),.d (.int .i64 p24),.d (.int .i64 p25)]))]⟩ k = (dH a1 a2 p18 p19 p20 p21 p22 p23 p24 p25).bind (fun (r:Int)=>k .ret ⟨[(6,.d (.int .i64 r))],[]⟩):=by
 simp -implicitDefEqProofs (decide:=true) (maxSteps:=2000000) only [oY,dH,↓uN,↓qF,↓DN,↓DR,DQ,DP,↓reduceIte,Int.reduceToNat,Nat.reduceBEq,Nat.reduceAdd,Nat.reduceLT,Nat.reduceLeDiff,Nat.reduceEqDiff,Int.reduceEq,ne_eq,zN,reduceCtorEq,bW,bZ,bY,zM,zA,zB,aK,zC,zD,if_true,if_false,zE,zF,aG,zG,aP,zH,zI,zJ,zK,aV,a8,aZ,aW,aY,aI,aO,aR,aJ,aS,aH,aU,bH,Vm.bind_map,aQ,aX,zL]
 all_goals try simp only [bN]
 all_goals try rfl
theorem vS {β:Type} (a1:Int) (a2:aA) (r9:Bool) (k:Ex→St→Option β):eH TT oY ⟨[(1,.d (.int .i64 a1)),(5,.ptr 5 0),(7,.ptr 7 0),(8,.d (.bool r9))],[(5,some (.box (bQ a2.cells))),(7,some (.box (bQ a2.cells)))]⟩ k = (dH a1 a2 r9 a2.Room a2.No a2.From a2.To a2.Currency a2.Due a2.Sum).bind (fun (r:Int)=>k .ret ⟨[(6,.d (.int .i64 r))],[]⟩):=qJ a1 a2 r9 a2.Room a2.No a2.From a2.To a2.Currency a2.Due a2.Sum k
theorem vT {β:Type} (a1:Int) (a2:aA) (k:Ex→St→Option β):eH TT oY ⟨[(1,.d (.int .i64 a1)),(5,.ptr 5 0),(7,.ptr 7 0),(8,.d (.bool false))],[(5,some (.box (bQ a2.cells))),(7,some (.box (bQ a2.cells)))]⟩ k = (dH a1 a2 false a2.Room a2.No a2.From a2.To a2.Currency a2.Due a2.Sum).bind (fun (r:Int)=>k .ret ⟨[(6,.d (.int .i64 r))],[]⟩):=qJ a1 a2 false a2.Room a2.No a2.From a2.To a2.Currency a2.Due a2.Sum k
theorem GS {β:Type} (a0:Int) (a1:Int) (a2:aA) (p4:Bool) (k:Ex→St→Option β):eH TT uP ⟨[(0,.d (.int .i64 a0)),(1,.d (.int .i64 a1)),(5,.ptr 5 0),(7,.ptr 7 0),(8,.d (.bool p4))],[(5,some (.box (bQ a2.cells))),(7,some (.box [.d (.int .i64 a2.Kind),.d (.int .i64 0),.d (.int .i64 a2.Day),.d (.int .i64 0),.d (.int .i64 0),.d (.int .i64 0),.d (.int .i64 0),.d (.int .i64 0),.d (.int .i64 0)]))]⟩ k = (mF a0 a1 a2 p4).bind (fun (r:Int)=>k .ret ⟨[(6,.d (.int .i64 r))],[]⟩):=by
 simp -implicitDefEqProofs (decide:=true) (maxSteps:=2000000) only [uP,mF,↓uN,↓qJ,↓vS,↓vT,↓qF,↓DN,↓DR,DQ,DP,↓reduceIte,Int.reduceToNat,Nat.reduceBEq,Nat.reduceAdd,Nat.reduceLT,Nat.reduceLeDiff,Nat.reduceEqDiff,Int.reduceEq,ne_eq,zN,reduceCtorEq,bW,bZ,bY,zM,zA,zB,aK,zC,zD,if_true,if_false,zE,zF,aG,zG,aP,zH,zI,zJ,zK,aV,a8,aZ,aW,aY,aI,aO,aR,aJ,aS,aH,aU,bH,Vm.bind_map,aQ,aX,zL]
 all_goals try simp only [bN]
 all_goals try rfl
theorem EM (a0:Int) (a1:Int) (a2:aA):Vm.call TT 20 [.int .i64 a0,.int .i64 a1,.agg a2.cells] = (kN a0 a1 a2).map fun (r:Int)=>.int .i64 r:=by
 refine (eC (show TT 20 = some (.code ⟨3,135,[.tmp 6],aG4,false,false⟩) from rfl) _ rfl rfl).trans ?_
 show eH TT aG4 ⟨[(0,.d (.int .i64 a0)),(1,.d (.int .i64 a1)),(2,n9 a2.cells)],[]⟩ _ = _
 simp -implicitDefEqProofs (decide:=true) (maxSteps:=2000000) only [aG4,kN,↓uN,↓qJ,↓vS,↓vT,↓GS,↓qF,↓DN,↓DR,DQ,DP,↓reduceIte,Int.reduceToNat,Nat.reduceBEq,Nat.reduceAdd,Nat.reduceLT,Nat.reduceLeDiff,Nat.reduceEqDiff,Int.reduceEq,ne_eq,zN,reduceCtorEq,bW,bZ,bY,zM,zA,zB,aK,zC,zD,if_true,if_false,zE,zF,aG,zG,aP,zH,zI,zJ,zK,aV,a8,aZ,aW,aY,aI,aO,aR,aJ,aS,aH,aU,bH,Vm.bind_map,aQ,aX,zL]
 all_goals try simp only [bN]
 all_goals try rfl
theorem cR {β:Type} (a0:Int) (a1:Int) (a2:aA) (d:Nat) (bl:List (Nat × Option aL)) (fz:List (Nat × Option aL)) (k:V→Option β) (kw:V→List (Nat × Option aL)→Option β):fY TT d bl 20 [.int .i64 a0,.int .i64 a1,.agg a2.cells] fz k kw = (kN a0 a1 a2).bind fun (r:Int)=>k (.d (.int .i64 r)):=by
 have h:=EM a0 a1 a2
 exact cZ h (fun _=>rfl) fz
theorem EB (a0:aA) (a1:Int) (a2:Int):Vm.call TT 42 [.agg a0.cells,.ptr [.int .i64 a1] 0,.ptr [.int .i64 a2] 0] = (kR a0 a1 a2).map fun (r:Bool)=>.bool r:=by
 refine (eC (show TT 42 = some (.code ⟨3,26,[.tmp 4],aHr,false,false⟩) from rfl) _ rfl rfl).trans ?_
 show eH TT aHr ⟨[(0,n9 a0.cells),(1,.d (.ptr [.int .i64 a1] 0)),(2,.d (.ptr [.int .i64 a2] 0))],[]⟩ _ = _
 simp -implicitDefEqProofs (decide:=true) (maxSteps:=2000000) only [aHr,kR,↓DN,↓DR,DQ,DP,↓reduceIte,Int.reduceToNat,Nat.reduceBEq,Nat.reduceAdd,Nat.reduceLT,Nat.reduceLeDiff,Nat.reduceEqDiff,Int.reduceEq,ne_eq,zN,reduceCtorEq,bW,bZ,bY,zM,zA,zB,aK,zC,zD,if_true,if_false,zE,zF,aG,zG,aP,zH,zI,zJ,zK,aV,a8,aZ,aW,aY,aI,aO,aR,aJ,aS,aH,aU,bH,Vm.bind_map,aQ,aX,zL]
 all_goals try simp only [bN]
 all_goals try rfl
theorem vV {β:Type} (a0:aA) (a1:Int) (a2:Int) (d:Nat) (bl:List (Nat × Option aL)) (fz:List (Nat × Option aL)) (k:V→Option β) (kw:V→List (Nat × Option aL)→Option β):fY TT d bl 42 [.agg a0.cells,.ptr [.int .i64 a1] 0,.ptr [.int .i64 a2] 0] fz k kw = (kR a0 a1 a2).bind fun (r:Bool)=>k (.d (.bool r)):=by
 have h:=EB a0 a1 a2
 exact cZ h (fun _=>rfl) fz
theorem lN (a0:List aA) (a1:Int) (a2:Int) (p1:Int):eH TT bC ⟨[(0,.d (.sl (cM aA.cells a0))),(1,.d (.fn 42 [.ptr [.int .i64 a1] 0,.ptr [.int .i64 a2] 0])),(7,.d (.int .i64 (a0.length:Int))),(8,.d (.int .i64 p1))],[]⟩ (fun e s=>some (e,s)) = eW (fun (w:Int)=>(⟨[(0,.d (.sl (cM aA.cells a0))),(1,.d (.fn 42 [.ptr [.int .i64 a1] 0,.ptr [.int .i64 a2] 0])),(7,.d (.int .i64 (a0.length:Int))),(8,.d (.int .i64 w))],[]⟩ : St)) (fun (r:Unit ⊕ Int)=>Sum.elim (fun (z:Unit)=>(((.exit 0),⟨[],[]⟩):Ex × St)) (fun (z:Int)=>((.ret,⟨[(4,.d (.int .i64 z))],[]⟩):Ex × St)) r) (bD a0 a1 a2 p1):=by
 simp -implicitDefEqProofs (decide:=true) (maxSteps:=2000000) only [bC,bD,↓vV,↓DN,↓DR,DQ,DP,↓reduceIte,Int.reduceToNat,Nat.reduceBEq,Nat.reduceAdd,Nat.reduceLT,Nat.reduceLeDiff,Nat.reduceEqDiff,Int.reduceEq,ne_eq,zN,reduceCtorEq,bW,bZ,bY,zM,zA,zB,aK,zC,zD,if_true,if_false,zE,zF,aG,zG,aP,zH,zI,zJ,zK,aV,a8,aZ,aW,aY,aI,aO,aR,aJ,aS,aH,aU,bH,Vm.bind_map,aQ,aX,zL]
 all_goals try simp only [bN]
 all_goals try rfl
theorem lJ {β:Type} (a0:List aA) (a1:Int) (a2:Int) (p1:Int) (k:Ex→St→Option β):eH TT dG ⟨[(0,.d (.sl (cM aA.cells a0))),(1,.d (.fn 42 [.ptr [.int .i64 a1] 0,.ptr [.int .i64 a2] 0])),(7,.d (.int .i64 (a0.length:Int))),(8,.d (.int .i64 p1))],[]⟩ k = (c9 a0 a1 a2 p1).bind (fun (r:Unit ⊕ Int)=>Sum.elim (fun (z:Unit)=>k (.exit 0) ⟨[],[]⟩) (fun (z:Int)=>k .ret ⟨[(4,.d (.int .i64 z))],[]⟩) r):=by
 have hh:=fun (w:Int)=>lN a0 a1 a2 w
 have h:=fun ho=>cP (T:=TT) (k:=k) (c:=bC) (step:=(fun (w:Int)=>bD a0 a1 a2 w)) _ _ ho hh p1
 refine Eq.trans (h (fun r s e=>by have q:=congrArg Prod.fst e; rcases r with x | x <;> cases q)) ?_
 unfold c9
 exact bL _ fun x=>by rcases x with x | x <;> rfl
theorem mN (a0:List aA) (a1:Int) (a2:Int):Vm.call TT 40 [.sl (cM aA.cells a0),.fn 42 [.ptr [.int .i64 a1] 0,.ptr [.int .i64 a2] 0]] = (cJ a0 a1 a2).map fun (r:Int)=>.int .i64 r:=by
 refine (eC (show TT 40 = some (.code ⟨2,19,[.tmp 4],M8,false,false⟩) from rfl) _ rfl rfl).trans ?_
 show eH TT M8 ⟨[(0,.d (.sl (cM aA.cells a0))),(1,.d (.fn 42 [.ptr [.int .i64 a1] 0,.ptr [.int .i64 a2] 0]))],[]⟩ _ = _
 simp -implicitDefEqProofs (decide:=true) (maxSteps:=2000000) only [M8,cJ,↓lJ,↓vV,↓DN,↓DR,DQ,DP,↓reduceIte,Int.reduceToNat,Nat.reduceBEq,Nat.reduceAdd,Nat.reduceLT,Nat.reduceLeDiff,Nat.reduceEqDiff,Int.reduceEq,ne_eq,zN,reduceCtorEq,bW,bZ,bY,zM,zA,zB,aK,zC,zD,if_true,if_false,zE,zF,aG,zG,aP,zH,zI,zJ,zK,aV,a8,aZ,aW,aY,aI,aO,aR,aJ,aS,aH,aU,bH,Vm.bind_map,aQ,aX,zL]
 all_goals try simp only [bN]
 all_goals try rfl
theorem mR {β:Type} (a0:List aA) (a1:Int) (a2:Int) (d:Nat) (bl:List (Nat × Option aL)) (fz:List (Nat × Option aL)) (k:V→Option β) (kw:V→List (Nat × Option aL)→Option β):fY TT d bl 40 [.sl (cM aA.cells a0),.fn 42 [.ptr [.int .i64 a1] 0,.ptr [.int .i64 a2] 0]] fz k kw = (cJ a0 a1 a2).bind fun (r:Int)=>k (.d (.int .i64 r)):=by
 have h:=mN a0 a1 a2
 exact cZ h (fun _=>rfl) fz
theorem lI (a0:List aA) (a1:Int) (a2:Int):Vm.call TT 26 [.sl (cM aA.cells a0),.fn 42 [.ptr [.int .i64 a1] 0,.ptr [.int .i64 a2] 0]] = (cD a0 a1 a2).map fun (r:Bool)=>.bool r:=by
 refine (eC (show TT 26 = some (.code ⟨2,9,[.tmp 4],MN,false,false⟩) from rfl) _ rfl rfl).trans ?_
 show eH TT MN ⟨[(0,.d (.sl (cM aA.cells a0))),(1,.d (.fn 42 [.ptr [.int .i64 a1] 0,.ptr [.int .i64 a2] 0]))],[]⟩ _ = _
 simp -implicitDefEqProofs (decide:=true) (maxSteps:=2000000) only [MN,cD,↓mR,↓DN,↓DR,DQ,DP,↓reduceIte,Int.reduceToNat,Nat.reduceBEq,Nat.reduceAdd,Nat.reduceLT,Nat.reduceLeDiff,Nat.reduceEqDiff,Int.reduceEq,ne_eq,zN,reduceCtorEq,bW,bZ,bY,zM,zA,zB,aK,zC,zD,if_true,if_false,zE,zF,aG,zG,aP,zH,zI,zJ,zK,aV,a8,aZ,aW,aY,aI,aO,aR,aJ,aS,aH,aU,bH,Vm.bind_map,aQ,aX,zL]
 all_goals try simp only [bN]
 all_goals try rfl
theorem lH {β:Type} (a0:List aA) (a1:Int) (a2:Int) (d:Nat) (bl:List (Nat × Option aL)) (fz:List (Nat × Option aL)) (k:V→Option β) (kw:V→List (Nat × Option aL)→Option β):fY TT d bl 26 [.sl (cM aA.cells a0),.fn 42 [.ptr [.int .i64 a1] 0,.ptr [.int .i64 a2] 0]] fz k kw = (cD a0 a1 a2).bind fun (r:Bool)=>k (.d (.bool r)):=by
 have h:=lI a0 a1 a2
 exact cZ h (fun _=>rfl) fz
theorem JU (a0:List aA) (a1:Int) (a2:Int):Vm.call TT 30 [.sl (cM aA.cells a0),.int .i64 a1,.int .i64 a2] = (o5 a0 a1 a2).map fun (r:Bool)=>.bool r:=by
 refine (eC (show TT 30 = some (.code ⟨3,10,[.tmp 6],aHt,false,false⟩) from rfl) _ rfl rfl).trans ?_
 show eH TT aHt ⟨[(0,.d (.sl (cM aA.cells a0))),(1,.d (.int .i64 a1)),(2,.d (.int .i64 a2))],[]⟩ _ = _
 simp -implicitDefEqProofs (decide:=true) (maxSteps:=2000000) only [aHt,o5,↓lH,↓DN,↓DR,DQ,DP,↓reduceIte,Int.reduceToNat,Nat.reduceBEq,Nat.reduceAdd,Nat.reduceLT,Nat.reduceLeDiff,Nat.reduceEqDiff,Int.reduceEq,ne_eq,zN,reduceCtorEq,bW,bZ,bY,zM,zA,zB,aK,zC,zD,if_true,if_false,zE,zF,aG,zG,aP,zH,zI,zJ,zK,aV,a8,aZ,aW,aY,aI,aO,aR,aJ,aS,aH,aU,bH,Vm.bind_map,aQ,aX,zL]
 all_goals try simp only [bN]
 all_goals try rfl
theorem sU {β:Type} (a0:List aA) (a1:Int) (a2:Int) (d:Nat) (bl:List (Nat × Option aL)) (fz:List (Nat × Option aL)) (k:V→Option β) (kw:V→List (Nat × Option aL)→Option β):fY TT d bl 30 [.sl (cM aA.cells a0),.int .i64 a1,.int .i64 a2] fz k kw = (o5 a0 a1 a2).bind fun (r:Bool)=>k (.d (.bool r)):=by
 have h:=JU a0 a1 a2
 exact cZ h (fun _=>rfl) fz
theorem BW (a0:aA) (a1:aA):Vm.call TT 28 [.agg a0.cells,.ptr a1.cells 0] = (jT a0 a1).map fun (r:Bool)=>.bool r:=by
 refine (eC (show TT 28 = some (.code ⟨2,19,[.tmp 3],aGc,false,false⟩) from rfl) _ rfl rfl).trans ?_
 show eH TT aGc ⟨[(0,n9 a0.cells),(1,.d (.ptr a1.cells 0))],[]⟩ _ = _
 simp -implicitDefEqProofs (decide:=true) (maxSteps:=2000000) only [aGc,jT,↓DN,↓DR,DQ,DP,↓reduceIte,Int.reduceToNat,Nat.reduceBEq,Nat.reduceAdd,Nat.reduceLT,Nat.reduceLeDiff,Nat.reduceEqDiff,Int.reduceEq,ne_eq,zN,reduceCtorEq,bW,bZ,bY,zM,zA,zB,aK,zC,zD,if_true,if_false,zE,zF,aG,zG,aP,zH,zI,zJ,zK,aV,a8,aZ,aW,aY,aI,aO,aR,aJ,aS,aH,aU,bH,Vm.bind_map,aQ,aX,zL]
 all_goals try simp only [bN]
 all_goals try rfl
theorem tV {β:Type} (a0:aA) (a1:aA) (d:Nat) (bl:List (Nat × Option aL)) (fz:List (Nat × Option aL)) (k:V→Option β) (kw:V→List (Nat × Option aL)→Option β):fY TT d bl 28 [.agg a0.cells,.ptr a1.cells 0] fz k kw = (jT a0 a1).bind fun (r:Bool)=>k (.d (.bool r)):=by
 have h:=BW a0 a1
 exact cZ h (fun _=>rfl) fz
theorem lK (a0:List aA) (a1:aA) (p1:Int):eH TT bC ⟨[(0,.d (.sl (cM aA.cells a0))),(1,.d (.fn 28 [.ptr a1.cells 0])),(7,.d (.int .i64 (a0.length:Int))),(8,.d (.int .i64 p1))],[]⟩ (fun e s=>some (e,s)) = eW (fun (w:Int)=>(⟨[(0,.d (.sl (cM aA.cells a0))),(1,.d (.fn 28 [.ptr a1.cells 0])),(7,.d (.int .i64 (a0.length:Int))),(8,.d (.int .i64 w))],[]⟩ : St)) (fun (r:Unit ⊕ Int)=>Sum.elim (fun (z:Unit)=>(((.exit 0),⟨[],[]⟩):Ex × St)) (fun (z:Int)=>((.ret,⟨[(4,.d (.int .i64 z))],[]⟩):Ex × St)) r) (bE a0 a1 p1):=by
 simp -implicitDefEqProofs (decide:=true) (maxSteps:=2000000) only [bC,bE,↓tV,↓DN,↓DR,DQ,DP,↓reduceIte,Int.reduceToNat,Nat.reduceBEq,Nat.reduceAdd,Nat.reduceLT,Nat.reduceLeDiff,Nat.reduceEqDiff,Int.reduceEq,ne_eq,zN,reduceCtorEq,bW,bZ,bY,zM,zA,zB,aK,zC,zD,if_true,if_false,zE,zF,aG,zG,aP,zH,zI,zJ,zK,aV,a8,aZ,aW,aY,aI,aO,aR,aJ,aS,aH,aU,bH,Vm.bind_map,aQ,aX,zL]
 all_goals try simp only [bN]
 all_goals try rfl
theorem lQ {β:Type} (a0:List aA) (a1:aA) (p1:Int) (k:Ex→St→Option β):eH TT dG ⟨[(0,.d (.sl (cM aA.cells a0))),(1,.d (.fn 28 [.ptr a1.cells 0])),(7,.d (.int .i64 (a0.length:Int))),(8,.d (.int .i64 p1))],[]⟩ k = (dA a0 a1 p1).bind (fun (r:Unit ⊕ Int)=>Sum.elim (fun (z:Unit)=>k (.exit 0) ⟨[],[]⟩) (fun (z:Int)=>k .ret ⟨[(4,.d (.int .i64 z))],[]⟩) r):=by
 have hh:=fun (w:Int)=>lK a0 a1 w
 have h:=fun ho=>cP (T:=TT) (k:=k) (c:=bC) (step:=(fun (w:Int)=>bE a0 a1 w)) _ _ ho hh p1
 refine Eq.trans (h (fun r s e=>by have q:=congrArg Prod.fst e; rcases r with x | x <;> cases q)) ?_
 unfold dA
 exact bL _ fun x=>by rcases x with x | x <;> rfl
theorem mK (a0:List aA) (a1:aA):Vm.call TT 40 [.sl (cM aA.cells a0),.fn 28 [.ptr a1.cells 0]] = (cO a0 a1).map fun (r:Int)=>.int .i64 r:=by
 refine (eC (show TT 40 = some (.code ⟨2,19,[.tmp 4],M8,false,false⟩) from rfl) _ rfl rfl).trans ?_
 show eH TT M8 ⟨[(0,.d (.sl (cM aA.cells a0))),(1,.d (.fn 28 [.ptr a1.cells 0]))],[]⟩ _ = _
 simp -implicitDefEqProofs (decide:=true) (maxSteps:=2000000) only [M8,cO,↓lQ,↓tV,↓DN,↓DR,DQ,DP,↓reduceIte,Int.reduceToNat,Nat.reduceBEq,Nat.reduceAdd,Nat.reduceLT,Nat.reduceLeDiff,Nat.reduceEqDiff,Int.reduceEq,ne_eq,zN,reduceCtorEq,bW,bZ,bY,zM,zA,zB,aK,zC,zD,if_true,if_false,zE,zF,aG,zG,aP,zH,zI,zJ,zK,aV,a8,aZ,aW,aY,aI,aO,aR,aJ,aS,aH,aU,bH,Vm.bind_map,aQ,aX,zL]
 all_goals try simp only [bN]
 all_goals try rfl
theorem mQ {β:Type} (a0:List aA) (a1:aA) (d:Nat) (bl:List (Nat × Option aL)) (fz:List (Nat × Option aL)) (k:V→Option β) (kw:V→List (Nat × Option aL)→Option β):fY TT d bl 40 [.sl (cM aA.cells a0),.fn 28 [.ptr a1.cells 0]] fz k kw = (cO a0 a1).bind fun (r:Int)=>k (.d (.int .i64 r)):=by
 have h:=mK a0 a1
 exact cZ h (fun _=>rfl) fz
theorem lE (a0:List aA) (a1:aA):Vm.call TT 26 [.sl (cM aA.cells a0),.fn 28 [.ptr a1.cells 0]] = (bU a0 a1).map fun (r:Bool)=>.bool r:=by
 refine (eC (show TT 26 = some (.code ⟨2,9,[.tmp 4],MN,false,false⟩) from rfl) _ rfl rfl).trans ?_
 show eH TT MN ⟨[(0,.d (.sl (cM aA.cells a0))),(1,.d (.fn 28 [.ptr a1.cells 0]))],[]⟩ _ = _
 simp -implicitDefEqProofs (decide:=true) (maxSteps:=2000000) only [MN,bU,↓mQ,↓DN,↓DR,DQ,DP,↓reduceIte,Int.reduceToNat,Nat.reduceBEq,Nat.reduceAdd,Nat.reduceLT,Nat.reduceLeDiff,Nat.reduceEqDiff,Int.reduceEq,ne_eq,zN,reduceCtorEq,bW,bZ,bY,zM,zA,zB,aK,zC,zD,if_true,if_false,zE,zF,aG,zG,aP,zH,zI,zJ,zK,aV,a8,aZ,aW,aY,aI,aO,aR,aJ,aS,aH,aU,bH,Vm.bind_map,aQ,aX,zL]
 all_goals try simp only [bN]
 all_goals try rfl
theorem cX {β:Type} (a0:List aA) (a1:aA) (d:Nat) (bl:List (Nat × Option aL)) (fz:List (Nat × Option aL)) (k:V→Option β) (kw:V→List (Nat × Option aL)→Option β):fY TT d bl 26 [.sl (cM aA.cells a0),.fn 28 [.ptr a1.cells 0]] fz k kw = (bU a0 a1).bind fun (r:Bool)=>k (.d (.bool r)):=by
 have h:=lE a0 a1
 exact cZ h (fun _=>rfl) fz
theorem nW (a0:List aA) (a1:aA) (p1:Int):eH TT dR ⟨[(0,.d (.sl (cM aA.cells a0))),(3,.ptr 3 0),(7,.d (.int .i64 (a0.length:Int))),(8,.d (.int .i64 p1))],[(3,some (.box (bQ a1.cells)))]⟩ (fun e s=>some (e,s)) = eW (fun (w:Int)=>(⟨[(0,.d (.sl (cM aA.cells a0))),(3,.ptr 3 0),(7,.d (.int .i64 (a0.length:Int))),(8,.d (.int .i64 w))],[(3,some (.box (bQ a1.cells)))]⟩ : St)) (fun (r:Unit ⊕ Int)=>Sum.elim (fun (z:Unit)=>(((.exit 0),⟨[],[]⟩):Ex × St)) (fun (z:Int)=>((.ret,⟨[(4,.d (.int .i64 z))],[]⟩):Ex × St)) r) (bJ a0 a1 p1):=by
 simp -implicitDefEqProofs (decide:=true) (maxSteps:=2000000) only [dR,bJ,↓DN,↓DR,DQ,DP,↓reduceIte,Int.reduceToNat,Nat.reduceBEq,Nat.reduceAdd,Nat.reduceLT,Nat.reduceLeDiff,Nat.reduceEqDiff,Int.reduceEq,ne_eq,zN,reduceCtorEq,bW,bZ,bY,zM,zA,zB,aK,zC,zD,if_true,if_false,zE,zF,aG,zG,aP,zH,zI,zJ,zK,aV,a8,aZ,aW,aY,aI,aO,aR,aJ,aS,aH,aU,bH,Vm.bind_map,aQ,aX,zL]
 all_goals try simp only [bN]
 all_goals try rfl
theorem nU {β:Type} (a0:List aA) (a1:aA) (p1:Int) (k:Ex→St→Option β):eH TT iM ⟨[(0,.d (.sl (cM aA.cells a0))),(3,.ptr 3 0),(7,.d (.int .i64 (a0.length:Int))),(8,.d (.int .i64 p1))],[(3,some (.box (bQ a1.cells)))]⟩ k = (dZ a0 a1 p1).bind (fun (r:Unit ⊕ Int)=>Sum.elim (fun (z:Unit)=>k (.exit 0) ⟨[],[]⟩) (fun (z:Int)=>k .ret ⟨[(4,.d (.int .i64 z))],[]⟩) r):=by
 have hh:=fun (w:Int)=>nW a0 a1 w
 have h:=fun ho=>cP (T:=TT) (k:=k) (c:=dR) (step:=(fun (w:Int)=>bJ a0 a1 w)) _ _ ho hh p1
 refine Eq.trans (h (fun r s e=>by have q:=congrArg Prod.fst e; rcases r with x | x <;> cases q)) ?_
 unfold dZ
 exact bL _ fun x=>by rcases x with x | x <;> rfl
theorem o2 (a0:List aA) (a1:aA):Vm.call TT 41 [.sl (cM aA.cells a0),.agg a1.cells] = (dM a0 a1).map fun (r:Int)=>.int .i64 r:=by
 refine (eC (show TT 41 = some (.code ⟨2,19,[.tmp 4],aGl,false,false⟩) from rfl) _ rfl rfl).trans ?_
 show eH TT aGl ⟨[(0,.d (.sl (cM aA.cells a0))),(1,n9 a1.cells)],[]⟩ _ = _
 simp -implicitDefEqProofs (decide:=true) (maxSteps:=2000000) only [aGl,dM,↓nU,↓DN,↓DR,DQ,DP,↓reduceIte,Int.reduceToNat,Nat.reduceBEq,Nat.reduceAdd,Nat.reduceLT,Nat.reduceLeDiff,Nat.reduceEqDiff,Int.reduceEq,ne_eq,zN,reduceCtorEq,bW,bZ,bY,zM,zA,zB,aK,zC,zD,if_true,if_false,zE,zF,aG,zG,aP,zH,zI,zJ,zK,aV,a8,aZ,aW,aY,aI,aO,aR,aJ,aS,aH,aU,bH,Vm.bind_map,aQ,aX,zL]
 all_goals try simp only [bN]
 all_goals try rfl
theorem oZ {β:Type} (a0:List aA) (a1:aA) (d:Nat) (bl:List (Nat × Option aL)) (fz:List (Nat × Option aL)) (k:V→Option β) (kw:V→List (Nat × Option aL)→Option β):fY TT d bl 41 [.sl (cM aA.cells a0),.agg a1.cells] fz k kw = (dM a0 a1).bind fun (r:Int)=>k (.d (.int .i64 r)):=by
 have h:=o2 a0 a1
 exact cZ h (fun _=>rfl) fz
end Go.Proofs.Ytiimibimkpimbaa
