/- The functions of the small machine compute the plain definitions. Printed by a program. -/
import Derived.Test.YtiimibimkpimbaaFn
set_option linter.unusedVariables false
set_option linter.unusedSimpArgs false
namespace Go.Proofs.Ytiimibimkpimbaa
open Vm
open Go.RowKit
set_option maxRecDepth 100000
set_option maxHeartbeats 4000000
attribute [local congr] yI BN yL BP
theorem xX (a1:Int) (p1:Int) (p2:List aA):eG TT kG ⟨[(1,.d (.int .i64 a1)),(5,.own 12 0),(6,.d (.int .i64 p1))],[(12,some (.rows 0 32 9 (cM aA.cells p2)))]⟩ (fun e s=>some (e,s)) = eN (fun (w:Int × (List aA))=>(⟨[(1,.d (.int .i64 a1)),(5,.own 12 0),(6,.d (.int .i64 w.1))],[(12,some (.rows 0 32 9 (cM aA.cells w.2)))]⟩ : St)) (fun (r:(List aA))=>(((.exit 0),⟨[(5,.own 12 0)],[(12,some (.rows 0 32 9 (cM aA.cells r)))]⟩):Ex × St)) (bA a1 p1 p2):=by
 simp -implicitDefEqProofs (decide:=true) (maxSteps:=2000000) only [kG,bA,↓DN,↓DR,DQ,DP,↓reduceIte,Int.reduceToNat,Nat.reduceBEq,Nat.reduceAdd,Nat.reduceLT,Nat.reduceLeDiff,Nat.reduceEqDiff,Int.reduceEq,ne_eq,zN,reduceCtorEq,bW,b7,bZ,zM,zA,zB,aK,zC,zD,if_true,if_false,zE,zF,aJ,zG,aO,zH,zI,zJ,zK,a8,aY,aV,aU,aX,aG,aR,aQ,aI,aM,aH,aW,bH,Vm.bind_map,aP,aZ,zL]
 all_goals try simp only [bO]
 all_goals try rfl
theorem xV {β:Type} (a1:Int) (p1:Int) (p2:List aA) (k:Ex→St→Option β):eG TT rG ⟨[(1,.d (.int .i64 a1)),(5,.own 12 0),(6,.d (.int .i64 p1))],[(12,some (.rows 0 32 9 (cM aA.cells p2)))]⟩ k = (lE a1 p1 p2).bind (fun (r:(List aA))=>k (.exit 0) ⟨[(5,.own 12 0)],[(12,some (.rows 0 32 9 (cM aA.cells r)))]⟩):=by
 have hh:=fun (w:Int × (List aA))=>xX a1 w.1 w.2
 have h:=fun ho=>cG (T:=TT) (k:=k) (c:=kG) (step:=(fun (w:Int × (List aA))=>bA a1 w.1 w.2)) _ _ ho hh (p1,p2)
 refine Eq.trans (h (fun r s e=>by have q:=congrArg Prod.fst e; rcases r with x <;> cases q)) ?_
 unfold lE
 exact bJ _ fun x=>by rcases x with x <;> rfl
theorem iA (a0:Int) (a1:Int):Vm.call TT 19 [.int .i64 a0,.int .i64 a1] = (b8 a0 a1).map fun (r:(List aA))=>.own (.ref 0) [(32,9)] [cM aA.cells r]:=by
 refine (GO (show TT 19 = some (.code ⟨2,31,[.tmp 4],aII,true,false⟩) from rfl) _ rfl rfl).trans ?_
 show eG TT aII ⟨[(0,.d (.int .i64 a0)),(1,.d (.int .i64 a1))],[]⟩ _ = _
 simp -implicitDefEqProofs (decide:=true) (maxSteps:=2000000) only [aII,b8,↓xV,↓DN,↓DR,DQ,DP,↓reduceIte,Int.reduceToNat,Nat.reduceBEq,Nat.reduceAdd,Nat.reduceLT,Nat.reduceLeDiff,Nat.reduceEqDiff,Int.reduceEq,ne_eq,zN,reduceCtorEq,bW,b7,bZ,zM,zA,zB,aK,zC,zD,if_true,if_false,zE,zF,aJ,zG,aO,zH,zI,zJ,zK,a8,aY,aV,aU,aX,aG,aR,aQ,aI,aM,aH,aW,bH,Vm.bind_map,aP,aZ,zL]
 all_goals try simp only [bO]
 all_goals try rfl
theorem LM (a0:Int) (a1:Int):Vm.call TT 38 [.int .i64 a0,.int .i64 a1] = (eE a0 a1).map fun (r:Bool)=>.bool r:=by
 refine (dZ (show TT 38 = some (.code ⟨2,12,[.tmp 4],aGx,false,false⟩) from rfl) _ rfl rfl).trans ?_
 show eG TT aGx ⟨[(0,.d (.int .i64 a0)),(1,.d (.int .i64 a1))],[]⟩ _ = _
 simp -implicitDefEqProofs (decide:=true) (maxSteps:=2000000) only [aGx,eE,↓DN,↓DR,DQ,DP,↓reduceIte,Int.reduceToNat,Nat.reduceBEq,Nat.reduceAdd,Nat.reduceLT,Nat.reduceLeDiff,Nat.reduceEqDiff,Int.reduceEq,ne_eq,zN,reduceCtorEq,bW,b7,bZ,zM,zA,zB,aK,zC,zD,if_true,if_false,zE,zF,aJ,zG,aO,zH,zI,zJ,zK,a8,aY,aV,aU,aX,aG,aR,aQ,aI,aM,aH,aW,bH,Vm.bind_map,aP,aZ,zL]
 all_goals try simp only [bO]
 all_goals try rfl
theorem qM {β:Type} (a0:Int) (a1:Int) (d:Nat) (bl:List (Nat × Option aL)) (fz:List (Nat × Option aL)) (k:V→Option β) (kw:V→List (Nat × Option aL)→Option β):fT TT d bl 38 [.int .i64 a0,.int .i64 a1] fz k kw = (eE a0 a1).bind fun (r:Bool)=>k (.d (.bool r)):=by
 have h:=LM a0 a1
 exact cU h (fun _=>rfl) fz
theorem Q0 (a0:Int) (a1:Int) (a2:Int) (a3:List aA):Vm.call TT 21 [.int .i64 a0,.int .i64 a1,.int .i64 a2,.sl (cM aA.cells a3)] = (qL a0 a1 a2 a3).map fun (r:Bool)=>.bool r:=by
 refine (dZ (show TT 21 = some (.code ⟨4,26,[.tmp 8],aIM,false,false⟩) from rfl) _ rfl rfl).trans ?_
 show eG TT aIM ⟨[(0,.d (.int .i64 a0)),(1,.d (.int .i64 a1)),(2,.d (.int .i64 a2)),(3,.d (.sl (cM aA.cells a3)))],[]⟩ _ = _
 simp -implicitDefEqProofs (decide:=true) (maxSteps:=2000000) only [aIM,qL,↓qM,↓DN,↓DR,DQ,DP,↓reduceIte,Int.reduceToNat,Nat.reduceBEq,Nat.reduceAdd,Nat.reduceLT,Nat.reduceLeDiff,Nat.reduceEqDiff,Int.reduceEq,ne_eq,zN,reduceCtorEq,bW,b7,bZ,zM,zA,zB,aK,zC,zD,if_true,if_false,zE,zF,aJ,zG,aO,zH,zI,zJ,zK,a8,aY,aV,aU,aX,aG,aR,aQ,aI,aM,aH,aW,bH,Vm.bind_map,aP,aZ,zL]
 all_goals try simp only [bO]
 all_goals try rfl
theorem dP {β:Type} (a0:Int) (a1:Int) (a2:Int) (a3:List aA) (d:Nat) (bl:List (Nat × Option aL)) (fz:List (Nat × Option aL)) (k:V→Option β) (kw:V→List (Nat × Option aL)→Option β):fT TT d bl 21 [.int .i64 a0,.int .i64 a1,.int .i64 a2,.sl (cM aA.cells a3)] fz k kw = (qL a0 a1 a2 a3).bind fun (r:Bool)=>k (.d (.bool r)):=by
 have h:=Q0 a0 a1 a2 a3
 exact cU h (fun _=>rfl) fz
theorem u2 {β:Type} (a1:Int) (a2:aA) (p4:Bool) (k:Ex→St→Option β):eG TT u0 ⟨[(1,.d (.int .i64 a1)),(5,.ptr 5 0),(7,.ptr 7 0),(8,.d (.bool p4)),(28,.d (.int .i64 a2.Kind))],[(5,some (.box (bM a2.cells))),(7,some (.box [.d (.int .i64 a2.Kind),.d (.int .i64 0),.d (.int .i64 a2.Day),.d (.int .i64 0),.d (.int .i64 0),.d (.int .i64 0),.d (.int .i64 0),.d (.int .i64 0),.d (.int .i64 0)]))]⟩ k = (qV a1 a2 p4).bind (fun (r:Bool × Int × Int × Int)=>k .normal ⟨[(1,.d (.int .i64 a1)),(5,.ptr 5 0),(7,.ptr 7 0),(8,.d (.bool r.1))],[(5,some (.box (bM a2.cells))),(7,some (.box [.d (.int .i64 a2.Kind),.d (.int .i64 r.2.1),.d (.int .i64 a2.Day),.d (.int .i64 r.2.2.1),.d (.int .i64 0),.d (.int .i64 0),.d (.int .i64 0),.d (.int .i64 r.2.2.2),.d (.int .i64 0)]))]⟩):=by
 simp -implicitDefEqProofs (decide:=true) (maxSteps:=2000000) only [u0,qV,↓qM,↓DN,↓DR,DQ,DP,↓reduceIte,Int.reduceToNat,Nat.reduceBEq,Nat.reduceAdd,Nat.reduceLT,Nat.reduceLeDiff,Nat.reduceEqDiff,Int.reduceEq,ne_eq,zN,reduceCtorEq,bW,b7,bZ,zM,zA,zB,aK,zC,zD,if_true,if_false,zE,zF,aJ,zG,aO,zH,zI,zJ,zK,a8,aY,aV,aU,aX,aG,aR,aQ,aI,aM,aH,aW,bH,Vm.bind_map,aP,aZ,zL]
 all_goals try simp only [bO]
 all_goals try rfl
theorem qY {β:Type} (a1:Int) (a2:aA) (p18:Bool) (p19:Int) (p20:Int) (p21:Int) (p22:Int) (p23:Int) (p24:Int) (p25:Int) (k:Ex→St→Option β):eG TT pF ⟨[(1,.d (.int .i64 a1)),(5,.ptr 5 0),(7,.ptr 7 0),(8,.d (.bool p18))],[(5,some (.box (bM a2.cells))),(7,some (.box [.d (.int .i64 a2.Kind),.d (.int .i64 p19),.d (.int .i64 a2.Day),.d (.int .i64 p20),.d (.int .i64 p21),.d (.int .i64 p22),.d (.int .i64 p23),.d (.int .i64 p24),.d (.int .i64 p25)]))]⟩ k = (dG a1 a2 p18 p19 p20 p21 p22 p23 p24 p25).bind (fun (r:Int)=>k .ret ⟨[(6,.d (.int .i64 r))],[]⟩):=by
 simp -implicitDefEqProofs (decide:=true) (maxSteps:=2000000) only [pF,dG,↓u2,↓qM,↓DN,↓DR,DQ,DP,↓reduceIte,Int.reduceToNat,Nat.reduceBEq,Nat.reduceAdd,Nat.reduceLT,Nat.reduceLeDiff,Nat.reduceEqDiff,Int.reduceEq,ne_eq,zN,reduceCtorEq,bW,b7,bZ,zM,zA,zB,aK,zC,zD,if_true,if_false,zE,zF,aJ,zG,aO,zH,zI,zJ,zK,a8,aY,aV,aU,aX,aG,aR,aQ,aI,aM,aH,aW,bH,Vm.bind_map,aP,aZ,zL]
 all_goals try simp only [bO]
 all_goals try rfl
theorem wL {β:Type} (a1:Int) (a2:aA) (r9:Bool) (k:Ex→St→Option β):eG TT pF ⟨[(1,.d (.int .i64 a1)),(5,.ptr 5 0),(7,.ptr 7 0),(8,.d (.bool r9))],[(5,some (.box (bM a2.cells))),(7,some (.box (bM a2.cells)))]⟩ k = (dG a1 a2 r9 a2.Room a2.No a2.From a2.To a2.Currency a2.Due a2.Sum).bind (fun (r:Int)=>k .ret ⟨[(6,.d (.int .i64 r))],[]⟩):=qY a1 a2 r9 a2.Room a2.No a2.From a2.To a2.Currency a2.Due a2.Sum k
theorem wD {β:Type} (a1:Int) (a2:aA) (k:Ex→St→Option β):eG TT pF ⟨[(1,.d (.int .i64 a1)),(5,.ptr 5 0),(7,.ptr 7 0),(8,.d (.bool false))],[(5,some (.box (bM a2.cells))),(7,some (.box (bM a2.cells)))]⟩ k = (dG a1 a2 false a2.Room a2.No a2.From a2.To a2.Currency a2.Due a2.Sum).bind (fun (r:Int)=>k .ret ⟨[(6,.d (.int .i64 r))],[]⟩):=qY a1 a2 false a2.Room a2.No a2.From a2.To a2.Currency a2.Due a2.Sum k
theorem HO {β:Type} (a0:Int) (a1:Int) (a2:aA) (p4:Bool) (k:Ex→St→Option β):eG TT uY ⟨[(0,.d (.int .i64 a0)),(1,.d (.int .i64 a1)),(5,.ptr 5 0),(7,.ptr 7 0),(8,.d (.bool p4))],[(5,some (.box (bM a2.cells))),(7,some (.box [.d (.int .i64 a2.Kind),.d (.int .i64 0),.d (.int .i64 a2.Day),.d (.int .i64 0),.d (.int .i64 0),.d (.int .i64 0),.d (.int .i64 0),.d (.int .i64 0),.d (.int .i64 0)]))]⟩ k = (mX a0 a1 a2 p4).bind (fun (r:Int)=>k .ret ⟨[(6,.d (.int .i64 r))],[]⟩):=by
 simp -implicitDefEqProofs (decide:=true) (maxSteps:=2000000) only [uY,mX,↓u2,↓qY,↓wL,↓wD,↓qM,↓DN,↓DR,DQ,DP,↓reduceIte,Int.reduceToNat,Nat.reduceBEq,Nat.reduceAdd,Nat.reduceLT,Nat.reduceLeDiff,Nat.reduceEqDiff,Int.reduceEq,ne_eq,zN,reduceCtorEq,bW,b7,bZ,zM,zA,zB,aK,zC,zD,if_true,if_false,zE,zF,aJ,zG,aO,zH,zI,zJ,zK,a8,aY,aV,aU,aX,aG,aR,aQ,aI,aM,aH,aW,bH,Vm.bind_map,aP,aZ,zL]
 all_goals try simp only [bO]
 all_goals try rfl
theorem E9 (a0:Int) (a1:Int) (a2:aA):Vm.call TT 20 [.int .i64 a0,.int .i64 a1,.agg a2.cells] = (kY a0 a1 a2).map fun (r:Int)=>.int .i64 r:=by
 refine (dZ (show TT 20 = some (.code ⟨3,135,[.tmp 6],aGH,false,false⟩) from rfl) _ rfl rfl).trans ?_
 show eG TT aGH ⟨[(0,.d (.int .i64 a0)),(1,.d (.int .i64 a1)),(2,oJ a2.cells)],[]⟩ _ = _
 simp -implicitDefEqProofs (decide:=true) (maxSteps:=2000000) only [aGH,kY,↓u2,↓qY,↓wL,↓wD,↓HO,↓qM,↓DN,↓DR,DQ,DP,↓reduceIte,Int.reduceToNat,Nat.reduceBEq,Nat.reduceAdd,Nat.reduceLT,Nat.reduceLeDiff,Nat.reduceEqDiff,Int.reduceEq,ne_eq,zN,reduceCtorEq,bW,b7,bZ,zM,zA,zB,aK,zC,zD,if_true,if_false,zE,zF,aJ,zG,aO,zH,zI,zJ,zK,a8,aY,aV,aU,aX,aG,aR,aQ,aI,aM,aH,aW,bH,Vm.bind_map,aP,aZ,zL]
 all_goals try simp only [bO]
 all_goals try rfl
theorem cR {β:Type} (a0:Int) (a1:Int) (a2:aA) (d:Nat) (bl:List (Nat × Option aL)) (fz:List (Nat × Option aL)) (k:V→Option β) (kw:V→List (Nat × Option aL)→Option β):fT TT d bl 20 [.int .i64 a0,.int .i64 a1,.agg a2.cells] fz k kw = (kY a0 a1 a2).bind fun (r:Int)=>k (.d (.int .i64 r)):=by
 have h:=E9 a0 a1 a2
 exact cU h (fun _=>rfl) fz
theorem ES (a0:aA) (a1:Int) (a2:Int):Vm.call TT 42 [.agg a0.cells,.ptr [.int .i64 a1] 0,.ptr [.int .i64 a2] 0] = (lG a0 a1 a2).map fun (r:Bool)=>.bool r:=by
 refine (dZ (show TT 42 = some (.code ⟨3,26,[.tmp 4],aHT,false,false⟩) from rfl) _ rfl rfl).trans ?_
 show eG TT aHT ⟨[(0,oJ a0.cells),(1,.d (.ptr [.int .i64 a1] 0)),(2,.d (.ptr [.int .i64 a2] 0))],[]⟩ _ = _
 simp -implicitDefEqProofs (decide:=true) (maxSteps:=2000000) only [aHT,lG,↓DN,↓DR,DQ,DP,↓reduceIte,Int.reduceToNat,Nat.reduceBEq,Nat.reduceAdd,Nat.reduceLT,Nat.reduceLeDiff,Nat.reduceEqDiff,Int.reduceEq,ne_eq,zN,reduceCtorEq,bW,b7,bZ,zM,zA,zB,aK,zC,zD,if_true,if_false,zE,zF,aJ,zG,aO,zH,zI,zJ,zK,a8,aY,aV,aU,aX,aG,aR,aQ,aI,aM,aH,aW,bH,Vm.bind_map,aP,aZ,zL]
 all_goals try simp only [bO]
 all_goals try rfl
theorem wC {β:Type} (a0:aA) (a1:Int) (a2:Int) (d:Nat) (bl:List (Nat × Option aL)) (fz:List (Nat × Option aL)) (k:V→Option β) (kw:V→List (Nat × Option aL)→Option β):fT TT d bl 42 [.agg a0.cells,.ptr [.int .i64 a1] 0,.ptr [.int .i64 a2] 0] fz k kw = (lG a0 a1 a2).bind fun (r:Bool)=>k (.d (.bool r)):=by
 have h:=ES a0 a1 a2
 exact cU h (fun _=>rfl) fz
theorem lR (a0:List aA) (a1:Int) (a2:Int) (p1:Int):eG TT bC ⟨[(0,.d (.sl (cM aA.cells a0))),(1,.d (.fn 42 [.ptr [.int .i64 a1] 0,.ptr [.int .i64 a2] 0])),(7,.d (.int .i64 (a0.length:Int))),(8,.d (.int .i64 p1))],[]⟩ (fun e s=>some (e,s)) = eN (fun (w:Int)=>(⟨[(0,.d (.sl (cM aA.cells a0))),(1,.d (.fn 42 [.ptr [.int .i64 a1] 0,.ptr [.int .i64 a2] 0])),(7,.d (.int .i64 (a0.length:Int))),(8,.d (.int .i64 w))],[]⟩ : St)) (fun (r:Unit ⊕ Int)=>Sum.elim (fun (z:Unit)=>(((.exit 0),⟨[],[]⟩):Ex × St)) (fun (z:Int)=>((.ret,⟨[(4,.d (.int .i64 z))],[]⟩):Ex × St)) r) (bG a0 a1 a2 p1):=by
 simp -implicitDefEqProofs (decide:=true) (maxSteps:=2000000) only [bC,bG,↓wC,↓DN,↓DR,DQ,DP,↓reduceIte,Int.reduceToNat,Nat.reduceBEq,Nat.reduceAdd,Nat.reduceLT,Nat.reduceLeDiff,Nat.reduceEqDiff,Int.reduceEq,ne_eq,zN,reduceCtorEq,bW,b7,bZ,zM,zA,zB,aK,zC,zD,if_true,if_false,zE,zF,aJ,zG,aO,zH,zI,zJ,zK,a8,aY,aV,aU,aX,aG,aR,aQ,aI,aM,aH,aW,bH,Vm.bind_map,aP,aZ,zL]
 all_goals try simp only [bO]
 all_goals try rfl
theorem lX {β:Type} (a0:List aA) (a1:Int) (a2:Int) (p1:Int) (k:Ex→St→Option β):eG TT dH ⟨[(0,.d (.sl (cM aA.cells a0))),(1,.d (.fn 42 [.ptr [.int .i64 a1] 0,.ptr [.int .i64 a2] 0])),(7,.d (.int .i64 (a0.length:Int))),(8,.d (.int .i64 p1))],[]⟩ k = (dD a0 a1 a2 p1).bind (fun (r:Unit ⊕ Int)=>Sum.elim (fun (z:Unit)=>k (.exit 0) ⟨[],[]⟩) (fun (z:Int)=>k .ret ⟨[(4,.d (.int .i64 z))],[]⟩) r):=by
 have hh:=fun (w:Int)=>lR a0 a1 a2 w
 have h:=fun ho=>cG (T:=TT) (k:=k) (c:=bC) (step:=(fun (w:Int)=>bG a0 a1 a2 w)) _ _ ho hh p1
 refine Eq.trans (h (fun r s e=>by have q:=congrArg Prod.fst e; rcases r with x | x <;> cases q)) ?_
 unfold dD
 exact bJ _ fun x=>by rcases x with x | x <;> rfl
theorem mY (a0:List aA) (a1:Int) (a2:Int):Vm.call TT 40 [.sl (cM aA.cells a0),.fn 42 [.ptr [.int .i64 a1] 0,.ptr [.int .i64 a2] 0]] = (cJ a0 a1 a2).map fun (r:Int)=>.int .i64 r:=by
 refine (dZ (show TT 40 = some (.code ⟨2,19,[.tmp 4],NT,false,false⟩) from rfl) _ rfl rfl).trans ?_
 show eG TT NT ⟨[(0,.d (.sl (cM aA.cells a0))),(1,.d (.fn 42 [.ptr [.int .i64 a1] 0,.ptr [.int .i64 a2] 0]))],[]⟩ _ = _
 simp -implicitDefEqProofs (decide:=true) (maxSteps:=2000000) only [NT,cJ,↓lX,↓wC,↓DN,↓DR,DQ,DP,↓reduceIte,Int.reduceToNat,Nat.reduceBEq,Nat.reduceAdd,Nat.reduceLT,Nat.reduceLeDiff,Nat.reduceEqDiff,Int.reduceEq,ne_eq,zN,reduceCtorEq,bW,b7,bZ,zM,zA,zB,aK,zC,zD,if_true,if_false,zE,zF,aJ,zG,aO,zH,zI,zJ,zK,a8,aY,aV,aU,aX,aG,aR,aQ,aI,aM,aH,aW,bH,Vm.bind_map,aP,aZ,zL]
 all_goals try simp only [bO]
 all_goals try rfl
theorem mO {β:Type} (a0:List aA) (a1:Int) (a2:Int) (d:Nat) (bl:List (Nat × Option aL)) (fz:List (Nat × Option aL)) (k:V→Option β) (kw:V→List (Nat × Option aL)→Option β):fT TT d bl 40 [.sl (cM aA.cells a0),.fn 42 [.ptr [.int .i64 a1] 0,.ptr [.int .i64 a2] 0]] fz k kw = (cJ a0 a1 a2).bind fun (r:Int)=>k (.d (.int .i64 r)):=by
 have h:=mY a0 a1 a2
 exact cU h (fun _=>rfl) fz
theorem lT (a0:List aA) (a1:Int) (a2:Int):Vm.call TT 26 [.sl (cM aA.cells a0),.fn 42 [.ptr [.int .i64 a1] 0,.ptr [.int .i64 a2] 0]] = (cC a0 a1 a2).map fun (r:Bool)=>.bool r:=by
 refine (dZ (show TT 26 = some (.code ⟨2,9,[.tmp 4],NI,false,false⟩) from rfl) _ rfl rfl).trans ?_
 show eG TT NI ⟨[(0,.d (.sl (cM aA.cells a0))),(1,.d (.fn 42 [.ptr [.int .i64 a1] 0,.ptr [.int .i64 a2] 0]))],[]⟩ _ = _
 simp -implicitDefEqProofs (decide:=true) (maxSteps:=2000000) only [NI,cC,↓mO,↓DN,↓DR,DQ,DP,↓reduceIte,Int.reduceToNat,Nat.reduceBEq,Nat.reduceAdd,Nat.reduceLT,Nat.reduceLeDiff,Nat.reduceEqDiff,Int.reduceEq,ne_eq,zN,reduceCtorEq,bW,b7,bZ,zM,zA,zB,aK,zC,zD,if_true,if_false,zE,zF,aJ,zG,aO,zH,zI,zJ,zK,a8,aY,aV,aU,aX,aG,aR,aQ,aI,aM,aH,aW,bH,Vm.bind_map,aP,aZ,zL]
 all_goals try simp only [bO]
 all_goals try rfl
theorem lU {β:Type} (a0:List aA) (a1:Int) (a2:Int) (d:Nat) (bl:List (Nat × Option aL)) (fz:List (Nat × Option aL)) (k:V→Option β) (kw:V→List (Nat × Option aL)→Option β):fT TT d bl 26 [.sl (cM aA.cells a0),.fn 42 [.ptr [.int .i64 a1] 0,.ptr [.int .i64 a2] 0]] fz k kw = (cC a0 a1 a2).bind fun (r:Bool)=>k (.d (.bool r)):=by
 have h:=lT a0 a1 a2
 exact cU h (fun _=>rfl) fz
theorem M4 (a0:List aA) (a1:Int) (a2:Int):Vm.call TT 30 [.sl (cM aA.cells a0),.int .i64 a1,.int .i64 a2] = (pM a0 a1 a2).map fun (r:Bool)=>.bool r:=by
 refine (dZ (show TT 30 = some (.code ⟨3,10,[.tmp 6],aHe,false,false⟩) from rfl) _ rfl rfl).trans ?_
 show eG TT aHe ⟨[(0,.d (.sl (cM aA.cells a0))),(1,.d (.int .i64 a1)),(2,.d (.int .i64 a2))],[]⟩ _ = _
 simp -implicitDefEqProofs (decide:=true) (maxSteps:=2000000) only [aHe,pM,↓lU,↓DN,↓DR,DQ,DP,↓reduceIte,Int.reduceToNat,Nat.reduceBEq,Nat.reduceAdd,Nat.reduceLT,Nat.reduceLeDiff,Nat.reduceEqDiff,Int.reduceEq,ne_eq,zN,reduceCtorEq,bW,b7,bZ,zM,zA,zB,aK,zC,zD,if_true,if_false,zE,zF,aJ,zG,aO,zH,zI,zJ,zK,a8,aY,aV,aU,aX,aG,aR,aQ,aI,aM,aH,aW,bH,Vm.bind_map,aP,aZ,zL]
 all_goals try simp only [bO]
 all_goals try rfl
theorem uB {β:Type} (a0:List aA) (a1:Int) (a2:Int) (d:Nat) (bl:List (Nat × Option aL)) (fz:List (Nat × Option aL)) (k:V→Option β) (kw:V→List (Nat × Option aL)→Option β):fT TT d bl 30 [.sl (cM aA.cells a0),.int .i64 a1,.int .i64 a2] fz k kw = (pM a0 a1 a2).bind fun (r:Bool)=>k (.d (.bool r)):=by
 have h:=M4 a0 a1 a2
 exact cU h (fun _=>rfl) fz
theorem CG (a0:aA) (a1:aA):Vm.call TT 28 [.agg a0.cells,.ptr a1.cells 0] = (j7 a0 a1).map fun (r:Bool)=>.bool r:=by
 refine (dZ (show TT 28 = some (.code ⟨2,19,[.tmp 3],aH8,false,false⟩) from rfl) _ rfl rfl).trans ?_
 show eG TT aH8 ⟨[(0,oJ a0.cells),(1,.d (.ptr a1.cells 0))],[]⟩ _ = _
 simp -implicitDefEqProofs (decide:=true) (maxSteps:=2000000) only [aH8,j7,↓DN,↓DR,DQ,DP,↓reduceIte,Int.reduceToNat,Nat.reduceBEq,Nat.reduceAdd,Nat.reduceLT,Nat.reduceLeDiff,Nat.reduceEqDiff,Int.reduceEq,ne_eq,zN,reduceCtorEq,bW,b7,bZ,zM,zA,zB,aK,zC,zD,if_true,if_false,zE,zF,aJ,zG,aO,zH,zI,zJ,zK,a8,aY,aV,aU,aX,aG,aR,aQ,aI,aM,aH,aW,bH,Vm.bind_map,aP,aZ,zL]
 all_goals try simp only [bO]
 all_goals try rfl
theorem uL {β:Type} (a0:aA) (a1:aA) (d:Nat) (bl:List (Nat × Option aL)) (fz:List (Nat × Option aL)) (k:V→Option β) (kw:V→List (Nat × Option aL)→Option β):fT TT d bl 28 [.agg a0.cells,.ptr a1.cells 0] fz k kw = (j7 a0 a1).bind fun (r:Bool)=>k (.d (.bool r)):=by
 have h:=CG a0 a1
 exact cU h (fun _=>rfl) fz
theorem lZ (a0:List aA) (a1:aA) (p1:Int):eG TT bC ⟨[(0,.d (.sl (cM aA.cells a0))),(1,.d (.fn 28 [.ptr a1.cells 0])),(7,.d (.int .i64 (a0.length:Int))),(8,.d (.int .i64 p1))],[]⟩ (fun e s=>some (e,s)) = eN (fun (w:Int)=>(⟨[(0,.d (.sl (cM aA.cells a0))),(1,.d (.fn 28 [.ptr a1.cells 0])),(7,.d (.int .i64 (a0.length:Int))),(8,.d (.int .i64 w))],[]⟩ : St)) (fun (r:Unit ⊕ Int)=>Sum.elim (fun (z:Unit)=>(((.exit 0),⟨[],[]⟩):Ex × St)) (fun (z:Int)=>((.ret,⟨[(4,.d (.int .i64 z))],[]⟩):Ex × St)) r) (bD a0 a1 p1):=by
 simp -implicitDefEqProofs (decide:=true) (maxSteps:=2000000) only [bC,bD,↓uL,↓DN,↓DR,DQ,DP,↓reduceIte,Int.reduceToNat,Nat.reduceBEq,Nat.reduceAdd,Nat.reduceLT,Nat.reduceLeDiff,Nat.reduceEqDiff,Int.reduceEq,ne_eq,zN,reduceCtorEq,bW,b7,bZ,zM,zA,zB,aK,zC,zD,if_true,if_false,zE,zF,aJ,zG,aO,zH,zI,zJ,zK,a8,aY,aV,aU,aX,aG,aR,aQ,aI,aM,aH,aW,bH,Vm.bind_map,aP,aZ,zL]
 all_goals try simp only [bO]
 all_goals try rfl
theorem lP {β:Type} (a0:List aA) (a1:aA) (p1:Int) (k:Ex→St→Option β):eG TT dH ⟨[(0,.d (.sl (cM aA.cells a0))),(1,.d (.fn 28 [.ptr a1.cells 0])),(7,.d (.int .i64 (a0.length:Int))),(8,.d (.int .i64 p1))],[]⟩ k = (dF a0 a1 p1).bind (fun (r:Unit ⊕ Int)=>Sum.elim (fun (z:Unit)=>k (.exit 0) ⟨[],[]⟩) (fun (z:Int)=>k .ret ⟨[(4,.d (.int .i64 z))],[]⟩) r):=by
 have hh:=fun (w:Int)=>lZ a0 a1 w
 have h:=fun ho=>cG (T:=TT) (k:=k) (c:=bC) (step:=(fun (w:Int)=>bD a0 a1 w)) _ _ ho hh p1
 refine Eq.trans (h (fun r s e=>by have q:=congrArg Prod.fst e; rcases r with x | x <;> cases q)) ?_
 unfold dF
 exact bJ _ fun x=>by rcases x with x | x <;> rfl
theorem mQ (a0:List aA) (a1:aA):Vm.call TT 40 [.sl (cM aA.cells a0),.fn 28 [.ptr a1.cells 0]] = (cP a0 a1).map fun (r:Int)=>.int .i64 r:=by
 refine (dZ (show TT 40 = some (.code ⟨2,19,[.tmp 4],NT,false,false⟩) from rfl) _ rfl rfl).trans ?_
 show eG TT NT ⟨[(0,.d (.sl (cM aA.cells a0))),(1,.d (.fn 28 [.ptr a1.cells 0]))],[]⟩ _ = _
 simp -implicitDefEqProofs (decide:=true) (maxSteps:=2000000) only [NT,cP,↓lP,↓uL,↓DN,↓DR,DQ,DP,↓reduceIte,Int.reduceToNat,Nat.reduceBEq,Nat.reduceAdd,Nat.reduceLT,Nat.reduceLeDiff,Nat.reduceEqDiff,Int.reduceEq,ne_eq,zN,reduceCtorEq,bW,b7,bZ,zM,zA,zB,aK,zC,zD,if_true,if_false,zE,zF,aJ,zG,aO,zH,zI,zJ,zK,a8,aY,aV,aU,aX,aG,aR,aQ,aI,aM,aH,aW,bH,Vm.bind_map,aP,aZ,zL]
 all_goals try simp only [bO]
 all_goals try rfl
theorem m6 {β:Type} (a0:List aA) (a1:aA) (d:Nat) (bl:List (Nat × Option aL)) (fz:List (Nat × Option aL)) (k:V→Option β) (kw:V→List (Nat × Option aL)→Option β):fT TT d bl 40 [.sl (cM aA.cells a0),.fn 28 [.ptr a1.cells 0]] fz k kw = (cP a0 a1).bind fun (r:Int)=>k (.d (.int .i64 r)):=by
 have h:=mQ a0 a1
 exact cU h (fun _=>rfl) fz
theorem lS (a0:List aA) (a1:aA):Vm.call TT 26 [.sl (cM aA.cells a0),.fn 28 [.ptr a1.cells 0]] = (bV a0 a1).map fun (r:Bool)=>.bool r:=by
 refine (dZ (show TT 26 = some (.code ⟨2,9,[.tmp 4],NI,false,false⟩) from rfl) _ rfl rfl).trans ?_
 show eG TT NI ⟨[(0,.d (.sl (cM aA.cells a0))),(1,.d (.fn 28 [.ptr a1.cells 0]))],[]⟩ _ = _
 simp -implicitDefEqProofs (decide:=true) (maxSteps:=2000000) only [NI,bV,↓m6,↓DN,↓DR,DQ,DP,↓reduceIte,Int.reduceToNat,Nat.reduceBEq,Nat.reduceAdd,Nat.reduceLT,Nat.reduceLeDiff,Nat.reduceEqDiff,Int.reduceEq,ne_eq,zN,reduceCtorEq,bW,b7,bZ,zM,zA,zB,aK,zC,zD,if_true,if_false,zE,zF,aJ,zG,aO,zH,zI,zJ,zK,a8,aY,aV,aU,aX,aG,aR,aQ,aI,aM,aH,aW,bH,Vm.bind_map,aP,aZ,zL]
 all_goals try simp only [bO]
 all_goals try rfl
theorem cX {β:Type} (a0:List aA) (a1:aA) (d:Nat) (bl:List (Nat × Option aL)) (fz:List (Nat × Option aL)) (k:V→Option β) (kw:V→List (Nat × Option aL)→Option β):fT TT d bl 26 [.sl (cM aA.cells a0),.fn 28 [.ptr a1.cells 0]] fz k kw = (bV a0 a1).bind fun (r:Bool)=>k (.d (.bool r)):=by
 have h:=lS a0 a1
 exact cU h (fun _=>rfl) fz
theorem oD (a0:List aA) (a1:aA) (p1:Int):eG TT dV ⟨[(0,.d (.sl (cM aA.cells a0))),(3,.ptr 3 0),(7,.d (.int .i64 (a0.length:Int))),(8,.d (.int .i64 p1))],[(3,some (.box (bM a1.cells)))]⟩ (fun e s=>some (e,s)) = eN (fun (w:Int)=>(⟨[(0,.d (.sl (cM aA.cells a0))),(3,.ptr 3 0),(7,.d (.int .i64 (a0.length:Int))),(8,.d (.int .i64 w))],[(3,some (.box (bM a1.cells)))]⟩ : St)) (fun (r:Unit ⊕ Int)=>Sum.elim (fun (z:Unit)=>(((.exit 0),⟨[],[]⟩):Ex × St)) (fun (z:Int)=>((.ret,⟨[(4,.d (.int .i64 z))],[]⟩):Ex × St)) r) (bK a0 a1 p1):=by
 simp -implicitDefEqProofs (decide:=true) (maxSteps:=2000000) only [dV,bK,↓DN,↓DR,DQ,DP,↓reduceIte,Int.reduceToNat,Nat.reduceBEq,Nat.reduceAdd,Nat.reduceLT,Nat.reduceLeDiff,Nat.reduceEqDiff,Int.reduceEq,ne_eq,zN,reduceCtorEq,bW,b7,bZ,zM,zA,zB,aK,zC,zD,if_true,if_false,zE,zF,aJ,zG,aO,zH,zI,zJ,zK,a8,aY,aV,aU,aX,aG,aR,aQ,aI,aM,aH,aW,bH,Vm.bind_map,aP,aZ,zL]
 all_goals try simp only [bO]
 all_goals try rfl
theorem oL {β:Type} (a0:List aA) (a1:aA) (p1:Int) (k:Ex→St→Option β):eG TT iU ⟨[(0,.d (.sl (cM aA.cells a0))),(3,.ptr 3 0),(7,.d (.int .i64 (a0.length:Int))),(8,.d (.int .i64 p1))],[(3,some (.box (bM a1.cells)))]⟩ k = (eB a0 a1 p1).bind (fun (r:Unit ⊕ Int)=>Sum.elim (fun (z:Unit)=>k (.exit 0) ⟨[],[]⟩) (fun (z:Int)=>k .ret ⟨[(4,.d (.int .i64 z))],[]⟩) r):=by
 have hh:=fun (w:Int)=>oD a0 a1 w
 have h:=fun ho=>cG (T:=TT) (k:=k) (c:=dV) (step:=(fun (w:Int)=>bK a0 a1 w)) _ _ ho hh p1
 refine Eq.trans (h (fun r s e=>by have q:=congrArg Prod.fst e; rcases r with x | x <;> cases q)) ?_
 unfold eB
 exact bJ _ fun x=>by rcases x with x | x <;> rfl
theorem pH (a0:List aA) (a1:aA):Vm.call TT 41 [.sl (cM aA.cells a0),.agg a1.cells] = (dM a0 a1).map fun (r:Int)=>.int .i64 r:=by
 refine (dZ (show TT 41 = some (.code ⟨2,19,[.tmp 4],aGG,false,false⟩) from rfl) _ rfl rfl).trans ?_
 show eG TT aGG ⟨[(0,.d (.sl (cM aA.cells a0))),(1,oJ a1.cells)],[]⟩ _ = _
 simp -implicitDefEqProofs (decide:=true) (maxSteps:=2000000) only [aGG,dM,↓oL,↓DN,↓DR,DQ,DP,↓reduceIte,Int.reduceToNat,Nat.reduceBEq,Nat.reduceAdd,Nat.reduceLT,Nat.reduceLeDiff,Nat.reduceEqDiff,Int.reduceEq,ne_eq,zN,reduceCtorEq,bW,b7,bZ,zM,zA,zB,aK,zC,zD,if_true,if_false,zE,zF,aJ,zG,aO,zH,zI,zJ,zK,a8,aY,aV,aU,aX,aG,aR,aQ,aI,aM,aH,aW,bH,Vm.bind_map,aP,aZ,zL]
 all_goals try simp only [bO]
 all_goals try rfl
theorem pG {β:Type} (a0:List aA) (a1:aA) (d:Nat) (bl:List (Nat × Option aL)) (fz:List (Nat × Option aL)) (k:V→Option β) (kw:V→List (Nat × Option aL)→Option β):fT TT d bl 41 [.sl (cM aA.cells a0),.agg a1.cells] fz k kw = (dM a0 a1).bind fun (r:Int)=>k (.d (.int .i64 r)):=by
 have h:=pH a0 a1
 exact cU h (fun _=>rfl) fz
end Go.Proofs.Ytiimibimkpimbaa
