/- The functions of the small machine compute the plain definitions. Printed by a program. -/
import Derived.Test.YtiimibimkpimbaaFn
set_option linter.unusedVariables false
set_option linter.unusedSimpArgs false
namespace Go.Proofs.Ytiimibimkpimbaa
open Vm
open Go.RowKit
set_option maxRecDepth 100000
set_option maxHeartbeats 4000000
attribute [local congr] xL AL xD BA
theorem w6 (a1:Int) (p1:Int) (p2:List aA):eG TT jQ ⟨[(1,.d (.int .i64 a1)),(5,.own 12 0),(6,.d (.int .i64 p1))],[(12,some (.rows 0 32 9 (cM aA.cells p2)))]⟩ (fun e s=>some (e,s)) = eR (fun (w:Int × (List aA))=>(⟨[(1,.d (.int .i64 a1)),(5,.own 12 0),(6,.d (.int .i64 w.1))],[(12,some (.rows 0 32 9 (cM aA.cells w.2)))]⟩ : St)) (fun (r:(List aA))=>(((.exit 0),⟨[(5,.own 12 0)],[(12,some (.rows 0 32 9 (cM aA.cells r)))]⟩):Ex × St)) (aU a1 p1 p2):=by
 simp -implicitDefEqProofs (decide:=true) (maxSteps:=2000000) only [jQ,aU,↓DN,↓DR,DQ,DP,↓reduceIte,Int.reduceToNat,Nat.reduceBEq,Nat.reduceAdd,Nat.reduceLT,Nat.reduceLeDiff,Nat.reduceEqDiff,Int.reduceEq,ne_eq,zN,reduceCtorEq,bY,b7,b8,zM,zA,zB,aL,zC,zD,if_true,if_false,zE,zF,aJ,zG,aO,zH,zI,zJ,zK,bA,aW,aY,a8,aX,aI,aQ,aS,aH,aP,aG,aV,bH,Vm.bind_map,aR,aZ,zL]
 all_goals try simp only [bP]
 all_goals try rfl
theorem wZ {β:Type} (a1:Int) (p1:Int) (p2:List aA) (k:Ex→St→Option β):eG TT qJ ⟨[(1,.d (.int .i64 a1)),(5,.own 12 0),(6,.d (.int .i64 p1))],[(12,some (.rows 0 32 9 (cM aA.cells p2)))]⟩ k = (kL a1 p1 p2).bind (fun (r:(List aA))=>k (.exit 0) ⟨[(5,.own 12 0)],[(12,some (.rows 0 32 9 (cM aA.cells r)))]⟩):=by
 have hh:=fun (w:Int × (List aA))=>w6 a1 w.1 w.2
 have h:=fun ho=>cV (T:=TT) (k:=k) (c:=jQ) (step:=(fun (w:Int × (List aA))=>aU a1 w.1 w.2)) _ _ ho hh (p1,p2)
 refine Eq.trans (h (fun r s e=>by have q:=congrArg Prod.fst e; rcases r with x <;> cases q)) ?_
 unfold kL
 exact bM _ fun x=>by rcases x with x <;> rfl
theorem gS (a0:Int) (a1:Int):Vm.call TT 19 [.int .i64 a0,.int .i64 a1] = (b9 a0 a1).map fun (r:(List aA))=>.own (.ref 0) [(32,9)] [cM aA.cells r]:=by
 refine (F6 (show TT 19 = some (.code ⟨2,31,[.tmp 4],aGi,true,false⟩) from rfl) _ rfl rfl).trans ?_
 show eG TT aGi ⟨[(0,.d (.int .i64 a0)),(1,.d (.int .i64 a1))],[]⟩ _ = _
 simp -implicitDefEqProofs (decide:=true) (maxSteps:=2000000) only [aGi,b9,↓wZ,↓DN,↓DR,DQ,DP,↓reduceIte,Int.reduceToNat,Nat.reduceBEq,Nat.reduceAdd,Nat.reduceLT,Nat.reduceLeDiff,Nat.reduceEqDiff,Int.reduceEq,ne_eq,zN,reduceCtorEq,bY,b7,b8,zM,zA,zB,aL,zC,zD,if_true,if_false,zE,zF,aJ,zG,aO,zH,zI,zJ,zK,bA,aW,aY,a8,aX,aI,aQ,aS,aH,aP,aG,aV,bH,Vm.bind_map,aR,aZ,zL]
 all_goals try simp only [bP]
 all_goals try rfl
theorem J7 (a0:Int) (a1:Int):Vm.call TT 38 [.int .i64 a0,.int .i64 a1] = (dY a0 a1).map fun (r:Bool)=>.bool r:=by
 refine (dZ (show TT 38 = some (.code ⟨2,12,[.tmp 4],aG3,false,false⟩) from rfl) _ rfl rfl).trans ?_
 show eG TT aG3 ⟨[(0,.d (.int .i64 a0)),(1,.d (.int .i64 a1))],[]⟩ _ = _
 simp -implicitDefEqProofs (decide:=true) (maxSteps:=2000000) only [aG3,dY,↓DN,↓DR,DQ,DP,↓reduceIte,Int.reduceToNat,Nat.reduceBEq,Nat.reduceAdd,Nat.reduceLT,Nat.reduceLeDiff,Nat.reduceEqDiff,Int.reduceEq,ne_eq,zN,reduceCtorEq,bY,b7,b8,zM,zA,zB,aL,zC,zD,if_true,if_false,zE,zF,aJ,zG,aO,zH,zI,zJ,zK,bA,aW,aY,a8,aX,aI,aQ,aS,aH,aP,aG,aV,bH,Vm.bind_map,aR,aZ,zL]
 all_goals try simp only [bP]
 all_goals try rfl
theorem pX {β:Type} (a0:Int) (a1:Int) (d:Nat) (bl:List (Nat × Option aK)) (fz:List (Nat × Option aK)) (k:V→Option β) (kw:V→List (Nat × Option aK)→Option β):fP TT d bl 38 [.int .i64 a0,.int .i64 a1] fz k kw = (dY a0 a1).bind fun (r:Bool)=>k (.d (.bool r)):=by
 have h:=J7 a0 a1
 exact cZ h (fun _=>rfl) fz
theorem PG (a0:Int) (a1:Int) (a2:Int) (a3:List aA):Vm.call TT 21 [.int .i64 a0,.int .i64 a1,.int .i64 a2,.sl (cM aA.cells a3)] = (pY a0 a1 a2 a3).map fun (r:Bool)=>.bool r:=by
 refine (dZ (show TT 21 = some (.code ⟨4,26,[.tmp 8],aFP,false,false⟩) from rfl) _ rfl rfl).trans ?_
 show eG TT aFP ⟨[(0,.d (.int .i64 a0)),(1,.d (.int .i64 a1)),(2,.d (.int .i64 a2)),(3,.d (.sl (cM aA.cells a3)))],[]⟩ _ = _
 simp -implicitDefEqProofs (decide:=true) (maxSteps:=2000000) only [aFP,pY,↓pX,↓DN,↓DR,DQ,DP,↓reduceIte,Int.reduceToNat,Nat.reduceBEq,Nat.reduceAdd,Nat.reduceLT,Nat.reduceLeDiff,Nat.reduceEqDiff,Int.reduceEq,ne_eq,zN,reduceCtorEq,bY,b7,b8,zM,zA,zB,aL,zC,zD,if_true,if_false,zE,zF,aJ,zG,aO,zH,zI,zJ,zK,bA,aW,aY,a8,aX,aI,aQ,aS,aH,aP,aG,aV,bH,Vm.bind_map,aR,aZ,zL]
 all_goals try simp only [bP]
 all_goals try rfl
theorem dL {β:Type} (a0:Int) (a1:Int) (a2:Int) (a3:List aA) (d:Nat) (bl:List (Nat × Option aK)) (fz:List (Nat × Option aK)) (k:V→Option β) (kw:V→List (Nat × Option aK)→Option β):fP TT d bl 21 [.int .i64 a0,.int .i64 a1,.int .i64 a2,.sl (cM aA.cells a3)] fz k kw = (pY a0 a1 a2 a3).bind fun (r:Bool)=>k (.d (.bool r)):=by
 have h:=PG a0 a1 a2 a3
 exact cZ h (fun _=>rfl) fz
theorem tV {β:Type} (a1:Int) (a2:aA) (p4:Bool) (k:Ex→St→Option β):eG TT tX ⟨[(1,.d (.int .i64 a1)),(5,.ptr 5 0),(7,.ptr 7 0),(8,.d (.bool p4)),(28,.d (.int .i64 a2.Kind))],[(5,some (.box (bQ a2.cells))),(7,some (.box [.d (.int .i64 a2.Kind),.d (.int .i64 0),.d (.int .i64 a2.Day),.d (.int .i64 0),.d (.int .i64 0),.d (.int .i64 0),.d (.int .i64 0),.d (.int .i64 0),.d (.int .i64 0)]))]⟩ k = (pR a1 a2 p4).bind (fun (r:Bool × Int × Int × Int)=>k .normal ⟨[(1,.d (.int .i64 a1)),(5,.ptr 5 0),(7,.ptr 7 0),(8,.d (.bool r.1))],[(5,some (.box (bQ a2.cells))),(7,some (.box [.d (.int .i64 a2.Kind),.d (.int .i64 r.2.1),.d (.int .i64 a2.Day),.d (.int .i64 r.2.2.1),.d (.int .i64 0),.d (.int .i64 0),.d (.int .i64 0),.d (.int .i64 r.2.2.2),.d (.int .i64 0)]))]⟩):=by
 simp -implicitDefEqProofs (decide:=true) (maxSteps:=2000000) only [tX,pR,↓pX,↓DN,↓DR,DQ,DP,↓reduceIte,Int.reduceToNat,Nat.reduceBEq,Nat.reduceAdd,Nat.reduceLT,Nat.reduceLeDiff,Nat.reduceEqDiff,Int.reduceEq,ne_eq,zN,reduceCtorEq,bY,b7,b8,zM,zA,zB,aL,zC,zD,if_true,if_false,zE,zF,aJ,zG,aO,zH,zI,zJ,zK,bA,aW,aY,a8,aX,aI,aQ,aS,aH,aP,aG,aV,bH,Vm.bind_map,aR,aZ,zL]
 all_goals try simp only [bP]
 all_goals try rfl
theorem qF {β:Type} (a1:Int) (a2:aA) (p18:Bool) (p19:Int) (p20:Int) (p21:Int) (p22:Int) (p23:Int) (p24:Int) (p25:Int) (k:Ex→St→Option β):eG TT oP ⟨[(1,.d (.int .i64 a1)),(5,.ptr 5 0),(7,.ptr 7 0),(8,.d (.bool p18))],[(5,some (.box (bQ a2.cells))),(7,some (.box [.d (.int .i64 a2.Kind),.d (.int .i64 p19),.d (.int .i64 a2.Day),.d (.int .i64 p20),.d (.int .i64 p21),.d (.int .i64 p22),.d (.int .i64 p23),.d (.int .i64 p24),.d (.int .i64 p25)]))]⟩ k = (dF a1 a2 p18 p19 p20 p21 p22 p23 p24 p25).bind (fun (r:Int)=>k .ret ⟨[(6,.d (.int .i64 r))],[]⟩):=by
 simp -implicitDefEqProofs (decide:=true) (maxSteps:=2000000) only [oP,dF,↓tV,↓pX,↓DN,↓DR,DQ,DP,↓reduceIte,Int.reduceToNat,Nat.reduceBEq,Nat.reduceAdd,Nat.reduceLT,Nat.reduceLeDiff,Nat.reduceEqDiff,Int.reduceEq,ne_eq,zN,reduceCtorEq,bY,b7,b8,zM,zA,zB,aL,zC,zD,if_true,if_false,zE,zF,aJ,zG,aO,zH,zI,zJ,zK,bA,aW,aY,a8,aX,aI,aQ,aS,aH,aP,aG,aV,bH,Vm.bind_map,aR,aZ,zL]
 all_goals try simp only [bP]
 all_goals try rfl
theorem vO {β:Type} (a1:Int) (a2:aA) (r9:Bool) (k:Ex→St→Option β):eG TT oP ⟨[(1,.d (.int .i64 a1)),(5,.ptr 5 0),(7,.ptr 7 0),(8,.d (.bool r9))],[(5,some (.box (bQ a2.cells))),(7,some (.box (bQ a2.cells)))]⟩ k = (dF a1 a2 r9 a2.Room a2.No a2.From a2.To a2.Currency a2.Due a2.Sum).bind (fun (r:Int)=>k .ret ⟨[(6,.d (.int .i64 r))],[]⟩):=qF a1 a2 r9 a2.Room a2.No a2.From a2.To a2.Currency a2.Due a2.Sum k
theorem vS {β:Type} (a1:Int) (a2:aA) (k:Ex→St→Option β):eG TT oP ⟨[(1,.d (.int .i64 a1)),(5,.ptr 5 0),(7,.ptr 7 0),(8,.d (.bool false))],[(5,some (.box (bQ a2.cells))),(7,some (.box (bQ a2.cells)))]⟩ k = (dF a1 a2 false a2.Room a2.No a2.From a2.To a2.Currency a2.Due a2.Sum).bind (fun (r:Int)=>k .ret ⟨[(6,.d (.int .i64 r))],[]⟩):=qF a1 a2 false a2.Room a2.No a2.From a2.To a2.Currency a2.Due a2.Sum k
theorem G7 {β:Type} (a0:Int) (a1:Int) (a2:aA) (p4:Bool) (k:Ex→St→Option β):eG TT tZ ⟨[(0,.d (.int .i64 a0)),(1,.d (.int .i64 a1)),(5,.ptr 5 0),(7,.ptr 7 0),(8,.d (.bool p4))],[(5,some (.box (bQ a2.cells))),(7,some (.box [.d (.int .i64 a2.Kind),.d (.int .i64 0),.d (.int .i64 a2.Day),.d (.int .i64 0),.d (.int .i64 0),.d (.int .i64 0),.d (.int .i64 0),.d (.int .i64 0),.d (.int .i64 0)]))]⟩ k = (lW a0 a1 a2 p4).bind (fun (r:Int)=>k .ret ⟨[(6,.d (.int .i64 r))],[]⟩):=by
 simp -implicitDefEqProofs (decide:=true) (maxSteps:=2000000) only [tZ,lW,↓tV,↓qF,↓vO,↓vS,↓pX,↓DN,↓DR,DQ,DP,↓reduceIte,Int.reduceToNat,Nat.reduceBEq,Nat.reduceAdd,Nat.reduceLT,Nat.reduceLeDiff,Nat.reduceEqDiff,Int.reduceEq,ne_eq,zN,reduceCtorEq,bY,b7,b8,zM,zA,zB,aL,zC,zD,if_true,if_false,zE,zF,aJ,zG,aO,zH,zI,zJ,zK,bA,aW,aY,a8,aX,aI,aQ,aS,aH,aP,aG,aV,bH,Vm.bind_map,aR,aZ,zL]
 all_goals try simp only [bP]
 all_goals try rfl
theorem EJ (a0:Int) (a1:Int) (a2:aA):Vm.call TT 20 [.int .i64 a0,.int .i64 a1,.agg a2.cells] = (kB a0 a1 a2).map fun (r:Int)=>.int .i64 r:=by
 refine (dZ (show TT 20 = some (.code ⟨3,135,[.tmp 6],aFT,false,false⟩) from rfl) _ rfl rfl).trans ?_
 show eG TT aFT ⟨[(0,.d (.int .i64 a0)),(1,.d (.int .i64 a1)),(2,nS a2.cells)],[]⟩ _ = _
 simp -implicitDefEqProofs (decide:=true) (maxSteps:=2000000) only [aFT,kB,↓tV,↓qF,↓vO,↓vS,↓G7,↓pX,↓DN,↓DR,DQ,DP,↓reduceIte,Int.reduceToNat,Nat.reduceBEq,Nat.reduceAdd,Nat.reduceLT,Nat.reduceLeDiff,Nat.reduceEqDiff,Int.reduceEq,ne_eq,zN,reduceCtorEq,bY,b7,b8,zM,zA,zB,aL,zC,zD,if_true,if_false,zE,zF,aJ,zG,aO,zH,zI,zJ,zK,bA,aW,aY,a8,aX,aI,aQ,aS,aH,aP,aG,aV,bH,Vm.bind_map,aR,aZ,zL]
 all_goals try simp only [bP]
 all_goals try rfl
theorem cW {β:Type} (a0:Int) (a1:Int) (a2:aA) (d:Nat) (bl:List (Nat × Option aK)) (fz:List (Nat × Option aK)) (k:V→Option β) (kw:V→List (Nat × Option aK)→Option β):fP TT d bl 20 [.int .i64 a0,.int .i64 a1,.agg a2.cells] fz k kw = (kB a0 a1 a2).bind fun (r:Int)=>k (.d (.int .i64 r)):=by
 have h:=EJ a0 a1 a2
 exact cZ h (fun _=>rfl) fz
theorem EC (a0:aA) (a1:Int) (a2:Int):Vm.call TT 42 [.agg a0.cells,.ptr [.int .i64 a1] 0,.ptr [.int .i64 a2] 0] = (kN a0 a1 a2).map fun (r:Bool)=>.bool r:=by
 refine (dZ (show TT 42 = some (.code ⟨3,26,[.tmp 4],aGz,false,false⟩) from rfl) _ rfl rfl).trans ?_
 show eG TT aGz ⟨[(0,nS a0.cells),(1,.d (.ptr [.int .i64 a1] 0)),(2,.d (.ptr [.int .i64 a2] 0))],[]⟩ _ = _
 simp -implicitDefEqProofs (decide:=true) (maxSteps:=2000000) only [aGz,kN,↓DN,↓DR,DQ,DP,↓reduceIte,Int.reduceToNat,Nat.reduceBEq,Nat.reduceAdd,Nat.reduceLT,Nat.reduceLeDiff,Nat.reduceEqDiff,Int.reduceEq,ne_eq,zN,reduceCtorEq,bY,b7,b8,zM,zA,zB,aL,zC,zD,if_true,if_false,zE,zF,aJ,zG,aO,zH,zI,zJ,zK,bA,aW,aY,a8,aX,aI,aQ,aS,aH,aP,aG,aV,bH,Vm.bind_map,aR,aZ,zL]
 all_goals try simp only [bP]
 all_goals try rfl
theorem vQ {β:Type} (a0:aA) (a1:Int) (a2:Int) (d:Nat) (bl:List (Nat × Option aK)) (fz:List (Nat × Option aK)) (k:V→Option β) (kw:V→List (Nat × Option aK)→Option β):fP TT d bl 42 [.agg a0.cells,.ptr [.int .i64 a1] 0,.ptr [.int .i64 a2] 0] fz k kw = (kN a0 a1 a2).bind fun (r:Bool)=>k (.d (.bool r)):=by
 have h:=EC a0 a1 a2
 exact cZ h (fun _=>rfl) fz
theorem lA (a0:List aA) (a1:Int) (a2:Int) (p1:Int):eG TT bC ⟨[(0,.d (.sl (cM aA.cells a0))),(1,.d (.fn 42 [.ptr [.int .i64 a1] 0,.ptr [.int .i64 a2] 0])),(7,.d (.int .i64 (a0.length:Int))),(8,.d (.int .i64 p1))],[]⟩ (fun e s=>some (e,s)) = eR (fun (w:Int)=>(⟨[(0,.d (.sl (cM aA.cells a0))),(1,.d (.fn 42 [.ptr [.int .i64 a1] 0,.ptr [.int .i64 a2] 0])),(7,.d (.int .i64 (a0.length:Int))),(8,.d (.int .i64 w))],[]⟩ : St)) (fun (r:Unit ⊕ Int)=>Sum.elim (fun (z:Unit)=>(((.exit 0),⟨[],[]⟩):Ex × St)) (fun (z:Int)=>((.ret,⟨[(4,.d (.int .i64 z))],[]⟩):Ex × St)) r) (bD a0 a1 a2 p1):=by
 simp -implicitDefEqProofs (decide:=true) (maxSteps:=2000000) only [bC,bD,↓vQ,↓DN,↓DR,DQ,DP,↓reduceIte,Int.reduceToNat,Nat.reduceBEq,Nat.reduceAdd,Nat.reduceLT,Nat.reduceLeDiff,Nat.reduceEqDiff,Int.reduceEq,ne_eq,zN,reduceCtorEq,bY,b7,b8,zM,zA,zB,aL,zC,zD,if_true,if_false,zE,zF,aJ,zG,aO,zH,zI,zJ,zK,bA,aW,aY,a8,aX,aI,aQ,aS,aH,aP,aG,aV,bH,Vm.bind_map,aR,aZ,zL]
 all_goals try simp only [bP]
 all_goals try rfl
theorem kX {β:Type} (a0:List aA) (a1:Int) (a2:Int) (p1:Int) (k:Ex→St→Option β):eG TT dE ⟨[(0,.d (.sl (cM aA.cells a0))),(1,.d (.fn 42 [.ptr [.int .i64 a1] 0,.ptr [.int .i64 a2] 0])),(7,.d (.int .i64 (a0.length:Int))),(8,.d (.int .i64 p1))],[]⟩ k = (dB a0 a1 a2 p1).bind (fun (r:Unit ⊕ Int)=>Sum.elim (fun (z:Unit)=>k (.exit 0) ⟨[],[]⟩) (fun (z:Int)=>k .ret ⟨[(4,.d (.int .i64 z))],[]⟩) r):=by
 have hh:=fun (w:Int)=>lA a0 a1 a2 w
 have h:=fun ho=>cV (T:=TT) (k:=k) (c:=bC) (step:=(fun (w:Int)=>bD a0 a1 a2 w)) _ _ ho hh p1
 refine Eq.trans (h (fun r s e=>by have q:=congrArg Prod.fst e; rcases r with x | x <;> cases q)) ?_
 unfold dB
 exact bM _ fun x=>by rcases x with x | x <;> rfl
theorem l9 (a0:List aA) (a1:Int) (a2:Int):Vm.call TT 40 [.sl (cM aA.cells a0),.fn 42 [.ptr [.int .i64 a1] 0,.ptr [.int .i64 a2] 0]] = (cR a0 a1 a2).map fun (r:Int)=>.int .i64 r:=by
 refine (dZ (show TT 40 = some (.code ⟨2,19,[.tmp 4],MF,false,false⟩) from rfl) _ rfl rfl).trans ?_
 show eG TT MF ⟨[(0,.d (.sl (cM aA.cells a0))),(1,.d (.fn 42 [.ptr [.int .i64 a1] 0,.ptr [.int .i64 a2] 0]))],[]⟩ _ = _
 simp -implicitDefEqProofs (decide:=true) (maxSteps:=2000000) only [MF,cR,↓kX,↓vQ,↓DN,↓DR,DQ,DP,↓reduceIte,Int.reduceToNat,Nat.reduceBEq,Nat.reduceAdd,Nat.reduceLT,Nat.reduceLeDiff,Nat.reduceEqDiff,Int.reduceEq,ne_eq,zN,reduceCtorEq,bY,b7,b8,zM,zA,zB,aL,zC,zD,if_true,if_false,zE,zF,aJ,zG,aO,zH,zI,zJ,zK,bA,aW,aY,a8,aX,aI,aQ,aS,aH,aP,aG,aV,bH,Vm.bind_map,aR,aZ,zL]
 all_goals try simp only [bP]
 all_goals try rfl
theorem lX {β:Type} (a0:List aA) (a1:Int) (a2:Int) (d:Nat) (bl:List (Nat × Option aK)) (fz:List (Nat × Option aK)) (k:V→Option β) (kw:V→List (Nat × Option aK)→Option β):fP TT d bl 40 [.sl (cM aA.cells a0),.fn 42 [.ptr [.int .i64 a1] 0,.ptr [.int .i64 a2] 0]] fz k kw = (cR a0 a1 a2).bind fun (r:Int)=>k (.d (.int .i64 r)):=by
 have h:=l9 a0 a1 a2
 exact cZ h (fun _=>rfl) fz
theorem lC (a0:List aA) (a1:Int) (a2:Int):Vm.call TT 26 [.sl (cM aA.cells a0),.fn 42 [.ptr [.int .i64 a1] 0,.ptr [.int .i64 a2] 0]] = (cE a0 a1 a2).map fun (r:Bool)=>.bool r:=by
 refine (dZ (show TT 26 = some (.code ⟨2,9,[.tmp 4],MZ,false,false⟩) from rfl) _ rfl rfl).trans ?_
 show eG TT MZ ⟨[(0,.d (.sl (cM aA.cells a0))),(1,.d (.fn 42 [.ptr [.int .i64 a1] 0,.ptr [.int .i64 a2] 0]))],[]⟩ _ = _
 simp -implicitDefEqProofs (decide:=true) (maxSteps:=2000000) only [MZ,cE,↓lX,↓DN,↓DR,DQ,DP,↓reduceIte,Int.reduceToNat,Nat.reduceBEq,Nat.reduceAdd,Nat.reduceLT,Nat.reduceLeDiff,Nat.reduceEqDiff,Int.reduceEq,ne_eq,zN,reduceCtorEq,bY,b7,b8,zM,zA,zB,aL,zC,zD,if_true,if_false,zE,zF,aJ,zG,aO,zH,zI,zJ,zK,bA,aW,aY,a8,aX,aI,aQ,aS,aH,aP,aG,aV,bH,Vm.bind_map,aR,aZ,zL]
 all_goals try simp only [bP]
 all_goals try rfl
theorem lE {β:Type} (a0:List aA) (a1:Int) (a2:Int) (d:Nat) (bl:List (Nat × Option aK)) (fz:List (Nat × Option aK)) (k:V→Option β) (kw:V→List (Nat × Option aK)→Option β):fP TT d bl 26 [.sl (cM aA.cells a0),.fn 42 [.ptr [.int .i64 a1] 0,.ptr [.int .i64 a2] 0]] fz k kw = (cE a0 a1 a2).bind fun (r:Bool)=>k (.d (.bool r)):=by
 have h:=lC a0 a1 a2
 exact cZ h (fun _=>rfl) fz
theorem KB (a0:List aA) (a1:Int) (a2:Int):Vm.call TT 30 [.sl (cM aA.cells a0),.int .i64 a1,.int .i64 a2] = (oV a0 a1 a2).map fun (r:Bool)=>.bool r:=by
 refine (dZ (show TT 30 = some (.code ⟨3,10,[.tmp 6],aHs,false,false⟩) from rfl) _ rfl rfl).trans ?_
 show eG TT aHs ⟨[(0,.d (.sl (cM aA.cells a0))),(1,.d (.int .i64 a1)),(2,.d (.int .i64 a2))],[]⟩ _ = _
 simp -implicitDefEqProofs (decide:=true) (maxSteps:=2000000) only [aHs,oV,↓lE,↓DN,↓DR,DQ,DP,↓reduceIte,Int.reduceToNat,Nat.reduceBEq,Nat.reduceAdd,Nat.reduceLT,Nat.reduceLeDiff,Nat.reduceEqDiff,Int.reduceEq,ne_eq,zN,reduceCtorEq,bY,b7,b8,zM,zA,zB,aL,zC,zD,if_true,if_false,zE,zF,aJ,zG,aO,zH,zI,zJ,zK,bA,aW,aY,a8,aX,aI,aQ,aS,aH,aP,aG,aV,bH,Vm.bind_map,aR,aZ,zL]
 all_goals try simp only [bP]
 all_goals try rfl
theorem sX {β:Type} (a0:List aA) (a1:Int) (a2:Int) (d:Nat) (bl:List (Nat × Option aK)) (fz:List (Nat × Option aK)) (k:V→Option β) (kw:V→List (Nat × Option aK)→Option β):fP TT d bl 30 [.sl (cM aA.cells a0),.int .i64 a1,.int .i64 a2] fz k kw = (oV a0 a1 a2).bind fun (r:Bool)=>k (.d (.bool r)):=by
 have h:=KB a0 a1 a2
 exact cZ h (fun _=>rfl) fz
theorem BQ (a0:aA) (a1:aA):Vm.call TT 28 [.agg a0.cells,.ptr a1.cells 0] = (jJ a0 a1).map fun (r:Bool)=>.bool r:=by
 refine (dZ (show TT 28 = some (.code ⟨2,19,[.tmp 3],aHN,false,false⟩) from rfl) _ rfl rfl).trans ?_
 show eG TT aHN ⟨[(0,nS a0.cells),(1,.d (.ptr a1.cells 0))],[]⟩ _ = _
 simp -implicitDefEqProofs (decide:=true) (maxSteps:=2000000) only [aHN,jJ,↓DN,↓DR,DQ,DP,↓reduceIte,Int.reduceToNat,Nat.reduceBEq,Nat.reduceAdd,Nat.reduceLT,Nat.reduceLeDiff,Nat.reduceEqDiff,Int.reduceEq,ne_eq,zN,reduceCtorEq,bY,b7,b8,zM,zA,zB,aL,zC,zD,if_true,if_false,zE,zF,aJ,zG,aO,zH,zI,zJ,zK,bA,aW,aY,a8,aX,aI,aQ,aS,aH,aP,aG,aV,bH,Vm.bind_map,aR,aZ,zL]
 all_goals try simp only [bP]
 all_goals try rfl
theorem tP {β:Type} (a0:aA) (a1:aA) (d:Nat) (bl:List (Nat × Option aK)) (fz:List (Nat × Option aK)) (k:V→Option β) (kw:V→List (Nat × Option aK)→Option β):fP TT d bl 28 [.agg a0.cells,.ptr a1.cells 0] fz k kw = (jJ a0 a1).bind fun (r:Bool)=>k (.d (.bool r)):=by
 have h:=BQ a0 a1
 exact cZ h (fun _=>rfl) fz
theorem k7 (a0:List aA) (a1:aA) (p1:Int):eG TT bC ⟨[(0,.d (.sl (cM aA.cells a0))),(1,.d (.fn 28 [.ptr a1.cells 0])),(7,.d (.int .i64 (a0.length:Int))),(8,.d (.int .i64 p1))],[]⟩ (fun e s=>some (e,s)) = eR (fun (w:Int)=>(⟨[(0,.d (.sl (cM aA.cells a0))),(1,.d (.fn 28 [.ptr a1.cells 0])),(7,.d (.int .i64 (a0.length:Int))),(8,.d (.int .i64 w))],[]⟩ : St)) (fun (r:Unit ⊕ Int)=>Sum.elim (fun (z:Unit)=>(((.exit 0),⟨[],[]⟩):Ex × St)) (fun (z:Int)=>((.ret,⟨[(4,.d (.int .i64 z))],[]⟩):Ex × St)) r) (bE a0 a1 p1):=by
 simp -implicitDefEqProofs (decide:=true) (maxSteps:=2000000) only [bC,bE,↓tP,↓DN,↓DR,DQ,DP,↓reduceIte,Int.reduceToNat,Nat.reduceBEq,Nat.reduceAdd,Nat.reduceLT,Nat.reduceLeDiff,Nat.reduceEqDiff,Int.reduceEq,ne_eq,zN,reduceCtorEq,bY,b7,b8,zM,zA,zB,aL,zC,zD,if_true,if_false,zE,zF,aJ,zG,aO,zH,zI,zJ,zK,bA,aW,aY,a8,aX,aI,aQ,aS,aH,aP,aG,aV,bH,Vm.bind_map,aR,aZ,zL]
 all_goals try simp only [bP]
 all_goals try rfl
theorem kY {β:Type} (a0:List aA) (a1:aA) (p1:Int) (k:Ex→St→Option β):eG TT dE ⟨[(0,.d (.sl (cM aA.cells a0))),(1,.d (.fn 28 [.ptr a1.cells 0])),(7,.d (.int .i64 (a0.length:Int))),(8,.d (.int .i64 p1))],[]⟩ k = (dC a0 a1 p1).bind (fun (r:Unit ⊕ Int)=>Sum.elim (fun (z:Unit)=>k (.exit 0) ⟨[],[]⟩) (fun (z:Int)=>k .ret ⟨[(4,.d (.int .i64 z))],[]⟩) r):=by
 have hh:=fun (w:Int)=>k7 a0 a1 w
 have h:=fun ho=>cV (T:=TT) (k:=k) (c:=bC) (step:=(fun (w:Int)=>bE a0 a1 w)) _ _ ho hh p1
 refine Eq.trans (h (fun r s e=>by have q:=congrArg Prod.fst e; rcases r with x | x <;> cases q)) ?_
 unfold dC
 exact bM _ fun x=>by rcases x with x | x <;> rfl
theorem mC (a0:List aA) (a1:aA):Vm.call TT 40 [.sl (cM aA.cells a0),.fn 28 [.ptr a1.cells 0]] = (cQ a0 a1).map fun (r:Int)=>.int .i64 r:=by
 refine (dZ (show TT 40 = some (.code ⟨2,19,[.tmp 4],MF,false,false⟩) from rfl) _ rfl rfl).trans ?_
 show eG TT MF ⟨[(0,.d (.sl (cM aA.cells a0))),(1,.d (.fn 28 [.ptr a1.cells 0]))],[]⟩ _ = _
 simp -implicitDefEqProofs (decide:=true) (maxSteps:=2000000) only [MF,cQ,↓kY,↓tP,↓DN,↓DR,DQ,DP,↓reduceIte,Int.reduceToNat,Nat.reduceBEq,Nat.reduceAdd,Nat.reduceLT,Nat.reduceLeDiff,Nat.reduceEqDiff,Int.reduceEq,ne_eq,zN,reduceCtorEq,bY,b7,b8,zM,zA,zB,aL,zC,zD,if_true,if_false,zE,zF,aJ,zG,aO,zH,zI,zJ,zK,bA,aW,aY,a8,aX,aI,aQ,aS,aH,aP,aG,aV,bH,Vm.bind_map,aR,aZ,zL]
 all_goals try simp only [bP]
 all_goals try rfl
theorem lV {β:Type} (a0:List aA) (a1:aA) (d:Nat) (bl:List (Nat × Option aK)) (fz:List (Nat × Option aK)) (k:V→Option β) (kw:V→List (Nat × Option aK)→Option β):fP TT d bl 40 [.sl (cM aA.cells a0),.fn 28 [.ptr a1.cells 0]] fz k kw = (cQ a0 a1).bind fun (r:Int)=>k (.d (.int .i64 r)):=by
 have h:=mC a0 a1
 exact cZ h (fun _=>rfl) fz
theorem lF (a0:List aA) (a1:aA):Vm.call TT 26 [.sl (cM aA.cells a0),.fn 28 [.ptr a1.cells 0]] = (bU a0 a1).map fun (r:Bool)=>.bool r:=by
 refine (dZ (show TT 26 = some (.code ⟨2,9,[.tmp 4],MZ,false,false⟩) from rfl) _ rfl rfl).trans ?_
 show eG TT MZ ⟨[(0,.d (.sl (cM aA.cells a0))),(1,.d (.fn 28 [.ptr a1.cells 0]))],[]⟩ _ = _
 simp -implicitDefEqProofs (decide:=true) (maxSteps:=2000000) only [MZ,bU,↓lV,↓DN,↓DR,DQ,DP,↓reduceIte,Int.reduceToNat,Nat.reduceBEq,Nat.reduceAdd,Nat.reduceLT,Nat.reduceLeDiff,Nat.reduceEqDiff,Int.reduceEq,ne_eq,zN,reduceCtorEq,bY,b7,b8,zM,zA,zB,aL,zC,zD,if_true,if_false,zE,zF,aJ,zG,aO,zH,zI,zJ,zK,bA,aW,aY,a8,aX,aI,aQ,aS,aH,aP,aG,aV,bH,Vm.bind_map,aR,aZ,zL]
 all_goals try simp only [bP]
 all_goals try rfl
theorem c9 {β:Type} (a0:List aA) (a1:aA) (d:Nat) (bl:List (Nat × Option aK)) (fz:List (Nat × Option aK)) (k:V→Option β) (kw:V→List (Nat × Option aK)→Option β):fP TT d bl 26 [.sl (cM aA.cells a0),.fn 28 [.ptr a1.cells 0]] fz k kw = (bU a0 a1).bind fun (r:Bool)=>k (.d (.bool r)):=by
 have h:=lF a0 a1
 exact cZ h (fun _=>rfl) fz
theorem nU (a0:List aA) (a1:aA) (p1:Int):eG TT dS ⟨[(0,.d (.sl (cM aA.cells a0))),(3,.ptr 3 0),(7,.d (.int .i64 (a0.length:Int))),(8,.d (.int .i64 p1))],[(3,some (.box (bQ a1.cells)))]⟩ (fun e s=>some (e,s)) = eR (fun (w:Int)=>(⟨[(0,.d (.sl (cM aA.cells a0))),(3,.ptr 3 0),(7,.d (.int .i64 (a0.length:Int))),(8,.d (.int .i64 w))],[(3,some (.box (bQ a1.cells)))]⟩ : St)) (fun (r:Unit ⊕ Int)=>Sum.elim (fun (z:Unit)=>(((.exit 0),⟨[],[]⟩):Ex × St)) (fun (z:Int)=>((.ret,⟨[(4,.d (.int .i64 z))],[]⟩):Ex × St)) r) (bJ a0 a1 p1):=by
 simp -implicitDefEqProofs (decide:=true) (maxSteps:=2000000) only [dS,bJ,↓DN,↓DR,DQ,DP,↓reduceIte,Int.reduceToNat,Nat.reduceBEq,Nat.reduceAdd,Nat.reduceLT,Nat.reduceLeDiff,Nat.reduceEqDiff,Int.reduceEq,ne_eq,zN,reduceCtorEq,bY,b7,b8,zM,zA,zB,aL,zC,zD,if_true,if_false,zE,zF,aJ,zG,aO,zH,zI,zJ,zK,bA,aW,aY,a8,aX,aI,aQ,aS,aH,aP,aG,aV,bH,Vm.bind_map,aR,aZ,zL]
 all_goals try simp only [bP]
 all_goals try rfl
theorem nX {β:Type} (a0:List aA) (a1:aA) (p1:Int) (k:Ex→St→Option β):eG TT iF ⟨[(0,.d (.sl (cM aA.cells a0))),(3,.ptr 3 0),(7,.d (.int .i64 (a0.length:Int))),(8,.d (.int .i64 p1))],[(3,some (.box (bQ a1.cells)))]⟩ k = (dX a0 a1 p1).bind (fun (r:Unit ⊕ Int)=>Sum.elim (fun (z:Unit)=>k (.exit 0) ⟨[],[]⟩) (fun (z:Int)=>k .ret ⟨[(4,.d (.int .i64 z))],[]⟩) r):=by
 have hh:=fun (w:Int)=>nU a0 a1 w
 have h:=fun ho=>cV (T:=TT) (k:=k) (c:=dS) (step:=(fun (w:Int)=>bJ a0 a1 w)) _ _ ho hh p1
 refine Eq.trans (h (fun r s e=>by have q:=congrArg Prod.fst e; rcases r with x | x <;> cases q)) ?_
 unfold dX
 exact bM _ fun x=>by rcases x with x | x <;> rfl
theorem oT (a0:List aA) (a1:aA):Vm.call TT 41 [.sl (cM aA.cells a0),.agg a1.cells] = (dI a0 a1).map fun (r:Int)=>.int .i64 r:=by
 refine (dZ (show TT 41 = some (.code ⟨2,19,[.tmp 4],aGa,false,false⟩) from rfl) _ rfl rfl).trans ?_
 show eG TT aGa ⟨[(0,.d (.sl (cM aA.cells a0))),(1,nS a1.cells)],[]⟩ _ = _
 simp -implicitDefEqProofs (decide:=true) (maxSteps:=2000000) only [aGa,dI,↓nX,↓DN,↓DR,DQ,DP,↓reduceIte,Int.reduceToNat,Nat.reduceBEq,Nat.reduceAdd,Nat.reduceLT,Nat.reduceLeDiff,Nat.reduceEqDiff,Int.reduceEq,ne_eq,zN,reduceCtorEq,bY,b7,b8,zM,zA,zB,aL,zC,zD,if_true,if_false,zE,zF,aJ,zG,aO,zH,zI,zJ,zK,bA,aW,aY,a8,aX,aI,aQ,aS,aH,aP,aG,aV,bH,Vm.bind_map,aR,aZ,zL]
 all_goals try simp only [bP]
 all_goals try rfl
theorem oR {β:Type} (a0:List aA) (a1:aA) (d:Nat) (bl:List (Nat × Option aK)) (fz:List (Nat × Option aK)) (k:V→Option β) (kw:V→List (Nat × Option aK)→Option β):fP TT d bl 41 [.sl (cM aA.cells a0),.agg a1.cells] fz k kw = (dI a0 a1).bind fun (r:Int)=>k (.d (.int .i64 r)):=by
 have h:=oT a0 a1
 exact cZ h (fun _=>rfl) fz
end Go.Proofs.Ytiimibimkpimbaa
