/- The functions of the small machine compute the plain definitions. Printed by a program. -/
import Derived.Test.YtjjcaapdaldedaaLnk1
set_option linter.unusedVariables false
set_option linter.unusedSimpArgs false
namespace Go.Proofs.Ytjjcaapdaldedaa
open Vm
open Go.RowKit
set_option maxRecDepth 100000
set_option maxHeartbeats 4000000
attribute [local congr] u9 xI vD wQ
theorem D0 (a0:Int) (a1:aB):Vm.call TT 31 [.int .i64 a0,.ptr a1.cells 0] = (kF a0 a1).map fun (r:Bool)=>.bool r:=by
 refine (dQ (show TT 31 = some (.code ⟨2,11,[.tmp 3],aDw,false,false⟩) from rfl) _ rfl rfl).trans ?_
 show eL TT aDw ⟨[(0,.d (.int .i64 a0)),(1,.d (.ptr a1.cells 0))],[]⟩ _ = _
 simp -implicitDefEqProofs (decide:=true) (maxSteps:=2000000) only [aDw,kF,↓LT,↓DN,↓DR,DQ,DP,↓reduceIte,Int.reduceToNat,Nat.reduceBEq,Nat.reduceAdd,Nat.reduceLT,Nat.reduceLeDiff,Nat.reduceEqDiff,Int.reduceEq,ne_eq,zN,reduceCtorEq,dA,dF,dE,zM,zA,zB,aI,zC,zD,if_true,if_false,zE,zF,aC,zG,aJ,zH,zI,zJ,zK,aX,aS,aV,aY,aW,aF,aK,aO,aG,aL,aE,aT,bW,Vm.bind_map,aP,aU,zL]
 all_goals try simp only [cN]
 all_goals try rfl
theorem v9 {β:Type} (a0:Int) (a1:aB) (d:Nat) (bl fz:List (Nat × Option aR)) (k:V->Option β) (kw:V->List (Nat × Option aR)->Option β):eK TT d bl 31 [.int .i64 a0,.ptr a1.cells 0] fz k kw = (kF a0 a1).bind fun (r:Bool)=>k (.d (.bool r)):=by
 have h:=D0 a0 a1
 exact cU h (fun _=>rfl) fz
theorem D2 (a0:List ByteArray) (a2:aB) (p1:Int):eL TT e9 ⟨[(0,.d (.sl (cM cS a0))),(2,.d (.fn 31 [.ptr a2.cells 0])),(14,.d (.int .i64 (a0.length:Int))),(15,.d (.int .i64 p1))],[]⟩ (fun e s=>some (e,s)) = eZ (fun (w:Int)=>(⟨[(0,.d (.sl (cM cS a0))),(2,.d (.fn 31 [.ptr a2.cells 0])),(14,.d (.int .i64 (a0.length:Int))),(15,.d (.int .i64 w))],[]⟩ : St)) (fun (r:Unit ⊕ Int)=>Sum.elim (fun (z:Unit)=>(((.exit 0),⟨[],[]⟩):Ex × St)) (fun (z:Int)=>((.ret,⟨[(6,.d (.int .i64 z))],[]⟩):Ex × St)) r) (kS a0 a2 p1):=by
 simp -implicitDefEqProofs (decide:=true) (maxSteps:=2000000) only [e9,kS,↓v9,↓j8,↓DN,↓DR,DQ,DP,↓reduceIte,Int.reduceToNat,Nat.reduceBEq,Nat.reduceAdd,Nat.reduceLT,Nat.reduceLeDiff,Nat.reduceEqDiff,Int.reduceEq,ne_eq,zN,reduceCtorEq,dA,dF,dE,zM,zA,zB,aI,zC,zD,if_true,if_false,zE,zF,aC,zG,aJ,zH,zI,zJ,zK,aX,aS,aV,aY,aW,aF,aK,aO,aG,aL,aE,aT,bW,Vm.bind_map,aP,aU,zL]
 all_goals try simp only [cN]
 all_goals try rfl
theorem D5 {β:Type} (a0:List ByteArray) (a2:aB) (p1:Int) (k:Ex->St->Option β):eL TT nI ⟨[(0,.d (.sl (cM cS a0))),(2,.d (.fn 31 [.ptr a2.cells 0])),(14,.d (.int .i64 (a0.length:Int))),(15,.d (.int .i64 p1))],[]⟩ k = (tJ a0 a2 p1).bind (fun (r:Unit ⊕ Int)=>Sum.elim (fun (z:Unit)=>k (.exit 0) ⟨[],[]⟩) (fun (z:Int)=>k .ret ⟨[(6,.d (.int .i64 z))],[]⟩) r):=by
 have hh:=fun (w:Int)=>D2 a0 a2 w
 have h:=fun ho=>dS (T:=TT) (k:=k) (c:=e9) (step:=(fun (w:Int)=>kS a0 a2 w)) _ _ ho hh p1
 refine Eq.trans (h (fun r s e=>by have q:=congrArg Prod.fst e; rcases r with x | x <;> cases q)) ?_
 unfold tJ
 exact cZ _ fun x=>by rcases x with x | x <;> rfl
theorem HL (a0:List ByteArray) (a1:Int) (a2:aB):Vm.call TT 29 [.sl (cM cS a0),.int .i64 a1,.fn 31 [.ptr a2.cells 0]] = (nP a0 a1 a2).map fun (r:Int)=>.int .i64 r:=by
 refine (dQ (show TT 29 = some (.code ⟨3,29,[.tmp 6],G2,false,false⟩) from rfl) _ rfl rfl).trans ?_
 show eL TT G2 ⟨[(0,.d (.sl (cM cS a0))),(1,.d (.int .i64 a1)),(2,.d (.fn 31 [.ptr a2.cells 0]))],[]⟩ _ = _
 simp -implicitDefEqProofs (decide:=true) (maxSteps:=2000000) only [G2,nP,↓D5,↓v9,↓j8,↓DN,↓DR,DQ,DP,↓reduceIte,Int.reduceToNat,Nat.reduceBEq,Nat.reduceAdd,Nat.reduceLT,Nat.reduceLeDiff,Nat.reduceEqDiff,Int.reduceEq,ne_eq,zN,reduceCtorEq,dA,dF,dE,zM,zA,zB,aI,zC,zD,if_true,if_false,zE,zF,aC,zG,aJ,zH,zI,zJ,zK,aX,aS,aV,aY,aW,aF,aK,aO,aG,aL,aE,aT,bW,Vm.bind_map,aP,aU,zL]
 all_goals try simp only [cN]
 all_goals try rfl
theorem AB {β:Type} (a0:List ByteArray) (a1:Int) (a2:aB) (d:Nat) (bl fz:List (Nat × Option aR)) (k:V->Option β) (kw:V->List (Nat × Option aR)->Option β):eK TT d bl 29 [.sl (cM cS a0),.int .i64 a1,.fn 31 [.ptr a2.cells 0]] fz k kw = (nP a0 a1 a2).bind fun (r:Int)=>k (.d (.int .i64 r)):=by
 have h:=HL a0 a1 a2
 exact cU h (fun _=>rfl) fz
theorem DF (a0:Int) (a1:aB):Vm.call TT 34 [.int .i64 a0,.ptr a1.cells 0] = (i7 a0 a1).map fun (r:Bool)=>.bool r:=by
 refine (dQ (show TT 34 = some (.code ⟨2,26,[.tmp 3],aFl,false,false⟩) from rfl) _ rfl rfl).trans ?_
 show eL TT aFl ⟨[(0,.d (.int .i64 a0)),(1,.d (.ptr a1.cells 0))],[]⟩ _ = _
 simp -implicitDefEqProofs (decide:=true) (maxSteps:=2000000) only [aFl,i7,↓iB,↓DN,↓DR,DQ,DP,↓reduceIte,Int.reduceToNat,Nat.reduceBEq,Nat.reduceAdd,Nat.reduceLT,Nat.reduceLeDiff,Nat.reduceEqDiff,Int.reduceEq,ne_eq,zN,reduceCtorEq,dA,dF,dE,zM,zA,zB,aI,zC,zD,if_true,if_false,zE,zF,aC,zG,aJ,zH,zI,zJ,zK,aX,aS,aV,aY,aW,aF,aK,aO,aG,aL,aE,aT,bW,Vm.bind_map,aP,aU,zL]
 all_goals try simp only [cN]
 all_goals try rfl
theorem vU {β:Type} (a0:Int) (a1:aB) (d:Nat) (bl fz:List (Nat × Option aR)) (k:V->Option β) (kw:V->List (Nat × Option aR)->Option β):eK TT d bl 34 [.int .i64 a0,.ptr a1.cells 0] fz k kw = (i7 a0 a1).bind fun (r:Bool)=>k (.d (.bool r)):=by
 have h:=DF a0 a1
 exact cU h (fun _=>rfl) fz
theorem DV (a0:List ByteArray) (a2:aB) (p1:Int):eL TT e9 ⟨[(0,.d (.sl (cM cS a0))),(2,.d (.fn 34 [.ptr a2.cells 0])),(14,.d (.int .i64 (a0.length:Int))),(15,.d (.int .i64 p1))],[]⟩ (fun e s=>some (e,s)) = eZ (fun (w:Int)=>(⟨[(0,.d (.sl (cM cS a0))),(2,.d (.fn 34 [.ptr a2.cells 0])),(14,.d (.int .i64 (a0.length:Int))),(15,.d (.int .i64 w))],[]⟩ : St)) (fun (r:Unit ⊕ Int)=>Sum.elim (fun (z:Unit)=>(((.exit 0),⟨[],[]⟩):Ex × St)) (fun (z:Int)=>((.ret,⟨[(6,.d (.int .i64 z))],[]⟩):Ex × St)) r) (kX a0 a2 p1):=by
 simp -implicitDefEqProofs (decide:=true) (maxSteps:=2000000) only [e9,kX,↓vU,↓j8,↓DN,↓DR,DQ,DP,↓reduceIte,Int.reduceToNat,Nat.reduceBEq,Nat.reduceAdd,Nat.reduceLT,Nat.reduceLeDiff,Nat.reduceEqDiff,Int.reduceEq,ne_eq,zN,reduceCtorEq,dA,dF,dE,zM,zA,zB,aI,zC,zD,if_true,if_false,zE,zF,aC,zG,aJ,zH,zI,zJ,zK,aX,aS,aV,aY,aW,aF,aK,aO,aG,aL,aE,aT,bW,Vm.bind_map,aP,aU,zL]
 all_goals try simp only [cN]
 all_goals try rfl
theorem DO {β:Type} (a0:List ByteArray) (a2:aB) (p1:Int) (k:Ex->St->Option β):eL TT nI ⟨[(0,.d (.sl (cM cS a0))),(2,.d (.fn 34 [.ptr a2.cells 0])),(14,.d (.int .i64 (a0.length:Int))),(15,.d (.int .i64 p1))],[]⟩ k = (tH a0 a2 p1).bind (fun (r:Unit ⊕ Int)=>Sum.elim (fun (z:Unit)=>k (.exit 0) ⟨[],[]⟩) (fun (z:Int)=>k .ret ⟨[(6,.d (.int .i64 z))],[]⟩) r):=by
 have hh:=fun (w:Int)=>DV a0 a2 w
 have h:=fun ho=>dS (T:=TT) (k:=k) (c:=e9) (step:=(fun (w:Int)=>kX a0 a2 w)) _ _ ho hh p1
 refine Eq.trans (h (fun r s e=>by have q:=congrArg Prod.fst e; rcases r with x | x <;> cases q)) ?_
 unfold tH
 exact cZ _ fun x=>by rcases x with x | x <;> rfl
theorem HB (a0:List ByteArray) (a1:Int) (a2:aB):Vm.call TT 29 [.sl (cM cS a0),.int .i64 a1,.fn 34 [.ptr a2.cells 0]] = (nT a0 a1 a2).map fun (r:Int)=>.int .i64 r:=by
 refine (dQ (show TT 29 = some (.code ⟨3,29,[.tmp 6],G2,false,false⟩) from rfl) _ rfl rfl).trans ?_
 show eL TT G2 ⟨[(0,.d (.sl (cM cS a0))),(1,.d (.int .i64 a1)),(2,.d (.fn 34 [.ptr a2.cells 0]))],[]⟩ _ = _
 simp -implicitDefEqProofs (decide:=true) (maxSteps:=2000000) only [G2,nT,↓DO,↓vU,↓j8,↓DN,↓DR,DQ,DP,↓reduceIte,Int.reduceToNat,Nat.reduceBEq,Nat.reduceAdd,Nat.reduceLT,Nat.reduceLeDiff,Nat.reduceEqDiff,Int.reduceEq,ne_eq,zN,reduceCtorEq,dA,dF,dE,zM,zA,zB,aI,zC,zD,if_true,if_false,zE,zF,aC,zG,aJ,zH,zI,zJ,zK,aX,aS,aV,aY,aW,aF,aK,aO,aG,aL,aE,aT,bW,Vm.bind_map,aP,aU,zL]
 all_goals try simp only [cN]
 all_goals try rfl
theorem AH {β:Type} (a0:List ByteArray) (a1:Int) (a2:aB) (d:Nat) (bl fz:List (Nat × Option aR)) (k:V->Option β) (kw:V->List (Nat × Option aR)->Option β):eK TT d bl 29 [.sl (cM cS a0),.int .i64 a1,.fn 34 [.ptr a2.cells 0]] fz k kw = (nT a0 a1 a2).bind fun (r:Int)=>k (.d (.int .i64 r)):=by
 have h:=HB a0 a1 a2
 exact cU h (fun _=>rfl) fz
theorem GC (a0:b4) (p1:Int) (p2:List Int):eL TT pW ⟨[(1,.ptr 1 0),(3,.own 20 0),(4,.nil),(10,.d (.sl (cM cW.cells a0.Choices))),(11,.d (.int .i64 (a0.Choices.length:Int))),(12,.d (.int .i64 p1))],[(1,some (.box (aD a0.cells))),(20,some (.rows 0 3 1 (cM cI p2)))]⟩ (fun e s=>some (e,s)) = eZ (fun (w:Int × (List Int))=>(⟨[(1,.ptr 1 0),(3,.own 20 0),(4,.nil),(10,.d (.sl (cM cW.cells a0.Choices))),(11,.d (.int .i64 (a0.Choices.length:Int))),(12,.d (.int .i64 w.1))],[(1,some (.box (aD a0.cells))),(20,some (.rows 0 3 1 (cM cI w.2)))]⟩ : St)) (fun (r:((List Int)) ⊕ Unit)=>Sum.elim (fun (z:(List Int))=>(((.exit 0),⟨[(1,.ptr 1 0),(3,.own 20 0),(4,.nil)],[(1,some (.box (aD a0.cells))),(20,some (.rows 0 3 1 (cM cI z)))]⟩):Ex × St)) (fun (z:Unit)=>((.ret,⟨[(2,.d (.bool false))],[]⟩):Ex × St)) r) (iZ a0 p1 p2):=by
 simp -implicitDefEqProofs (decide:=true) (maxSteps:=2000000) only [pW,iZ,↓iB,↓o6,↓DN,↓DR,DQ,DP,↓reduceIte,Int.reduceToNat,Nat.reduceBEq,Nat.reduceAdd,Nat.reduceLT,Nat.reduceLeDiff,Nat.reduceEqDiff,Int.reduceEq,ne_eq,zN,reduceCtorEq,dA,dF,dE,zM,zA,zB,aI,zC,zD,if_true,if_false,zE,zF,aC,zG,aJ,zH,zI,zJ,zK,aX,aS,aV,aY,aW,aF,aK,aO,aG,aL,aE,aT,bW,Vm.bind_map,aP,aU,zL]
 all_goals try simp only [cN]
 all_goals try rfl
theorem yO {β:Type} (a0:b4) (p1:Int) (p2:List Int) (k:Ex->St->Option β):eL TT yT ⟨[(1,.ptr 1 0),(3,.own 20 0),(4,.nil),(10,.d (.sl (cM cW.cells a0.Choices))),(11,.d (.int .i64 (a0.Choices.length:Int))),(12,.d (.int .i64 p1))],[(1,some (.box (aD a0.cells))),(20,some (.rows 0 3 1 (cM cI p2)))]⟩ k = (sD a0 p1 p2).bind (fun (r:((List Int)) ⊕ Unit)=>Sum.elim (fun (z:(List Int))=>k (.exit 0) ⟨[(1,.ptr 1 0),(3,.own 20 0),(4,.nil)],[(1,some (.box (aD a0.cells))),(20,some (.rows 0 3 1 (cM cI z)))]⟩) (fun (z:Unit)=>k .ret ⟨[(2,.d (.bool false))],[]⟩) r):=by
 have hh:=fun (w:Int × (List Int))=>GC a0 w.1 w.2
 have h:=fun ho=>dS (T:=TT) (k:=k) (c:=pW) (step:=(fun (w:Int × (List Int))=>iZ a0 w.1 w.2)) _ _ ho hh (p1,p2)
 refine Eq.trans (h (fun r s e=>by have q:=congrArg Prod.fst e; rcases r with x | x <;> cases q)) ?_
 unfold sD
 exact cZ _ fun x=>by rcases x with x | x <;> rfl
theorem FY (a0:b4) (z7:(List Int)) (p9:Int) (p10:List Int):eL TT pV ⟨[(3,.own 20 0),(4,.own 37 0),(27,.d (.sl (cM dL.cells a0.Rules))),(28,.d (.int .i64 (a0.Rules.length:Int))),(29,.d (.int .i64 p9))],[(20,some (.rows 0 3 1 (cM cI z7))),(37,some (.rows 0 3 1 (cM cI p10)))]⟩ (fun e s=>some (e,s)) = eZ (fun (w:Int × (List Int))=>(⟨[(3,.own 20 0),(4,.own 37 0),(27,.d (.sl (cM dL.cells a0.Rules))),(28,.d (.int .i64 (a0.Rules.length:Int))),(29,.d (.int .i64 w.1))],[(20,some (.rows 0 3 1 (cM cI z7))),(37,some (.rows 0 3 1 (cM cI w.2)))]⟩ : St)) (fun (r:(List Int))=>(((.exit 2),⟨[(3,.own 20 0),(4,.own 37 0)],[(20,some (.rows 0 3 1 (cM cI z7))),(37,some (.rows 0 3 1 (cM cI r)))]⟩):Ex × St)) (jI a0 z7 p9 p10):=by
 simp -implicitDefEqProofs (decide:=true) (maxSteps:=2000000) only [pV,jI,↓yO,↓iB,↓o6,↓DN,↓DR,DQ,DP,↓reduceIte,Int.reduceToNat,Nat.reduceBEq,Nat.reduceAdd,Nat.reduceLT,Nat.reduceLeDiff,Nat.reduceEqDiff,Int.reduceEq,ne_eq,zN,reduceCtorEq,dA,dF,dE,zM,zA,zB,aI,zC,zD,if_true,if_false,zE,zF,aC,zG,aJ,zH,zI,zJ,zK,aX,aS,aV,aY,aW,aF,aK,aO,aG,aL,aE,aT,bW,Vm.bind_map,aP,aU,zL]
 all_goals try simp only [cN]
 all_goals try rfl
theorem FN {β:Type} (a0:b4) (z7:(List Int)) (p9:Int) (p10:List Int) (k:Ex->St->Option β):eL TT yA ⟨[(3,.own 20 0),(4,.own 37 0),(27,.d (.sl (cM dL.cells a0.Rules))),(28,.d (.int .i64 (a0.Rules.length:Int))),(29,.d (.int .i64 p9))],[(20,some (.rows 0 3 1 (cM cI z7))),(37,some (.rows 0 3 1 (cM cI p10)))]⟩ k = (sG a0 z7 p9 p10).bind (fun (r:(List Int))=>k (.exit 2) ⟨[(3,.own 20 0),(4,.own 37 0)],[(20,some (.rows 0 3 1 (cM cI z7))),(37,some (.rows 0 3 1 (cM cI r)))]⟩):=by
 have hh:=fun (w:Int × (List Int))=>FY a0 z7 w.1 w.2
 have h:=fun ho=>dS (T:=TT) (k:=k) (c:=pV) (step:=(fun (w:Int × (List Int))=>jI a0 z7 w.1 w.2)) _ _ ho hh (p9,p10)
 refine Eq.trans (h (fun r s e=>by have q:=congrArg Prod.fst e; rcases r with x <;> cases q)) ?_
 unfold sG
 exact cZ _ fun x=>by rcases x with x <;> rfl
theorem K6 (a0:b4):Vm.call TT 36 [.agg a0.cells] = (qP a0).map fun (r:Bool)=>.bool r:=by
 refine (dQ (show TT 36 = some (.code ⟨1,45,[.tmp 2],aD5,false,false⟩) from rfl) _ rfl rfl).trans ?_
 show eL TT aD5 ⟨[(0,iS a0.cells)],[]⟩ _ = _
 simp -implicitDefEqProofs (decide:=true) (maxSteps:=2000000) only [aD5,qP,↓yO,↓FN,↓iB,↓o6,↓DN,↓DR,DQ,DP,↓reduceIte,Int.reduceToNat,Nat.reduceBEq,Nat.reduceAdd,Nat.reduceLT,Nat.reduceLeDiff,Nat.reduceEqDiff,Int.reduceEq,ne_eq,zN,reduceCtorEq,dA,dF,dE,zM,zA,zB,aI,zC,zD,if_true,if_false,zE,zF,aC,zG,aJ,zH,zI,zJ,zK,aX,aS,aV,aY,aW,aF,aK,aO,aG,aL,aE,aT,bW,Vm.bind_map,aP,aU,zL]
 all_goals try simp only [cN]
 all_goals try rfl
theorem J8 {β:Type} (a0:b4) (d:Nat) (bl fz:List (Nat × Option aR)) (k:V->Option β) (kw:V->List (Nat × Option aR)->Option β):eK TT d bl 36 [.agg a0.cells] fz k kw = (qP a0).bind fun (r:Bool)=>k (.d (.bool r)):=by
 have h:=K6 a0
 exact cU h (fun _=>rfl) fz
theorem D7 (a0:Int) (a1:aB):Vm.call TT 35 [.int .i64 a0,.ptr a1.cells 0] = (kE a0 a1).map fun (r:Bool)=>.bool r:=by
 refine (dQ (show TT 35 = some (.code ⟨2,10,[.tmp 3],aEc,false,false⟩) from rfl) _ rfl rfl).trans ?_
 show eL TT aEc ⟨[(0,.d (.int .i64 a0)),(1,.d (.ptr a1.cells 0))],[]⟩ _ = _
 simp -implicitDefEqProofs (decide:=true) (maxSteps:=2000000) only [aEc,kE,↓J8,↓DN,↓DR,DQ,DP,↓reduceIte,Int.reduceToNat,Nat.reduceBEq,Nat.reduceAdd,Nat.reduceLT,Nat.reduceLeDiff,Nat.reduceEqDiff,Int.reduceEq,ne_eq,zN,reduceCtorEq,dA,dF,dE,zM,zA,zB,aI,zC,zD,if_true,if_false,zE,zF,aC,zG,aJ,zH,zI,zJ,zK,aX,aS,aV,aY,aW,aF,aK,aO,aG,aL,aE,aT,bW,Vm.bind_map,aP,aU,zL]
 all_goals try simp only [cN]
 all_goals try rfl
theorem vQ {β:Type} (a0:Int) (a1:aB) (d:Nat) (bl fz:List (Nat × Option aR)) (k:V->Option β) (kw:V->List (Nat × Option aR)->Option β):eK TT d bl 35 [.int .i64 a0,.ptr a1.cells 0] fz k kw = (kE a0 a1).bind fun (r:Bool)=>k (.d (.bool r)):=by
 have h:=D7 a0 a1
 exact cU h (fun _=>rfl) fz
theorem DT (a0:List ByteArray) (a2:aB) (p1:Int):eL TT e9 ⟨[(0,.d (.sl (cM cS a0))),(2,.d (.fn 35 [.ptr a2.cells 0])),(14,.d (.int .i64 (a0.length:Int))),(15,.d (.int .i64 p1))],[]⟩ (fun e s=>some (e,s)) = eZ (fun (w:Int)=>(⟨[(0,.d (.sl (cM cS a0))),(2,.d (.fn 35 [.ptr a2.cells 0])),(14,.d (.int .i64 (a0.length:Int))),(15,.d (.int .i64 w))],[]⟩ : St)) (fun (r:Unit ⊕ Int)=>Sum.elim (fun (z:Unit)=>(((.exit 0),⟨[],[]⟩):Ex × St)) (fun (z:Int)=>((.ret,⟨[(6,.d (.int .i64 z))],[]⟩):Ex × St)) r) (k7 a0 a2 p1):=by
 simp -implicitDefEqProofs (decide:=true) (maxSteps:=2000000) only [e9,k7,↓vQ,↓j8,↓DN,↓DR,DQ,DP,↓reduceIte,Int.reduceToNat,Nat.reduceBEq,Nat.reduceAdd,Nat.reduceLT,Nat.reduceLeDiff,Nat.reduceEqDiff,Int.reduceEq,ne_eq,zN,reduceCtorEq,dA,dF,dE,zM,zA,zB,aI,zC,zD,if_true,if_false,zE,zF,aC,zG,aJ,zH,zI,zJ,zK,aX,aS,aV,aY,aW,aF,aK,aO,aG,aL,aE,aT,bW,Vm.bind_map,aP,aU,zL]
 all_goals try simp only [cN]
 all_goals try rfl
theorem DI {β:Type} (a0:List ByteArray) (a2:aB) (p1:Int) (k:Ex->St->Option β):eL TT nI ⟨[(0,.d (.sl (cM cS a0))),(2,.d (.fn 35 [.ptr a2.cells 0])),(14,.d (.int .i64 (a0.length:Int))),(15,.d (.int .i64 p1))],[]⟩ k = (tL a0 a2 p1).bind (fun (r:Unit ⊕ Int)=>Sum.elim (fun (z:Unit)=>k (.exit 0) ⟨[],[]⟩) (fun (z:Int)=>k .ret ⟨[(6,.d (.int .i64 z))],[]⟩) r):=by
 have hh:=fun (w:Int)=>DT a0 a2 w
 have h:=fun ho=>dS (T:=TT) (k:=k) (c:=e9) (step:=(fun (w:Int)=>k7 a0 a2 w)) _ _ ho hh p1
 refine Eq.trans (h (fun r s e=>by have q:=congrArg Prod.fst e; rcases r with x | x <;> cases q)) ?_
 unfold tL
 exact cZ _ fun x=>by rcases x with x | x <;> rfl
theorem HF (a0:List ByteArray) (a1:Int) (a2:aB):Vm.call TT 29 [.sl (cM cS a0),.int .i64 a1,.fn 35 [.ptr a2.cells 0]] = (nJ a0 a1 a2).map fun (r:Int)=>.int .i64 r:=by
 refine (dQ (show TT 29 = some (.code ⟨3,29,[.tmp 6],G2,false,false⟩) from rfl) _ rfl rfl).trans ?_
 show eL TT G2 ⟨[(0,.d (.sl (cM cS a0))),(1,.d (.int .i64 a1)),(2,.d (.fn 35 [.ptr a2.cells 0]))],[]⟩ _ = _
 simp -implicitDefEqProofs (decide:=true) (maxSteps:=2000000) only [G2,nJ,↓DI,↓vQ,↓j8,↓DN,↓DR,DQ,DP,↓reduceIte,Int.reduceToNat,Nat.reduceBEq,Nat.reduceAdd,Nat.reduceLT,Nat.reduceLeDiff,Nat.reduceEqDiff,Int.reduceEq,ne_eq,zN,reduceCtorEq,dA,dF,dE,zM,zA,zB,aI,zC,zD,if_true,if_false,zE,zF,aC,zG,aJ,zH,zI,zJ,zK,aX,aS,aV,aY,aW,aF,aK,aO,aG,aL,aE,aT,bW,Vm.bind_map,aP,aU,zL]
 all_goals try simp only [cN]
 all_goals try rfl
theorem z0 {β:Type} (a0:List ByteArray) (a1:Int) (a2:aB) (d:Nat) (bl fz:List (Nat × Option aR)) (k:V->Option β) (kw:V->List (Nat × Option aR)->Option β):eK TT d bl 29 [.sl (cM cS a0),.int .i64 a1,.fn 35 [.ptr a2.cells 0]] fz k kw = (nJ a0 a1 a2).bind fun (r:Int)=>k (.d (.int .i64 r)):=by
 have h:=HF a0 a1 a2
 exact cU h (fun _=>rfl) fz
theorem DU (a0:aB) (p1:Int) (x2:dB) (p5:Int):eL TT m4 ⟨[(1,.ptr 1 0),(4,.ptr 4 0),(12,.d (.sl (cM dB.cells a0.Usances))),(13,.d (.int .i64 (a0.Usances.length:Int))),(14,.d (.int .i64 p1)),(48,.d (.sl (cM dB.cells (pD a0.Usances 0 p1)))),(49,.d (.int .i64 ((pD a0.Usances 0 p1).length:Int))),(50,.d (.int .i64 p5))],[(1,some (.box (aD a0.cells))),(4,some (.box (aD x2.cells)))]⟩ (fun e s=>some (e,s)) = eZ (fun (w:Int)=>(⟨[(1,.ptr 1 0),(4,.ptr 4 0),(12,.d (.sl (cM dB.cells a0.Usances))),(13,.d (.int .i64 (a0.Usances.length:Int))),(14,.d (.int .i64 p1)),(48,.d (.sl (cM dB.cells (pD a0.Usances 0 p1)))),(49,.d (.int .i64 ((pD a0.Usances 0 p1).length:Int))),(50,.d (.int .i64 w))],[(1,some (.box (aD a0.cells))),(4,some (.box (aD x2.cells)))]⟩ : St)) (fun (r:Unit ⊕ Unit)=>Sum.elim (fun (z:Unit)=>(((.exit 2),⟨[(1,.ptr 1 0),(12,.d (.sl (cM dB.cells a0.Usances))),(13,.d (.int .i64 (a0.Usances.length:Int))),(14,.d (.int .i64 p1))],[(1,some (.box (aD a0.cells)))]⟩):Ex × St)) (fun (z:Unit)=>((.ret,⟨[(2,.d (.int .i64 5))],[]⟩):Ex × St)) r) (gZ a0 p1 x2 p5):=by
 simp -implicitDefEqProofs (decide:=true) (maxSteps:=2000000) only [m4,gZ,↓iB,↓DN,↓DR,DQ,DP,↓reduceIte,Int.reduceToNat,Nat.reduceBEq,Nat.reduceAdd,Nat.reduceLT,Nat.reduceLeDiff,Nat.reduceEqDiff,Int.reduceEq,ne_eq,zN,reduceCtorEq,dA,dF,dE,zM,zA,zB,aI,zC,zD,if_true,if_false,zE,zF,aC,zG,aJ,zH,zI,zJ,zK,aX,aS,aV,aY,aW,aF,aK,aO,aG,aL,aE,aT,bW,Vm.bind_map,aP,aU,zL]
 all_goals try simp only [cN]
 all_goals try rfl
theorem vV {β:Type} (a0:aB) (p1:Int) (x2:dB) (p5:Int) (k:Ex->St->Option β):eL TT vW ⟨[(1,.ptr 1 0),(4,.ptr 4 0),(12,.d (.sl (cM dB.cells a0.Usances))),(13,.d (.int .i64 (a0.Usances.length:Int))),(14,.d (.int .i64 p1)),(48,.d (.sl (cM dB.cells (pD a0.Usances 0 p1)))),(49,.d (.int .i64 ((pD a0.Usances 0 p1).length:Int))),(50,.d (.int .i64 p5))],[(1,some (.box (aD a0.cells))),(4,some (.box (aD x2.cells)))]⟩ k = (qB a0 p1 x2 p5).bind (fun (r:Unit ⊕ Unit)=>Sum.elim (fun (z:Unit)=>k (.exit 2) ⟨[(1,.ptr 1 0),(12,.d (.sl (cM dB.cells a0.Usances))),(13,.d (.int .i64 (a0.Usances.length:Int))),(14,.d (.int .i64 p1))],[(1,some (.box (aD a0.cells)))]⟩) (fun (z:Unit)=>k .ret ⟨[(2,.d (.int .i64 5))],[]⟩) r):=by
 have hh:=fun (w:Int)=>DU a0 p1 x2 w
 have h:=fun ho=>dS (T:=TT) (k:=k) (c:=m4) (step:=(fun (w:Int)=>gZ a0 p1 x2 w)) _ _ ho hh p5
 refine Eq.trans (h (fun r s e=>by have q:=congrArg Prod.fst e; rcases r with x | x <;> cases q)) ?_
 unfold qB
 exact cZ _ fun x=>by rcases x with x | x <;> rfl
theorem D1 (a0:aB) (p1:Int):eL TT m7 ⟨[(1,.ptr 1 0),(12,.d (.sl (cM dB.cells a0.Usances))),(13,.d (.int .i64 (a0.Usances.length:Int))),(14,.d (.int .i64 p1))],[(1,some (.box (aD a0.cells)))]⟩ (fun e s=>some (e,s)) = eZ (fun (w:Int)=>(⟨[(1,.ptr 1 0),(12,.d (.sl (cM dB.cells a0.Usances))),(13,.d (.int .i64 (a0.Usances.length:Int))),(14,.d (.int .i64 w))],[(1,some (.box (aD a0.cells)))]⟩ : St)) (fun (r:Unit ⊕ Int)=>Sum.elim (fun (z:Unit)=>(((.exit 0),⟨[],[]⟩):Ex × St)) (fun (z:Int)=>((.ret,⟨[(2,.d (.int .i64 z))],[]⟩):Ex × St)) r) (gY a0 p1):=by
 simp -implicitDefEqProofs (decide:=true) (maxSteps:=2000000) only [m7,gY,↓vV,↓iB,↓DN,↓DR,DQ,DP,↓reduceIte,Int.reduceToNat,Nat.reduceBEq,Nat.reduceAdd,Nat.reduceLT,Nat.reduceLeDiff,Nat.reduceEqDiff,Int.reduceEq,ne_eq,zN,reduceCtorEq,dA,dF,dE,zM,zA,zB,aI,zC,zD,if_true,if_false,zE,zF,aC,zG,aJ,zH,zI,zJ,zK,aX,aS,aV,aY,aW,aF,aK,aO,aG,aL,aE,aT,bW,Vm.bind_map,aP,aU,zL]
 all_goals try simp only [cN]
 all_goals try rfl
theorem D8 {β:Type} (a0:aB) (p1:Int) (k:Ex->St->Option β):eL TT vX ⟨[(1,.ptr 1 0),(12,.d (.sl (cM dB.cells a0.Usances))),(13,.d (.int .i64 (a0.Usances.length:Int))),(14,.d (.int .i64 p1))],[(1,some (.box (aD a0.cells)))]⟩ k = (pS a0 p1).bind (fun (r:Unit ⊕ Int)=>Sum.elim (fun (z:Unit)=>k (.exit 0) ⟨[],[]⟩) (fun (z:Int)=>k .ret ⟨[(2,.d (.int .i64 z))],[]⟩) r):=by
 have hh:=fun (w:Int)=>D1 a0 w
 have h:=fun ho=>dS (T:=TT) (k:=k) (c:=m7) (step:=(fun (w:Int)=>gY a0 w)) _ _ ho hh p1
 refine Eq.trans (h (fun r s e=>by have q:=congrArg Prod.fst e; rcases r with x | x <;> cases q)) ?_
 unfold pS
 exact cZ _ fun x=>by rcases x with x | x <;> rfl
theorem G5 (a0:aB):Vm.call TT 37 [.agg a0.cells] = (nO a0).map fun (r:Int)=>.int .i64 r:=by
 refine (dQ (show TT 37 = some (.code ⟨1,68,[.tmp 2],aEW,false,false⟩) from rfl) _ rfl rfl).trans ?_
 show eL TT aEW ⟨[(0,iS a0.cells)],[]⟩ _ = _
 simp -implicitDefEqProofs (decide:=true) (maxSteps:=2000000) only [aEW,nO,↓vV,↓D8,↓iB,↓DN,↓DR,DQ,DP,↓reduceIte,Int.reduceToNat,Nat.reduceBEq,Nat.reduceAdd,Nat.reduceLT,Nat.reduceLeDiff,Nat.reduceEqDiff,Int.reduceEq,ne_eq,zN,reduceCtorEq,dA,dF,dE,zM,zA,zB,aI,zC,zD,if_true,if_false,zE,zF,aC,zG,aJ,zH,zI,zJ,zK,aX,aS,aV,aY,aW,aF,aK,aO,aG,aL,aE,aT,bW,Vm.bind_map,aP,aU,zL]
 all_goals try simp only [cN]
 all_goals try rfl
theorem AC {β:Type} (a0:aB) (d:Nat) (bl fz:List (Nat × Option aR)) (k:V->Option β) (kw:V->List (Nat × Option aR)->Option β):eK TT d bl 37 [.agg a0.cells] fz k kw = (nO a0).bind fun (r:Int)=>k (.d (.int .i64 r)):=by
 have h:=G5 a0
 exact cU h (fun _=>rfl) fz
theorem HA (a0:aB) (p1:Int):eL TT qV ⟨[(1,.ptr 1 0),(12,.d (.sl (cM eN.cells a0.Rates))),(13,.d (.int .i64 (a0.Rates.length:Int))),(14,.d (.int .i64 p1))],[(1,some (.box (aD a0.cells)))]⟩ (fun e s=>some (e,s)) = eZ (fun (w:Int)=>(⟨[(1,.ptr 1 0),(12,.d (.sl (cM eN.cells a0.Rates))),(13,.d (.int .i64 (a0.Rates.length:Int))),(14,.d (.int .i64 w))],[(1,some (.box (aD a0.cells)))]⟩ : St)) (fun (r:Unit ⊕ Unit)=>Sum.elim (fun (z:Unit)=>(((.exit 0),⟨[(1,.ptr 1 0)],[(1,some (.box (aD a0.cells)))]⟩):Ex × St)) (fun (z:Unit)=>((.ret,⟨[(2,.d (.int .i64 1))],[]⟩):Ex × St)) r) (jW a0 p1):=by
 simp -implicitDefEqProofs (decide:=true) (maxSteps:=2000000) only [qV,jW,↓iB,↓DN,↓DR,DQ,DP,↓reduceIte,Int.reduceToNat,Nat.reduceBEq,Nat.reduceAdd,Nat.reduceLT,Nat.reduceLeDiff,Nat.reduceEqDiff,Int.reduceEq,ne_eq,zN,reduceCtorEq,dA,dF,dE,zM,zA,zB,aI,zC,zD,if_true,if_false,zE,zF,aC,zG,aJ,zH,zI,zJ,zK,aX,aS,aV,aY,aW,aF,aK,aO,aG,aL,aE,aT,bW,Vm.bind_map,aP,aU,zL]
 all_goals try simp only [cN]
 all_goals try rfl
theorem AS {β:Type} (a0:aB) (p1:Int) (k:Ex->St->Option β):eL TT zV ⟨[(1,.ptr 1 0),(12,.d (.sl (cM eN.cells a0.Rates))),(13,.d (.int .i64 (a0.Rates.length:Int))),(14,.d (.int .i64 p1))],[(1,some (.box (aD a0.cells)))]⟩ k = (tE a0 p1).bind (fun (r:Unit ⊕ Unit)=>Sum.elim (fun (z:Unit)=>k (.exit 0) ⟨[(1,.ptr 1 0)],[(1,some (.box (aD a0.cells)))]⟩) (fun (z:Unit)=>k .ret ⟨[(2,.d (.int .i64 1))],[]⟩) r):=by
 have hh:=fun (w:Int)=>HA a0 w
 have h:=fun ho=>dS (T:=TT) (k:=k) (c:=qV) (step:=(fun (w:Int)=>jW a0 w)) _ _ ho hh p1
 refine Eq.trans (h (fun r s e=>by have q:=congrArg Prod.fst e; rcases r with x | x <;> cases q)) ?_
 unfold tE
 exact cZ _ fun x=>by rcases x with x | x <;> rfl
theorem G6 (a0:aB) (p11:Int):eL TT qX ⟨[(1,.ptr 1 0),(67,.d (.sl (cM eY.cells a0.Halts))),(68,.d (.int .i64 (a0.Halts.length:Int))),(69,.d (.int .i64 p11))],[(1,some (.box (aD a0.cells)))]⟩ (fun e s=>some (e,s)) = eZ (fun (w:Int)=>(⟨[(1,.ptr 1 0),(67,.d (.sl (cM eY.cells a0.Halts))),(68,.d (.int .i64 (a0.Halts.length:Int))),(69,.d (.int .i64 w))],[(1,some (.box (aD a0.cells)))]⟩ : St)) (fun (r:Unit ⊕ Unit)=>Sum.elim (fun (z:Unit)=>(((.exit 2),⟨[],[]⟩):Ex × St)) (fun (z:Unit)=>((.ret,⟨[(2,.d (.int .i64 1))],[]⟩):Ex × St)) r) (jY a0 p11):=by
 simp -implicitDefEqProofs (decide:=true) (maxSteps:=2000000) only [qX,jY,↓AS,↓iB,↓DN,↓DR,DQ,DP,↓reduceIte,Int.reduceToNat,Nat.reduceBEq,Nat.reduceAdd,Nat.reduceLT,Nat.reduceLeDiff,Nat.reduceEqDiff,Int.reduceEq,ne_eq,zN,reduceCtorEq,dA,dF,dE,zM,zA,zB,aI,zC,zD,if_true,if_false,zE,zF,aC,zG,aJ,zH,zI,zJ,zK,aX,aS,aV,aY,aW,aF,aK,aO,aG,aL,aE,aT,bW,Vm.bind_map,aP,aU,zL]
 all_goals try simp only [cN]
 all_goals try rfl
theorem HV {β:Type} (a0:aB) (p11:Int) (k:Ex->St->Option β):eL TT zY ⟨[(1,.ptr 1 0),(67,.d (.sl (cM eY.cells a0.Halts))),(68,.d (.int .i64 (a0.Halts.length:Int))),(69,.d (.int .i64 p11))],[(1,some (.box (aD a0.cells)))]⟩ k = (tB a0 p11).bind (fun (r:Unit ⊕ Unit)=>Sum.elim (fun (z:Unit)=>k (.exit 2) ⟨[],[]⟩) (fun (z:Unit)=>k .ret ⟨[(2,.d (.int .i64 1))],[]⟩) r):=by
 have hh:=fun (w:Int)=>G6 a0 w
 have h:=fun ho=>dS (T:=TT) (k:=k) (c:=qX) (step:=(fun (w:Int)=>jY a0 w)) _ _ ho hh p11
 refine Eq.trans (h (fun r s e=>by have q:=congrArg Prod.fst e; rcases r with x | x <;> cases q)) ?_
 unfold tB
 exact cZ _ fun x=>by rcases x with x | x <;> rfl
theorem LS (a0:aB):Vm.call TT 38 [.agg a0.cells] = (sQ a0).map fun (r:Int)=>.int .i64 r:=by
 refine (dQ (show TT 38 = some (.code ⟨1,98,[.tmp 2],aFh,false,false⟩) from rfl) _ rfl rfl).trans ?_
 show eL TT aFh ⟨[(0,iS a0.cells)],[]⟩ _ = _
 simp -implicitDefEqProofs (decide:=true) (maxSteps:=2000000) only [aFh,sQ,↓AS,↓HV,↓iB,↓DN,↓DR,DQ,DP,↓reduceIte,Int.reduceToNat,Nat.reduceBEq,Nat.reduceAdd,Nat.reduceLT,Nat.reduceLeDiff,Nat.reduceEqDiff,Int.reduceEq,ne_eq,zN,reduceCtorEq,dA,dF,dE,zM,zA,zB,aI,zC,zD,if_true,if_false,zE,zF,aC,zG,aJ,zH,zI,zJ,zK,aX,aS,aV,aY,aW,aF,aK,aO,aG,aL,aE,aT,bW,Vm.bind_map,aP,aU,zL]
 all_goals try simp only [cN]
 all_goals try rfl
theorem D9 {β:Type} (a0:aB) (d:Nat) (bl fz:List (Nat × Option aR)) (k:V->Option β) (kw:V->List (Nat × Option aR)->Option β):eK TT d bl 38 [.agg a0.cells] fz k kw = (sQ a0).bind fun (r:Int)=>k (.d (.int .i64 r)):=by
 have h:=LS a0
 exact cU h (fun _=>rfl) fz
theorem GO (a0:aB) (r1:(List ByteArray) × (List ByteArray) × (List ByteArray)) (p4:Int):eL TT pP ⟨[(1,.d (.ptr a0.cells 0)),(4,.d (.sl (cM cS r1.2.1))),(5,.d (.sl (cM cS r1.2.2))),(36,.d (.sl (cM eH.cells a0.Groups))),(37,.d (.int .i64 (a0.Groups.length:Int))),(38,.d (.int .i64 p4))],[]⟩ (fun e s=>some (e,s)) = eZ (fun (w:Int)=>(⟨[(1,.d (.ptr a0.cells 0)),(4,.d (.sl (cM cS r1.2.1))),(5,.d (.sl (cM cS r1.2.2))),(36,.d (.sl (cM eH.cells a0.Groups))),(37,.d (.int .i64 (a0.Groups.length:Int))),(38,.d (.int .i64 w))],[]⟩ : St)) (fun (r:Unit ⊕ Unit)=>Sum.elim (fun (z:Unit)=>(((.exit 0),⟨[(1,.d (.ptr a0.cells 0)),(4,.d (.sl (cM cS r1.2.1))),(5,.d (.sl (cM cS r1.2.2)))],[]⟩):Ex × St)) (fun (z:Unit)=>((.ret,⟨[(2,.d (.int .i64 1))],[]⟩):Ex × St)) r) (jF a0 r1 p4):=by
 simp -implicitDefEqProofs (decide:=true) (maxSteps:=2000000) only [pP,jF,↓CW,↓AD,↓AB,↓AH,↓z0,↓iB,↓AC,↓D9,↓DN,↓DR,DQ,DP,↓reduceIte,Int.reduceToNat,Nat.reduceBEq,Nat.reduceAdd,Nat.reduceLT,Nat.reduceLeDiff,Nat.reduceEqDiff,Int.reduceEq,ne_eq,zN,reduceCtorEq,dA,dF,dE,zM,zA,zB,aI,zC,zD,if_true,if_false,zE,zF,aC,zG,aJ,zH,zI,zJ,zK,aX,aS,aV,aY,aW,aF,aK,aO,aG,aL,aE,aT,bW,Vm.bind_map,aP,aU,zL]
 all_goals try simp only [cN]
 all_goals try rfl
theorem F4 {β:Type} (a0:aB) (r1:(List ByteArray) × (List ByteArray) × (List ByteArray)) (p4:Int) (k:Ex->St->Option β):eL TT yI ⟨[(1,.d (.ptr a0.cells 0)),(4,.d (.sl (cM cS r1.2.1))),(5,.d (.sl (cM cS r1.2.2))),(36,.d (.sl (cM eH.cells a0.Groups))),(37,.d (.int .i64 (a0.Groups.length:Int))),(38,.d (.int .i64 p4))],[]⟩ k = (sC a0 r1 p4).bind (fun (r:Unit ⊕ Unit)=>Sum.elim (fun (z:Unit)=>k (.exit 0) ⟨[(1,.d (.ptr a0.cells 0)),(4,.d (.sl (cM cS r1.2.1))),(5,.d (.sl (cM cS r1.2.2)))],[]⟩) (fun (z:Unit)=>k .ret ⟨[(2,.d (.int .i64 1))],[]⟩) r):=by
 have hh:=fun (w:Int)=>GO a0 r1 w
 have h:=fun ho=>dS (T:=TT) (k:=k) (c:=pP) (step:=(fun (w:Int)=>jF a0 r1 w)) _ _ ho hh p4
 refine Eq.trans (h (fun r s e=>by have q:=congrArg Prod.fst e; rcases r with x | x <;> cases q)) ?_
 unfold sC
 exact cZ _ fun x=>by rcases x with x | x <;> rfl
theorem J4 (a0:aB):Vm.call TT 18 [.agg a0.cells] = (lG a0).map fun (r:Int)=>.int .i64 r:=by
 refine (dQ (show TT 18 = some (.code ⟨1,66,[.tmp 2],aEM,false,false⟩) from rfl) _ rfl rfl).trans ?_
 show eL TT aEM ⟨[(0,iS a0.cells)],[]⟩ _ = _
 simp -implicitDefEqProofs (decide:=true) (maxSteps:=2000000) only [aEM,lG,↓F4,↓CW,↓AD,↓AB,↓AH,↓z0,↓iB,↓AC,↓D9,↓DN,↓DR,DQ,DP,↓reduceIte,Int.reduceToNat,Nat.reduceBEq,Nat.reduceAdd,Nat.reduceLT,Nat.reduceLeDiff,Nat.reduceEqDiff,Int.reduceEq,ne_eq,zN,reduceCtorEq,dA,dF,dE,zM,zA,zB,aI,zC,zD,if_true,if_false,zE,zF,aC,zG,aJ,zH,zI,zJ,zK,aX,aS,aV,aY,aW,aF,aK,aO,aG,aL,aE,aT,bW,Vm.bind_map,aP,aU,zL]
 all_goals try simp only [cN]
 all_goals try rfl
theorem lM {β:Type} (a0:aB) (d:Nat) (bl fz:List (Nat × Option aR)) (k:V->Option β) (kw:V->List (Nat × Option aR)->Option β):eK TT d bl 18 [.agg a0.cells] fz k kw = (lG a0).bind fun (r:Int)=>k (.d (.int .i64 r)):=by
 have h:=J4 a0
 exact cU h (fun _=>rfl) fz
theorem E9 (a0:b4) (a1 p1:Int):eL TT oC ⟨[(1,.d (.int .i64 a1)),(9,.d (.sl (cM cW.cells a0.Choices))),(10,.d (.int .i64 (a0.Choices.length:Int))),(11,.d (.int .i64 p1))],[]⟩ (fun e s=>some (e,s)) = eZ (fun (w:Int)=>(⟨[(1,.d (.int .i64 a1)),(9,.d (.sl (cM cW.cells a0.Choices))),(10,.d (.int .i64 (a0.Choices.length:Int))),(11,.d (.int .i64 w))],[]⟩ : St)) (fun (r:Unit ⊕ (Int × Bool))=>Sum.elim (fun (z:Unit)=>(((.exit 0),⟨[],[]⟩):Ex × St)) (fun (z:Int × Bool)=>((.ret,⟨[(4,.d (.int .i64 z.1)),(5,.d (.bool z.2))],[]⟩):Ex × St)) r) (iI a0 a1 p1):=by
 simp -implicitDefEqProofs (decide:=true) (maxSteps:=2000000) only [oC,iI,↓DN,↓DR,DQ,DP,↓reduceIte,Int.reduceToNat,Nat.reduceBEq,Nat.reduceAdd,Nat.reduceLT,Nat.reduceLeDiff,Nat.reduceEqDiff,Int.reduceEq,ne_eq,zN,reduceCtorEq,dA,dF,dE,zM,zA,zB,aI,zC,zD,if_true,if_false,zE,zF,aC,zG,aJ,zH,zI,zJ,zK,aX,aS,aV,aY,aW,aF,aK,aO,aG,aL,aE,aT,bW,Vm.bind_map,aP,aU,zL]
 all_goals try simp only [cN]
 all_goals try rfl
theorem EQ {β:Type} (a0:b4) (a1 p1:Int) (k:Ex->St->Option β):eL TT xD ⟨[(1,.d (.int .i64 a1)),(9,.d (.sl (cM cW.cells a0.Choices))),(10,.d (.int .i64 (a0.Choices.length:Int))),(11,.d (.int .i64 p1))],[]⟩ k = (qN a0 a1 p1).bind (fun (r:Unit ⊕ (Int × Bool))=>Sum.elim (fun (z:Unit)=>k (.exit 0) ⟨[],[]⟩) (fun (z:Int × Bool)=>k .ret ⟨[(4,.d (.int .i64 z.1)),(5,.d (.bool z.2))],[]⟩) r):=by
 have hh:=fun (w:Int)=>E9 a0 a1 w
 have h:=fun ho=>dS (T:=TT) (k:=k) (c:=oC) (step:=(fun (w:Int)=>iI a0 a1 w)) _ _ ho hh p1
 refine Eq.trans (h (fun r s e=>by have q:=congrArg Prod.fst e; rcases r with x | x <;> cases q)) ?_
 unfold qN
 exact cZ _ fun x=>by rcases x with x | x <;> rfl
theorem I0 (a0:b4) (a1:Int):Vm.call TT 43 [.agg a0.cells,.int .i64 a1] = (lI a0 a1).map fun (r:Int × Bool)=>.tup [.int .i64 r.1,.bool r.2]:=by
 refine (dQ (show TT 43 = some (.code ⟨2,29,[.tmp 4,.tmp 5],aEz,false,false⟩) from rfl) _ rfl rfl).trans ?_
 show eL TT aEz ⟨[(0,iS a0.cells),(1,.d (.int .i64 a1))],[]⟩ _ = _
 simp -implicitDefEqProofs (decide:=true) (maxSteps:=2000000) only [aEz,lI,↓EQ,↓DN,↓DR,DQ,DP,↓reduceIte,Int.reduceToNat,Nat.reduceBEq,Nat.reduceAdd,Nat.reduceLT,Nat.reduceLeDiff,Nat.reduceEqDiff,Int.reduceEq,ne_eq,zN,reduceCtorEq,dA,dF,dE,zM,zA,zB,aI,zC,zD,if_true,if_false,zE,zF,aC,zG,aJ,zH,zI,zJ,zK,aX,aS,aV,aY,aW,aF,aK,aO,aG,aL,aE,aT,bW,Vm.bind_map,aP,aU,zL]
 all_goals try simp only [cN]
 all_goals try rfl
theorem cJ {β:Type} (a0:b4) (a1:Int) (d:Nat) (bl fz:List (Nat × Option aR)) (k:V->Option β) (kw:V->List (Nat × Option aR)->Option β):eK TT d bl 43 [.agg a0.cells,.int .i64 a1] fz k kw = (lI a0 a1).bind fun (r:Int × Bool)=>k (.tup [.d (.int .i64 r.1),.d (.bool r.2)]):=by
 have h:=I0 a0 a1
 exact cU h (fun _=>rfl) fz
theorem dG (a0:List Int):Vm.call TT 40 [.sl (cM cI a0)] = (aQ a0).map fun (r:(List Int))=>.own (.ref 0) [(3,1)] [cM cI r]:=by
 refine (XR (show TT 40 = some (.told o40) from rfl) _ rfl).trans ?_
 have h1:sized 1 (cM cI a0) = true:=i6 _ _ (fun x=>by rfl) a0
 have h2:FT (cM cI a0) = true:=aAF _ _ (fun x=>rfl)
 have h3:(cM cI a0).length = a0.length:=List.length_map ..
 simp only [o40,NG,h1,h2,h3,true_and,aQ]
 split <;> rfl
end Go.Proofs.Ytjjcaapdaldedaa
