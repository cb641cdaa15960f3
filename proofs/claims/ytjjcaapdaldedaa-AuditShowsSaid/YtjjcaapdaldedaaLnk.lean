/- The functions of the small machine compute the plain definitions. Printed by a program. -/
import Derived.Test.YtjjcaapdaldedaaLnk4
set_option linter.unusedVariables false
set_option linter.unusedSimpArgs false
namespace Go.Proofs.Ytjjcaapdaldedaa
open Vm
open Go.RowKit
set_option maxRecDepth 100000
set_option maxHeartbeats 4000000
attribute [local congr] u9 xI vD wQ
theorem yU {β:Type} (r1:aB) (x3:aA) (d:Nat) (bl fz:List (Nat × Option aR)) (k:V->Option β) (kw:V->List (Nat × Option aR)->Option β):eK TT d bl 11 [.agg r1.cells,.agg [.int .i64 x3.Kind,.int .i64 x3.Forum,.int .i64 x3.Ask,.sl (cM cI [0,1,1,1,1]),.sl (cM cI x3.Path)]] fz k kw = (fR r1 (aA.mk x3.Kind x3.Forum x3.Ask [0,1,1,1,1] x3.Path)).bind fun (r:Bool)=>k (.d (.bool r)):=by
 have h:=qJ r1 (aA.mk x3.Kind x3.Forum x3.Ask [0,1,1,1,1] x3.Path)
 exact cU h (fun _=>rfl) fz
theorem zU {β:Type} (r1:aB) (x4:aA) (d:Nat) (bl fz:List (Nat × Option aR)) (k:V->Option β) (kw:V->List (Nat × Option aR)->Option β):eK TT d bl 11 [.agg r1.cells,.agg [.int .i64 1,.int .i64 x4.Forum,.int .i64 x4.Ask,.sl (cM cI x4.Places),.sl (cM cI x4.Path)]] fz k kw = (fR r1 (aA.mk 1 x4.Forum x4.Ask x4.Places x4.Path)).bind fun (r:Bool)=>k (.d (.bool r)):=by
 have h:=qJ r1 (aA.mk 1 x4.Forum x4.Ask x4.Places x4.Path)
 exact cU h (fun _=>rfl) fz
theorem yV {β:Type} (d:Nat) (bl fz:List (Nat × Option aR)) (k:V->Option β) (kw:V->List (Nat × Option aR)->Option β):eK TT d bl 13 [.agg [.sl [],.sl [],.sl [],.sl [],.sl [],.sl [],.sl [],.sl []]] fz k kw = (lH (aB.mk [] [] [] [] [] [] [] [])).bind fun (r:Bool)=>k (.d (.bool r)):=by
 have h:=CX (aB.mk [] [] [] [] [] [] [] [])
 exact cU h (fun _=>rfl) fz
theorem tZ:Vm.call TT 6 [] = (hJ).map fun (r:Bool)=>.bool r:=by
 refine (dQ (show TT 6 = some (.code ⟨0,81,[.tmp 0],bd6,false,false⟩) from rfl) _ rfl rfl).trans ?_
 show eL TT bd6 ⟨[],[]⟩ _ = _
 simp -implicitDefEqProofs (decide:=true) (maxSteps:=2000000) only [bd6,hJ,↓tV,↓AF,↓wP,↓xB,↓AZ,↓yU,↓zU,↓yV,↓DN,↓DR,DQ,DP,↓reduceIte,Int.reduceToNat,Nat.reduceBEq,Nat.reduceAdd,Nat.reduceLT,Nat.reduceLeDiff,Nat.reduceEqDiff,Int.reduceEq,ne_eq,zN,reduceCtorEq,dA,dF,dE,zM,zA,zB,aI,zC,zD,if_true,if_false,zE,zF,aC,zG,aJ,zH,zI,zJ,zK,aX,aS,aV,aY,aW,aF,aK,aO,aG,aL,aE,aT,bW,Vm.bind_map,aP,aU,zL]
 all_goals try simp only [cN]
 all_goals try rfl
theorem t8 {β:Type} (d:Nat) (bl fz:List (Nat × Option aR)) (k:V->Option β) (kw:V->List (Nat × Option aR)->Option β):eK TT d bl 6 [] fz k kw = (hJ).bind fun (r:Bool)=>k (.d (.bool r)):=by
 have h:=tZ
 exact cU h (fun _=>rfl) fz
theorem BE (a0:aB) (p1:Int):eL TT lC ⟨[(1,.ptr 1 0),(3,.d (.int .i64 p1))],[(1,some (.box (aD a0.cells)))]⟩ (fun e s=>some (e,s)) = eZ (fun (w:Int)=>(⟨[(1,.ptr 1 0),(3,.d (.int .i64 w))],[(1,some (.box (aD a0.cells)))]⟩ : St)) (fun (r:Unit ⊕ Unit)=>Sum.elim (fun (z:Unit)=>(((.exit 0),⟨[(1,.ptr 1 0)],[(1,some (.box (aD a0.cells)))]⟩):Ex × St)) (fun (z:Unit)=>((.ret,⟨[(2,.d (.bool false))],[]⟩):Ex × St)) r) (f9 a0 p1):=by
 simp -implicitDefEqProofs (decide:=true) (maxSteps:=2000000) only [lC,f9,↓DN,↓DR,DQ,DP,↓reduceIte,Int.reduceToNat,Nat.reduceBEq,Nat.reduceAdd,Nat.reduceLT,Nat.reduceLeDiff,Nat.reduceEqDiff,Int.reduceEq,ne_eq,zN,reduceCtorEq,dA,dF,dE,zM,zA,zB,aI,zC,zD,if_true,if_false,zE,zF,aC,zG,aJ,zH,zI,zJ,zK,aX,aS,aV,aY,aW,aF,aK,aO,aG,aL,aE,aT,bW,Vm.bind_map,aP,aU,zL]
 all_goals try simp only [cN]
 all_goals try rfl
theorem s8 {β:Type} (a0:aB) (p1:Int) (k:Ex->St->Option β):eL TT tS ⟨[(1,.ptr 1 0),(3,.d (.int .i64 p1))],[(1,some (.box (aD a0.cells)))]⟩ k = (mU a0 p1).bind (fun (r:Unit ⊕ Unit)=>Sum.elim (fun (z:Unit)=>k (.exit 0) ⟨[(1,.ptr 1 0)],[(1,some (.box (aD a0.cells)))]⟩) (fun (z:Unit)=>k .ret ⟨[(2,.d (.bool false))],[]⟩) r):=by
 have hh:=fun (w:Int)=>BE a0 w
 have h:=fun ho=>dS (T:=TT) (k:=k) (c:=lC) (step:=(fun (w:Int)=>f9 a0 w)) _ _ ho hh p1
 refine Eq.trans (h (fun r s e=>by have q:=congrArg Prod.fst e; rcases r with x | x <;> cases q)) ?_
 unfold mU
 exact cZ _ fun x=>by rcases x with x | x <;> rfl
theorem A8 (a0:aB) (p8:Int):eL TT lE ⟨[(1,.ptr 1 0),(4,.d (.int .i64 p8))],[(1,some (.box (aD a0.cells)))]⟩ (fun e s=>some (e,s)) = eZ (fun (w:Int)=>(⟨[(1,.ptr 1 0),(4,.d (.int .i64 w))],[(1,some (.box (aD a0.cells)))]⟩ : St)) (fun (r:Unit ⊕ Unit)=>Sum.elim (fun (z:Unit)=>(((.exit 2),⟨[(1,.ptr 1 0)],[(1,some (.box (aD a0.cells)))]⟩):Ex × St)) (fun (z:Unit)=>((.ret,⟨[(2,.d (.bool false))],[]⟩):Ex × St)) r) (fY a0 p8):=by
 simp -implicitDefEqProofs (decide:=true) (maxSteps:=2000000) only [lE,fY,↓s8,↓DN,↓DR,DQ,DP,↓reduceIte,Int.reduceToNat,Nat.reduceBEq,Nat.reduceAdd,Nat.reduceLT,Nat.reduceLeDiff,Nat.reduceEqDiff,Int.reduceEq,ne_eq,zN,reduceCtorEq,dA,dF,dE,zM,zA,zB,aI,zC,zD,if_true,if_false,zE,zF,aC,zG,aJ,zH,zI,zJ,zK,aX,aS,aV,aY,aW,aF,aK,aO,aG,aL,aE,aT,bW,Vm.bind_map,aP,aU,zL]
 all_goals try simp only [cN]
 all_goals try rfl
theorem BI {β:Type} (a0:aB) (p8:Int) (k:Ex->St->Option β):eL TT s9 ⟨[(1,.ptr 1 0),(4,.d (.int .i64 p8))],[(1,some (.box (aD a0.cells)))]⟩ k = (mJ a0 p8).bind (fun (r:Unit ⊕ Unit)=>Sum.elim (fun (z:Unit)=>k (.exit 2) ⟨[(1,.ptr 1 0)],[(1,some (.box (aD a0.cells)))]⟩) (fun (z:Unit)=>k .ret ⟨[(2,.d (.bool false))],[]⟩) r):=by
 have hh:=fun (w:Int)=>A8 a0 w
 have h:=fun ho=>dS (T:=TT) (k:=k) (c:=lE) (step:=(fun (w:Int)=>fY a0 w)) _ _ ho hh p8
 refine Eq.trans (h (fun r s e=>by have q:=congrArg Prod.fst e; rcases r with x | x <;> cases q)) ?_
 unfold mJ
 exact cZ _ fun x=>by rcases x with x | x <;> rfl
theorem DY (a0:aB):Vm.call TT 17 [.agg a0.cells] = (kD a0).map fun (r:Bool)=>.bool r:=by
 refine (dQ (show TT 17 = some (.code ⟨1,119,[.tmp 2],aFa,false,false⟩) from rfl) _ rfl rfl).trans ?_
 show eL TT aFa ⟨[(0,iS a0.cells)],[]⟩ _ = _
 simp -implicitDefEqProofs (decide:=true) (maxSteps:=2000000) only [aFa,kD,↓s8,↓BI,↓DN,↓DR,DQ,DP,↓reduceIte,Int.reduceToNat,Nat.reduceBEq,Nat.reduceAdd,Nat.reduceLT,Nat.reduceLeDiff,Nat.reduceEqDiff,Int.reduceEq,ne_eq,zN,reduceCtorEq,dA,dF,dE,zM,zA,zB,aI,zC,zD,if_true,if_false,zE,zF,aC,zG,aJ,zH,zI,zJ,zK,aX,aS,aV,aY,aW,aF,aK,aO,aG,aL,aE,aT,bW,Vm.bind_map,aP,aU,zL]
 all_goals try simp only [cN]
 all_goals try rfl
theorem DH {β:Type} (a0:aB) (d:Nat) (bl fz:List (Nat × Option aR)) (k:V->Option β) (kw:V->List (Nat × Option aR)->Option β):eK TT d bl 17 [.agg a0.cells] fz k kw = (kD a0).bind fun (r:Bool)=>k (.d (.bool r)):=by
 have h:=DY a0
 exact cU h (fun _=>rfl) fz
theorem DE (a0:aB):Vm.call TT 7 [.agg a0.cells] = (kM a0).map fun (r:Bool)=>.bool r:=by
 refine (dQ (show TT 7 = some (.code ⟨1,11,[.tmp 2],bd7,false,false⟩) from rfl) _ rfl rfl).trans ?_
 show eL TT bd7 ⟨[(0,iS a0.cells)],[]⟩ _ = _
 simp -implicitDefEqProofs (decide:=true) (maxSteps:=2000000) only [bd7,kM,↓DH,↓DN,↓DR,DQ,DP,↓reduceIte,Int.reduceToNat,Nat.reduceBEq,Nat.reduceAdd,Nat.reduceLT,Nat.reduceLeDiff,Nat.reduceEqDiff,Int.reduceEq,ne_eq,zN,reduceCtorEq,dA,dF,dE,zM,zA,zB,aI,zC,zD,if_true,if_false,zE,zF,aC,zG,aJ,zH,zI,zJ,zK,aX,aS,aV,aY,aW,aF,aK,aO,aG,aL,aE,aT,bW,Vm.bind_map,aP,aU,zL]
 all_goals try simp only [cN]
 all_goals try rfl
theorem vR {β:Type} (a0:aB) (d:Nat) (bl fz:List (Nat × Option aR)) (k:V->Option β) (kw:V->List (Nat × Option aR)->Option β):eK TT d bl 7 [.agg a0.cells] fz k kw = (kM a0).bind fun (r:Bool)=>k (.d (.bool r)):=by
 have h:=DE a0
 exact cU h (fun _=>rfl) fz
theorem n6 {β:Type} (a0:aB) (x12:aA) (d:Nat) (bl fz:List (Nat × Option aR)) (k:V->Option β) (kw:V->List (Nat × Option aR)->Option β):eK TT d bl 11 [.agg a0.cells,.agg [.int .i64 x12.Kind,.int .i64 x12.Forum,.int .i64 x12.Ask,.sl (cM cI x12.Places),.sl (cM cI ((([]:List Int) ++ x12.Path) ++ [0]))]] fz k kw = (fR a0 (aA.mk x12.Kind x12.Forum x12.Ask x12.Places ((([]:List Int) ++ x12.Path) ++ [0]))).bind fun (r:Bool)=>k (.d (.bool r)):=by
 have h:=qJ a0 (aA.mk x12.Kind x12.Forum x12.Ask x12.Places ((([]:List Int) ++ x12.Path) ++ [0]))
 exact cU h (fun _=>rfl) fz
theorem n8 {β:Type} (a0:aB) (x12:aA) (d:Nat) (bl fz:List (Nat × Option aR)) (k:V->Option β) (kw:V->List (Nat × Option aR)->Option β):eK TT d bl 11 [.agg a0.cells,.agg [.int .i64 (IntKind.wrap .i64 (1 - x12.Kind)),.int .i64 x12.Forum,.int .i64 x12.Ask,.sl (cM cI x12.Places),.sl (cM cI x12.Path)]] fz k kw = (fR a0 (aA.mk (IntKind.wrap .i64 (1 - x12.Kind)) x12.Forum x12.Ask x12.Places x12.Path)).bind fun (r:Bool)=>k (.d (.bool r)):=by
 have h:=qJ a0 (aA.mk (IntKind.wrap .i64 (1 - x12.Kind)) x12.Forum x12.Ask x12.Places x12.Path)
 exact cU h (fun _=>rfl) fz
theorem uU (a0:aB) (a1:Int) (r1:Bool) (r3:(List aA) × Int) (p4:Int):eL TT iA ⟨[(1,.d (.int .u8 a1)),(2,.ptr 2 0),(5,.d (.bool r1)),(6,.d (.sl (cM aA.cells r3.1))),(8,.d (.int .i64 p4))],[(2,some (.box (aD a0.cells)))]⟩ (fun e s=>some (e,s)) = eZ (fun (w:Int)=>(⟨[(1,.d (.int .u8 a1)),(2,.ptr 2 0),(5,.d (.bool r1)),(6,.d (.sl (cM aA.cells r3.1))),(8,.d (.int .i64 w))],[(2,some (.box (aD a0.cells)))]⟩ : St)) (fun (r:Unit ⊕ Unit)=>Sum.elim (fun (z:Unit)=>(((.exit 0),⟨[(1,.d (.int .u8 a1)),(2,.ptr 2 0),(5,.d (.bool r1)),(6,.d (.sl (cM aA.cells r3.1)))],[(2,some (.box (aD a0.cells)))]⟩):Ex × St)) (fun (z:Unit)=>((.ret,⟨[(4,.d (.bool false))],[]⟩):Ex × St)) r) (eT a0 a1 r1 r3 p4):=by
 simp -implicitDefEqProofs (decide:=true) (maxSteps:=2000000) only [iA,eT,↓t8,↓vR,↓tV,↓wP,↓xB,↓n6,↓n8,↓DN,↓DR,DQ,DP,↓reduceIte,Int.reduceToNat,Nat.reduceBEq,Nat.reduceAdd,Nat.reduceLT,Nat.reduceLeDiff,Nat.reduceEqDiff,Int.reduceEq,ne_eq,zN,reduceCtorEq,dA,dF,dE,zM,zA,zB,aI,zC,zD,if_true,if_false,zE,zF,aC,zG,aJ,zH,zI,zJ,zK,aX,aS,aV,aY,aW,aF,aK,aO,aG,aL,aE,aT,bW,Vm.bind_map,aP,aU,zL]
 all_goals try simp only [cN]
 all_goals try rfl
theorem vA {β:Type} (a0:aB) (a1:Int) (r1:Bool) (r3:(List aA) × Int) (p4:Int) (k:Ex->St->Option β):eL TT n7 ⟨[(1,.d (.int .u8 a1)),(2,.ptr 2 0),(5,.d (.bool r1)),(6,.d (.sl (cM aA.cells r3.1))),(8,.d (.int .i64 p4))],[(2,some (.box (aD a0.cells)))]⟩ k = (gK a0 a1 r1 r3 p4).bind (fun (r:Unit ⊕ Unit)=>Sum.elim (fun (z:Unit)=>k (.exit 0) ⟨[(1,.d (.int .u8 a1)),(2,.ptr 2 0),(5,.d (.bool r1)),(6,.d (.sl (cM aA.cells r3.1)))],[(2,some (.box (aD a0.cells)))]⟩) (fun (z:Unit)=>k .ret ⟨[(4,.d (.bool false))],[]⟩) r):=by
 have hh:=fun (w:Int)=>uU a0 a1 r1 r3 w
 have h:=fun ho=>dS (T:=TT) (k:=k) (c:=iA) (step:=(fun (w:Int)=>eT a0 a1 r1 r3 w)) _ _ ho hh p4
 refine Eq.trans (h (fun r s e=>by have q:=congrArg Prod.fst e; rcases r with x | x <;> cases q)) ?_
 unfold gK
 exact cZ _ fun x=>by rcases x with x | x <;> rfl
theorem wL (a0:aB) (a1:Int):Vm.call TT 4 [.agg a0.cells,.int .u8 a1] = (iD a0 a1).map fun (r:Bool)=>.bool r:=by
 refine (dQ (show TT 4 = some (.code ⟨2,138,[.tmp 4],bd4,false,false⟩) from rfl) _ rfl rfl).trans ?_
 show eL TT bd4 ⟨[(0,iS a0.cells),(1,.d (.int .u8 a1))],[]⟩ _ = _
 simp -implicitDefEqProofs (decide:=true) (maxSteps:=2000000) only [bd4,iD,↓vA,↓t8,↓vR,↓tV,↓wP,↓xB,↓n6,↓n8,↓DN,↓DR,DQ,DP,↓reduceIte,Int.reduceToNat,Nat.reduceBEq,Nat.reduceAdd,Nat.reduceLT,Nat.reduceLeDiff,Nat.reduceEqDiff,Int.reduceEq,ne_eq,zN,reduceCtorEq,dA,dF,dE,zM,zA,zB,aI,zC,zD,if_true,if_false,zE,zF,aC,zG,aJ,zH,zI,zJ,zK,aX,aS,aV,aY,aW,aF,aK,aO,aG,aL,aE,aT,bW,Vm.bind_map,aP,aU,zL]
 all_goals try simp only [cN]
 all_goals try rfl
end Go.Proofs.Ytjjcaapdaldedaa
