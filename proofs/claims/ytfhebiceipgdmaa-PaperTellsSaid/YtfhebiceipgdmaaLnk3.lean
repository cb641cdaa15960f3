/- The functions of the small machine compute the plain definitions. Printed by a program. -/
import Derived.Test.YtfhebiceipgdmaaLnk2
set_option linter.unusedVariables false
set_option linter.unusedSimpArgs false
namespace Go.Proofs.Ytfhebiceipgdmaa
open Vm
open Go.RowKit
set_option maxRecDepth 100000
set_option maxHeartbeats 4000000
attribute [local congr] pR rP pQ rO
theorem KE (a0:aA) (r1:(List ByteArray) × (List ByteArray) × (List ByteArray)) (p4:Int):cP TT qZ ⟨[(1,.d (.ptr a0.cells 0)),(4,.d (.sl (cM cS r1.2.1))),(5,.d (.sl (cM cS r1.2.2))),(36,.d (.sl (cM bO.cells a0.Groups))),(37,.d (.int .i64 (a0.Groups.length:Int))),(38,.d (.int .i64 p4))],[]⟩ (fun e s=>some (e,s)) = cV (fun (w:Int)=>(⟨[(1,.d (.ptr a0.cells 0)),(4,.d (.sl (cM cS r1.2.1))),(5,.d (.sl (cM cS r1.2.2))),(36,.d (.sl (cM bO.cells a0.Groups))),(37,.d (.int .i64 (a0.Groups.length:Int))),(38,.d (.int .i64 w))],[]⟩ : St)) (fun (r:Unit ⊕ Unit)=>Sum.elim (fun (z:Unit)=>(((.exit 0),⟨[(1,.d (.ptr a0.cells 0)),(4,.d (.sl (cM cS r1.2.1))),(5,.d (.sl (cM cS r1.2.2)))],[]⟩):Ex × St)) (fun (z:Unit)=>((.ret,⟨[(2,.d (.int .i64 1))],[]⟩):Ex × St)) r) (j7 a0 r1 p4):=by
 simp -implicitDefEqProofs (decide:=true) (maxSteps:=2000000) only [qZ,j7,↓gV,↓GJ,↓D9,↓DB,↓DX,↓DW,↓EJ,↓ID,↓DN,↓DR,DQ,DP,↓reduceIte,Int.reduceToNat,Nat.reduceBEq,Nat.reduceAdd,Nat.reduceLT,Nat.reduceLeDiff,Nat.reduceEqDiff,Int.reduceEq,ne_eq,zN,reduceCtorEq,bJ,bM,bN,zM,zA,zB,aH,zC,zD,if_true,if_false,zE,zF,aG,zG,aJ,zH,zI,zJ,zK,aQ,aP,aV,aT,aS,aD,aL,aM,aE,aK,aF,aR,aZ,aU,aI,aW,zL]
 all_goals try simp only [bG]
 all_goals try rfl
theorem JF {β:Type} (a0:aA) (r1:(List ByteArray) × (List ByteArray) × (List ByteArray)) (p4:Int) (k:Ex→St→Option β):cP TT CB ⟨[(1,.d (.ptr a0.cells 0)),(4,.d (.sl (cM cS r1.2.1))),(5,.d (.sl (cM cS r1.2.2))),(36,.d (.sl (cM bO.cells a0.Groups))),(37,.d (.int .i64 (a0.Groups.length:Int))),(38,.d (.int .i64 p4))],[]⟩ k = (uF a0 r1 p4).bind (fun (r:Unit ⊕ Unit)=>Sum.elim (fun (z:Unit)=>k (.exit 0) ⟨[(1,.d (.ptr a0.cells 0)),(4,.d (.sl (cM cS r1.2.1))),(5,.d (.sl (cM cS r1.2.2)))],[]⟩) (fun (z:Unit)=>k .ret ⟨[(2,.d (.int .i64 1))],[]⟩) r):=by
 have hh:=fun (w:Int)=>KE a0 r1 w
 have h:=fun ho=>cA (T:=TT) (k:=k) (c:=qZ) (step:=(fun (w:Int)=>j7 a0 r1 w)) _ _ ho hh p4
 refine Eq.trans (h (fun r s e=>by have q:=congrArg Prod.fst e; rcases r with x | x <;> cases q)) ?_
 unfold uF
 exact bK _ fun x=>by rcases x with x | x <;> rfl
theorem OP (a0:aA):Vm.call TT 75 [.agg a0.cells] = (sM a0).map fun (r:Int)=>.int .i64 r:=by
 refine (bQ (show TT 75 = some (.code ⟨1,66,[.tmp 2],aHq,false⟩) from rfl) _ rfl).trans ?_
 show cP TT aHq ⟨[(0,cO a0.cells)],[]⟩ _ = _
 simp -implicitDefEqProofs (decide:=true) (maxSteps:=2000000) only [aHq,sM,↓JF,↓gV,↓GJ,↓D9,↓DB,↓DX,↓DW,↓EJ,↓ID,↓DN,↓DR,DQ,DP,↓reduceIte,Int.reduceToNat,Nat.reduceBEq,Nat.reduceAdd,Nat.reduceLT,Nat.reduceLeDiff,Nat.reduceEqDiff,Int.reduceEq,ne_eq,zN,reduceCtorEq,bJ,bM,bN,zM,zA,zB,aH,zC,zD,if_true,if_false,zE,zF,aG,zG,aJ,zH,zI,zJ,zK,aQ,aP,aV,aT,aS,aD,aL,aM,aE,aK,aF,aR,aZ,aU,aI,aW,zL]
 all_goals try simp only [bG]
 all_goals try rfl
theorem rI {β:Type} (a0:aA) (d:Nat) (bl:List (Nat × Option aY)) (fz:List (Nat × Option aY)) (k:V→Option β) (kw:V→List (Nat × Option aY)→Option β):cH TT d bl 75 [.agg a0.cells] fz k kw = (sM a0).bind fun (r:Int)=>k (.d (.int .i64 r)):=by
 have h:=OP a0
 exact bI h (fun _=>rfl) fz
theorem KT (a0:Int) (a1:Int):Vm.call TT 76 [.int .i64 a0,.int .i64 a1] = (eY a0 a1).map fun (r:Bool)=>.bool r:=by
 refine (bQ (show TT 76 = some (.code ⟨2,12,[.tmp 4],aFu,false⟩) from rfl) _ rfl).trans ?_
 show cP TT aFu ⟨[(0,.d (.int .i64 a0)),(1,.d (.int .i64 a1))],[]⟩ _ = _
 simp -implicitDefEqProofs (decide:=true) (maxSteps:=2000000) only [aFu,eY,↓DN,↓DR,DQ,DP,↓reduceIte,Int.reduceToNat,Nat.reduceBEq,Nat.reduceAdd,Nat.reduceLT,Nat.reduceLeDiff,Nat.reduceEqDiff,Int.reduceEq,ne_eq,zN,reduceCtorEq,bJ,bM,bN,zM,zA,zB,aH,zC,zD,if_true,if_false,zE,zF,aG,zG,aJ,zH,zI,zJ,zK,aQ,aP,aV,aT,aS,aD,aL,aM,aE,aK,aF,aR,aZ,aU,aI,aW,zL]
 all_goals try simp only [bG]
 all_goals try rfl
theorem o2 {β:Type} (a0:Int) (a1:Int) (d:Nat) (bl:List (Nat × Option aY)) (fz:List (Nat × Option aY)) (k:V→Option β) (kw:V→List (Nat × Option aY)→Option β):cH TT d bl 76 [.int .i64 a0,.int .i64 a1] fz k kw = (eY a0 a1).bind fun (r:Bool)=>k (.d (.bool r)):=by
 have h:=KT a0 a1
 exact bI h (fun _=>rfl) fz
theorem yV {β:Type} (a0:bF) (k:Ex→St→Option β):cP TT s9 ⟨[(1,.ptr 1 0),(3,.ptr 3 0),(40,.d (.bool (a0.Tenor.Kind == 3)))],[(1,some (.box (aC a0.cells))),(3,some (.box (aC (bR.cells a0.Tenor))))]⟩ k = (jK a0).bind (fun (r:Unit ⊕ Bool)=>Sum.elim (fun (z:Unit)=>k .normal ⟨[],[]⟩) (fun (z:Bool)=>k .ret ⟨[(2,.d (.bool z))],[]⟩) r):=by
 simp -implicitDefEqProofs (decide:=true) (maxSteps:=2000000) only [s9,jK,↓DN,↓DR,DQ,DP,↓reduceIte,Int.reduceToNat,Nat.reduceBEq,Nat.reduceAdd,Nat.reduceLT,Nat.reduceLeDiff,Nat.reduceEqDiff,Int.reduceEq,ne_eq,zN,reduceCtorEq,bJ,bM,bN,zM,zA,zB,aH,zC,zD,if_true,if_false,zE,zF,aG,zG,aJ,zH,zI,zJ,zK,aQ,aP,aV,aT,aS,aD,aL,aM,aE,aK,aF,aR,aZ,aU,aI,aW,zL]
 all_goals try simp only [bG]
 all_goals try rfl
theorem HQ {β:Type} (a0:bF) (k:Ex→St→Option β):cP TT tD ⟨[(1,.ptr 1 0),(3,.ptr 3 0),(7,.d (.int .i64 a0.Tenor.Kind))],[(1,some (.box (aC a0.cells))),(3,some (.box (aC (bR.cells a0.Tenor))))]⟩ k = (iZ a0).bind (fun (r:Unit ⊕ Bool)=>Sum.elim (fun (z:Unit)=>k .normal ⟨[],[]⟩) (fun (z:Bool)=>k .ret ⟨[(2,.d (.bool z))],[]⟩) r):=by
 simp -implicitDefEqProofs (decide:=true) (maxSteps:=2000000) only [tD,iZ,↓yV,↓DN,↓DR,DQ,DP,↓reduceIte,Int.reduceToNat,Nat.reduceBEq,Nat.reduceAdd,Nat.reduceLT,Nat.reduceLeDiff,Nat.reduceEqDiff,Int.reduceEq,ne_eq,zN,reduceCtorEq,bJ,bM,bN,zM,zA,zB,aH,zC,zD,if_true,if_false,zE,zF,aG,zG,aJ,zH,zI,zJ,zK,aQ,aP,aV,aT,aS,aD,aL,aM,aE,aK,aF,aR,aZ,aU,aI,aW,zL]
 all_goals try simp only [bG]
 all_goals try rfl
theorem K7 (a0:bF):Vm.call TT 77 [.agg a0.cells] = (jT a0).map fun (r:Bool)=>.bool r:=by
 refine (bQ (show TT 77 = some (.code ⟨1,57,[.tmp 2],aGQ,false⟩) from rfl) _ rfl).trans ?_
 show cP TT aGQ ⟨[(0,cO a0.cells)],[]⟩ _ = _
 simp -implicitDefEqProofs (decide:=true) (maxSteps:=2000000) only [aGQ,jT,↓yV,↓HQ,↓DN,↓DR,DQ,DP,↓reduceIte,Int.reduceToNat,Nat.reduceBEq,Nat.reduceAdd,Nat.reduceLT,Nat.reduceLeDiff,Nat.reduceEqDiff,Int.reduceEq,ne_eq,zN,reduceCtorEq,bJ,bM,bN,zM,zA,zB,aH,zC,zD,if_true,if_false,zE,zF,aG,zG,aJ,zH,zI,zJ,zK,aQ,aP,aV,aT,aS,aD,aL,aM,aE,aK,aF,aR,aZ,aU,aI,aW,zL]
 all_goals try simp only [bG]
 all_goals try rfl
theorem pK {β:Type} (a0:bF) (d:Nat) (bl:List (Nat × Option aY)) (fz:List (Nat × Option aY)) (k:V→Option β) (kw:V→List (Nat × Option aY)→Option β):cH TT d bl 77 [.agg a0.cells] fz k kw = (jT a0).bind fun (r:Bool)=>k (.d (.bool r)):=by
 have h:=K7 a0
 exact bI h (fun _=>rfl) fz
theorem IZ (a0:aA) (a1:Int) (a2:Int) (p1:Int):cP TT pT ⟨[(1,.d (.int .i64 a1)),(2,.d (.int .i64 a2)),(11,.d (.sl (cM bA.cells a0.Usances))),(12,.d (.int .i64 (a0.Usances.length:Int))),(13,.d (.int .i64 p1))],[]⟩ (fun e s=>some (e,s)) = cV (fun (w:Int)=>(⟨[(1,.d (.int .i64 a1)),(2,.d (.int .i64 a2)),(11,.d (.sl (cM bA.cells a0.Usances))),(12,.d (.int .i64 (a0.Usances.length:Int))),(13,.d (.int .i64 w))],[]⟩ : St)) (fun (r:Unit ⊕ Int)=>Sum.elim (fun (z:Unit)=>(((.exit 0),⟨[],[]⟩):Ex × St)) (fun (z:Int)=>((.ret,⟨[(6,.d (.int .i64 z)),(7,.d (.int .i64 0))],[]⟩):Ex × St)) r) (iC a0 a1 a2 p1):=by
 simp -implicitDefEqProofs (decide:=true) (maxSteps:=2000000) only [pT,iC,↓DN,↓DR,DQ,DP,↓reduceIte,Int.reduceToNat,Nat.reduceBEq,Nat.reduceAdd,Nat.reduceLT,Nat.reduceLeDiff,Nat.reduceEqDiff,Int.reduceEq,ne_eq,zN,reduceCtorEq,bJ,bM,bN,zM,zA,zB,aH,zC,zD,if_true,if_false,zE,zF,aG,zG,aJ,zH,zI,zJ,zK,aQ,aP,aV,aT,aS,aD,aL,aM,aE,aK,aF,aR,aZ,aU,aI,aW,zL]
 all_goals try simp only [bG]
 all_goals try rfl
theorem I8 {β:Type} (a0:aA) (a1:Int) (a2:Int) (p1:Int) (k:Ex→St→Option β):cP TT AK ⟨[(1,.d (.int .i64 a1)),(2,.d (.int .i64 a2)),(11,.d (.sl (cM bA.cells a0.Usances))),(12,.d (.int .i64 (a0.Usances.length:Int))),(13,.d (.int .i64 p1))],[]⟩ k = (sL a0 a1 a2 p1).bind (fun (r:Unit ⊕ Int)=>Sum.elim (fun (z:Unit)=>k (.exit 0) ⟨[],[]⟩) (fun (z:Int)=>k .ret ⟨[(6,.d (.int .i64 z)),(7,.d (.int .i64 0))],[]⟩) r):=by
 have hh:=fun (w:Int)=>IZ a0 a1 a2 w
 have h:=fun ho=>cA (T:=TT) (k:=k) (c:=pT) (step:=(fun (w:Int)=>iC a0 a1 a2 w)) _ _ ho hh p1
 refine Eq.trans (h (fun r s e=>by have q:=congrArg Prod.fst e; rcases r with x | x <;> cases q)) ?_
 unfold sL
 exact bK _ fun x=>by rcases x with x | x <;> rfl
theorem MU (a0:aA) (a1:Int) (a2:Int):Vm.call TT 78 [.agg a0.cells,.int .i64 a1,.int .i64 a2] = (qL a0 a1 a2).map fun (r:Int × Int)=>.tup [.int .i64 r.1,.int .i64 r.2]:=by
 refine (bQ (show TT 78 = some (.code ⟨3,30,[.tmp 6,.tmp 7],aGW,false⟩) from rfl) _ rfl).trans ?_
 show cP TT aGW ⟨[(0,cO a0.cells),(1,.d (.int .i64 a1)),(2,.d (.int .i64 a2))],[]⟩ _ = _
 simp -implicitDefEqProofs (decide:=true) (maxSteps:=2000000) only [aGW,qL,↓I8,↓DN,↓DR,DQ,DP,↓reduceIte,Int.reduceToNat,Nat.reduceBEq,Nat.reduceAdd,Nat.reduceLT,Nat.reduceLeDiff,Nat.reduceEqDiff,Int.reduceEq,ne_eq,zN,reduceCtorEq,bJ,bM,bN,zM,zA,zB,aH,zC,zD,if_true,if_false,zE,zF,aG,zG,aJ,zH,zI,zJ,zK,aQ,aP,aV,aT,aS,aD,aL,aM,aE,aK,aF,aR,aZ,aU,aI,aW,zL]
 all_goals try simp only [bG]
 all_goals try rfl
theorem qK {β:Type} (a0:aA) (a1:Int) (a2:Int) (d:Nat) (bl:List (Nat × Option aY)) (fz:List (Nat × Option aY)) (k:V→Option β) (kw:V→List (Nat × Option aY)→Option β):cH TT d bl 78 [.agg a0.cells,.int .i64 a1,.int .i64 a2] fz k kw = (qL a0 a1 a2).bind fun (r:Int × Int)=>k (.tup [.d (.int .i64 r.1),.d (.int .i64 r.2)]):=by
 have h:=MU a0 a1 a2
 exact bI h (fun _=>rfl) fz
theorem oX {β:Type} (a0:aA) (a1:bF) (k:Ex→St→Option β):cP TT tC ⟨[(2,.ptr 2 0),(3,.ptr 3 0)],[(2,some (.box (aC a0.cells))),(3,some (.box (aC a1.cells)))]⟩ k = (jM a0 a1).bind (fun (r:Unit ⊕ Unit)=>Sum.elim (fun (z:Unit)=>k .normal ⟨[(2,.ptr 2 0),(3,.ptr 3 0)],[(2,some (.box (aC a0.cells))),(3,some (.box (aC a1.cells)))]⟩) (fun (z:Unit)=>k .ret ⟨[(4,.d (.int .i64 2))],[]⟩) r):=by
 simp -implicitDefEqProofs (decide:=true) (maxSteps:=2000000) only [tC,jM,↓rI,↓o2,↓pK,↓qK,↓DN,↓DR,DQ,DP,↓reduceIte,Int.reduceToNat,Nat.reduceBEq,Nat.reduceAdd,Nat.reduceLT,Nat.reduceLeDiff,Nat.reduceEqDiff,Int.reduceEq,ne_eq,zN,reduceCtorEq,bJ,bM,bN,zM,zA,zB,aH,zC,zD,if_true,if_false,zE,zF,aG,zG,aJ,zH,zI,zJ,zK,aQ,aP,aV,aT,aS,aD,aL,aM,aE,aK,aF,aR,aZ,aU,aI,aW,zL]
 all_goals try simp only [bG]
 all_goals try rfl
theorem tI {β:Type} (a0:aA) (a1:bF) (k:Ex→St→Option β):cP TT tG ⟨[(2,.ptr 2 0),(3,.ptr 3 0)],[(2,some (.box (aC a0.cells))),(3,some (.box (aC a1.cells)))]⟩ k = (jJ a0 a1).bind (fun (r:Unit ⊕ Int)=>Sum.elim (fun (z:Unit)=>k .normal ⟨[(2,.ptr 2 0),(3,.ptr 3 0)],[(2,some (.box (aC a0.cells))),(3,some (.box (aC a1.cells)))]⟩) (fun (z:Int)=>k .ret ⟨[(4,.d (.int .i64 z))],[]⟩) r):=by
 simp -implicitDefEqProofs (decide:=true) (maxSteps:=2000000) only [tG,jJ,↓oX,↓rI,↓o2,↓pK,↓qK,↓DN,↓DR,DQ,DP,↓reduceIte,Int.reduceToNat,Nat.reduceBEq,Nat.reduceAdd,Nat.reduceLT,Nat.reduceLeDiff,Nat.reduceEqDiff,Int.reduceEq,ne_eq,zN,reduceCtorEq,bJ,bM,bN,zM,zA,zB,aH,zC,zD,if_true,if_false,zE,zF,aG,zG,aJ,zH,zI,zJ,zK,aQ,aP,aV,aT,aS,aD,aL,aM,aE,aK,aF,aR,aZ,aU,aI,aW,zL]
 all_goals try simp only [bG]
 all_goals try rfl
theorem yX {β:Type} (a0:aA) (a1:bF) (k:Ex→St→Option β):cP TT tA ⟨[(2,.ptr 2 0),(3,.ptr 3 0)],[(2,some (.box (aC a0.cells))),(3,some (.box (aC a1.cells)))]⟩ k = (jS a0 a1).bind (fun (r:Unit ⊕ Int)=>Sum.elim (fun (z:Unit)=>k .normal ⟨[(2,.ptr 2 0),(3,.ptr 3 0)],[(2,some (.box (aC a0.cells))),(3,some (.box (aC a1.cells)))]⟩) (fun (z:Int)=>k .ret ⟨[(4,.d (.int .i64 z))],[]⟩) r):=by
 simp -implicitDefEqProofs (decide:=true) (maxSteps:=2000000) only [tA,jS,↓oX,↓tI,↓rI,↓o2,↓pK,↓qK,↓DN,↓DR,DQ,DP,↓reduceIte,Int.reduceToNat,Nat.reduceBEq,Nat.reduceAdd,Nat.reduceLT,Nat.reduceLeDiff,Nat.reduceEqDiff,Int.reduceEq,ne_eq,zN,reduceCtorEq,bJ,bM,bN,zM,zA,zB,aH,zC,zD,if_true,if_false,zE,zF,aG,zG,aJ,zH,zI,zJ,zK,aQ,aP,aV,aT,aS,aD,aL,aM,aE,aK,aF,aR,aZ,aU,aI,aW,zL]
 all_goals try simp only [bG]
 all_goals try rfl
theorem HW {β:Type} (a0:aA) (a1:bF) (p7:Bool) (k:Ex→St→Option β):cP TT tH ⟨[(2,.ptr 2 0),(3,.ptr 3 0),(7,.d (.int .i64 (a0.Cities.length:Int))),(8,.d (.bool p7))],[(2,some (.box (aC a0.cells))),(3,some (.box (aC a1.cells)))]⟩ k = (dC a0 a1 p7).bind (fun (r:Int)=>k .ret ⟨[(4,.d (.int .i64 r))],[]⟩):=by
 simp -implicitDefEqProofs (decide:=true) (maxSteps:=2000000) only [tH,dC,↓oX,↓tI,↓yX,↓rI,↓o2,↓pK,↓qK,↓DN,↓DR,DQ,DP,↓reduceIte,Int.reduceToNat,Nat.reduceBEq,Nat.reduceAdd,Nat.reduceLT,Nat.reduceLeDiff,Nat.reduceEqDiff,Int.reduceEq,ne_eq,zN,reduceCtorEq,bJ,bM,bN,zM,zA,zB,aH,zC,zD,if_true,if_false,zE,zF,aG,zG,aJ,zH,zI,zJ,zK,aQ,aP,aV,aT,aS,aD,aL,aM,aE,aK,aF,aR,aZ,aU,aI,aW,zL]
 all_goals try simp only [bG]
 all_goals try rfl
theorem LM (a0:aA) (a1:bF):Vm.call TT 57 [.agg a0.cells,.agg a1.cells] = (hJ a0 a1).map fun (r:Int)=>.int .i64 r:=by
 refine (bQ (show TT 57 = some (.code ⟨2,157,[.tmp 4],aGE,false⟩) from rfl) _ rfl).trans ?_
 show cP TT aGE ⟨[(0,cO a0.cells),(1,cO a1.cells)],[]⟩ _ = _
 simp -implicitDefEqProofs (decide:=true) (maxSteps:=2000000) only [aGE,hJ,↓oX,↓tI,↓yX,↓HW,↓rI,↓o2,↓pK,↓qK,↓DN,↓DR,DQ,DP,↓reduceIte,Int.reduceToNat,Nat.reduceBEq,Nat.reduceAdd,Nat.reduceLT,Nat.reduceLeDiff,Nat.reduceEqDiff,Int.reduceEq,ne_eq,zN,reduceCtorEq,bJ,bM,bN,zM,zA,zB,aH,zC,zD,if_true,if_false,zE,zF,aG,zG,aJ,zH,zI,zJ,zK,aQ,aP,aV,aT,aS,aD,aL,aM,aE,aK,aF,aR,aZ,aU,aI,aW,zL]
 all_goals try simp only [bG]
 all_goals try rfl
theorem w9 {β:Type} (a0:aA) (a1:bF) (d:Nat) (bl:List (Nat × Option aY)) (fz:List (Nat × Option aY)) (k:V→Option β) (kw:V→List (Nat × Option aY)→Option β):cH TT d bl 57 [.agg a0.cells,.agg a1.cells] fz k kw = (hJ a0 a1).bind fun (r:Int)=>k (.d (.int .i64 r)):=by
 have h:=LM a0 a1
 exact bI h (fun _=>rfl) fz
theorem UJ (a0:Int) (a1:Int) (a2:Int):Vm.call TT 59 [.int .i64 a0,.int .i64 a1,.int .i64 a2] = (cU a0 a1 a2).map fun (r:Bool)=>.bool r:=by
 refine (bQ (show TT 59 = some (.code ⟨3,15,[.tmp 6],aH4,false⟩) from rfl) _ rfl).trans ?_
 show cP TT aH4 ⟨[(0,.d (.int .i64 a0)),(1,.d (.int .i64 a1)),(2,.d (.int .i64 a2))],[]⟩ _ = _
 simp -implicitDefEqProofs (decide:=true) (maxSteps:=2000000) only [aH4,cU,↓DN,↓DR,DQ,DP,↓reduceIte,Int.reduceToNat,Nat.reduceBEq,Nat.reduceAdd,Nat.reduceLT,Nat.reduceLeDiff,Nat.reduceEqDiff,Int.reduceEq,ne_eq,zN,reduceCtorEq,bJ,bM,bN,zM,zA,zB,aH,zC,zD,if_true,if_false,zE,zF,aG,zG,aJ,zH,zI,zJ,zK,aQ,aP,aV,aT,aS,aD,aL,aM,aE,aK,aF,aR,aZ,aU,aI,aW,zL]
 all_goals try simp only [bG]
 all_goals try rfl
theorem cR {β:Type} (a0:Int) (a1:Int) (a2:Int) (d:Nat) (bl:List (Nat × Option aY)) (fz:List (Nat × Option aY)) (k:V→Option β) (kw:V→List (Nat × Option aY)→Option β):cH TT d bl 59 [.int .i64 a0,.int .i64 a1,.int .i64 a2] fz k kw = (cU a0 a1 a2).bind fun (r:Bool)=>k (.d (.bool r)):=by
 have h:=UJ a0 a1 a2
 exact bI h (fun _=>rfl) fz
theorem MX (a0:aB) (a1:Int) (a2:Int):Vm.call TT 66 [.agg a0.cells,.int .i64 a1,.int .i64 a2] = (nA a0 a1 a2).map fun (r:Bool)=>.bool r:=by
 refine (bQ (show TT 66 = some (.code ⟨3,19,[.tmp 6],aGS,false⟩) from rfl) _ rfl).trans ?_
 show cP TT aGS ⟨[(0,cO a0.cells),(1,.d (.int .i64 a1)),(2,.d (.int .i64 a2))],[]⟩ _ = _
 simp -implicitDefEqProofs (decide:=true) (maxSteps:=2000000) only [aGS,nA,↓DN,↓DR,DQ,DP,↓reduceIte,Int.reduceToNat,Nat.reduceBEq,Nat.reduceAdd,Nat.reduceLT,Nat.reduceLeDiff,Nat.reduceEqDiff,Int.reduceEq,ne_eq,zN,reduceCtorEq,bJ,bM,bN,zM,zA,zB,aH,zC,zD,if_true,if_false,zE,zF,aG,zG,aJ,zH,zI,zJ,zK,aQ,aP,aV,aT,aS,aD,aL,aM,aE,aK,aF,aR,aZ,aU,aI,aW,zL]
 all_goals try simp only [bG]
 all_goals try rfl
theorem gG {β:Type} (a0:aB) (a1:Int) (a2:Int) (d:Nat) (bl:List (Nat × Option aY)) (fz:List (Nat × Option aY)) (k:V→Option β) (kw:V→List (Nat × Option aY)→Option β):cH TT d bl 66 [.agg a0.cells,.int .i64 a1,.int .i64 a2] fz k kw = (nA a0 a1 a2).bind fun (r:Bool)=>k (.d (.bool r)):=by
 have h:=MX a0 a1 a2
 exact bI h (fun _=>rfl) fz
theorem AP (a0:List Int) (a1:Int) (p1:Int):cP TT jA ⟨[(0,.d (.sl (cM cI a0))),(1,.d (.int .i64 a1)),(7,.d (.int .i64 (a0.length:Int))),(8,.d (.int .i64 p1))],[]⟩ (fun e s=>some (e,s)) = cV (fun (w:Int)=>(⟨[(0,.d (.sl (cM cI a0))),(1,.d (.int .i64 a1)),(7,.d (.int .i64 (a0.length:Int))),(8,.d (.int .i64 w))],[]⟩ : St)) (fun (r:Unit ⊕ Int)=>Sum.elim (fun (z:Unit)=>(((.exit 0),⟨[],[]⟩):Ex × St)) (fun (z:Int)=>((.ret,⟨[(4,.d (.int .i64 z))],[]⟩):Ex × St)) r) (fF a0 a1 p1):=by
 simp -implicitDefEqProofs (decide:=true) (maxSteps:=2000000) only [jA,fF,↓DN,↓DR,DQ,DP,↓reduceIte,Int.reduceToNat,Nat.reduceBEq,Nat.reduceAdd,Nat.reduceLT,Nat.reduceLeDiff,Nat.reduceEqDiff,Int.reduceEq,ne_eq,zN,reduceCtorEq,bJ,bM,bN,zM,zA,zB,aH,zC,zD,if_true,if_false,zE,zF,aG,zG,aJ,zH,zI,zJ,zK,aQ,aP,aV,aT,aS,aD,aL,aM,aE,aK,aF,aR,aZ,aU,aI,aW,zL]
 all_goals try simp only [bG]
 all_goals try rfl
theorem AX {β:Type} (a0:List Int) (a1:Int) (p1:Int) (k:Ex→St→Option β):cP TT rV ⟨[(0,.d (.sl (cM cI a0))),(1,.d (.int .i64 a1)),(7,.d (.int .i64 (a0.length:Int))),(8,.d (.int .i64 p1))],[]⟩ k = (hH a0 a1 p1).bind (fun (r:Unit ⊕ Int)=>Sum.elim (fun (z:Unit)=>k (.exit 0) ⟨[],[]⟩) (fun (z:Int)=>k .ret ⟨[(4,.d (.int .i64 z))],[]⟩) r):=by
 have hh:=fun (w:Int)=>AP a0 a1 w
 have h:=fun ho=>cA (T:=TT) (k:=k) (c:=jA) (step:=(fun (w:Int)=>fF a0 a1 w)) _ _ ho hh p1
 refine Eq.trans (h (fun r s e=>by have q:=congrArg Prod.fst e; rcases r with x | x <;> cases q)) ?_
 unfold hH
 exact bK _ fun x=>by rcases x with x | x <;> rfl
theorem C5 (a0:List Int) (a1:Int):Vm.call TT 117 [.sl (cM cI a0),.int .i64 a1] = (kZ a0 a1).map fun (r:Int)=>.int .i64 r:=by
 refine (bQ (show TT 117 = some (.code ⟨2,19,[.tmp 4],ZM,false⟩) from rfl) _ rfl).trans ?_
 show cP TT ZM ⟨[(0,.d (.sl (cM cI a0))),(1,.d (.int .i64 a1))],[]⟩ _ = _
 simp -implicitDefEqProofs (decide:=true) (maxSteps:=2000000) only [ZM,kZ,↓AX,↓DN,↓DR,DQ,DP,↓reduceIte,Int.reduceToNat,Nat.reduceBEq,Nat.reduceAdd,Nat.reduceLT,Nat.reduceLeDiff,Nat.reduceEqDiff,Int.reduceEq,ne_eq,zN,reduceCtorEq,bJ,bM,bN,zM,zA,zB,aH,zC,zD,if_true,if_false,zE,zF,aG,zG,aJ,zH,zI,zJ,zK,aQ,aP,aV,aT,aS,aD,aL,aM,aE,aK,aF,aR,aZ,aU,aI,aW,zL]
 all_goals try simp only [bG]
 all_goals try rfl
theorem DD {β:Type} (a0:List Int) (a1:Int) (d:Nat) (bl:List (Nat × Option aY)) (fz:List (Nat × Option aY)) (k:V→Option β) (kw:V→List (Nat × Option aY)→Option β):cH TT d bl 117 [.sl (cM cI a0),.int .i64 a1] fz k kw = (kZ a0 a1).bind fun (r:Int)=>k (.d (.int .i64 r)):=by
 have h:=C5 a0 a1
 exact bI h (fun _=>rfl) fz
theorem AH (a0:List Int) (a1:Int):Vm.call TT 111 [.sl (cM cI a0),.int .i64 a1] = (fS a0 a1).map fun (r:Bool)=>.bool r:=by
 refine (bQ (show TT 111 = some (.code ⟨2,9,[.tmp 4],ZX,false⟩) from rfl) _ rfl).trans ?_
 show cP TT ZX ⟨[(0,.d (.sl (cM cI a0))),(1,.d (.int .i64 a1))],[]⟩ _ = _
 simp -implicitDefEqProofs (decide:=true) (maxSteps:=2000000) only [ZX,fS,↓DD,↓DN,↓DR,DQ,DP,↓reduceIte,Int.reduceToNat,Nat.reduceBEq,Nat.reduceAdd,Nat.reduceLT,Nat.reduceLeDiff,Nat.reduceEqDiff,Int.reduceEq,ne_eq,zN,reduceCtorEq,bJ,bM,bN,zM,zA,zB,aH,zC,zD,if_true,if_false,zE,zF,aG,zG,aJ,zH,zI,zJ,zK,aQ,aP,aV,aT,aS,aD,aL,aM,aE,aK,aF,aR,aZ,aU,aI,aW,zL]
 all_goals try simp only [bG]
 all_goals try rfl
theorem AM {β:Type} (a0:List Int) (a1:Int) (d:Nat) (bl:List (Nat × Option aY)) (fz:List (Nat × Option aY)) (k:V→Option β) (kw:V→List (Nat × Option aY)→Option β):cH TT d bl 111 [.sl (cM cI a0),.int .i64 a1] fz k kw = (fS a0 a1).bind fun (r:Bool)=>k (.d (.bool r)):=by
 have h:=AH a0 a1
 exact bI h (fun _=>rfl) fz
theorem NU (a0:aB) (a1:Int) (a2:List Int):Vm.call TT 101 [.agg a0.cells,.int .i64 a1,.sl (cM cI a2)] = (qA a0 a1 a2).map fun (r:Bool)=>.bool r:=by
 refine (bQ (show TT 101 = some (.code ⟨3,39,[.tmp 6],YX,false⟩) from rfl) _ rfl).trans ?_
 show cP TT YX ⟨[(0,cO a0.cells),(1,.d (.int .i64 a1)),(2,.d (.sl (cM cI a2)))],[]⟩ _ = _
 simp -implicitDefEqProofs (decide:=true) (maxSteps:=2000000) only [YX,qA,↓cR,↓gG,↓AM,↓DN,↓DR,DQ,DP,↓reduceIte,Int.reduceToNat,Nat.reduceBEq,Nat.reduceAdd,Nat.reduceLT,Nat.reduceLeDiff,Nat.reduceEqDiff,Int.reduceEq,ne_eq,zN,reduceCtorEq,bJ,bM,bN,zM,zA,zB,aH,zC,zD,if_true,if_false,zE,zF,aG,zG,aJ,zH,zI,zJ,zK,aQ,aP,aV,aT,aS,aD,aL,aM,aE,aK,aF,aR,aZ,aU,aI,aW,zL]
 all_goals try simp only [bG]
 all_goals try rfl
theorem rR {β:Type} (a0:aB) (a1:Int) (a2:List Int) (d:Nat) (bl:List (Nat × Option aY)) (fz:List (Nat × Option aY)) (k:V→Option β) (kw:V→List (Nat × Option aY)→Option β):cH TT d bl 101 [.agg a0.cells,.int .i64 a1,.sl (cM cI a2)] fz k kw = (qA a0 a1 a2).bind fun (r:Bool)=>k (.d (.bool r)):=by
 have h:=NU a0 a1 a2
 exact bI h (fun _=>rfl) fz
theorem sB {β:Type} (a0:aA) (a1:aB) (a2:Int) (p2:Bool) (x1:aX) (p4:Bool) (k:Ex→St→Option β):cP TT wX ⟨[(2,.d (.int .i64 a2)),(3,.ptr 3 0),(4,.ptr 4 0),(7,.ptr 7 0),(8,.ptr 8 0),(9,.d (.bool p2)),(10,.d (.bool p4))],[(3,some (.box (aC a0.cells))),(4,some (.box (aC a1.cells))),(7,some (.box (aC x1.cells))),(8,some (.box (aC (bF.cells a1.Bill))))]⟩ k = (oZ a0 a1 a2 p2 x1 p4).bind (fun (r:Bool)=>k .ret ⟨[(6,.d (.bool r))],[]⟩):=by
 simp -implicitDefEqProofs (decide:=true) (maxSteps:=2000000) only [wX,oZ,↓cR,↓rR,↓DN,↓DR,DQ,DP,↓reduceIte,Int.reduceToNat,Nat.reduceBEq,Nat.reduceAdd,Nat.reduceLT,Nat.reduceLeDiff,Nat.reduceEqDiff,Int.reduceEq,ne_eq,zN,reduceCtorEq,bJ,bM,bN,zM,zA,zB,aH,zC,zD,if_true,if_false,zE,zF,aG,zG,aJ,zH,zI,zJ,zK,aQ,aP,aV,aT,aS,aD,aL,aM,aE,aK,aF,aR,aZ,aU,aI,aW,zL]
 all_goals try simp only [bG]
 all_goals try rfl
theorem wV {β:Type} (a0:aA) (a1:aB) (a2:Int) (x1:aX) (p2:Bool) (k:Ex→St→Option β):cP TT xE ⟨[(2,.d (.int .i64 a2)),(3,.ptr 3 0),(4,.ptr 4 0),(7,.ptr 7 0),(8,.ptr 8 0),(9,.d (.bool p2))],[(3,some (.box (aC a0.cells))),(4,some (.box (aC a1.cells))),(7,some (.box (aC x1.cells))),(8,some (.box (aC (bF.cells a1.Bill))))]⟩ k = (pB a0 a1 a2 x1 p2).bind (fun (r:Bool)=>k .ret ⟨[(6,.d (.bool r))],[]⟩):=by
 simp -implicitDefEqProofs (decide:=true) (maxSteps:=2000000) only [xE,pB,↓sB,↓cR,↓rR,↓DN,↓DR,DQ,DP,↓reduceIte,Int.reduceToNat,Nat.reduceBEq,Nat.reduceAdd,Nat.reduceLT,Nat.reduceLeDiff,Nat.reduceEqDiff,Int.reduceEq,ne_eq,zN,reduceCtorEq,bJ,bM,bN,zM,zA,zB,aH,zC,zD,if_true,if_false,zE,zF,aG,zG,aJ,zH,zI,zJ,zK,aQ,aP,aV,aT,aS,aD,aL,aM,aE,aK,aF,aR,aZ,aU,aI,aW,zL]
 all_goals try simp only [bG]
 all_goals try rfl
theorem DO {β:Type} (a0:aA) (a1:aB) (a2:Int) (x1:aX) (k:Ex→St→Option β):cP TT xG ⟨[(2,.d (.int .i64 a2)),(3,.ptr 3 0),(4,.ptr 4 0),(7,.ptr 7 0),(8,.ptr 8 0)],[(3,some (.box (aC a0.cells))),(4,some (.box (aC a1.cells))),(7,some (.box (aC x1.cells))),(8,some (.box (aC (bF.cells a1.Bill))))]⟩ k = (nF a0 a1 a2 x1).bind (fun (r:Bool)=>k .ret ⟨[(6,.d (.bool r))],[]⟩):=by
 simp -implicitDefEqProofs (decide:=true) (maxSteps:=2000000) only [xG,nF,↓sB,↓wV,↓cR,↓rR,↓DN,↓DR,DQ,DP,↓reduceIte,Int.reduceToNat,Nat.reduceBEq,Nat.reduceAdd,Nat.reduceLT,Nat.reduceLeDiff,Nat.reduceEqDiff,Int.reduceEq,ne_eq,zN,reduceCtorEq,bJ,bM,bN,zM,zA,zB,aH,zC,zD,if_true,if_false,zE,zF,aG,zG,aJ,zH,zI,zJ,zK,aQ,aP,aV,aT,aS,aD,aL,aM,aE,aK,aF,aR,aZ,aU,aI,aW,zL]
 all_goals try simp only [bG]
 all_goals try rfl
theorem KM {β:Type} (a0:aA) (a1:aB) (a2:Int) (x1:aX) (k:Ex→St→Option β):cP TT xB ⟨[(2,.d (.int .i64 a2)),(3,.ptr 3 0),(4,.ptr 4 0),(7,.ptr 7 0),(8,.ptr 8 0)],[(3,some (.box (aC a0.cells))),(4,some (.box (aC a1.cells))),(7,some (.box (aC x1.cells))),(8,some (.box (aC (bF.cells a1.Bill))))]⟩ k = (pH a0 a1 a2 x1).bind (fun (r:Bool)=>k .ret ⟨[(6,.d (.bool r))],[]⟩):=by
 simp -implicitDefEqProofs (decide:=true) (maxSteps:=2000000) only [xB,pH,↓sB,↓wV,↓DO,↓cR,↓rR,↓DN,↓DR,DQ,DP,↓reduceIte,Int.reduceToNat,Nat.reduceBEq,Nat.reduceAdd,Nat.reduceLT,Nat.reduceLeDiff,Nat.reduceEqDiff,Int.reduceEq,ne_eq,zN,reduceCtorEq,bJ,bM,bN,zM,zA,zB,aH,zC,zD,if_true,if_false,zE,zF,aG,zG,aJ,zH,zI,zJ,zK,aQ,aP,aV,aT,aS,aD,aL,aM,aE,aK,aF,aR,aZ,aU,aI,aW,zL]
 all_goals try simp only [bG]
 all_goals try rfl
theorem PP (a0:aA) (a1:aB) (a2:Int):Vm.call TT 79 [.agg a0.cells,.agg a1.cells,.int .i64 a2] = (rQ a0 a1 a2).map fun (r:Bool)=>.bool r:=by
 refine (bQ (show TT 79 = some (.code ⟨3,165,[.tmp 6],aHE,false⟩) from rfl) _ rfl).trans ?_
 show cP TT aHE ⟨[(0,cO a0.cells),(1,cO a1.cells),(2,.d (.int .i64 a2))],[]⟩ _ = _
 simp -implicitDefEqProofs (decide:=true) (maxSteps:=2000000) only [aHE,rQ,↓sB,↓wV,↓DO,↓KM,↓cR,↓rR,↓DN,↓DR,DQ,DP,↓reduceIte,Int.reduceToNat,Nat.reduceBEq,Nat.reduceAdd,Nat.reduceLT,Nat.reduceLeDiff,Nat.reduceEqDiff,Int.reduceEq,ne_eq,zN,reduceCtorEq,bJ,bM,bN,zM,zA,zB,aH,zC,zD,if_true,if_false,zE,zF,aG,zG,aJ,zH,zI,zJ,zK,aQ,aP,aV,aT,aS,aD,aL,aM,aE,aK,aF,aR,aZ,aU,aI,aW,zL]
 all_goals try simp only [bG]
 all_goals try rfl
theorem H6 {β:Type} (a0:aA) (a1:aB) (a2:Int) (d:Nat) (bl:List (Nat × Option aY)) (fz:List (Nat × Option aY)) (k:V→Option β) (kw:V→List (Nat × Option aY)→Option β):cH TT d bl 79 [.agg a0.cells,.agg a1.cells,.int .i64 a2] fz k kw = (rQ a0 a1 a2).bind fun (r:Bool)=>k (.d (.bool r)):=by
 have h:=PP a0 a1 a2
 exact bI h (fun _=>rfl) fz
theorem KZ (a0:aA) (a1:aB) (a2:Int) (x1:aX) (p5:Int) (p6:Bool) (p7:Int):cP TT sC ⟨[(2,.d (.int .i64 a2)),(3,.ptr 3 0),(4,.ptr 4 0),(7,.ptr 7 0),(8,.d (.int .i64 p5)),(9,.d (.bool p6)),(49,.d (.sl (cM aX.cells (dX a1.Signs 0 a2)))),(50,.d (.int .i64 ((dX a1.Signs 0 a2).length:Int))),(51,.d (.int .i64 p7))],[(3,some (.box (aC a0.cells))),(4,some (.box (aC a1.cells))),(7,some (.box (aC x1.cells)))]⟩ (fun e s=>some (e,s)) = cV (fun (w:Int × Bool × Int)=>(⟨[(2,.d (.int .i64 a2)),(3,.ptr 3 0),(4,.ptr 4 0),(7,.ptr 7 0),(8,.d (.int .i64 w.1)),(9,.d (.bool w.2.1)),(49,.d (.sl (cM aX.cells (dX a1.Signs 0 a2)))),(50,.d (.int .i64 ((dX a1.Signs 0 a2).length:Int))),(51,.d (.int .i64 w.2.2))],[(3,some (.box (aC a0.cells))),(4,some (.box (aC a1.cells))),(7,some (.box (aC x1.cells)))]⟩ : St)) (fun (r:Int × Bool)=>(((.exit 0),⟨[(2,.d (.int .i64 a2)),(3,.ptr 3 0),(4,.ptr 4 0),(7,.ptr 7 0),(8,.d (.int .i64 r.1)),(9,.d (.bool r.2))],[(3,some (.box (aC a0.cells))),(4,some (.box (aC a1.cells))),(7,some (.box (aC x1.cells)))]⟩):Ex × St)) (k8 a0 a1 a2 x1 p5 p6 p7):=by
 simp -implicitDefEqProofs (decide:=true) (maxSteps:=2000000) only [sC,k8,↓cR,↓H6,↓DN,↓DR,DQ,DP,↓reduceIte,Int.reduceToNat,Nat.reduceBEq,Nat.reduceAdd,Nat.reduceLT,Nat.reduceLeDiff,Nat.reduceEqDiff,Int.reduceEq,ne_eq,zN,reduceCtorEq,bJ,bM,bN,zM,zA,zB,aH,zC,zD,if_true,if_false,zE,zF,aG,zG,aJ,zH,zI,zJ,zK,aQ,aP,aV,aT,aS,aD,aL,aM,aE,aK,aF,aR,aZ,aU,aI,aW,zL]
 all_goals try simp only [bG]
 all_goals try rfl
theorem KQ {β:Type} (a0:aA) (a1:aB) (a2:Int) (x1:aX) (p5:Int) (p6:Bool) (p7:Int) (k:Ex→St→Option β):cP TT D0 ⟨[(2,.d (.int .i64 a2)),(3,.ptr 3 0),(4,.ptr 4 0),(7,.ptr 7 0),(8,.d (.int .i64 p5)),(9,.d (.bool p6)),(49,.d (.sl (cM aX.cells (dX a1.Signs 0 a2)))),(50,.d (.int .i64 ((dX a1.Signs 0 a2).length:Int))),(51,.d (.int .i64 p7))],[(3,some (.box (aC a0.cells))),(4,some (.box (aC a1.cells))),(7,some (.box (aC x1.cells)))]⟩ k = (rK a0 a1 a2 x1 p5 p6 p7).bind (fun (r:Int × Bool)=>k (.exit 0) ⟨[(2,.d (.int .i64 a2)),(3,.ptr 3 0),(4,.ptr 4 0),(7,.ptr 7 0),(8,.d (.int .i64 r.1)),(9,.d (.bool r.2))],[(3,some (.box (aC a0.cells))),(4,some (.box (aC a1.cells))),(7,some (.box (aC x1.cells)))]⟩):=by
 have hh:=fun (w:Int × Bool × Int)=>KZ a0 a1 a2 x1 w.1 w.2.1 w.2.2
 have h:=fun ho=>cA (T:=TT) (k:=k) (c:=sC) (step:=(fun (w:Int × Bool × Int)=>k8 a0 a1 a2 x1 w.1 w.2.1 w.2.2)) _ _ ho hh (p5,p6,p7)
 refine Eq.trans (h (fun r s e=>by have q:=congrArg Prod.fst e; rcases r with x <;> cases q)) ?_
 unfold rK
 exact bK _ fun x=>by rcases x with x <;> rfl
theorem PV (a0:aA) (a1:aB) (a2:Int):Vm.call TT 58 [.agg a0.cells,.agg a1.cells,.int .i64 a2] = (uZ a0 a1 a2).map fun (r:Int)=>.int .i64 r:=by
 refine (bQ (show TT 58 = some (.code ⟨3,100,[.tmp 6],aHe,false⟩) from rfl) _ rfl).trans ?_
 show cP TT aHe ⟨[(0,cO a0.cells),(1,cO a1.cells),(2,.d (.int .i64 a2))],[]⟩ _ = _
 simp -implicitDefEqProofs (decide:=true) (maxSteps:=2000000) only [aHe,uZ,↓KQ,↓cR,↓H6,↓DN,↓DR,DQ,DP,↓reduceIte,Int.reduceToNat,Nat.reduceBEq,Nat.reduceAdd,Nat.reduceLT,Nat.reduceLeDiff,Nat.reduceEqDiff,Int.reduceEq,ne_eq,zN,reduceCtorEq,bJ,bM,bN,zM,zA,zB,aH,zC,zD,if_true,if_false,zE,zF,aG,zG,aJ,zH,zI,zJ,zK,aQ,aP,aV,aT,aS,aD,aL,aM,aE,aK,aF,aR,aZ,aU,aI,aW,zL]
 all_goals try simp only [bG]
 all_goals try rfl
theorem CT {β:Type} (a0:aA) (a1:aB) (a2:Int) (d:Nat) (bl:List (Nat × Option aY)) (fz:List (Nat × Option aY)) (k:V→Option β) (kw:V→List (Nat × Option aY)→Option β):cH TT d bl 58 [.agg a0.cells,.agg a1.cells,.int .i64 a2] fz k kw = (uZ a0 a1 a2).bind fun (r:Int)=>k (.d (.int .i64 r)):=by
 have h:=PV a0 a1 a2
 exact bI h (fun _=>rfl) fz
end Go.Proofs.Ytfhebiceipgdmaa
