/- The functions of the small machine compute the plain definitions. Printed by a program. -/
import Derived.Test.YtfhebiceipgdmaaLnk2
set_option linter.unusedVariables false
set_option linter.unusedSimpArgs false
namespace Go.Proofs.Ytfhebiceipgdmaa
open Vm
open Go.RowKit
set_option maxRecDepth 100000
set_option maxHeartbeats 4000000
attribute [local congr] uO wG uN vX
theorem C6 (a0:List ByteArray) (p1:Int):cX TT dP ⟨[(0,.d (.sl (cM cS a0))),(2,.d (.fn 93 [])),(14,.d (.int .i64 (a0.length:Int))),(15,.d (.int .i64 p1))],[]⟩ (fun e s=>some (e,s)) = dV (fun (w:Int)=>(⟨[(0,.d (.sl (cM cS a0))),(2,.d (.fn 93 [])),(14,.d (.int .i64 (a0.length:Int))),(15,.d (.int .i64 w))],[]⟩ : St)) (fun (r:Unit ⊕ Int)=>Sum.elim (fun (z:Unit)=>(((.exit 0),⟨[],[]⟩):Ex × St)) (fun (z:Int)=>((.ret,⟨[(6,.d (.int .i64 z))],[]⟩):Ex × St)) r) (jX a0 p1):=by
 simp -implicitDefEqProofs (decide:=true) (maxSteps:=2000000) only [dP,jX,↓zR,↓i7,↓DN,↓DR,DQ,DP,↓reduceIte,Int.reduceToNat,Nat.reduceBEq,Nat.reduceAdd,Nat.reduceLT,Nat.reduceLeDiff,Nat.reduceEqDiff,Int.reduceEq,ne_eq,zN,reduceCtorEq,bL,bO,bP,zM,zA,zB,aH,zC,zD,if_true,if_false,zE,zF,aE,zG,aM,zH,zI,zJ,zK,aV,aS,aR,aW,aQ,aF,aI,aL,aG,aK,aD,aT,a9,Vm.bind_map,aJ,aU,zL]
 all_goals try simp only [bF]
 all_goals try rfl
theorem DE {β:Type} (a0:List ByteArray) (p1:Int) (k:Ex→St→Option β):cX TT lU ⟨[(0,.d (.sl (cM cS a0))),(2,.d (.fn 93 [])),(14,.d (.int .i64 (a0.length:Int))),(15,.d (.int .i64 p1))],[]⟩ k = (rY a0 p1).bind (fun (r:Unit ⊕ Int)=>Sum.elim (fun (z:Unit)=>k (.exit 0) ⟨[],[]⟩) (fun (z:Int)=>k .ret ⟨[(6,.d (.int .i64 z))],[]⟩) r):=by
 have hh:=fun (w:Int)=>C6 a0 w
 have h:=fun ho=>cC (T:=TT) (k:=k) (c:=dP) (step:=(fun (w:Int)=>jX a0 w)) _ _ ho hh p1
 refine Eq.trans (h (fun r s e=>by have q:=congrArg Prod.fst e; rcases r with x | x <;> cases q)) ?_
 unfold rY
 exact bQ _ fun x=>by rcases x with x | x <;> rfl
theorem GR (a0:List ByteArray) (a1:Int):Vm.call TT 92 [.sl (cM cS a0),.int .i64 a1,.fn 93 []] = (lV a0 a1).map fun (r:Int)=>.int .i64 r:=by
 refine (bX (show TT 92 = some (.code ⟨3,29,[.tmp 6],GI,false,false⟩) from rfl) _ rfl rfl).trans ?_
 show cX TT GI ⟨[(0,.d (.sl (cM cS a0))),(1,.d (.int .i64 a1)),(2,.d (.fn 93 []))],[]⟩ _ = _
 simp -implicitDefEqProofs (decide:=true) (maxSteps:=2000000) only [GI,lV,↓DE,↓zR,↓i7,↓DN,↓DR,DQ,DP,↓reduceIte,Int.reduceToNat,Nat.reduceBEq,Nat.reduceAdd,Nat.reduceLT,Nat.reduceLeDiff,Nat.reduceEqDiff,Int.reduceEq,ne_eq,zN,reduceCtorEq,bL,bO,bP,zM,zA,zB,aH,zC,zD,if_true,if_false,zE,zF,aE,zG,aM,zH,zI,zJ,zK,aV,aS,aR,aW,aQ,aF,aI,aL,aG,aK,aD,aT,a9,Vm.bind_map,aJ,aU,zL]
 all_goals try simp only [bF]
 all_goals try rfl
theorem AK {β:Type} (a0:List ByteArray) (a1:Int) (d:Nat) (bl:List (Nat × Option aX)) (fz:List (Nat × Option aX)) (k:V→Option β) (kw:V→List (Nat × Option aX)→Option β):dM TT d bl 92 [.sl (cM cS a0),.int .i64 a1,.fn 93 []] fz k kw = (lV a0 a1).bind fun (r:Int)=>k (.d (.int .i64 r)):=by
 have h:=GR a0 a1
 exact bR h (fun _=>rfl) fz
theorem EI (a0:List Int) (a1:Int) (a2:Int) (p1:Int):cX TT m7 ⟨[(0,.d (.sl (cM cI a0))),(1,.d (.int .i64 a1)),(2,.d (.int .i64 a2)),(9,.d (.sl (cM cI a0))),(10,.d (.int .i64 (a0.length:Int))),(11,.d (.int .i64 p1))],[]⟩ (fun e s=>some (e,s)) = dV (fun (w:Int)=>(⟨[(0,.d (.sl (cM cI a0))),(1,.d (.int .i64 a1)),(2,.d (.int .i64 a2)),(9,.d (.sl (cM cI a0))),(10,.d (.int .i64 (a0.length:Int))),(11,.d (.int .i64 w))],[]⟩ : St)) (fun (r:Unit ⊕ Unit)=>Sum.elim (fun (z:Unit)=>(((.exit 0),⟨[],[]⟩):Ex × St)) (fun (z:Unit)=>((.ret,⟨[(6,.d (.bool false))],[]⟩):Ex × St)) r) (gG a0 a1 a2 p1):=by
 simp -implicitDefEqProofs (decide:=true) (maxSteps:=2000000) only [m7,gG,↓DN,↓DR,DQ,DP,↓reduceIte,Int.reduceToNat,Nat.reduceBEq,Nat.reduceAdd,Nat.reduceLT,Nat.reduceLeDiff,Nat.reduceEqDiff,Int.reduceEq,ne_eq,zN,reduceCtorEq,bL,bO,bP,zM,zA,zB,aH,zC,zD,if_true,if_false,zE,zF,aE,zG,aM,zH,zI,zJ,zK,aV,aS,aR,aW,aQ,aF,aI,aL,aG,aK,aD,aT,a9,Vm.bind_map,aJ,aU,zL]
 all_goals try simp only [bF]
 all_goals try rfl
theorem D1 {β:Type} (a0:List Int) (a1:Int) (a2:Int) (p1:Int) (k:Ex→St→Option β):cX TT wM ⟨[(0,.d (.sl (cM cI a0))),(1,.d (.int .i64 a1)),(2,.d (.int .i64 a2)),(9,.d (.sl (cM cI a0))),(10,.d (.int .i64 (a0.length:Int))),(11,.d (.int .i64 p1))],[]⟩ k = (o4 a0 a1 a2 p1).bind (fun (r:Unit ⊕ Unit)=>Sum.elim (fun (z:Unit)=>k (.exit 0) ⟨[],[]⟩) (fun (z:Unit)=>k .ret ⟨[(6,.d (.bool false))],[]⟩) r):=by
 have hh:=fun (w:Int)=>EI a0 a1 a2 w
 have h:=fun ho=>cC (T:=TT) (k:=k) (c:=m7) (step:=(fun (w:Int)=>gG a0 a1 a2 w)) _ _ ho hh p1
 refine Eq.trans (h (fun r s e=>by have q:=congrArg Prod.fst e; rcases r with x | x <;> cases q)) ?_
 unfold o4
 exact bQ _ fun x=>by rcases x with x | x <;> rfl
theorem ID (a0:List Int) (a1:Int) (a2:Int):Vm.call TT 110 [.sl (cM cI a0),.int .i64 a1,.int .i64 a2] = (gN a0 a1 a2).map fun (r:Bool)=>.bool r:=by
 refine (bX (show TT 110 = some (.code ⟨3,38,[.tmp 6],WP,false,false⟩) from rfl) _ rfl rfl).trans ?_
 show cX TT WP ⟨[(0,.d (.sl (cM cI a0))),(1,.d (.int .i64 a1)),(2,.d (.int .i64 a2))],[]⟩ _ = _
 simp -implicitDefEqProofs (decide:=true) (maxSteps:=2000000) only [WP,gN,↓D1,↓DN,↓DR,DQ,DP,↓reduceIte,Int.reduceToNat,Nat.reduceBEq,Nat.reduceAdd,Nat.reduceLT,Nat.reduceLeDiff,Nat.reduceEqDiff,Int.reduceEq,ne_eq,zN,reduceCtorEq,bL,bO,bP,zM,zA,zB,aH,zC,zD,if_true,if_false,zE,zF,aE,zG,aM,zH,zI,zJ,zK,aV,aS,aR,aW,aQ,aF,aI,aL,aG,aK,aD,aT,a9,Vm.bind_map,aJ,aU,zL]
 all_goals try simp only [bF]
 all_goals try rfl
theorem nH {β:Type} (a0:List Int) (a1:Int) (a2:Int) (d:Nat) (bl:List (Nat × Option aX)) (fz:List (Nat × Option aX)) (k:V→Option β) (kw:V→List (Nat × Option aX)→Option β):dM TT d bl 110 [.sl (cM cI a0),.int .i64 a1,.int .i64 a2] fz k kw = (gN a0 a1 a2).bind fun (r:Bool)=>k (.d (.bool r)):=by
 have h:=ID a0 a1 a2
 exact bR h (fun _=>rfl) fz
theorem GM (a0:aA) (a1:bJ) (p1:Int):cX TT oZ ⟨[(2,.ptr 2 0),(3,.ptr 3 0),(8,.d (.sl (cM cI a1.Feasts))),(9,.d (.int .i64 (a1.Feasts.length:Int))),(10,.d (.int .i64 p1))],[(2,some (.box (aC a0.cells))),(3,some (.box (aC a1.cells)))]⟩ (fun e s=>some (e,s)) = dV (fun (w:Int)=>(⟨[(2,.ptr 2 0),(3,.ptr 3 0),(8,.d (.sl (cM cI a1.Feasts))),(9,.d (.int .i64 (a1.Feasts.length:Int))),(10,.d (.int .i64 w))],[(2,some (.box (aC a0.cells))),(3,some (.box (aC a1.cells)))]⟩ : St)) (fun (r:Unit ⊕ Unit)=>Sum.elim (fun (z:Unit)=>(((.exit 0),⟨[(2,.ptr 2 0),(3,.ptr 3 0)],[(2,some (.box (aC a0.cells))),(3,some (.box (aC a1.cells)))]⟩):Ex × St)) (fun (z:Unit)=>((.ret,⟨[(4,.d (.bool false))],[]⟩):Ex × St)) r) (iU a0 a1 p1):=by
 simp -implicitDefEqProofs (decide:=true) (maxSteps:=2000000) only [oZ,iU,↓fK,↓nH,↓DN,↓DR,DQ,DP,↓reduceIte,Int.reduceToNat,Nat.reduceBEq,Nat.reduceAdd,Nat.reduceLT,Nat.reduceLeDiff,Nat.reduceEqDiff,Int.reduceEq,ne_eq,zN,reduceCtorEq,bL,bO,bP,zM,zA,zB,aH,zC,zD,if_true,if_false,zE,zF,aE,zG,aM,zH,zI,zJ,zK,aV,aS,aR,aW,aQ,aF,aI,aL,aG,aK,aD,aT,a9,Vm.bind_map,aJ,aU,zL]
 all_goals try simp only [bF]
 all_goals try rfl
theorem GY {β:Type} (a0:aA) (a1:bJ) (p1:Int) (k:Ex→St→Option β):cX TT AA ⟨[(2,.ptr 2 0),(3,.ptr 3 0),(8,.d (.sl (cM cI a1.Feasts))),(9,.d (.int .i64 (a1.Feasts.length:Int))),(10,.d (.int .i64 p1))],[(2,some (.box (aC a0.cells))),(3,some (.box (aC a1.cells)))]⟩ k = (rZ a0 a1 p1).bind (fun (r:Unit ⊕ Unit)=>Sum.elim (fun (z:Unit)=>k (.exit 0) ⟨[(2,.ptr 2 0),(3,.ptr 3 0)],[(2,some (.box (aC a0.cells))),(3,some (.box (aC a1.cells)))]⟩) (fun (z:Unit)=>k .ret ⟨[(4,.d (.bool false))],[]⟩) r):=by
 have hh:=fun (w:Int)=>GM a0 a1 w
 have h:=fun ho=>cC (T:=TT) (k:=k) (c:=oZ) (step:=(fun (w:Int)=>iU a0 a1 w)) _ _ ho hh p1
 refine Eq.trans (h (fun r s e=>by have q:=congrArg Prod.fst e; rcases r with x | x <;> cases q)) ?_
 unfold rZ
 exact bQ _ fun x=>by rcases x with x | x <;> rfl
theorem L8 (a0:aA) (a1:bJ):Vm.call TT 95 [.agg a0.cells,.agg a1.cells] = (qZ a0 a1).map fun (r:Bool)=>.bool r:=by
 refine (bX (show TT 95 = some (.code ⟨2,64,[.tmp 4],aGL,false,false⟩) from rfl) _ rfl rfl).trans ?_
 show cX TT aGL ⟨[(0,cW a0.cells),(1,cW a1.cells)],[]⟩ _ = _
 simp -implicitDefEqProofs (decide:=true) (maxSteps:=2000000) only [aGL,qZ,↓GY,↓fK,↓nH,↓DN,↓DR,DQ,DP,↓reduceIte,Int.reduceToNat,Nat.reduceBEq,Nat.reduceAdd,Nat.reduceLT,Nat.reduceLeDiff,Nat.reduceEqDiff,Int.reduceEq,ne_eq,zN,reduceCtorEq,bL,bO,bP,zM,zA,zB,aH,zC,zD,if_true,if_false,zE,zF,aE,zG,aM,zH,zI,zJ,zK,aV,aS,aR,aW,aQ,aF,aI,aL,aG,aK,aD,aT,a9,Vm.bind_map,aJ,aU,zL]
 all_goals try simp only [bF]
 all_goals try rfl
theorem LE {β:Type} (a0:aA) (a1:bJ) (d:Nat) (bl:List (Nat × Option aX)) (fz:List (Nat × Option aX)) (k:V→Option β) (kw:V→List (Nat × Option aX)→Option β):dM TT d bl 95 [.agg a0.cells,.agg a1.cells] fz k kw = (qZ a0 a1).bind fun (r:Bool)=>k (.d (.bool r)):=by
 have h:=L8 a0 a1
 exact bR h (fun _=>rfl) fz
theorem C5 (a0:Int) (a1:aA):Vm.call TT 94 [.int .i64 a0,.ptr a1.cells 0] = (jI a0 a1).map fun (r:Bool)=>.bool r:=by
 refine (bX (show TT 94 = some (.code ⟨2,11,[.tmp 3],aF8,false,false⟩) from rfl) _ rfl rfl).trans ?_
 show cX TT aF8 ⟨[(0,.d (.int .i64 a0)),(1,.d (.ptr a1.cells 0))],[]⟩ _ = _
 simp -implicitDefEqProofs (decide:=true) (maxSteps:=2000000) only [aF8,jI,↓LE,↓DN,↓DR,DQ,DP,↓reduceIte,Int.reduceToNat,Nat.reduceBEq,Nat.reduceAdd,Nat.reduceLT,Nat.reduceLeDiff,Nat.reduceEqDiff,Int.reduceEq,ne_eq,zN,reduceCtorEq,bL,bO,bP,zM,zA,zB,aH,zC,zD,if_true,if_false,zE,zF,aE,zG,aM,zH,zI,zJ,zK,aV,aS,aR,aW,aQ,aF,aI,aL,aG,aK,aD,aT,a9,Vm.bind_map,aJ,aU,zL]
 all_goals try simp only [bF]
 all_goals try rfl
theorem vI {β:Type} (a0:Int) (a1:aA) (d:Nat) (bl:List (Nat × Option aX)) (fz:List (Nat × Option aX)) (k:V→Option β) (kw:V→List (Nat × Option aX)→Option β):dM TT d bl 94 [.int .i64 a0,.ptr a1.cells 0] fz k kw = (jI a0 a1).bind fun (r:Bool)=>k (.d (.bool r)):=by
 have h:=C5 a0 a1
 exact bR h (fun _=>rfl) fz
theorem DK (a0:List ByteArray) (a2:aA) (p1:Int):cX TT dP ⟨[(0,.d (.sl (cM cS a0))),(2,.d (.fn 94 [.ptr a2.cells 0])),(14,.d (.int .i64 (a0.length:Int))),(15,.d (.int .i64 p1))],[]⟩ (fun e s=>some (e,s)) = dV (fun (w:Int)=>(⟨[(0,.d (.sl (cM cS a0))),(2,.d (.fn 94 [.ptr a2.cells 0])),(14,.d (.int .i64 (a0.length:Int))),(15,.d (.int .i64 w))],[]⟩ : St)) (fun (r:Unit ⊕ Int)=>Sum.elim (fun (z:Unit)=>(((.exit 0),⟨[],[]⟩):Ex × St)) (fun (z:Int)=>((.ret,⟨[(6,.d (.int .i64 z))],[]⟩):Ex × St)) r) (jW a0 a2 p1):=by
 simp -implicitDefEqProofs (decide:=true) (maxSteps:=2000000) only [dP,jW,↓vI,↓i7,↓DN,↓DR,DQ,DP,↓reduceIte,Int.reduceToNat,Nat.reduceBEq,Nat.reduceAdd,Nat.reduceLT,Nat.reduceLeDiff,Nat.reduceEqDiff,Int.reduceEq,ne_eq,zN,reduceCtorEq,bL,bO,bP,zM,zA,zB,aH,zC,zD,if_true,if_false,zE,zF,aE,zG,aM,zH,zI,zJ,zK,aV,aS,aR,aW,aQ,aF,aI,aL,aG,aK,aD,aT,a9,Vm.bind_map,aJ,aU,zL]
 all_goals try simp only [bF]
 all_goals try rfl
theorem DH {β:Type} (a0:List ByteArray) (a2:aA) (p1:Int) (k:Ex→St→Option β):cX TT lU ⟨[(0,.d (.sl (cM cS a0))),(2,.d (.fn 94 [.ptr a2.cells 0])),(14,.d (.int .i64 (a0.length:Int))),(15,.d (.int .i64 p1))],[]⟩ k = (rD a0 a2 p1).bind (fun (r:Unit ⊕ Int)=>Sum.elim (fun (z:Unit)=>k (.exit 0) ⟨[],[]⟩) (fun (z:Int)=>k .ret ⟨[(6,.d (.int .i64 z))],[]⟩) r):=by
 have hh:=fun (w:Int)=>DK a0 a2 w
 have h:=fun ho=>cC (T:=TT) (k:=k) (c:=dP) (step:=(fun (w:Int)=>jW a0 a2 w)) _ _ ho hh p1
 refine Eq.trans (h (fun r s e=>by have q:=congrArg Prod.fst e; rcases r with x | x <;> cases q)) ?_
 unfold rD
 exact bQ _ fun x=>by rcases x with x | x <;> rfl
theorem GC (a0:List ByteArray) (a1:Int) (a2:aA):Vm.call TT 92 [.sl (cM cS a0),.int .i64 a1,.fn 94 [.ptr a2.cells 0]] = (mH a0 a1 a2).map fun (r:Int)=>.int .i64 r:=by
 refine (bX (show TT 92 = some (.code ⟨3,29,[.tmp 6],GI,false,false⟩) from rfl) _ rfl rfl).trans ?_
 show cX TT GI ⟨[(0,.d (.sl (cM cS a0))),(1,.d (.int .i64 a1)),(2,.d (.fn 94 [.ptr a2.cells 0]))],[]⟩ _ = _
 simp -implicitDefEqProofs (decide:=true) (maxSteps:=2000000) only [GI,mH,↓DH,↓vI,↓i7,↓DN,↓DR,DQ,DP,↓reduceIte,Int.reduceToNat,Nat.reduceBEq,Nat.reduceAdd,Nat.reduceLT,Nat.reduceLeDiff,Nat.reduceEqDiff,Int.reduceEq,ne_eq,zN,reduceCtorEq,bL,bO,bP,zM,zA,zB,aH,zC,zD,if_true,if_false,zE,zF,aE,zG,aM,zH,zI,zJ,zK,aV,aS,aR,aW,aQ,aF,aI,aL,aG,aK,aD,aT,a9,Vm.bind_map,aJ,aU,zL]
 all_goals try simp only [bF]
 all_goals try rfl
theorem yU {β:Type} (a0:List ByteArray) (a1:Int) (a2:aA) (d:Nat) (bl:List (Nat × Option aX)) (fz:List (Nat × Option aX)) (k:V→Option β) (kw:V→List (Nat × Option aX)→Option β):dM TT d bl 92 [.sl (cM cS a0),.int .i64 a1,.fn 94 [.ptr a2.cells 0]] fz k kw = (mH a0 a1 a2).bind fun (r:Int)=>k (.d (.int .i64 r)):=by
 have h:=GC a0 a1 a2
 exact bR h (fun _=>rfl) fz
theorem C7 (a0:Int) (a1:aA):Vm.call TT 96 [.int .i64 a0,.ptr a1.cells 0] = (jJ a0 a1).map fun (r:Bool)=>.bool r:=by
 refine (bX (show TT 96 = some (.code ⟨2,26,[.tmp 3],aE7,false,false⟩) from rfl) _ rfl rfl).trans ?_
 show cX TT aE7 ⟨[(0,.d (.int .i64 a0)),(1,.d (.ptr a1.cells 0))],[]⟩ _ = _
 simp -implicitDefEqProofs (decide:=true) (maxSteps:=2000000) only [aE7,jJ,↓fK,↓DN,↓DR,DQ,DP,↓reduceIte,Int.reduceToNat,Nat.reduceBEq,Nat.reduceAdd,Nat.reduceLT,Nat.reduceLeDiff,Nat.reduceEqDiff,Int.reduceEq,ne_eq,zN,reduceCtorEq,bL,bO,bP,zM,zA,zB,aH,zC,zD,if_true,if_false,zE,zF,aE,zG,aM,zH,zI,zJ,zK,aV,aS,aR,aW,aQ,aF,aI,aL,aG,aK,aD,aT,a9,Vm.bind_map,aJ,aU,zL]
 all_goals try simp only [bF]
 all_goals try rfl
theorem vE {β:Type} (a0:Int) (a1:aA) (d:Nat) (bl:List (Nat × Option aX)) (fz:List (Nat × Option aX)) (k:V→Option β) (kw:V→List (Nat × Option aX)→Option β):dM TT d bl 96 [.int .i64 a0,.ptr a1.cells 0] fz k kw = (jJ a0 a1).bind fun (r:Bool)=>k (.d (.bool r)):=by
 have h:=C7 a0 a1
 exact bR h (fun _=>rfl) fz
theorem DG (a0:List ByteArray) (a2:aA) (p1:Int):cX TT dP ⟨[(0,.d (.sl (cM cS a0))),(2,.d (.fn 96 [.ptr a2.cells 0])),(14,.d (.int .i64 (a0.length:Int))),(15,.d (.int .i64 p1))],[]⟩ (fun e s=>some (e,s)) = dV (fun (w:Int)=>(⟨[(0,.d (.sl (cM cS a0))),(2,.d (.fn 96 [.ptr a2.cells 0])),(14,.d (.int .i64 (a0.length:Int))),(15,.d (.int .i64 w))],[]⟩ : St)) (fun (r:Unit ⊕ Int)=>Sum.elim (fun (z:Unit)=>(((.exit 0),⟨[],[]⟩):Ex × St)) (fun (z:Int)=>((.ret,⟨[(6,.d (.int .i64 z))],[]⟩):Ex × St)) r) (jV a0 a2 p1):=by
 simp -implicitDefEqProofs (decide:=true) (maxSteps:=2000000) only [dP,jV,↓vE,↓i7,↓DN,↓DR,DQ,DP,↓reduceIte,Int.reduceToNat,Nat.reduceBEq,Nat.reduceAdd,Nat.reduceLT,Nat.reduceLeDiff,Nat.reduceEqDiff,Int.reduceEq,ne_eq,zN,reduceCtorEq,bL,bO,bP,zM,zA,zB,aH,zC,zD,if_true,if_false,zE,zF,aE,zG,aM,zH,zI,zJ,zK,aV,aS,aR,aW,aQ,aF,aI,aL,aG,aK,aD,aT,a9,Vm.bind_map,aJ,aU,zL]
 all_goals try simp only [bF]
 all_goals try rfl
theorem C1 {β:Type} (a0:List ByteArray) (a2:aA) (p1:Int) (k:Ex→St→Option β):cX TT lU ⟨[(0,.d (.sl (cM cS a0))),(2,.d (.fn 96 [.ptr a2.cells 0])),(14,.d (.int .i64 (a0.length:Int))),(15,.d (.int .i64 p1))],[]⟩ k = (sF a0 a2 p1).bind (fun (r:Unit ⊕ Int)=>Sum.elim (fun (z:Unit)=>k (.exit 0) ⟨[],[]⟩) (fun (z:Int)=>k .ret ⟨[(6,.d (.int .i64 z))],[]⟩) r):=by
 have hh:=fun (w:Int)=>DG a0 a2 w
 have h:=fun ho=>cC (T:=TT) (k:=k) (c:=dP) (step:=(fun (w:Int)=>jV a0 a2 w)) _ _ ho hh p1
 refine Eq.trans (h (fun r s e=>by have q:=congrArg Prod.fst e; rcases r with x | x <;> cases q)) ?_
 unfold sF
 exact bQ _ fun x=>by rcases x with x | x <;> rfl
theorem GG (a0:List ByteArray) (a1:Int) (a2:aA):Vm.call TT 92 [.sl (cM cS a0),.int .i64 a1,.fn 96 [.ptr a2.cells 0]] = (mI a0 a1 a2).map fun (r:Int)=>.int .i64 r:=by
 refine (bX (show TT 92 = some (.code ⟨3,29,[.tmp 6],GI,false,false⟩) from rfl) _ rfl rfl).trans ?_
 show cX TT GI ⟨[(0,.d (.sl (cM cS a0))),(1,.d (.int .i64 a1)),(2,.d (.fn 96 [.ptr a2.cells 0]))],[]⟩ _ = _
 simp -implicitDefEqProofs (decide:=true) (maxSteps:=2000000) only [GI,mI,↓C1,↓vE,↓i7,↓DN,↓DR,DQ,DP,↓reduceIte,Int.reduceToNat,Nat.reduceBEq,Nat.reduceAdd,Nat.reduceLT,Nat.reduceLeDiff,Nat.reduceEqDiff,Int.reduceEq,ne_eq,zN,reduceCtorEq,bL,bO,bP,zM,zA,zB,aH,zC,zD,if_true,if_false,zE,zF,aE,zG,aM,zH,zI,zJ,zK,aV,aS,aR,aW,aQ,aF,aI,aL,aG,aK,aD,aT,a9,Vm.bind_map,aJ,aU,zL]
 all_goals try simp only [bF]
 all_goals try rfl
theorem zW {β:Type} (a0:List ByteArray) (a1:Int) (a2:aA) (d:Nat) (bl:List (Nat × Option aX)) (fz:List (Nat × Option aX)) (k:V→Option β) (kw:V→List (Nat × Option aX)→Option β):dM TT d bl 92 [.sl (cM cS a0),.int .i64 a1,.fn 96 [.ptr a2.cells 0]] fz k kw = (mI a0 a1 a2).bind fun (r:Int)=>k (.d (.int .i64 r)):=by
 have h:=GG a0 a1 a2
 exact bR h (fun _=>rfl) fz
theorem EW (a0:bC) (p1:Int) (p2:List Int):cX TT n6 ⟨[(1,.ptr 1 0),(3,.own 20 0),(4,.nil),(10,.d (.sl (cM bE.cells a0.Choices))),(11,.d (.int .i64 (a0.Choices.length:Int))),(12,.d (.int .i64 p1))],[(1,some (.box (aC a0.cells))),(20,some (.rows 0 3 1 (cM cI p2)))]⟩ (fun e s=>some (e,s)) = dV (fun (w:Int × (List Int))=>(⟨[(1,.ptr 1 0),(3,.own 20 0),(4,.nil),(10,.d (.sl (cM bE.cells a0.Choices))),(11,.d (.int .i64 (a0.Choices.length:Int))),(12,.d (.int .i64 w.1))],[(1,some (.box (aC a0.cells))),(20,some (.rows 0 3 1 (cM cI w.2)))]⟩ : St)) (fun (r:((List Int)) ⊕ Unit)=>Sum.elim (fun (z:(List Int))=>(((.exit 0),⟨[(1,.ptr 1 0),(3,.own 20 0),(4,.nil)],[(1,some (.box (aC a0.cells))),(20,some (.rows 0 3 1 (cM cI z)))]⟩):Ex × St)) (fun (z:Unit)=>((.ret,⟨[(2,.d (.bool false))],[]⟩):Ex × St)) r) (gW a0 p1 p2):=by
 simp -implicitDefEqProofs (decide:=true) (maxSteps:=2000000) only [n6,gW,↓fK,↓nH,↓DN,↓DR,DQ,DP,↓reduceIte,Int.reduceToNat,Nat.reduceBEq,Nat.reduceAdd,Nat.reduceLT,Nat.reduceLeDiff,Nat.reduceEqDiff,Int.reduceEq,ne_eq,zN,reduceCtorEq,bL,bO,bP,zM,zA,zB,aH,zC,zD,if_true,if_false,zE,zF,aE,zG,aM,zH,zI,zJ,zK,aV,aS,aR,aW,aQ,aF,aI,aL,aG,aK,aD,aT,a9,Vm.bind_map,aJ,aU,zL]
 all_goals try simp only [bF]
 all_goals try rfl
theorem xS {β:Type} (a0:bC) (p1:Int) (p2:List Int) (k:Ex→St→Option β):cX TT xM ⟨[(1,.ptr 1 0),(3,.own 20 0),(4,.nil),(10,.d (.sl (cM bE.cells a0.Choices))),(11,.d (.int .i64 (a0.Choices.length:Int))),(12,.d (.int .i64 p1))],[(1,some (.box (aC a0.cells))),(20,some (.rows 0 3 1 (cM cI p2)))]⟩ k = (pY a0 p1 p2).bind (fun (r:((List Int)) ⊕ Unit)=>Sum.elim (fun (z:(List Int))=>k (.exit 0) ⟨[(1,.ptr 1 0),(3,.own 20 0),(4,.nil)],[(1,some (.box (aC a0.cells))),(20,some (.rows 0 3 1 (cM cI z)))]⟩) (fun (z:Unit)=>k .ret ⟨[(2,.d (.bool false))],[]⟩) r):=by
 have hh:=fun (w:Int × (List Int))=>EW a0 w.1 w.2
 have h:=fun ho=>cC (T:=TT) (k:=k) (c:=n6) (step:=(fun (w:Int × (List Int))=>gW a0 w.1 w.2)) _ _ ho hh (p1,p2)
 refine Eq.trans (h (fun r s e=>by have q:=congrArg Prod.fst e; rcases r with x | x <;> cases q)) ?_
 unfold pY
 exact bQ _ fun x=>by rcases x with x | x <;> rfl
theorem FY (a0:bC) (z7:(List Int)) (p9:Int) (p10:List Int):cX TT oB ⟨[(3,.own 20 0),(4,.own 37 0),(27,.d (.sl (cM bW.cells a0.Rules))),(28,.d (.int .i64 (a0.Rules.length:Int))),(29,.d (.int .i64 p9))],[(20,some (.rows 0 3 1 (cM cI z7))),(37,some (.rows 0 3 1 (cM cI p10)))]⟩ (fun e s=>some (e,s)) = dV (fun (w:Int × (List Int))=>(⟨[(3,.own 20 0),(4,.own 37 0),(27,.d (.sl (cM bW.cells a0.Rules))),(28,.d (.int .i64 (a0.Rules.length:Int))),(29,.d (.int .i64 w.1))],[(20,some (.rows 0 3 1 (cM cI z7))),(37,some (.rows 0 3 1 (cM cI w.2)))]⟩ : St)) (fun (r:(List Int))=>(((.exit 2),⟨[(3,.own 20 0),(4,.own 37 0)],[(20,some (.rows 0 3 1 (cM cI z7))),(37,some (.rows 0 3 1 (cM cI r)))]⟩):Ex × St)) (gX a0 z7 p9 p10):=by
 simp -implicitDefEqProofs (decide:=true) (maxSteps:=2000000) only [oB,gX,↓xS,↓fK,↓nH,↓DN,↓DR,DQ,DP,↓reduceIte,Int.reduceToNat,Nat.reduceBEq,Nat.reduceAdd,Nat.reduceLT,Nat.reduceLeDiff,Nat.reduceEqDiff,Int.reduceEq,ne_eq,zN,reduceCtorEq,bL,bO,bP,zM,zA,zB,aH,zC,zD,if_true,if_false,zE,zF,aE,zG,aM,zH,zI,zJ,zK,aV,aS,aR,aW,aQ,aF,aI,aL,aG,aK,aD,aT,a9,Vm.bind_map,aJ,aU,zL]
 all_goals try simp only [bF]
 all_goals try rfl
theorem E6 {β:Type} (a0:bC) (z7:(List Int)) (p9:Int) (p10:List Int) (k:Ex→St→Option β):cX TT xY ⟨[(3,.own 20 0),(4,.own 37 0),(27,.d (.sl (cM bW.cells a0.Rules))),(28,.d (.int .i64 (a0.Rules.length:Int))),(29,.d (.int .i64 p9))],[(20,some (.rows 0 3 1 (cM cI z7))),(37,some (.rows 0 3 1 (cM cI p10)))]⟩ k = (qG a0 z7 p9 p10).bind (fun (r:(List Int))=>k (.exit 2) ⟨[(3,.own 20 0),(4,.own 37 0)],[(20,some (.rows 0 3 1 (cM cI z7))),(37,some (.rows 0 3 1 (cM cI r)))]⟩):=by
 have hh:=fun (w:Int × (List Int))=>FY a0 z7 w.1 w.2
 have h:=fun ho=>cC (T:=TT) (k:=k) (c:=oB) (step:=(fun (w:Int × (List Int))=>gX a0 z7 w.1 w.2)) _ _ ho hh (p9,p10)
 refine Eq.trans (h (fun r s e=>by have q:=congrArg Prod.fst e; rcases r with x <;> cases q)) ?_
 unfold qG
 exact bQ _ fun x=>by rcases x with x <;> rfl
theorem KN (a0:bC):Vm.call TT 98 [.agg a0.cells] = (o9 a0).map fun (r:Bool)=>.bool r:=by
 refine (bX (show TT 98 = some (.code ⟨1,45,[.tmp 2],aEh,false,false⟩) from rfl) _ rfl rfl).trans ?_
 show cX TT aEh ⟨[(0,cW a0.cells)],[]⟩ _ = _
 simp -implicitDefEqProofs (decide:=true) (maxSteps:=2000000) only [aEh,o9,↓xS,↓E6,↓fK,↓nH,↓DN,↓DR,DQ,DP,↓reduceIte,Int.reduceToNat,Nat.reduceBEq,Nat.reduceAdd,Nat.reduceLT,Nat.reduceLeDiff,Nat.reduceEqDiff,Int.reduceEq,ne_eq,zN,reduceCtorEq,bL,bO,bP,zM,zA,zB,aH,zC,zD,if_true,if_false,zE,zF,aE,zG,aM,zH,zI,zJ,zK,aV,aS,aR,aW,aQ,aF,aI,aL,aG,aK,aD,aT,a9,Vm.bind_map,aJ,aU,zL]
 all_goals try simp only [bF]
 all_goals try rfl
theorem JD {β:Type} (a0:bC) (d:Nat) (bl:List (Nat × Option aX)) (fz:List (Nat × Option aX)) (k:V→Option β) (kw:V→List (Nat × Option aX)→Option β):dM TT d bl 98 [.agg a0.cells] fz k kw = (o9 a0).bind fun (r:Bool)=>k (.d (.bool r)):=by
 have h:=KN a0
 exact bR h (fun _=>rfl) fz
theorem DF (a0:Int) (a1:aA):Vm.call TT 97 [.int .i64 a0,.ptr a1.cells 0] = (jG a0 a1).map fun (r:Bool)=>.bool r:=by
 refine (bX (show TT 97 = some (.code ⟨2,10,[.tmp 3],aEA,false,false⟩) from rfl) _ rfl rfl).trans ?_
 show cX TT aEA ⟨[(0,.d (.int .i64 a0)),(1,.d (.ptr a1.cells 0))],[]⟩ _ = _
 simp -implicitDefEqProofs (decide:=true) (maxSteps:=2000000) only [aEA,jG,↓JD,↓DN,↓DR,DQ,DP,↓reduceIte,Int.reduceToNat,Nat.reduceBEq,Nat.reduceAdd,Nat.reduceLT,Nat.reduceLeDiff,Nat.reduceEqDiff,Int.reduceEq,ne_eq,zN,reduceCtorEq,bL,bO,bP,zM,zA,zB,aH,zC,zD,if_true,if_false,zE,zF,aE,zG,aM,zH,zI,zJ,zK,aV,aS,aR,aW,aQ,aF,aI,aL,aG,aK,aD,aT,a9,Vm.bind_map,aJ,aU,zL]
 all_goals try simp only [bF]
 all_goals try rfl
theorem vJ {β:Type} (a0:Int) (a1:aA) (d:Nat) (bl:List (Nat × Option aX)) (fz:List (Nat × Option aX)) (k:V→Option β) (kw:V→List (Nat × Option aX)→Option β):dM TT d bl 97 [.int .i64 a0,.ptr a1.cells 0] fz k kw = (jG a0 a1).bind fun (r:Bool)=>k (.d (.bool r)):=by
 have h:=DF a0 a1
 exact bR h (fun _=>rfl) fz
theorem DB (a0:List ByteArray) (a2:aA) (p1:Int):cX TT dP ⟨[(0,.d (.sl (cM cS a0))),(2,.d (.fn 97 [.ptr a2.cells 0])),(14,.d (.int .i64 (a0.length:Int))),(15,.d (.int .i64 p1))],[]⟩ (fun e s=>some (e,s)) = dV (fun (w:Int)=>(⟨[(0,.d (.sl (cM cS a0))),(2,.d (.fn 97 [.ptr a2.cells 0])),(14,.d (.int .i64 (a0.length:Int))),(15,.d (.int .i64 w))],[]⟩ : St)) (fun (r:Unit ⊕ Int)=>Sum.elim (fun (z:Unit)=>(((.exit 0),⟨[],[]⟩):Ex × St)) (fun (z:Int)=>((.ret,⟨[(6,.d (.int .i64 z))],[]⟩):Ex × St)) r) (jU a0 a2 p1):=by
 simp -implicitDefEqProofs (decide:=true) (maxSteps:=2000000) only [dP,jU,↓vJ,↓i7,↓DN,↓DR,DQ,DP,↓reduceIte,Int.reduceToNat,Nat.reduceBEq,Nat.reduceAdd,Nat.reduceLT,Nat.reduceLeDiff,Nat.reduceEqDiff,Int.reduceEq,ne_eq,zN,reduceCtorEq,bL,bO,bP,zM,zA,zB,aH,zC,zD,if_true,if_false,zE,zF,aE,zG,aM,zH,zI,zJ,zK,aV,aS,aR,aW,aQ,aF,aI,aL,aG,aK,aD,aT,a9,Vm.bind_map,aJ,aU,zL]
 all_goals try simp only [bF]
 all_goals try rfl
theorem DL {β:Type} (a0:List ByteArray) (a2:aA) (p1:Int) (k:Ex→St→Option β):cX TT lU ⟨[(0,.d (.sl (cM cS a0))),(2,.d (.fn 97 [.ptr a2.cells 0])),(14,.d (.int .i64 (a0.length:Int))),(15,.d (.int .i64 p1))],[]⟩ k = (sM a0 a2 p1).bind (fun (r:Unit ⊕ Int)=>Sum.elim (fun (z:Unit)=>k (.exit 0) ⟨[],[]⟩) (fun (z:Int)=>k .ret ⟨[(6,.d (.int .i64 z))],[]⟩) r):=by
 have hh:=fun (w:Int)=>DB a0 a2 w
 have h:=fun ho=>cC (T:=TT) (k:=k) (c:=dP) (step:=(fun (w:Int)=>jU a0 a2 w)) _ _ ho hh p1
 refine Eq.trans (h (fun r s e=>by have q:=congrArg Prod.fst e; rcases r with x | x <;> cases q)) ?_
 unfold sM
 exact bQ _ fun x=>by rcases x with x | x <;> rfl
theorem GT (a0:List ByteArray) (a1:Int) (a2:aA):Vm.call TT 92 [.sl (cM cS a0),.int .i64 a1,.fn 97 [.ptr a2.cells 0]] = (mA a0 a1 a2).map fun (r:Int)=>.int .i64 r:=by
 refine (bX (show TT 92 = some (.code ⟨3,29,[.tmp 6],GI,false,false⟩) from rfl) _ rfl rfl).trans ?_
 show cX TT GI ⟨[(0,.d (.sl (cM cS a0))),(1,.d (.int .i64 a1)),(2,.d (.fn 97 [.ptr a2.cells 0]))],[]⟩ _ = _
 simp -implicitDefEqProofs (decide:=true) (maxSteps:=2000000) only [GI,mA,↓DL,↓vJ,↓i7,↓DN,↓DR,DQ,DP,↓reduceIte,Int.reduceToNat,Nat.reduceBEq,Nat.reduceAdd,Nat.reduceLT,Nat.reduceLeDiff,Nat.reduceEqDiff,Int.reduceEq,ne_eq,zN,reduceCtorEq,bL,bO,bP,zM,zA,zB,aH,zC,zD,if_true,if_false,zE,zF,aE,zG,aM,zH,zI,zJ,zK,aV,aS,aR,aW,aQ,aF,aI,aL,aG,aK,aD,aT,a9,Vm.bind_map,aJ,aU,zL]
 all_goals try simp only [bF]
 all_goals try rfl
theorem yR {β:Type} (a0:List ByteArray) (a1:Int) (a2:aA) (d:Nat) (bl:List (Nat × Option aX)) (fz:List (Nat × Option aX)) (k:V→Option β) (kw:V→List (Nat × Option aX)→Option β):dM TT d bl 92 [.sl (cM cS a0),.int .i64 a1,.fn 97 [.ptr a2.cells 0]] fz k kw = (mA a0 a1 a2).bind fun (r:Int)=>k (.d (.int .i64 r)):=by
 have h:=GT a0 a1 a2
 exact bR h (fun _=>rfl) fz
theorem C4 (a0:aA) (p1:Int) (x2:bA) (p5:Int):cX TT lR ⟨[(1,.ptr 1 0),(4,.ptr 4 0),(12,.d (.sl (cM bA.cells a0.Usances))),(13,.d (.int .i64 (a0.Usances.length:Int))),(14,.d (.int .i64 p1)),(48,.d (.sl (cM bA.cells (dB a0.Usances 0 p1)))),(49,.d (.int .i64 ((dB a0.Usances 0 p1).length:Int))),(50,.d (.int .i64 p5))],[(1,some (.box (aC a0.cells))),(4,some (.box (aC x2.cells)))]⟩ (fun e s=>some (e,s)) = dV (fun (w:Int)=>(⟨[(1,.ptr 1 0),(4,.ptr 4 0),(12,.d (.sl (cM bA.cells a0.Usances))),(13,.d (.int .i64 (a0.Usances.length:Int))),(14,.d (.int .i64 p1)),(48,.d (.sl (cM bA.cells (dB a0.Usances 0 p1)))),(49,.d (.int .i64 ((dB a0.Usances 0 p1).length:Int))),(50,.d (.int .i64 w))],[(1,some (.box (aC a0.cells))),(4,some (.box (aC x2.cells)))]⟩ : St)) (fun (r:Unit ⊕ Unit)=>Sum.elim (fun (z:Unit)=>(((.exit 2),⟨[(1,.ptr 1 0),(12,.d (.sl (cM bA.cells a0.Usances))),(13,.d (.int .i64 (a0.Usances.length:Int))),(14,.d (.int .i64 p1))],[(1,some (.box (aC a0.cells)))]⟩):Ex × St)) (fun (z:Unit)=>((.ret,⟨[(2,.d (.int .i64 5))],[]⟩):Ex × St)) r) (fR a0 p1 x2 p5):=by
 simp -implicitDefEqProofs (decide:=true) (maxSteps:=2000000) only [lR,fR,↓fK,↓DN,↓DR,DQ,DP,↓reduceIte,Int.reduceToNat,Nat.reduceBEq,Nat.reduceAdd,Nat.reduceLT,Nat.reduceLeDiff,Nat.reduceEqDiff,Int.reduceEq,ne_eq,zN,reduceCtorEq,bL,bO,bP,zM,zA,zB,aH,zC,zD,if_true,if_false,zE,zF,aE,zG,aM,zH,zI,zJ,zK,aV,aS,aR,aW,aQ,aF,aI,aL,aG,aK,aD,aT,a9,Vm.bind_map,aJ,aU,zL]
 all_goals try simp only [bF]
 all_goals try rfl
theorem vG {β:Type} (a0:aA) (p1:Int) (x2:bA) (p5:Int) (k:Ex→St→Option β):cX TT vM ⟨[(1,.ptr 1 0),(4,.ptr 4 0),(12,.d (.sl (cM bA.cells a0.Usances))),(13,.d (.int .i64 (a0.Usances.length:Int))),(14,.d (.int .i64 p1)),(48,.d (.sl (cM bA.cells (dB a0.Usances 0 p1)))),(49,.d (.int .i64 ((dB a0.Usances 0 p1).length:Int))),(50,.d (.int .i64 p5))],[(1,some (.box (aC a0.cells))),(4,some (.box (aC x2.cells)))]⟩ k = (nR a0 p1 x2 p5).bind (fun (r:Unit ⊕ Unit)=>Sum.elim (fun (z:Unit)=>k (.exit 2) ⟨[(1,.ptr 1 0),(12,.d (.sl (cM bA.cells a0.Usances))),(13,.d (.int .i64 (a0.Usances.length:Int))),(14,.d (.int .i64 p1))],[(1,some (.box (aC a0.cells)))]⟩) (fun (z:Unit)=>k .ret ⟨[(2,.d (.int .i64 5))],[]⟩) r):=by
 have hh:=fun (w:Int)=>C4 a0 p1 x2 w
 have h:=fun ho=>cC (T:=TT) (k:=k) (c:=lR) (step:=(fun (w:Int)=>fR a0 p1 x2 w)) _ _ ho hh p5
 refine Eq.trans (h (fun r s e=>by have q:=congrArg Prod.fst e; rcases r with x | x <;> cases q)) ?_
 unfold nR
 exact bQ _ fun x=>by rcases x with x | x <;> rfl
theorem C2 (a0:aA) (p1:Int):cX TT lQ ⟨[(1,.ptr 1 0),(12,.d (.sl (cM bA.cells a0.Usances))),(13,.d (.int .i64 (a0.Usances.length:Int))),(14,.d (.int .i64 p1))],[(1,some (.box (aC a0.cells)))]⟩ (fun e s=>some (e,s)) = dV (fun (w:Int)=>(⟨[(1,.ptr 1 0),(12,.d (.sl (cM bA.cells a0.Usances))),(13,.d (.int .i64 (a0.Usances.length:Int))),(14,.d (.int .i64 w))],[(1,some (.box (aC a0.cells)))]⟩ : St)) (fun (r:Unit ⊕ Int)=>Sum.elim (fun (z:Unit)=>(((.exit 0),⟨[],[]⟩):Ex × St)) (fun (z:Int)=>((.ret,⟨[(2,.d (.int .i64 z))],[]⟩):Ex × St)) r) (fQ a0 p1):=by
 simp -implicitDefEqProofs (decide:=true) (maxSteps:=2000000) only [lQ,fQ,↓vG,↓fK,↓DN,↓DR,DQ,DP,↓reduceIte,Int.reduceToNat,Nat.reduceBEq,Nat.reduceAdd,Nat.reduceLT,Nat.reduceLeDiff,Nat.reduceEqDiff,Int.reduceEq,ne_eq,zN,reduceCtorEq,bL,bO,bP,zM,zA,zB,aH,zC,zD,if_true,if_false,zE,zF,aE,zG,aM,zH,zI,zJ,zK,aV,aS,aR,aW,aQ,aF,aI,aL,aG,aK,aD,aT,a9,Vm.bind_map,aJ,aU,zL]
 all_goals try simp only [bF]
 all_goals try rfl
theorem DI {β:Type} (a0:aA) (p1:Int) (k:Ex→St→Option β):cX TT vK ⟨[(1,.ptr 1 0),(12,.d (.sl (cM bA.cells a0.Usances))),(13,.d (.int .i64 (a0.Usances.length:Int))),(14,.d (.int .i64 p1))],[(1,some (.box (aC a0.cells)))]⟩ k = (rK a0 p1).bind (fun (r:Unit ⊕ Int)=>Sum.elim (fun (z:Unit)=>k (.exit 0) ⟨[],[]⟩) (fun (z:Int)=>k .ret ⟨[(2,.d (.int .i64 z))],[]⟩) r):=by
 have hh:=fun (w:Int)=>C2 a0 w
 have h:=fun ho=>cC (T:=TT) (k:=k) (c:=lQ) (step:=(fun (w:Int)=>fQ a0 w)) _ _ ho hh p1
 refine Eq.trans (h (fun r s e=>by have q:=congrArg Prod.fst e; rcases r with x | x <;> cases q)) ?_
 unfold rK
 exact bQ _ fun x=>by rcases x with x | x <;> rfl
theorem GX (a0:aA):Vm.call TT 99 [.agg a0.cells] = (mD a0).map fun (r:Int)=>.int .i64 r:=by
 refine (bX (show TT 99 = some (.code ⟨1,68,[.tmp 2],aGG,false,false⟩) from rfl) _ rfl rfl).trans ?_
 show cX TT aGG ⟨[(0,cW a0.cells)],[]⟩ _ = _
 simp -implicitDefEqProofs (decide:=true) (maxSteps:=2000000) only [aGG,mD,↓vG,↓DI,↓fK,↓DN,↓DR,DQ,DP,↓reduceIte,Int.reduceToNat,Nat.reduceBEq,Nat.reduceAdd,Nat.reduceLT,Nat.reduceLeDiff,Nat.reduceEqDiff,Int.reduceEq,ne_eq,zN,reduceCtorEq,bL,bO,bP,zM,zA,zB,aH,zC,zD,if_true,if_false,zE,zF,aE,zG,aM,zH,zI,zJ,zK,aV,aS,aR,aW,aQ,aF,aI,aL,aG,aK,aD,aT,a9,Vm.bind_map,aJ,aU,zL]
 all_goals try simp only [bF]
 all_goals try rfl
theorem yN {β:Type} (a0:aA) (d:Nat) (bl:List (Nat × Option aX)) (fz:List (Nat × Option aX)) (k:V→Option β) (kw:V→List (Nat × Option aX)→Option β):dM TT d bl 99 [.agg a0.cells] fz k kw = (mD a0).bind fun (r:Int)=>k (.d (.int .i64 r)):=by
 have h:=GX a0
 exact bR h (fun _=>rfl) fz
theorem F6 (a0:aA) (p1:Int):cX TT o6 ⟨[(1,.ptr 1 0),(12,.d (.sl (cM bV.cells a0.Rates))),(13,.d (.int .i64 (a0.Rates.length:Int))),(14,.d (.int .i64 p1))],[(1,some (.box (aC a0.cells)))]⟩ (fun e s=>some (e,s)) = dV (fun (w:Int)=>(⟨[(1,.ptr 1 0),(12,.d (.sl (cM bV.cells a0.Rates))),(13,.d (.int .i64 (a0.Rates.length:Int))),(14,.d (.int .i64 w))],[(1,some (.box (aC a0.cells)))]⟩ : St)) (fun (r:Unit ⊕ Unit)=>Sum.elim (fun (z:Unit)=>(((.exit 0),⟨[(1,.ptr 1 0)],[(1,some (.box (aC a0.cells)))]⟩):Ex × St)) (fun (z:Unit)=>((.ret,⟨[(2,.d (.int .i64 1))],[]⟩):Ex × St)) r) (iQ a0 p1):=by
 simp -implicitDefEqProofs (decide:=true) (maxSteps:=2000000) only [o6,iQ,↓fK,↓DN,↓DR,DQ,DP,↓reduceIte,Int.reduceToNat,Nat.reduceBEq,Nat.reduceAdd,Nat.reduceLT,Nat.reduceLeDiff,Nat.reduceEqDiff,Int.reduceEq,ne_eq,zN,reduceCtorEq,bL,bO,bP,zM,zA,zB,aH,zC,zD,if_true,if_false,zE,zF,aE,zG,aM,zH,zI,zJ,zK,aV,aS,aR,aW,aQ,aF,aI,aL,aG,aK,aD,aT,a9,Vm.bind_map,aJ,aU,zL]
 all_goals try simp only [bF]
 all_goals try rfl
theorem zZ {β:Type} (a0:aA) (p1:Int) (k:Ex→St→Option β):cX TT zS ⟨[(1,.ptr 1 0),(12,.d (.sl (cM bV.cells a0.Rates))),(13,.d (.int .i64 (a0.Rates.length:Int))),(14,.d (.int .i64 p1))],[(1,some (.box (aC a0.cells)))]⟩ k = (rR a0 p1).bind (fun (r:Unit ⊕ Unit)=>Sum.elim (fun (z:Unit)=>k (.exit 0) ⟨[(1,.ptr 1 0)],[(1,some (.box (aC a0.cells)))]⟩) (fun (z:Unit)=>k .ret ⟨[(2,.d (.int .i64 1))],[]⟩) r):=by
 have hh:=fun (w:Int)=>F6 a0 w
 have h:=fun ho=>cC (T:=TT) (k:=k) (c:=o6) (step:=(fun (w:Int)=>iQ a0 w)) _ _ ho hh p1
 refine Eq.trans (h (fun r s e=>by have q:=congrArg Prod.fst e; rcases r with x | x <;> cases q)) ?_
 unfold rR
 exact bQ _ fun x=>by rcases x with x | x <;> rfl
theorem GZ (a0:aA) (p11:Int):cX TT o0 ⟨[(1,.ptr 1 0),(67,.d (.sl (cM bZ.cells a0.Halts))),(68,.d (.int .i64 (a0.Halts.length:Int))),(69,.d (.int .i64 p11))],[(1,some (.box (aC a0.cells)))]⟩ (fun e s=>some (e,s)) = dV (fun (w:Int)=>(⟨[(1,.ptr 1 0),(67,.d (.sl (cM bZ.cells a0.Halts))),(68,.d (.int .i64 (a0.Halts.length:Int))),(69,.d (.int .i64 w))],[(1,some (.box (aC a0.cells)))]⟩ : St)) (fun (r:Unit ⊕ Unit)=>Sum.elim (fun (z:Unit)=>(((.exit 2),⟨[],[]⟩):Ex × St)) (fun (z:Unit)=>((.ret,⟨[(2,.d (.int .i64 1))],[]⟩):Ex × St)) r) (iS a0 p11):=by
 simp -implicitDefEqProofs (decide:=true) (maxSteps:=2000000) only [o0,iS,↓zZ,↓fK,↓DN,↓DR,DQ,DP,↓reduceIte,Int.reduceToNat,Nat.reduceBEq,Nat.reduceAdd,Nat.reduceLT,Nat.reduceLeDiff,Nat.reduceEqDiff,Int.reduceEq,ne_eq,zN,reduceCtorEq,bL,bO,bP,zM,zA,zB,aH,zC,zD,if_true,if_false,zE,zF,aE,zG,aM,zH,zI,zJ,zK,aV,aS,aR,aW,aQ,aF,aI,aL,aG,aK,aD,aT,a9,Vm.bind_map,aJ,aU,zL]
 all_goals try simp only [bF]
 all_goals try rfl
theorem HE {β:Type} (a0:aA) (p11:Int) (k:Ex→St→Option β):cX TT zU ⟨[(1,.ptr 1 0),(67,.d (.sl (cM bZ.cells a0.Halts))),(68,.d (.int .i64 (a0.Halts.length:Int))),(69,.d (.int .i64 p11))],[(1,some (.box (aC a0.cells)))]⟩ k = (sD a0 p11).bind (fun (r:Unit ⊕ Unit)=>Sum.elim (fun (z:Unit)=>k (.exit 2) ⟨[],[]⟩) (fun (z:Unit)=>k .ret ⟨[(2,.d (.int .i64 1))],[]⟩) r):=by
 have hh:=fun (w:Int)=>GZ a0 w
 have h:=fun ho=>cC (T:=TT) (k:=k) (c:=o0) (step:=(fun (w:Int)=>iS a0 w)) _ _ ho hh p11
 refine Eq.trans (h (fun r s e=>by have q:=congrArg Prod.fst e; rcases r with x | x <;> cases q)) ?_
 unfold sD
 exact bQ _ fun x=>by rcases x with x | x <;> rfl
theorem L1 (a0:aA):Vm.call TT 100 [.agg a0.cells] = (qV a0).map fun (r:Int)=>.int .i64 r:=by
 refine (bX (show TT 100 = some (.code ⟨1,98,[.tmp 2],WE,false,false⟩) from rfl) _ rfl rfl).trans ?_
 show cX TT WE ⟨[(0,cW a0.cells)],[]⟩ _ = _
 simp -implicitDefEqProofs (decide:=true) (maxSteps:=2000000) only [WE,qV,↓zZ,↓HE,↓fK,↓DN,↓DR,DQ,DP,↓reduceIte,Int.reduceToNat,Nat.reduceBEq,Nat.reduceAdd,Nat.reduceLT,Nat.reduceLeDiff,Nat.reduceEqDiff,Int.reduceEq,ne_eq,zN,reduceCtorEq,bL,bO,bP,zM,zA,zB,aH,zC,zD,if_true,if_false,zE,zF,aE,zG,aM,zH,zI,zJ,zK,aV,aS,aR,aW,aQ,aF,aI,aL,aG,aK,aD,aT,a9,Vm.bind_map,aJ,aU,zL]
 all_goals try simp only [bF]
 all_goals try rfl
theorem DT {β:Type} (a0:aA) (d:Nat) (bl:List (Nat × Option aX)) (fz:List (Nat × Option aX)) (k:V→Option β) (kw:V→List (Nat × Option aX)→Option β):dM TT d bl 100 [.agg a0.cells] fz k kw = (qV a0).bind fun (r:Int)=>k (.d (.int .i64 r)):=by
 have h:=L1 a0
 exact bR h (fun _=>rfl) fz
end Go.Proofs.Ytfhebiceipgdmaa
