/- The functions of the small machine compute the plain definitions. Printed by a program. -/
import Derived.Test.YtfhebiceipgdmaaLnk2
set_option linter.unusedVariables false
set_option linter.unusedSimpArgs false
namespace Go.Proofs.Ytfhebiceipgdmaa
open Vm
open Go.RowKit
set_option maxRecDepth 100000
set_option maxHeartbeats 4000000
attribute [local congr] uI vW uO wI
theorem DB (a0:List ByteArray) (p1:Int):cX TT dO ⟨[(0,.d (.sl (cM cS a0))),(2,.d (.fn 93 [])),(14,.d (.int .i64 (a0.length:Int))),(15,.d (.int .i64 p1))],[]⟩ (fun e s=>some (e,s)) = dW (fun (w:Int)=>(⟨[(0,.d (.sl (cM cS a0))),(2,.d (.fn 93 [])),(14,.d (.int .i64 (a0.length:Int))),(15,.d (.int .i64 w))],[]⟩ : St)) (fun (r:Unit ⊕ Int)=>Sum.elim (fun (z:Unit)=>(((.exit 0),⟨[],[]⟩):Ex × St)) (fun (z:Int)=>((.ret,⟨[(6,.d (.int .i64 z))],[]⟩):Ex × St)) r) (jS a0 p1):=by
 simp -implicitDefEqProofs (decide:=true) (maxSteps:=2000000) only [dO,jS,↓yP,↓i0,↓DN,↓DR,DQ,DP,↓reduceIte,Int.reduceToNat,Nat.reduceBEq,Nat.reduceAdd,Nat.reduceLT,Nat.reduceLeDiff,Nat.reduceEqDiff,Int.reduceEq,ne_eq,zN,reduceCtorEq,bM,bO,bP,zM,zA,zB,aH,zC,zD,if_true,if_false,zE,zF,aD,zG,aL,zH,zI,zJ,zK,aV,aQ,aR,aT,aS,aE,aK,aJ,aF,aM,aG,aW,bA,Vm.bind_map,aI,aU,zL]
 all_goals try simp only [bF]
 all_goals try rfl
theorem DG {β:Type} (a0:List ByteArray) (p1:Int) (k:Ex→St→Option β):cX TT mB ⟨[(0,.d (.sl (cM cS a0))),(2,.d (.fn 93 [])),(14,.d (.int .i64 (a0.length:Int))),(15,.d (.int .i64 p1))],[]⟩ k = (sF a0 p1).bind (fun (r:Unit ⊕ Int)=>Sum.elim (fun (z:Unit)=>k (.exit 0) ⟨[],[]⟩) (fun (z:Int)=>k .ret ⟨[(6,.d (.int .i64 z))],[]⟩) r):=by
 have hh:=fun (w:Int)=>DB a0 w
 have h:=fun ho=>cA (T:=TT) (k:=k) (c:=dO) (step:=(fun (w:Int)=>jS a0 w)) _ _ ho hh p1
 refine Eq.trans (h (fun r s e=>by have q:=congrArg Prod.fst e; rcases r with x | x <;> cases q)) ?_
 unfold sF
 exact bQ _ fun x=>by rcases x with x | x <;> rfl
theorem G0 (a0:List ByteArray) (a1:Int):Vm.call TT 92 [.sl (cM cS a0),.int .i64 a1,.fn 93 []] = (mJ a0 a1).map fun (r:Int)=>.int .i64 r:=by
 refine (bX (show TT 92 = some (.code ⟨3,29,[.tmp 6],F6,false,false⟩) from rfl) _ rfl rfl).trans ?_
 show cX TT F6 ⟨[(0,.d (.sl (cM cS a0))),(1,.d (.int .i64 a1)),(2,.d (.fn 93 []))],[]⟩ _ = _
 simp -implicitDefEqProofs (decide:=true) (maxSteps:=2000000) only [F6,mJ,↓DG,↓yP,↓i0,↓DN,↓DR,DQ,DP,↓reduceIte,Int.reduceToNat,Nat.reduceBEq,Nat.reduceAdd,Nat.reduceLT,Nat.reduceLeDiff,Nat.reduceEqDiff,Int.reduceEq,ne_eq,zN,reduceCtorEq,bM,bO,bP,zM,zA,zB,aH,zC,zD,if_true,if_false,zE,zF,aD,zG,aL,zH,zI,zJ,zK,aV,aQ,aR,aT,aS,aE,aK,aJ,aF,aM,aG,aW,bA,Vm.bind_map,aI,aU,zL]
 all_goals try simp only [bF]
 all_goals try rfl
theorem AG {β:Type} (a0:List ByteArray) (a1:Int) (d:Nat) (bl:List (Nat × Option aX)) (fz:List (Nat × Option aX)) (k:V→Option β) (kw:V→List (Nat × Option aX)→Option β):dM TT d bl 92 [.sl (cM cS a0),.int .i64 a1,.fn 93 []] fz k kw = (mJ a0 a1).bind fun (r:Int)=>k (.d (.int .i64 r)):=by
 have h:=G0 a0 a1
 exact bR h (fun _=>rfl) fz
theorem EH (a0:List Int) (a1:Int) (a2:Int) (p1:Int):cX TT m7 ⟨[(0,.d (.sl (cM cI a0))),(1,.d (.int .i64 a1)),(2,.d (.int .i64 a2)),(9,.d (.sl (cM cI a0))),(10,.d (.int .i64 (a0.length:Int))),(11,.d (.int .i64 p1))],[]⟩ (fun e s=>some (e,s)) = dW (fun (w:Int)=>(⟨[(0,.d (.sl (cM cI a0))),(1,.d (.int .i64 a1)),(2,.d (.int .i64 a2)),(9,.d (.sl (cM cI a0))),(10,.d (.int .i64 (a0.length:Int))),(11,.d (.int .i64 w))],[]⟩ : St)) (fun (r:Unit ⊕ Unit)=>Sum.elim (fun (z:Unit)=>(((.exit 0),⟨[],[]⟩):Ex × St)) (fun (z:Unit)=>((.ret,⟨[(6,.d (.bool false))],[]⟩):Ex × St)) r) (gI a0 a1 a2 p1):=by
 simp -implicitDefEqProofs (decide:=true) (maxSteps:=2000000) only [m7,gI,↓DN,↓DR,DQ,DP,↓reduceIte,Int.reduceToNat,Nat.reduceBEq,Nat.reduceAdd,Nat.reduceLT,Nat.reduceLeDiff,Nat.reduceEqDiff,Int.reduceEq,ne_eq,zN,reduceCtorEq,bM,bO,bP,zM,zA,zB,aH,zC,zD,if_true,if_false,zE,zF,aD,zG,aL,zH,zI,zJ,zK,aV,aQ,aR,aT,aS,aE,aK,aJ,aF,aM,aG,aW,bA,Vm.bind_map,aI,aU,zL]
 all_goals try simp only [bF]
 all_goals try rfl
theorem EF {β:Type} (a0:List Int) (a1:Int) (a2:Int) (p1:Int) (k:Ex→St→Option β):cX TT wS ⟨[(0,.d (.sl (cM cI a0))),(1,.d (.int .i64 a1)),(2,.d (.int .i64 a2)),(9,.d (.sl (cM cI a0))),(10,.d (.int .i64 (a0.length:Int))),(11,.d (.int .i64 p1))],[]⟩ k = (o6 a0 a1 a2 p1).bind (fun (r:Unit ⊕ Unit)=>Sum.elim (fun (z:Unit)=>k (.exit 0) ⟨[],[]⟩) (fun (z:Unit)=>k .ret ⟨[(6,.d (.bool false))],[]⟩) r):=by
 have hh:=fun (w:Int)=>EH a0 a1 a2 w
 have h:=fun ho=>cA (T:=TT) (k:=k) (c:=m7) (step:=(fun (w:Int)=>gI a0 a1 a2 w)) _ _ ho hh p1
 refine Eq.trans (h (fun r s e=>by have q:=congrArg Prod.fst e; rcases r with x | x <;> cases q)) ?_
 unfold o6
 exact bQ _ fun x=>by rcases x with x | x <;> rfl
theorem IF (a0:List Int) (a1:Int) (a2:Int):Vm.call TT 110 [.sl (cM cI a0),.int .i64 a1,.int .i64 a2] = (gN a0 a1 a2).map fun (r:Bool)=>.bool r:=by
 refine (bX (show TT 110 = some (.code ⟨3,38,[.tmp 6],WB,false,false⟩) from rfl) _ rfl rfl).trans ?_
 show cX TT WB ⟨[(0,.d (.sl (cM cI a0))),(1,.d (.int .i64 a1)),(2,.d (.int .i64 a2))],[]⟩ _ = _
 simp -implicitDefEqProofs (decide:=true) (maxSteps:=2000000) only [WB,gN,↓EF,↓DN,↓DR,DQ,DP,↓reduceIte,Int.reduceToNat,Nat.reduceBEq,Nat.reduceAdd,Nat.reduceLT,Nat.reduceLeDiff,Nat.reduceEqDiff,Int.reduceEq,ne_eq,zN,reduceCtorEq,bM,bO,bP,zM,zA,zB,aH,zC,zD,if_true,if_false,zE,zF,aD,zG,aL,zH,zI,zJ,zK,aV,aQ,aR,aT,aS,aE,aK,aJ,aF,aM,aG,aW,bA,Vm.bind_map,aI,aU,zL]
 all_goals try simp only [bF]
 all_goals try rfl
theorem nD {β:Type} (a0:List Int) (a1:Int) (a2:Int) (d:Nat) (bl:List (Nat × Option aX)) (fz:List (Nat × Option aX)) (k:V→Option β) (kw:V→List (Nat × Option aX)→Option β):dM TT d bl 110 [.sl (cM cI a0),.int .i64 a1,.int .i64 a2] fz k kw = (gN a0 a1 a2).bind fun (r:Bool)=>k (.d (.bool r)):=by
 have h:=IF a0 a1 a2
 exact bR h (fun _=>rfl) fz
theorem G3 (a0:aA) (a1:bJ) (p1:Int):cX TT oZ ⟨[(2,.ptr 2 0),(3,.ptr 3 0),(8,.d (.sl (cM cI a1.Feasts))),(9,.d (.int .i64 (a1.Feasts.length:Int))),(10,.d (.int .i64 p1))],[(2,some (.box (aC a0.cells))),(3,some (.box (aC a1.cells)))]⟩ (fun e s=>some (e,s)) = dW (fun (w:Int)=>(⟨[(2,.ptr 2 0),(3,.ptr 3 0),(8,.d (.sl (cM cI a1.Feasts))),(9,.d (.int .i64 (a1.Feasts.length:Int))),(10,.d (.int .i64 w))],[(2,some (.box (aC a0.cells))),(3,some (.box (aC a1.cells)))]⟩ : St)) (fun (r:Unit ⊕ Unit)=>Sum.elim (fun (z:Unit)=>(((.exit 0),⟨[(2,.ptr 2 0),(3,.ptr 3 0)],[(2,some (.box (aC a0.cells))),(3,some (.box (aC a1.cells)))]⟩):Ex × St)) (fun (z:Unit)=>((.ret,⟨[(4,.d (.bool false))],[]⟩):Ex × St)) r) (iP a0 a1 p1):=by
 simp -implicitDefEqProofs (decide:=true) (maxSteps:=2000000) only [oZ,iP,↓fJ,↓nD,↓DN,↓DR,DQ,DP,↓reduceIte,Int.reduceToNat,Nat.reduceBEq,Nat.reduceAdd,Nat.reduceLT,Nat.reduceLeDiff,Nat.reduceEqDiff,Int.reduceEq,ne_eq,zN,reduceCtorEq,bM,bO,bP,zM,zA,zB,aH,zC,zD,if_true,if_false,zE,zF,aD,zG,aL,zH,zI,zJ,zK,aV,aQ,aR,aT,aS,aE,aK,aJ,aF,aM,aG,aW,bA,Vm.bind_map,aI,aU,zL]
 all_goals try simp only [bF]
 all_goals try rfl
theorem GV {β:Type} (a0:aA) (a1:bJ) (p1:Int) (k:Ex→St→Option β):cX TT yS ⟨[(2,.ptr 2 0),(3,.ptr 3 0),(8,.d (.sl (cM cI a1.Feasts))),(9,.d (.int .i64 (a1.Feasts.length:Int))),(10,.d (.int .i64 p1))],[(2,some (.box (aC a0.cells))),(3,some (.box (aC a1.cells)))]⟩ k = (rH a0 a1 p1).bind (fun (r:Unit ⊕ Unit)=>Sum.elim (fun (z:Unit)=>k (.exit 0) ⟨[(2,.ptr 2 0),(3,.ptr 3 0)],[(2,some (.box (aC a0.cells))),(3,some (.box (aC a1.cells)))]⟩) (fun (z:Unit)=>k .ret ⟨[(4,.d (.bool false))],[]⟩) r):=by
 have hh:=fun (w:Int)=>G3 a0 a1 w
 have h:=fun ho=>cA (T:=TT) (k:=k) (c:=oZ) (step:=(fun (w:Int)=>iP a0 a1 w)) _ _ ho hh p1
 refine Eq.trans (h (fun r s e=>by have q:=congrArg Prod.fst e; rcases r with x | x <;> cases q)) ?_
 unfold rH
 exact bQ _ fun x=>by rcases x with x | x <;> rfl
theorem LP (a0:aA) (a1:bJ):Vm.call TT 95 [.agg a0.cells,.agg a1.cells] = (qV a0 a1).map fun (r:Bool)=>.bool r:=by
 refine (bX (show TT 95 = some (.code ⟨2,64,[.tmp 4],aGw,false,false⟩) from rfl) _ rfl rfl).trans ?_
 show cX TT aGw ⟨[(0,cW a0.cells),(1,cW a1.cells)],[]⟩ _ = _
 simp -implicitDefEqProofs (decide:=true) (maxSteps:=2000000) only [aGw,qV,↓GV,↓fJ,↓nD,↓DN,↓DR,DQ,DP,↓reduceIte,Int.reduceToNat,Nat.reduceBEq,Nat.reduceAdd,Nat.reduceLT,Nat.reduceLeDiff,Nat.reduceEqDiff,Int.reduceEq,ne_eq,zN,reduceCtorEq,bM,bO,bP,zM,zA,zB,aH,zC,zD,if_true,if_false,zE,zF,aD,zG,aL,zH,zI,zJ,zK,aV,aQ,aR,aT,aS,aE,aK,aJ,aF,aM,aG,aW,bA,Vm.bind_map,aI,aU,zL]
 all_goals try simp only [bF]
 all_goals try rfl
theorem LV {β:Type} (a0:aA) (a1:bJ) (d:Nat) (bl:List (Nat × Option aX)) (fz:List (Nat × Option aX)) (k:V→Option β) (kw:V→List (Nat × Option aX)→Option β):dM TT d bl 95 [.agg a0.cells,.agg a1.cells] fz k kw = (qV a0 a1).bind fun (r:Bool)=>k (.d (.bool r)):=by
 have h:=LP a0 a1
 exact bR h (fun _=>rfl) fz
theorem DJ (a0:Int) (a1:aA):Vm.call TT 94 [.int .i64 a0,.ptr a1.cells 0] = (jM a0 a1).map fun (r:Bool)=>.bool r:=by
 refine (bX (show TT 94 = some (.code ⟨2,11,[.tmp 3],aGz,false,false⟩) from rfl) _ rfl rfl).trans ?_
 show cX TT aGz ⟨[(0,.d (.int .i64 a0)),(1,.d (.ptr a1.cells 0))],[]⟩ _ = _
 simp -implicitDefEqProofs (decide:=true) (maxSteps:=2000000) only [aGz,jM,↓LV,↓DN,↓DR,DQ,DP,↓reduceIte,Int.reduceToNat,Nat.reduceBEq,Nat.reduceAdd,Nat.reduceLT,Nat.reduceLeDiff,Nat.reduceEqDiff,Int.reduceEq,ne_eq,zN,reduceCtorEq,bM,bO,bP,zM,zA,zB,aH,zC,zD,if_true,if_false,zE,zF,aD,zG,aL,zH,zI,zJ,zK,aV,aQ,aR,aT,aS,aE,aK,aJ,aF,aM,aG,aW,bA,Vm.bind_map,aI,aU,zL]
 all_goals try simp only [bF]
 all_goals try rfl
theorem vH {β:Type} (a0:Int) (a1:aA) (d:Nat) (bl:List (Nat × Option aX)) (fz:List (Nat × Option aX)) (k:V→Option β) (kw:V→List (Nat × Option aX)→Option β):dM TT d bl 94 [.int .i64 a0,.ptr a1.cells 0] fz k kw = (jM a0 a1).bind fun (r:Bool)=>k (.d (.bool r)):=by
 have h:=DJ a0 a1
 exact bR h (fun _=>rfl) fz
theorem C9 (a0:List ByteArray) (a2:aA) (p1:Int):cX TT dO ⟨[(0,.d (.sl (cM cS a0))),(2,.d (.fn 94 [.ptr a2.cells 0])),(14,.d (.int .i64 (a0.length:Int))),(15,.d (.int .i64 p1))],[]⟩ (fun e s=>some (e,s)) = dW (fun (w:Int)=>(⟨[(0,.d (.sl (cM cS a0))),(2,.d (.fn 94 [.ptr a2.cells 0])),(14,.d (.int .i64 (a0.length:Int))),(15,.d (.int .i64 w))],[]⟩ : St)) (fun (r:Unit ⊕ Int)=>Sum.elim (fun (z:Unit)=>(((.exit 0),⟨[],[]⟩):Ex × St)) (fun (z:Int)=>((.ret,⟨[(6,.d (.int .i64 z))],[]⟩):Ex × St)) r) (jW a0 a2 p1):=by
 simp -implicitDefEqProofs (decide:=true) (maxSteps:=2000000) only [dO,jW,↓vH,↓i0,↓DN,↓DR,DQ,DP,↓reduceIte,Int.reduceToNat,Nat.reduceBEq,Nat.reduceAdd,Nat.reduceLT,Nat.reduceLeDiff,Nat.reduceEqDiff,Int.reduceEq,ne_eq,zN,reduceCtorEq,bM,bO,bP,zM,zA,zB,aH,zC,zD,if_true,if_false,zE,zF,aD,zG,aL,zH,zI,zJ,zK,aV,aQ,aR,aT,aS,aE,aK,aJ,aF,aM,aG,aW,bA,Vm.bind_map,aI,aU,zL]
 all_goals try simp only [bF]
 all_goals try rfl
theorem C3 {β:Type} (a0:List ByteArray) (a2:aA) (p1:Int) (k:Ex→St→Option β):cX TT mB ⟨[(0,.d (.sl (cM cS a0))),(2,.d (.fn 94 [.ptr a2.cells 0])),(14,.d (.int .i64 (a0.length:Int))),(15,.d (.int .i64 p1))],[]⟩ k = (rP a0 a2 p1).bind (fun (r:Unit ⊕ Int)=>Sum.elim (fun (z:Unit)=>k (.exit 0) ⟨[],[]⟩) (fun (z:Int)=>k .ret ⟨[(6,.d (.int .i64 z))],[]⟩) r):=by
 have hh:=fun (w:Int)=>C9 a0 a2 w
 have h:=fun ho=>cA (T:=TT) (k:=k) (c:=dO) (step:=(fun (w:Int)=>jW a0 a2 w)) _ _ ho hh p1
 refine Eq.trans (h (fun r s e=>by have q:=congrArg Prod.fst e; rcases r with x | x <;> cases q)) ?_
 unfold rP
 exact bQ _ fun x=>by rcases x with x | x <;> rfl
theorem G1 (a0:List ByteArray) (a1:Int) (a2:aA):Vm.call TT 92 [.sl (cM cS a0),.int .i64 a1,.fn 94 [.ptr a2.cells 0]] = (lV a0 a1 a2).map fun (r:Int)=>.int .i64 r:=by
 refine (bX (show TT 92 = some (.code ⟨3,29,[.tmp 6],F6,false,false⟩) from rfl) _ rfl rfl).trans ?_
 show cX TT F6 ⟨[(0,.d (.sl (cM cS a0))),(1,.d (.int .i64 a1)),(2,.d (.fn 94 [.ptr a2.cells 0]))],[]⟩ _ = _
 simp -implicitDefEqProofs (decide:=true) (maxSteps:=2000000) only [F6,lV,↓C3,↓vH,↓i0,↓DN,↓DR,DQ,DP,↓reduceIte,Int.reduceToNat,Nat.reduceBEq,Nat.reduceAdd,Nat.reduceLT,Nat.reduceLeDiff,Nat.reduceEqDiff,Int.reduceEq,ne_eq,zN,reduceCtorEq,bM,bO,bP,zM,zA,zB,aH,zC,zD,if_true,if_false,zE,zF,aD,zG,aL,zH,zI,zJ,zK,aV,aQ,aR,aT,aS,aE,aK,aJ,aF,aM,aG,aW,bA,Vm.bind_map,aI,aU,zL]
 all_goals try simp only [bF]
 all_goals try rfl
theorem yU {β:Type} (a0:List ByteArray) (a1:Int) (a2:aA) (d:Nat) (bl:List (Nat × Option aX)) (fz:List (Nat × Option aX)) (k:V→Option β) (kw:V→List (Nat × Option aX)→Option β):dM TT d bl 92 [.sl (cM cS a0),.int .i64 a1,.fn 94 [.ptr a2.cells 0]] fz k kw = (lV a0 a1 a2).bind fun (r:Int)=>k (.d (.int .i64 r)):=by
 have h:=G1 a0 a1 a2
 exact bR h (fun _=>rfl) fz
theorem DE (a0:Int) (a1:aA):Vm.call TT 96 [.int .i64 a0,.ptr a1.cells 0] = (jK a0 a1).map fun (r:Bool)=>.bool r:=by
 refine (bX (show TT 96 = some (.code ⟨2,26,[.tmp 3],aFw,false,false⟩) from rfl) _ rfl rfl).trans ?_
 show cX TT aFw ⟨[(0,.d (.int .i64 a0)),(1,.d (.ptr a1.cells 0))],[]⟩ _ = _
 simp -implicitDefEqProofs (decide:=true) (maxSteps:=2000000) only [aFw,jK,↓fJ,↓DN,↓DR,DQ,DP,↓reduceIte,Int.reduceToNat,Nat.reduceBEq,Nat.reduceAdd,Nat.reduceLT,Nat.reduceLeDiff,Nat.reduceEqDiff,Int.reduceEq,ne_eq,zN,reduceCtorEq,bM,bO,bP,zM,zA,zB,aH,zC,zD,if_true,if_false,zE,zF,aD,zG,aL,zH,zI,zJ,zK,aV,aQ,aR,aT,aS,aE,aK,aJ,aF,aM,aG,aW,bA,Vm.bind_map,aI,aU,zL]
 all_goals try simp only [bF]
 all_goals try rfl
theorem vM {β:Type} (a0:Int) (a1:aA) (d:Nat) (bl:List (Nat × Option aX)) (fz:List (Nat × Option aX)) (k:V→Option β) (kw:V→List (Nat × Option aX)→Option β):dM TT d bl 96 [.int .i64 a0,.ptr a1.cells 0] fz k kw = (jK a0 a1).bind fun (r:Bool)=>k (.d (.bool r)):=by
 have h:=DE a0 a1
 exact bR h (fun _=>rfl) fz
theorem C4 (a0:List ByteArray) (a2:aA) (p1:Int):cX TT dO ⟨[(0,.d (.sl (cM cS a0))),(2,.d (.fn 96 [.ptr a2.cells 0])),(14,.d (.int .i64 (a0.length:Int))),(15,.d (.int .i64 p1))],[]⟩ (fun e s=>some (e,s)) = dW (fun (w:Int)=>(⟨[(0,.d (.sl (cM cS a0))),(2,.d (.fn 96 [.ptr a2.cells 0])),(14,.d (.int .i64 (a0.length:Int))),(15,.d (.int .i64 w))],[]⟩ : St)) (fun (r:Unit ⊕ Int)=>Sum.elim (fun (z:Unit)=>(((.exit 0),⟨[],[]⟩):Ex × St)) (fun (z:Int)=>((.ret,⟨[(6,.d (.int .i64 z))],[]⟩):Ex × St)) r) (jX a0 a2 p1):=by
 simp -implicitDefEqProofs (decide:=true) (maxSteps:=2000000) only [dO,jX,↓vM,↓i0,↓DN,↓DR,DQ,DP,↓reduceIte,Int.reduceToNat,Nat.reduceBEq,Nat.reduceAdd,Nat.reduceLT,Nat.reduceLeDiff,Nat.reduceEqDiff,Int.reduceEq,ne_eq,zN,reduceCtorEq,bM,bO,bP,zM,zA,zB,aH,zC,zD,if_true,if_false,zE,zF,aD,zG,aL,zH,zI,zJ,zK,aV,aQ,aR,aT,aS,aE,aK,aJ,aF,aM,aG,aW,bA,Vm.bind_map,aI,aU,zL]
 all_goals try simp only [bF]
 all_goals try rfl
theorem C5 {β:Type} (a0:List ByteArray) (a2:aA) (p1:Int) (k:Ex→St→Option β):cX TT mB ⟨[(0,.d (.sl (cM cS a0))),(2,.d (.fn 96 [.ptr a2.cells 0])),(14,.d (.int .i64 (a0.length:Int))),(15,.d (.int .i64 p1))],[]⟩ k = (rF a0 a2 p1).bind (fun (r:Unit ⊕ Int)=>Sum.elim (fun (z:Unit)=>k (.exit 0) ⟨[],[]⟩) (fun (z:Int)=>k .ret ⟨[(6,.d (.int .i64 z))],[]⟩) r):=by
 have hh:=fun (w:Int)=>C4 a0 a2 w
 have h:=fun ho=>cA (T:=TT) (k:=k) (c:=dO) (step:=(fun (w:Int)=>jX a0 a2 w)) _ _ ho hh p1
 refine Eq.trans (h (fun r s e=>by have q:=congrArg Prod.fst e; rcases r with x | x <;> cases q)) ?_
 unfold rF
 exact bQ _ fun x=>by rcases x with x | x <;> rfl
theorem GL (a0:List ByteArray) (a1:Int) (a2:aA):Vm.call TT 92 [.sl (cM cS a0),.int .i64 a1,.fn 96 [.ptr a2.cells 0]] = (mG a0 a1 a2).map fun (r:Int)=>.int .i64 r:=by
 refine (bX (show TT 92 = some (.code ⟨3,29,[.tmp 6],F6,false,false⟩) from rfl) _ rfl rfl).trans ?_
 show cX TT F6 ⟨[(0,.d (.sl (cM cS a0))),(1,.d (.int .i64 a1)),(2,.d (.fn 96 [.ptr a2.cells 0]))],[]⟩ _ = _
 simp -implicitDefEqProofs (decide:=true) (maxSteps:=2000000) only [F6,mG,↓C5,↓vM,↓i0,↓DN,↓DR,DQ,DP,↓reduceIte,Int.reduceToNat,Nat.reduceBEq,Nat.reduceAdd,Nat.reduceLT,Nat.reduceLeDiff,Nat.reduceEqDiff,Int.reduceEq,ne_eq,zN,reduceCtorEq,bM,bO,bP,zM,zA,zB,aH,zC,zD,if_true,if_false,zE,zF,aD,zG,aL,zH,zI,zJ,zK,aV,aQ,aR,aT,aS,aE,aK,aJ,aF,aM,aG,aW,bA,Vm.bind_map,aI,aU,zL]
 all_goals try simp only [bF]
 all_goals try rfl
theorem zY {β:Type} (a0:List ByteArray) (a1:Int) (a2:aA) (d:Nat) (bl:List (Nat × Option aX)) (fz:List (Nat × Option aX)) (k:V→Option β) (kw:V→List (Nat × Option aX)→Option β):dM TT d bl 92 [.sl (cM cS a0),.int .i64 a1,.fn 96 [.ptr a2.cells 0]] fz k kw = (mG a0 a1 a2).bind fun (r:Int)=>k (.d (.int .i64 r)):=by
 have h:=GL a0 a1 a2
 exact bR h (fun _=>rfl) fz
theorem FA (a0:bC) (p1:Int) (p2:List Int):cX TT oD ⟨[(1,.ptr 1 0),(3,.own 20 0),(4,.nil),(10,.d (.sl (cM bE.cells a0.Choices))),(11,.d (.int .i64 (a0.Choices.length:Int))),(12,.d (.int .i64 p1))],[(1,some (.box (aC a0.cells))),(20,some (.rows 0 3 1 (cM cI p2)))]⟩ (fun e s=>some (e,s)) = dW (fun (w:Int × (List Int))=>(⟨[(1,.ptr 1 0),(3,.own 20 0),(4,.nil),(10,.d (.sl (cM bE.cells a0.Choices))),(11,.d (.int .i64 (a0.Choices.length:Int))),(12,.d (.int .i64 w.1))],[(1,some (.box (aC a0.cells))),(20,some (.rows 0 3 1 (cM cI w.2)))]⟩ : St)) (fun (r:((List Int)) ⊕ Unit)=>Sum.elim (fun (z:(List Int))=>(((.exit 0),⟨[(1,.ptr 1 0),(3,.own 20 0),(4,.nil)],[(1,some (.box (aC a0.cells))),(20,some (.rows 0 3 1 (cM cI z)))]⟩):Ex × St)) (fun (z:Unit)=>((.ret,⟨[(2,.d (.bool false))],[]⟩):Ex × St)) r) (h9 a0 p1 p2):=by
 simp -implicitDefEqProofs (decide:=true) (maxSteps:=2000000) only [oD,h9,↓fJ,↓nD,↓DN,↓DR,DQ,DP,↓reduceIte,Int.reduceToNat,Nat.reduceBEq,Nat.reduceAdd,Nat.reduceLT,Nat.reduceLeDiff,Nat.reduceEqDiff,Int.reduceEq,ne_eq,zN,reduceCtorEq,bM,bO,bP,zM,zA,zB,aH,zC,zD,if_true,if_false,zE,zF,aD,zG,aL,zH,zI,zJ,zK,aV,aQ,aR,aT,aS,aE,aK,aJ,aF,aM,aG,aW,bA,Vm.bind_map,aI,aU,zL]
 all_goals try simp only [bF]
 all_goals try rfl
theorem w9 {β:Type} (a0:bC) (p1:Int) (p2:List Int) (k:Ex→St→Option β):cX TT xP ⟨[(1,.ptr 1 0),(3,.own 20 0),(4,.nil),(10,.d (.sl (cM bE.cells a0.Choices))),(11,.d (.int .i64 (a0.Choices.length:Int))),(12,.d (.int .i64 p1))],[(1,some (.box (aC a0.cells))),(20,some (.rows 0 3 1 (cM cI p2)))]⟩ k = (pW a0 p1 p2).bind (fun (r:((List Int)) ⊕ Unit)=>Sum.elim (fun (z:(List Int))=>k (.exit 0) ⟨[(1,.ptr 1 0),(3,.own 20 0),(4,.nil)],[(1,some (.box (aC a0.cells))),(20,some (.rows 0 3 1 (cM cI z)))]⟩) (fun (z:Unit)=>k .ret ⟨[(2,.d (.bool false))],[]⟩) r):=by
 have hh:=fun (w:Int × (List Int))=>FA a0 w.1 w.2
 have h:=fun ho=>cA (T:=TT) (k:=k) (c:=oD) (step:=(fun (w:Int × (List Int))=>h9 a0 w.1 w.2)) _ _ ho hh (p1,p2)
 refine Eq.trans (h (fun r s e=>by have q:=congrArg Prod.fst e; rcases r with x | x <;> cases q)) ?_
 unfold pW
 exact bQ _ fun x=>by rcases x with x | x <;> rfl
theorem ER (a0:bC) (z7:(List Int)) (p9:Int) (p10:List Int):cX TT oC ⟨[(3,.own 20 0),(4,.own 37 0),(27,.d (.sl (cM bW.cells a0.Rules))),(28,.d (.int .i64 (a0.Rules.length:Int))),(29,.d (.int .i64 p9))],[(20,some (.rows 0 3 1 (cM cI z7))),(37,some (.rows 0 3 1 (cM cI p10)))]⟩ (fun e s=>some (e,s)) = dW (fun (w:Int × (List Int))=>(⟨[(3,.own 20 0),(4,.own 37 0),(27,.d (.sl (cM bW.cells a0.Rules))),(28,.d (.int .i64 (a0.Rules.length:Int))),(29,.d (.int .i64 w.1))],[(20,some (.rows 0 3 1 (cM cI z7))),(37,some (.rows 0 3 1 (cM cI w.2)))]⟩ : St)) (fun (r:(List Int))=>(((.exit 2),⟨[(3,.own 20 0),(4,.own 37 0)],[(20,some (.rows 0 3 1 (cM cI z7))),(37,some (.rows 0 3 1 (cM cI r)))]⟩):Ex × St)) (h8 a0 z7 p9 p10):=by
 simp -implicitDefEqProofs (decide:=true) (maxSteps:=2000000) only [oC,h8,↓w9,↓fJ,↓nD,↓DN,↓DR,DQ,DP,↓reduceIte,Int.reduceToNat,Nat.reduceBEq,Nat.reduceAdd,Nat.reduceLT,Nat.reduceLeDiff,Nat.reduceEqDiff,Int.reduceEq,ne_eq,zN,reduceCtorEq,bM,bO,bP,zM,zA,zB,aH,zC,zD,if_true,if_false,zE,zF,aD,zG,aL,zH,zI,zJ,zK,aV,aQ,aR,aT,aS,aE,aK,aJ,aF,aM,aG,aW,bA,Vm.bind_map,aI,aU,zL]
 all_goals try simp only [bF]
 all_goals try rfl
theorem FG {β:Type} (a0:bC) (z7:(List Int)) (p9:Int) (p10:List Int) (k:Ex→St→Option β):cX TT xS ⟨[(3,.own 20 0),(4,.own 37 0),(27,.d (.sl (cM bW.cells a0.Rules))),(28,.d (.int .i64 (a0.Rules.length:Int))),(29,.d (.int .i64 p9))],[(20,some (.rows 0 3 1 (cM cI z7))),(37,some (.rows 0 3 1 (cM cI p10)))]⟩ k = (qF a0 z7 p9 p10).bind (fun (r:(List Int))=>k (.exit 2) ⟨[(3,.own 20 0),(4,.own 37 0)],[(20,some (.rows 0 3 1 (cM cI z7))),(37,some (.rows 0 3 1 (cM cI r)))]⟩):=by
 have hh:=fun (w:Int × (List Int))=>ER a0 z7 w.1 w.2
 have h:=fun ho=>cA (T:=TT) (k:=k) (c:=oC) (step:=(fun (w:Int × (List Int))=>h8 a0 z7 w.1 w.2)) _ _ ho hh (p9,p10)
 refine Eq.trans (h (fun r s e=>by have q:=congrArg Prod.fst e; rcases r with x <;> cases q)) ?_
 unfold qF
 exact bQ _ fun x=>by rcases x with x <;> rfl
theorem JY (a0:bC):Vm.call TT 98 [.agg a0.cells] = (o7 a0).map fun (r:Bool)=>.bool r:=by
 refine (bX (show TT 98 = some (.code ⟨1,45,[.tmp 2],aEu,false,false⟩) from rfl) _ rfl rfl).trans ?_
 show cX TT aEu ⟨[(0,cW a0.cells)],[]⟩ _ = _
 simp -implicitDefEqProofs (decide:=true) (maxSteps:=2000000) only [aEu,o7,↓w9,↓FG,↓fJ,↓nD,↓DN,↓DR,DQ,DP,↓reduceIte,Int.reduceToNat,Nat.reduceBEq,Nat.reduceAdd,Nat.reduceLT,Nat.reduceLeDiff,Nat.reduceEqDiff,Int.reduceEq,ne_eq,zN,reduceCtorEq,bM,bO,bP,zM,zA,zB,aH,zC,zD,if_true,if_false,zE,zF,aD,zG,aL,zH,zI,zJ,zK,aV,aQ,aR,aT,aS,aE,aK,aJ,aF,aM,aG,aW,bA,Vm.bind_map,aI,aU,zL]
 all_goals try simp only [bF]
 all_goals try rfl
theorem KS {β:Type} (a0:bC) (d:Nat) (bl:List (Nat × Option aX)) (fz:List (Nat × Option aX)) (k:V→Option β) (kw:V→List (Nat × Option aX)→Option β):dM TT d bl 98 [.agg a0.cells] fz k kw = (o7 a0).bind fun (r:Bool)=>k (.d (.bool r)):=by
 have h:=JY a0
 exact bR h (fun _=>rfl) fz
theorem C1 (a0:Int) (a1:aA):Vm.call TT 97 [.int .i64 a0,.ptr a1.cells 0] = (jE a0 a1).map fun (r:Bool)=>.bool r:=by
 refine (bX (show TT 97 = some (.code ⟨2,10,[.tmp 3],aFE,false,false⟩) from rfl) _ rfl rfl).trans ?_
 show cX TT aFE ⟨[(0,.d (.int .i64 a0)),(1,.d (.ptr a1.cells 0))],[]⟩ _ = _
 simp -implicitDefEqProofs (decide:=true) (maxSteps:=2000000) only [aFE,jE,↓KS,↓DN,↓DR,DQ,DP,↓reduceIte,Int.reduceToNat,Nat.reduceBEq,Nat.reduceAdd,Nat.reduceLT,Nat.reduceLeDiff,Nat.reduceEqDiff,Int.reduceEq,ne_eq,zN,reduceCtorEq,bM,bO,bP,zM,zA,zB,aH,zC,zD,if_true,if_false,zE,zF,aD,zG,aL,zH,zI,zJ,zK,aV,aQ,aR,aT,aS,aE,aK,aJ,aF,aM,aG,aW,bA,Vm.bind_map,aI,aU,zL]
 all_goals try simp only [bF]
 all_goals try rfl
theorem vG {β:Type} (a0:Int) (a1:aA) (d:Nat) (bl:List (Nat × Option aX)) (fz:List (Nat × Option aX)) (k:V→Option β) (kw:V→List (Nat × Option aX)→Option β):dM TT d bl 97 [.int .i64 a0,.ptr a1.cells 0] fz k kw = (jE a0 a1).bind fun (r:Bool)=>k (.d (.bool r)):=by
 have h:=C1 a0 a1
 exact bR h (fun _=>rfl) fz
theorem DA (a0:List ByteArray) (a2:aA) (p1:Int):cX TT dO ⟨[(0,.d (.sl (cM cS a0))),(2,.d (.fn 97 [.ptr a2.cells 0])),(14,.d (.int .i64 (a0.length:Int))),(15,.d (.int .i64 p1))],[]⟩ (fun e s=>some (e,s)) = dW (fun (w:Int)=>(⟨[(0,.d (.sl (cM cS a0))),(2,.d (.fn 97 [.ptr a2.cells 0])),(14,.d (.int .i64 (a0.length:Int))),(15,.d (.int .i64 w))],[]⟩ : St)) (fun (r:Unit ⊕ Int)=>Sum.elim (fun (z:Unit)=>(((.exit 0),⟨[],[]⟩):Ex × St)) (fun (z:Int)=>((.ret,⟨[(6,.d (.int .i64 z))],[]⟩):Ex × St)) r) (jV a0 a2 p1):=by
 simp -implicitDefEqProofs (decide:=true) (maxSteps:=2000000) only [dO,jV,↓vG,↓i0,↓DN,↓DR,DQ,DP,↓reduceIte,Int.reduceToNat,Nat.reduceBEq,Nat.reduceAdd,Nat.reduceLT,Nat.reduceLeDiff,Nat.reduceEqDiff,Int.reduceEq,ne_eq,zN,reduceCtorEq,bM,bO,bP,zM,zA,zB,aH,zC,zD,if_true,if_false,zE,zF,aD,zG,aL,zH,zI,zJ,zK,aV,aQ,aR,aT,aS,aE,aK,aJ,aF,aM,aG,aW,bA,Vm.bind_map,aI,aU,zL]
 all_goals try simp only [bF]
 all_goals try rfl
theorem C2 {β:Type} (a0:List ByteArray) (a2:aA) (p1:Int) (k:Ex→St→Option β):cX TT mB ⟨[(0,.d (.sl (cM cS a0))),(2,.d (.fn 97 [.ptr a2.cells 0])),(14,.d (.int .i64 (a0.length:Int))),(15,.d (.int .i64 p1))],[]⟩ k = (rQ a0 a2 p1).bind (fun (r:Unit ⊕ Int)=>Sum.elim (fun (z:Unit)=>k (.exit 0) ⟨[],[]⟩) (fun (z:Int)=>k .ret ⟨[(6,.d (.int .i64 z))],[]⟩) r):=by
 have hh:=fun (w:Int)=>DA a0 a2 w
 have h:=fun ho=>cA (T:=TT) (k:=k) (c:=dO) (step:=(fun (w:Int)=>jV a0 a2 w)) _ _ ho hh p1
 refine Eq.trans (h (fun r s e=>by have q:=congrArg Prod.fst e; rcases r with x | x <;> cases q)) ?_
 unfold rQ
 exact bQ _ fun x=>by rcases x with x | x <;> rfl
theorem F9 (a0:List ByteArray) (a1:Int) (a2:aA):Vm.call TT 92 [.sl (cM cS a0),.int .i64 a1,.fn 97 [.ptr a2.cells 0]] = (mA a0 a1 a2).map fun (r:Int)=>.int .i64 r:=by
 refine (bX (show TT 92 = some (.code ⟨3,29,[.tmp 6],F6,false,false⟩) from rfl) _ rfl rfl).trans ?_
 show cX TT F6 ⟨[(0,.d (.sl (cM cS a0))),(1,.d (.int .i64 a1)),(2,.d (.fn 97 [.ptr a2.cells 0]))],[]⟩ _ = _
 simp -implicitDefEqProofs (decide:=true) (maxSteps:=2000000) only [F6,mA,↓C2,↓vG,↓i0,↓DN,↓DR,DQ,DP,↓reduceIte,Int.reduceToNat,Nat.reduceBEq,Nat.reduceAdd,Nat.reduceLT,Nat.reduceLeDiff,Nat.reduceEqDiff,Int.reduceEq,ne_eq,zN,reduceCtorEq,bM,bO,bP,zM,zA,zB,aH,zC,zD,if_true,if_false,zE,zF,aD,zG,aL,zH,zI,zJ,zK,aV,aQ,aR,aT,aS,aE,aK,aJ,aF,aM,aG,aW,bA,Vm.bind_map,aI,aU,zL]
 all_goals try simp only [bF]
 all_goals try rfl
theorem zQ {β:Type} (a0:List ByteArray) (a1:Int) (a2:aA) (d:Nat) (bl:List (Nat × Option aX)) (fz:List (Nat × Option aX)) (k:V→Option β) (kw:V→List (Nat × Option aX)→Option β):dM TT d bl 92 [.sl (cM cS a0),.int .i64 a1,.fn 97 [.ptr a2.cells 0]] fz k kw = (mA a0 a1 a2).bind fun (r:Int)=>k (.d (.int .i64 r)):=by
 have h:=F9 a0 a1 a2
 exact bR h (fun _=>rfl) fz
theorem DF (a0:aA) (p1:Int) (x2:a9) (p5:Int):cX TT lP ⟨[(1,.ptr 1 0),(4,.ptr 4 0),(12,.d (.sl (cM a9.cells a0.Usances))),(13,.d (.int .i64 (a0.Usances.length:Int))),(14,.d (.int .i64 p1)),(48,.d (.sl (cM a9.cells (dE a0.Usances 0 p1)))),(49,.d (.int .i64 ((dE a0.Usances 0 p1).length:Int))),(50,.d (.int .i64 p5))],[(1,some (.box (aC a0.cells))),(4,some (.box (aC x2.cells)))]⟩ (fun e s=>some (e,s)) = dW (fun (w:Int)=>(⟨[(1,.ptr 1 0),(4,.ptr 4 0),(12,.d (.sl (cM a9.cells a0.Usances))),(13,.d (.int .i64 (a0.Usances.length:Int))),(14,.d (.int .i64 p1)),(48,.d (.sl (cM a9.cells (dE a0.Usances 0 p1)))),(49,.d (.int .i64 ((dE a0.Usances 0 p1).length:Int))),(50,.d (.int .i64 w))],[(1,some (.box (aC a0.cells))),(4,some (.box (aC x2.cells)))]⟩ : St)) (fun (r:Unit ⊕ Unit)=>Sum.elim (fun (z:Unit)=>(((.exit 2),⟨[(1,.ptr 1 0),(12,.d (.sl (cM a9.cells a0.Usances))),(13,.d (.int .i64 (a0.Usances.length:Int))),(14,.d (.int .i64 p1))],[(1,some (.box (aC a0.cells)))]⟩):Ex × St)) (fun (z:Unit)=>((.ret,⟨[(2,.d (.int .i64 5))],[]⟩):Ex × St)) r) (fQ a0 p1 x2 p5):=by
 simp -implicitDefEqProofs (decide:=true) (maxSteps:=2000000) only [lP,fQ,↓fJ,↓DN,↓DR,DQ,DP,↓reduceIte,Int.reduceToNat,Nat.reduceBEq,Nat.reduceAdd,Nat.reduceLT,Nat.reduceLeDiff,Nat.reduceEqDiff,Int.reduceEq,ne_eq,zN,reduceCtorEq,bM,bO,bP,zM,zA,zB,aH,zC,zD,if_true,if_false,zE,zF,aD,zG,aL,zH,zI,zJ,zK,aV,aQ,aR,aT,aS,aE,aK,aJ,aF,aM,aG,aW,bA,Vm.bind_map,aI,aU,zL]
 all_goals try simp only [bF]
 all_goals try rfl
theorem vE {β:Type} (a0:aA) (p1:Int) (x2:a9) (p5:Int) (k:Ex→St→Option β):cX TT vC ⟨[(1,.ptr 1 0),(4,.ptr 4 0),(12,.d (.sl (cM a9.cells a0.Usances))),(13,.d (.int .i64 (a0.Usances.length:Int))),(14,.d (.int .i64 p1)),(48,.d (.sl (cM a9.cells (dE a0.Usances 0 p1)))),(49,.d (.int .i64 ((dE a0.Usances 0 p1).length:Int))),(50,.d (.int .i64 p5))],[(1,some (.box (aC a0.cells))),(4,some (.box (aC x2.cells)))]⟩ k = (n9 a0 p1 x2 p5).bind (fun (r:Unit ⊕ Unit)=>Sum.elim (fun (z:Unit)=>k (.exit 2) ⟨[(1,.ptr 1 0),(12,.d (.sl (cM a9.cells a0.Usances))),(13,.d (.int .i64 (a0.Usances.length:Int))),(14,.d (.int .i64 p1))],[(1,some (.box (aC a0.cells)))]⟩) (fun (z:Unit)=>k .ret ⟨[(2,.d (.int .i64 5))],[]⟩) r):=by
 have hh:=fun (w:Int)=>DF a0 p1 x2 w
 have h:=fun ho=>cA (T:=TT) (k:=k) (c:=lP) (step:=(fun (w:Int)=>fQ a0 p1 x2 w)) _ _ ho hh p5
 refine Eq.trans (h (fun r s e=>by have q:=congrArg Prod.fst e; rcases r with x | x <;> cases q)) ?_
 unfold n9
 exact bQ _ fun x=>by rcases x with x | x <;> rfl
theorem DH (a0:aA) (p1:Int):cX TT lS ⟨[(1,.ptr 1 0),(12,.d (.sl (cM a9.cells a0.Usances))),(13,.d (.int .i64 (a0.Usances.length:Int))),(14,.d (.int .i64 p1))],[(1,some (.box (aC a0.cells)))]⟩ (fun e s=>some (e,s)) = dW (fun (w:Int)=>(⟨[(1,.ptr 1 0),(12,.d (.sl (cM a9.cells a0.Usances))),(13,.d (.int .i64 (a0.Usances.length:Int))),(14,.d (.int .i64 w))],[(1,some (.box (aC a0.cells)))]⟩ : St)) (fun (r:Unit ⊕ Int)=>Sum.elim (fun (z:Unit)=>(((.exit 0),⟨[],[]⟩):Ex × St)) (fun (z:Int)=>((.ret,⟨[(2,.d (.int .i64 z))],[]⟩):Ex × St)) r) (fR a0 p1):=by
 simp -implicitDefEqProofs (decide:=true) (maxSteps:=2000000) only [lS,fR,↓vE,↓fJ,↓DN,↓DR,DQ,DP,↓reduceIte,Int.reduceToNat,Nat.reduceBEq,Nat.reduceAdd,Nat.reduceLT,Nat.reduceLeDiff,Nat.reduceEqDiff,Int.reduceEq,ne_eq,zN,reduceCtorEq,bM,bO,bP,zM,zA,zB,aH,zC,zD,if_true,if_false,zE,zF,aD,zG,aL,zH,zI,zJ,zK,aV,aQ,aR,aT,aS,aE,aK,aJ,aF,aM,aG,aW,bA,Vm.bind_map,aI,aU,zL]
 all_goals try simp only [bF]
 all_goals try rfl
theorem DC {β:Type} (a0:aA) (p1:Int) (k:Ex→St→Option β):cX TT vD ⟨[(1,.ptr 1 0),(12,.d (.sl (cM a9.cells a0.Usances))),(13,.d (.int .i64 (a0.Usances.length:Int))),(14,.d (.int .i64 p1))],[(1,some (.box (aC a0.cells)))]⟩ k = (rZ a0 p1).bind (fun (r:Unit ⊕ Int)=>Sum.elim (fun (z:Unit)=>k (.exit 0) ⟨[],[]⟩) (fun (z:Int)=>k .ret ⟨[(2,.d (.int .i64 z))],[]⟩) r):=by
 have hh:=fun (w:Int)=>DH a0 w
 have h:=fun ho=>cA (T:=TT) (k:=k) (c:=lS) (step:=(fun (w:Int)=>fR a0 w)) _ _ ho hh p1
 refine Eq.trans (h (fun r s e=>by have q:=congrArg Prod.fst e; rcases r with x | x <;> cases q)) ?_
 unfold rZ
 exact bQ _ fun x=>by rcases x with x | x <;> rfl
theorem GY (a0:aA):Vm.call TT 99 [.agg a0.cells] = (mD a0).map fun (r:Int)=>.int .i64 r:=by
 refine (bX (show TT 99 = some (.code ⟨1,68,[.tmp 2],aFT,false,false⟩) from rfl) _ rfl rfl).trans ?_
 show cX TT aFT ⟨[(0,cW a0.cells)],[]⟩ _ = _
 simp -implicitDefEqProofs (decide:=true) (maxSteps:=2000000) only [aFT,mD,↓vE,↓DC,↓fJ,↓DN,↓DR,DQ,DP,↓reduceIte,Int.reduceToNat,Nat.reduceBEq,Nat.reduceAdd,Nat.reduceLT,Nat.reduceLeDiff,Nat.reduceEqDiff,Int.reduceEq,ne_eq,zN,reduceCtorEq,bM,bO,bP,zM,zA,zB,aH,zC,zD,if_true,if_false,zE,zF,aD,zG,aL,zH,zI,zJ,zK,aV,aQ,aR,aT,aS,aE,aK,aJ,aF,aM,aG,aW,bA,Vm.bind_map,aI,aU,zL]
 all_goals try simp only [bF]
 all_goals try rfl
theorem zP {β:Type} (a0:aA) (d:Nat) (bl:List (Nat × Option aX)) (fz:List (Nat × Option aX)) (k:V→Option β) (kw:V→List (Nat × Option aX)→Option β):dM TT d bl 99 [.agg a0.cells] fz k kw = (mD a0).bind fun (r:Int)=>k (.d (.int .i64 r)):=by
 have h:=GY a0
 exact bR h (fun _=>rfl) fz
theorem GC (a0:aA) (p1:Int):cX TT o9 ⟨[(1,.ptr 1 0),(12,.d (.sl (cM bV.cells a0.Rates))),(13,.d (.int .i64 (a0.Rates.length:Int))),(14,.d (.int .i64 p1))],[(1,some (.box (aC a0.cells)))]⟩ (fun e s=>some (e,s)) = dW (fun (w:Int)=>(⟨[(1,.ptr 1 0),(12,.d (.sl (cM bV.cells a0.Rates))),(13,.d (.int .i64 (a0.Rates.length:Int))),(14,.d (.int .i64 w))],[(1,some (.box (aC a0.cells)))]⟩ : St)) (fun (r:Unit ⊕ Unit)=>Sum.elim (fun (z:Unit)=>(((.exit 0),⟨[(1,.ptr 1 0)],[(1,some (.box (aC a0.cells)))]⟩):Ex × St)) (fun (z:Unit)=>((.ret,⟨[(2,.d (.int .i64 1))],[]⟩):Ex × St)) r) (iN a0 p1):=by
 simp -implicitDefEqProofs (decide:=true) (maxSteps:=2000000) only [o9,iN,↓fJ,↓DN,↓DR,DQ,DP,↓reduceIte,Int.reduceToNat,Nat.reduceBEq,Nat.reduceAdd,Nat.reduceLT,Nat.reduceLeDiff,Nat.reduceEqDiff,Int.reduceEq,ne_eq,zN,reduceCtorEq,bM,bO,bP,zM,zA,zB,aH,zC,zD,if_true,if_false,zE,zF,aD,zG,aL,zH,zI,zJ,zK,aV,aQ,aR,aT,aS,aE,aK,aJ,aF,aM,aG,aW,bA,Vm.bind_map,aI,aU,zL]
 all_goals try simp only [bF]
 all_goals try rfl
theorem z0 {β:Type} (a0:aA) (p1:Int) (k:Ex→St→Option β):cX TT AA ⟨[(1,.ptr 1 0),(12,.d (.sl (cM bV.cells a0.Rates))),(13,.d (.int .i64 (a0.Rates.length:Int))),(14,.d (.int .i64 p1))],[(1,some (.box (aC a0.cells)))]⟩ k = (rL a0 p1).bind (fun (r:Unit ⊕ Unit)=>Sum.elim (fun (z:Unit)=>k (.exit 0) ⟨[(1,.ptr 1 0)],[(1,some (.box (aC a0.cells)))]⟩) (fun (z:Unit)=>k .ret ⟨[(2,.d (.int .i64 1))],[]⟩) r):=by
 have hh:=fun (w:Int)=>GC a0 w
 have h:=fun ho=>cA (T:=TT) (k:=k) (c:=o9) (step:=(fun (w:Int)=>iN a0 w)) _ _ ho hh p1
 refine Eq.trans (h (fun r s e=>by have q:=congrArg Prod.fst e; rcases r with x | x <;> cases q)) ?_
 unfold rL
 exact bQ _ fun x=>by rcases x with x | x <;> rfl
theorem G2 (a0:aA) (p11:Int):cX TT pC ⟨[(1,.ptr 1 0),(67,.d (.sl (cM bZ.cells a0.Halts))),(68,.d (.int .i64 (a0.Halts.length:Int))),(69,.d (.int .i64 p11))],[(1,some (.box (aC a0.cells)))]⟩ (fun e s=>some (e,s)) = dW (fun (w:Int)=>(⟨[(1,.ptr 1 0),(67,.d (.sl (cM bZ.cells a0.Halts))),(68,.d (.int .i64 (a0.Halts.length:Int))),(69,.d (.int .i64 w))],[(1,some (.box (aC a0.cells)))]⟩ : St)) (fun (r:Unit ⊕ Unit)=>Sum.elim (fun (z:Unit)=>(((.exit 2),⟨[],[]⟩):Ex × St)) (fun (z:Unit)=>((.ret,⟨[(2,.d (.int .i64 1))],[]⟩):Ex × St)) r) (iM a0 p11):=by
 simp -implicitDefEqProofs (decide:=true) (maxSteps:=2000000) only [pC,iM,↓z0,↓fJ,↓DN,↓DR,DQ,DP,↓reduceIte,Int.reduceToNat,Nat.reduceBEq,Nat.reduceAdd,Nat.reduceLT,Nat.reduceLeDiff,Nat.reduceEqDiff,Int.reduceEq,ne_eq,zN,reduceCtorEq,bM,bO,bP,zM,zA,zB,aH,zC,zD,if_true,if_false,zE,zF,aD,zG,aL,zH,zI,zJ,zK,aV,aQ,aR,aT,aS,aE,aK,aJ,aF,aM,aG,aW,bA,Vm.bind_map,aI,aU,zL]
 all_goals try simp only [bF]
 all_goals try rfl
theorem GU {β:Type} (a0:aA) (p11:Int) (k:Ex→St→Option β):cX TT zS ⟨[(1,.ptr 1 0),(67,.d (.sl (cM bZ.cells a0.Halts))),(68,.d (.int .i64 (a0.Halts.length:Int))),(69,.d (.int .i64 p11))],[(1,some (.box (aC a0.cells)))]⟩ k = (sC a0 p11).bind (fun (r:Unit ⊕ Unit)=>Sum.elim (fun (z:Unit)=>k (.exit 2) ⟨[],[]⟩) (fun (z:Unit)=>k .ret ⟨[(2,.d (.int .i64 1))],[]⟩) r):=by
 have hh:=fun (w:Int)=>G2 a0 w
 have h:=fun ho=>cA (T:=TT) (k:=k) (c:=pC) (step:=(fun (w:Int)=>iM a0 w)) _ _ ho hh p11
 refine Eq.trans (h (fun r s e=>by have q:=congrArg Prod.fst e; rcases r with x | x <;> cases q)) ?_
 unfold sC
 exact bQ _ fun x=>by rcases x with x | x <;> rfl
theorem LJ (a0:aA):Vm.call TT 100 [.agg a0.cells] = (rA a0).map fun (r:Int)=>.int .i64 r:=by
 refine (bX (show TT 100 = some (.code ⟨1,98,[.tmp 2],WG,false,false⟩) from rfl) _ rfl rfl).trans ?_
 show cX TT WG ⟨[(0,cW a0.cells)],[]⟩ _ = _
 simp -implicitDefEqProofs (decide:=true) (maxSteps:=2000000) only [WG,rA,↓z0,↓GU,↓fJ,↓DN,↓DR,DQ,DP,↓reduceIte,Int.reduceToNat,Nat.reduceBEq,Nat.reduceAdd,Nat.reduceLT,Nat.reduceLeDiff,Nat.reduceEqDiff,Int.reduceEq,ne_eq,zN,reduceCtorEq,bM,bO,bP,zM,zA,zB,aH,zC,zD,if_true,if_false,zE,zF,aD,zG,aL,zH,zI,zJ,zK,aV,aQ,aR,aT,aS,aE,aK,aJ,aF,aM,aG,aW,bA,Vm.bind_map,aI,aU,zL]
 all_goals try simp only [bF]
 all_goals try rfl
theorem DZ {β:Type} (a0:aA) (d:Nat) (bl:List (Nat × Option aX)) (fz:List (Nat × Option aX)) (k:V→Option β) (kw:V→List (Nat × Option aX)→Option β):dM TT d bl 100 [.agg a0.cells] fz k kw = (rA a0).bind fun (r:Int)=>k (.d (.int .i64 r)):=by
 have h:=LJ a0
 exact bR h (fun _=>rfl) fz
end Go.Proofs.Ytfhebiceipgdmaa
