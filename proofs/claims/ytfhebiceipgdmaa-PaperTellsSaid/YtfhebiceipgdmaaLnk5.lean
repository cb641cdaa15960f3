/- The functions of the small machine compute the plain definitions. Printed by a program. -/
import Derived.Test.YtfhebiceipgdmaaLnk4
set_option linter.unusedVariables false
set_option linter.unusedSimpArgs false
namespace Go.Proofs.Ytfhebiceipgdmaa
open Vm
open Go.RowKit
set_option maxRecDepth 100000
set_option maxHeartbeats 4000000
attribute [local congr] pR rP pQ rO
theorem C9 {β:Type} (r1:aA × aB) (d:Nat) (bl:List (Nat × Option aY)) (fz:List (Nat × Option aY)) (k:V→Option β) (kw:V→List (Nat × Option aY)→Option β):cH TT d bl 30 [.agg (aA.cells r1.1),.agg (aB.cells r1.2),.agg [.int .i64 2,.int .i64 1,.int .i64 0,.int .i64 (-1),.int .i64 (-1),.int .i64 0,.int .i64 11,.int .i64 0,.int .i64 0]] fz k kw = (fY r1.1 r1.2 (aX.mk 2 1 0 (-1) (-1) 0 11 0 0)).bind fun (r:aB × Int)=>LK fz (.tup [cO (aB.cells r.1),.d (.int .i64 r.2)]) k kw:=by
 have h:=pW r1.1 r1.2 (aX.mk 2 1 0 (-1) (-1) 0 11 0 0)
 exact fZ h (fun _=>rfl) (fun _=>rfl) fz
theorem DF {β:Type} (r1:aA × aB) (d:Nat) (bl:List (Nat × Option aY)) (fz:List (Nat × Option aY)) (k:V→Option β) (kw:V→List (Nat × Option aY)→Option β):cH TT d bl 30 [.agg (aA.cells r1.1),.agg (aB.cells r1.2),.agg [.int .i64 2,.int .i64 1,.int .i64 0,.int .i64 (-1),.int .i64 (-1),.int .i64 0,.int .i64 12,.int .i64 0,.int .i64 0]] fz k kw = (fY r1.1 r1.2 (aX.mk 2 1 0 (-1) (-1) 0 12 0 0)).bind fun (r:aB × Int)=>LK fz (.tup [cO (aB.cells r.1),.d (.int .i64 r.2)]) k kw:=by
 have h:=pW r1.1 r1.2 (aX.mk 2 1 0 (-1) (-1) 0 12 0 0)
 exact fZ h (fun _=>rfl) (fun _=>rfl) fz
theorem EE {β:Type} (r1:aA × aB) (d:Nat) (bl:List (Nat × Option aY)) (fz:List (Nat × Option aY)) (k:V→Option β) (kw:V→List (Nat × Option aY)→Option β):cH TT d bl 30 [.agg (aA.cells r1.1),.agg (aB.cells r1.2),.agg [.int .i64 1,.int .i64 0,.int .i64 1,.int .i64 (-1),.int .i64 (-1),.int .i64 300,.int .i64 20,.int .i64 0,.int .i64 0]] fz k kw = (fY r1.1 r1.2 (aX.mk 1 0 1 (-1) (-1) 300 20 0 0)).bind fun (r:aB × Int)=>LK fz (.tup [cO (aB.cells r.1),.d (.int .i64 r.2)]) k kw:=by
 have h:=pW r1.1 r1.2 (aX.mk 1 0 1 (-1) (-1) 300 20 0 0)
 exact fZ h (fun _=>rfl) (fun _=>rfl) fz
theorem EA {β:Type} (r1:aA × aB) (d:Nat) (bl:List (Nat × Option aY)) (fz:List (Nat × Option aY)) (k:V→Option β) (kw:V→List (Nat × Option aY)→Option β):cH TT d bl 30 [.agg (aA.cells r1.1),.agg (aB.cells r1.2),.agg [.int .i64 1,.int .i64 1,.int .i64 1,.int .i64 (-1),.int .i64 (-1),.int .i64 300,.int .i64 20,.int .i64 0,.int .i64 0]] fz k kw = (fY r1.1 r1.2 (aX.mk 1 1 1 (-1) (-1) 300 20 0 0)).bind fun (r:aB × Int)=>LK fz (.tup [cO (aB.cells r.1),.d (.int .i64 r.2)]) k kw:=by
 have h:=pW r1.1 r1.2 (aX.mk 1 1 1 (-1) (-1) 300 20 0 0)
 exact fZ h (fun _=>rfl) (fun _=>rfl) fz
theorem D6 {β:Type} (r1:aA × aB) (d:Nat) (bl:List (Nat × Option aY)) (fz:List (Nat × Option aY)) (k:V→Option β) (kw:V→List (Nat × Option aY)→Option β):cH TT d bl 30 [.agg (aA.cells r1.1),.agg (aB.cells r1.2),.agg [.int .i64 3,.int .i64 1,.int .i64 0,.int .i64 2,.int .i64 (-1),.int .i64 0,.int .i64 20,.int .i64 0,.int .i64 0]] fz k kw = (fY r1.1 r1.2 (aX.mk 3 1 0 2 (-1) 0 20 0 0)).bind fun (r:aB × Int)=>LK fz (.tup [cO (aB.cells r.1),.d (.int .i64 r.2)]) k kw:=by
 have h:=pW r1.1 r1.2 (aX.mk 3 1 0 2 (-1) 0 20 0 0)
 exact fZ h (fun _=>rfl) (fun _=>rfl) fz
theorem ED {β:Type} (r1:aA × aB) (d:Nat) (bl:List (Nat × Option aY)) (fz:List (Nat × Option aY)) (k:V→Option β) (kw:V→List (Nat × Option aY)→Option β):cH TT d bl 30 [.agg (aA.cells r1.1),.agg (aB.cells r1.2),.agg [.int .i64 3,.int .i64 0,.int .i64 0,.int .i64 2,.int .i64 (-1),.int .i64 0,.int .i64 20,.int .i64 0,.int .i64 0]] fz k kw = (fY r1.1 r1.2 (aX.mk 3 0 0 2 (-1) 0 20 0 0)).bind fun (r:aB × Int)=>LK fz (.tup [cO (aB.cells r.1),.d (.int .i64 r.2)]) k kw:=by
 have h:=pW r1.1 r1.2 (aX.mk 3 0 0 2 (-1) 0 20 0 0)
 exact fZ h (fun _=>rfl) (fun _=>rfl) fz
theorem D5 {β:Type} (r1:aA × aB) (d:Nat) (bl:List (Nat × Option aY)) (fz:List (Nat × Option aY)) (k:V→Option β) (kw:V→List (Nat × Option aY)→Option β):cH TT d bl 29 [.agg (aA.cells r1.1),.agg [.int .i64 r1.2.Bill.Drawer,.int .i64 r1.2.Bill.Drawee,.int .i64 r1.2.Bill.Payee,.int .i64 r1.2.Bill.Sum,.int .i64 r1.2.Bill.Currency,.int .i64 r1.2.Bill.Tenor.Kind,.int .i64 r1.2.Bill.Tenor.N,.int .i64 r1.2.Bill.Tenor.Unit,.int .i64 r1.2.Bill.Day,.int .i64 r1.2.Bill.City,.int .i64 r1.2.Bill.Pay,.int .i64 r1.2.Bill.Need,.int .i64 r1.2.Bill.Rate,.int .i64 r1.2.Bill.Flags,.int .i64 r1.2.Bill.Parts,.sl (cM aX.cells r1.2.Signs),.sl (cM bE.cells [(bE.mk 1 900)]),.sl (cM bP.cells r1.2.Acts),.sl (cM bS.cells r1.2.Facts)]] fz k kw = (lP r1.1 (aB.mk r1.2.Bill r1.2.Signs [(bE.mk 1 900)] r1.2.Acts r1.2.Facts)).bind fun (r:Int)=>k (.d (.int .i64 r)):=by
 have h:=AO r1.1 (aB.mk r1.2.Bill r1.2.Signs [(bE.mk 1 900)] r1.2.Acts r1.2.Facts)
 exact bI h (fun _=>rfl) fz
theorem EG {β:Type} (r1:aA × aB) (d:Nat) (bl:List (Nat × Option aY)) (fz:List (Nat × Option aY)) (k:V→Option β) (kw:V→List (Nat × Option aY)→Option β):cH TT d bl 33 [.agg [.int .i64 r1.2.Bill.Drawer,.int .i64 r1.2.Bill.Drawee,.int .i64 r1.2.Bill.Payee,.int .i64 r1.2.Bill.Sum,.int .i64 r1.2.Bill.Currency,.int .i64 r1.2.Bill.Tenor.Kind,.int .i64 r1.2.Bill.Tenor.N,.int .i64 r1.2.Bill.Tenor.Unit,.int .i64 r1.2.Bill.Day,.int .i64 r1.2.Bill.City,.int .i64 r1.2.Bill.Pay,.int .i64 r1.2.Bill.Need,.int .i64 r1.2.Bill.Rate,.int .i64 r1.2.Bill.Flags,.int .i64 r1.2.Bill.Parts,.sl (cM aX.cells r1.2.Signs),.sl (cM bE.cells [(bE.mk 1 900)]),.sl (cM bP.cells r1.2.Acts),.sl (cM bS.cells r1.2.Facts)],.int .i64 1] fz k kw = (vE (aB.mk r1.2.Bill r1.2.Signs [(bE.mk 1 900)] r1.2.Acts r1.2.Facts) 1).bind fun (r:(List Int))=>LK fz (.d (.sl (cM cI r))) k kw:=by
 have h:=MC (aB.mk r1.2.Bill r1.2.Signs [(bE.mk 1 900)] r1.2.Acts r1.2.Facts) 1
 exact fZ h (fun _=>rfl) (fun _=>rfl) fz
theorem DM {β:Type} (r1:aA × aB) (d:Nat) (bl:List (Nat × Option aY)) (fz:List (Nat × Option aY)) (k:V→Option β) (kw:V→List (Nat × Option aY)→Option β):cH TT d bl 32 [.agg [.int .i64 r1.2.Bill.Drawer,.int .i64 r1.2.Bill.Drawee,.int .i64 r1.2.Bill.Payee,.int .i64 r1.2.Bill.Sum,.int .i64 r1.2.Bill.Currency,.int .i64 r1.2.Bill.Tenor.Kind,.int .i64 r1.2.Bill.Tenor.N,.int .i64 r1.2.Bill.Tenor.Unit,.int .i64 r1.2.Bill.Day,.int .i64 r1.2.Bill.City,.int .i64 r1.2.Bill.Pay,.int .i64 r1.2.Bill.Need,.int .i64 r1.2.Bill.Rate,.int .i64 r1.2.Bill.Flags,.int .i64 r1.2.Bill.Parts,.sl (cM aX.cells r1.2.Signs),.sl (cM bE.cells [(bE.mk 1 900)]),.sl (cM bP.cells r1.2.Acts),.sl (cM bS.cells r1.2.Facts)]] fz k kw = (l8 (aB.mk r1.2.Bill r1.2.Signs [(bE.mk 1 900)] r1.2.Acts r1.2.Facts)).bind fun (r:(List Int))=>LK fz (.d (.sl (cM cI r))) k kw:=by
 have h:=DV (aB.mk r1.2.Bill r1.2.Signs [(bE.mk 1 900)] r1.2.Acts r1.2.Facts)
 exact fZ h (fun _=>rfl) (fun _=>rfl) fz
theorem CJ {β:Type} (r1:aA × aB) (d:Nat) (bl:List (Nat × Option aY)) (fz:List (Nat × Option aY)) (k:V→Option β) (kw:V→List (Nat × Option aY)→Option β):cH TT d bl 34 [.agg [.int .i64 r1.2.Bill.Drawer,.int .i64 r1.2.Bill.Drawee,.int .i64 r1.2.Bill.Payee,.int .i64 r1.2.Bill.Sum,.int .i64 r1.2.Bill.Currency,.int .i64 r1.2.Bill.Tenor.Kind,.int .i64 r1.2.Bill.Tenor.N,.int .i64 r1.2.Bill.Tenor.Unit,.int .i64 r1.2.Bill.Day,.int .i64 r1.2.Bill.City,.int .i64 r1.2.Bill.Pay,.int .i64 r1.2.Bill.Need,.int .i64 r1.2.Bill.Rate,.int .i64 r1.2.Bill.Flags,.int .i64 r1.2.Bill.Parts,.sl (cM aX.cells r1.2.Signs),.sl (cM bE.cells [(bE.mk 1 900)]),.sl (cM bP.cells r1.2.Acts),.sl (cM bS.cells r1.2.Facts)],.int .i64 0] fz k kw = (lW (aB.mk r1.2.Bill r1.2.Signs [(bE.mk 1 900)] r1.2.Acts r1.2.Facts) 0).bind fun (r:Int)=>k (.d (.int .i64 r)):=by
 have h:=AL (aB.mk r1.2.Bill r1.2.Signs [(bE.mk 1 900)] r1.2.Acts r1.2.Facts) 0
 exact bI h (fun _=>rfl) fz
theorem CF {β:Type} (r1:aA × aB) (d:Nat) (bl:List (Nat × Option aY)) (fz:List (Nat × Option aY)) (k:V→Option β) (kw:V→List (Nat × Option aY)→Option β):cH TT d bl 34 [.agg [.int .i64 r1.2.Bill.Drawer,.int .i64 r1.2.Bill.Drawee,.int .i64 r1.2.Bill.Payee,.int .i64 r1.2.Bill.Sum,.int .i64 r1.2.Bill.Currency,.int .i64 r1.2.Bill.Tenor.Kind,.int .i64 r1.2.Bill.Tenor.N,.int .i64 r1.2.Bill.Tenor.Unit,.int .i64 r1.2.Bill.Day,.int .i64 r1.2.Bill.City,.int .i64 r1.2.Bill.Pay,.int .i64 r1.2.Bill.Need,.int .i64 r1.2.Bill.Rate,.int .i64 r1.2.Bill.Flags,.int .i64 r1.2.Bill.Parts,.sl (cM aX.cells r1.2.Signs),.sl (cM bE.cells [(bE.mk 1 900)]),.sl (cM bP.cells r1.2.Acts),.sl (cM bS.cells r1.2.Facts)],.int .i64 1] fz k kw = (lW (aB.mk r1.2.Bill r1.2.Signs [(bE.mk 1 900)] r1.2.Acts r1.2.Facts) 1).bind fun (r:Int)=>k (.d (.int .i64 r)):=by
 have h:=AL (aB.mk r1.2.Bill r1.2.Signs [(bE.mk 1 900)] r1.2.Acts r1.2.Facts) 1
 exact bI h (fun _=>rfl) fz
theorem xN:Vm.call TT 27 [] = (fN).map fun (r:Bool)=>.bool r:=by
 refine (bQ (show TT 27 = some (.code ⟨0,127,[.tmp 0],aFS,false⟩) from rfl) _ rfl).trans ?_
 show cP TT aFS ⟨[],[]⟩ _ = _
 simp -implicitDefEqProofs (decide:=true) (maxSteps:=2000000) only [aFS,fN,↓AA,↓KC,↓EC,↓ME,↓GV,↓uA,↓DY,↓C9,↓DF,↓EE,↓EA,↓D6,↓ED,↓D5,↓EG,↓DM,↓CJ,↓CF,↓DN,↓DR,DQ,DP,↓reduceIte,Int.reduceToNat,Nat.reduceBEq,Nat.reduceAdd,Nat.reduceLT,Nat.reduceLeDiff,Nat.reduceEqDiff,Int.reduceEq,ne_eq,zN,reduceCtorEq,bJ,bM,bN,zM,zA,zB,aH,zC,zD,if_true,if_false,zE,zF,aG,zG,aJ,zH,zI,zJ,zK,aQ,aP,aV,aT,aS,aD,aL,aM,aE,aK,aF,aR,aZ,aU,aI,aW,zL]
 all_goals try simp only [bG]
 all_goals try rfl
theorem F9 {β:Type} (d:Nat) (bl:List (Nat × Option aY)) (fz:List (Nat × Option aY)) (k:V→Option β) (kw:V→List (Nat × Option aY)→Option β):cH TT d bl 27 [] fz k kw = (fN).bind fun (r:Bool)=>k (.d (.bool r)):=by
 have h:=xN
 exact bI h (fun _=>rfl) fz
theorem HR (a0:aB):Vm.call TT 28 [.agg a0.cells] = (mB a0).map fun (r:Bool)=>.bool r:=by
 refine (bQ (show TT 28 = some (.code ⟨1,25,[.tmp 2],aFB,false⟩) from rfl) _ rfl).trans ?_
 show cP TT aFB ⟨[(0,cO a0.cells)],[]⟩ _ = _
 simp -implicitDefEqProofs (decide:=true) (maxSteps:=2000000) only [aFB,mB,↓DN,↓DR,DQ,DP,↓reduceIte,Int.reduceToNat,Nat.reduceBEq,Nat.reduceAdd,Nat.reduceLT,Nat.reduceLeDiff,Nat.reduceEqDiff,Int.reduceEq,ne_eq,zN,reduceCtorEq,bJ,bM,bN,zM,zA,zB,aH,zC,zD,if_true,if_false,zE,zF,aG,zG,aJ,zH,zI,zJ,zK,aQ,aP,aV,aT,aS,aD,aL,aM,aE,aK,aF,aR,aZ,aU,aI,aW,zL]
 all_goals try simp only [bG]
 all_goals try rfl
theorem HG {β:Type} (a0:aB) (d:Nat) (bl:List (Nat × Option aY)) (fz:List (Nat × Option aY)) (k:V→Option β) (kw:V→List (Nat × Option aY)→Option β):cH TT d bl 28 [.agg a0.cells] fz k kw = (mB a0).bind fun (r:Bool)=>k (.d (.bool r)):=by
 have h:=HR a0
 exact bI h (fun _=>rfl) fz
theorem FD (a0:Int):Vm.call TT 122 [.int .u8 a0] = (iO a0).map fun (r:Bool)=>.bool r:=by
 refine (bQ (show TT 122 = some (.code ⟨1,17,[.tmp 2],Z9,false⟩) from rfl) _ rfl).trans ?_
 show cP TT Z9 ⟨[(0,.d (.int .u8 a0))],[]⟩ _ = _
 simp -implicitDefEqProofs (decide:=true) (maxSteps:=2000000) only [Z9,iO,↓DN,↓DR,DQ,DP,↓reduceIte,Int.reduceToNat,Nat.reduceBEq,Nat.reduceAdd,Nat.reduceLT,Nat.reduceLeDiff,Nat.reduceEqDiff,Int.reduceEq,ne_eq,zN,reduceCtorEq,bJ,bM,bN,zM,zA,zB,aH,zC,zD,if_true,if_false,zE,zF,aG,zG,aJ,zH,zI,zJ,zK,aQ,aP,aV,aT,aS,aD,aL,aM,aE,aK,aF,aR,aZ,aU,aI,aW,zL]
 all_goals try simp only [bG]
 all_goals try rfl
theorem pZ {β:Type} (a0:Int) (d:Nat) (bl:List (Nat × Option aY)) (fz:List (Nat × Option aY)) (k:V→Option β) (kw:V→List (Nat × Option aY)→Option β):cH TT d bl 122 [.int .u8 a0] fz k kw = (iO a0).bind fun (r:Bool)=>k (.d (.bool r)):=by
 have h:=FD a0
 exact bI h (fun _=>rfl) fz
theorem uQ {β:Type} (a0:ByteArray) (p1:Int) (p5:Bool) (k:Ex→St→Option β):cP TT pI ⟨[(0,.d (.str a0)),(3,.d (.int .i64 p1)),(4,.d (.bool p5))],[]⟩ k = (fW a0 p1 p5).bind (fun (r:Unit ⊕ Unit)=>Sum.elim (fun (z:Unit)=>k .normal ⟨[(0,.d (.str a0)),(3,.d (.int .i64 p1))],[]⟩) (fun (z:Unit)=>k .ret ⟨[(2,.d (.bool false))],[]⟩) r):=by
 simp -implicitDefEqProofs (decide:=true) (maxSteps:=2000000) only [pI,fW,↓pZ,↓DN,↓DR,DQ,DP,↓reduceIte,Int.reduceToNat,Nat.reduceBEq,Nat.reduceAdd,Nat.reduceLT,Nat.reduceLeDiff,Nat.reduceEqDiff,Int.reduceEq,ne_eq,zN,reduceCtorEq,bJ,bM,bN,zM,zA,zB,aH,zC,zD,if_true,if_false,zE,zF,aG,zG,aJ,zH,zI,zJ,zK,aQ,aP,aV,aT,aS,aD,aL,aM,aE,aK,aF,aR,aZ,aU,aI,aW,zL]
 all_goals try simp only [bG]
 all_goals try rfl
theorem C7 (a0:ByteArray) (p1:Int):cP TT mF ⟨[(0,.d (.str a0)),(3,.d (.int .i64 p1))],[]⟩ (fun e s=>some (e,s)) = cV (fun (w:Int)=>(⟨[(0,.d (.str a0)),(3,.d (.int .i64 w))],[]⟩ : St)) (fun (r:Unit ⊕ Unit)=>Sum.elim (fun (z:Unit)=>(((.exit 0),⟨[],[]⟩):Ex × St)) (fun (z:Unit)=>((.ret,⟨[(2,.d (.bool false))],[]⟩):Ex × St)) r) (fC a0 p1):=by
 simp -implicitDefEqProofs (decide:=true) (maxSteps:=2000000) only [mF,fC,↓uQ,↓pZ,↓DN,↓DR,DQ,DP,↓reduceIte,Int.reduceToNat,Nat.reduceBEq,Nat.reduceAdd,Nat.reduceLT,Nat.reduceLeDiff,Nat.reduceEqDiff,Int.reduceEq,ne_eq,zN,reduceCtorEq,bJ,bM,bN,zM,zA,zB,aH,zC,zD,if_true,if_false,zE,zF,aG,zG,aJ,zH,zI,zJ,zK,aQ,aP,aV,aT,aS,aD,aL,aM,aE,aK,aF,aR,aZ,aU,aI,aW,zL]
 all_goals try simp only [bG]
 all_goals try rfl
theorem EL {β:Type} (a0:ByteArray) (p1:Int) (k:Ex→St→Option β):cP TT vA ⟨[(0,.d (.str a0)),(3,.d (.int .i64 p1))],[]⟩ k = (nP a0 p1).bind (fun (r:Unit ⊕ Unit)=>Sum.elim (fun (z:Unit)=>k (.exit 0) ⟨[],[]⟩) (fun (z:Unit)=>k .ret ⟨[(2,.d (.bool false))],[]⟩) r):=by
 have hh:=fun (w:Int)=>C7 a0 w
 have h:=fun ho=>cA (T:=TT) (k:=k) (c:=mF) (step:=(fun (w:Int)=>fC a0 w)) _ _ ho hh p1
 refine Eq.trans (h (fun r s e=>by have q:=congrArg Prod.fst e; rcases r with x | x <;> cases q)) ?_
 unfold nP
 exact bK _ fun x=>by rcases x with x | x <;> rfl
theorem GI (a0:ByteArray):Vm.call TT 118 [.str a0] = (lG a0).map fun (r:Bool)=>.bool r:=by
 refine (bQ (show TT 118 = some (.code ⟨1,48,[.tmp 2],ZL,false⟩) from rfl) _ rfl).trans ?_
 show cP TT ZL ⟨[(0,.d (.str a0))],[]⟩ _ = _
 simp -implicitDefEqProofs (decide:=true) (maxSteps:=2000000) only [ZL,lG,↓uQ,↓EL,↓pZ,↓DN,↓DR,DQ,DP,↓reduceIte,Int.reduceToNat,Nat.reduceBEq,Nat.reduceAdd,Nat.reduceLT,Nat.reduceLeDiff,Nat.reduceEqDiff,Int.reduceEq,ne_eq,zN,reduceCtorEq,bJ,bM,bN,zM,zA,zB,aH,zC,zD,if_true,if_false,zE,zF,aG,zG,aJ,zH,zI,zJ,zK,aQ,aP,aV,aT,aS,aD,aL,aM,aE,aK,aF,aR,aZ,aU,aI,aW,zL]
 all_goals try simp only [bG]
 all_goals try rfl
theorem GH {β:Type} (a0:ByteArray) (d:Nat) (bl:List (Nat × Option aY)) (fz:List (Nat × Option aY)) (k:V→Option β) (kw:V→List (Nat × Option aY)→Option β):cH TT d bl 118 [.str a0] fz k kw = (lG a0).bind fun (r:Bool)=>k (.d (.bool r)):=by
 have h:=GI a0
 exact bI h (fun _=>rfl) fz
theorem BL (a0:List ByteArray) (a1:Int) (a2:ByteArray) (p1:Int):cP TT kO ⟨[(0,.d (.sl (cM cS a0))),(1,.d (.int .i64 a1)),(2,.d (.str a2)),(7,.d (.int .i64 p1))],[]⟩ (fun e s=>some (e,s)) = cV (fun (w:Int)=>(⟨[(0,.d (.sl (cM cS a0))),(1,.d (.int .i64 a1)),(2,.d (.str a2)),(7,.d (.int .i64 w))],[]⟩ : St)) (fun (r:Unit ⊕ Unit)=>Sum.elim (fun (z:Unit)=>(((.exit 0),⟨[],[]⟩):Ex × St)) (fun (z:Unit)=>((.ret,⟨[(6,.d (.bool true))],[]⟩):Ex × St)) r) (eD a0 a1 a2 p1):=by
 simp -implicitDefEqProofs (decide:=true) (maxSteps:=2000000) only [kO,eD,↓DN,↓DR,DQ,DP,↓reduceIte,Int.reduceToNat,Nat.reduceBEq,Nat.reduceAdd,Nat.reduceLT,Nat.reduceLeDiff,Nat.reduceEqDiff,Int.reduceEq,ne_eq,zN,reduceCtorEq,bJ,bM,bN,zM,zA,zB,aH,zC,zD,if_true,if_false,zE,zF,aG,zG,aJ,zH,zI,zJ,zK,aQ,aP,aV,aT,aS,aD,aL,aM,aE,aK,aF,aR,aZ,aU,aI,aW,zL]
 all_goals try simp only [bG]
 all_goals try rfl
theorem BF {β:Type} (a0:List ByteArray) (a1:Int) (a2:ByteArray) (p1:Int) (k:Ex→St→Option β):cP TT s0 ⟨[(0,.d (.sl (cM cS a0))),(1,.d (.int .i64 a1)),(2,.d (.str a2)),(7,.d (.int .i64 p1))],[]⟩ k = (mD a0 a1 a2 p1).bind (fun (r:Unit ⊕ Unit)=>Sum.elim (fun (z:Unit)=>k (.exit 0) ⟨[],[]⟩) (fun (z:Unit)=>k .ret ⟨[(6,.d (.bool true))],[]⟩) r):=by
 have hh:=fun (w:Int)=>BL a0 a1 a2 w
 have h:=fun ho=>cA (T:=TT) (k:=k) (c:=kO) (step:=(fun (w:Int)=>eD a0 a1 a2 w)) _ _ ho hh p1
 refine Eq.trans (h (fun r s e=>by have q:=congrArg Prod.fst e; rcases r with x | x <;> cases q)) ?_
 unfold mD
 exact bK _ fun x=>by rcases x with x | x <;> rfl
theorem FA (a0:List ByteArray) (a1:Int) (a2:ByteArray):Vm.call TT 119 [.sl (cM cS a0),.int .i64 a1,.str a2] = (iJ a0 a1 a2).map fun (r:Bool)=>.bool r:=by
 refine (bQ (show TT 119 = some (.code ⟨3,25,[.tmp 6],ZT,false⟩) from rfl) _ rfl).trans ?_
 show cP TT ZT ⟨[(0,.d (.sl (cM cS a0))),(1,.d (.int .i64 a1)),(2,.d (.str a2))],[]⟩ _ = _
 simp -implicitDefEqProofs (decide:=true) (maxSteps:=2000000) only [ZT,iJ,↓BF,↓DN,↓DR,DQ,DP,↓reduceIte,Int.reduceToNat,Nat.reduceBEq,Nat.reduceAdd,Nat.reduceLT,Nat.reduceLeDiff,Nat.reduceEqDiff,Int.reduceEq,ne_eq,zN,reduceCtorEq,bJ,bM,bN,zM,zA,zB,aH,zC,zD,if_true,if_false,zE,zF,aG,zG,aJ,zH,zI,zJ,zK,aQ,aP,aV,aT,aS,aD,aL,aM,aE,aK,aF,aR,aZ,aU,aI,aW,zL]
 all_goals try simp only [bG]
 all_goals try rfl
theorem E5 {β:Type} (a0:List ByteArray) (a1:Int) (a2:ByteArray) (d:Nat) (bl:List (Nat × Option aY)) (fz:List (Nat × Option aY)) (k:V→Option β) (kw:V→List (Nat × Option aY)→Option β):cH TT d bl 119 [.sl (cM cS a0),.int .i64 a1,.str a2] fz k kw = (iJ a0 a1 a2).bind fun (r:Bool)=>k (.d (.bool r)):=by
 have h:=FA a0 a1 a2
 exact bI h (fun _=>rfl) fz
theorem F2 (a0:List ByteArray) (a1:Int):Vm.call TT 112 [.sl (cM cS a0),.int .i64 a1] = (dF a0 a1).map fun (r:Int)=>.int .i64 r:=by
 refine (bQ (show TT 112 = some (.code ⟨2,18,[.tmp 4],ZW,false⟩) from rfl) _ rfl).trans ?_
 show cP TT ZW ⟨[(0,.d (.sl (cM cS a0))),(1,.d (.int .i64 a1))],[]⟩ _ = _
 simp -implicitDefEqProofs (decide:=true) (maxSteps:=2000000) only [ZW,dF,↓GH,↓E5,↓DN,↓DR,DQ,DP,↓reduceIte,Int.reduceToNat,Nat.reduceBEq,Nat.reduceAdd,Nat.reduceLT,Nat.reduceLeDiff,Nat.reduceEqDiff,Int.reduceEq,ne_eq,zN,reduceCtorEq,bJ,bM,bN,zM,zA,zB,aH,zC,zD,if_true,if_false,zE,zF,aG,zG,aJ,zH,zI,zJ,zK,aQ,aP,aV,aT,aS,aD,aL,aM,aE,aK,aF,aR,aZ,aU,aI,aW,zL]
 all_goals try simp only [bG]
 all_goals try rfl
theorem eV {β:Type} (a0:List ByteArray) (a1:Int) (d:Nat) (bl:List (Nat × Option aY)) (fz:List (Nat × Option aY)) (k:V→Option β) (kw:V→List (Nat × Option aY)→Option β):cH TT d bl 112 [.sl (cM cS a0),.int .i64 a1] fz k kw = (dF a0 a1).bind fun (r:Int)=>k (.d (.int .i64 r)):=by
 have h:=F2 a0 a1
 exact bI h (fun _=>rfl) fz
theorem E8 (a0:Int) (a1:Int) (a2:Int):Vm.call TT 69 [.int .i64 a0,.int .i64 a1,.int .i64 a2] = (a9 a0 a1 a2).map fun (r:Bool)=>.bool r:=by
 refine (bQ (show TT 69 = some (.code ⟨3,15,[.tmp 6],aFC,false⟩) from rfl) _ rfl).trans ?_
 show cP TT aFC ⟨[(0,.d (.int .i64 a0)),(1,.d (.int .i64 a1)),(2,.d (.int .i64 a2))],[]⟩ _ = _
 simp -implicitDefEqProofs (decide:=true) (maxSteps:=2000000) only [aFC,a9,↓DN,↓DR,DQ,DP,↓reduceIte,Int.reduceToNat,Nat.reduceBEq,Nat.reduceAdd,Nat.reduceLT,Nat.reduceLeDiff,Nat.reduceEqDiff,Int.reduceEq,ne_eq,zN,reduceCtorEq,bJ,bM,bN,zM,zA,zB,aH,zC,zD,if_true,if_false,zE,zF,aG,zG,aJ,zH,zI,zJ,zK,aQ,aP,aV,aT,aS,aD,aL,aM,aE,aK,aF,aR,aZ,aU,aI,aW,zL]
 all_goals try simp only [bG]
 all_goals try rfl
theorem bC {β:Type} (a0:Int) (a1:Int) (a2:Int) (d:Nat) (bl:List (Nat × Option aY)) (fz:List (Nat × Option aY)) (k:V→Option β) (kw:V→List (Nat × Option aY)→Option β):cH TT d bl 69 [.int .i64 a0,.int .i64 a1,.int .i64 a2] fz k kw = (a9 a0 a1 a2).bind fun (r:Bool)=>k (.d (.bool r)):=by
 have h:=E8 a0 a1 a2
 exact bI h (fun _=>rfl) fz
theorem A8 (a0:List Int) (a1:Int) (a2:Int) (p1:Int):cP TT kV ⟨[(0,.d (.sl (cM cI a0))),(1,.d (.int .i64 a1)),(2,.d (.int .i64 a2)),(7,.d (.int .i64 p1))],[]⟩ (fun e s=>some (e,s)) = cV (fun (w:Int)=>(⟨[(0,.d (.sl (cM cI a0))),(1,.d (.int .i64 a1)),(2,.d (.int .i64 a2)),(7,.d (.int .i64 w))],[]⟩ : St)) (fun (r:Unit ⊕ Unit)=>Sum.elim (fun (z:Unit)=>(((.exit 0),⟨[],[]⟩):Ex × St)) (fun (z:Unit)=>((.ret,⟨[(6,.d (.bool false))],[]⟩):Ex × St)) r) (eK a0 a1 a2 p1):=by
 simp -implicitDefEqProofs (decide:=true) (maxSteps:=2000000) only [kV,eK,↓bC,↓DN,↓DR,DQ,DP,↓reduceIte,Int.reduceToNat,Nat.reduceBEq,Nat.reduceAdd,Nat.reduceLT,Nat.reduceLeDiff,Nat.reduceEqDiff,Int.reduceEq,ne_eq,zN,reduceCtorEq,bJ,bM,bN,zM,zA,zB,aH,zC,zD,if_true,if_false,zE,zF,aG,zG,aJ,zH,zI,zJ,zK,aQ,aP,aV,aT,aS,aD,aL,aM,aE,aK,aF,aR,aZ,aU,aI,aW,zL]
 all_goals try simp only [bG]
 all_goals try rfl
theorem BK {β:Type} (a0:List Int) (a1:Int) (a2:Int) (p1:Int) (k:Ex→St→Option β):cP TT s5 ⟨[(0,.d (.sl (cM cI a0))),(1,.d (.int .i64 a1)),(2,.d (.int .i64 a2)),(7,.d (.int .i64 p1))],[]⟩ k = (mH a0 a1 a2 p1).bind (fun (r:Unit ⊕ Unit)=>Sum.elim (fun (z:Unit)=>k (.exit 0) ⟨[],[]⟩) (fun (z:Unit)=>k .ret ⟨[(6,.d (.bool false))],[]⟩) r):=by
 have hh:=fun (w:Int)=>A8 a0 a1 a2 w
 have h:=fun ho=>cA (T:=TT) (k:=k) (c:=kV) (step:=(fun (w:Int)=>eK a0 a1 a2 w)) _ _ ho hh p1
 refine Eq.trans (h (fun r s e=>by have q:=congrArg Prod.fst e; rcases r with x | x <;> cases q)) ?_
 unfold mH
 exact bK _ fun x=>by rcases x with x | x <;> rfl
theorem ET (a0:List Int) (a1:Int) (a2:Int):Vm.call TT 120 [.sl (cM cI a0),.int .i64 a1,.int .i64 a2] = (fL a0 a1 a2).map fun (r:Bool)=>.bool r:=by
 refine (bQ (show TT 120 = some (.code ⟨3,36,[.tmp 6],Y2,false⟩) from rfl) _ rfl).trans ?_
 show cP TT Y2 ⟨[(0,.d (.sl (cM cI a0))),(1,.d (.int .i64 a1)),(2,.d (.int .i64 a2))],[]⟩ _ = _
 simp -implicitDefEqProofs (decide:=true) (maxSteps:=2000000) only [Y2,fL,↓BK,↓bC,↓DN,↓DR,DQ,DP,↓reduceIte,Int.reduceToNat,Nat.reduceBEq,Nat.reduceAdd,Nat.reduceLT,Nat.reduceLeDiff,Nat.reduceEqDiff,Int.reduceEq,ne_eq,zN,reduceCtorEq,bJ,bM,bN,zM,zA,zB,aH,zC,zD,if_true,if_false,zE,zF,aG,zG,aJ,zH,zI,zJ,zK,aQ,aP,aV,aT,aS,aD,aL,aM,aE,aK,aF,aR,aZ,aU,aI,aW,zL]
 all_goals try simp only [bG]
 all_goals try rfl
theorem vN {β:Type} (a0:List Int) (a1:Int) (a2:Int) (d:Nat) (bl:List (Nat × Option aY)) (fz:List (Nat × Option aY)) (k:V→Option β) (kw:V→List (Nat × Option aY)→Option β):cH TT d bl 120 [.sl (cM cI a0),.int .i64 a1,.int .i64 a2] fz k kw = (fL a0 a1 a2).bind fun (r:Bool)=>k (.d (.bool r)):=by
 have h:=ET a0 a1 a2
 exact bI h (fun _=>rfl) fz
theorem yN (a1:bL) (p3:Int):cP TT hY ⟨[(3,.ptr 3 0),(5,.d (.int .i64 p3))],[(3,some (.box (aC a1.cells)))]⟩ (fun e s=>some (e,s)) = cV (fun (w:Int)=>(⟨[(3,.ptr 3 0),(5,.d (.int .i64 w))],[(3,some (.box (aC a1.cells)))]⟩ : St)) (fun (r:Unit ⊕ Unit)=>Sum.elim (fun (z:Unit)=>(((.exit 0),⟨[(3,.ptr 3 0)],[(3,some (.box (aC a1.cells)))]⟩):Ex × St)) (fun (z:Unit)=>((.ret,⟨[(4,.d (.bool false))],[]⟩):Ex × St)) r) (dE a1 p3):=by
 simp -implicitDefEqProofs (decide:=true) (maxSteps:=2000000) only [hY,dE,↓bC,↓vN,↓DN,↓DR,DQ,DP,↓reduceIte,Int.reduceToNat,Nat.reduceBEq,Nat.reduceAdd,Nat.reduceLT,Nat.reduceLeDiff,Nat.reduceEqDiff,Int.reduceEq,ne_eq,zN,reduceCtorEq,bJ,bM,bN,zM,zA,zB,aH,zC,zD,if_true,if_false,zE,zF,aG,zG,aJ,zH,zI,zJ,zK,aQ,aP,aV,aT,aS,aD,aL,aM,aE,aK,aF,aR,aZ,aU,aI,aW,zL]
 all_goals try simp only [bG]
 all_goals try rfl
theorem yD {β:Type} (a1:bL) (p3:Int) (k:Ex→St→Option β):cP TT qI ⟨[(3,.ptr 3 0),(5,.d (.int .i64 p3))],[(3,some (.box (aC a1.cells)))]⟩ k = (jE a1 p3).bind (fun (r:Unit ⊕ Unit)=>Sum.elim (fun (z:Unit)=>k (.exit 0) ⟨[(3,.ptr 3 0)],[(3,some (.box (aC a1.cells)))]⟩) (fun (z:Unit)=>k .ret ⟨[(4,.d (.bool false))],[]⟩) r):=by
 have hh:=fun (w:Int)=>yN a1 w
 have h:=fun ho=>cA (T:=TT) (k:=k) (c:=hY) (step:=(fun (w:Int)=>dE a1 w)) _ _ ho hh p3
 refine Eq.trans (h (fun r s e=>by have q:=congrArg Prod.fst e; rcases r with x | x <;> cases q)) ?_
 unfold jE
 exact bK _ fun x=>by rcases x with x | x <;> rfl
theorem A7 (a0:aA) (a1:bL):Vm.call TT 113 [.agg a0.cells,.agg a1.cells] = (gC a0 a1).map fun (r:Bool)=>.bool r:=by
 refine (bQ (show TT 113 = some (.code ⟨2,74,[.tmp 4],Y5,false⟩) from rfl) _ rfl).trans ?_
 show cP TT Y5 ⟨[(0,cO a0.cells),(1,cO a1.cells)],[]⟩ _ = _
 simp -implicitDefEqProofs (decide:=true) (maxSteps:=2000000) only [Y5,gC,↓yD,↓bC,↓vN,↓DN,↓DR,DQ,DP,↓reduceIte,Int.reduceToNat,Nat.reduceBEq,Nat.reduceAdd,Nat.reduceLT,Nat.reduceLeDiff,Nat.reduceEqDiff,Int.reduceEq,ne_eq,zN,reduceCtorEq,bJ,bM,bN,zM,zA,zB,aH,zC,zD,if_true,if_false,zE,zF,aG,zG,aJ,zH,zI,zJ,zK,aQ,aP,aV,aT,aS,aD,aL,aM,aE,aK,aF,aR,aZ,aU,aI,aW,zL]
 all_goals try simp only [bG]
 all_goals try rfl
theorem nV {β:Type} (a0:aA) (a1:bL) (d:Nat) (bl:List (Nat × Option aY)) (fz:List (Nat × Option aY)) (k:V→Option β) (kw:V→List (Nat × Option aY)→Option β):cH TT d bl 113 [.agg a0.cells,.agg a1.cells] fz k kw = (gC a0 a1).bind fun (r:Bool)=>k (.d (.bool r)):=by
 have h:=A7 a0 a1
 exact bI h (fun _=>rfl) fz
theorem BA (a0:aA) (p1:Int):cP TT kX ⟨[(1,.ptr 1 0),(3,.d (.int .i64 p1))],[(1,some (.box (aC a0.cells)))]⟩ (fun e s=>some (e,s)) = cV (fun (w:Int)=>(⟨[(1,.ptr 1 0),(3,.d (.int .i64 w))],[(1,some (.box (aC a0.cells)))]⟩ : St)) (fun (r:Unit ⊕ Int)=>Sum.elim (fun (z:Unit)=>(((.exit 0),⟨[(1,.ptr 1 0)],[(1,some (.box (aC a0.cells)))]⟩):Ex × St)) (fun (z:Int)=>((.ret,⟨[(2,.d (.int .i64 z))],[]⟩):Ex × St)) r) (eL a0 p1):=by
 simp -implicitDefEqProofs (decide:=true) (maxSteps:=2000000) only [kX,eL,↓eV,↓nV,↓DN,↓DR,DQ,DP,↓reduceIte,Int.reduceToNat,Nat.reduceBEq,Nat.reduceAdd,Nat.reduceLT,Nat.reduceLeDiff,Nat.reduceEqDiff,Int.reduceEq,ne_eq,zN,reduceCtorEq,bJ,bM,bN,zM,zA,zB,aH,zC,zD,if_true,if_false,zE,zF,aG,zG,aJ,zH,zI,zJ,zK,aQ,aP,aV,aT,aS,aD,aL,aM,aE,aK,aF,aR,aZ,aU,aI,aW,zL]
 all_goals try simp only [bG]
 all_goals try rfl
theorem sY {β:Type} (a0:aA) (p1:Int) (k:Ex→St→Option β):cP TT sT ⟨[(1,.ptr 1 0),(3,.d (.int .i64 p1))],[(1,some (.box (aC a0.cells)))]⟩ k = (mM a0 p1).bind (fun (r:Unit ⊕ Int)=>Sum.elim (fun (z:Unit)=>k (.exit 0) ⟨[(1,.ptr 1 0)],[(1,some (.box (aC a0.cells)))]⟩) (fun (z:Int)=>k .ret ⟨[(2,.d (.int .i64 z))],[]⟩) r):=by
 have hh:=fun (w:Int)=>BA a0 w
 have h:=fun ho=>cA (T:=TT) (k:=k) (c:=kX) (step:=(fun (w:Int)=>eL a0 w)) _ _ ho hh p1
 refine Eq.trans (h (fun r s e=>by have q:=congrArg Prod.fst e; rcases r with x | x <;> cases q)) ?_
 unfold mM
 exact bK _ fun x=>by rcases x with x | x <;> rfl
theorem BM (a0:aA) (p7:Int) (p8:List ByteArray):cP TT kP ⟨[(1,.ptr 1 0),(5,.own 45 0),(6,.d (.int .i64 p7))],[(1,some (.box (aC a0.cells))),(45,some (.rows 0 9 1 (cM cS p8)))]⟩ (fun e s=>some (e,s)) = cV (fun (w:Int × (List ByteArray))=>(⟨[(1,.ptr 1 0),(5,.own 45 0),(6,.d (.int .i64 w.1))],[(1,some (.box (aC a0.cells))),(45,some (.rows 0 9 1 (cM cS w.2)))]⟩ : St)) (fun (r:Unit ⊕ Int)=>Sum.elim (fun (z:Unit)=>(((.exit 2),⟨[],[]⟩):Ex × St)) (fun (z:Int)=>((.ret,⟨[(2,.d (.int .i64 z))],[]⟩):Ex × St)) r) (eG a0 p7 p8):=by
 simp -implicitDefEqProofs (decide:=true) (maxSteps:=2000000) only [kP,eG,↓sY,↓eV,↓nV,↓DN,↓DR,DQ,DP,↓reduceIte,Int.reduceToNat,Nat.reduceBEq,Nat.reduceAdd,Nat.reduceLT,Nat.reduceLeDiff,Nat.reduceEqDiff,Int.reduceEq,ne_eq,zN,reduceCtorEq,bJ,bM,bN,zM,zA,zB,aH,zC,zD,if_true,if_false,zE,zF,aG,zG,aJ,zH,zI,zJ,zK,aQ,aP,aV,aT,aS,aD,aL,aM,aE,aK,aF,aR,aZ,aU,aI,aW,zL]
 all_goals try simp only [bG]
 all_goals try rfl
theorem BI {β:Type} (a0:aA) (p7:Int) (p8:List ByteArray) (k:Ex→St→Option β):cP TT sX ⟨[(1,.ptr 1 0),(5,.own 45 0),(6,.d (.int .i64 p7))],[(1,some (.box (aC a0.cells))),(45,some (.rows 0 9 1 (cM cS p8)))]⟩ k = (mL a0 p7 p8).bind (fun (r:Unit ⊕ Int)=>Sum.elim (fun (z:Unit)=>k (.exit 2) ⟨[],[]⟩) (fun (z:Int)=>k .ret ⟨[(2,.d (.int .i64 z))],[]⟩) r):=by
 have hh:=fun (w:Int × (List ByteArray))=>BM a0 w.1 w.2
 have h:=fun ho=>cA (T:=TT) (k:=k) (c:=kP) (step:=(fun (w:Int × (List ByteArray))=>eG a0 w.1 w.2)) _ _ ho hh (p7,p8)
 refine Eq.trans (h (fun r s e=>by have q:=congrArg Prod.fst e; rcases r with x | x <;> cases q)) ?_
 unfold mL
 exact bK _ fun x=>by rcases x with x | x <;> rfl
theorem FE (a0:aA):Vm.call TT 103 [.agg a0.cells] = (iP a0).map fun (r:Int)=>.int .i64 r:=by
 refine (bQ (show TT 103 = some (.code ⟨1,60,[.tmp 2],ZN,false⟩) from rfl) _ rfl).trans ?_
 show cP TT ZN ⟨[(0,cO a0.cells)],[]⟩ _ = _
 simp -implicitDefEqProofs (decide:=true) (maxSteps:=2000000) only [ZN,iP,↓sY,↓BI,↓eV,↓nV,↓DN,↓DR,DQ,DP,↓reduceIte,Int.reduceToNat,Nat.reduceBEq,Nat.reduceAdd,Nat.reduceLT,Nat.reduceLeDiff,Nat.reduceEqDiff,Int.reduceEq,ne_eq,zN,reduceCtorEq,bJ,bM,bN,zM,zA,zB,aH,zC,zD,if_true,if_false,zE,zF,aG,zG,aJ,zH,zI,zJ,zK,aQ,aP,aV,aT,aS,aD,aL,aM,aE,aK,aF,aR,aZ,aU,aI,aW,zL]
 all_goals try simp only [bG]
 all_goals try rfl
theorem m6 {β:Type} (a0:aA) (d:Nat) (bl:List (Nat × Option aY)) (fz:List (Nat × Option aY)) (k:V→Option β) (kw:V→List (Nat × Option aY)→Option β):cH TT d bl 103 [.agg a0.cells] fz k kw = (iP a0).bind fun (r:Int)=>k (.d (.int .i64 r)):=by
 have h:=FE a0
 exact bI h (fun _=>rfl) fz
theorem C1 (a0:aA) (p1:Int):cP TT lX ⟨[(1,.ptr 1 0),(3,.d (.int .i64 p1))],[(1,some (.box (aC a0.cells)))]⟩ (fun e s=>some (e,s)) = cV (fun (w:Int)=>(⟨[(1,.ptr 1 0),(3,.d (.int .i64 w))],[(1,some (.box (aC a0.cells)))]⟩ : St)) (fun (r:Unit ⊕ Unit)=>Sum.elim (fun (z:Unit)=>(((.exit 0),⟨[(1,.ptr 1 0)],[(1,some (.box (aC a0.cells)))]⟩):Ex × St)) (fun (z:Unit)=>((.ret,⟨[(2,.d (.int .i64 1))],[]⟩):Ex × St)) r) (eO a0 p1):=by
 simp -implicitDefEqProofs (decide:=true) (maxSteps:=2000000) only [lX,eO,↓bC,↓eV,↓DN,↓DR,DQ,DP,↓reduceIte,Int.reduceToNat,Nat.reduceBEq,Nat.reduceAdd,Nat.reduceLT,Nat.reduceLeDiff,Nat.reduceEqDiff,Int.reduceEq,ne_eq,zN,reduceCtorEq,bJ,bM,bN,zM,zA,zB,aH,zC,zD,if_true,if_false,zE,zF,aG,zG,aJ,zH,zI,zJ,zK,aQ,aP,aV,aT,aS,aD,aL,aM,aE,aK,aF,aR,aZ,aU,aI,aW,zL]
 all_goals try simp only [bG]
 all_goals try rfl
theorem tS {β:Type} (a0:aA) (p1:Int) (k:Ex→St→Option β):cP TT tN ⟨[(1,.ptr 1 0),(3,.d (.int .i64 p1))],[(1,some (.box (aC a0.cells)))]⟩ k = (m3 a0 p1).bind (fun (r:Unit ⊕ Unit)=>Sum.elim (fun (z:Unit)=>k (.exit 0) ⟨[(1,.ptr 1 0)],[(1,some (.box (aC a0.cells)))]⟩) (fun (z:Unit)=>k .ret ⟨[(2,.d (.int .i64 1))],[]⟩) r):=by
 have hh:=fun (w:Int)=>C1 a0 w
 have h:=fun ho=>cA (T:=TT) (k:=k) (c:=lX) (step:=(fun (w:Int)=>eO a0 w)) _ _ ho hh p1
 refine Eq.trans (h (fun r s e=>by have q:=congrArg Prod.fst e; rcases r with x | x <;> cases q)) ?_
 unfold m3
 exact bK _ fun x=>by rcases x with x | x <;> rfl
theorem CE (a0:aA) (p7:Int) (p8:List ByteArray):cP TT lS ⟨[(1,.ptr 1 0),(4,.own 45 0),(5,.d (.int .i64 p7))],[(1,some (.box (aC a0.cells))),(45,some (.rows 0 9 1 (cM cS p8)))]⟩ (fun e s=>some (e,s)) = cV (fun (w:Int × (List ByteArray))=>(⟨[(1,.ptr 1 0),(4,.own 45 0),(5,.d (.int .i64 w.1))],[(1,some (.box (aC a0.cells))),(45,some (.rows 0 9 1 (cM cS w.2)))]⟩ : St)) (fun (r:Unit ⊕ Int)=>Sum.elim (fun (z:Unit)=>(((.exit 2),⟨[],[]⟩):Ex × St)) (fun (z:Int)=>((.ret,⟨[(2,.d (.int .i64 z))],[]⟩):Ex × St)) r) (eP a0 p7 p8):=by
 simp -implicitDefEqProofs (decide:=true) (maxSteps:=2000000) only [lS,eP,↓tS,↓bC,↓eV,↓DN,↓DR,DQ,DP,↓reduceIte,Int.reduceToNat,Nat.reduceBEq,Nat.reduceAdd,Nat.reduceLT,Nat.reduceLeDiff,Nat.reduceEqDiff,Int.reduceEq,ne_eq,zN,reduceCtorEq,bJ,bM,bN,zM,zA,zB,aH,zC,zD,if_true,if_false,zE,zF,aG,zG,aJ,zH,zI,zJ,zK,aQ,aP,aV,aT,aS,aD,aL,aM,aE,aK,aF,aR,aZ,aU,aI,aW,zL]
 all_goals try simp only [bG]
 all_goals try rfl
theorem CN {β:Type} (a0:aA) (p7:Int) (p8:List ByteArray) (k:Ex→St→Option β):cP TT tP ⟨[(1,.ptr 1 0),(4,.own 45 0),(5,.d (.int .i64 p7))],[(1,some (.box (aC a0.cells))),(45,some (.rows 0 9 1 (cM cS p8)))]⟩ k = (m7 a0 p7 p8).bind (fun (r:Unit ⊕ Int)=>Sum.elim (fun (z:Unit)=>k (.exit 2) ⟨[],[]⟩) (fun (z:Int)=>k .ret ⟨[(2,.d (.int .i64 z))],[]⟩) r):=by
 have hh:=fun (w:Int × (List ByteArray))=>CE a0 w.1 w.2
 have h:=fun ho=>cA (T:=TT) (k:=k) (c:=lS) (step:=(fun (w:Int × (List ByteArray))=>eP a0 w.1 w.2)) _ _ ho hh (p7,p8)
 refine Eq.trans (h (fun r s e=>by have q:=congrArg Prod.fst e; rcases r with x | x <;> cases q)) ?_
 unfold m7
 exact bK _ fun x=>by rcases x with x | x <;> rfl
theorem FR (a0:aA):Vm.call TT 104 [.agg a0.cells] = (kA a0).map fun (r:Int)=>.int .i64 r:=by
 refine (bQ (show TT 104 = some (.code ⟨1,78,[.tmp 2],ZF,false⟩) from rfl) _ rfl).trans ?_
 show cP TT ZF ⟨[(0,cO a0.cells)],[]⟩ _ = _
 simp -implicitDefEqProofs (decide:=true) (maxSteps:=2000000) only [ZF,kA,↓tS,↓CN,↓bC,↓eV,↓DN,↓DR,DQ,DP,↓reduceIte,Int.reduceToNat,Nat.reduceBEq,Nat.reduceAdd,Nat.reduceLT,Nat.reduceLeDiff,Nat.reduceEqDiff,Int.reduceEq,ne_eq,zN,reduceCtorEq,bJ,bM,bN,zM,zA,zB,aH,zC,zD,if_true,if_false,zE,zF,aG,zG,aJ,zH,zI,zJ,zK,aQ,aP,aV,aT,aS,aD,aL,aM,aE,aK,aF,aR,aZ,aU,aI,aW,zL]
 all_goals try simp only [bG]
 all_goals try rfl
theorem nQ {β:Type} (a0:aA) (d:Nat) (bl:List (Nat × Option aY)) (fz:List (Nat × Option aY)) (k:V→Option β) (kw:V→List (Nat × Option aY)→Option β):cH TT d bl 104 [.agg a0.cells] fz k kw = (kA a0).bind fun (r:Int)=>k (.d (.int .i64 r)):=by
 have h:=FR a0
 exact bI h (fun _=>rfl) fz
theorem xS (a0:bD) (p1:Int):cP TT gX ⟨[(1,.ptr 1 0),(3,.d (.int .i64 p1))],[(1,some (.box (aC a0.cells)))]⟩ (fun e s=>some (e,s)) = cV (fun (w:Int)=>(⟨[(1,.ptr 1 0),(3,.d (.int .i64 w))],[(1,some (.box (aC a0.cells)))]⟩ : St)) (fun (r:Unit ⊕ Unit)=>Sum.elim (fun (z:Unit)=>(((.exit 0),⟨[(1,.ptr 1 0)],[(1,some (.box (aC a0.cells)))]⟩):Ex × St)) (fun (z:Unit)=>((.ret,⟨[(2,.d (.bool false))],[]⟩):Ex × St)) r) (dA a0 p1):=by
 simp -implicitDefEqProofs (decide:=true) (maxSteps:=2000000) only [gX,dA,↓bC,↓DN,↓DR,DQ,DP,↓reduceIte,Int.reduceToNat,Nat.reduceBEq,Nat.reduceAdd,Nat.reduceLT,Nat.reduceLeDiff,Nat.reduceEqDiff,Int.reduceEq,ne_eq,zN,reduceCtorEq,bJ,bM,bN,zM,zA,zB,aH,zC,zD,if_true,if_false,zE,zF,aG,zG,aJ,zH,zI,zJ,zK,aQ,aP,aV,aT,aS,aD,aL,aM,aE,aK,aF,aR,aZ,aU,aI,aW,zL]
 all_goals try simp only [bG]
 all_goals try rfl
theorem pN {β:Type} (a0:bD) (p1:Int) (k:Ex→St→Option β):cP TT pP ⟨[(1,.ptr 1 0),(3,.d (.int .i64 p1))],[(1,some (.box (aC a0.cells)))]⟩ k = (iR a0 p1).bind (fun (r:Unit ⊕ Unit)=>Sum.elim (fun (z:Unit)=>k (.exit 0) ⟨[(1,.ptr 1 0)],[(1,some (.box (aC a0.cells)))]⟩) (fun (z:Unit)=>k .ret ⟨[(2,.d (.bool false))],[]⟩) r):=by
 have hh:=fun (w:Int)=>xS a0 w
 have h:=fun ho=>cA (T:=TT) (k:=k) (c:=gX) (step:=(fun (w:Int)=>dA a0 w)) _ _ ho hh p1
 refine Eq.trans (h (fun r s e=>by have q:=congrArg Prod.fst e; rcases r with x | x <;> cases q)) ?_
 unfold iR
 exact bK _ fun x=>by rcases x with x | x <;> rfl
theorem xY (a0:bD) (p11:Int):cP TT gW ⟨[(1,.ptr 1 0),(4,.d (.int .i64 p11))],[(1,some (.box (aC a0.cells)))]⟩ (fun e s=>some (e,s)) = cV (fun (w:Int)=>(⟨[(1,.ptr 1 0),(4,.d (.int .i64 w))],[(1,some (.box (aC a0.cells)))]⟩ : St)) (fun (r:Unit ⊕ Unit)=>Sum.elim (fun (z:Unit)=>(((.exit 2),⟨[],[]⟩):Ex × St)) (fun (z:Unit)=>((.ret,⟨[(2,.d (.bool false))],[]⟩):Ex × St)) r) (cZ a0 p11):=by
 simp -implicitDefEqProofs (decide:=true) (maxSteps:=2000000) only [gW,cZ,↓pN,↓bC,↓DN,↓DR,DQ,DP,↓reduceIte,Int.reduceToNat,Nat.reduceBEq,Nat.reduceAdd,Nat.reduceLT,Nat.reduceLeDiff,Nat.reduceEqDiff,Int.reduceEq,ne_eq,zN,reduceCtorEq,bJ,bM,bN,zM,zA,zB,aH,zC,zD,if_true,if_false,zE,zF,aG,zG,aJ,zH,zI,zJ,zK,aQ,aP,aV,aT,aS,aD,aL,aM,aE,aK,aF,aR,aZ,aU,aI,aW,zL]
 all_goals try simp only [bG]
 all_goals try rfl
theorem xO {β:Type} (a0:bD) (p11:Int) (k:Ex→St→Option β):cP TT pO ⟨[(1,.ptr 1 0),(4,.d (.int .i64 p11))],[(1,some (.box (aC a0.cells)))]⟩ k = (iS a0 p11).bind (fun (r:Unit ⊕ Unit)=>Sum.elim (fun (z:Unit)=>k (.exit 2) ⟨[],[]⟩) (fun (z:Unit)=>k .ret ⟨[(2,.d (.bool false))],[]⟩) r):=by
 have hh:=fun (w:Int)=>xY a0 w
 have h:=fun ho=>cA (T:=TT) (k:=k) (c:=gW) (step:=(fun (w:Int)=>cZ a0 w)) _ _ ho hh p11
 refine Eq.trans (h (fun r s e=>by have q:=congrArg Prod.fst e; rcases r with x | x <;> cases q)) ?_
 unfold iS
 exact bK _ fun x=>by rcases x with x | x <;> rfl
theorem zX (a0:bD):Vm.call TT 114 [.agg a0.cells] = (fQ a0).map fun (r:Bool)=>.bool r:=by
 refine (bQ (show TT 114 = some (.code ⟨1,81,[.tmp 2],YU,false⟩) from rfl) _ rfl).trans ?_
 show cP TT YU ⟨[(0,cO a0.cells)],[]⟩ _ = _
 simp -implicitDefEqProofs (decide:=true) (maxSteps:=2000000) only [YU,fQ,↓pN,↓xO,↓bC,↓DN,↓DR,DQ,DP,↓reduceIte,Int.reduceToNat,Nat.reduceBEq,Nat.reduceAdd,Nat.reduceLT,Nat.reduceLeDiff,Nat.reduceEqDiff,Int.reduceEq,ne_eq,zN,reduceCtorEq,bJ,bM,bN,zM,zA,zB,aH,zC,zD,if_true,if_false,zE,zF,aG,zG,aJ,zH,zI,zJ,zK,aQ,aP,aV,aT,aS,aD,aL,aM,aE,aK,aF,aR,aZ,aU,aI,aW,zL]
 all_goals try simp only [bG]
 all_goals try rfl
theorem rM {β:Type} (a0:bD) (d:Nat) (bl:List (Nat × Option aY)) (fz:List (Nat × Option aY)) (k:V→Option β) (kw:V→List (Nat × Option aY)→Option β):cH TT d bl 114 [.agg a0.cells] fz k kw = (fQ a0).bind fun (r:Bool)=>k (.d (.bool r)):=by
 have h:=zX a0
 exact bI h (fun _=>rfl) fz
end Go.Proofs.Ytfhebiceipgdmaa
