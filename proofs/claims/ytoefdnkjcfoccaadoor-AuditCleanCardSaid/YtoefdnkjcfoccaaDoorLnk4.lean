/- Code and answers agree. -/
import Derived.Test.YtoefdnkjcfoccaaDoorLnk3
set_option linter.unusedVariables false
set_option linter.unusedSimpArgs false
namespace Go.Proofs.YtoefdnkjcfoccaaDoor
open Vm
open Go.RowKit
set_option maxRecDepth 100000
set_option maxHeartbeats 4000000
attribute [local congr] qD s6 qG s9
abbrev mF (a0 a1:List Int) (p1:Int):St:=⟨[(0,.d (.sl (cM cI a0))),(1,.d (.sl (cM cI a1))),(5,dI p1)],[]⟩
theorem CS (a0 a1:List Int) (p1:Int):bM TT iN (mF a0 a1 p1) (fun e s=>some (e,s)) = cO (fun (w:Int)=>mF a0 a1 w) (fun (r:Unit ⊕ Unit)=>Sum.elim (fun (z:Unit)=>(((.exit 0),⟨[],[]⟩):Ex × St)) (fun (z:Unit)=>((.ret,⟨[(4,dB false)],[]⟩):Ex × St)) r) (iM a0 a1 p1):=by
 unfold iN iM
 exact yM
theorem CU {β:Type} (a0 a1:List Int) (p1:Int) (k:Ex->St->Option β):bM TT sH (mF a0 a1 p1) k = (nG a0 a1 p1).bind (fun (r:Unit ⊕ Unit)=>Sum.elim (fun (z:Unit)=>k (.exit 0) ⟨[],[]⟩) (fun (z:Unit)=>k .ret ⟨[(4,dB false)],[]⟩) r):=by
 have hh:=fun (w:Int)=>CS a0 a1 w
 have h:=fun ho=>bE (T:=TT) (k:=k) (c:=iN) (step:=(fun (w:Int)=>iM a0 a1 w)) _ _ ho hh p1
 refine Eq.trans (h (fun r s e=>by have q:=congrArg Prod.fst e; rcases r with x | x <;> cases q)) ?_
 unfold nG
 exact aV _ fun x=>by rcases x with x | x <;> rfl
theorem E2 (a0 a1:List Int):Vm.call TT 26 [.sl (cM cI a0),.sl (cM cI a1)] = (jA a0 a1).map fun (r:Bool)=>.bool r:=by
 refine (aW (show TT 26 = some (.code ⟨2,26,[.tmp 4],aOB,false,false⟩) from rfl) _ rfl rfl).trans ?_
 show bM TT aOB ⟨[(0,.d (.sl (cM cI a0))),(1,.d (.sl (cM cI a1)))],[]⟩ _ = _
 unfold aOB jA
 have u:=@CU
 exact iV
theorem EN (a0 a1:List Int):KF TT 26 [.sl (cM cI a0),.sl (cM cI a1)] (jA a0 a1) (fun (r:Bool)=>dB r):=kF (E2 a0 a1) (fun _=>rfl) (fun _=>rfl)
theorem IJ (a0 a1:aA):Vm.call TT 11 [.agg a0.cells,.agg a1.cells] = (rE a0 a1).map fun (r:Bool)=>.bool r:=by
 refine (aW (show TT 11 = some (.code ⟨2,38,[.tmp 4],aN0,false,false⟩) from rfl) _ rfl rfl).trans ?_
 show bM TT aN0 ⟨[(0,b9 a0.cells),(1,b9 a1.cells)],[]⟩ _ = _
 unfold aN0 rE
 have u:=@EN
 exact iV
theorem IL (a0 a1:aA):KF TT 11 [.agg a0.cells,.agg a1.cells] (rE a0 a1) (fun (r:Bool)=>dB r):=kF (IJ a0 a1) (fun _=>rfl) (fun _=>rfl)
abbrev mY (a0 a1:List aA) (p1:Int):St:=⟨[(0,.d (.sl (cM aA.cells a0))),(1,.d (.sl (cM aA.cells a1))),(5,dI p1)],[]⟩
theorem C6 (a0 a1:List aA) (p1:Int):bM TT jQ (mY a0 a1 p1) (fun e s=>some (e,s)) = cO (fun (w:Int)=>mY a0 a1 w) (fun (r:Unit ⊕ Unit)=>Sum.elim (fun (z:Unit)=>(((.exit 0),⟨[],[]⟩):Ex × St)) (fun (z:Unit)=>((.ret,⟨[(4,dB false)],[]⟩):Ex × St)) r) (iZ a0 a1 p1):=by
 unfold jQ iZ
 have u:=@IL
 exact iV
theorem DI {β:Type} (a0 a1:List aA) (p1:Int) (k:Ex->St->Option β):bM TT tA (mY a0 a1 p1) k = (oC a0 a1 p1).bind (fun (r:Unit ⊕ Unit)=>Sum.elim (fun (z:Unit)=>k (.exit 0) ⟨[],[]⟩) (fun (z:Unit)=>k .ret ⟨[(4,dB false)],[]⟩) r):=by
 have hh:=fun (w:Int)=>C6 a0 a1 w
 have h:=fun ho=>bE (T:=TT) (k:=k) (c:=jQ) (step:=(fun (w:Int)=>iZ a0 a1 w)) _ _ ho hh p1
 refine Eq.trans (h (fun r s e=>by have q:=congrArg Prod.fst e; rcases r with x | x <;> cases q)) ?_
 unfold oC
 exact aV _ fun x=>by rcases x with x | x <;> rfl
theorem FO (a0 a1:List aA):Vm.call TT 15 [.sl (cM aA.cells a0),.sl (cM aA.cells a1)] = (nC a0 a1).map fun (r:Bool)=>.bool r:=by
 refine (aW (show TT 15 = some (.code ⟨2,27,[.tmp 4],aQK,false,false⟩) from rfl) _ rfl rfl).trans ?_
 show bM TT aQK ⟨[(0,.d (.sl (cM aA.cells a0))),(1,.d (.sl (cM aA.cells a1)))],[]⟩ _ = _
 unfold aQK nC
 have u:=@DI
 exact iV
theorem FM (a0 a1:List aA):KF TT 15 [.sl (cM aA.cells a0),.sl (cM aA.cells a1)] (nC a0 a1) (fun (r:Bool)=>dB r):=kF (FO a0 a1) (fun _=>rfl) (fun _=>rfl)
theorem H4 (a0 a1:Int):Vm.call TT 47 [.int .i64 a0,.ptr [.int .i64 a1] 0] = (lP a0 a1).map fun (r:Bool)=>.bool r:=by
 refine (aW (show TT 47 = some (.code ⟨2,11,[.tmp 3],aQy,false,false⟩) from rfl) _ rfl rfl).trans ?_
 show bM TT aQy ⟨[(0,dI a0),(1,.d (.ptr [.int .i64 a1] 0))],[]⟩ _ = _
 unfold aQy lP
 exact yM
theorem H8 (a0 a1:Int):KF TT 47 [.int .i64 a0,.ptr [.int .i64 a1] 0] (lP a0 a1) (fun (r:Bool)=>dB r):=kF (H4 a0 a1) (fun _=>rfl) (fun _=>rfl)
abbrev iR (a0:List Int) (a1 p1:Int):St:=⟨[(0,.d (.sl (cM cI a0))),(1,.d (.fn 47 [.ptr [.int .i64 a1] 0])),(7,dI (a0.length:Int)),(8,dI p1)],[]⟩
theorem yJ (a0:List Int) (a1 p1:Int):bM TT gI (iR a0 a1 p1) (fun e s=>some (e,s)) = cO (fun (w:Int)=>iR a0 a1 w) (fun (r:Unit ⊕ Int)=>Sum.elim (fun (z:Unit)=>(((.exit 0),⟨[],[]⟩):Ex × St)) (fun (z:Int)=>((.ret,⟨[(4,dI z)],[]⟩):Ex × St)) r) (bZ a0 a1 p1):=by
 unfold gI bZ
 have u:=@H8
 exact iV
theorem yL {β:Type} (a0:List Int) (a1 p1:Int) (k:Ex->St->Option β):bM TT pD (iR a0 a1 p1) k = (fV a0 a1 p1).bind (fun (r:Unit ⊕ Int)=>Sum.elim (fun (z:Unit)=>k (.exit 0) ⟨[],[]⟩) (fun (z:Int)=>k .ret ⟨[(4,dI z)],[]⟩) r):=by
 have hh:=fun (w:Int)=>yJ a0 a1 w
 have h:=fun ho=>bE (T:=TT) (k:=k) (c:=gI) (step:=(fun (w:Int)=>bZ a0 a1 w)) _ _ ho hh p1
 refine Eq.trans (h (fun r s e=>by have q:=congrArg Prod.fst e; rcases r with x | x <;> cases q)) ?_
 unfold fV
 exact aV _ fun x=>by rcases x with x | x <;> rfl
theorem A6 (a0:List Int) (a1:Int):Vm.call TT 58 [.sl (cM cI a0),.fn 47 [.ptr [.int .i64 a1] 0]] = (fA a0 a1).map fun (r:Int)=>.int .i64 r:=by
 refine (aW (show TT 58 = some (.code ⟨2,19,[.tmp 4],aQr,false,false⟩) from rfl) _ rfl rfl).trans ?_
 show bM TT aQr ⟨[(0,.d (.sl (cM cI a0))),(1,.d (.fn 47 [.ptr [.int .i64 a1] 0]))],[]⟩ _ = _
 unfold aQr fA
 have u:=@yL
 exact iV
theorem AY (a0:List Int) (a1:Int):KF TT 58 [.sl (cM cI a0),.fn 47 [.ptr [.int .i64 a1] 0]] (fA a0 a1) (fun (r:Int)=>dI r):=kF (A6 a0 a1) (fun _=>rfl) (fun _=>rfl)
theorem yF (a0:List Int) (a1:Int):Vm.call TT 46 [.sl (cM cI a0),.fn 47 [.ptr [.int .i64 a1] 0]] = (dA a0 a1).map fun (r:Bool)=>.bool r:=by
 refine (aW (show TT 46 = some (.code ⟨2,9,[.tmp 4],aPM,false,false⟩) from rfl) _ rfl rfl).trans ?_
 show bM TT aPM ⟨[(0,.d (.sl (cM cI a0))),(1,.d (.fn 47 [.ptr [.int .i64 a1] 0]))],[]⟩ _ = _
 unfold aPM dA
 have u:=@AY
 exact iV
theorem yH (a0:List Int) (a1:Int):KF TT 46 [.sl (cM cI a0),.fn 47 [.ptr [.int .i64 a1] 0]] (dA a0 a1) (fun (r:Bool)=>dB r):=kF (yF a0 a1) (fun _=>rfl) (fun _=>rfl)
theorem P6 (a0:aB) (a1 a2:Int) (a3:List Int):Vm.call TT 19 [.agg a0.cells,.int .i64 a1,.int .i64 a2,.sl (cM cI a3)] = (mW a0 a1 a2 a3).map fun (r:Bool)=>.bool r:=by
 refine (aW (show TT 19 = some (.code ⟨4,37,[.tmp 8],aQx,false,false⟩) from rfl) _ rfl rfl).trans ?_
 show bM TT aQx ⟨[(0,b9 a0.cells),(1,dI a1),(2,dI a2),(3,.d (.sl (cM cI a3)))],[]⟩ _ = _
 unfold aQx mW
 have u:=@yH
 exact iV
theorem FL (a0:aB) (a1 a2:Int) (a3:List Int):KF TT 19 [.agg a0.cells,.int .i64 a1,.int .i64 a2,.sl (cM cI a3)] (mW a0 a1 a2 a3) (fun (r:Bool)=>dB r):=kF (P6 a0 a1 a2 a3) (fun _=>rfl) (fun _=>rfl)
abbrev sZ (a1 a2:Int) (a3:List Int) (x2:aJ) (p3:Int):St:=⟨[(1,dI a1),(2,dI a2),(3,.d (.sl (cM cI a3))),(23,.d (.sl (cM aQ.cells x2.Choices))),(24,dI (x2.Choices.length:Int)),(25,dI p3)],[]⟩
theorem IU (a1 a2:Int) (a3:List Int) (x2:aJ) (p3:Int):bM TT nO (sZ a1 a2 a3 x2 p3) (fun e s=>some (e,s)) = cO (fun (w:Int)=>sZ a1 a2 a3 x2 w) (fun (r:Unit ⊕ (Int × Bool))=>Sum.elim (fun (z:Unit)=>(((.exit 0),⟨[(1,dI a1)],[]⟩):Ex × St)) (fun (z:Int × Bool)=>((.ret,⟨[(8,dI z.1),(9,dB z.2)],[]⟩):Ex × St)) r) (fY a1 a2 a3 x2 p3):=by
 unfold nO fY
 exact yM
theorem II {β:Type} (a1 a2:Int) (a3:List Int) (x2:aJ) (p3:Int) (k:Ex->St->Option β):bM TT BM (sZ a1 a2 a3 x2 p3) k = (qT a1 a2 a3 x2 p3).bind (fun (r:Unit ⊕ (Int × Bool))=>Sum.elim (fun (z:Unit)=>k (.exit 0) ⟨[(1,dI a1)],[]⟩) (fun (z:Int × Bool)=>k .ret ⟨[(8,dI z.1),(9,dB z.2)],[]⟩) r):=by
 have hh:=fun (w:Int)=>IU a1 a2 a3 x2 w
 have h:=fun ho=>bE (T:=TT) (k:=k) (c:=nO) (step:=(fun (w:Int)=>fY a1 a2 a3 x2 w)) _ _ ho hh p3
 refine Eq.trans (h (fun r s e=>by have q:=congrArg Prod.fst e; rcases r with x | x <;> cases q)) ?_
 unfold qT
 exact aV _ fun x=>by rcases x with x | x <;> rfl
theorem NJ (a0:aB) (a1 a2:Int) (a3:List Int):Vm.call TT 20 [.agg a0.cells,.int .i64 a1,.int .i64 a2,.sl (cM cI a3)] = (nK a0 a1 a2 a3).map fun (r:Int × Bool)=>.tup [.int .i64 r.1,.bool r.2]:=by
 refine (aW (show TT 20 = some (.code ⟨4,47,[.tmp 8,.tmp 9],aOP,false,false⟩) from rfl) _ rfl rfl).trans ?_
 show bM TT aOP ⟨[(0,b9 a0.cells),(1,dI a1),(2,dI a2),(3,.d (.sl (cM cI a3)))],[]⟩ _ = _
 unfold aOP nK
 have u:=aN @II @FL
 exact iV
theorem O7 (a0:aB) (a1 a2:Int) (a3:List Int):KF TT 20 [.agg a0.cells,.int .i64 a1,.int .i64 a2,.sl (cM cI a3)] (nK a0 a1 a2 a3) (fun (r:Int × Bool)=>.tup [dI r.1,dB r.2]):=kF (NJ a0 a1 a2 a3) (fun _=>rfl) (fun _=>rfl)
abbrev xO (a0:aB) (a2:Int) (a3 p3:List Int):St:=⟨[(2,dI a2),(3,.d (.sl (cM cI a3))),(4,.ptr 4 0),(10,.own 29 0)],[(4,some (.box (aE a0.cells))),(29,some (.rows 0 3 1 (cM cI p3)))]⟩
theorem MV (a0:aB) (a2:Int) (a3 p3:List Int):bM TT qO (xO a0 a2 a3 p3) (fun e s=>some (e,s)) = cO (fun (w:(List Int))=>xO a0 a2 a3 w) (fun (r:Int × (List Int))=>((.ret,⟨[(8,.own 29 0),(9,dI r.1)],[(29,some (.rows 0 3 1 (cM cI r.2)))]⟩):Ex × St)) (kH a0 a2 a3 p3):=by
 unfold qO kH
 have u:=aN @O7 @fX
 exact iV
theorem M0 {β:Type} (a0:aB) (a2:Int) (a3 p3:List Int) (k:Ex->St->Option β):bM TT C5 (xO a0 a2 a3 p3) k = (tU a0 a2 a3 p3).bind (fun (r:Int × (List Int))=>k .ret ⟨[(8,.own 29 0),(9,dI r.1)],[(29,some (.rows 0 3 1 (cM cI r.2)))]⟩):=by
 have hh:=fun (w:(List Int))=>MV a0 a2 a3 w
 have h:=fun ho=>bE (T:=TT) (k:=k) (c:=qO) (step:=(fun (w:(List Int))=>kH a0 a2 a3 w)) _ _ ho hh p3
 refine Eq.trans (h (fun r s e=>by have q:=congrArg Prod.fst e; rcases r with x <;> cases q)) ?_
 unfold tU
 exact aV _ fun x=>by rcases x with x <;> rfl
theorem RX (a0:aB) (a1 a2:Int) (a3:List Int):Vm.call TT 8 [.agg a0.cells,.int .i64 a1,.int .i64 a2,.sl (cM cI a3)] = (kR a0 a1 a2 a3).map fun (r:(List Int) × Int)=>.tup [.sl (cM cI r.1),.int .i64 r.2]:=by
 refine (aW (show TT 8 = some (.code ⟨4,73,[.tmp 8,.tmp 9],bd8,false,false⟩) from rfl) _ rfl rfl).trans ?_
 show bM TT bd8 ⟨[(0,b9 a0.cells),(1,dI a1),(2,dI a2),(3,.d (.sl (cM cI a3)))],[]⟩ _ = _
 unfold bd8 kR
 have u:=aN @M0 @FL
 exact iV
theorem HM (a0:aB) (a1 a2:Int) (a3:List Int):KD TT 8 [.agg a0.cells,.int .i64 a1,.int .i64 a2,.sl (cM cI a3)] (kR a0 a1 a2 a3) (fun (r:(List Int) × Int)=>.tup [.d (.sl (cM cI r.1)),dI r.2]):=kD (RX a0 a1 a2 a3) (fun _=>rfl) (fun _=>rfl) (fun _=>rfl)
abbrev mV (a0 a1:List Int) (p1:Int):St:=⟨[(0,.d (.sl (cM cI a0))),(1,.d (.sl (cM cI a1))),(12,dI (a0.length:Int)),(13,dI p1)],[]⟩
theorem DU (a0 a1:List Int) (p1:Int):bM TT jT (mV a0 a1 p1) (fun e s=>some (e,s)) = cO (fun (w:Int)=>mV a0 a1 w) (fun (r:Unit ⊕ Unit)=>Sum.elim (fun (z:Unit)=>(((.exit 0),⟨[],[]⟩):Ex × St)) (fun (z:Unit)=>((.ret,⟨[(4,dB false)],[]⟩):Ex × St)) r) (jS a0 a1 p1):=by
 unfold jT jS
 exact yM
theorem DL {β:Type} (a0 a1:List Int) (p1:Int) (k:Ex->St->Option β):bM TT tP (mV a0 a1 p1) k = (oE a0 a1 p1).bind (fun (r:Unit ⊕ Unit)=>Sum.elim (fun (z:Unit)=>k (.exit 0) ⟨[],[]⟩) (fun (z:Unit)=>k .ret ⟨[(4,dB false)],[]⟩) r):=by
 have hh:=fun (w:Int)=>DU a0 a1 w
 have h:=fun ho=>bE (T:=TT) (k:=k) (c:=jT) (step:=(fun (w:Int)=>jS a0 a1 w)) _ _ ho hh p1
 refine Eq.trans (h (fun r s e=>by have q:=congrArg Prod.fst e; rcases r with x | x <;> cases q)) ?_
 unfold oE
 exact aV _ fun x=>by rcases x with x | x <;> rfl
theorem F3 (a0 a1:List Int):Vm.call TT 27 [.sl (cM cI a0),.sl (cM cI a1)] = (kE a0 a1).map fun (r:Bool)=>.bool r:=by
 refine (aW (show TT 27 = some (.code ⟨2,26,[.tmp 4],aN9,false,false⟩) from rfl) _ rfl rfl).trans ?_
 show bM TT aN9 ⟨[(0,.d (.sl (cM cI a0))),(1,.d (.sl (cM cI a1)))],[]⟩ _ = _
 unfold aN9 kE
 have u:=@DL
 exact iV
theorem FR (a0 a1:List Int):KF TT 27 [.sl (cM cI a0),.sl (cM cI a1)] (kE a0 a1) (fun (r:Bool)=>dB r):=kF (F3 a0 a1) (fun _=>rfl) (fun _=>rfl)
theorem OT {β:Type} (a0:aB) (a1:aA) (r2:(List Int) × Int) (k:Ex->St->Option β):bM TT AF ⟨[(2,.ptr 2 0),(3,.ptr 3 0),(5,.d (.sl (cM cI r2.1))),(6,dI r2.2)],[(2,some (.box (aE a0.cells))),(3,some (.box (aE a1.cells)))]⟩ k = (wK a0 a1 r2).bind (fun (r:Bool)=>k .ret ⟨[(4,dB r)],[]⟩):=by
 unfold AF wK
 have u:=@hZ
 exact iV
theorem CY (a0:aB) (a1:aA):Vm.call TT 12 [.agg a0.cells,.agg a1.cells] = (n6 a0 a1).map fun (r:Bool)=>.bool r:=by
 refine (aW (show TT 12 = some (.code ⟨2,58,[.tmp 4],aOm,false,false⟩) from rfl) _ rfl rfl).trans ?_
 show bM TT aOm ⟨[(0,b9 a0.cells),(1,b9 a1.cells)],[]⟩ _ = _
 unfold aOm n6
 have u:=aN (aN @OT @HM) (aN @IM @FR)
 exact iV
theorem S4 (a0:aB) (a1:aA):KF TT 12 [.agg a0.cells,.agg a1.cells] (n6 a0 a1) (fun (r:Bool)=>dB r):=kF (CY a0 a1) (fun _=>rfl) (fun _=>rfl)
theorem IA (a0:aB):Vm.call TT 13 [.agg a0.cells] = (mD a0).map fun (r:Bool)=>.bool r:=by
 refine (aW (show TT 13 = some (.code ⟨1,17,[.tmp 2],aNc,false,false⟩) from rfl) _ rfl rfl).trans ?_
 show bM TT aNc ⟨[(0,b9 a0.cells)],[]⟩ _ = _
 unfold aNc mD
 have u:=@IY
 exact iV
theorem IZ (a0:aB):KF TT 13 [.agg a0.cells] (mD a0) (fun (r:Bool)=>dB r):=kF (IA a0) (fun _=>rfl) (fun _=>rfl)
end Go.Proofs.YtoefdnkjcfoccaaDoor
