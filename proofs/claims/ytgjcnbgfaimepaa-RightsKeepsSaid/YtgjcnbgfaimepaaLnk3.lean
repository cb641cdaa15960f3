/- The functions of the small machine compute the plain definitions. Printed by a program. -/
import Derived.Test.YtgjcnbgfaimepaaLnk2
set_option linter.unusedVariables false
set_option linter.unusedSimpArgs false
namespace Go.Proofs.Ytgjcnbgfaimepaa
open Vm
open Go.RowKit
set_option maxRecDepth 100000
set_option maxHeartbeats 4000000
attribute [local congr] yL AK yS BG
theorem H9 {β:Type} (a0:Int) (a1:List aF) (r8:(List Int)) (bl:List (Nat × Option aI)) (k:V->Option β) (kw:V->List (Nat × Option aI)->Option β):vX TT 38 bl 62 [.int .i64 a0,.sl (cM aF.cells a1),.sl (cM cI r8)] k kw = (dY a0 a1 r8).bind fun (r:(List Int))=>aZ bl 100038 fun b=>fL b (kw (.own 100038 0) ((100038,some (.rows 0 3 1 (cM cI r))) :: [])):=qN (wE a0 a1 r8) (fun _=>(nL rfl (uB (nV _ (fun _=>rfl) _) rfl)))
theorem HR {β:Type} (a0:Int) (a1:List aF) (r14:(List Int)) (bl:List (Nat × Option aI)) (k:V->Option β) (kw:V->List (Nat × Option aI)->Option β):vX TT 55 bl 62 [.int .i64 a0,.sl (cM aF.cells a1),.sl (cM cI r14)] k kw = (dY a0 a1 r14).bind fun (r:(List Int))=>aZ bl 100055 fun b=>fL b (kw (.own 100055 0) ((100055,some (.rows 0 3 1 (cM cI r))) :: [])):=qN (wE a0 a1 r14) (fun _=>(nL rfl (uB (nV _ (fun _=>rfl) _) rfl)))
theorem GO {β:Type} (a0:Int) (a1:List aF) (r7:(List Int)) (bl:List (Nat × Option aI)) (kw:V->List (Nat × Option aI)->Option β):OT TT bl 61 17 0 [.int .i64 a0,.sl (cM aF.cells a1),.own (.ref 0) [(3,1)] [cM cI r7]] kw = (jX a0 a1 r7).bind fun (r:(List Int))=>aZ bl 17 fun b=>J3 0 3 1 (cM cI r) b fun b2=>kw (.tup []) [(17,b2)]:=IL (JK a0 a1 r7) (fun _=>rfl) (fun _=>nV _ (fun _=>rfl) _) 17 0
theorem IA {β:Type} (a0:Int) (a1:List aF) (p10:Int) (p11:List Int) (r9:(List Int)) (bl:List (Nat × Option aI)) (kw:V->List (Nat × Option aI)->Option β):OT TT bl 63 17 0 [.int .i64 a0,.sl (cM aF.cells a1),.own (.ref 0) [(3,1)] [cM cI p11],.sl (cM cI r9),.int .i64 p10] kw = (mN a0 a1 p11 r9 p10).bind fun (r:(List Int))=>aZ bl 17 fun b=>J3 0 3 1 (cM cI r) b fun b2=>kw (.tup []) [(17,b2)]:=IL (MO a0 a1 p11 r9 p10) (fun _=>rfl) (fun _=>nV _ (fun _=>rfl) _) 17 0
abbrev rR (a0:Int) (a1:List aF) (p2:Int) (p3:List Int):St:=⟨[(0,dI a0),(1,.d (.sl (cM aF.cells a1))),(4,.own 17 0),(18,.d (.sl (cM aF.cells a1))),(19,dI (a1.length:Int)),(20,dI p2)],[(17,some (.rows 0 3 1 (cM cI p3)))]⟩
theorem GG (a0:Int) (a1:List aF) (p2:Int) (p3:List Int):bP TT mU (rR a0 a1 p2 p3) (fun e s=>some (e,s)) = cD (fun (w:Int × (List Int))=>rR a0 a1 w.1 w.2) (fun (r:(List Int))=>(((.exit 0),⟨[(0,dI a0),(1,.d (.sl (cM aF.cells a1))),(4,.own 17 0)],[(17,some (.rows 0 3 1 (cM cI r)))]⟩):Ex × St)) (cV a0 a1 p2 p3):=by
 unfold mU cV
 exact HW
theorem GF {β:Type} (a0:Int) (a1:List aF) (p2:Int) (p3:List Int) (k:Ex->St->Option β):bP TT yZ (rR a0 a1 p2 p3) k = (lJ a0 a1 p2 p3).bind (fun (r:(List Int))=>k (.exit 0) ⟨[(0,dI a0),(1,.d (.sl (cM aF.cells a1))),(4,.own 17 0)],[(17,some (.rows 0 3 1 (cM cI r)))]⟩):=by
 have hh:=fun (w:Int × (List Int))=>GG a0 a1 w.1 w.2
 have h:=fun ho=>aX (T:=TT) (k:=k) (c:=mU) (step:=(fun (w:Int × (List Int))=>cV a0 a1 w.1 w.2)) _ _ ho hh (p2,p3)
 refine Eq.trans (h (fun r s e=>by have q:=congrArg Prod.fst e; rcases r with x <;> cases q)) ?_
 unfold lJ
 exact aL _ fun x=>by rcases x with x <;> rfl
abbrev rG (a0:Int) (a1:List aF) (r9:(List Int)) (p10:Int) (p11:List Int):St:=⟨[(0,dI a0),(1,.d (.sl (cM aF.cells a1))),(4,.own 17 0),(9,.own 100038 0),(40,dI (a1.length:Int)),(41,dI p10)],[(17,some (.rows 0 3 1 (cM cI p11))),(100038,some (.rows 0 3 1 (cM cI r9)))]⟩
theorem HK (a0:Int) (a1:List aF) (r9:(List Int)) (p10:Int) (p11:List Int):bP TT mR (rG a0 a1 r9 p10 p11) (fun e s=>some (e,s)) = cD (fun (w:Int × (List Int))=>rG a0 a1 r9 w.1 w.2) (fun (r:(List Int))=>(((.exit 2),⟨[(0,dI a0),(1,.d (.sl (cM aF.cells a1))),(4,.own 17 0)],[(17,some (.rows 0 3 1 (cM cI r)))]⟩):Ex × St)) (dF a0 a1 r9 p10 p11):=by
 unfold mR dF
 have u:=@IA
 exact oR
theorem G4 {β:Type} (a0:Int) (a1:List aF) (r9:(List Int)) (p10:Int) (p11:List Int) (k:Ex->St->Option β):bP TT yT (rG a0 a1 r9 p10 p11) k = (lH a0 a1 r9 p10 p11).bind (fun (r:(List Int))=>k (.exit 2) ⟨[(0,dI a0),(1,.d (.sl (cM aF.cells a1))),(4,.own 17 0)],[(17,some (.rows 0 3 1 (cM cI r)))]⟩):=by
 have hh:=fun (w:Int × (List Int))=>HK a0 a1 r9 w.1 w.2
 have h:=fun ho=>aX (T:=TT) (k:=k) (c:=mR) (step:=(fun (w:Int × (List Int))=>dF a0 a1 r9 w.1 w.2)) _ _ ho hh (p10,p11)
 refine Eq.trans (h (fun r s e=>by have q:=congrArg Prod.fst e; rcases r with x <;> cases q)) ?_
 unfold lH
 exact aL _ fun x=>by rcases x with x <;> rfl
theorem MA (a0:Int) (a1:List aF):Vm.call TT 25 [.int .i64 a0,.sl (cM aF.cells a1)] = (kE a0 a1).map fun (r:(List Int) × (List Int) × Int)=>.tup [.sl (cM cI r.1),.sl (cM cI r.2.1),.int .i64 r.2.2]:=by
 refine (bE (show TT 25 = some (.code ⟨2,56,[.tmp 4,.tmp 5,.tmp 6],aPi,false,false⟩) from rfl) _ rfl rfl).trans ?_
 show bP TT aPi ⟨[(0,dI a0),(1,.d (.sl (cM aF.cells a1)))],[]⟩ _ = _
 unfold aPi kE
 have u:=aN (aN @GF (aN @G4 @wO)) (aN @H9 (aN @HR @GO))
 exact oR
theorem L1 (a0:Int) (a1:List aF):KD TT 25 [.int .i64 a0,.sl (cM aF.cells a1)] (kE a0 a1) (fun (r:(List Int) × (List Int) × Int)=>.tup [.d (.sl (cM cI r.1)),.d (.sl (cM cI r.2.1)),dI r.2.2]):=kD (MA a0 a1) (fun _=>rfl) (fun _=>rfl) (fun _=>rfl)
abbrev wC (a0:Int) (a1:List aE) (a2:List Int) (p1:Int) (p2:List aF) (p3:List Int):St:=⟨[(0,dI a0),(1,.d (.sl (cM aE.cells a1))),(2,.d (.sl (cM cI a2))),(8,.own 30 0),(9,.own 34 0),(16,.d (.sl (cM aE.cells a1))),(17,dI (a1.length:Int)),(18,dI p1)],[(30,some (.rows 0 54 3 (cM aF.cells p2))),(34,some (.rows 0 3 1 (cM cI p3)))]⟩
theorem MW (a0:Int) (a1:List aE) (a2:List Int) (p1:Int) (p2:List aF) (p3:List Int):bP TT rC (wC a0 a1 a2 p1 p2 p3) (fun e s=>some (e,s)) = cD (fun (w:Int × (List aF) × (List Int))=>wC a0 a1 a2 w.1 w.2.1 w.2.2) (fun (r:(List aF) × (List Int))=>(((.exit 0),⟨[(0,dI a0),(1,.d (.sl (cM aE.cells a1))),(8,.own 30 0),(9,.own 34 0)],[(30,some (.rows 0 54 3 (cM aF.cells r.1))),(34,some (.rows 0 3 1 (cM cI r.2)))]⟩):Ex × St)) (dV a0 a1 a2 p1 p2 p3):=by
 unfold rC dV
 have u:=aN @JU @H6
 exact oR
theorem MU {β:Type} (a0:Int) (a1:List aE) (a2:List Int) (p1:Int) (p2:List aF) (p3:List Int) (k:Ex->St->Option β):bP TT BZ (wC a0 a1 a2 p1 p2 p3) k = (qM a0 a1 a2 p1 p2 p3).bind (fun (r:(List aF) × (List Int))=>k (.exit 0) ⟨[(0,dI a0),(1,.d (.sl (cM aE.cells a1))),(8,.own 30 0),(9,.own 34 0)],[(30,some (.rows 0 54 3 (cM aF.cells r.1))),(34,some (.rows 0 3 1 (cM cI r.2)))]⟩):=by
 have hh:=fun (w:Int × (List aF) × (List Int))=>MW a0 a1 a2 w.1 w.2.1 w.2.2
 have h:=fun ho=>aX (T:=TT) (k:=k) (c:=rC) (step:=(fun (w:Int × (List aF) × (List Int))=>dV a0 a1 a2 w.1 w.2.1 w.2.2)) _ _ ho hh (p1,p2,p3)
 refine Eq.trans (h (fun r s e=>by have q:=congrArg Prod.fst e; rcases r with x <;> cases q)) ?_
 unfold qM
 exact aL _ fun x=>by rcases x with x <;> rfl
abbrev wR (r10:(List Int) × (List Int) × Int) (r9:(List aF) × (List Int)) (p11:Int) (p12:List Int):St:=⟨[(6,.own 45 0),(7,.d (.sl (cM cI r10.2.1))),(9,.own 34 0),(46,.d (.sl (cM cI r10.1))),(47,dI (r10.1.length:Int)),(48,dI p11)],[(34,some (.rows 0 3 1 (cM cI r9.2))),(45,some (.rows 0 3 1 (cM cI p12)))]⟩
theorem LK (r10:(List Int) × (List Int) × Int) (r9:(List aF) × (List Int)) (p11:Int) (p12:List Int):bP TT qY (wR r10 r9 p11 p12) (fun e s=>some (e,s)) = cD (fun (w:Int × (List Int))=>wR r10 r9 w.1 w.2) (fun (r:(List Int))=>(((.exit 2),⟨[(6,.own 45 0),(7,.d (.sl (cM cI r10.2.1)))],[(45,some (.rows 0 3 1 (cM cI r)))]⟩):Ex × St)) (eR r10 r9 p11 p12):=by
 unfold qY eR
 exact HW
theorem MQ {β:Type} (r10:(List Int) × (List Int) × Int) (r9:(List aF) × (List Int)) (p11:Int) (p12:List Int) (k:Ex->St->Option β):bP TT B9 (wR r10 r9 p11 p12) k = (qH r10 r9 p11 p12).bind (fun (r:(List Int))=>k (.exit 2) ⟨[(6,.own 45 0),(7,.d (.sl (cM cI r10.2.1)))],[(45,some (.rows 0 3 1 (cM cI r)))]⟩):=by
 have hh:=fun (w:Int × (List Int))=>LK r10 r9 w.1 w.2
 have h:=fun ho=>aX (T:=TT) (k:=k) (c:=qY) (step:=(fun (w:Int × (List Int))=>eR r10 r9 w.1 w.2)) _ _ ho hh (p11,p12)
 refine Eq.trans (h (fun r s e=>by have q:=congrArg Prod.fst e; rcases r with x <;> cases q)) ?_
 unfold qH
 exact aL _ fun x=>by rcases x with x <;> rfl
theorem QW (a0:Int) (a1:List aE) (a2:List Int):Vm.call TT 38 [.int .i64 a0,.sl (cM aE.cells a1),.sl (cM cI a2)] = (mV a0 a1 a2).map fun (r:(List Int) × (List Int))=>.tup [.sl (cM cI r.1),.sl (cM cI r.2)]:=by
 refine (bE (show TT 38 = some (.code ⟨3,63,[.tmp 6,.tmp 7],aMI,false,false⟩) from rfl) _ rfl rfl).trans ?_
 show bP TT aMI ⟨[(0,dI a0),(1,.d (.sl (cM aE.cells a1))),(2,.d (.sl (cM cI a2)))],[]⟩ _ = _
 unfold aMI mV
 have u:=aN @MU (aN @MQ @L1)
 exact oR
theorem vU (a0:Int) (a1:List aE) (a2:List Int):KD TT 38 [.int .i64 a0,.sl (cM aE.cells a1),.sl (cM cI a2)] (mV a0 a1 a2) (fun (r:(List Int) × (List Int))=>.tup [.d (.sl (cM cI r.1)),.d (.sl (cM cI r.2))]):=kD (QW a0 a1 a2) (fun _=>rfl) (fun _=>rfl) (fun _=>rfl)
theorem FR (a0:Int) (a1:List aE) (a2:List Int):Vm.call TT 10 [.int .i64 a0,.sl (cM aE.cells a1),.sl (cM cI a2)] = (fJ a0 a1 a2).map fun (r:(List Int) × (List Int) × Int)=>.tup [.sl (cM cI r.1),.sl (cM cI r.2.1),.int .i64 r.2.2]:=by
 refine (bE (show TT 10 = some (.code ⟨3,27,[.tmp 6,.tmp 7,.tmp 8],aME,false,false⟩) from rfl) _ rfl rfl).trans ?_
 show bP TT aME ⟨[(0,dI a0),(1,.d (.sl (cM aE.cells a1))),(2,.d (.sl (cM cI a2)))],[]⟩ _ = _
 unfold aME fJ
 have u:=aN @uE (aN @zQ @vU)
 exact oR
theorem FS (a0:Int) (a1:List aE) (a2:List Int):KD TT 10 [.int .i64 a0,.sl (cM aE.cells a1),.sl (cM cI a2)] (fJ a0 a1 a2) (fun (r:(List Int) × (List Int) × Int)=>.tup [.d (.sl (cM cI r.1)),.d (.sl (cM cI r.2.1)),dI r.2.2]):=kD (FR a0 a1 a2) (fun _=>rfl) (fun _=>rfl) (fun _=>rfl)
abbrev sW (a0:List aE) (p1:Int) (x3:aE) (p4:Int) (p5:List Int):St:=⟨[(3,.own 25 0),(8,.d (.sl (cM aE.cells a0))),(9,dI (a0.length:Int)),(10,dI p1),(15,.d (.sl (cM aJ.cells x3.Rights))),(16,dI (x3.Rights.length:Int)),(17,dI p4)],[(25,some (.rows 0 3 1 (cM cI p5)))]⟩
theorem JG (a0:List aE) (p1:Int) (x3:aE) (p4:Int) (p5:List Int):bP TT nY (sW a0 p1 x3 p4 p5) (fun e s=>some (e,s)) = cD (fun (w:Int × (List Int))=>sW a0 p1 x3 w.1 w.2) (fun (r:(List Int))=>(((.exit 2),⟨[(3,.own 25 0),(8,.d (.sl (cM aE.cells a0))),(9,dI (a0.length:Int)),(10,dI p1)],[(25,some (.rows 0 3 1 (cM cI r)))]⟩):Ex × St)) (nX a0 p1 x3 p4 p5):=by
 unfold nY nX
 exact HW
theorem JN {β:Type} (a0:List aE) (p1:Int) (x3:aE) (p4:Int) (p5:List Int) (k:Ex->St->Option β):bP TT zW (sW a0 p1 x3 p4 p5) k = (wH a0 p1 x3 p4 p5).bind (fun (r:(List Int))=>k (.exit 2) ⟨[(3,.own 25 0),(8,.d (.sl (cM aE.cells a0))),(9,dI (a0.length:Int)),(10,dI p1)],[(25,some (.rows 0 3 1 (cM cI r)))]⟩):=by
 have hh:=fun (w:Int × (List Int))=>JG a0 p1 x3 w.1 w.2
 have h:=fun ho=>aX (T:=TT) (k:=k) (c:=nY) (step:=(fun (w:Int × (List Int))=>nX a0 p1 x3 w.1 w.2)) _ _ ho hh (p4,p5)
 refine Eq.trans (h (fun r s e=>by have q:=congrArg Prod.fst e; rcases r with x <;> cases q)) ?_
 unfold wH
 exact aL _ fun x=>by rcases x with x <;> rfl
abbrev tJ (a0:List aE) (p1:Int) (p2:List Int):St:=⟨[(3,.own 25 0),(8,.d (.sl (cM aE.cells a0))),(9,dI (a0.length:Int)),(10,dI p1)],[(25,some (.rows 0 3 1 (cM cI p2)))]⟩
theorem JO (a0:List aE) (p1:Int) (p2:List Int):bP TT nZ (tJ a0 p1 p2) (fun e s=>some (e,s)) = cD (fun (w:Int × (List Int))=>tJ a0 w.1 w.2) (fun (r:(List Int))=>(((.exit 0),⟨[(3,.own 25 0)],[(25,some (.rows 0 3 1 (cM cI r)))]⟩):Ex × St)) (nW a0 p1 p2):=by
 unfold nZ nW
 have u:=@JN
 exact oR
theorem JB {β:Type} (a0:List aE) (p1:Int) (p2:List Int) (k:Ex->St->Option β):bP TT zV (tJ a0 p1 p2) k = (vT a0 p1 p2).bind (fun (r:(List Int))=>k (.exit 0) ⟨[(3,.own 25 0)],[(25,some (.rows 0 3 1 (cM cI r)))]⟩):=by
 have hh:=fun (w:Int × (List Int))=>JO a0 w.1 w.2
 have h:=fun ho=>aX (T:=TT) (k:=k) (c:=nZ) (step:=(fun (w:Int × (List Int))=>nW a0 w.1 w.2)) _ _ ho hh (p1,p2)
 refine Eq.trans (h (fun r s e=>by have q:=congrArg Prod.fst e; rcases r with x <;> cases q)) ?_
 unfold vT
 exact aL _ fun x=>by rcases x with x <;> rfl
theorem DU (a0:List aE):Vm.call TT 21 [.sl (cM aE.cells a0)] = (oG a0).map fun (r:(List Int))=>.own (.ref 0) [(3,1)] [cM cI r]:=by
 refine (L8 (show TT 21 = some (.code ⟨1,32,[.tmp 2],aLW,true,false⟩) from rfl) _ rfl rfl).trans ?_
 show bP TT aLW ⟨[(0,.d (.sl (cM aE.cells a0)))],[]⟩ _ = _
 unfold aLW oG
 have u:=@JB
 exact oR
theorem G8 (a0:Int) (a1:List Int):Vm.call TT 43 [.int .i64 a0,.ptr [.sl (cM cI a1)] 0] = (lO a0 a1).map fun (r:Bool)=>.bool r:=by
 refine (bE (show TT 43 = some (.code ⟨2,7,[.tmp 3],aNb,false,false⟩) from rfl) _ rfl rfl).trans ?_
 show bP TT aNb ⟨[(0,dI a0),(1,.d (.ptr [.sl (cM cI a1)] 0))],[]⟩ _ = _
 unfold aNb lO
 have u:=@lM
 exact oR
theorem yD (a0:Int) (a1:List Int):KF TT 43 [.int .i64 a0,.ptr [.sl (cM cI a1)] 0] (lO a0 a1) (fun (r:Bool)=>dB r):=kF (G8 a0 a1) (fun _=>rfl) (fun _=>rfl)
abbrev fW (a0 a1:List Int) (p1:Int):St:=⟨[(0,.d (.sl (cM cI a0))),(1,.d (.fn 43 [.ptr [.sl (cM cI a1)] 0])),(7,dI (a0.length:Int)),(8,dI p1)],[]⟩
theorem sV (a0 a1:List Int) (p1:Int):bP TT bM (fW a0 a1 p1) (fun e s=>some (e,s)) = cD (fun (w:Int)=>fW a0 a1 w) (fun (r:Unit ⊕ Int)=>Sum.elim (fun (z:Unit)=>(((.exit 0),⟨[],[]⟩):Ex × St)) (fun (z:Int)=>((.ret,⟨[(4,dI z)],[]⟩):Ex × St)) r) (dQ a0 a1 p1):=by
 unfold bM dQ
 have u:=@yD
 exact oR
theorem tP {β:Type} (a0 a1:List Int) (p1:Int) (k:Ex->St->Option β):bP TT hJ (fW a0 a1 p1) k = (gL a0 a1 p1).bind (fun (r:Unit ⊕ Int)=>Sum.elim (fun (z:Unit)=>k (.exit 0) ⟨[],[]⟩) (fun (z:Int)=>k .ret ⟨[(4,dI z)],[]⟩) r):=by
 have hh:=fun (w:Int)=>sV a0 a1 w
 have h:=fun ho=>aX (T:=TT) (k:=k) (c:=bM) (step:=(fun (w:Int)=>dQ a0 a1 w)) _ _ ho hh p1
 refine Eq.trans (h (fun r s e=>by have q:=congrArg Prod.fst e; rcases r with x | x <;> cases q)) ?_
 unfold gL
 exact aL _ fun x=>by rcases x with x | x <;> rfl
theorem vM (a0 a1:List Int):Vm.call TT 72 [.sl (cM cI a0),.fn 43 [.ptr [.sl (cM cI a1)] 0]] = (fA a0 a1).map fun (r:Int)=>.int .i64 r:=by
 refine (bE (show TT 72 = some (.code ⟨2,19,[.tmp 4],aBm,false,false⟩) from rfl) _ rfl rfl).trans ?_
 show bP TT aBm ⟨[(0,.d (.sl (cM cI a0))),(1,.d (.fn 43 [.ptr [.sl (cM cI a1)] 0]))],[]⟩ _ = _
 unfold aBm fA
 have u:=@tP
 exact oR
theorem mC (a0 a1:List Int):KF TT 72 [.sl (cM cI a0),.fn 43 [.ptr [.sl (cM cI a1)] 0]] (fA a0 a1) (fun (r:Int)=>dI r):=kF (vM a0 a1) (fun _=>rfl) (fun _=>rfl)
abbrev rV (a0:List Int) (p1 p2:Int):St:=⟨[(3,dI p1),(9,.d (.sl (cM cI a0))),(10,dI (a0.length:Int)),(11,dI p2)],[]⟩
theorem HZ (a0:List Int) (p1 p2:Int):bP TT mO (rV a0 p1 p2) (fun e s=>some (e,s)) = cD (fun (w:Int × Int)=>rV a0 w.1 w.2) (fun (r:Int ⊕ Unit)=>Sum.elim (fun (z:Int)=>(((.exit 0),⟨[(3,dI z)],[]⟩):Ex × St)) (fun (z:Unit)=>((.ret,⟨[(2,dI 0)],[]⟩):Ex × St)) r) (m6 a0 p1 p2):=by
 unfold mO m6
 exact HW
theorem GK {β:Type} (a0:List Int) (p1 p2:Int) (k:Ex->St->Option β):bP TT yC (rV a0 p1 p2) k = (uT a0 p1 p2).bind (fun (r:Int ⊕ Unit)=>Sum.elim (fun (z:Int)=>k (.exit 0) ⟨[(3,dI z)],[]⟩) (fun (z:Unit)=>k .ret ⟨[(2,dI 0)],[]⟩) r):=by
 have hh:=fun (w:Int × Int)=>HZ a0 w.1 w.2
 have h:=fun ho=>aX (T:=TT) (k:=k) (c:=mO) (step:=(fun (w:Int × Int)=>m6 a0 w.1 w.2)) _ _ ho hh (p1,p2)
 refine Eq.trans (h (fun r s e=>by have q:=congrArg Prod.fst e; rcases r with x | x <;> cases q)) ?_
 unfold uT
 exact aL _ fun x=>by rcases x with x | x <;> rfl
theorem MM (a0:List Int):Vm.call TT 27 [.sl (cM cI a0)] = (qJ a0).map fun (r:Int)=>.int .i64 r:=by
 refine (bE (show TT 27 = some (.code ⟨1,26,[.tmp 2],aNB,false,false⟩) from rfl) _ rfl rfl).trans ?_
 show bP TT aNB ⟨[(0,.d (.sl (cM cI a0)))],[]⟩ _ = _
 unfold aNB qJ
 have u:=@GK
 exact oR
theorem vZ (a0:List Int):KF TT 27 [.sl (cM cI a0)] (qJ a0) (fun (r:Int)=>dI r):=kF (MM a0) (fun _=>rfl) (fun _=>rfl)
theorem u4 (a0:List Int):Vm.call TT 49 [.sl (cM cI a0)] = (gC a0).map fun (r:(List Int))=>.own (.ref 0) [(3,1)] [cM cI r]:=by
 refine (TR (show TT 49 = some (.told o49) from rfl) _ rfl).trans ?_
 have h1:sized 1 (cM cI a0) = true:=qL _ _ (fun x=>by rfl) a0
 have h2:L3 (cM cI a0) = true:=aIe _ _ (fun x=>rfl)
 have h3:(cM cI a0).length = a0.length:=List.length_map ..
 simp only [o49,U7,h1,h2,h3,true_and,gC]
 split <;> rfl
theorem F7 (a0:Int) (a1:List Int):Vm.call TT 77 [.int .i64 a0,.ptr [.sl (cM cI a1)] 0] = (nS a0 a1).map fun (r:Bool)=>.bool r:=by
 refine (bE (show TT 77 = some (.code ⟨2,8,[.tmp 3],aNs,false,false⟩) from rfl) _ rfl rfl).trans ?_
 show bP TT aNs ⟨[(0,dI a0),(1,.d (.ptr [.sl (cM cI a1)] 0))],[]⟩ _ = _
 unfold aNs nS
 have u:=@lM
 exact oR
theorem GD (a0:Int) (a1:List Int):KF TT 77 [.int .i64 a0,.ptr [.sl (cM cI a1)] 0] (nS a0 a1) (fun (r:Bool)=>dB r):=kF (F7 a0 a1) (fun _=>rfl) (fun _=>rfl)
abbrev gB (a0 a1:List Int) (p1:Int):St:=⟨[(0,.d (.sl (cM cI a0))),(1,.d (.fn 77 [.ptr [.sl (cM cI a1)] 0])),(7,dI (a0.length:Int)),(8,dI p1)],[]⟩
theorem sX (a0 a1:List Int) (p1:Int):bP TT bM (gB a0 a1 p1) (fun e s=>some (e,s)) = cD (fun (w:Int)=>gB a0 a1 w) (fun (r:Unit ⊕ Int)=>Sum.elim (fun (z:Unit)=>(((.exit 0),⟨[],[]⟩):Ex × St)) (fun (z:Int)=>((.ret,⟨[(4,dI z)],[]⟩):Ex × St)) r) (dR a0 a1 p1):=by
 unfold bM dR
 have u:=@GD
 exact oR
theorem tH {β:Type} (a0 a1:List Int) (p1:Int) (k:Ex->St->Option β):bP TT hJ (gB a0 a1 p1) k = (gN a0 a1 p1).bind (fun (r:Unit ⊕ Int)=>Sum.elim (fun (z:Unit)=>k (.exit 0) ⟨[],[]⟩) (fun (z:Int)=>k .ret ⟨[(4,dI z)],[]⟩) r):=by
 have hh:=fun (w:Int)=>sX a0 a1 w
 have h:=fun ho=>aX (T:=TT) (k:=k) (c:=bM) (step:=(fun (w:Int)=>dR a0 a1 w)) _ _ ho hh p1
 refine Eq.trans (h (fun r s e=>by have q:=congrArg Prod.fst e; rcases r with x | x <;> cases q)) ?_
 unfold gN
 exact aL _ fun x=>by rcases x with x | x <;> rfl
theorem vR (a0 a1:List Int):Vm.call TT 72 [.sl (cM cI a0),.fn 77 [.ptr [.sl (cM cI a1)] 0]] = (fC a0 a1).map fun (r:Int)=>.int .i64 r:=by
 refine (bE (show TT 72 = some (.code ⟨2,19,[.tmp 4],aBm,false,false⟩) from rfl) _ rfl rfl).trans ?_
 show bP TT aBm ⟨[(0,.d (.sl (cM cI a0))),(1,.d (.fn 77 [.ptr [.sl (cM cI a1)] 0]))],[]⟩ _ = _
 unfold aBm fC
 have u:=@tH
 exact oR
theorem vO (a0 a1:List Int):KF TT 72 [.sl (cM cI a0),.fn 77 [.ptr [.sl (cM cI a1)] 0]] (fC a0 a1) (fun (r:Int)=>dI r):=kF (vR a0 a1) (fun _=>rfl) (fun _=>rfl)
theorem sY (a0 a1:List Int):Vm.call TT 76 [.sl (cM cI a0),.fn 77 [.ptr [.sl (cM cI a1)] 0]] = (eH a0 a1).map fun (r:Bool)=>.bool r:=by
 refine (bE (show TT 76 = some (.code ⟨2,9,[.tmp 4],aMV,false,false⟩) from rfl) _ rfl rfl).trans ?_
 show bP TT aMV ⟨[(0,.d (.sl (cM cI a0))),(1,.d (.fn 77 [.ptr [.sl (cM cI a1)] 0]))],[]⟩ _ = _
 unfold aMV eH
 have u:=@vO
 exact oR
theorem tN (a0 a1:List Int):KF TT 76 [.sl (cM cI a0),.fn 77 [.ptr [.sl (cM cI a1)] 0]] (eH a0 a1) (fun (r:Bool)=>dB r):=kF (sY a0 a1) (fun _=>rfl) (fun _=>rfl)
theorem N4 (a0 a1:List Int):Vm.call TT 48 [.sl (cM cI a0),.sl (cM cI a1)] = (vV a0 a1).map fun (r:Bool)=>.bool r:=by
 refine (bE (show TT 48 = some (.code ⟨2,9,[.tmp 4],aOI,false,false⟩) from rfl) _ rfl rfl).trans ?_
 show bP TT aOI ⟨[(0,.d (.sl (cM cI a0))),(1,.d (.sl (cM cI a1)))],[]⟩ _ = _
 unfold aOI vV
 have u:=@tN
 exact oR
theorem NU (a0 a1:List Int):KF TT 48 [.sl (cM cI a0),.sl (cM cI a1)] (vV a0 a1) (fun (r:Bool)=>dB r):=kF (N4 a0 a1) (fun _=>rfl) (fun _=>rfl)
end Go.Proofs.Ytgjcnbgfaimepaa
