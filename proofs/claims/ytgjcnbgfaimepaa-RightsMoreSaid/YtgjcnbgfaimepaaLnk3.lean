/- The functions of the small machine compute the plain definitions. Printed by a program. -/
import Derived.Test.YtgjcnbgfaimepaaLnk2
set_option linter.unusedVariables false
set_option linter.unusedSimpArgs false
namespace Go.Proofs.Ytgjcnbgfaimepaa
open Vm
open Go.RowKit
set_option maxRecDepth 100000
set_option maxHeartbeats 4000000
attribute [local congr] xJ AH xO AD
theorem GN {β:Type} (a0:Int) (a1:List aF) (r8:(List Int)) (bl:List (Nat × Option aI)) (k:V->Option β) (kw:V->List (Nat × Option aI)->Option β):wK TT 38 bl 62 [.int .i64 a0,.sl (cM aF.cells a1),.sl (cM cI r8)] k kw = (d7 a0 a1 r8).bind fun (r:(List Int))=>aY bl 100038 fun b=>fK b (kw (.own 100038 0) ((100038,some (.rows 0 3 1 (cM cI r))) :: [])):=rM (vP a0 a1 r8) (fun _=>(oC rfl (vO (oV _ (fun _=>rfl) _) rfl)))
theorem GK {β:Type} (a0:Int) (a1:List aF) (r14:(List Int)) (bl:List (Nat × Option aI)) (k:V->Option β) (kw:V->List (Nat × Option aI)->Option β):wK TT 55 bl 62 [.int .i64 a0,.sl (cM aF.cells a1),.sl (cM cI r14)] k kw = (d7 a0 a1 r14).bind fun (r:(List Int))=>aY bl 100055 fun b=>fK b (kw (.own 100055 0) ((100055,some (.rows 0 3 1 (cM cI r))) :: [])):=rM (vP a0 a1 r14) (fun _=>(oC rfl (vO (oV _ (fun _=>rfl) _) rfl)))
theorem FQ {β:Type} (a0:Int) (a1:List aF) (r7:(List Int)) (bl:List (Nat × Option aI)) (kw:V->List (Nat × Option aI)->Option β):NL TT bl 61 17 0 [.int .i64 a0,.sl (cM aF.cells a1),.own (.ref 0) [(3,1)] [cM cI r7]] kw = (jW a0 a1 r7).bind fun (r:(List Int))=>aY bl 17 fun b=>I4 0 3 1 (cM cI r) b fun b2=>kw (.tup []) [(17,b2)]:=HQ (IJ a0 a1 r7) (fun _=>rfl) (fun _=>oV _ (fun _=>rfl) _) 17 0
theorem FP {β:Type} (a0:Int) (a1:List aF) (p10:Int) (p11:List Int) (r9:(List Int)) (bl:List (Nat × Option aI)) (kw:V->List (Nat × Option aI)->Option β):NL TT bl 63 17 0 [.int .i64 a0,.sl (cM aF.cells a1),.own (.ref 0) [(3,1)] [cM cI p11],.sl (cM cI r9),.int .i64 p10] kw = (l9 a0 a1 p11 r9 p10).bind fun (r:(List Int))=>aY bl 17 fun b=>I4 0 3 1 (cM cI r) b fun b2=>kw (.tup []) [(17,b2)]:=HQ (LK a0 a1 p11 r9 p10) (fun _=>rfl) (fun _=>oV _ (fun _=>rfl) _) 17 0
abbrev qP (a0:Int) (a1:List aF) (p2:Int) (p3:List Int):St:=⟨[(0,dI a0),(1,.d (.sl (cM aF.cells a1))),(4,.own 17 0),(18,.d (.sl (cM aF.cells a1))),(19,dI (a1.length:Int)),(20,dI p2)],[(17,some (.rows 0 3 1 (cM cI p3)))]⟩
theorem GR (a0:Int) (a1:List aF) (p2:Int) (p3:List Int):bR TT mA (qP a0 a1 p2 p3) (fun e s=>some (e,s)) = cH (fun (w:Int × (List Int))=>qP a0 a1 w.1 w.2) (fun (r:(List Int))=>(((.exit 0),⟨[(0,dI a0),(1,.d (.sl (cM aF.cells a1))),(4,.own 17 0)],[(17,some (.rows 0 3 1 (cM cI r)))]⟩):Ex × St)) (cU a0 a1 p2 p3):=by
 unfold mA cU
 exact IU
theorem G2 {β:Type} (a0:Int) (a1:List aF) (p2:Int) (p3:List Int) (k:Ex->St->Option β):bR TT xF (qP a0 a1 p2 p3) k = (kW a0 a1 p2 p3).bind (fun (r:(List Int))=>k (.exit 0) ⟨[(0,dI a0),(1,.d (.sl (cM aF.cells a1))),(4,.own 17 0)],[(17,some (.rows 0 3 1 (cM cI r)))]⟩):=by
 have hh:=fun (w:Int × (List Int))=>GR a0 a1 w.1 w.2
 have h:=fun ho=>aZ (T:=TT) (k:=k) (c:=mA) (step:=(fun (w:Int × (List Int))=>cU a0 a1 w.1 w.2)) _ _ ho hh (p2,p3)
 refine Eq.trans (h (fun r s e=>by have q:=congrArg Prod.fst e; rcases r with x <;> cases q)) ?_
 unfold kW
 exact aL _ fun x=>by rcases x with x <;> rfl
abbrev qZ (a0:Int) (a1:List aF) (r9:(List Int)) (p10:Int) (p11:List Int):St:=⟨[(0,dI a0),(1,.d (.sl (cM aF.cells a1))),(4,.own 17 0),(9,.own 100038 0),(40,dI (a1.length:Int)),(41,dI p10)],[(17,some (.rows 0 3 1 (cM cI p11))),(100038,some (.rows 0 3 1 (cM cI r9)))]⟩
theorem F6 (a0:Int) (a1:List aF) (r9:(List Int)) (p10:Int) (p11:List Int):bR TT mD (qZ a0 a1 r9 p10 p11) (fun e s=>some (e,s)) = cH (fun (w:Int × (List Int))=>qZ a0 a1 r9 w.1 w.2) (fun (r:(List Int))=>(((.exit 2),⟨[(0,dI a0),(1,.d (.sl (cM aF.cells a1))),(4,.own 17 0)],[(17,some (.rows 0 3 1 (cM cI r)))]⟩):Ex × St)) (dE a0 a1 r9 p10 p11):=by
 unfold mD dE
 have u:=@FP
 exact pX
theorem GI {β:Type} (a0:Int) (a1:List aF) (r9:(List Int)) (p10:Int) (p11:List Int) (k:Ex->St->Option β):bR TT xZ (qZ a0 a1 r9 p10 p11) k = (kY a0 a1 r9 p10 p11).bind (fun (r:(List Int))=>k (.exit 2) ⟨[(0,dI a0),(1,.d (.sl (cM aF.cells a1))),(4,.own 17 0)],[(17,some (.rows 0 3 1 (cM cI r)))]⟩):=by
 have hh:=fun (w:Int × (List Int))=>F6 a0 a1 r9 w.1 w.2
 have h:=fun ho=>aZ (T:=TT) (k:=k) (c:=mD) (step:=(fun (w:Int × (List Int))=>dE a0 a1 r9 w.1 w.2)) _ _ ho hh (p10,p11)
 refine Eq.trans (h (fun r s e=>by have q:=congrArg Prod.fst e; rcases r with x <;> cases q)) ?_
 unfold kY
 exact aL _ fun x=>by rcases x with x <;> rfl
theorem K5 (a0:Int) (a1:List aF):Vm.call TT 25 [.int .i64 a0,.sl (cM aF.cells a1)] = (iT a0 a1).map fun (r:(List Int) × (List Int) × Int)=>.tup [.sl (cM cI r.1),.sl (cM cI r.2.1),.int .i64 r.2.2]:=by
 refine (bH (show TT 25 = some (.code ⟨2,56,[.tmp 4,.tmp 5,.tmp 6],aLn,false,false⟩) from rfl) _ rfl rfl).trans ?_
 show bR TT aLn ⟨[(0,dI a0),(1,.d (.sl (cM aF.cells a1)))],[]⟩ _ = _
 unfold aLn iT
 have u:=aN (aN @G2 (aN @GI @BB)) (aN @GN (aN @GK @FQ))
 exact pX
theorem BC (a0:Int) (a1:List aF):KD TT 25 [.int .i64 a0,.sl (cM aF.cells a1)] (iT a0 a1) (fun (r:(List Int) × (List Int) × Int)=>.tup [.d (.sl (cM cI r.1)),.d (.sl (cM cI r.2.1)),dI r.2.2]):=kD (K5 a0 a1) (fun _=>rfl) (fun _=>rfl) (fun _=>rfl)
abbrev vX (a0:Int) (a1:List aE) (a2:List Int) (p1:Int) (p2:List aF) (p3:List Int):St:=⟨[(0,dI a0),(1,.d (.sl (cM aE.cells a1))),(2,.d (.sl (cM cI a2))),(8,.own 30 0),(9,.own 34 0),(16,.d (.sl (cM aE.cells a1))),(17,dI (a1.length:Int)),(18,dI p1)],[(30,some (.rows 0 54 3 (cM aF.cells p2))),(34,some (.rows 0 3 1 (cM cI p3)))]⟩
theorem LL (a0:Int) (a1:List aE) (a2:List Int) (p1:Int) (p2:List aF) (p3:List Int):bR TT qJ (vX a0 a1 a2 p1 p2 p3) (fun e s=>some (e,s)) = cH (fun (w:Int × (List aF) × (List Int))=>vX a0 a1 a2 w.1 w.2.1 w.2.2) (fun (r:(List aF) × (List Int))=>(((.exit 0),⟨[(0,dI a0),(1,.d (.sl (cM aE.cells a1))),(8,.own 30 0),(9,.own 34 0)],[(30,some (.rows 0 54 3 (cM aF.cells r.1))),(34,some (.rows 0 3 1 (cM cI r.2)))]⟩):Ex × St)) (dV a0 a1 a2 p1 p2 p3):=by
 unfold qJ dV
 have u:=aN @IQ @F8
 exact pX
theorem K9 {β:Type} (a0:Int) (a1:List aE) (a2:List Int) (p1:Int) (p2:List aF) (p3:List Int) (k:Ex->St->Option β):bR TT BJ (vX a0 a1 a2 p1 p2 p3) k = (pY a0 a1 a2 p1 p2 p3).bind (fun (r:(List aF) × (List Int))=>k (.exit 0) ⟨[(0,dI a0),(1,.d (.sl (cM aE.cells a1))),(8,.own 30 0),(9,.own 34 0)],[(30,some (.rows 0 54 3 (cM aF.cells r.1))),(34,some (.rows 0 3 1 (cM cI r.2)))]⟩):=by
 have hh:=fun (w:Int × (List aF) × (List Int))=>LL a0 a1 a2 w.1 w.2.1 w.2.2
 have h:=fun ho=>aZ (T:=TT) (k:=k) (c:=qJ) (step:=(fun (w:Int × (List aF) × (List Int))=>dV a0 a1 a2 w.1 w.2.1 w.2.2)) _ _ ho hh (p1,p2,p3)
 refine Eq.trans (h (fun r s e=>by have q:=congrArg Prod.fst e; rcases r with x <;> cases q)) ?_
 unfold pY
 exact aL _ fun x=>by rcases x with x <;> rfl
abbrev vC (r10:(List Int) × (List Int) × Int) (r9:(List aF) × (List Int)) (p11:Int) (p12:List Int):St:=⟨[(6,.own 45 0),(7,.d (.sl (cM cI r10.2.1))),(9,.own 34 0),(46,.d (.sl (cM cI r10.1))),(47,dI (r10.1.length:Int)),(48,dI p11)],[(34,some (.rows 0 3 1 (cM cI r9.2))),(45,some (.rows 0 3 1 (cM cI p12)))]⟩
theorem LC (r10:(List Int) × (List Int) × Int) (r9:(List aF) × (List Int)) (p11:Int) (p12:List Int):bR TT qH (vC r10 r9 p11 p12) (fun e s=>some (e,s)) = cH (fun (w:Int × (List Int))=>vC r10 r9 w.1 w.2) (fun (r:(List Int))=>(((.exit 2),⟨[(6,.own 45 0),(7,.d (.sl (cM cI r10.2.1)))],[(45,some (.rows 0 3 1 (cM cI r)))]⟩):Ex × St)) (eQ r10 r9 p11 p12):=by
 unfold qH eQ
 exact IU
theorem KX {β:Type} (r10:(List Int) × (List Int) × Int) (r9:(List aF) × (List Int)) (p11:Int) (p12:List Int) (k:Ex->St->Option β):bR TT BE (vC r10 r9 p11 p12) k = (pT r10 r9 p11 p12).bind (fun (r:(List Int))=>k (.exit 2) ⟨[(6,.own 45 0),(7,.d (.sl (cM cI r10.2.1)))],[(45,some (.rows 0 3 1 (cM cI r)))]⟩):=by
 have hh:=fun (w:Int × (List Int))=>LC r10 r9 w.1 w.2
 have h:=fun ho=>aZ (T:=TT) (k:=k) (c:=qH) (step:=(fun (w:Int × (List Int))=>eQ r10 r9 w.1 w.2)) _ _ ho hh (p11,p12)
 refine Eq.trans (h (fun r s e=>by have q:=congrArg Prod.fst e; rcases r with x <;> cases q)) ?_
 unfold pT
 exact aL _ fun x=>by rcases x with x <;> rfl
theorem QL (a0:Int) (a1:List aE) (a2:List Int):Vm.call TT 38 [.int .i64 a0,.sl (cM aE.cells a1),.sl (cM cI a2)] = (mK a0 a1 a2).map fun (r:(List Int) × (List Int))=>.tup [.sl (cM cI r.1),.sl (cM cI r.2)]:=by
 refine (bH (show TT 38 = some (.code ⟨3,63,[.tmp 6,.tmp 7],aLN,false,false⟩) from rfl) _ rfl rfl).trans ?_
 show bR TT aLN ⟨[(0,dI a0),(1,.d (.sl (cM aE.cells a1))),(2,.d (.sl (cM cI a2)))],[]⟩ _ = _
 unfold aLN mK
 have u:=aN @K9 (aN @KX @BC)
 exact pX
theorem vG (a0:Int) (a1:List aE) (a2:List Int):KD TT 38 [.int .i64 a0,.sl (cM aE.cells a1),.sl (cM cI a2)] (mK a0 a1 a2) (fun (r:(List Int) × (List Int))=>.tup [.d (.sl (cM cI r.1)),.d (.sl (cM cI r.2))]):=kD (QL a0 a1 a2) (fun _=>rfl) (fun _=>rfl) (fun _=>rfl)
theorem yH (a0:Int) (a1:List aE) (a2:List Int):Vm.call TT 10 [.int .i64 a0,.sl (cM aE.cells a1),.sl (cM cI a2)] = (dK a0 a1 a2).map fun (r:(List Int) × (List Int) × Int)=>.tup [.sl (cM cI r.1),.sl (cM cI r.2.1),.int .i64 r.2.2]:=by
 refine (bH (show TT 10 = some (.code ⟨3,27,[.tmp 6,.tmp 7,.tmp 8],aMZ,false,false⟩) from rfl) _ rfl rfl).trans ?_
 show bR TT aMZ ⟨[(0,dI a0),(1,.d (.sl (cM aE.cells a1))),(2,.d (.sl (cM cI a2)))],[]⟩ _ = _
 unfold aMZ dK
 have u:=aN @pW (aN @yG @vG)
 exact pX
theorem FB (a0:Int) (a1:List aE) (a2:List Int):KD TT 10 [.int .i64 a0,.sl (cM aE.cells a1),.sl (cM cI a2)] (dK a0 a1 a2) (fun (r:(List Int) × (List Int) × Int)=>.tup [.d (.sl (cM cI r.1)),.d (.sl (cM cI r.2.1)),dI r.2.2]):=kD (yH a0 a1 a2) (fun _=>rfl) (fun _=>rfl) (fun _=>rfl)
abbrev sQ (a0:List aE) (p1:Int) (x3:aE) (p4:Int) (p5:List Int):St:=⟨[(3,.own 25 0),(8,.d (.sl (cM aE.cells a0))),(9,dI (a0.length:Int)),(10,dI p1),(15,.d (.sl (cM aJ.cells x3.Rights))),(16,dI (x3.Rights.length:Int)),(17,dI p4)],[(25,some (.rows 0 3 1 (cM cI p5)))]⟩
theorem IP (a0:List aE) (p1:Int) (x3:aE) (p4:Int) (p5:List Int):bR TT nJ (sQ a0 p1 x3 p4 p5) (fun e s=>some (e,s)) = cH (fun (w:Int × (List Int))=>sQ a0 p1 x3 w.1 w.2) (fun (r:(List Int))=>(((.exit 2),⟨[(3,.own 25 0),(8,.d (.sl (cM aE.cells a0))),(9,dI (a0.length:Int)),(10,dI p1)],[(25,some (.rows 0 3 1 (cM cI r)))]⟩):Ex × St)) (dP a0 p1 x3 p4 p5):=by
 unfold nJ dP
 exact IU
theorem IK {β:Type} (a0:List aE) (p1:Int) (x3:aE) (p4:Int) (p5:List Int) (k:Ex->St->Option β):bR TT yO (sQ a0 p1 x3 p4 p5) k = (mE a0 p1 x3 p4 p5).bind (fun (r:(List Int))=>k (.exit 2) ⟨[(3,.own 25 0),(8,.d (.sl (cM aE.cells a0))),(9,dI (a0.length:Int)),(10,dI p1)],[(25,some (.rows 0 3 1 (cM cI r)))]⟩):=by
 have hh:=fun (w:Int × (List Int))=>IP a0 p1 x3 w.1 w.2
 have h:=fun ho=>aZ (T:=TT) (k:=k) (c:=nJ) (step:=(fun (w:Int × (List Int))=>dP a0 p1 x3 w.1 w.2)) _ _ ho hh (p4,p5)
 refine Eq.trans (h (fun r s e=>by have q:=congrArg Prod.fst e; rcases r with x <;> cases q)) ?_
 unfold mE
 exact aL _ fun x=>by rcases x with x <;> rfl
abbrev rZ (a0:List aE) (p1:Int) (p2:List Int):St:=⟨[(3,.own 25 0),(8,.d (.sl (cM aE.cells a0))),(9,dI (a0.length:Int)),(10,dI p1)],[(25,some (.rows 0 3 1 (cM cI p2)))]⟩
theorem IB (a0:List aE) (p1:Int) (p2:List Int):bR TT nM (rZ a0 p1 p2) (fun e s=>some (e,s)) = cH (fun (w:Int × (List Int))=>rZ a0 w.1 w.2) (fun (r:(List Int))=>(((.exit 0),⟨[(3,.own 25 0)],[(25,some (.rows 0 3 1 (cM cI r)))]⟩):Ex × St)) (dS a0 p1 p2):=by
 unfold nM dS
 have u:=@IK
 exact pX
theorem II {β:Type} (a0:List aE) (p1:Int) (p2:List Int) (k:Ex->St->Option β):bR TT yR (rZ a0 p1 p2) k = (mT a0 p1 p2).bind (fun (r:(List Int))=>k (.exit 0) ⟨[(3,.own 25 0)],[(25,some (.rows 0 3 1 (cM cI r)))]⟩):=by
 have hh:=fun (w:Int × (List Int))=>IB a0 w.1 w.2
 have h:=fun ho=>aZ (T:=TT) (k:=k) (c:=nM) (step:=(fun (w:Int × (List Int))=>dS a0 w.1 w.2)) _ _ ho hh (p1,p2)
 refine Eq.trans (h (fun r s e=>by have q:=congrArg Prod.fst e; rcases r with x <;> cases q)) ?_
 unfold mT
 exact aL _ fun x=>by rcases x with x <;> rfl
theorem wT (a0:List aE):Vm.call TT 21 [.sl (cM aE.cells a0)] = (gD a0).map fun (r:(List Int))=>.own (.ref 0) [(3,1)] [cM cI r]:=by
 refine (LQ (show TT 21 = some (.code ⟨1,32,[.tmp 2],aM2,true,false⟩) from rfl) _ rfl rfl).trans ?_
 show bR TT aM2 ⟨[(0,.d (.sl (cM aE.cells a0)))],[]⟩ _ = _
 unfold aM2 gD
 have u:=@II
 exact pX
theorem F2 (a0:Int) (a1:List Int):Vm.call TT 43 [.int .i64 a0,.ptr [.sl (cM cI a1)] 0] = (lC a0 a1).map fun (r:Bool)=>.bool r:=by
 refine (bH (show TT 43 = some (.code ⟨2,7,[.tmp 3],aOc,false,false⟩) from rfl) _ rfl rfl).trans ?_
 show bR TT aOc ⟨[(0,dI a0),(1,.d (.ptr [.sl (cM cI a1)] 0))],[]⟩ _ = _
 unfold aOc lC
 have u:=@k9
 exact pX
theorem yC (a0:Int) (a1:List Int):KF TT 43 [.int .i64 a0,.ptr [.sl (cM cI a1)] 0] (lC a0 a1) (fun (r:Bool)=>dB r):=kF (F2 a0 a1) (fun _=>rfl) (fun _=>rfl)
abbrev fX (a0 a1:List Int) (p1:Int):St:=⟨[(0,.d (.sl (cM cI a0))),(1,.d (.fn 43 [.ptr [.sl (cM cI a1)] 0])),(7,dI (a0.length:Int)),(8,dI p1)],[]⟩
theorem sG (a0 a1:List Int) (p1:Int):bR TT bL (fX a0 a1 p1) (fun e s=>some (e,s)) = cH (fun (w:Int)=>fX a0 a1 w) (fun (r:Unit ⊕ Int)=>Sum.elim (fun (z:Unit)=>(((.exit 0),⟨[],[]⟩):Ex × St)) (fun (z:Int)=>((.ret,⟨[(4,dI z)],[]⟩):Ex × St)) r) (dN a0 a1 p1):=by
 unfold bL dN
 have u:=@yC
 exact pX
theorem sR {β:Type} (a0 a1:List Int) (p1:Int) (k:Ex->St->Option β):bR TT hU (fX a0 a1 p1) k = (gL a0 a1 p1).bind (fun (r:Unit ⊕ Int)=>Sum.elim (fun (z:Unit)=>k (.exit 0) ⟨[],[]⟩) (fun (z:Int)=>k .ret ⟨[(4,dI z)],[]⟩) r):=by
 have hh:=fun (w:Int)=>sG a0 a1 w
 have h:=fun ho=>aZ (T:=TT) (k:=k) (c:=bL) (step:=(fun (w:Int)=>dN a0 a1 w)) _ _ ho hh p1
 refine Eq.trans (h (fun r s e=>by have q:=congrArg Prod.fst e; rcases r with x | x <;> cases q)) ?_
 unfold gL
 exact aL _ fun x=>by rcases x with x | x <;> rfl
theorem uZ (a0 a1:List Int):Vm.call TT 72 [.sl (cM cI a0),.fn 43 [.ptr [.sl (cM cI a1)] 0]] = (e9 a0 a1).map fun (r:Int)=>.int .i64 r:=by
 refine (bH (show TT 72 = some (.code ⟨2,19,[.tmp 4],aAN,false,false⟩) from rfl) _ rfl rfl).trans ?_
 show bR TT aAN ⟨[(0,.d (.sl (cM cI a0))),(1,.d (.fn 43 [.ptr [.sl (cM cI a1)] 0]))],[]⟩ _ = _
 unfold aAN e9
 have u:=@sR
 exact pX
theorem lS (a0 a1:List Int):KF TT 72 [.sl (cM cI a0),.fn 43 [.ptr [.sl (cM cI a1)] 0]] (e9 a0 a1) (fun (r:Int)=>dI r):=kF (uZ a0 a1) (fun _=>rfl) (fun _=>rfl)
abbrev qR (a0:List Int) (p1 p2:Int):St:=⟨[(3,dI p1),(9,.d (.sl (cM cI a0))),(10,dI (a0.length:Int)),(11,dI p2)],[]⟩
theorem G1 (a0:List Int) (p1 p2:Int):bR TT mQ (qR a0 p1 p2) (fun e s=>some (e,s)) = cH (fun (w:Int × Int)=>qR a0 w.1 w.2) (fun (r:Int ⊕ Unit)=>Sum.elim (fun (z:Int)=>(((.exit 0),⟨[(3,dI z)],[]⟩):Ex × St)) (fun (z:Unit)=>((.ret,⟨[(2,dI 0)],[]⟩):Ex × St)) r) (cA a0 p1 p2):=by
 unfold mQ cA
 exact IU
theorem F4 {β:Type} (a0:List Int) (p1 p2:Int) (k:Ex->St->Option β):bR TT xC (qR a0 p1 p2) k = (oL a0 p1 p2).bind (fun (r:Int ⊕ Unit)=>Sum.elim (fun (z:Int)=>k (.exit 0) ⟨[(3,dI z)],[]⟩) (fun (z:Unit)=>k .ret ⟨[(2,dI 0)],[]⟩) r):=by
 have hh:=fun (w:Int × Int)=>G1 a0 w.1 w.2
 have h:=fun ho=>aZ (T:=TT) (k:=k) (c:=mQ) (step:=(fun (w:Int × Int)=>cA a0 w.1 w.2)) _ _ ho hh (p1,p2)
 refine Eq.trans (h (fun r s e=>by have q:=congrArg Prod.fst e; rcases r with x | x <;> cases q)) ?_
 unfold oL
 exact aL _ fun x=>by rcases x with x | x <;> rfl
theorem LP (a0:List Int):Vm.call TT 27 [.sl (cM cI a0)] = (c9 a0).map fun (r:Int)=>.int .i64 r:=by
 refine (bH (show TT 27 = some (.code ⟨1,26,[.tmp 2],aOP,false,false⟩) from rfl) _ rfl rfl).trans ?_
 show bR TT aOP ⟨[(0,.d (.sl (cM cI a0)))],[]⟩ _ = _
 unfold aOP c9
 have u:=@F4
 exact pX
theorem qG (a0:List Int):KF TT 27 [.sl (cM cI a0)] (c9 a0) (fun (r:Int)=>dI r):=kF (LP a0) (fun _=>rfl) (fun _=>rfl)
theorem uY (a0:List Int):Vm.call TT 49 [.sl (cM cI a0)] = (gA a0).map fun (r:(List Int))=>.own (.ref 0) [(3,1)] [cM cI r]:=by
 refine (RZ (show TT 49 = some (.told o49) from rfl) _ rfl).trans ?_
 have h1:sized 1 (cM cI a0) = true:=pZ _ _ (fun x=>by rfl) a0
 have h2:KI (cM cI a0) = true:=aG3 _ _ (fun x=>rfl)
 have h3:(cM cI a0).length = a0.length:=List.length_map ..
 simp only [o49,UO,h1,h2,h3,true_and,gA]
 split <;> rfl
theorem FK (a0:Int) (a1:List Int):Vm.call TT 77 [.int .i64 a0,.ptr [.sl (cM cI a1)] 0] = (nN a0 a1).map fun (r:Bool)=>.bool r:=by
 refine (bH (show TT 77 = some (.code ⟨2,8,[.tmp 3],aOM,false,false⟩) from rfl) _ rfl rfl).trans ?_
 show bR TT aOM ⟨[(0,dI a0),(1,.d (.ptr [.sl (cM cI a1)] 0))],[]⟩ _ = _
 unfold aOM nN
 have u:=@k9
 exact pX
theorem FJ (a0:Int) (a1:List Int):KF TT 77 [.int .i64 a0,.ptr [.sl (cM cI a1)] 0] (nN a0 a1) (fun (r:Bool)=>dB r):=kF (FK a0 a1) (fun _=>rfl) (fun _=>rfl)
abbrev fU (a0 a1:List Int) (p1:Int):St:=⟨[(0,.d (.sl (cM cI a0))),(1,.d (.fn 77 [.ptr [.sl (cM cI a1)] 0])),(7,dI (a0.length:Int)),(8,dI p1)],[]⟩
theorem sS (a0 a1:List Int) (p1:Int):bR TT bL (fU a0 a1 p1) (fun e s=>some (e,s)) = cH (fun (w:Int)=>fU a0 a1 w) (fun (r:Unit ⊕ Int)=>Sum.elim (fun (z:Unit)=>(((.exit 0),⟨[],[]⟩):Ex × St)) (fun (z:Int)=>((.ret,⟨[(4,dI z)],[]⟩):Ex × St)) r) (dR a0 a1 p1):=by
 unfold bL dR
 have u:=@FJ
 exact pX
theorem sF {β:Type} (a0 a1:List Int) (p1:Int) (k:Ex->St->Option β):bR TT hU (fU a0 a1 p1) k = (gJ a0 a1 p1).bind (fun (r:Unit ⊕ Int)=>Sum.elim (fun (z:Unit)=>k (.exit 0) ⟨[],[]⟩) (fun (z:Int)=>k .ret ⟨[(4,dI z)],[]⟩) r):=by
 have hh:=fun (w:Int)=>sS a0 a1 w
 have h:=fun ho=>aZ (T:=TT) (k:=k) (c:=bL) (step:=(fun (w:Int)=>dR a0 a1 w)) _ _ ho hh p1
 refine Eq.trans (h (fun r s e=>by have q:=congrArg Prod.fst e; rcases r with x | x <;> cases q)) ?_
 unfold gJ
 exact aL _ fun x=>by rcases x with x | x <;> rfl
theorem u0 (a0 a1:List Int):Vm.call TT 72 [.sl (cM cI a0),.fn 77 [.ptr [.sl (cM cI a1)] 0]] = (fC a0 a1).map fun (r:Int)=>.int .i64 r:=by
 refine (bH (show TT 72 = some (.code ⟨2,19,[.tmp 4],aAN,false,false⟩) from rfl) _ rfl rfl).trans ?_
 show bR TT aAN ⟨[(0,.d (.sl (cM cI a0))),(1,.d (.fn 77 [.ptr [.sl (cM cI a1)] 0]))],[]⟩ _ = _
 unfold aAN fC
 have u:=@sF
 exact pX
theorem u4 (a0 a1:List Int):KF TT 72 [.sl (cM cI a0),.fn 77 [.ptr [.sl (cM cI a1)] 0]] (fC a0 a1) (fun (r:Int)=>dI r):=kF (u0 a0 a1) (fun _=>rfl) (fun _=>rfl)
theorem sJ (a0 a1:List Int):Vm.call TT 76 [.sl (cM cI a0),.fn 77 [.ptr [.sl (cM cI a1)] 0]] = (eE a0 a1).map fun (r:Bool)=>.bool r:=by
 refine (bH (show TT 76 = some (.code ⟨2,9,[.tmp 4],aN1,false,false⟩) from rfl) _ rfl rfl).trans ?_
 show bR TT aN1 ⟨[(0,.d (.sl (cM cI a0))),(1,.d (.fn 77 [.ptr [.sl (cM cI a1)] 0]))],[]⟩ _ = _
 unfold aN1 eE
 have u:=@u4
 exact pX
theorem sN (a0 a1:List Int):KF TT 76 [.sl (cM cI a0),.fn 77 [.ptr [.sl (cM cI a1)] 0]] (eE a0 a1) (fun (r:Bool)=>dB r):=kF (sJ a0 a1) (fun _=>rfl) (fun _=>rfl)
theorem MJ (a0 a1:List Int):Vm.call TT 48 [.sl (cM cI a0),.sl (cM cI a1)] = (vJ a0 a1).map fun (r:Bool)=>.bool r:=by
 refine (bH (show TT 48 = some (.code ⟨2,9,[.tmp 4],aLi,false,false⟩) from rfl) _ rfl rfl).trans ?_
 show bR TT aLi ⟨[(0,.d (.sl (cM cI a0))),(1,.d (.sl (cM cI a1)))],[]⟩ _ = _
 unfold aLi vJ
 have u:=@sN
 exact pX
theorem MF (a0 a1:List Int):KF TT 48 [.sl (cM cI a0),.sl (cM cI a1)] (vJ a0 a1) (fun (r:Bool)=>dB r):=kF (MJ a0 a1) (fun _=>rfl) (fun _=>rfl)
end Go.Proofs.Ytgjcnbgfaimepaa
