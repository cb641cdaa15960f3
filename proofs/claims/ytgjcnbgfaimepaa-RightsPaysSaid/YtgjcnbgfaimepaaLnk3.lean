/- The functions of the small machine compute the plain definitions. Printed by a program. -/
import Derived.Test.YtgjcnbgfaimepaaLnk2
set_option linter.unusedVariables false
set_option linter.unusedSimpArgs false
namespace Go.Proofs.Ytgjcnbgfaimepaa
open Vm
open Go.RowKit
set_option maxRecDepth 100000
set_option maxHeartbeats 4000000
attribute [local congr] yZ BS zP BP
theorem HF {β:Type} (a0:Int) (a1:List aI) (r8:(List Int)) (bl:List (Nat × Option aJ)) (k:V->Option β) (kw:V->List (Nat × Option aJ)->Option β):wM TT 38 bl 62 [.int .i64 a0,.sl (cM aI.cells a1),.sl (cM cI r8)] k kw = (eG a0 a1 r8).bind fun (r:(List Int))=>bC bl 100038 fun b=>fU b (kw (.own 100038 0) ((100038,some (.rows 0 3 1 (cM cI r))) :: [])):=qW (wT a0 a1 r8) (fun _=>(nS rfl (uL (oB _ (fun _=>rfl) _) rfl)))
theorem G5 {β:Type} (a0:Int) (a1:List aI) (r14:(List Int)) (bl:List (Nat × Option aJ)) (k:V->Option β) (kw:V->List (Nat × Option aJ)->Option β):wM TT 55 bl 62 [.int .i64 a0,.sl (cM aI.cells a1),.sl (cM cI r14)] k kw = (eG a0 a1 r14).bind fun (r:(List Int))=>bC bl 100055 fun b=>fU b (kw (.own 100055 0) ((100055,some (.rows 0 3 1 (cM cI r))) :: [])):=qW (wT a0 a1 r14) (fun _=>(nS rfl (uL (oB _ (fun _=>rfl) _) rfl)))
theorem HH {β:Type} (a0:Int) (a1:List aI) (r7:(List Int)) (bl:List (Nat × Option aJ)) (kw:V->List (Nat × Option aJ)->Option β):PB TT bl 61 17 0 [.int .i64 a0,.sl (cM aI.cells a1),.own (.ref 0) [(3,1)] [cM cI r7]] kw = (kL a0 a1 r7).bind fun (r:(List Int))=>bC bl 17 fun b=>K3 0 3 1 (cM cI r) b fun b2=>kw (.tup []) [(17,b2)]:=I6 (JR a0 a1 r7) (fun _=>rfl) (fun _=>oB _ (fun _=>rfl) _) 17 0
theorem IP {β:Type} (a0:Int) (a1:List aI) (p10:Int) (p11:List Int) (r9:(List Int)) (bl:List (Nat × Option aJ)) (kw:V->List (Nat × Option aJ)->Option β):PB TT bl 63 17 0 [.int .i64 a0,.sl (cM aI.cells a1),.own (.ref 0) [(3,1)] [cM cI p11],.sl (cM cI r9),.int .i64 p10] kw = (mR a0 a1 p11 r9 p10).bind fun (r:(List Int))=>bC bl 17 fun b=>K3 0 3 1 (cM cI r) b fun b2=>kw (.tup []) [(17,b2)]:=I6 (MD a0 a1 p11 r9 p10) (fun _=>rfl) (fun _=>oB _ (fun _=>rfl) _) 17 0
abbrev rP (a0:Int) (a1:List aI) (p2:Int) (p3:List Int):St:=⟨[(0,dI a0),(1,.d (.sl (cM aI.cells a1))),(4,.own 17 0),(18,.d (.sl (cM aI.cells a1))),(19,dI (a1.length:Int)),(20,dI p2)],[(17,some (.rows 0 3 1 (cM cI p3)))]⟩
theorem G2 (a0:Int) (a1:List aI) (p2:Int) (p3:List Int):bU TT nF (rP a0 a1 p2 p3) (fun e s=>some (e,s)) = cJ (fun (w:Int × (List Int))=>rP a0 a1 w.1 w.2) (fun (r:(List Int))=>(((.exit 0),⟨[(0,dI a0),(1,.d (.sl (cM aI.cells a1))),(4,.own 17 0)],[(17,some (.rows 0 3 1 (cM cI r)))]⟩):Ex × St)) (dA a0 a1 p2 p3):=by
 unfold nF dA
 exact IA
theorem GY {β:Type} (a0:Int) (a1:List aI) (p2:Int) (p3:List Int) (k:Ex->St->Option β):bU TT AA (rP a0 a1 p2 p3) k = (lR a0 a1 p2 p3).bind (fun (r:(List Int))=>k (.exit 0) ⟨[(0,dI a0),(1,.d (.sl (cM aI.cells a1))),(4,.own 17 0)],[(17,some (.rows 0 3 1 (cM cI r)))]⟩):=by
 have hh:=fun (w:Int × (List Int))=>G2 a0 a1 w.1 w.2
 have h:=fun ho=>bA (T:=TT) (k:=k) (c:=nF) (step:=(fun (w:Int × (List Int))=>dA a0 a1 w.1 w.2)) _ _ ho hh (p2,p3)
 refine Eq.trans (h (fun r s e=>by have q:=congrArg Prod.fst e; rcases r with x <;> cases q)) ?_
 unfold lR
 exact aP _ fun x=>by rcases x with x <;> rfl
abbrev rQ (a0:Int) (a1:List aI) (r9:(List Int)) (p10:Int) (p11:List Int):St:=⟨[(0,dI a0),(1,.d (.sl (cM aI.cells a1))),(4,.own 17 0),(9,.own 100038 0),(40,dI (a1.length:Int)),(41,dI p10)],[(17,some (.rows 0 3 1 (cM cI p11))),(100038,some (.rows 0 3 1 (cM cI r9)))]⟩
theorem HI (a0:Int) (a1:List aI) (r9:(List Int)) (p10:Int) (p11:List Int):bU TT mX (rQ a0 a1 r9 p10 p11) (fun e s=>some (e,s)) = cJ (fun (w:Int × (List Int))=>rQ a0 a1 r9 w.1 w.2) (fun (r:(List Int))=>(((.exit 2),⟨[(0,dI a0),(1,.d (.sl (cM aI.cells a1))),(4,.own 17 0)],[(17,some (.rows 0 3 1 (cM cI r)))]⟩):Ex × St)) (dO a0 a1 r9 p10 p11):=by
 unfold mX dO
 have u:=@IP
 exact n8
theorem G6 {β:Type} (a0:Int) (a1:List aI) (r9:(List Int)) (p10:Int) (p11:List Int) (k:Ex->St->Option β):bU TT yQ (rQ a0 a1 r9 p10 p11) k = (lU a0 a1 r9 p10 p11).bind (fun (r:(List Int))=>k (.exit 2) ⟨[(0,dI a0),(1,.d (.sl (cM aI.cells a1))),(4,.own 17 0)],[(17,some (.rows 0 3 1 (cM cI r)))]⟩):=by
 have hh:=fun (w:Int × (List Int))=>HI a0 a1 r9 w.1 w.2
 have h:=fun ho=>bA (T:=TT) (k:=k) (c:=mX) (step:=(fun (w:Int × (List Int))=>dO a0 a1 r9 w.1 w.2)) _ _ ho hh (p10,p11)
 refine Eq.trans (h (fun r s e=>by have q:=congrArg Prod.fst e; rcases r with x <;> cases q)) ?_
 unfold lU
 exact aP _ fun x=>by rcases x with x <;> rfl
theorem MZ (a0:Int) (a1:List aI):Vm.call TT 25 [.int .i64 a0,.sl (cM aI.cells a1)] = (kW a0 a1).map fun (r:(List Int) × (List Int) × Int)=>.tup [.sl (cM cI r.1),.sl (cM cI r.2.1),.int .i64 r.2.2]:=by
 refine (bI (show TT 25 = some (.code ⟨2,56,[.tmp 4,.tmp 5,.tmp 6],aNv,false,false⟩) from rfl) _ rfl rfl).trans ?_
 show bU TT aNv ⟨[(0,dI a0),(1,.d (.sl (cM aI.cells a1)))],[]⟩ _ = _
 unfold aNv kW
 have u:=aN (aN @GY (aN @G6 @CM)) (aN @HF (aN @G5 @HH))
 exact n8
theorem MU (a0:Int) (a1:List aI):KD TT 25 [.int .i64 a0,.sl (cM aI.cells a1)] (kW a0 a1) (fun (r:(List Int) × (List Int) × Int)=>.tup [.d (.sl (cM cI r.1)),.d (.sl (cM cI r.2.1)),dI r.2.2]):=kD (MZ a0 a1) (fun _=>rfl) (fun _=>rfl) (fun _=>rfl)
abbrev wY (a0:Int) (a1:List aE) (a2:List Int) (p1:Int) (p2:List aI) (p3:List Int):St:=⟨[(0,dI a0),(1,.d (.sl (cM aE.cells a1))),(2,.d (.sl (cM cI a2))),(8,.own 30 0),(9,.own 34 0),(16,.d (.sl (cM aE.cells a1))),(17,dI (a1.length:Int)),(18,dI p1)],[(30,some (.rows 0 54 3 (cM aI.cells p2))),(34,some (.rows 0 3 1 (cM cI p3)))]⟩
theorem MN (a0:Int) (a1:List aE) (a2:List Int) (p1:Int) (p2:List aI) (p3:List Int):bU TT rH (wY a0 a1 a2 p1 p2 p3) (fun e s=>some (e,s)) = cJ (fun (w:Int × (List aI) × (List Int))=>wY a0 a1 a2 w.1 w.2.1 w.2.2) (fun (r:(List aI) × (List Int))=>(((.exit 0),⟨[(0,dI a0),(1,.d (.sl (cM aE.cells a1))),(8,.own 30 0),(9,.own 34 0)],[(30,some (.rows 0 54 3 (cM aI.cells r.1))),(34,some (.rows 0 3 1 (cM cI r.2)))]⟩):Ex × St)) (d8 a0 a1 a2 p1 p2 p3):=by
 unfold rH d8
 have u:=aN @J7 @HC
 exact n8
theorem MF {β:Type} (a0:Int) (a1:List aE) (a2:List Int) (p1:Int) (p2:List aI) (p3:List Int) (k:Ex->St->Option β):bU TT CU (wY a0 a1 a2 p1 p2 p3) k = (qQ a0 a1 a2 p1 p2 p3).bind (fun (r:(List aI) × (List Int))=>k (.exit 0) ⟨[(0,dI a0),(1,.d (.sl (cM aE.cells a1))),(8,.own 30 0),(9,.own 34 0)],[(30,some (.rows 0 54 3 (cM aI.cells r.1))),(34,some (.rows 0 3 1 (cM cI r.2)))]⟩):=by
 have hh:=fun (w:Int × (List aI) × (List Int))=>MN a0 a1 a2 w.1 w.2.1 w.2.2
 have h:=fun ho=>bA (T:=TT) (k:=k) (c:=rH) (step:=(fun (w:Int × (List aI) × (List Int))=>d8 a0 a1 a2 w.1 w.2.1 w.2.2)) _ _ ho hh (p1,p2,p3)
 refine Eq.trans (h (fun r s e=>by have q:=congrArg Prod.fst e; rcases r with x <;> cases q)) ?_
 unfold qQ
 exact aP _ fun x=>by rcases x with x <;> rfl
abbrev wI (r10:(List Int) × (List Int) × Int) (r9:(List aI) × (List Int)) (p11:Int) (p12:List Int):St:=⟨[(6,.own 45 0),(7,.d (.sl (cM cI r10.2.1))),(9,.own 34 0),(46,.d (.sl (cM cI r10.1))),(47,dI (r10.1.length:Int)),(48,dI p11)],[(34,some (.rows 0 3 1 (cM cI r9.2))),(45,some (.rows 0 3 1 (cM cI p12)))]⟩
theorem L5 (r10:(List Int) × (List Int) × Int) (r9:(List aI) × (List Int)) (p11:Int) (p12:List Int):bU TT rF (wI r10 r9 p11 p12) (fun e s=>some (e,s)) = cJ (fun (w:Int × (List Int))=>wI r10 r9 w.1 w.2) (fun (r:(List Int))=>(((.exit 2),⟨[(6,.own 45 0),(7,.d (.sl (cM cI r10.2.1)))],[(45,some (.rows 0 3 1 (cM cI r)))]⟩):Ex × St)) (e9 r10 r9 p11 p12):=by
 unfold rF e9
 exact IA
theorem MM {β:Type} (r10:(List Int) × (List Int) × Int) (r9:(List aI) × (List Int)) (p11:Int) (p12:List Int) (k:Ex->St->Option β):bU TT CR (wI r10 r9 p11 p12) k = (qS r10 r9 p11 p12).bind (fun (r:(List Int))=>k (.exit 2) ⟨[(6,.own 45 0),(7,.d (.sl (cM cI r10.2.1)))],[(45,some (.rows 0 3 1 (cM cI r)))]⟩):=by
 have hh:=fun (w:Int × (List Int))=>L5 r10 r9 w.1 w.2
 have h:=fun ho=>bA (T:=TT) (k:=k) (c:=rF) (step:=(fun (w:Int × (List Int))=>e9 r10 r9 w.1 w.2)) _ _ ho hh (p11,p12)
 refine Eq.trans (h (fun r s e=>by have q:=congrArg Prod.fst e; rcases r with x <;> cases q)) ?_
 unfold qS
 exact aP _ fun x=>by rcases x with x <;> rfl
theorem SH (a0:Int) (a1:List aE) (a2:List Int):Vm.call TT 38 [.int .i64 a0,.sl (cM aE.cells a1),.sl (cM cI a2)] = (mU a0 a1 a2).map fun (r:(List Int) × (List Int))=>.tup [.sl (cM cI r.1),.sl (cM cI r.2)]:=by
 refine (bI (show TT 38 = some (.code ⟨3,63,[.tmp 6,.tmp 7],aMS,false,false⟩) from rfl) _ rfl rfl).trans ?_
 show bU TT aMS ⟨[(0,dI a0),(1,.d (.sl (cM aE.cells a1))),(2,.d (.sl (cM cI a2)))],[]⟩ _ = _
 unfold aMS mU
 have u:=aN @MF (aN @MM @MU)
 exact n8
theorem wU (a0:Int) (a1:List aE) (a2:List Int):KD TT 38 [.int .i64 a0,.sl (cM aE.cells a1),.sl (cM cI a2)] (mU a0 a1 a2) (fun (r:(List Int) × (List Int))=>.tup [.d (.sl (cM cI r.1)),.d (.sl (cM cI r.2))]):=kD (SH a0 a1 a2) (fun _=>rfl) (fun _=>rfl) (fun _=>rfl)
theorem F5 (a0:Int) (a1:List aE) (a2:List Int):Vm.call TT 10 [.int .i64 a0,.sl (cM aE.cells a1),.sl (cM cI a2)] = (fT a0 a1 a2).map fun (r:(List Int) × (List Int) × Int)=>.tup [.sl (cM cI r.1),.sl (cM cI r.2.1),.int .i64 r.2.2]:=by
 refine (bI (show TT 10 = some (.code ⟨3,27,[.tmp 6,.tmp 7,.tmp 8],aOr,false,false⟩) from rfl) _ rfl rfl).trans ?_
 show bU TT aOr ⟨[(0,dI a0),(1,.d (.sl (cM aE.cells a1))),(2,.d (.sl (cM cI a2)))],[]⟩ _ = _
 unfold aOr fT
 have u:=aN @uI (aN @AC @wU)
 exact n8
theorem GJ (a0:Int) (a1:List aE) (a2:List Int):KD TT 10 [.int .i64 a0,.sl (cM aE.cells a1),.sl (cM cI a2)] (fT a0 a1 a2) (fun (r:(List Int) × (List Int) × Int)=>.tup [.d (.sl (cM cI r.1)),.d (.sl (cM cI r.2.1)),dI r.2.2]):=kD (F5 a0 a1 a2) (fun _=>rfl) (fun _=>rfl) (fun _=>rfl)
abbrev sW (a0:List aE) (p1:Int) (x3:aE) (p4:Int) (p5:List Int):St:=⟨[(3,.own 25 0),(8,.d (.sl (cM aE.cells a0))),(9,dI (a0.length:Int)),(10,dI p1),(15,.d (.sl (cM aK.cells x3.Rights))),(16,dI (x3.Rights.length:Int)),(17,dI p4)],[(25,some (.rows 0 3 1 (cM cI p5)))]⟩
theorem JK (a0:List aE) (p1:Int) (x3:aE) (p4:Int) (p5:List Int):bU TT oD (sW a0 p1 x3 p4 p5) (fun e s=>some (e,s)) = cJ (fun (w:Int × (List Int))=>sW a0 p1 x3 w.1 w.2) (fun (r:(List Int))=>(((.exit 2),⟨[(3,.own 25 0),(8,.d (.sl (cM aE.cells a0))),(9,dI (a0.length:Int)),(10,dI p1)],[(25,some (.rows 0 3 1 (cM cI r)))]⟩):Ex × St)) (n9 a0 p1 x3 p4 p5):=by
 unfold oD n9
 exact IA
theorem JX {β:Type} (a0:List aE) (p1:Int) (x3:aE) (p4:Int) (p5:List Int) (k:Ex->St->Option β):bU TT AN (sW a0 p1 x3 p4 p5) k = (xD a0 p1 x3 p4 p5).bind (fun (r:(List Int))=>k (.exit 2) ⟨[(3,.own 25 0),(8,.d (.sl (cM aE.cells a0))),(9,dI (a0.length:Int)),(10,dI p1)],[(25,some (.rows 0 3 1 (cM cI r)))]⟩):=by
 have hh:=fun (w:Int × (List Int))=>JK a0 p1 x3 w.1 w.2
 have h:=fun ho=>bA (T:=TT) (k:=k) (c:=oD) (step:=(fun (w:Int × (List Int))=>n9 a0 p1 x3 w.1 w.2)) _ _ ho hh (p4,p5)
 refine Eq.trans (h (fun r s e=>by have q:=congrArg Prod.fst e; rcases r with x <;> cases q)) ?_
 unfold xD
 exact aP _ fun x=>by rcases x with x <;> rfl
abbrev tL (a0:List aE) (p1:Int) (p2:List Int):St:=⟨[(3,.own 25 0),(8,.d (.sl (cM aE.cells a0))),(9,dI (a0.length:Int)),(10,dI p1)],[(25,some (.rows 0 3 1 (cM cI p2)))]⟩
theorem JS (a0:List aE) (p1:Int) (p2:List Int):bU TT oE (tL a0 p1 p2) (fun e s=>some (e,s)) = cJ (fun (w:Int × (List Int))=>tL a0 w.1 w.2) (fun (r:(List Int))=>(((.exit 0),⟨[(3,.own 25 0)],[(25,some (.rows 0 3 1 (cM cI r)))]⟩):Ex × St)) (oF a0 p1 p2):=by
 unfold oE oF
 have u:=@JX
 exact n8
theorem JY {β:Type} (a0:List aE) (p1:Int) (p2:List Int) (k:Ex->St->Option β):bU TT AP (tL a0 p1 p2) k = (wE a0 p1 p2).bind (fun (r:(List Int))=>k (.exit 0) ⟨[(3,.own 25 0)],[(25,some (.rows 0 3 1 (cM cI r)))]⟩):=by
 have hh:=fun (w:Int × (List Int))=>JS a0 w.1 w.2
 have h:=fun ho=>bA (T:=TT) (k:=k) (c:=oE) (step:=(fun (w:Int × (List Int))=>oF a0 w.1 w.2)) _ _ ho hh (p1,p2)
 refine Eq.trans (h (fun r s e=>by have q:=congrArg Prod.fst e; rcases r with x <;> cases q)) ?_
 unfold wE
 exact aP _ fun x=>by rcases x with x <;> rfl
theorem D4 (a0:List aE):Vm.call TT 21 [.sl (cM aE.cells a0)] = (oI a0).map fun (r:(List Int))=>.own (.ref 0) [(3,1)] [cM cI r]:=by
 refine (LX (show TT 21 = some (.code ⟨1,32,[.tmp 2],aPu,true,false⟩) from rfl) _ rfl rfl).trans ?_
 show bU TT aPu ⟨[(0,.d (.sl (cM aE.cells a0)))],[]⟩ _ = _
 unfold aPu oI
 have u:=@JY
 exact n8
theorem IK (a0:Int) (a1:List Int):Vm.call TT 43 [.int .i64 a0,.ptr [.sl (cM cI a1)] 0] = (lZ a0 a1).map fun (r:Bool)=>.bool r:=by
 refine (bI (show TT 43 = some (.code ⟨2,7,[.tmp 3],aOb,false,false⟩) from rfl) _ rfl rfl).trans ?_
 show bU TT aOb ⟨[(0,dI a0),(1,.d (.ptr [.sl (cM cI a1)] 0))],[]⟩ _ = _
 unfold aOb lZ
 have u:=@mA
 exact n8
theorem zY (a0:Int) (a1:List Int):KF TT 43 [.int .i64 a0,.ptr [.sl (cM cI a1)] 0] (lZ a0 a1) (fun (r:Bool)=>dB r):=kF (IK a0 a1) (fun _=>rfl) (fun _=>rfl)
abbrev fZ (a0 a1:List Int) (p1:Int):St:=⟨[(0,.d (.sl (cM cI a0))),(1,.d (.fn 43 [.ptr [.sl (cM cI a1)] 0])),(7,dI (a0.length:Int)),(8,dI p1)],[]⟩
theorem tF (a0 a1:List Int) (p1:Int):bU TT bV (fZ a0 a1 p1) (fun e s=>some (e,s)) = cJ (fun (w:Int)=>fZ a0 a1 w) (fun (r:Unit ⊕ Int)=>Sum.elim (fun (z:Unit)=>(((.exit 0),⟨[],[]⟩):Ex × St)) (fun (z:Int)=>((.ret,⟨[(4,dI z)],[]⟩):Ex × St)) r) (dW a0 a1 p1):=by
 unfold bV dW
 have u:=@zY
 exact n8
theorem tN {β:Type} (a0 a1:List Int) (p1:Int) (k:Ex->St->Option β):bU TT iH (fZ a0 a1 p1) k = (gU a0 a1 p1).bind (fun (r:Unit ⊕ Int)=>Sum.elim (fun (z:Unit)=>k (.exit 0) ⟨[],[]⟩) (fun (z:Int)=>k .ret ⟨[(4,dI z)],[]⟩) r):=by
 have hh:=fun (w:Int)=>tF a0 a1 w
 have h:=fun ho=>bA (T:=TT) (k:=k) (c:=bV) (step:=(fun (w:Int)=>dW a0 a1 w)) _ _ ho hh p1
 refine Eq.trans (h (fun r s e=>by have q:=congrArg Prod.fst e; rcases r with x | x <;> cases q)) ?_
 unfold gU
 exact aP _ fun x=>by rcases x with x | x <;> rfl
theorem vY (a0 a1:List Int):Vm.call TT 72 [.sl (cM cI a0),.fn 43 [.ptr [.sl (cM cI a1)] 0]] = (fJ a0 a1).map fun (r:Int)=>.int .i64 r:=by
 refine (bI (show TT 72 = some (.code ⟨2,19,[.tmp 4],aCP,false,false⟩) from rfl) _ rfl rfl).trans ?_
 show bU TT aCP ⟨[(0,.d (.sl (cM cI a0))),(1,.d (.fn 43 [.ptr [.sl (cM cI a1)] 0]))],[]⟩ _ = _
 unfold aCP fJ
 have u:=@tN
 exact n8
theorem mH (a0 a1:List Int):KF TT 72 [.sl (cM cI a0),.fn 43 [.ptr [.sl (cM cI a1)] 0]] (fJ a0 a1) (fun (r:Int)=>dI r):=kF (vY a0 a1) (fun _=>rfl) (fun _=>rfl)
abbrev rO (a0:List Int) (p1 p2:Int):St:=⟨[(3,dI p1),(9,.d (.sl (cM cI a0))),(10,dI (a0.length:Int)),(11,dI p2)],[]⟩
theorem IJ (a0:List Int) (p1 p2:Int):bU TT nA (rO a0 p1 p2) (fun e s=>some (e,s)) = cJ (fun (w:Int × Int)=>rO a0 w.1 w.2) (fun (r:Int ⊕ Unit)=>Sum.elim (fun (z:Int)=>(((.exit 0),⟨[(3,dI z)],[]⟩):Ex × St)) (fun (z:Unit)=>((.ret,⟨[(2,dI 0)],[]⟩):Ex × St)) r) (nK a0 p1 p2):=by
 unfold nA nK
 exact IA
theorem HE {β:Type} (a0:List Int) (p1 p2:Int) (k:Ex->St->Option β):bU TT yN (rO a0 p1 p2) k = (u5 a0 p1 p2).bind (fun (r:Int ⊕ Unit)=>Sum.elim (fun (z:Int)=>k (.exit 0) ⟨[(3,dI z)],[]⟩) (fun (z:Unit)=>k .ret ⟨[(2,dI 0)],[]⟩) r):=by
 have hh:=fun (w:Int × Int)=>IJ a0 w.1 w.2
 have h:=fun ho=>bA (T:=TT) (k:=k) (c:=nA) (step:=(fun (w:Int × Int)=>nK a0 w.1 w.2)) _ _ ho hh (p1,p2)
 refine Eq.trans (h (fun r s e=>by have q:=congrArg Prod.fst e; rcases r with x | x <;> cases q)) ?_
 unfold u5
 exact aP _ fun x=>by rcases x with x | x <;> rfl
theorem L9 (a0:List Int):Vm.call TT 27 [.sl (cM cI a0)] = (qU a0).map fun (r:Int)=>.int .i64 r:=by
 refine (bI (show TT 27 = some (.code ⟨1,26,[.tmp 2],aOi,false,false⟩) from rfl) _ rfl rfl).trans ?_
 show bU TT aOi ⟨[(0,.d (.sl (cM cI a0)))],[]⟩ _ = _
 unfold aOi qU
 have u:=@HE
 exact n8
theorem wK (a0:List Int):KF TT 27 [.sl (cM cI a0)] (qU a0) (fun (r:Int)=>dI r):=kF (L9 a0) (fun _=>rfl) (fun _=>rfl)
theorem vI (a0:List Int):Vm.call TT 49 [.sl (cM cI a0)] = (gJ a0).map fun (r:(List Int))=>.own (.ref 0) [(3,1)] [cM cI r]:=by
 refine (N1 (show TT 49 = some (.told o49) from rfl) _ rfl).trans ?_
 have h1:sized 1 (cM cI a0) = true:=kY _ _ (fun x=>by rfl) a0
 have h2:J8 (cM cI a0) = true:=XA _ _ (fun x=>rfl)
 have h3:(cM cI a0).length = a0.length:=List.length_map ..
 simp only [o49,NW,h1,h2,h3,true_and,gJ]
 split <;> rfl
theorem GT (a0:Int) (a1:List Int):Vm.call TT 77 [.int .i64 a0,.ptr [.sl (cM cI a1)] 0] = (oC a0 a1).map fun (r:Bool)=>.bool r:=by
 refine (bI (show TT 77 = some (.code ⟨2,8,[.tmp 3],aPG,false,false⟩) from rfl) _ rfl rfl).trans ?_
 show bU TT aPG ⟨[(0,dI a0),(1,.d (.ptr [.sl (cM cI a1)] 0))],[]⟩ _ = _
 unfold aPG oC
 have u:=@mA
 exact n8
theorem GN (a0:Int) (a1:List Int):KF TT 77 [.int .i64 a0,.ptr [.sl (cM cI a1)] 0] (oC a0 a1) (fun (r:Bool)=>dB r):=kF (GT a0 a1) (fun _=>rfl) (fun _=>rfl)
abbrev gE (a0 a1:List Int) (p1:Int):St:=⟨[(0,.d (.sl (cM cI a0))),(1,.d (.fn 77 [.ptr [.sl (cM cI a1)] 0])),(7,dI (a0.length:Int)),(8,dI p1)],[]⟩
theorem tG (a0 a1:List Int) (p1:Int):bU TT bV (gE a0 a1 p1) (fun e s=>some (e,s)) = cJ (fun (w:Int)=>gE a0 a1 w) (fun (r:Unit ⊕ Int)=>Sum.elim (fun (z:Unit)=>(((.exit 0),⟨[],[]⟩):Ex × St)) (fun (z:Int)=>((.ret,⟨[(4,dI z)],[]⟩):Ex × St)) r) (dY a0 a1 p1):=by
 unfold bV dY
 have u:=@GN
 exact n8
theorem sX {β:Type} (a0 a1:List Int) (p1:Int) (k:Ex->St->Option β):bU TT iH (gE a0 a1 p1) k = (gY a0 a1 p1).bind (fun (r:Unit ⊕ Int)=>Sum.elim (fun (z:Unit)=>k (.exit 0) ⟨[],[]⟩) (fun (z:Int)=>k .ret ⟨[(4,dI z)],[]⟩) r):=by
 have hh:=fun (w:Int)=>tG a0 a1 w
 have h:=fun ho=>bA (T:=TT) (k:=k) (c:=bV) (step:=(fun (w:Int)=>dY a0 a1 w)) _ _ ho hh p1
 refine Eq.trans (h (fun r s e=>by have q:=congrArg Prod.fst e; rcases r with x | x <;> cases q)) ?_
 unfold gY
 exact aP _ fun x=>by rcases x with x | x <;> rfl
theorem vX (a0 a1:List Int):Vm.call TT 72 [.sl (cM cI a0),.fn 77 [.ptr [.sl (cM cI a1)] 0]] = (fI a0 a1).map fun (r:Int)=>.int .i64 r:=by
 refine (bI (show TT 72 = some (.code ⟨2,19,[.tmp 4],aCP,false,false⟩) from rfl) _ rfl rfl).trans ?_
 show bU TT aCP ⟨[(0,.d (.sl (cM cI a0))),(1,.d (.fn 77 [.ptr [.sl (cM cI a1)] 0]))],[]⟩ _ = _
 unfold aCP fI
 have u:=@sX
 exact n8
theorem vV (a0 a1:List Int):KF TT 72 [.sl (cM cI a0),.fn 77 [.ptr [.sl (cM cI a1)] 0]] (fI a0 a1) (fun (r:Int)=>dI r):=kF (vX a0 a1) (fun _=>rfl) (fun _=>rfl)
theorem sY (a0 a1:List Int):Vm.call TT 76 [.sl (cM cI a0),.fn 77 [.ptr [.sl (cM cI a1)] 0]] = (eR a0 a1).map fun (r:Bool)=>.bool r:=by
 refine (bI (show TT 76 = some (.code ⟨2,9,[.tmp 4],aN4,false,false⟩) from rfl) _ rfl rfl).trans ?_
 show bU TT aN4 ⟨[(0,.d (.sl (cM cI a0))),(1,.d (.fn 77 [.ptr [.sl (cM cI a1)] 0]))],[]⟩ _ = _
 unfold aN4 eR
 have u:=@vV
 exact n8
theorem sU (a0 a1:List Int):KF TT 76 [.sl (cM cI a0),.fn 77 [.ptr [.sl (cM cI a1)] 0]] (eR a0 a1) (fun (r:Bool)=>dB r):=kF (sY a0 a1) (fun _=>rfl) (fun _=>rfl)
theorem NI (a0 a1:List Int):Vm.call TT 48 [.sl (cM cI a0),.sl (cM cI a1)] = (wW a0 a1).map fun (r:Bool)=>.bool r:=by
 refine (bI (show TT 48 = some (.code ⟨2,9,[.tmp 4],aMT,false,false⟩) from rfl) _ rfl rfl).trans ?_
 show bU TT aMT ⟨[(0,.d (.sl (cM cI a0))),(1,.d (.sl (cM cI a1)))],[]⟩ _ = _
 unfold aMT wW
 have u:=@sU
 exact n8
theorem N4 (a0 a1:List Int):KF TT 48 [.sl (cM cI a0),.sl (cM cI a1)] (wW a0 a1) (fun (r:Bool)=>dB r):=kF (NI a0 a1) (fun _=>rfl) (fun _=>rfl)
end Go.Proofs.Ytgjcnbgfaimepaa
