/- The functions of the small machine compute the plain definitions. Printed by a program. -/
import Derived.Test.YtgjcnbgfaimepaaLnk2
set_option linter.unusedVariables false
set_option linter.unusedSimpArgs false
namespace Go.Proofs.Ytgjcnbgfaimepaa
open Vm
open Go.RowKit
set_option maxRecDepth 100000
set_option maxHeartbeats 4000000
attribute [local congr] yJ AO yW A1
theorem G6 {β:Type} (a0:Int) (a1:List aH) (r8:(List Int)) (bl:List (Nat × Option aI)) (k:V->Option β) (kw:V->List (Nat × Option aI)->Option β):xU TT 38 bl 62 [.int .i64 a0,.sl (cM aH.cells a1),.sl (cM cI r8)] k kw = (eY a0 a1 r8).bind fun (r:(List Int))=>bG bl 100038 fun b=>gC b (kw (.own 100038 0) ((100038,some (.rows 0 3 1 (cM cI r))) :: [])):=sK (xA a0 a1 r8) (fun _=>(pQ rfl (wJ (pL _ (fun _=>rfl) _) rfl)))
theorem IJ {β:Type} (a0:Int) (a1:List aH) (r14:(List Int)) (bl:List (Nat × Option aI)) (k:V->Option β) (kw:V->List (Nat × Option aI)->Option β):xU TT 55 bl 62 [.int .i64 a0,.sl (cM aH.cells a1),.sl (cM cI r14)] k kw = (eY a0 a1 r14).bind fun (r:(List Int))=>bG bl 100055 fun b=>gC b (kw (.own 100055 0) ((100055,some (.rows 0 3 1 (cM cI r))) :: [])):=sK (xA a0 a1 r14) (fun _=>(pQ rfl (wJ (pL _ (fun _=>rfl) _) rfl)))
theorem HP {β:Type} (a0:Int) (a1:List aH) (r7:(List Int)) (bl:List (Nat × Option aI)) (kw:V->List (Nat × Option aI)->Option β):OW TT bl 61 17 0 [.int .i64 a0,.sl (cM aH.cells a1),.own (.ref 0) [(3,1)] [cM cI r7]] kw = (kP a0 a1 r7).bind fun (r:(List Int))=>bG bl 17 fun b=>KH 0 3 1 (cM cI r) b fun b2=>kw (.tup []) [(17,b2)]:=JH (JT a0 a1 r7) (fun _=>rfl) (fun _=>pL _ (fun _=>rfl) _) 17 0
theorem HO {β:Type} (a0:Int) (a1:List aH) (p10:Int) (p11:List Int) (r9:(List Int)) (bl:List (Nat × Option aI)) (kw:V->List (Nat × Option aI)->Option β):OW TT bl 63 17 0 [.int .i64 a0,.sl (cM aH.cells a1),.own (.ref 0) [(3,1)] [cM cI p11],.sl (cM cI r9),.int .i64 p10] kw = (m8 a0 a1 p11 r9 p10).bind fun (r:(List Int))=>bG bl 17 fun b=>KH 0 3 1 (cM cI r) b fun b2=>kw (.tup []) [(17,b2)]:=JH (MN a0 a1 p11 r9 p10) (fun _=>rfl) (fun _=>pL _ (fun _=>rfl) _) 17 0
abbrev rZ (a0:Int) (a1:List aH) (p2:Int) (p3:List Int):St:=⟨[(0,dI a0),(1,.d (.sl (cM aH.cells a1))),(4,.own 17 0),(18,.d (.sl (cM aH.cells a1))),(19,dI (a1.length:Int)),(20,dI p2)],[(17,some (.rows 0 3 1 (cM cI p3)))]⟩
theorem G2 (a0:Int) (a1:List aH) (p2:Int) (p3:List Int):b6 TT nR (rZ a0 a1 p2 p3) (fun e s=>some (e,s)) = cU (fun (w:Int × (List Int))=>rZ a0 a1 w.1 w.2) (fun (r:(List Int))=>(((.exit 0),⟨[(0,dI a0),(1,.d (.sl (cM aH.cells a1))),(4,.own 17 0)],[(17,some (.rows 0 3 1 (cM cI r)))]⟩):Ex × St)) (dF a0 a1 p2 p3):=by
 unfold nR dF
 exact J9
theorem HX {β:Type} (a0:Int) (a1:List aH) (p2:Int) (p3:List Int) (k:Ex->St->Option β):b6 TT yU (rZ a0 a1 p2 p3) k = (mC a0 a1 p2 p3).bind (fun (r:(List Int))=>k (.exit 0) ⟨[(0,dI a0),(1,.d (.sl (cM aH.cells a1))),(4,.own 17 0)],[(17,some (.rows 0 3 1 (cM cI r)))]⟩):=by
 have hh:=fun (w:Int × (List Int))=>G2 a0 a1 w.1 w.2
 have h:=fun ho=>bE (T:=TT) (k:=k) (c:=nR) (step:=(fun (w:Int × (List Int))=>dF a0 a1 w.1 w.2)) _ _ ho hh (p2,p3)
 refine Eq.trans (h (fun r s e=>by have q:=congrArg Prod.fst e; rcases r with x <;> cases q)) ?_
 unfold mC
 exact aM _ fun x=>by rcases x with x <;> rfl
abbrev rP (a0:Int) (a1:List aH) (r9:(List Int)) (p10:Int) (p11:List Int):St:=⟨[(0,dI a0),(1,.d (.sl (cM aH.cells a1))),(4,.own 17 0),(9,.own 100038 0),(40,dI (a1.length:Int)),(41,dI p10)],[(17,some (.rows 0 3 1 (cM cI p11))),(100038,some (.rows 0 3 1 (cM cI r9)))]⟩
theorem GW (a0:Int) (a1:List aH) (r9:(List Int)) (p10:Int) (p11:List Int):b6 TT nL (rP a0 a1 r9 p10 p11) (fun e s=>some (e,s)) = cU (fun (w:Int × (List Int))=>rP a0 a1 r9 w.1 w.2) (fun (r:(List Int))=>(((.exit 2),⟨[(0,dI a0),(1,.d (.sl (cM aH.cells a1))),(4,.own 17 0)],[(17,some (.rows 0 3 1 (cM cI r)))]⟩):Ex × St)) (dQ a0 a1 r9 p10 p11):=by
 unfold nL dQ
 have u:=@HO
 exact oT
theorem GY {β:Type} (a0:Int) (a1:List aH) (r9:(List Int)) (p10:Int) (p11:List Int) (k:Ex->St->Option β):b6 TT yO (rP a0 a1 r9 p10 p11) k = (mD a0 a1 r9 p10 p11).bind (fun (r:(List Int))=>k (.exit 2) ⟨[(0,dI a0),(1,.d (.sl (cM aH.cells a1))),(4,.own 17 0)],[(17,some (.rows 0 3 1 (cM cI r)))]⟩):=by
 have hh:=fun (w:Int × (List Int))=>GW a0 a1 r9 w.1 w.2
 have h:=fun ho=>bE (T:=TT) (k:=k) (c:=nL) (step:=(fun (w:Int × (List Int))=>dQ a0 a1 r9 w.1 w.2)) _ _ ho hh (p10,p11)
 refine Eq.trans (h (fun r s e=>by have q:=congrArg Prod.fst e; rcases r with x <;> cases q)) ?_
 unfold mD
 exact aM _ fun x=>by rcases x with x <;> rfl
theorem MQ (a0:Int) (a1:List aH):Vm.call TT 25 [.int .i64 a0,.sl (cM aH.cells a1)] = (kV a0 a1).map fun (r:(List Int) × (List Int) × Int)=>.tup [.sl (cM cI r.1),.sl (cM cI r.2.1),.int .i64 r.2.2]:=by
 refine (bQ (show TT 25 = some (.code ⟨2,56,[.tmp 4,.tmp 5,.tmp 6],aOE,false,false⟩) from rfl) _ rfl rfl).trans ?_
 show b6 TT aOE ⟨[(0,dI a0),(1,.d (.sl (cM aH.cells a1)))],[]⟩ _ = _
 unfold aOE kV
 have u:=aN (aN @HX (aN @GY @B9)) (aN @G6 (aN @IJ @HP))
 exact oT
theorem MX (a0:Int) (a1:List aH):KD TT 25 [.int .i64 a0,.sl (cM aH.cells a1)] (kV a0 a1) (fun (r:(List Int) × (List Int) × Int)=>.tup [.d (.sl (cM cI r.1)),.d (.sl (cM cI r.2.1)),dI r.2.2]):=kD (MQ a0 a1) (fun _=>rfl) (fun _=>rfl) (fun _=>rfl)
abbrev wY (a0:Int) (a1:List aE) (a2:List Int) (p1:Int) (p2:List aH) (p3:List Int):St:=⟨[(0,dI a0),(1,.d (.sl (cM aE.cells a1))),(2,.d (.sl (cM cI a2))),(8,.own 30 0),(9,.own 34 0),(16,.d (.sl (cM aE.cells a1))),(17,dI (a1.length:Int)),(18,dI p1)],[(30,some (.rows 0 54 3 (cM aH.cells p2))),(34,some (.rows 0 3 1 (cM cI p3)))]⟩
theorem L0 (a0:Int) (a1:List aE) (a2:List Int) (p1:Int) (p2:List aH) (p3:List Int):b6 TT rI (wY a0 a1 a2 p1 p2 p3) (fun e s=>some (e,s)) = cU (fun (w:Int × (List aH) × (List Int))=>wY a0 a1 a2 w.1 w.2.1 w.2.2) (fun (r:(List aH) × (List Int))=>(((.exit 0),⟨[(0,dI a0),(1,.d (.sl (cM aE.cells a1))),(8,.own 30 0),(9,.own 34 0)],[(30,some (.rows 0 54 3 (cM aH.cells r.1))),(34,some (.rows 0 3 1 (cM cI r.2)))]⟩):Ex × St)) (eU a0 a1 a2 p1 p2 p3):=by
 unfold rI eU
 have u:=aN @J8 @HI
 exact oT
theorem LV {β:Type} (a0:Int) (a1:List aE) (a2:List Int) (p1:Int) (p2:List aH) (p3:List Int) (k:Ex->St->Option β):b6 TT B8 (wY a0 a1 a2 p1 p2 p3) k = (qV a0 a1 a2 p1 p2 p3).bind (fun (r:(List aH) × (List Int))=>k (.exit 0) ⟨[(0,dI a0),(1,.d (.sl (cM aE.cells a1))),(8,.own 30 0),(9,.own 34 0)],[(30,some (.rows 0 54 3 (cM aH.cells r.1))),(34,some (.rows 0 3 1 (cM cI r.2)))]⟩):=by
 have hh:=fun (w:Int × (List aH) × (List Int))=>L0 a0 a1 a2 w.1 w.2.1 w.2.2
 have h:=fun ho=>bE (T:=TT) (k:=k) (c:=rI) (step:=(fun (w:Int × (List aH) × (List Int))=>eU a0 a1 a2 w.1 w.2.1 w.2.2)) _ _ ho hh (p1,p2,p3)
 refine Eq.trans (h (fun r s e=>by have q:=congrArg Prod.fst e; rcases r with x <;> cases q)) ?_
 unfold qV
 exact aM _ fun x=>by rcases x with x <;> rfl
abbrev wZ (r10:(List Int) × (List Int) × Int) (r9:(List aH) × (List Int)) (p11:Int) (p12:List Int):St:=⟨[(6,.own 45 0),(7,.d (.sl (cM cI r10.2.1))),(9,.own 34 0),(46,.d (.sl (cM cI r10.1))),(47,dI (r10.1.length:Int)),(48,dI p11)],[(34,some (.rows 0 3 1 (cM cI r9.2))),(45,some (.rows 0 3 1 (cM cI p12)))]⟩
theorem M5 (r10:(List Int) × (List Int) × Int) (r9:(List aH) × (List Int)) (p11:Int) (p12:List Int):b6 TT rK (wZ r10 r9 p11 p12) (fun e s=>some (e,s)) = cU (fun (w:Int × (List Int))=>wZ r10 r9 w.1 w.2) (fun (r:(List Int))=>(((.exit 2),⟨[(6,.own 45 0),(7,.d (.sl (cM cI r10.2.1)))],[(45,some (.rows 0 3 1 (cM cI r)))]⟩):Ex × St)) (fM r10 r9 p11 p12):=by
 unfold rK fM
 exact J9
theorem MP {β:Type} (r10:(List Int) × (List Int) × Int) (r9:(List aH) × (List Int)) (p11:Int) (p12:List Int) (k:Ex->St->Option β):b6 TT B7 (wZ r10 r9 p11 p12) k = (qS r10 r9 p11 p12).bind (fun (r:(List Int))=>k (.exit 2) ⟨[(6,.own 45 0),(7,.d (.sl (cM cI r10.2.1)))],[(45,some (.rows 0 3 1 (cM cI r)))]⟩):=by
 have hh:=fun (w:Int × (List Int))=>M5 r10 r9 w.1 w.2
 have h:=fun ho=>bE (T:=TT) (k:=k) (c:=rK) (step:=(fun (w:Int × (List Int))=>fM r10 r9 w.1 w.2)) _ _ ho hh (p11,p12)
 refine Eq.trans (h (fun r s e=>by have q:=congrArg Prod.fst e; rcases r with x <;> cases q)) ?_
 unfold qS
 exact aM _ fun x=>by rcases x with x <;> rfl
theorem Q2 (a0:Int) (a1:List aE) (a2:List Int):Vm.call TT 38 [.int .i64 a0,.sl (cM aE.cells a1),.sl (cM cI a2)] = (j0 a0 a1 a2).map fun (r:(List Int) × (List Int))=>.tup [.sl (cM cI r.1),.sl (cM cI r.2)]:=by
 refine (bQ (show TT 38 = some (.code ⟨3,63,[.tmp 6,.tmp 7],aNp,false,false⟩) from rfl) _ rfl rfl).trans ?_
 show b6 TT aNp ⟨[(0,dI a0),(1,.d (.sl (cM aE.cells a1))),(2,.d (.sl (cM cI a2)))],[]⟩ _ = _
 unfold aNp j0
 have u:=aN @LV (aN @MP @MX)
 exact oT
theorem wU (a0:Int) (a1:List aE) (a2:List Int):KD TT 38 [.int .i64 a0,.sl (cM aE.cells a1),.sl (cM cI a2)] (j0 a0 a1 a2) (fun (r:(List Int) × (List Int))=>.tup [.d (.sl (cM cI r.1)),.d (.sl (cM cI r.2))]):=kD (Q2 a0 a1 a2) (fun _=>rfl) (fun _=>rfl) (fun _=>rfl)
theorem GF (a0:Int) (a1:List aE) (a2:List Int):Vm.call TT 10 [.int .i64 a0,.sl (cM aE.cells a1),.sl (cM cI a2)] = (cQ a0 a1 a2).map fun (r:(List Int) × (List Int) × Int)=>.tup [.sl (cM cI r.1),.sl (cM cI r.2.1),.int .i64 r.2.2]:=by
 refine (bQ (show TT 10 = some (.code ⟨3,27,[.tmp 6,.tmp 7,.tmp 8],aOY,false,false⟩) from rfl) _ rfl rfl).trans ?_
 show b6 TT aOY ⟨[(0,dI a0),(1,.d (.sl (cM aE.cells a1))),(2,.d (.sl (cM cI a2)))],[]⟩ _ = _
 unfold aOY cQ
 have u:=aN @uN (aN @zT @wU)
 exact oT
theorem uL (a0:Int) (a1:List aE) (a2:List Int):KD TT 10 [.int .i64 a0,.sl (cM aE.cells a1),.sl (cM cI a2)] (cQ a0 a1 a2) (fun (r:(List Int) × (List Int) × Int)=>.tup [.d (.sl (cM cI r.1)),.d (.sl (cM cI r.2.1)),dI r.2.2]):=kD (GF a0 a1 a2) (fun _=>rfl) (fun _=>rfl) (fun _=>rfl)
abbrev tF (a0:List aE) (p1:Int) (x3:aE) (p4:Int) (p5:List Int):St:=⟨[(3,.own 25 0),(8,.d (.sl (cM aE.cells a0))),(9,dI (a0.length:Int)),(10,dI p1),(15,.d (.sl (cM aJ.cells x3.Rights))),(16,dI (x3.Rights.length:Int)),(17,dI p4)],[(25,some (.rows 0 3 1 (cM cI p5)))]⟩
theorem JU (a0:List aE) (p1:Int) (x3:aE) (p4:Int) (p5:List Int):b6 TT oA (tF a0 p1 x3 p4 p5) (fun e s=>some (e,s)) = cU (fun (w:Int × (List Int))=>tF a0 p1 x3 w.1 w.2) (fun (r:(List Int))=>(((.exit 2),⟨[(3,.own 25 0),(8,.d (.sl (cM aE.cells a0))),(9,dI (a0.length:Int)),(10,dI p1)],[(25,some (.rows 0 3 1 (cM cI r)))]⟩):Ex × St)) (eJ a0 p1 x3 p4 p5):=by
 unfold oA eJ
 exact J9
theorem JN {β:Type} (a0:List aE) (p1:Int) (x3:aE) (p4:Int) (p5:List Int) (k:Ex->St->Option β):b6 TT AD (tF a0 p1 x3 p4 p5) k = (m9 a0 p1 x3 p4 p5).bind (fun (r:(List Int))=>k (.exit 2) ⟨[(3,.own 25 0),(8,.d (.sl (cM aE.cells a0))),(9,dI (a0.length:Int)),(10,dI p1)],[(25,some (.rows 0 3 1 (cM cI r)))]⟩):=by
 have hh:=fun (w:Int × (List Int))=>JU a0 p1 x3 w.1 w.2
 have h:=fun ho=>bE (T:=TT) (k:=k) (c:=oA) (step:=(fun (w:Int × (List Int))=>eJ a0 p1 x3 w.1 w.2)) _ _ ho hh (p4,p5)
 refine Eq.trans (h (fun r s e=>by have q:=congrArg Prod.fst e; rcases r with x <;> cases q)) ?_
 unfold m9
 exact aM _ fun x=>by rcases x with x <;> rfl
abbrev s0 (a0:List aE) (p1:Int) (p2:List Int):St:=⟨[(3,.own 25 0),(8,.d (.sl (cM aE.cells a0))),(9,dI (a0.length:Int)),(10,dI p1)],[(25,some (.rows 0 3 1 (cM cI p2)))]⟩
theorem J3 (a0:List aE) (p1:Int) (p2:List Int):b6 TT oC (s0 a0 p1 p2) (fun e s=>some (e,s)) = cU (fun (w:Int × (List Int))=>s0 a0 w.1 w.2) (fun (r:(List Int))=>(((.exit 0),⟨[(3,.own 25 0)],[(25,some (.rows 0 3 1 (cM cI r)))]⟩):Ex × St)) (eH a0 p1 p2):=by
 unfold oC eH
 have u:=@JN
 exact oT
theorem JX {β:Type} (a0:List aE) (p1:Int) (p2:List Int) (k:Ex->St->Option β):b6 TT AB (s0 a0 p1 p2) k = (nN a0 p1 p2).bind (fun (r:(List Int))=>k (.exit 0) ⟨[(3,.own 25 0)],[(25,some (.rows 0 3 1 (cM cI r)))]⟩):=by
 have hh:=fun (w:Int × (List Int))=>J3 a0 w.1 w.2
 have h:=fun ho=>bE (T:=TT) (k:=k) (c:=oC) (step:=(fun (w:Int × (List Int))=>eH a0 w.1 w.2)) _ _ ho hh (p1,p2)
 refine Eq.trans (h (fun r s e=>by have q:=congrArg Prod.fst e; rcases r with x <;> cases q)) ?_
 unfold nN
 exact aM _ fun x=>by rcases x with x <;> rfl
theorem xZ (a0:List aE):Vm.call TT 21 [.sl (cM aE.cells a0)] = (gZ a0).map fun (r:(List Int))=>.own (.ref 0) [(3,1)] [cM cI r]:=by
 refine (LX (show TT 21 = some (.code ⟨1,32,[.tmp 2],aPA,true,false⟩) from rfl) _ rfl rfl).trans ?_
 show b6 TT aPA ⟨[(0,.d (.sl (cM aE.cells a0)))],[]⟩ _ = _
 unfold aPA gZ
 have u:=@JX
 exact oT
theorem GZ (a0:Int) (a1:List Int):Vm.call TT 43 [.int .i64 a0,.ptr [.sl (cM cI a1)] 0] = (iB a0 a1).map fun (r:Bool)=>.bool r:=by
 refine (bQ (show TT 43 = some (.code ⟨2,7,[.tmp 3],aPX,false,false⟩) from rfl) _ rfl rfl).trans ?_
 show b6 TT aPX ⟨[(0,dI a0),(1,.d (.ptr [.sl (cM cI a1)] 0))],[]⟩ _ = _
 unfold aPX iB
 have u:=@mH
 exact oT
theorem yT (a0:Int) (a1:List Int):KF TT 43 [.int .i64 a0,.ptr [.sl (cM cI a1)] 0] (iB a0 a1) (fun (r:Bool)=>dB r):=kF (GZ a0 a1) (fun _=>rfl) (fun _=>rfl)
abbrev gS (a0 a1:List Int) (p1:Int):St:=⟨[(0,.d (.sl (cM cI a0))),(1,.d (.fn 43 [.ptr [.sl (cM cI a1)] 0])),(7,dI (a0.length:Int)),(8,dI p1)],[]⟩
theorem tV (a0 a1:List Int) (p1:Int):b6 TT bW (gS a0 a1 p1) (fun e s=>some (e,s)) = cU (fun (w:Int)=>gS a0 a1 w) (fun (r:Unit ⊕ Int)=>Sum.elim (fun (z:Unit)=>(((.exit 0),⟨[],[]⟩):Ex × St)) (fun (z:Int)=>((.ret,⟨[(4,dI z)],[]⟩):Ex × St)) r) (a8 a0 a1 p1):=by
 unfold bW a8
 have u:=@yT
 exact oT
theorem tX {β:Type} (a0 a1:List Int) (p1:Int) (k:Ex->St->Option β):b6 TT iT (gS a0 a1 p1) k = (e9 a0 a1 p1).bind (fun (r:Unit ⊕ Int)=>Sum.elim (fun (z:Unit)=>k (.exit 0) ⟨[],[]⟩) (fun (z:Int)=>k .ret ⟨[(4,dI z)],[]⟩) r):=by
 have hh:=fun (w:Int)=>tV a0 a1 w
 have h:=fun ho=>bE (T:=TT) (k:=k) (c:=bW) (step:=(fun (w:Int)=>a8 a0 a1 w)) _ _ ho hh p1
 refine Eq.trans (h (fun r s e=>by have q:=congrArg Prod.fst e; rcases r with x | x <;> cases q)) ?_
 unfold e9
 exact aM _ fun x=>by rcases x with x | x <;> rfl
theorem wD (a0 a1:List Int):Vm.call TT 72 [.sl (cM cI a0),.fn 43 [.ptr [.sl (cM cI a1)] 0]] = (b8 a0 a1).map fun (r:Int)=>.int .i64 r:=by
 refine (bQ (show TT 72 = some (.code ⟨2,19,[.tmp 4],aDa,false,false⟩) from rfl) _ rfl rfl).trans ?_
 show b6 TT aDa ⟨[(0,.d (.sl (cM cI a0))),(1,.d (.fn 43 [.ptr [.sl (cM cI a1)] 0]))],[]⟩ _ = _
 unfold aDa b8
 have u:=@tX
 exact oT
theorem mT (a0 a1:List Int):KF TT 72 [.sl (cM cI a0),.fn 43 [.ptr [.sl (cM cI a1)] 0]] (b8 a0 a1) (fun (r:Int)=>dI r):=kF (wD a0 a1) (fun _=>rfl) (fun _=>rfl)
abbrev rR (a0:List Int) (p1 p2:Int):St:=⟨[(3,dI p1),(9,.d (.sl (cM cI a0))),(10,dI (a0.length:Int)),(11,dI p2)],[]⟩
theorem H6 (a0:List Int) (p1 p2:Int):b6 TT nM (rR a0 p1 p2) (fun e s=>some (e,s)) = cU (fun (w:Int × Int)=>rR a0 w.1 w.2) (fun (r:Int ⊕ Unit)=>Sum.elim (fun (z:Int)=>(((.exit 0),⟨[(3,dI z)],[]⟩):Ex × St)) (fun (z:Unit)=>((.ret,⟨[(2,dI 0)],[]⟩):Ex × St)) r) (cO a0 p1 p2):=by
 unfold nM cO
 exact J9
theorem HQ {β:Type} (a0:List Int) (p1 p2:Int) (k:Ex->St->Option β):b6 TT yK (rR a0 p1 p2) k = (pT a0 p1 p2).bind (fun (r:Int ⊕ Unit)=>Sum.elim (fun (z:Int)=>k (.exit 0) ⟨[(3,dI z)],[]⟩) (fun (z:Unit)=>k .ret ⟨[(2,dI 0)],[]⟩) r):=by
 have hh:=fun (w:Int × Int)=>H6 a0 w.1 w.2
 have h:=fun ho=>bE (T:=TT) (k:=k) (c:=nM) (step:=(fun (w:Int × Int)=>cO a0 w.1 w.2)) _ _ ho hh (p1,p2)
 refine Eq.trans (h (fun r s e=>by have q:=congrArg Prod.fst e; rcases r with x | x <;> cases q)) ?_
 unfold pT
 exact aM _ fun x=>by rcases x with x | x <;> rfl
theorem MS (a0:List Int):Vm.call TT 27 [.sl (cM cI a0)] = (dN a0).map fun (r:Int)=>.int .i64 r:=by
 refine (bQ (show TT 27 = some (.code ⟨1,26,[.tmp 2],aOi,false,false⟩) from rfl) _ rfl rfl).trans ?_
 show b6 TT aOi ⟨[(0,.d (.sl (cM cI a0)))],[]⟩ _ = _
 unfold aOi dN
 have u:=@HQ
 exact oT
theorem kO (a0:List Int):KF TT 27 [.sl (cM cI a0)] (dN a0) (fun (r:Int)=>dI r):=kF (MS a0) (fun _=>rfl) (fun _=>rfl)
theorem vR (a0:List Int):Vm.call TT 49 [.sl (cM cI a0)] = (eG a0).map fun (r:(List Int))=>.own (.ref 0) [(3,1)] [cM cI r]:=by
 refine (T5 (show TT 49 = some (.told o49) from rfl) _ rfl).trans ?_
 have h1:sized 1 (cM cI a0) = true:=qR _ _ (fun x=>by rfl) a0
 have h2:MY (cM cI a0) = true:=aJy _ _ (fun x=>rfl)
 have h3:(cM cI a0).length = a0.length:=List.length_map ..
 simp only [o49,VX,h1,h2,h3,true_and,eG]
 split <;> rfl
theorem GN (a0:Int) (a1:List Int):Vm.call TT 77 [.int .i64 a0,.ptr [.sl (cM cI a1)] 0] = (k9 a0 a1).map fun (r:Bool)=>.bool r:=by
 refine (bQ (show TT 77 = some (.code ⟨2,8,[.tmp 3],aMS,false,false⟩) from rfl) _ rfl rfl).trans ?_
 show b6 TT aMS ⟨[(0,dI a0),(1,.d (.ptr [.sl (cM cI a1)] 0))],[]⟩ _ = _
 unfold aMS k9
 have u:=@mH
 exact oT
theorem GP (a0:Int) (a1:List Int):KF TT 77 [.int .i64 a0,.ptr [.sl (cM cI a1)] 0] (k9 a0 a1) (fun (r:Bool)=>dB r):=kF (GN a0 a1) (fun _=>rfl) (fun _=>rfl)
abbrev gT (a0 a1:List Int) (p1:Int):St:=⟨[(0,.d (.sl (cM cI a0))),(1,.d (.fn 77 [.ptr [.sl (cM cI a1)] 0])),(7,dI (a0.length:Int)),(8,dI p1)],[]⟩
theorem tN (a0 a1:List Int) (p1:Int):b6 TT bW (gT a0 a1 p1) (fun e s=>some (e,s)) = cU (fun (w:Int)=>gT a0 a1 w) (fun (r:Unit ⊕ Int)=>Sum.elim (fun (z:Unit)=>(((.exit 0),⟨[],[]⟩):Ex × St)) (fun (z:Int)=>((.ret,⟨[(4,dI z)],[]⟩):Ex × St)) r) (bA a0 a1 p1):=by
 unfold bW bA
 have u:=@GP
 exact oT
theorem s8 {β:Type} (a0 a1:List Int) (p1:Int) (k:Ex->St->Option β):b6 TT iT (gT a0 a1 p1) k = (fF a0 a1 p1).bind (fun (r:Unit ⊕ Int)=>Sum.elim (fun (z:Unit)=>k (.exit 0) ⟨[],[]⟩) (fun (z:Int)=>k .ret ⟨[(4,dI z)],[]⟩) r):=by
 have hh:=fun (w:Int)=>tN a0 a1 w
 have h:=fun ho=>bE (T:=TT) (k:=k) (c:=bW) (step:=(fun (w:Int)=>bA a0 a1 w)) _ _ ho hh p1
 refine Eq.trans (h (fun r s e=>by have q:=congrArg Prod.fst e; rcases r with x | x <;> cases q)) ?_
 unfold fF
 exact aM _ fun x=>by rcases x with x | x <;> rfl
theorem wC (a0 a1:List Int):Vm.call TT 72 [.sl (cM cI a0),.fn 77 [.ptr [.sl (cM cI a1)] 0]] = (d9 a0 a1).map fun (r:Int)=>.int .i64 r:=by
 refine (bQ (show TT 72 = some (.code ⟨2,19,[.tmp 4],aDa,false,false⟩) from rfl) _ rfl rfl).trans ?_
 show b6 TT aDa ⟨[(0,.d (.sl (cM cI a0))),(1,.d (.fn 77 [.ptr [.sl (cM cI a1)] 0]))],[]⟩ _ = _
 unfold aDa d9
 have u:=@s8
 exact oT
theorem vZ (a0 a1:List Int):KF TT 72 [.sl (cM cI a0),.fn 77 [.ptr [.sl (cM cI a1)] 0]] (d9 a0 a1) (fun (r:Int)=>dI r):=kF (wC a0 a1) (fun _=>rfl) (fun _=>rfl)
theorem s9 (a0 a1:List Int):Vm.call TT 76 [.sl (cM cI a0),.fn 77 [.ptr [.sl (cM cI a1)] 0]] = (dH a0 a1).map fun (r:Bool)=>.bool r:=by
 refine (bQ (show TT 76 = some (.code ⟨2,9,[.tmp 4],aNS,false,false⟩) from rfl) _ rfl rfl).trans ?_
 show b6 TT aNS ⟨[(0,.d (.sl (cM cI a0))),(1,.d (.fn 77 [.ptr [.sl (cM cI a1)] 0]))],[]⟩ _ = _
 unfold aNS dH
 have u:=@vZ
 exact oT
theorem tQ (a0 a1:List Int):KF TT 76 [.sl (cM cI a0),.fn 77 [.ptr [.sl (cM cI a1)] 0]] (dH a0 a1) (fun (r:Bool)=>dB r):=kF (s9 a0 a1) (fun _=>rfl) (fun _=>rfl)
theorem NE (a0 a1:List Int):Vm.call TT 48 [.sl (cM cI a0),.sl (cM cI a1)] = (pF a0 a1).map fun (r:Bool)=>.bool r:=by
 refine (bQ (show TT 48 = some (.code ⟨2,9,[.tmp 4],aMY,false,false⟩) from rfl) _ rfl rfl).trans ?_
 show b6 TT aMY ⟨[(0,.d (.sl (cM cI a0))),(1,.d (.sl (cM cI a1)))],[]⟩ _ = _
 unfold aMY pF
 have u:=@tQ
 exact oT
theorem NV (a0 a1:List Int):KF TT 48 [.sl (cM cI a0),.sl (cM cI a1)] (pF a0 a1) (fun (r:Bool)=>dB r):=kF (NE a0 a1) (fun _=>rfl) (fun _=>rfl)
end Go.Proofs.Ytgjcnbgfaimepaa
