/- The functions of the small machine compute the plain definitions. Printed by a program. -/
import Derived.Test.YtgjcnbgfaimepaaLnk4
set_option linter.unusedVariables false
set_option linter.unusedSimpArgs false
namespace Go.Proofs.Ytgjcnbgfaimepaa
open Vm
open Go.RowKit
set_option maxRecDepth 100000
set_option maxHeartbeats 4000000
attribute [local congr] yJ AO yW A1
abbrev pZ (a0:List Int) (a1 p1:Int):St:=⟨[(0,.d (.sl (cM cI a0))),(1,dI a1),(5,dI p1)],[]⟩
theorem EZ (a0:List Int) (a1 p1:Int):b6 TT lE (pZ a0 a1 p1) (fun e s=>some (e,s)) = cU (fun (w:Int)=>pZ a0 a1 w) (fun (r:Unit ⊕ Unit)=>Sum.elim (fun (z:Unit)=>(((.exit 0),⟨[],[]⟩):Ex × St)) (fun (z:Unit)=>((.ret,⟨[(4,dB true)],[]⟩):Ex × St)) r) (bI a0 a1 p1):=by
 unfold lE bI
 exact J9
theorem FX {β:Type} (a0:List Int) (a1 p1:Int) (k:Ex->St->Option β):b6 TT xC (pZ a0 a1 p1) k = (kE a0 a1 p1).bind (fun (r:Unit ⊕ Unit)=>Sum.elim (fun (z:Unit)=>k (.exit 0) ⟨[],[]⟩) (fun (z:Unit)=>k .ret ⟨[(4,dB true)],[]⟩) r):=by
 have hh:=fun (w:Int)=>EZ a0 a1 w
 have h:=fun ho=>bE (T:=TT) (k:=k) (c:=lE) (step:=(fun (w:Int)=>bI a0 a1 w)) _ _ ho hh p1
 refine Eq.trans (h (fun r s e=>by have q:=congrArg Prod.fst e; rcases r with x | x <;> cases q)) ?_
 unfold kE
 exact aM _ fun x=>by rcases x with x | x <;> rfl
theorem JO (a0:List Int) (a1:Int):Vm.call TT 29 [.sl (cM cI a0),.int .i64 a1] = (eR a0 a1).map fun (r:Bool)=>.bool r:=by
 refine (bQ (show TT 29 = some (.code ⟨2,18,[.tmp 4],aNQ,false,false⟩) from rfl) _ rfl rfl).trans ?_
 show b6 TT aNQ ⟨[(0,.d (.sl (cM cI a0))),(1,dI a1)],[]⟩ _ = _
 unfold aNQ eR
 have u:=@FX
 exact oT
theorem AA (a0:List Int) (a1:Int):KF TT 29 [.sl (cM cI a0),.int .i64 a1] (eR a0 a1) (fun (r:Bool)=>dB r):=kF (JO a0 a1) (fun _=>rfl) (fun _=>rfl)
theorem FT {β:Type} (a0:List Int) (a1 p3:Int) (p6:Bool) (p7:List Int) (k:Ex->St->Option β):b6 TT pW ⟨[(0,.d (.sl (cM cI a0))),(1,dI a1),(5,.own 12 0),(6,dB p6),(7,dI p3)],[(12,some (.rows 0 3 1 (cM cI p7)))]⟩ k = (dT a0 a1 p3 p6 p7).bind (fun (r:(List Int))=>k .normal ⟨[(0,.d (.sl (cM cI a0))),(1,dI a1),(5,.own 12 0),(6,dB p6),(7,dI p3)],[(12,some (.rows 0 3 1 (cM cI r)))]⟩):=by
 unfold pW dT
 exact J9
abbrev pY (a0:List Int) (a1:Int) (p2:Bool) (p3:Int) (p4:List Int):St:=⟨[(0,.d (.sl (cM cI a0))),(1,dI a1),(5,.own 12 0),(6,dB p2),(7,dI p3)],[(12,some (.rows 0 3 1 (cM cI p4)))]⟩
theorem FK (a0:List Int) (a1:Int) (p2:Bool) (p3:Int) (p4:List Int):b6 TT lB (pY a0 a1 p2 p3 p4) (fun e s=>some (e,s)) = cU (fun (w:Bool × Int × (List Int))=>pY a0 a1 w.1 w.2.1 w.2.2) (fun (r:Bool × (List Int))=>(((.exit 0),⟨[(1,dI a1),(5,.own 12 0),(6,dB r.1)],[(12,some (.rows 0 3 1 (cM cI r.2)))]⟩):Ex × St)) (aL a0 a1 p2 p3 p4):=by
 unfold lB aL
 have u:=@FT
 exact oT
theorem E0 {β:Type} (a0:List Int) (a1:Int) (p2:Bool) (p3:Int) (p4:List Int) (k:Ex->St->Option β):b6 TT w6 (pY a0 a1 p2 p3 p4) k = (kB a0 a1 p2 p3 p4).bind (fun (r:Bool × (List Int))=>k (.exit 0) ⟨[(1,dI a1),(5,.own 12 0),(6,dB r.1)],[(12,some (.rows 0 3 1 (cM cI r.2)))]⟩):=by
 have hh:=fun (w:Bool × Int × (List Int))=>FK a0 a1 w.1 w.2.1 w.2.2
 have h:=fun ho=>bE (T:=TT) (k:=k) (c:=lB) (step:=(fun (w:Bool × Int × (List Int))=>aL a0 a1 w.1 w.2.1 w.2.2)) _ _ ho hh (p2,p3,p4)
 refine Eq.trans (h (fun r s e=>by have q:=congrArg Prod.fst e; rcases r with x <;> cases q)) ?_
 unfold kB
 exact aM _ fun x=>by rcases x with x <;> rfl
theorem JS (a0:List Int) (a1:Int):Vm.call TT 59 [.sl (cM cI a0),.int .i64 a1] = (gU a0 a1).map fun (r:(List Int))=>.sl (cM cI r):=by
 refine (bQ (show TT 59 = some (.code ⟨2,47,[.tmp 4],aNG,false,false⟩) from rfl) _ rfl rfl).trans ?_
 show b6 TT aNG ⟨[(0,.d (.sl (cM cI a0))),(1,dI a1)],[]⟩ _ = _
 unfold aNG gU
 have u:=aN @E0 @AA
 exact oT
theorem J0 (a0:List Int) (a1:Int):KD TT 59 [.sl (cM cI a0),.int .i64 a1] (gU a0 a1) (fun (r:(List Int))=>.d (.sl (cM cI r))):=kD (JS a0 a1) (fun _=>rfl) (fun _=>rfl) (fun _=>rfl)
abbrev mW (a0:List aE) (p2:Int) (p3:List Int) (p4:Int):St:=⟨[(0,.d (.sl (cM aE.cells a0))),(3,.d (.sl (cM cI p3))),(4,dI p2),(5,dI p4)],[(6,none)]⟩
theorem BP (a0:List aE) (p2:Int) (p3:List Int) (p4:Int):b6 TT jL (mW a0 p2 p3 p4) (fun e s=>some (e,s)) = cU (fun (w:(List Int) × Int)=>mW a0 p2 w.1 w.2) (fun (r:(List Int))=>(((.exit 2),⟨[(0,.d (.sl (cM aE.cells a0))),(3,.d (.sl (cM cI r))),(4,dI p2)],[(6,none)]⟩):Ex × St)) (aZ a0 p2 p3 p4):=by
 unfold jL aZ
 have u:=@J0
 exact oT
theorem B1 {β:Type} (a0:List aE) (p2:Int) (p3:List Int) (p4:Int) (k:Ex->St->Option β):b6 TT sQ (mW a0 p2 p3 p4) k = (eO a0 p2 p3 p4).bind (fun (r:(List Int))=>k (.exit 2) ⟨[(0,.d (.sl (cM aE.cells a0))),(3,.d (.sl (cM cI r))),(4,dI p2)],[(6,none)]⟩):=by
 have hh:=fun (w:(List Int) × Int)=>BP a0 p2 w.1 w.2
 have h:=fun ho=>bE (T:=TT) (k:=k) (c:=jL) (step:=(fun (w:(List Int) × Int)=>aZ a0 p2 w.1 w.2)) _ _ ho hh (p3,p4)
 refine Eq.trans (h (fun r s e=>by have q:=congrArg Prod.fst e; rcases r with x <;> cases q)) ?_
 unfold eO
 exact aM _ fun x=>by rcases x with x <;> rfl
abbrev mZ (a0:List aE) (p1:List Int) (p2:Int):St:=⟨[(0,.d (.sl (cM aE.cells a0))),(3,.d (.sl (cM cI p1))),(4,dI p2)],[(6,none)]⟩
theorem B2 (a0:List aE) (p1:List Int) (p2:Int):b6 TT jK (mZ a0 p1 p2) (fun e s=>some (e,s)) = cU (fun (w:(List Int) × Int)=>mZ a0 w.1 w.2) (fun (r:(List Int))=>(((.exit 0),⟨[(3,.d (.sl (cM cI r)))],[(6,none)]⟩):Ex × St)) (aU a0 p1 p2):=by
 unfold jK aU
 have u:=@B1
 exact oT
theorem B0 {β:Type} (a0:List aE) (p1:List Int) (p2:Int) (k:Ex->St->Option β):b6 TT sV (mZ a0 p1 p2) k = (iM a0 p1 p2).bind (fun (r:(List Int))=>k (.exit 0) ⟨[(3,.d (.sl (cM cI r)))],[(6,none)]⟩):=by
 have hh:=fun (w:(List Int) × Int)=>B2 a0 w.1 w.2
 have h:=fun ho=>bE (T:=TT) (k:=k) (c:=jK) (step:=(fun (w:(List Int) × Int)=>aU a0 w.1 w.2)) _ _ ho hh (p1,p2)
 refine Eq.trans (h (fun r s e=>by have q:=congrArg Prod.fst e; rcases r with x <;> cases q)) ?_
 unfold iM
 exact aM _ fun x=>by rcases x with x <;> rfl
theorem FD (a0:List aE):Vm.call TT 22 [.sl (cM aE.cells a0)] = (eV a0).map fun (r:(List Int))=>.sl (cM cI r):=by
 refine (bQ (show TT 22 = some (.code ⟨1,35,[.tmp 2],aM8,false,false⟩) from rfl) _ rfl rfl).trans ?_
 show b6 TT aM8 ⟨[(0,.d (.sl (cM aE.cells a0)))],[]⟩ _ = _
 unfold aM8 eV
 have u:=@B0
 exact oT
theorem FO (a0:List aE):KD TT 22 [.sl (cM aE.cells a0)] (eV a0) (fun (r:(List Int))=>.d (.sl (cM cI r))):=kD (FD a0) (fun _=>rfl) (fun _=>rfl) (fun _=>rfl)
abbrev pJ (a0:Int) (a1:List aE) (p1:Int):St:=⟨[(0,dI a0),(1,.d (.sl (cM aE.cells a1))),(5,dI p1)],[]⟩
theorem EH (a0:Int) (a1:List aE) (p1:Int):b6 TT lF (pJ a0 a1 p1) (fun e s=>some (e,s)) = cU (fun (w:Int)=>pJ a0 a1 w) (fun (r:Unit ⊕ Unit)=>Sum.elim (fun (z:Unit)=>(((.exit 0),⟨[(0,dI a0),(1,.d (.sl (cM aE.cells a1)))],[]⟩):Ex × St)) (fun (z:Unit)=>((.ret,⟨[(4,dB false)],[]⟩):Ex × St)) r) (b5 a0 a1 p1):=by
 unfold lF b5
 exact J9
theorem E3 {β:Type} (a0:Int) (a1:List aE) (p1:Int) (k:Ex->St->Option β):b6 TT w9 (pJ a0 a1 p1) k = (kH a0 a1 p1).bind (fun (r:Unit ⊕ Unit)=>Sum.elim (fun (z:Unit)=>k (.exit 0) ⟨[(0,dI a0),(1,.d (.sl (cM aE.cells a1)))],[]⟩) (fun (z:Unit)=>k .ret ⟨[(4,dB false)],[]⟩) r):=by
 have hh:=fun (w:Int)=>EH a0 a1 w
 have h:=fun ho=>bE (T:=TT) (k:=k) (c:=lF) (step:=(fun (w:Int)=>b5 a0 a1 w)) _ _ ho hh p1
 refine Eq.trans (h (fun r s e=>by have q:=congrArg Prod.fst e; rcases r with x | x <;> cases q)) ?_
 unfold kH
 exact aM _ fun x=>by rcases x with x | x <;> rfl
theorem J4 (a0:Int) (a1:List aE):Vm.call TT 9 [.int .i64 a0,.sl (cM aE.cells a1)] = (gV a0 a1).map fun (r:Bool)=>.bool r:=by
 refine (bQ (show TT 9 = some (.code ⟨2,34,[.tmp 4],bd9,false,false⟩) from rfl) _ rfl rfl).trans ?_
 show b6 TT bd9 ⟨[(0,dI a0),(1,.d (.sl (cM aE.cells a1)))],[]⟩ _ = _
 unfold bd9 gV
 have u:=aN (aN @E3 @FO) (aN @HF @JY)
 exact oT
theorem JM (a0:Int) (a1:List aE):KF TT 9 [.int .i64 a0,.sl (cM aE.cells a1)] (gV a0 a1) (fun (r:Bool)=>dB r):=kF (J4 a0 a1) (fun _=>rfl) (fun _=>rfl)
theorem D5 {β:Type} (a0 a1:List Int) (p1:Int) (p3:List Int) (p8:Int) (k:Ex->St->Option β):b6 TT o9 ⟨[(0,.d (.sl (cM cI a0))),(1,.d (.sl (cM cI a1))),(5,.own 8 0),(6,dI p1),(7,dI p8)],[(8,some (.rows 0 3 1 (cM cI p3)))]⟩ k = (fJ a0 a1 p1 p3 p8).bind (fun (r:(List Int))=>k .normal ⟨[(0,.d (.sl (cM cI a0))),(1,.d (.sl (cM cI a1))),(5,.own 8 0),(6,dI (IntKind.wrap .i64 (p1 + 1))),(7,dI p8)],[(8,some (.rows 0 3 1 (cM cI r)))]⟩):=by
 unfold o9 fJ
 exact J9
theorem DH {β:Type} (a0 a1:List Int) (p1 p2:Int) (p3:List Int) (k:Ex->St->Option β):b6 TT oM ⟨[(0,.d (.sl (cM cI a0))),(1,.d (.sl (cM cI a1))),(5,.own 8 0),(6,dI p1),(7,dI p2)],[(8,some (.rows 0 3 1 (cM cI p3)))]⟩ k = (fK a0 a1 p1 p2 p3).bind (fun (r:Int × (List Int))=>k .normal ⟨[(0,.d (.sl (cM cI a0))),(1,.d (.sl (cM cI a1))),(5,.own 8 0),(6,dI (IntKind.wrap .i64 (p1 + 1))),(7,dI r.1)],[(8,some (.rows 0 3 1 (cM cI r.2)))]⟩):=by
 unfold oM fK
 have u:=@D5
 exact oT
theorem DT {β:Type} (a0 a1:List Int) (p1 p2:Int) (p3:List Int) (k:Ex->St->Option β):b6 TT oL ⟨[(0,.d (.sl (cM cI a0))),(1,.d (.sl (cM cI a1))),(5,.own 8 0),(6,dI p1),(7,dI p2)],[(8,some (.rows 0 3 1 (cM cI p3)))]⟩ k = (cC a0 a1 p1 p2 p3).bind (fun (r:Int × Int × (List Int))=>k .normal ⟨[(0,.d (.sl (cM cI a0))),(1,.d (.sl (cM cI a1))),(5,.own 8 0),(6,dI r.1),(7,dI r.2.1)],[(8,some (.rows 0 3 1 (cM cI r.2.2)))]⟩):=by
 unfold oL cC
 have u:=@DH
 exact oT
abbrev oO (a0 a1:List Int) (p1 p2:Int) (p3:List Int):St:=⟨[(0,.d (.sl (cM cI a0))),(1,.d (.sl (cM cI a1))),(5,.own 8 0),(6,dI p1),(7,dI p2)],[(8,some (.rows 0 3 1 (cM cI p3)))]⟩
theorem C9 (a0 a1:List Int) (p1 p2:Int) (p3:List Int):b6 TT kJ (oO a0 a1 p1 p2 p3) (fun e s=>some (e,s)) = cU (fun (w:Int × Int × (List Int))=>oO a0 a1 w.1 w.2.1 w.2.2) (fun (r:(List Int))=>(((.exit 0),⟨[(5,.own 8 0)],[(8,some (.rows 0 3 1 (cM cI r)))]⟩):Ex × St)) (bK a0 a1 p1 p2 p3):=by
 unfold kJ bK
 have u:=@DT
 exact oT
theorem EA {β:Type} (a0 a1:List Int) (p1 p2:Int) (p3:List Int) (k:Ex->St->Option β):b6 TT vL (oO a0 a1 p1 p2 p3) k = (mQ a0 a1 p1 p2 p3).bind (fun (r:(List Int))=>k (.exit 0) ⟨[(5,.own 8 0)],[(8,some (.rows 0 3 1 (cM cI r)))]⟩):=by
 have hh:=fun (w:Int × Int × (List Int))=>C9 a0 a1 w.1 w.2.1 w.2.2
 have h:=fun ho=>bE (T:=TT) (k:=k) (c:=kJ) (step:=(fun (w:Int × Int × (List Int))=>bK a0 a1 w.1 w.2.1 w.2.2)) _ _ ho hh (p1,p2,p3)
 refine Eq.trans (h (fun r s e=>by have q:=congrArg Prod.fst e; rcases r with x <;> cases q)) ?_
 unfold mQ
 exact aM _ fun x=>by rcases x with x <;> rfl
theorem GU (a0 a1:List Int):Vm.call TT 28 [.sl (cM cI a0),.sl (cM cI a1)] = (fD a0 a1).map fun (r:(List Int))=>.sl (cM cI r):=by
 refine (bQ (show TT 28 = some (.code ⟨2,76,[.tmp 4],aOX,false,false⟩) from rfl) _ rfl rfl).trans ?_
 show b6 TT aOX ⟨[(0,.d (.sl (cM cI a0))),(1,.d (.sl (cM cI a1)))],[]⟩ _ = _
 unfold aOX fD
 have u:=@EA
 exact oT
theorem sG (a0 a1:List Int):KD TT 28 [.sl (cM cI a0),.sl (cM cI a1)] (fD a0 a1) (fun (r:(List Int))=>.d (.sl (cM cI r))):=kD (GU a0 a1) (fun _=>rfl) (fun _=>rfl) (fun _=>rfl)
theorem xX {β:Type} (a1:List aE) (bl fz:List (Nat × Option aI)) (k:V->Option β) (kw:V->List (Nat × Option aI)->Option β):xI TT 74 bl 21 [.sl (cM aE.cells a1)] fz k kw = (gZ a1).bind fun (r:(List Int))=>bG bl 100074 fun b=>gC b (kw (.own 100074 0) ((100074,some (.rows 0 3 1 (cM cI r))) :: fz)):=C5 (xZ a1) fz
abbrev jW (a0:Int) (a1:List aE) (a2:List Int) (p7:Int) (r1:Bool) (r3:(List (List Int)) × Int) (r5:Int) (r6:(List Int)) (x8:List Int) (p12:Int):St:=⟨[(0,dI a0),(1,.d (.sl (cM aE.cells a1))),(2,.d (.sl (cM cI a2))),(7,dB r1),(8,.d (.sl (cM (cL cI) r3.1))),(13,dI r5),(14,.own 100074 0),(15,dI p7),(16,.d (.sl (cM cI x8))),(20,dI p12)],[(100074,some (.rows 0 3 1 (cM cI r6)))]⟩
theorem xS (a0:Int) (a1:List aE) (a2:List Int) (p7:Int) (r1:Bool) (r3:(List (List Int)) × Int) (r5:Int) (r6:(List Int)) (x8:List Int) (p12:Int):b6 TT gE (jW a0 a1 a2 p7 r1 r3 r5 r6 x8 p12) (fun e s=>some (e,s)) = cU (fun (w:Int)=>jW a0 a1 a2 p7 r1 r3 r5 r6 x8 w) (fun (r:Unit ⊕ Unit)=>Sum.elim (fun (z:Unit)=>(((.exit 2),⟨[(0,dI a0),(1,.d (.sl (cM aE.cells a1))),(2,.d (.sl (cM cI a2))),(7,dB r1),(8,.d (.sl (cM (cL cI) r3.1))),(13,dI r5),(14,.own 100074 0),(15,dI p7)],[(100074,some (.rows 0 3 1 (cM cI r6)))]⟩):Ex × St)) (fun (z:Unit)=>((.ret,⟨[(6,dB false)],[]⟩):Ex × St)) r) (bO a0 a1 a2 p7 r1 r3 r5 r6 x8 p12):=by
 unfold gE bO
 have u:=aN (aN @uL @kO) (aN @sG @AA)
 exact oT
theorem xW {β:Type} (a0:Int) (a1:List aE) (a2:List Int) (p7:Int) (r1:Bool) (r3:(List (List Int)) × Int) (r5:Int) (r6:(List Int)) (x8:List Int) (p12:Int) (k:Ex->St->Option β):b6 TT oU (jW a0 a1 a2 p7 r1 r3 r5 r6 x8 p12) k = (hJ a0 a1 a2 p7 r1 r3 r5 r6 x8 p12).bind (fun (r:Unit ⊕ Unit)=>Sum.elim (fun (z:Unit)=>k (.exit 2) ⟨[(0,dI a0),(1,.d (.sl (cM aE.cells a1))),(2,.d (.sl (cM cI a2))),(7,dB r1),(8,.d (.sl (cM (cL cI) r3.1))),(13,dI r5),(14,.own 100074 0),(15,dI p7)],[(100074,some (.rows 0 3 1 (cM cI r6)))]⟩) (fun (z:Unit)=>k .ret ⟨[(6,dB false)],[]⟩) r):=by
 have hh:=fun (w:Int)=>xS a0 a1 a2 p7 r1 r3 r5 r6 x8 w
 have h:=fun ho=>bE (T:=TT) (k:=k) (c:=gE) (step:=(fun (w:Int)=>bO a0 a1 a2 p7 r1 r3 r5 r6 x8 w)) _ _ ho hh p12
 refine Eq.trans (h (fun r s e=>by have q:=congrArg Prod.fst e; rcases r with x | x <;> cases q)) ?_
 unfold hJ
 exact aM _ fun x=>by rcases x with x | x <;> rfl
abbrev jX (a0:Int) (a1:List aE) (a2:List Int) (r1:Bool) (r3:(List (List Int)) × Int) (r5:Int) (r6:(List Int)) (p7:Int):St:=⟨[(0,dI a0),(1,.d (.sl (cM aE.cells a1))),(2,.d (.sl (cM cI a2))),(7,dB r1),(8,.d (.sl (cM (cL cI) r3.1))),(13,dI r5),(14,.own 100074 0),(15,dI p7)],[(100074,some (.rows 0 3 1 (cM cI r6)))]⟩
theorem xQ (a0:Int) (a1:List aE) (a2:List Int) (r1:Bool) (r3:(List (List Int)) × Int) (r5:Int) (r6:(List Int)) (p7:Int):b6 TT gH (jX a0 a1 a2 r1 r3 r5 r6 p7) (fun e s=>some (e,s)) = cU (fun (w:Int)=>jX a0 a1 a2 r1 r3 r5 r6 w) (fun (r:Unit ⊕ Unit)=>Sum.elim (fun (z:Unit)=>(((.exit 0),⟨[(0,dI a0),(1,.d (.sl (cM aE.cells a1))),(2,.d (.sl (cM cI a2))),(7,dB r1),(8,.d (.sl (cM (cL cI) r3.1))),(13,dI r5),(14,.own 100074 0)],[(100074,some (.rows 0 3 1 (cM cI r6)))]⟩):Ex × St)) (fun (z:Unit)=>((.ret,⟨[(6,dB false)],[]⟩):Ex × St)) r) (bN a0 a1 a2 r1 r3 r5 r6 p7):=by
 unfold gH bN
 have u:=aN (aN @xW @uL) (aN @kO @sG)
 exact oT
theorem xK {β:Type} (a0:Int) (a1:List aE) (a2:List Int) (r1:Bool) (r3:(List (List Int)) × Int) (r5:Int) (r6:(List Int)) (p7:Int) (k:Ex->St->Option β):b6 TT oG (jX a0 a1 a2 r1 r3 r5 r6 p7) k = (hU a0 a1 a2 r1 r3 r5 r6 p7).bind (fun (r:Unit ⊕ Unit)=>Sum.elim (fun (z:Unit)=>k (.exit 0) ⟨[(0,dI a0),(1,.d (.sl (cM aE.cells a1))),(2,.d (.sl (cM cI a2))),(7,dB r1),(8,.d (.sl (cM (cL cI) r3.1))),(13,dI r5),(14,.own 100074 0)],[(100074,some (.rows 0 3 1 (cM cI r6)))]⟩) (fun (z:Unit)=>k .ret ⟨[(6,dB false)],[]⟩) r):=by
 have hh:=fun (w:Int)=>xQ a0 a1 a2 r1 r3 r5 r6 w
 have h:=fun ho=>bE (T:=TT) (k:=k) (c:=gH) (step:=(fun (w:Int)=>bN a0 a1 a2 r1 r3 r5 r6 w)) _ _ ho hh p7
 refine Eq.trans (h (fun r s e=>by have q:=congrArg Prod.fst e; rcases r with x | x <;> cases q)) ?_
 unfold hU
 exact aM _ fun x=>by rcases x with x | x <;> rfl
theorem AH (a0:Int) (a1:List aE) (a2:List Int):Vm.call TT 5 [.int .i64 a0,.sl (cM aE.cells a1),.sl (cM cI a2)] = (gL a0 a1 a2).map fun (r:Bool)=>.bool r:=by
 refine (bQ (show TT 5 = some (.code ⟨3,184,[.tmp 6],bd5,false,false⟩) from rfl) _ rfl rfl).trans ?_
 show b6 TT bd5 ⟨[(0,dI a0),(1,.d (.sl (cM aE.cells a1))),(2,.d (.sl (cM cI a2)))],[]⟩ _ = _
 unfold bd5 gL
 have u:=aN (aN (aN @xK @GK) (aN @JM @uL)) (aN (aN @F7 @kO) (aN @sG @xX))
 exact oT
end Go.Proofs.Ytgjcnbgfaimepaa
