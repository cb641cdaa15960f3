/- The functions of the small machine compute the plain definitions. Printed by a program. -/
import Derived.Test.YtgjcnbgfaimepaaFn
set_option linter.unusedVariables false
set_option linter.unusedSimpArgs false
namespace Go.Proofs.Ytgjcnbgfaimepaa
open Vm
open Go.RowKit
set_option maxRecDepth 100000
set_option maxHeartbeats 4000000
attribute [local congr] yJ AO yW A1
theorem D9:Vm.call TT 35 [] = (mR).map fun (r:(List aE))=>.sl (cM aE.cells r):=by
 refine (bQ (show TT 35 = some (.code ⟨0,10,[.tmp 0],aNF,false,false⟩) from rfl) _ rfl rfl).trans ?_
 show b6 TT aNF ⟨[],[]⟩ _ = _
 unfold aNF mR
 exact J9
theorem DO:KD TT 35 [] (mR) (fun (r:(List aE))=>.d (.sl (cM aE.cells r))):=kD (D9 ) (fun _=>rfl) (fun _=>rfl) (fun _=>rfl)
theorem TM (a0:aE):Vm.call TT 53 [.agg a0.cells] = (vO a0).map fun (r:aH)=>.agg r.cells:=by
 refine (bQ (show TT 53 = some (.code ⟨1,10,[.cell 2 3 true],aMR,false,false⟩) from rfl) _ rfl rfl).trans ?_
 show b6 TT aMR ⟨[(0,kY a0.cells)],[]⟩ _ = _
 unfold aMR vO
 exact J9
theorem J8 (a0:aE):KF TT 53 [.agg a0.cells] (vO a0) (fun (r:aH)=>kY r.cells):=kF (TM a0) (fun _=>rfl) (fun _=>rfl)
theorem V0 (a0 a1:Int):Vm.call TT 54 [.int .i64 a0,.int .i64 a1] = (nX a0 a1).map fun (r:Bool)=>.bool r:=by
 refine (bQ (show TT 54 = some (.code ⟨2,12,[.tmp 4],aPH,false,false⟩) from rfl) _ rfl rfl).trans ?_
 show b6 TT aPH ⟨[(0,dI a0),(1,dI a1)],[]⟩ _ = _
 unfold aPH nX
 exact J9
theorem LT (a0 a1:Int):KF TT 54 [.int .i64 a0,.int .i64 a1] (nX a0 a1) (fun (r:Bool)=>dB r):=kF (V0 a0 a1) (fun _=>rfl) (fun _=>rfl)
abbrev rW (a0:Int) (a1:List aH) (p1:Int):St:=⟨[(0,dI a0),(18,.d (.sl (cM aH.cells a1))),(19,dI (a1.length:Int)),(20,dI p1)],[]⟩
theorem HE (a0:Int) (a1:List aH) (p1:Int):b6 TT nH (rW a0 a1 p1) (fun e s=>some (e,s)) = cU (fun (w:Int)=>rW a0 a1 w) (fun (r:Unit ⊕ Unit)=>Sum.elim (fun (z:Unit)=>(((.exit 0),⟨[],[]⟩):Ex × St)) (fun (z:Unit)=>((.ret,⟨[(4,dB false)],[]⟩):Ex × St)) r) (dS a0 a1 p1):=by
 unfold nH dS
 exact J9
theorem H3 {β:Type} (a0:Int) (a1:List aH) (p1:Int) (k:Ex->St->Option β):b6 TT yH (rW a0 a1 p1) k = (l9 a0 a1 p1).bind (fun (r:Unit ⊕ Unit)=>Sum.elim (fun (z:Unit)=>k (.exit 0) ⟨[],[]⟩) (fun (z:Unit)=>k .ret ⟨[(4,dB false)],[]⟩) r):=by
 have hh:=fun (w:Int)=>HE a0 a1 w
 have h:=fun ho=>bE (T:=TT) (k:=k) (c:=nH) (step:=(fun (w:Int)=>dS a0 a1 w)) _ _ ho hh p1
 refine Eq.trans (h (fun r s e=>by have q:=congrArg Prod.fst e; rcases r with x | x <;> cases q)) ?_
 unfold l9
 exact aM _ fun x=>by rcases x with x | x <;> rfl
theorem M2 (a0:Int) (a1:List aH):Vm.call TT 55 [.int .i64 a0,.sl (cM aH.cells a1)] = (jF a0 a1).map fun (r:Bool)=>.bool r:=by
 refine (bQ (show TT 55 = some (.code ⟨2,62,[.tmp 4],aNK,false,false⟩) from rfl) _ rfl rfl).trans ?_
 show b6 TT aNK ⟨[(0,dI a0),(1,.d (.sl (cM aH.cells a1)))],[]⟩ _ = _
 unfold aNK jF
 have u:=@H3
 exact oT
theorem B9 (a0:Int) (a1:List aH):KF TT 55 [.int .i64 a0,.sl (cM aH.cells a1)] (jF a0 a1) (fun (r:Bool)=>dB r):=kF (M2 a0 a1) (fun _=>rfl) (fun _=>rfl)
abbrev vF (a0:Int) (a1:List aE) (p1:Int) (p2:List aH) (r4:aH) (x3:aE) (p8:Int):St:=⟨[(0,dI a0),(5,.own 20 0),(10,.d (.sl (cM aE.cells a1))),(11,dI (a1.length:Int)),(12,dI p1),(44,.d (.sl (cM aJ.cells x3.Rights))),(45,dI (x3.Rights.length:Int)),(46,dI p8)],[(20,some (.rows 0 54 3 (cM aH.cells (p2 ++ [r4]))))]⟩
theorem K0 (a0:Int) (a1:List aE) (p1:Int) (p2:List aH) (r4:aH) (x3:aE) (p8:Int):b6 TT qH (vF a0 a1 p1 p2 r4 x3 p8) (fun e s=>some (e,s)) = cU (fun (w:Int)=>vF a0 a1 p1 p2 r4 x3 w) (fun (r:Unit ⊕ Unit)=>Sum.elim (fun (z:Unit)=>(((.exit 2),⟨[(0,dI a0),(5,.own 20 0),(10,.d (.sl (cM aE.cells a1))),(11,dI (a1.length:Int)),(12,dI p1)],[(20,some (.rows 0 54 3 (cM aH.cells (p2 ++ [r4]))))]⟩):Ex × St)) (fun (z:Unit)=>((.ret,⟨[(4,dI 1)],[]⟩):Ex × St)) r) (fA a0 a1 p1 p2 r4 x3 p8):=by
 unfold qH fA
 have u:=@LT
 exact oT
theorem LM {β:Type} (a0:Int) (a1:List aE) (p1:Int) (p2:List aH) (r4:aH) (x3:aE) (p8:Int) (k:Ex->St->Option β):b6 TT A6 (vF a0 a1 p1 p2 r4 x3 p8) k = (pB a0 a1 p1 p2 r4 x3 p8).bind (fun (r:Unit ⊕ Unit)=>Sum.elim (fun (z:Unit)=>k (.exit 2) ⟨[(0,dI a0),(5,.own 20 0),(10,.d (.sl (cM aE.cells a1))),(11,dI (a1.length:Int)),(12,dI p1)],[(20,some (.rows 0 54 3 (cM aH.cells (p2 ++ [r4]))))]⟩) (fun (z:Unit)=>k .ret ⟨[(4,dI 1)],[]⟩) r):=by
 have hh:=fun (w:Int)=>K0 a0 a1 p1 p2 r4 x3 w
 have h:=fun ho=>bE (T:=TT) (k:=k) (c:=qH) (step:=(fun (w:Int)=>fA a0 a1 p1 p2 r4 x3 w)) _ _ ho hh p8
 refine Eq.trans (h (fun r s e=>by have q:=congrArg Prod.fst e; rcases r with x | x <;> cases q)) ?_
 unfold pB
 exact aM _ fun x=>by rcases x with x | x <;> rfl
abbrev uZ (a0:Int) (a1:List aE) (p1:Int) (p2:List aH):St:=⟨[(0,dI a0),(5,.own 20 0),(10,.d (.sl (cM aE.cells a1))),(11,dI (a1.length:Int)),(12,dI p1)],[(20,some (.rows 0 54 3 (cM aH.cells p2)))]⟩
theorem LF (a0:Int) (a1:List aE) (p1:Int) (p2:List aH):b6 TT qE (uZ a0 a1 p1 p2) (fun e s=>some (e,s)) = cU (fun (w:Int × (List aH))=>uZ a0 a1 w.1 w.2) (fun (r:((List aH)) ⊕ Unit)=>Sum.elim (fun (z:(List aH))=>(((.exit 0),⟨[(0,dI a0),(5,.own 20 0)],[(20,some (.rows 0 54 3 (cM aH.cells z)))]⟩):Ex × St)) (fun (z:Unit)=>((.ret,⟨[(4,dI 1)],[]⟩):Ex × St)) r) (fC a0 a1 p1 p2):=by
 unfold qE fC
 have u:=aN @LM (aN @J8 @LT)
 exact oT
theorem KP {β:Type} (a0:Int) (a1:List aE) (p1:Int) (p2:List aH) (k:Ex->St->Option β):b6 TT AZ (uZ a0 a1 p1 p2) k = (oR a0 a1 p1 p2).bind (fun (r:((List aH)) ⊕ Unit)=>Sum.elim (fun (z:(List aH))=>k (.exit 0) ⟨[(0,dI a0),(5,.own 20 0)],[(20,some (.rows 0 54 3 (cM aH.cells z)))]⟩) (fun (z:Unit)=>k .ret ⟨[(4,dI 1)],[]⟩) r):=by
 have hh:=fun (w:Int × (List aH))=>LF a0 a1 w.1 w.2
 have h:=fun ho=>bE (T:=TT) (k:=k) (c:=qE) (step:=(fun (w:Int × (List aH))=>fC a0 a1 w.1 w.2)) _ _ ho hh (p1,p2)
 refine Eq.trans (h (fun r s e=>by have q:=congrArg Prod.fst e; rcases r with x | x <;> cases q)) ?_
 unfold oR
 exact aM _ fun x=>by rcases x with x | x <;> rfl
theorem PV (a0:Int) (a1:List aE):Vm.call TT 19 [.int .i64 a0,.sl (cM aE.cells a1)] = (j6 a0 a1).map fun (r:Int)=>.int .i64 r:=by
 refine (bQ (show TT 19 = some (.code ⟨2,66,[.tmp 4],aNd,false,false⟩) from rfl) _ rfl rfl).trans ?_
 show b6 TT aNd ⟨[(0,dI a0),(1,.d (.sl (cM aE.cells a1)))],[]⟩ _ = _
 unfold aNd j6
 have u:=aN @KP @B9
 exact oT
theorem uN (a0:Int) (a1:List aE):KF TT 19 [.int .i64 a0,.sl (cM aE.cells a1)] (j6 a0 a1) (fun (r:Int)=>dI r):=kF (PV a0 a1) (fun _=>rfl) (fun _=>rfl)
abbrev uW (a0:List Int) (p1 p2:Int):St:=⟨[(3,dI p1),(6,.d (.sl (cM cI a0))),(7,dI (a0.length:Int)),(8,dI p2)],[]⟩
theorem KB (a0:List Int) (p1 p2:Int):b6 TT qN (uW a0 p1 p2) (fun e s=>some (e,s)) = cU (fun (w:Int × Int)=>uW a0 w.1 w.2) (fun (r:Unit ⊕ Unit)=>Sum.elim (fun (z:Unit)=>(((.exit 0),⟨[],[]⟩):Ex × St)) (fun (z:Unit)=>((.ret,⟨[(2,dB false)],[]⟩):Ex × St)) r) (fG a0 p1 p2):=by
 unfold qN fG
 exact J9
theorem KN {β:Type} (a0:List Int) (p1 p2:Int) (k:Ex->St->Option β):b6 TT BC (uW a0 p1 p2) k = (sI a0 p1 p2).bind (fun (r:Unit ⊕ Unit)=>Sum.elim (fun (z:Unit)=>k (.exit 0) ⟨[],[]⟩) (fun (z:Unit)=>k .ret ⟨[(2,dB false)],[]⟩) r):=by
 have hh:=fun (w:Int × Int)=>KB a0 w.1 w.2
 have h:=fun ho=>bE (T:=TT) (k:=k) (c:=qN) (step:=(fun (w:Int × Int)=>fG a0 w.1 w.2)) _ _ ho hh (p1,p2)
 refine Eq.trans (h (fun r s e=>by have q:=congrArg Prod.fst e; rcases r with x | x <;> cases q)) ?_
 unfold sI
 exact aM _ fun x=>by rcases x with x | x <;> rfl
theorem PZ (a0:List Int):Vm.call TT 37 [.sl (cM cI a0)] = (nU a0).map fun (r:Bool)=>.bool r:=by
 refine (bQ (show TT 37 = some (.code ⟨1,21,[.tmp 2],aMA,false,false⟩) from rfl) _ rfl rfl).trans ?_
 show b6 TT aMA ⟨[(0,.d (.sl (cM cI a0)))],[]⟩ _ = _
 unfold aMA nU
 have u:=@KN
 exact oT
theorem zT (a0:List Int):KF TT 37 [.sl (cM cI a0)] (nU a0) (fun (r:Bool)=>dB r):=kF (PZ a0) (fun _=>rfl) (fun _=>rfl)
abbrev mL (a0:List Int) (a1 p1:Int):St:=⟨[(0,.d (.sl (cM cI a0))),(1,dI a1),(7,dI (a0.length:Int)),(8,dI p1)],[]⟩
theorem A8 (a0:List Int) (a1 p1:Int):b6 TT i8 (mL a0 a1 p1) (fun e s=>some (e,s)) = cU (fun (w:Int)=>mL a0 a1 w) (fun (r:Unit ⊕ Int)=>Sum.elim (fun (z:Unit)=>(((.exit 0),⟨[],[]⟩):Ex × St)) (fun (z:Int)=>((.ret,⟨[(4,dI z)],[]⟩):Ex × St)) r) (bZ a0 a1 p1):=by
 unfold i8 bZ
 exact J9
theorem BA {β:Type} (a0:List Int) (a1 p1:Int) (k:Ex->St->Option β):b6 TT rY (mL a0 a1 p1) k = (jZ a0 a1 p1).bind (fun (r:Unit ⊕ Int)=>Sum.elim (fun (z:Unit)=>k (.exit 0) ⟨[],[]⟩) (fun (z:Int)=>k .ret ⟨[(4,dI z)],[]⟩) r):=by
 have hh:=fun (w:Int)=>A8 a0 a1 w
 have h:=fun ho=>bE (T:=TT) (k:=k) (c:=i8) (step:=(fun (w:Int)=>bZ a0 a1 w)) _ _ ho hh p1
 refine Eq.trans (h (fun r s e=>by have q:=congrArg Prod.fst e; rcases r with x | x <;> cases q)) ?_
 unfold jZ
 exact aM _ fun x=>by rcases x with x | x <;> rfl
theorem D2 (a0:List Int) (a1:Int):Vm.call TT 73 [.sl (cM cI a0),.int .i64 a1] = (gW a0 a1).map fun (r:Int)=>.int .i64 r:=by
 refine (bQ (show TT 73 = some (.code ⟨2,19,[.tmp 4],aPz,false,false⟩) from rfl) _ rfl rfl).trans ?_
 show b6 TT aPz ⟨[(0,.d (.sl (cM cI a0))),(1,dI a1)],[]⟩ _ = _
 unfold aPz gW
 have u:=@BA
 exact oT
theorem DK (a0:List Int) (a1:Int):KF TT 73 [.sl (cM cI a0),.int .i64 a1] (gW a0 a1) (fun (r:Int)=>dI r):=kF (D2 a0 a1) (fun _=>rfl) (fun _=>rfl)
theorem AQ (a0:List Int) (a1:Int):Vm.call TT 44 [.sl (cM cI a0),.int .i64 a1] = (c8 a0 a1).map fun (r:Bool)=>.bool r:=by
 refine (bQ (show TT 44 = some (.code ⟨2,9,[.tmp 4],aM3,false,false⟩) from rfl) _ rfl rfl).trans ?_
 show b6 TT aM3 ⟨[(0,.d (.sl (cM cI a0))),(1,dI a1)],[]⟩ _ = _
 unfold aM3 c8
 have u:=@DK
 exact oT
theorem mH (a0:List Int) (a1:Int):KF TT 44 [.sl (cM cI a0),.int .i64 a1] (c8 a0 a1) (fun (r:Bool)=>dB r):=kF (AQ a0 a1) (fun _=>rfl) (fun _=>rfl)
theorem JR (a0:aJ) (a1:List Int):Vm.call TT 82 [.agg a0.cells,.ptr [.sl (cM cI a1)] 0] = (nK a0 a1).map fun (r:Bool)=>.bool r:=by
 refine (bQ (show TT 82 = some (.code ⟨2,9,[.tmp 3],aNm,false,false⟩) from rfl) _ rfl rfl).trans ?_
 show b6 TT aNm ⟨[(0,kY a0.cells),(1,.d (.ptr [.sl (cM cI a1)] 0))],[]⟩ _ = _
 unfold aNm nK
 have u:=@mH
 exact oT
theorem JZ (a0:aJ) (a1:List Int):KF TT 82 [.agg a0.cells,.ptr [.sl (cM cI a1)] 0] (nK a0 a1) (fun (r:Bool)=>dB r):=kF (JR a0 a1) (fun _=>rfl) (fun _=>rfl)
abbrev eE (a0:List aJ) (a1:List Int) (p1:Int):St:=⟨[(0,.d (.sl (cM aJ.cells a0))),(1,.d (.fn 82 [.ptr [.sl (cM cI a1)] 0])),(7,dI (a0.length:Int)),(8,dI p1)],[]⟩
theorem n7 (a0:List aJ) (a1:List Int) (p1:Int):b6 TT cY (eE a0 a1 p1) (fun e s=>some (e,s)) = cU (fun (w:Int)=>eE a0 a1 w) (fun (r:Unit ⊕ Int)=>Sum.elim (fun (z:Unit)=>(((.exit 0),⟨[],[]⟩):Ex × St)) (fun (z:Int)=>((.ret,⟨[(4,dI z)],[]⟩):Ex × St)) r) (aS a0 a1 p1):=by
 unfold cY aS
 have u:=@JZ
 exact oT
theorem n6 {β:Type} (a0:List aJ) (a1:List Int) (p1:Int) (k:Ex->St->Option β):b6 TT iZ (eE a0 a1 p1) k = (cV a0 a1 p1).bind (fun (r:Unit ⊕ Int)=>Sum.elim (fun (z:Unit)=>k (.exit 0) ⟨[],[]⟩) (fun (z:Int)=>k .ret ⟨[(4,dI z)],[]⟩) r):=by
 have hh:=fun (w:Int)=>n7 a0 a1 w
 have h:=fun ho=>bE (T:=TT) (k:=k) (c:=cY) (step:=(fun (w:Int)=>aS a0 a1 w)) _ _ ho hh p1
 refine Eq.trans (h (fun r s e=>by have q:=congrArg Prod.fst e; rcases r with x | x <;> cases q)) ?_
 unfold cV
 exact aM _ fun x=>by rcases x with x | x <;> rfl
theorem pO (a0:List aJ) (a1:List Int):Vm.call TT 105 [.sl (cM aJ.cells a0),.fn 82 [.ptr [.sl (cM cI a1)] 0]] = (cD a0 a1).map fun (r:Int)=>.int .i64 r:=by
 refine (bQ (show TT 105 = some (.code ⟨2,19,[.tmp 4],aDW,false,false⟩) from rfl) _ rfl rfl).trans ?_
 show b6 TT aDW ⟨[(0,.d (.sl (cM aJ.cells a0))),(1,.d (.fn 82 [.ptr [.sl (cM cI a1)] 0]))],[]⟩ _ = _
 unfold aDW cD
 have u:=@n6
 exact oT
theorem pK (a0:List aJ) (a1:List Int):KF TT 105 [.sl (cM aJ.cells a0),.fn 82 [.ptr [.sl (cM cI a1)] 0]] (cD a0 a1) (fun (r:Int)=>dI r):=kF (pO a0 a1) (fun _=>rfl) (fun _=>rfl)
theorem nZ (a0:List aJ) (a1:List Int):Vm.call TT 81 [.sl (cM aJ.cells a0),.fn 82 [.ptr [.sl (cM cI a1)] 0]] = (bX a0 a1).map fun (r:Bool)=>.bool r:=by
 refine (bQ (show TT 81 = some (.code ⟨2,9,[.tmp 4],aPc,false,false⟩) from rfl) _ rfl rfl).trans ?_
 show b6 TT aPc ⟨[(0,.d (.sl (cM aJ.cells a0))),(1,.d (.fn 82 [.ptr [.sl (cM cI a1)] 0]))],[]⟩ _ = _
 unfold aPc bX
 have u:=@pK
 exact oT
theorem n8 (a0:List aJ) (a1:List Int):KF TT 81 [.sl (cM aJ.cells a0),.fn 82 [.ptr [.sl (cM cI a1)] 0]] (bX a0 a1) (fun (r:Bool)=>dB r):=kF (nZ a0 a1) (fun _=>rfl) (fun _=>rfl)
theorem QG (a0:aE) (a1:List Int):Vm.call TT 60 [.agg a0.cells,.sl (cM cI a1)] = (qM a0 a1).map fun (r:Bool)=>.bool r:=by
 refine (bQ (show TT 60 = some (.code ⟨2,10,[.tmp 4],aNL,false,false⟩) from rfl) _ rfl rfl).trans ?_
 show b6 TT aNL ⟨[(0,kY a0.cells),(1,.d (.sl (cM cI a1)))],[]⟩ _ = _
 unfold aNL qM
 have u:=@n8
 exact oT
theorem HI (a0:aE) (a1:List Int):KF TT 60 [.agg a0.cells,.sl (cM cI a1)] (qM a0 a1) (fun (r:Bool)=>dB r):=kF (QG a0 a1) (fun _=>rfl) (fun _=>rfl)
end Go.Proofs.Ytgjcnbgfaimepaa
