/- The functions of the small machine compute the plain definitions. Printed by a program. -/
import Derived.Test.YtgjcnbgfaimepaaFn
set_option linter.unusedVariables false
set_option linter.unusedSimpArgs false
namespace Go.Proofs.Ytgjcnbgfaimepaa
open Vm
open Go.RowKit
set_option maxRecDepth 100000
set_option maxHeartbeats 4000000
attribute [local congr] yF BK yB BI
theorem J8:Vm.call TT 35 [] = (rF).map fun (r:(List aF))=>.sl (cM aF.cells r):=by
 refine (aV (show TT 35 = some (.code ⟨0,10,[.tmp 0],aNT,false,false⟩) from rfl) _ rfl rfl).trans ?_
 show bD TT aNT ⟨[],[]⟩ _ = _
 unfold aNT rF
 exact G7
theorem J7:KD TT 35 [] (rF) (fun (r:(List aF))=>.d (.sl (cM aF.cells r))):=kD (J8 ) (fun _=>rfl) (fun _=>rfl) (fun _=>rfl)
theorem Z0 (a0:aF):Vm.call TT 53 [.agg a0.cells] = (B3 a0).map fun (r:aI)=>.agg r.cells:=by
 refine (aV (show TT 53 = some (.code ⟨1,10,[.cell 2 3 true],aO8,false,false⟩) from rfl) _ rfl rfl).trans ?_
 show bD TT aO8 ⟨[(0,zZ a0.cells)],[]⟩ _ = _
 unfold aO8 B3
 exact G7
theorem RF (a0:aF):KF TT 53 [.agg a0.cells] (B3 a0) (fun (r:aI)=>zZ r.cells):=kF (Z0 a0) (fun _=>rfl) (fun _=>rfl)
theorem aBr (a0 a1:Int):Vm.call TT 54 [.int .i64 a0,.int .i64 a1] = (tV a0 a1).map fun (r:Bool)=>.bool r:=by
 refine (aV (show TT 54 = some (.code ⟨2,12,[.tmp 4],aNj,false,false⟩) from rfl) _ rfl rfl).trans ?_
 show bD TT aNj ⟨[(0,dI a0),(1,dI a1)],[]⟩ _ = _
 unfold aNj tV
 exact G7
theorem TU (a0 a1:Int):KF TT 54 [.int .i64 a0,.int .i64 a1] (tV a0 a1) (fun (r:Bool)=>dB r):=kF (aBr a0 a1) (fun _=>rfl) (fun _=>rfl)
abbrev xV (a0:Int) (a1:List aI) (p1:Int):St:=⟨[(0,dI a0),(18,.d (.sl (cM aI.cells a1))),(19,dI (a1.length:Int)),(20,dI p1)],[]⟩
theorem PZ (a0:Int) (a1:List aI) (p1:Int):bD TT sQ (xV a0 a1 p1) (fun e s=>some (e,s)) = bP (fun (w:Int)=>xV a0 a1 w) (fun (r:Unit ⊕ Unit)=>Sum.elim (fun (z:Unit)=>(((.exit 0),⟨[],[]⟩):Ex × St)) (fun (z:Unit)=>((.ret,⟨[(4,dB false)],[]⟩):Ex × St)) r) (fU a0 a1 p1):=by
 unfold sQ fU
 exact G7
theorem OJ {β:Type} (a0:Int) (a1:List aI) (p1:Int) (k:Ex->St->Option β):bD TT EK (xV a0 a1 p1) k = (qZ a0 a1 p1).bind (fun (r:Unit ⊕ Unit)=>Sum.elim (fun (z:Unit)=>k (.exit 0) ⟨[],[]⟩) (fun (z:Unit)=>k .ret ⟨[(4,dB false)],[]⟩) r):=by
 have hh:=fun (w:Int)=>PZ a0 a1 w
 have h:=fun ho=>aQ (T:=TT) (k:=k) (c:=sQ) (step:=(fun (w:Int)=>fU a0 a1 w)) _ _ ho hh p1
 refine Eq.trans (h (fun r s e=>by have q:=congrArg Prod.fst e; rcases r with x | x <;> cases q)) ?_
 unfold qZ
 exact aK _ fun x=>by rcases x with x | x <;> rfl
theorem TN (a0:Int) (a1:List aI):Vm.call TT 55 [.int .i64 a0,.sl (cM aI.cells a1)] = (mK a0 a1).map fun (r:Bool)=>.bool r:=by
 refine (aV (show TT 55 = some (.code ⟨2,62,[.tmp 4],aNy,false,false⟩) from rfl) _ rfl rfl).trans ?_
 show bD TT aNy ⟨[(0,dI a0),(1,.d (.sl (cM aI.cells a1)))],[]⟩ _ = _
 unfold aNy mK
 have u:=@OJ
 exact mJ
theorem HT (a0:Int) (a1:List aI):KF TT 55 [.int .i64 a0,.sl (cM aI.cells a1)] (mK a0 a1) (fun (r:Bool)=>dB r):=kF (TN a0 a1) (fun _=>rfl) (fun _=>rfl)
abbrev BV (a0:Int) (a1:List aF) (p1:Int) (p2:List aI) (r4:aI) (x3:aF) (p8:Int):St:=⟨[(0,dI a0),(5,.own 20 0),(10,.d (.sl (cM aF.cells a1))),(11,dI (a1.length:Int)),(12,dI p1),(44,.d (.sl (cM aT.cells x3.Rights))),(45,dI (x3.Rights.length:Int)),(46,dI p8)],[(20,some (.rows 0 54 3 (cM aI.cells (p2 ++ [r4]))))]⟩
theorem R6 (a0:Int) (a1:List aF) (p1:Int) (p2:List aI) (r4:aI) (x3:aF) (p8:Int):bD TT wH (BV a0 a1 p1 p2 r4 x3 p8) (fun e s=>some (e,s)) = bP (fun (w:Int)=>BV a0 a1 p1 p2 r4 x3 w) (fun (r:Unit ⊕ Unit)=>Sum.elim (fun (z:Unit)=>(((.exit 2),⟨[(0,dI a0),(5,.own 20 0),(10,.d (.sl (cM aF.cells a1))),(11,dI (a1.length:Int)),(12,dI p1)],[(20,some (.rows 0 54 3 (cM aI.cells (p2 ++ [r4]))))]⟩):Ex × St)) (fun (z:Unit)=>((.ret,⟨[(4,dI 1)],[]⟩):Ex × St)) r) (gW a0 a1 p1 p2 r4 x3 p8):=by
 unfold wH gW
 have u:=@TU
 exact mJ
theorem RW {β:Type} (a0:Int) (a1:List aF) (p1:Int) (p2:List aI) (r4:aI) (x3:aF) (p8:Int) (k:Ex->St->Option β):bD TT F3 (BV a0 a1 p1 p2 r4 x3 p8) k = (uR a0 a1 p1 p2 r4 x3 p8).bind (fun (r:Unit ⊕ Unit)=>Sum.elim (fun (z:Unit)=>k (.exit 2) ⟨[(0,dI a0),(5,.own 20 0),(10,.d (.sl (cM aF.cells a1))),(11,dI (a1.length:Int)),(12,dI p1)],[(20,some (.rows 0 54 3 (cM aI.cells (p2 ++ [r4]))))]⟩) (fun (z:Unit)=>k .ret ⟨[(4,dI 1)],[]⟩) r):=by
 have hh:=fun (w:Int)=>R6 a0 a1 p1 p2 r4 x3 w
 have h:=fun ho=>aQ (T:=TT) (k:=k) (c:=wH) (step:=(fun (w:Int)=>gW a0 a1 p1 p2 r4 x3 w)) _ _ ho hh p8
 refine Eq.trans (h (fun r s e=>by have q:=congrArg Prod.fst e; rcases r with x | x <;> cases q)) ?_
 unfold uR
 exact aK _ fun x=>by rcases x with x | x <;> rfl
abbrev BJ (a0:Int) (a1:List aF) (p1:Int) (p2:List aI):St:=⟨[(0,dI a0),(5,.own 20 0),(10,.d (.sl (cM aF.cells a1))),(11,dI (a1.length:Int)),(12,dI p1)],[(20,some (.rows 0 54 3 (cM aI.cells p2)))]⟩
theorem SO (a0:Int) (a1:List aF) (p1:Int) (p2:List aI):bD TT vM (BJ a0 a1 p1 p2) (fun e s=>some (e,s)) = bP (fun (w:Int × (List aI))=>BJ a0 a1 w.1 w.2) (fun (r:((List aI)) ⊕ Unit)=>Sum.elim (fun (z:(List aI))=>(((.exit 0),⟨[(0,dI a0),(5,.own 20 0)],[(20,some (.rows 0 54 3 (cM aI.cells z)))]⟩):Ex × St)) (fun (z:Unit)=>((.ret,⟨[(4,dI 1)],[]⟩):Ex × St)) r) (hY a0 a1 p1 p2):=by
 unfold vM hY
 have u:=aN @RW (aN @RF @TU)
 exact mJ
theorem RR {β:Type} (a0:Int) (a1:List aF) (p1:Int) (p2:List aI) (k:Ex->St->Option β):bD TT F4 (BJ a0 a1 p1 p2) k = (vA a0 a1 p1 p2).bind (fun (r:((List aI)) ⊕ Unit)=>Sum.elim (fun (z:(List aI))=>k (.exit 0) ⟨[(0,dI a0),(5,.own 20 0)],[(20,some (.rows 0 54 3 (cM aI.cells z)))]⟩) (fun (z:Unit)=>k .ret ⟨[(4,dI 1)],[]⟩) r):=by
 have hh:=fun (w:Int × (List aI))=>SO a0 a1 w.1 w.2
 have h:=fun ho=>aQ (T:=TT) (k:=k) (c:=vM) (step:=(fun (w:Int × (List aI))=>hY a0 a1 w.1 w.2)) _ _ ho hh (p1,p2)
 refine Eq.trans (h (fun r s e=>by have q:=congrArg Prod.fst e; rcases r with x | x <;> cases q)) ?_
 unfold vA
 exact aK _ fun x=>by rcases x with x | x <;> rfl
theorem W0 (a0:Int) (a1:List aF):Vm.call TT 19 [.int .i64 a0,.sl (cM aF.cells a1)] = (lH a0 a1).map fun (r:Int)=>.int .i64 r:=by
 refine (aV (show TT 19 = some (.code ⟨2,66,[.tmp 4],aPW,false,false⟩) from rfl) _ rfl rfl).trans ?_
 show bD TT aPW ⟨[(0,dI a0),(1,.d (.sl (cM aF.cells a1)))],[]⟩ _ = _
 unfold aPW lH
 have u:=aN @RR @HT
 exact mJ
theorem xD (a0:Int) (a1:List aF):KF TT 19 [.int .i64 a0,.sl (cM aF.cells a1)] (lH a0 a1) (fun (r:Int)=>dI r):=kF (W0 a0 a1) (fun _=>rfl) (fun _=>rfl)
abbrev BF (a0:List Int) (p1 p2:Int):St:=⟨[(3,dI p1),(6,.d (.sl (cM cI a0))),(7,dI (a0.length:Int)),(8,dI p2)],[]⟩
theorem SV (a0:List Int) (p1 p2:Int):bD TT wC (BF a0 p1 p2) (fun e s=>some (e,s)) = bP (fun (w:Int × Int)=>BF a0 w.1 w.2) (fun (r:Unit ⊕ Unit)=>Sum.elim (fun (z:Unit)=>(((.exit 0),⟨[],[]⟩):Ex × St)) (fun (z:Unit)=>((.ret,⟨[(2,dB false)],[]⟩):Ex × St)) r) (gX a0 p1 p2):=by
 unfold wC gX
 exact G7
theorem S1 {β:Type} (a0:List Int) (p1 p2:Int) (k:Ex->St->Option β):bD TT G0 (BF a0 p1 p2) k = (yR a0 p1 p2).bind (fun (r:Unit ⊕ Unit)=>Sum.elim (fun (z:Unit)=>k (.exit 0) ⟨[],[]⟩) (fun (z:Unit)=>k .ret ⟨[(2,dB false)],[]⟩) r):=by
 have hh:=fun (w:Int × Int)=>SV a0 w.1 w.2
 have h:=fun ho=>aQ (T:=TT) (k:=k) (c:=wC) (step:=(fun (w:Int × Int)=>gX a0 w.1 w.2)) _ _ ho hh (p1,p2)
 refine Eq.trans (h (fun r s e=>by have q:=congrArg Prod.fst e; rcases r with x | x <;> cases q)) ?_
 unfold yR
 exact aK _ fun x=>by rcases x with x | x <;> rfl
theorem WU (a0:List Int):Vm.call TT 37 [.sl (cM cI a0)] = (tP a0).map fun (r:Bool)=>.bool r:=by
 refine (aV (show TT 37 = some (.code ⟨1,21,[.tmp 2],aOw,false,false⟩) from rfl) _ rfl rfl).trans ?_
 show bD TT aOw ⟨[(0,.d (.sl (cM cI a0)))],[]⟩ _ = _
 unfold aOw tP
 have u:=@S1
 exact mJ
theorem FC (a0:List Int):KF TT 37 [.sl (cM cI a0)] (tP a0) (fun (r:Bool)=>dB r):=kF (WU a0) (fun _=>rfl) (fun _=>rfl)
abbrev qW (a0:List Int) (a1 p1:Int):St:=⟨[(0,.d (.sl (cM cI a0))),(1,dI a1),(7,dI (a0.length:Int)),(8,dI p1)],[]⟩
theorem GG (a0:List Int) (a1 p1:Int):bD TT mA (qW a0 a1 p1) (fun e s=>some (e,s)) = bP (fun (w:Int)=>qW a0 a1 w) (fun (r:Unit ⊕ Int)=>Sum.elim (fun (z:Unit)=>(((.exit 0),⟨[],[]⟩):Ex × St)) (fun (z:Int)=>((.ret,⟨[(4,dI z)],[]⟩):Ex × St)) r) (cU a0 a1 p1):=by
 unfold mA cU
 exact G7
theorem GK {β:Type} (a0:List Int) (a1 p1:Int) (k:Ex->St->Option β):bD TT xX (qW a0 a1 p1) k = (nE a0 a1 p1).bind (fun (r:Unit ⊕ Int)=>Sum.elim (fun (z:Unit)=>k (.exit 0) ⟨[],[]⟩) (fun (z:Int)=>k .ret ⟨[(4,dI z)],[]⟩) r):=by
 have hh:=fun (w:Int)=>GG a0 a1 w
 have h:=fun ho=>aQ (T:=TT) (k:=k) (c:=mA) (step:=(fun (w:Int)=>cU a0 a1 w)) _ _ ho hh p1
 refine Eq.trans (h (fun r s e=>by have q:=congrArg Prod.fst e; rcases r with x | x <;> cases q)) ?_
 unfold nE
 exact aK _ fun x=>by rcases x with x | x <;> rfl
theorem KP (a0:List Int) (a1:Int):Vm.call TT 73 [.sl (cM cI a0),.int .i64 a1] = (kI a0 a1).map fun (r:Int)=>.int .i64 r:=by
 refine (aV (show TT 73 = some (.code ⟨2,19,[.tmp 4],aMR,false,false⟩) from rfl) _ rfl rfl).trans ?_
 show bD TT aMR ⟨[(0,.d (.sl (cM cI a0))),(1,dI a1)],[]⟩ _ = _
 unfold aMR kI
 have u:=@GK
 exact mJ
theorem KE (a0:List Int) (a1:Int):KF TT 73 [.sl (cM cI a0),.int .i64 a1] (kI a0 a1) (fun (r:Int)=>dI r):=kF (KP a0 a1) (fun _=>rfl) (fun _=>rfl)
theorem F7 (a0:List Int) (a1:Int):Vm.call TT 44 [.sl (cM cI a0),.int .i64 a1] = (eV a0 a1).map fun (r:Bool)=>.bool r:=by
 refine (aV (show TT 44 = some (.code ⟨2,9,[.tmp 4],aNg,false,false⟩) from rfl) _ rfl rfl).trans ?_
 show bD TT aNg ⟨[(0,.d (.sl (cM cI a0))),(1,dI a1)],[]⟩ _ = _
 unfold aNg eV
 have u:=@KE
 exact mJ
theorem qQ (a0:List Int) (a1:Int):KF TT 44 [.sl (cM cI a0),.int .i64 a1] (eV a0 a1) (fun (r:Bool)=>dB r):=kF (F7 a0 a1) (fun _=>rfl) (fun _=>rfl)
theorem Q5 (a0:aT) (a1:List Int):Vm.call TT 82 [.agg a0.cells,.ptr [.sl (cM cI a1)] 0] = (sO a0 a1).map fun (r:Bool)=>.bool r:=by
 refine (aV (show TT 82 = some (.code ⟨2,9,[.tmp 3],aNh,false,false⟩) from rfl) _ rfl rfl).trans ?_
 show bD TT aNh ⟨[(0,zZ a0.cells),(1,.d (.ptr [.sl (cM cI a1)] 0))],[]⟩ _ = _
 unfold aNh sO
 have u:=@qQ
 exact mJ
theorem QZ (a0:aT) (a1:List Int):KF TT 82 [.agg a0.cells,.ptr [.sl (cM cI a1)] 0] (sO a0 a1) (fun (r:Bool)=>dB r):=kF (Q5 a0 a1) (fun _=>rfl) (fun _=>rfl)
abbrev gD (a0:List aT) (a1:List Int) (p1:Int):St:=⟨[(0,.d (.sl (cM aT.cells a0))),(1,.d (.fn 82 [.ptr [.sl (cM cI a1)] 0])),(7,dI (a0.length:Int)),(8,dI p1)],[]⟩
theorem uE (a0:List aT) (a1:List Int) (p1:Int):bD TT eR (gD a0 a1 p1) (fun e s=>some (e,s)) = bP (fun (w:Int)=>gD a0 a1 w) (fun (r:Unit ⊕ Int)=>Sum.elim (fun (z:Unit)=>(((.exit 0),⟨[],[]⟩):Ex × St)) (fun (z:Int)=>((.ret,⟨[(4,dI z)],[]⟩):Ex × St)) r) (aU a0 a1 p1):=by
 unfold eR aU
 have u:=@QZ
 exact mJ
theorem uF {β:Type} (a0:List aT) (a1:List Int) (p1:Int) (k:Ex->St->Option β):bD TT l9 (gD a0 a1 p1) k = (eN a0 a1 p1).bind (fun (r:Unit ⊕ Int)=>Sum.elim (fun (z:Unit)=>k (.exit 0) ⟨[],[]⟩) (fun (z:Int)=>k .ret ⟨[(4,dI z)],[]⟩) r):=by
 have hh:=fun (w:Int)=>uE a0 a1 w
 have h:=fun ho=>aQ (T:=TT) (k:=k) (c:=eR) (step:=(fun (w:Int)=>aU a0 a1 w)) _ _ ho hh p1
 refine Eq.trans (h (fun r s e=>by have q:=congrArg Prod.fst e; rcases r with x | x <;> cases q)) ?_
 unfold eN
 exact aK _ fun x=>by rcases x with x | x <;> rfl
theorem wP (a0:List aT) (a1:List Int):Vm.call TT 105 [.sl (cM aT.cells a0),.fn 82 [.ptr [.sl (cM cI a1)] 0]] = (dJ a0 a1).map fun (r:Int)=>.int .i64 r:=by
 refine (aV (show TT 105 = some (.code ⟨2,19,[.tmp 4],aGX,false,false⟩) from rfl) _ rfl rfl).trans ?_
 show bD TT aGX ⟨[(0,.d (.sl (cM aT.cells a0))),(1,.d (.fn 82 [.ptr [.sl (cM cI a1)] 0]))],[]⟩ _ = _
 unfold aGX dJ
 have u:=@uF
 exact mJ
theorem wW (a0:List aT) (a1:List Int):KF TT 105 [.sl (cM aT.cells a0),.fn 82 [.ptr [.sl (cM cI a1)] 0]] (dJ a0 a1) (fun (r:Int)=>dI r):=kF (wP a0 a1) (fun _=>rfl) (fun _=>rfl)
theorem uH (a0:List aT) (a1:List Int):Vm.call TT 81 [.sl (cM aT.cells a0),.fn 82 [.ptr [.sl (cM cI a1)] 0]] = (cH a0 a1).map fun (r:Bool)=>.bool r:=by
 refine (aV (show TT 81 = some (.code ⟨2,9,[.tmp 4],aOK,false,false⟩) from rfl) _ rfl rfl).trans ?_
 show bD TT aOK ⟨[(0,.d (.sl (cM aT.cells a0))),(1,.d (.fn 82 [.ptr [.sl (cM cI a1)] 0]))],[]⟩ _ = _
 unfold aOK cH
 have u:=@wW
 exact mJ
theorem uG (a0:List aT) (a1:List Int):KF TT 81 [.sl (cM aT.cells a0),.fn 82 [.ptr [.sl (cM cI a1)] 0]] (cH a0 a1) (fun (r:Bool)=>dB r):=kF (uH a0 a1) (fun _=>rfl) (fun _=>rfl)
theorem YA (a0:aF) (a1:List Int):Vm.call TT 60 [.agg a0.cells,.sl (cM cI a1)] = (wT a0 a1).map fun (r:Bool)=>.bool r:=by
 refine (aV (show TT 60 = some (.code ⟨2,10,[.tmp 4],aMX,false,false⟩) from rfl) _ rfl rfl).trans ?_
 show bD TT aMX ⟨[(0,zZ a0.cells),(1,.d (.sl (cM cI a1)))],[]⟩ _ = _
 unfold aMX wT
 have u:=@uG
 exact mJ
theorem QE (a0:aF) (a1:List Int):KF TT 60 [.agg a0.cells,.sl (cM cI a1)] (wT a0 a1) (fun (r:Bool)=>dB r):=kF (YA a0 a1) (fun _=>rfl) (fun _=>rfl)
end Go.Proofs.Ytgjcnbgfaimepaa
