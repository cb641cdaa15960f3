/- The functions of the small machine compute the plain definitions. Printed by a program. -/
import Derived.Test.YtgjcnbgfaimepaaLnk4
set_option linter.unusedVariables false
set_option linter.unusedSimpArgs false
namespace Go.Proofs.Ytgjcnbgfaimepaa
open Vm
open Go.RowKit
set_option maxRecDepth 100000
set_option maxHeartbeats 4000000
attribute [local congr] yL AK yS BG
abbrev oV (a0:List Int) (a1 p1:Int):St:=⟨[(0,.d (.sl (cM cI a0))),(1,dI a1),(5,dI p1)],[]⟩
theorem E5 (a0:List Int) (a1 p1:Int):bP TT lD (oV a0 a1 p1) (fun e s=>some (e,s)) = cD (fun (w:Int)=>oV a0 a1 w) (fun (r:Unit ⊕ Unit)=>Sum.elim (fun (z:Unit)=>(((.exit 0),⟨[],[]⟩):Ex × St)) (fun (z:Unit)=>((.ret,⟨[(4,dB true)],[]⟩):Ex × St)) r) (cN a0 a1 p1):=by
 unfold lD cN
 exact HW
theorem EU {β:Type} (a0:List Int) (a1 p1:Int) (k:Ex->St->Option β):bP TT wQ (oV a0 a1 p1) k = (nE a0 a1 p1).bind (fun (r:Unit ⊕ Unit)=>Sum.elim (fun (z:Unit)=>k (.exit 0) ⟨[],[]⟩) (fun (z:Unit)=>k .ret ⟨[(4,dB true)],[]⟩) r):=by
 have hh:=fun (w:Int)=>E5 a0 a1 w
 have h:=fun ho=>aX (T:=TT) (k:=k) (c:=lD) (step:=(fun (w:Int)=>cN a0 a1 w)) _ _ ho hh p1
 refine Eq.trans (h (fun r s e=>by have q:=congrArg Prod.fst e; rcases r with x | x <;> cases q)) ?_
 unfold nE
 exact aL _ fun x=>by rcases x with x | x <;> rfl
theorem JC (a0:List Int) (a1:Int):Vm.call TT 29 [.sl (cM cI a0),.int .i64 a1] = (jW a0 a1).map fun (r:Bool)=>.bool r:=by
 refine (bE (show TT 29 = some (.code ⟨2,18,[.tmp 4],aLU,false,false⟩) from rfl) _ rfl rfl).trans ?_
 show bP TT aLU ⟨[(0,.d (.sl (cM cI a0))),(1,dI a1)],[]⟩ _ = _
 unfold aLU jW
 have u:=@EU
 exact oR
theorem I9 (a0:List Int) (a1:Int):KF TT 29 [.sl (cM cI a0),.int .i64 a1] (jW a0 a1) (fun (r:Bool)=>dB r):=kF (JC a0 a1) (fun _=>rfl) (fun _=>rfl)
theorem D5 {β:Type} (a0:List Int) (a1 p3:Int) (p6:Bool) (p7:List Int) (k:Ex->St->Option β):bP TT pN ⟨[(0,.d (.sl (cM cI a0))),(1,dI a1),(5,.own 12 0),(6,dB p6),(7,dI p3)],[(12,some (.rows 0 3 1 (cM cI p7)))]⟩ k = (fI a0 a1 p3 p6 p7).bind (fun (r:(List Int))=>k .normal ⟨[(0,.d (.sl (cM cI a0))),(1,dI a1),(5,.own 12 0),(6,dB p6),(7,dI p3)],[(12,some (.rows 0 3 1 (cM cI r)))]⟩):=by
 unfold pN fI
 exact HW
abbrev pU (a0:List Int) (a1:Int) (p2:Bool) (p3:Int) (p4:List Int):St:=⟨[(0,.d (.sl (cM cI a0))),(1,dI a1),(5,.own 12 0),(6,dB p2),(7,dI p3)],[(12,some (.rows 0 3 1 (cM cI p4)))]⟩
theorem EJ (a0:List Int) (a1:Int) (p2:Bool) (p3:Int) (p4:List Int):bP TT lA (pU a0 a1 p2 p3 p4) (fun e s=>some (e,s)) = cD (fun (w:Bool × Int × (List Int))=>pU a0 a1 w.1 w.2.1 w.2.2) (fun (r:Bool × (List Int))=>(((.exit 0),⟨[(1,dI a1),(5,.own 12 0),(6,dB r.1)],[(12,some (.rows 0 3 1 (cM cI r.2)))]⟩):Ex × St)) (bA a0 a1 p2 p3 p4):=by
 unfold lA bA
 have u:=@D5
 exact oR
theorem EG {β:Type} (a0:List Int) (a1:Int) (p2:Bool) (p3:Int) (p4:List Int) (k:Ex->St->Option β):bP TT wK (pU a0 a1 p2 p3 p4) k = (mS a0 a1 p2 p3 p4).bind (fun (r:Bool × (List Int))=>k (.exit 0) ⟨[(1,dI a1),(5,.own 12 0),(6,dB r.1)],[(12,some (.rows 0 3 1 (cM cI r.2)))]⟩):=by
 have hh:=fun (w:Bool × Int × (List Int))=>EJ a0 a1 w.1 w.2.1 w.2.2
 have h:=fun ho=>aX (T:=TT) (k:=k) (c:=lA) (step:=(fun (w:Bool × Int × (List Int))=>bA a0 a1 w.1 w.2.1 w.2.2)) _ _ ho hh (p2,p3,p4)
 refine Eq.trans (h (fun r s e=>by have q:=congrArg Prod.fst e; rcases r with x <;> cases q)) ?_
 unfold mS
 exact aL _ fun x=>by rcases x with x <;> rfl
theorem JD (a0:List Int) (a1:Int):Vm.call TT 59 [.sl (cM cI a0),.int .i64 a1] = (j6 a0 a1).map fun (r:(List Int))=>.sl (cM cI r):=by
 refine (bE (show TT 59 = some (.code ⟨2,47,[.tmp 4],aNL,false,false⟩) from rfl) _ rfl rfl).trans ?_
 show bP TT aNL ⟨[(0,.d (.sl (cM cI a0))),(1,dI a1)],[]⟩ _ = _
 unfold aNL j6
 have u:=aN @EG @I9
 exact oR
theorem I4 (a0:List Int) (a1:Int):KD TT 59 [.sl (cM cI a0),.int .i64 a1] (j6 a0 a1) (fun (r:(List Int))=>.d (.sl (cM cI r))):=kD (JD a0 a1) (fun _=>rfl) (fun _=>rfl) (fun _=>rfl)
abbrev mJ (a0:List aE) (p2:Int) (p3:List Int) (p4:Int):St:=⟨[(0,.d (.sl (cM aE.cells a0))),(3,.d (.sl (cM cI p3))),(4,dI p2),(5,dI p4)],[(6,none)]⟩
theorem BI (a0:List aE) (p2:Int) (p3:List Int) (p4:Int):bP TT iY (mJ a0 p2 p3 p4) (fun e s=>some (e,s)) = cD (fun (w:(List Int) × Int)=>mJ a0 p2 w.1 w.2) (fun (r:(List Int))=>(((.exit 2),⟨[(0,.d (.sl (cM aE.cells a0))),(3,.d (.sl (cM cI r))),(4,dI p2)],[(6,none)]⟩):Ex × St)) (bY a0 p2 p3 p4):=by
 unfold iY bY
 have u:=@I4
 exact oR
theorem BH {β:Type} (a0:List aE) (p2:Int) (p3:List Int) (p4:Int) (k:Ex->St->Option β):bP TT sR (mJ a0 p2 p3 p4) k = (gW a0 p2 p3 p4).bind (fun (r:(List Int))=>k (.exit 2) ⟨[(0,.d (.sl (cM aE.cells a0))),(3,.d (.sl (cM cI r))),(4,dI p2)],[(6,none)]⟩):=by
 have hh:=fun (w:(List Int) × Int)=>BI a0 p2 w.1 w.2
 have h:=fun ho=>aX (T:=TT) (k:=k) (c:=iY) (step:=(fun (w:(List Int) × Int)=>bY a0 p2 w.1 w.2)) _ _ ho hh (p3,p4)
 refine Eq.trans (h (fun r s e=>by have q:=congrArg Prod.fst e; rcases r with x <;> cases q)) ?_
 unfold gW
 exact aL _ fun x=>by rcases x with x <;> rfl
abbrev mG (a0:List aE) (p1:List Int) (p2:Int):St:=⟨[(0,.d (.sl (cM aE.cells a0))),(3,.d (.sl (cM cI p1))),(4,dI p2)],[(6,none)]⟩
theorem BS (a0:List aE) (p1:List Int) (p2:Int):bP TT i6 (mG a0 p1 p2) (fun e s=>some (e,s)) = cD (fun (w:(List Int) × Int)=>mG a0 w.1 w.2) (fun (r:(List Int))=>(((.exit 0),⟨[(3,.d (.sl (cM cI r)))],[(6,none)]⟩):Ex × St)) (bL a0 p1 p2):=by
 unfold i6 bL
 have u:=@BH
 exact oR
theorem BQ {β:Type} (a0:List aE) (p1:List Int) (p2:Int) (k:Ex->St->Option β):bP TT sQ (mG a0 p1 p2) k = (j0 a0 p1 p2).bind (fun (r:(List Int))=>k (.exit 0) ⟨[(3,.d (.sl (cM cI r)))],[(6,none)]⟩):=by
 have hh:=fun (w:(List Int) × Int)=>BS a0 w.1 w.2
 have h:=fun ho=>aX (T:=TT) (k:=k) (c:=i6) (step:=(fun (w:(List Int) × Int)=>bL a0 w.1 w.2)) _ _ ho hh (p1,p2)
 refine Eq.trans (h (fun r s e=>by have q:=congrArg Prod.fst e; rcases r with x <;> cases q)) ?_
 unfold j0
 exact aL _ fun x=>by rcases x with x <;> rfl
theorem D4 (a0:List aE):Vm.call TT 22 [.sl (cM aE.cells a0)] = (gX a0).map fun (r:(List Int))=>.sl (cM cI r):=by
 refine (bE (show TT 22 = some (.code ⟨1,35,[.tmp 2],aOW,false,false⟩) from rfl) _ rfl rfl).trans ?_
 show bP TT aOW ⟨[(0,.d (.sl (cM aE.cells a0)))],[]⟩ _ = _
 unfold aOW gX
 have u:=@BQ
 exact oR
theorem EI (a0:List aE):KD TT 22 [.sl (cM aE.cells a0)] (gX a0) (fun (r:(List Int))=>.d (.sl (cM cI r))):=kD (D4 a0) (fun _=>rfl) (fun _=>rfl) (fun _=>rfl)
abbrev pH (a0:Int) (a1:List aE) (p1:Int):St:=⟨[(0,dI a0),(1,.d (.sl (cM aE.cells a1))),(5,dI p1)],[]⟩
theorem E1 (a0:Int) (a1:List aE) (p1:Int):bP TT kP (pH a0 a1 p1) (fun e s=>some (e,s)) = cD (fun (w:Int)=>pH a0 a1 w) (fun (r:Unit ⊕ Unit)=>Sum.elim (fun (z:Unit)=>(((.exit 0),⟨[(0,dI a0),(1,.d (.sl (cM aE.cells a1)))],[]⟩):Ex × St)) (fun (z:Unit)=>((.ret,⟨[(4,dB false)],[]⟩):Ex × St)) r) (b9 a0 a1 p1):=by
 unfold kP b9
 exact HW
theorem EL {β:Type} (a0:Int) (a1:List aE) (p1:Int) (k:Ex->St->Option β):bP TT vY (pH a0 a1 p1) k = (m8 a0 a1 p1).bind (fun (r:Unit ⊕ Unit)=>Sum.elim (fun (z:Unit)=>k (.exit 0) ⟨[(0,dI a0),(1,.d (.sl (cM aE.cells a1)))],[]⟩) (fun (z:Unit)=>k .ret ⟨[(4,dB false)],[]⟩) r):=by
 have hh:=fun (w:Int)=>E1 a0 a1 w
 have h:=fun ho=>aX (T:=TT) (k:=k) (c:=kP) (step:=(fun (w:Int)=>b9 a0 a1 w)) _ _ ho hh p1
 refine Eq.trans (h (fun r s e=>by have q:=congrArg Prod.fst e; rcases r with x | x <;> cases q)) ?_
 unfold m8
 exact aL _ fun x=>by rcases x with x | x <;> rfl
theorem JF (a0:Int) (a1:List aE):Vm.call TT 9 [.int .i64 a0,.sl (cM aE.cells a1)] = (j8 a0 a1).map fun (r:Bool)=>.bool r:=by
 refine (bE (show TT 9 = some (.code ⟨2,34,[.tmp 4],bd9,false,false⟩) from rfl) _ rfl rfl).trans ?_
 show bP TT bd9 ⟨[(0,dI a0),(1,.d (.sl (cM aE.cells a1)))],[]⟩ _ = _
 unfold bd9 j8
 have u:=aN (aN @EL @EI) (aN @GJ @I7)
 exact oR
theorem I5 (a0:Int) (a1:List aE):KF TT 9 [.int .i64 a0,.sl (cM aE.cells a1)] (j8 a0 a1) (fun (r:Bool)=>dB r):=kF (JF a0 a1) (fun _=>rfl) (fun _=>rfl)
theorem E0 {β:Type} (a0:List aE) (a1:List Int) (a2 p2 p5:Int) (k:Ex->St->Option β):bP TT pQ ⟨[(0,.d (.sl (cM aE.cells a0))),(1,.d (.sl (cM cI a1))),(2,dI a2),(7,dI p5),(8,dI p2)],[]⟩ k = (gY a0 a1 a2 p2 p5).bind (fun (r:Int)=>k .normal ⟨[(0,.d (.sl (cM aE.cells a0))),(1,.d (.sl (cM cI a1))),(2,dI a2),(7,dI r),(8,dI p2)],[]⟩):=by
 unfold pQ gY
 exact HW
abbrev o9 (a0:List aE) (a1:List Int) (a2 p1 p2:Int):St:=⟨[(0,.d (.sl (cM aE.cells a0))),(1,.d (.sl (cM cI a1))),(2,dI a2),(7,dI p1),(8,dI p2)],[]⟩
theorem ET (a0:List aE) (a1:List Int) (a2 p1 p2:Int):bP TT kO (o9 a0 a1 a2 p1 p2) (fun e s=>some (e,s)) = cD (fun (w:Int × Int)=>o9 a0 a1 a2 w.1 w.2) (fun (r:Int)=>(((.exit 0),⟨[(7,dI r)],[]⟩):Ex × St)) (cP a0 a1 a2 p1 p2):=by
 unfold kO cP
 have u:=@E0
 exact oR
theorem E8 {β:Type} (a0:List aE) (a1:List Int) (a2 p1 p2:Int) (k:Ex->St->Option β):bP TT vW (o9 a0 a1 a2 p1 p2) k = (jO a0 a1 a2 p1 p2).bind (fun (r:Int)=>k (.exit 0) ⟨[(7,dI r)],[]⟩):=by
 have hh:=fun (w:Int × Int)=>ET a0 a1 a2 w.1 w.2
 have h:=fun ho=>aX (T:=TT) (k:=k) (c:=kO) (step:=(fun (w:Int × Int)=>cP a0 a1 a2 w.1 w.2)) _ _ ho hh (p1,p2)
 refine Eq.trans (h (fun r s e=>by have q:=congrArg Prod.fst e; rcases r with x <;> cases q)) ?_
 unfold jO
 exact aL _ fun x=>by rcases x with x <;> rfl
theorem JI (a0:List aE) (a1:List Int) (a2:Int):Vm.call TT 30 [.sl (cM aE.cells a0),.sl (cM cI a1),.int .i64 a2] = (iP a0 a1 a2).map fun (r:Int)=>.int .i64 r:=by
 refine (bE (show TT 30 = some (.code ⟨3,42,[.tmp 6],aN9,false,false⟩) from rfl) _ rfl rfl).trans ?_
 show bP TT aN9 ⟨[(0,.d (.sl (cM aE.cells a0))),(1,.d (.sl (cM cI a1))),(2,dI a2)],[]⟩ _ = _
 unfold aN9 iP
 have u:=@E8
 exact oR
theorem JH (a0:List aE) (a1:List Int) (a2:Int):KF TT 30 [.sl (cM aE.cells a0),.sl (cM cI a1),.int .i64 a2] (iP a0 a1 a2) (fun (r:Int)=>dI r):=kF (JI a0 a1 a2) (fun _=>rfl) (fun _=>rfl)
theorem F2 {β:Type} (a1:List aF) (a2:List Int) (bl:List (Nat × Option aI)) (k:V->Option β) (kw:V->List (Nat × Option aI)->Option β):vX TT 104 bl 64 [.sl (cM aF.cells a1),.sl (cM cI a2)] k kw = (dS a1 a2).bind fun (r:(List aC))=>aZ bl 100104 fun b=>fL b (kw (.own 100104 0) ((100104,some (.rows 0 95 6 (cM aC.cells r))) :: [])):=qN (rD a1 a2) (fun _=>(nL rfl (uB (nV _ (fun _=>rfl) _) rfl)))
abbrev qV (a0:Int) (a1:List aF) (a2 a3:List Int) (p2:Int) (p3:List Int):St:=⟨[(0,dI a0),(1,.d (.sl (cM aF.cells a1))),(2,.d (.sl (cM cI a2))),(3,.d (.sl (cM cI a3))),(9,.own 33 0),(34,.d (.sl (cM aF.cells a1))),(35,dI (a1.length:Int)),(36,dI p2)],[(33,some (.rows 0 3 1 (cM cI p3)))]⟩
theorem F5 (a0:Int) (a1:List aF) (a2 a3:List Int) (p2:Int) (p3:List Int):bP TT lU (qV a0 a1 a2 a3 p2 p3) (fun e s=>some (e,s)) = cD (fun (w:Int × (List Int))=>qV a0 a1 a2 a3 w.1 w.2) (fun (r:((List Int)) ⊕ Unit)=>Sum.elim (fun (z:(List Int))=>(((.exit 0),⟨[(0,dI a0),(1,.d (.sl (cM aF.cells a1))),(2,.d (.sl (cM cI a2))),(3,.d (.sl (cM cI a3))),(9,.own 33 0)],[(33,some (.rows 0 3 1 (cM cI z)))]⟩):Ex × St)) (fun (z:Unit)=>((.ret,⟨[(8,dB false)],[]⟩):Ex × St)) r) (bZ a0 a1 a2 a3 p2 p3):=by
 unfold lU bZ
 exact HW
theorem F0 {β:Type} (a0:Int) (a1:List aF) (a2 a3:List Int) (p2:Int) (p3:List Int) (k:Ex->St->Option β):bP TT xC (qV a0 a1 a2 a3 p2 p3) k = (kL a0 a1 a2 a3 p2 p3).bind (fun (r:((List Int)) ⊕ Unit)=>Sum.elim (fun (z:(List Int))=>k (.exit 0) ⟨[(0,dI a0),(1,.d (.sl (cM aF.cells a1))),(2,.d (.sl (cM cI a2))),(3,.d (.sl (cM cI a3))),(9,.own 33 0)],[(33,some (.rows 0 3 1 (cM cI z)))]⟩) (fun (z:Unit)=>k .ret ⟨[(8,dB false)],[]⟩) r):=by
 have hh:=fun (w:Int × (List Int))=>F5 a0 a1 a2 a3 w.1 w.2
 have h:=fun ho=>aX (T:=TT) (k:=k) (c:=lU) (step:=(fun (w:Int × (List Int))=>bZ a0 a1 a2 a3 w.1 w.2)) _ _ ho hh (p2,p3)
 refine Eq.trans (h (fun r s e=>by have q:=congrArg Prod.fst e; rcases r with x | x <;> cases q)) ?_
 unfold kL
 exact aL _ fun x=>by rcases x with x | x <;> rfl
abbrev qT (a0:Int) (a1:List aF) (a2 a3:List Int) (z15:(List Int)) (p17:Int):St:=⟨[(1,.d (.sl (cM aF.cells a1))),(2,.d (.sl (cM cI a2))),(3,.d (.sl (cM cI a3))),(9,.own 33 0),(78,dI a0),(79,dI p17)],[(33,some (.rows 0 3 1 (cM cI z15)))]⟩
theorem GC (a0:Int) (a1:List aF) (a2 a3:List Int) (z15:(List Int)) (p17:Int):bP TT lZ (qT a0 a1 a2 a3 z15 p17) (fun e s=>some (e,s)) = cD (fun (w:Int)=>qT a0 a1 a2 a3 z15 w) (fun (r:Unit ⊕ Unit)=>Sum.elim (fun (z:Unit)=>(((.exit 2),⟨[(1,.d (.sl (cM aF.cells a1))),(2,.d (.sl (cM cI a2))),(3,.d (.sl (cM cI a3)))],[]⟩):Ex × St)) (fun (z:Unit)=>((.ret,⟨[(8,dB false)],[]⟩):Ex × St)) r) (c7 a0 a1 a2 a3 z15 p17):=by
 unfold lZ c7
 exact HW
theorem F3 {β:Type} (a0:Int) (a1:List aF) (a2 a3:List Int) (z15:(List Int)) (p17:Int) (k:Ex->St->Option β):bP TT wZ (qT a0 a1 a2 a3 z15 p17) k = (kJ a0 a1 a2 a3 z15 p17).bind (fun (r:Unit ⊕ Unit)=>Sum.elim (fun (z:Unit)=>k (.exit 2) ⟨[(1,.d (.sl (cM aF.cells a1))),(2,.d (.sl (cM cI a2))),(3,.d (.sl (cM cI a3)))],[]⟩) (fun (z:Unit)=>k .ret ⟨[(8,dB false)],[]⟩) r):=by
 have hh:=fun (w:Int)=>GC a0 a1 a2 a3 z15 w
 have h:=fun ho=>aX (T:=TT) (k:=k) (c:=lZ) (step:=(fun (w:Int)=>c7 a0 a1 a2 a3 z15 w)) _ _ ho hh p17
 refine Eq.trans (h (fun r s e=>by have q:=congrArg Prod.fst e; rcases r with x | x <;> cases q)) ?_
 unfold kJ
 exact aL _ fun x=>by rcases x with x | x <;> rfl
abbrev qS (a3:List Int) (r24:(List aC)) (p25:Int):St:=⟨[(3,.d (.sl (cM cI a3))),(104,.own 100104 0),(105,dI (r24.length:Int)),(106,dI p25)],[(100104,some (.rows 0 95 6 (cM aC.cells r24)))]⟩
theorem GA (a3:List Int) (r24:(List aC)) (p25:Int):bP TT lT (qS a3 r24 p25) (fun e s=>some (e,s)) = cD (fun (w:Int)=>qS a3 r24 w) (fun (r:Unit ⊕ Unit)=>Sum.elim (fun (z:Unit)=>(((.exit 4),⟨[],[]⟩):Ex × St)) (fun (z:Unit)=>((.ret,⟨[(8,dB false)],[]⟩):Ex × St)) r) (c8 a3 r24 p25):=by
 unfold lT c8
 exact HW
theorem FZ {β:Type} (a3:List Int) (r24:(List aC)) (p25:Int) (k:Ex->St->Option β):bP TT xB (qS a3 r24 p25) k = (kK a3 r24 p25).bind (fun (r:Unit ⊕ Unit)=>Sum.elim (fun (z:Unit)=>k (.exit 4) ⟨[],[]⟩) (fun (z:Unit)=>k .ret ⟨[(8,dB false)],[]⟩) r):=by
 have hh:=fun (w:Int)=>GA a3 r24 w
 have h:=fun ho=>aX (T:=TT) (k:=k) (c:=lT) (step:=(fun (w:Int)=>c8 a3 r24 w)) _ _ ho hh p25
 refine Eq.trans (h (fun r s e=>by have q:=congrArg Prod.fst e; rcases r with x | x <;> cases q)) ?_
 unfold kK
 exact aL _ fun x=>by rcases x with x | x <;> rfl
theorem K7 (a0:Int) (a1:List aF) (a2 a3:List Int):Vm.call TT 31 [.int .i64 a0,.sl (cM aF.cells a1),.sl (cM cI a2),.sl (cM cI a3)] = (jH a0 a1 a2 a3).map fun (r:Bool)=>.bool r:=by
 refine (bE (show TT 31 = some (.code ⟨4,125,[.tmp 8],aON,false,false⟩) from rfl) _ rfl rfl).trans ?_
 show bP TT aON ⟨[(0,dI a0),(1,.d (.sl (cM aF.cells a1))),(2,.d (.sl (cM cI a2))),(3,.d (.sl (cM cI a3)))],[]⟩ _ = _
 unfold aON jH
 have u:=aN (aN @F0 @F3) (aN @FZ (aN @wO @F2))
 exact oR
theorem KN (a0:Int) (a1:List aF) (a2 a3:List Int):KF TT 31 [.int .i64 a0,.sl (cM aF.cells a1),.sl (cM cI a2),.sl (cM cI a3)] (jH a0 a1 a2 a3) (fun (r:Bool)=>dB r):=kF (K7 a0 a1 a2 a3) (fun _=>rfl) (fun _=>rfl)
abbrev jE (a0:Int) (a1:List aE) (a2:List Int) (r1:Bool) (r3:(List Int) × (List Int) × Int) (p5:Int) (p6:List aF) (p7:List Int):St:=⟨[(0,dI a0),(1,.d (.sl (cM aE.cells a1))),(2,.d (.sl (cM cI a2))),(7,dB r1),(8,.d (.sl (cM cI r3.1))),(9,.d (.sl (cM cI r3.2.1))),(11,.own 54 0),(12,.own 55 0),(13,dI p5)],[(54,some (.rows 0 54 3 (cM aF.cells p6))),(55,some (.rows 0 3 1 (cM cI p7)))]⟩
theorem xF (a0:Int) (a1:List aE) (a2:List Int) (r1:Bool) (r3:(List Int) × (List Int) × Int) (p5:Int) (p6:List aF) (p7:List Int):bP TT fQ (jE a0 a1 a2 r1 r3 p5 p6 p7) (fun e s=>some (e,s)) = cD (fun (w:Int × (List aF) × (List Int))=>jE a0 a1 a2 r1 r3 w.1 w.2.1 w.2.2) (fun (r:((List aF) × (List Int)) ⊕ Unit)=>Sum.elim (fun (z:(List aF) × (List Int))=>(((.exit 0),⟨[(0,dI a0),(1,.d (.sl (cM aE.cells a1))),(7,dB r1),(8,.d (.sl (cM cI r3.1))),(9,.d (.sl (cM cI r3.2.1))),(11,.own 54 0),(12,.own 55 0)],[(54,some (.rows 0 54 3 (cM aF.cells z.1))),(55,some (.rows 0 3 1 (cM cI z.2)))]⟩):Ex × St)) (fun (z:Unit)=>((.ret,⟨[(6,dB false)],[]⟩):Ex × St)) r) (bG a0 a1 a2 r1 r3 p5 p6 p7):=by
 unfold fQ bG
 have u:=@zT
 exact oR
theorem xU {β:Type} (a0:Int) (a1:List aE) (a2:List Int) (r1:Bool) (r3:(List Int) × (List Int) × Int) (p5:Int) (p6:List aF) (p7:List Int) (k:Ex->St->Option β):bP TT oL (jE a0 a1 a2 r1 r3 p5 p6 p7) k = (dA a0 a1 a2 r1 r3 p5 p6 p7).bind (fun (r:((List aF) × (List Int)) ⊕ Unit)=>Sum.elim (fun (z:(List aF) × (List Int))=>k (.exit 0) ⟨[(0,dI a0),(1,.d (.sl (cM aE.cells a1))),(7,dB r1),(8,.d (.sl (cM cI r3.1))),(9,.d (.sl (cM cI r3.2.1))),(11,.own 54 0),(12,.own 55 0)],[(54,some (.rows 0 54 3 (cM aF.cells z.1))),(55,some (.rows 0 3 1 (cM cI z.2)))]⟩) (fun (z:Unit)=>k .ret ⟨[(6,dB false)],[]⟩) r):=by
 have hh:=fun (w:Int × (List aF) × (List Int))=>xF a0 a1 a2 r1 r3 w.1 w.2.1 w.2.2
 have h:=fun ho=>aX (T:=TT) (k:=k) (c:=fQ) (step:=(fun (w:Int × (List aF) × (List Int))=>bG a0 a1 a2 r1 r3 w.1 w.2.1 w.2.2)) _ _ ho hh (p5,p6,p7)
 refine Eq.trans (h (fun r s e=>by have q:=congrArg Prod.fst e; rcases r with x | x <;> cases q)) ?_
 unfold dA
 exact aL _ fun x=>by rcases x with x | x <;> rfl
abbrev jI (a0:Int) (a1:List aE) (r1:Bool) (r3:(List Int) × (List Int) × Int) (z19:(List aF) × (List Int)) (p21:Int):St:=⟨[(0,dI a0),(1,.d (.sl (cM aE.cells a1))),(7,dB r1),(8,.d (.sl (cM cI r3.1))),(9,.d (.sl (cM cI r3.2.1))),(11,.own 54 0),(12,.own 55 0),(14,dI p21)],[(54,some (.rows 0 54 3 (cM aF.cells z19.1))),(55,some (.rows 0 3 1 (cM cI z19.2)))]⟩
theorem xG (a0:Int) (a1:List aE) (r1:Bool) (r3:(List Int) × (List Int) × Int) (z19:(List aF) × (List Int)) (p21:Int):bP TT fN (jI a0 a1 r1 r3 z19 p21) (fun e s=>some (e,s)) = cD (fun (w:Int)=>jI a0 a1 r1 r3 z19 w) (fun (r:Unit ⊕ Unit)=>Sum.elim (fun (z:Unit)=>(((.exit 2),⟨[(0,dI a0),(7,dB r1),(9,.d (.sl (cM cI r3.2.1))),(11,.own 54 0),(12,.own 55 0)],[(54,some (.rows 0 54 3 (cM aF.cells z19.1))),(55,some (.rows 0 3 1 (cM cI z19.2)))]⟩):Ex × St)) (fun (z:Unit)=>((.ret,⟨[(6,dB false)],[]⟩):Ex × St)) r) (bH a0 a1 r1 r3 z19 p21):=by
 unfold fN bH
 have u:=@JH
 exact oR
theorem xK {β:Type} (a0:Int) (a1:List aE) (r1:Bool) (r3:(List Int) × (List Int) × Int) (z19:(List aF) × (List Int)) (p21:Int) (k:Ex->St->Option β):bP TT n7 (jI a0 a1 r1 r3 z19 p21) k = (gH a0 a1 r1 r3 z19 p21).bind (fun (r:Unit ⊕ Unit)=>Sum.elim (fun (z:Unit)=>k (.exit 2) ⟨[(0,dI a0),(7,dB r1),(9,.d (.sl (cM cI r3.2.1))),(11,.own 54 0),(12,.own 55 0)],[(54,some (.rows 0 54 3 (cM aF.cells z19.1))),(55,some (.rows 0 3 1 (cM cI z19.2)))]⟩) (fun (z:Unit)=>k .ret ⟨[(6,dB false)],[]⟩) r):=by
 have hh:=fun (w:Int)=>xG a0 a1 r1 r3 z19 w
 have h:=fun ho=>aX (T:=TT) (k:=k) (c:=fN) (step:=(fun (w:Int)=>bH a0 a1 r1 r3 z19 w)) _ _ ho hh p21
 refine Eq.trans (h (fun r s e=>by have q:=congrArg Prod.fst e; rcases r with x | x <;> cases q)) ?_
 unfold gH
 exact aL _ fun x=>by rcases x with x | x <;> rfl
theorem AB (a0:Int) (a1:List aE) (a2:List Int):Vm.call TT 6 [.int .i64 a0,.sl (cM aE.cells a1),.sl (cM cI a2)] = (fV a0 a1 a2).map fun (r:Bool)=>.bool r:=by
 refine (bE (show TT 6 = some (.code ⟨3,131,[.tmp 6],bd6,false,false⟩) from rfl) _ rfl rfl).trans ?_
 show bP TT bd6 ⟨[(0,dI a0),(1,.d (.sl (cM aE.cells a1))),(2,.d (.sl (cM cI a2)))],[]⟩ _ = _
 unfold bd6 fV
 have u:=aN (aN @xU (aN @xK @F9)) (aN (aN @I5 @FS) (aN @zT @KN))
 exact oR
end Go.Proofs.Ytgjcnbgfaimepaa
