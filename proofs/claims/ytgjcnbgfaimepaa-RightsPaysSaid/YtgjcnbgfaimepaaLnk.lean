/- The functions of the small machine compute the plain definitions. Printed by a program. -/
import Derived.Test.YtgjcnbgfaimepaaLnk4
set_option linter.unusedVariables false
set_option linter.unusedSimpArgs false
namespace Go.Proofs.Ytgjcnbgfaimepaa
open Vm
open Go.RowKit
set_option maxRecDepth 100000
set_option maxHeartbeats 4000000
attribute [local congr] yZ BS zP BP
abbrev pW (a0:List Int) (a1 p1:Int):St:=⟨[(0,.d (.sl (cM cI a0))),(1,dI a1),(5,dI p1)],[]⟩
theorem FL (a0:List Int) (a1 p1:Int):bU TT lJ (pW a0 a1 p1) (fun e s=>some (e,s)) = cJ (fun (w:Int)=>pW a0 a1 w) (fun (r:Unit ⊕ Unit)=>Sum.elim (fun (z:Unit)=>(((.exit 0),⟨[],[]⟩):Ex × St)) (fun (z:Unit)=>((.ret,⟨[(4,dB true)],[]⟩):Ex × St)) r) (cY a0 a1 p1):=by
 unfold lJ cY
 exact IA
theorem E8 {β:Type} (a0:List Int) (a1 p1:Int) (k:Ex->St->Option β):bU TT wX (pW a0 a1 p1) k = (m9 a0 a1 p1).bind (fun (r:Unit ⊕ Unit)=>Sum.elim (fun (z:Unit)=>k (.exit 0) ⟨[],[]⟩) (fun (z:Unit)=>k .ret ⟨[(4,dB true)],[]⟩) r):=by
 have hh:=fun (w:Int)=>FL a0 a1 w
 have h:=fun ho=>bA (T:=TT) (k:=k) (c:=lJ) (step:=(fun (w:Int)=>cY a0 a1 w)) _ _ ho hh p1
 refine Eq.trans (h (fun r s e=>by have q:=congrArg Prod.fst e; rcases r with x | x <;> cases q)) ?_
 unfold m9
 exact aP _ fun x=>by rcases x with x | x <;> rfl
theorem J1 (a0:List Int) (a1:Int):Vm.call TT 29 [.sl (cM cI a0),.int .i64 a1] = (kK a0 a1).map fun (r:Bool)=>.bool r:=by
 refine (bI (show TT 29 = some (.code ⟨2,18,[.tmp 4],aMC,false,false⟩) from rfl) _ rfl rfl).trans ?_
 show bU TT aMC ⟨[(0,.d (.sl (cM cI a0))),(1,dI a1)],[]⟩ _ = _
 unfold aMC kK
 have u:=@E8
 exact n8
theorem JP (a0:List Int) (a1:Int):KF TT 29 [.sl (cM cI a0),.int .i64 a1] (kK a0 a1) (fun (r:Bool)=>dB r):=kF (J1 a0 a1) (fun _=>rfl) (fun _=>rfl)
theorem EL {β:Type} (a0:List Int) (a1 p3:Int) (p6:Bool) (p7:List Int) (k:Ex->St->Option β):bU TT pT ⟨[(0,.d (.sl (cM cI a0))),(1,dI a1),(5,.own 12 0),(6,dB p6),(7,dI p3)],[(12,some (.rows 0 3 1 (cM cI p7)))]⟩ k = (fN a0 a1 p3 p6 p7).bind (fun (r:(List Int))=>k .normal ⟨[(0,.d (.sl (cM cI a0))),(1,dI a1),(5,.own 12 0),(6,dB p6),(7,dI p3)],[(12,some (.rows 0 3 1 (cM cI r)))]⟩):=by
 unfold pT fN
 exact IA
abbrev qD (a0:List Int) (a1:Int) (p2:Bool) (p3:Int) (p4:List Int):St:=⟨[(0,.d (.sl (cM cI a0))),(1,dI a1),(5,.own 12 0),(6,dB p2),(7,dI p3)],[(12,some (.rows 0 3 1 (cM cI p4)))]⟩
theorem E3 (a0:List Int) (a1:Int) (p2:Bool) (p3:Int) (p4:List Int):bU TT lN (qD a0 a1 p2 p3 p4) (fun e s=>some (e,s)) = cJ (fun (w:Bool × Int × (List Int))=>qD a0 a1 w.1 w.2.1 w.2.2) (fun (r:Bool × (List Int))=>(((.exit 0),⟨[(1,dI a1),(5,.own 12 0),(6,dB r.1)],[(12,some (.rows 0 3 1 (cM cI r.2)))]⟩):Ex × St)) (bE a0 a1 p2 p3 p4):=by
 unfold lN bE
 have u:=@EL
 exact n8
theorem EP {β:Type} (a0:List Int) (a1:Int) (p2:Bool) (p3:Int) (p4:List Int) (k:Ex->St->Option β):bU TT w6 (qD a0 a1 p2 p3 p4) k = (nB a0 a1 p2 p3 p4).bind (fun (r:Bool × (List Int))=>k (.exit 0) ⟨[(1,dI a1),(5,.own 12 0),(6,dB r.1)],[(12,some (.rows 0 3 1 (cM cI r.2)))]⟩):=by
 have hh:=fun (w:Bool × Int × (List Int))=>E3 a0 a1 w.1 w.2.1 w.2.2
 have h:=fun ho=>bA (T:=TT) (k:=k) (c:=lN) (step:=(fun (w:Bool × Int × (List Int))=>bE a0 a1 w.1 w.2.1 w.2.2)) _ _ ho hh (p2,p3,p4)
 refine Eq.trans (h (fun r s e=>by have q:=congrArg Prod.fst e; rcases r with x <;> cases q)) ?_
 unfold nB
 exact aP _ fun x=>by rcases x with x <;> rfl
theorem J3 (a0:List Int) (a1:Int):Vm.call TT 59 [.sl (cM cI a0),.int .i64 a1] = (kJ a0 a1).map fun (r:(List Int))=>.sl (cM cI r):=by
 refine (bI (show TT 59 = some (.code ⟨2,47,[.tmp 4],aNM,false,false⟩) from rfl) _ rfl rfl).trans ?_
 show bU TT aNM ⟨[(0,.d (.sl (cM cI a0))),(1,dI a1)],[]⟩ _ = _
 unfold aNM kJ
 have u:=aN @EP @JP
 exact n8
theorem J2 (a0:List Int) (a1:Int):KD TT 59 [.sl (cM cI a0),.int .i64 a1] (kJ a0 a1) (fun (r:(List Int))=>.d (.sl (cM cI r))):=kD (J3 a0 a1) (fun _=>rfl) (fun _=>rfl) (fun _=>rfl)
abbrev mP (a0:List aE) (p2:Int) (p3:List Int) (p4:Int):St:=⟨[(0,.d (.sl (cM aE.cells a0))),(3,.d (.sl (cM cI p3))),(4,dI p2),(5,dI p4)],[(6,none)]⟩
theorem CI (a0:List aE) (p2:Int) (p3:List Int) (p4:Int):bU TT jJ (mP a0 p2 p3 p4) (fun e s=>some (e,s)) = cJ (fun (w:(List Int) × Int)=>mP a0 p2 w.1 w.2) (fun (r:(List Int))=>(((.exit 2),⟨[(0,.d (.sl (cM aE.cells a0))),(3,.d (.sl (cM cI r))),(4,dI p2)],[(6,none)]⟩):Ex × St)) (cA a0 p2 p3 p4):=by
 unfold jJ cA
 have u:=@J2
 exact n8
theorem CH {β:Type} (a0:List aE) (p2:Int) (p3:List Int) (p4:Int) (k:Ex->St->Option β):bU TT sN (mP a0 p2 p3 p4) k = (hU a0 p2 p3 p4).bind (fun (r:(List Int))=>k (.exit 2) ⟨[(0,.d (.sl (cM aE.cells a0))),(3,.d (.sl (cM cI r))),(4,dI p2)],[(6,none)]⟩):=by
 have hh:=fun (w:(List Int) × Int)=>CI a0 p2 w.1 w.2
 have h:=fun ho=>bA (T:=TT) (k:=k) (c:=jJ) (step:=(fun (w:(List Int) × Int)=>cA a0 p2 w.1 w.2)) _ _ ho hh (p3,p4)
 refine Eq.trans (h (fun r s e=>by have q:=congrArg Prod.fst e; rcases r with x <;> cases q)) ?_
 unfold hU
 exact aP _ fun x=>by rcases x with x <;> rfl
abbrev mN (a0:List aE) (p1:List Int) (p2:Int):St:=⟨[(0,.d (.sl (cM aE.cells a0))),(3,.d (.sl (cM cI p1))),(4,dI p2)],[(6,none)]⟩
theorem CA (a0:List aE) (p1:List Int) (p2:Int):bU TT jH (mN a0 p1 p2) (fun e s=>some (e,s)) = cJ (fun (w:(List Int) × Int)=>mN a0 w.1 w.2) (fun (r:(List Int))=>(((.exit 0),⟨[(3,.d (.sl (cM cI r)))],[(6,none)]⟩):Ex × St)) (bS a0 p1 p2):=by
 unfold jH bS
 have u:=@CH
 exact n8
theorem CE {β:Type} (a0:List aE) (p1:List Int) (p2:Int) (k:Ex->St->Option β):bU TT sR (mN a0 p1 p2) k = (kI a0 p1 p2).bind (fun (r:(List Int))=>k (.exit 0) ⟨[(3,.d (.sl (cM cI r)))],[(6,none)]⟩):=by
 have hh:=fun (w:(List Int) × Int)=>CA a0 w.1 w.2
 have h:=fun ho=>bA (T:=TT) (k:=k) (c:=jH) (step:=(fun (w:(List Int) × Int)=>bS a0 w.1 w.2)) _ _ ho hh (p1,p2)
 refine Eq.trans (h (fun r s e=>by have q:=congrArg Prod.fst e; rcases r with x <;> cases q)) ?_
 unfold kI
 exact aP _ fun x=>by rcases x with x <;> rfl
theorem FE (a0:List aE):Vm.call TT 22 [.sl (cM aE.cells a0)] = (iA a0).map fun (r:(List Int))=>.sl (cM cI r):=by
 refine (bI (show TT 22 = some (.code ⟨1,35,[.tmp 2],aO6,false,false⟩) from rfl) _ rfl rfl).trans ?_
 show bU TT aO6 ⟨[(0,.d (.sl (cM aE.cells a0)))],[]⟩ _ = _
 unfold aO6 iA
 have u:=@CE
 exact n8
theorem FG (a0:List aE):KD TT 22 [.sl (cM aE.cells a0)] (iA a0) (fun (r:(List Int))=>.d (.sl (cM cI r))):=kD (FE a0) (fun _=>rfl) (fun _=>rfl) (fun _=>rfl)
abbrev qF (a0:Int) (a1:List aE) (p1:Int):St:=⟨[(0,dI a0),(1,.d (.sl (cM aE.cells a1))),(5,dI p1)],[]⟩
theorem EM (a0:Int) (a1:List aE) (p1:Int):bU TT lI (qF a0 a1 p1) (fun e s=>some (e,s)) = cJ (fun (w:Int)=>qF a0 a1 w) (fun (r:Unit ⊕ Unit)=>Sum.elim (fun (z:Unit)=>(((.exit 0),⟨[(0,dI a0),(1,.d (.sl (cM aE.cells a1)))],[]⟩):Ex × St)) (fun (z:Unit)=>((.ret,⟨[(4,dB false)],[]⟩):Ex × St)) r) (cH a0 a1 p1):=by
 unfold lI cH
 exact IA
theorem FP {β:Type} (a0:Int) (a1:List aE) (p1:Int) (k:Ex->St->Option β):bU TT wD (qF a0 a1 p1) k = (nL a0 a1 p1).bind (fun (r:Unit ⊕ Unit)=>Sum.elim (fun (z:Unit)=>k (.exit 0) ⟨[(0,dI a0),(1,.d (.sl (cM aE.cells a1)))],[]⟩) (fun (z:Unit)=>k .ret ⟨[(4,dB false)],[]⟩) r):=by
 have hh:=fun (w:Int)=>EM a0 a1 w
 have h:=fun ho=>bA (T:=TT) (k:=k) (c:=lI) (step:=(fun (w:Int)=>cH a0 a1 w)) _ _ ho hh p1
 refine Eq.trans (h (fun r s e=>by have q:=congrArg Prod.fst e; rcases r with x | x <;> cases q)) ?_
 unfold nL
 exact aP _ fun x=>by rcases x with x | x <;> rfl
theorem JO (a0:Int) (a1:List aE):Vm.call TT 9 [.int .i64 a0,.sl (cM aE.cells a1)] = (kG a0 a1).map fun (r:Bool)=>.bool r:=by
 refine (bI (show TT 9 = some (.code ⟨2,34,[.tmp 4],bd9,false,false⟩) from rfl) _ rfl rfl).trans ?_
 show bU TT bd9 ⟨[(0,dI a0),(1,.d (.sl (cM aE.cells a1)))],[]⟩ _ = _
 unfold bd9 kG
 have u:=aN (aN @FP @FG) (aN @HT @JJ)
 exact n8
theorem JL (a0:Int) (a1:List aE):KF TT 9 [.int .i64 a0,.sl (cM aE.cells a1)] (kG a0 a1) (fun (r:Bool)=>dB r):=kF (JO a0 a1) (fun _=>rfl) (fun _=>rfl)
theorem tX (a0:List aG):Vm.call TT 65 [.sl (cM aG.cells a0)] = (dH a0).map fun (r:(List aG))=>.own (.ref 0) [(58,9)] [cM aG.cells r]:=by
 refine (N1 (show TT 65 = some (.told o65) from rfl) _ rfl).trans ?_
 have h1:sized 9 (cM aG.cells a0) = true:=kY _ _ (fun x=>by rfl) a0
 have h2:J8 (cM aG.cells a0) = true:=XA _ _ (fun x=>rfl)
 have h3:(cM aG.cells a0).length = a0.length:=List.length_map ..
 simp only [o65,NW,h1,h2,h3,true_and,dH]
 split <;> rfl
theorem W2 (a0:aW) (a1:Bool) (a2:aG):Vm.call TT 66 [.agg a0.cells,.bool a1,.agg a2.cells] = (BE a0 a1 a2).map fun (r:Bool)=>.bool r:=by
 refine (bI (show TT 66 = some (.code ⟨3,20,[.tmp 6],aNE,false,false⟩) from rfl) _ rfl rfl).trans ?_
 show bU TT aNE ⟨[(0,iX a0.cells),(1,dB a1),(2,iX a2.cells)],[]⟩ _ = _
 unfold aNE BE
 exact IA
theorem W5 (a0:aW) (a1:Bool) (a2:aG):KF TT 66 [.agg a0.cells,.bool a1,.agg a2.cells] (BE a0 a1 a2) (fun (r:Bool)=>dB r):=kF (W2 a0 a1 a2) (fun _=>rfl) (fun _=>rfl)
theorem PT {β:Type} (a0:List aG) (bl:List (Nat × Option aJ)) (k:V->Option β) (kw:V->List (Nat × Option aJ)->Option β):wM TT 21 bl 65 [.sl (cM aG.cells a0)] k kw = (dH a0).bind fun (r:(List aG))=>bC bl 100021 fun b=>fU b (kw (.own 100021 0) ((100021,some (.rows 0 58 9 (cM aG.cells r))) :: [])):=qW (tX a0) (fun _=>(nS rfl (uL (oB _ (fun _=>rfl) _) rfl)))
abbrev AM (a0:List aG) (a1:aW) (a2:Int) (a3:Bool) (p2:Int) (p3:List aU) (p4:List aG):St:=⟨[(2,dI a2),(3,dB a3),(5,.ptr 5 0),(8,.own 100021 0),(9,.own 58 0),(10,dI (if a1.Sum > 0 then a1.Sum else 0)),(11,.nil),(22,.d (.sl (cM aG.cells a0))),(23,dI (a0.length:Int)),(24,dI p2)],[(5,some (.box (aO a1.cells))),(58,some (.rows 0 67 4 (cM aU.cells p3))),(100021,some (.rows 0 58 9 (cM aG.cells p4)))]⟩
theorem PI (a0:List aG) (a1:aW) (a2:Int) (a3:Bool) (p2:Int) (p3:List aU) (p4:List aG):bU TT uE (AM a0 a1 a2 a3 p2 p3 p4) (fun e s=>some (e,s)) = cJ (fun (w:Int × (List aU) × (List aG))=>AM a0 a1 a2 a3 w.1 w.2.1 w.2.2) (fun (r:(List aU) × (List aG))=>(((.exit 0),⟨[(8,.own 100021 0),(9,.own 58 0),(11,.nil)],[(58,some (.rows 0 67 4 (cM aU.cells r.1))),(100021,some (.rows 0 58 9 (cM aG.cells r.2)))]⟩):Ex × St)) (fS a0 a1 a2 a3 p2 p3 p4):=by
 unfold uE fS
 have u:=aN @aTg @W5
 exact n8
theorem PV {β:Type} (a0:List aG) (a1:aW) (a2:Int) (a3:Bool) (p2:Int) (p3:List aU) (p4:List aG) (k:Ex->St->Option β):bU TT GH (AM a0 a1 a2 a3 p2 p3 p4) k = (tU a0 a1 a2 a3 p2 p3 p4).bind (fun (r:(List aU) × (List aG))=>k (.exit 0) ⟨[(8,.own 100021 0),(9,.own 58 0),(11,.nil)],[(58,some (.rows 0 67 4 (cM aU.cells r.1))),(100021,some (.rows 0 58 9 (cM aG.cells r.2)))]⟩):=by
 have hh:=fun (w:Int × (List aU) × (List aG))=>PI a0 a1 a2 a3 w.1 w.2.1 w.2.2
 have h:=fun ho=>bA (T:=TT) (k:=k) (c:=uE) (step:=(fun (w:Int × (List aU) × (List aG))=>fS a0 a1 a2 a3 w.1 w.2.1 w.2.2)) _ _ ho hh (p2,p3,p4)
 refine Eq.trans (h (fun r s e=>by have q:=congrArg Prod.fst e; rcases r with x <;> cases q)) ?_
 unfold tU
 exact aP _ fun x=>by rcases x with x <;> rfl
abbrev GC (r10:(List aU) × (List aG)):St:=⟨[(8,.own 100021 0),(9,.own 58 0),(92,.nil),(93,dI 0),(94,dI 0)],[(58,some (.rows 0 67 4 (cM aU.cells r10.1))),(100021,some (.rows 0 58 9 (cM aG.cells r10.2)))]⟩
theorem PG (r10:(List aU) × (List aG)):bU TT uJ (GC r10) (fun e s=>some (e,s)) = cJ (fun (w:Unit)=>(⟨[(8,.own 100021 0),(9,.own 58 0),(92,.nil),(93,dI 0),(94,dI 0)],[(58,some (.rows 0 67 4 (cM aU.cells r10.1))),(100021,some (.rows 0 58 9 (cM aG.cells r10.2)))]⟩ : St)) (fun (r:Unit)=>(((.exit 2),⟨[(8,.own 100021 0),(9,.own 58 0)],[(58,some (.rows 0 67 4 (cM aU.cells r10.1))),(100021,some (.rows 0 58 9 (cM aG.cells r10.2)))]⟩):Ex × St)) (mQ r10):=by
 unfold uJ mQ
 have u:=@aSU
 exact n8
theorem PP {β:Type} (r10:(List aU) × (List aG)) (k:Ex->St->Option β):bU TT GB (GC r10) k = (uC r10).bind (fun (r:Unit)=>k (.exit 2) ⟨[(8,.own 100021 0),(9,.own 58 0)],[(58,some (.rows 0 67 4 (cM aU.cells r10.1))),(100021,some (.rows 0 58 9 (cM aG.cells r10.2)))]⟩):=by
 have hh:=fun (w:Unit)=>PG r10
 have h:=fun ho=>bA (T:=TT) (k:=k) (c:=uJ) (step:=(fun (w:Unit)=>mQ r10)) _ _ ho hh ()
 refine Eq.trans (h (fun r s e=>by have q:=congrArg Prod.fst e; rcases r with x <;> cases q)) ?_
 unfold uC
 exact aP _ fun x=>by rcases x with x <;> rfl
theorem W0 (a0:List aG) (a1:aW) (a2:Int) (a3:Bool):Vm.call TT 32 [.sl (cM aG.cells a0),.agg a1.cells,.int .i64 a2,.bool a3] = (xV a0 a1 a2 a3).map fun (r:(List aG) × (List aU))=>.tup [.sl (cM aG.cells r.1),.sl (cM aU.cells r.2)]:=by
 refine (bI (show TT 32 = some (.code ⟨4,104,[.tmp 8,.tmp 9],aMl,false,false⟩) from rfl) _ rfl rfl).trans ?_
 show bU TT aMl ⟨[(0,.d (.sl (cM aG.cells a0))),(1,iX a1.cells),(2,dI a2),(3,dB a3)],[]⟩ _ = _
 unfold aMl xV
 have u:=aN @PV (aN @PP @PT)
 exact n8
theorem WB (a0:List aG) (a1:aW) (a2:Int) (a3:Bool):KD TT 32 [.sl (cM aG.cells a0),.agg a1.cells,.int .i64 a2,.bool a3] (xV a0 a1 a2 a3) (fun (r:(List aG) × (List aU))=>.tup [.d (.sl (cM aG.cells r.1)),.d (.sl (cM aU.cells r.2))]):=kD (W0 a0 a1 a2 a3) (fun _=>rfl) (fun _=>rfl) (fun _=>rfl)
abbrev kC (a0 a1:List aG) (p1:Int):St:=⟨[(0,.d (.sl (cM aG.cells a0))),(1,.d (.sl (cM aG.cells a1))),(5,dI p1)],[]⟩
theorem zX (a0 a1:List aG) (p1:Int):bU TT gF (kC a0 a1 p1) (fun e s=>some (e,s)) = cJ (fun (w:Int)=>kC a0 a1 w) (fun (r:Unit ⊕ Unit)=>Sum.elim (fun (z:Unit)=>(((.exit 0),⟨[],[]⟩):Ex × St)) (fun (z:Unit)=>((.ret,⟨[(4,dB false)],[]⟩):Ex × St)) r) (bG a0 a1 p1):=by
 unfold gF bG
 exact IA
theorem yS {β:Type} (a0 a1:List aG) (p1:Int) (k:Ex->St->Option β):bU TT pD (kC a0 a1 p1) k = (iF a0 a1 p1).bind (fun (r:Unit ⊕ Unit)=>Sum.elim (fun (z:Unit)=>k (.exit 0) ⟨[],[]⟩) (fun (z:Unit)=>k .ret ⟨[(4,dB false)],[]⟩) r):=by
 have hh:=fun (w:Int)=>zX a0 a1 w
 have h:=fun ho=>bA (T:=TT) (k:=k) (c:=gF) (step:=(fun (w:Int)=>bG a0 a1 w)) _ _ ho hh p1
 refine Eq.trans (h (fun r s e=>by have q:=congrArg Prod.fst e; rcases r with x | x <;> cases q)) ?_
 unfold iF
 exact aP _ fun x=>by rcases x with x | x <;> rfl
theorem BQ (a0 a1:List aG):Vm.call TT 33 [.sl (cM aG.cells a0),.sl (cM aG.cells a1)] = (eZ a0 a1).map fun (r:Bool)=>.bool r:=by
 refine (bI (show TT 33 = some (.code ⟨2,26,[.tmp 4],aNW,false,false⟩) from rfl) _ rfl rfl).trans ?_
 show bU TT aNW ⟨[(0,.d (.sl (cM aG.cells a0))),(1,.d (.sl (cM aG.cells a1)))],[]⟩ _ = _
 unfold aNW eZ
 have u:=@yS
 exact n8
theorem BD (a0 a1:List aG):KF TT 33 [.sl (cM aG.cells a0),.sl (cM aG.cells a1)] (eZ a0 a1) (fun (r:Bool)=>dB r):=kF (BQ a0 a1) (fun _=>rfl) (fun _=>rfl)
abbrev nO (a0:List Int) (p1 p2:Int):St:=⟨[(0,.d (.sl (cM cI a0))),(3,dI p1),(4,dI p2)],[]⟩
theorem DC (a0:List Int) (p1 p2:Int):bU TT jX (nO a0 p1 p2) (fun e s=>some (e,s)) = cJ (fun (w:Int × Int)=>nO a0 w.1 w.2) (fun (r:Int ⊕ Unit)=>Sum.elim (fun (z:Int)=>(((.exit 0),⟨[(3,dI z)],[]⟩):Ex × St)) (fun (z:Unit)=>((.ret,⟨[(2,dI 0)],[]⟩):Ex × St)) r) (bD a0 p1 p2):=by
 unfold jX bD
 exact IA
theorem C8 {β:Type} (a0:List Int) (p1 p2:Int) (k:Ex->St->Option β):bU TT uA (nO a0 p1 p2) k = (lH a0 p1 p2).bind (fun (r:Int ⊕ Unit)=>Sum.elim (fun (z:Int)=>k (.exit 0) ⟨[(3,dI z)],[]⟩) (fun (z:Unit)=>k .ret ⟨[(2,dI 0)],[]⟩) r):=by
 have hh:=fun (w:Int × Int)=>DC a0 w.1 w.2
 have h:=fun ho=>bA (T:=TT) (k:=k) (c:=jX) (step:=(fun (w:Int × Int)=>bD a0 w.1 w.2)) _ _ ho hh (p1,p2)
 refine Eq.trans (h (fun r s e=>by have q:=congrArg Prod.fst e; rcases r with x | x <;> cases q)) ?_
 unfold lH
 exact aP _ fun x=>by rcases x with x | x <;> rfl
theorem GQ (a0:List Int):Vm.call TT 34 [.sl (cM cI a0)] = (i8 a0).map fun (r:Int)=>.int .i64 r:=by
 refine (bI (show TT 34 = some (.code ⟨1,35,[.tmp 2],aMG,false,false⟩) from rfl) _ rfl rfl).trans ?_
 show bU TT aMG ⟨[(0,.d (.sl (cM cI a0)))],[]⟩ _ = _
 unfold aMG i8
 have u:=@C8
 exact n8
theorem GU (a0:List Int):KF TT 34 [.sl (cM cI a0)] (i8 a0) (fun (r:Int)=>dI r):=kF (GQ a0) (fun _=>rfl) (fun _=>rfl)
abbrev kB (a0:Int) (a1:List aE) (a3:Int) (r1:Bool) (r3:(List Int) × (List Int) × Int) (r4:(List Int) × (List aW)) (p5 p6:Int):St:=⟨[(0,dI a0),(1,.d (.sl (cM aE.cells a1))),(3,dI a3),(9,dB r1),(10,.d (.sl (cM cI r3.1))),(13,.d (.sl (cM cI r4.1))),(14,.d (.sl (cM aW.cells r4.2))),(15,dI p5),(16,dI p6)],[]⟩
theorem yX (a0:Int) (a1:List aE) (a3:Int) (r1:Bool) (r3:(List Int) × (List Int) × Int) (r4:(List Int) × (List aW)) (p5 p6:Int):bU TT gH (kB a0 a1 a3 r1 r3 r4 p5 p6) (fun e s=>some (e,s)) = cJ (fun (w:Int × Int)=>kB a0 a1 a3 r1 r3 r4 w.1 w.2) (fun (r:Int ⊕ Unit)=>Sum.elim (fun (z:Int)=>(((.exit 0),⟨[(0,dI a0),(9,dB r1),(10,.d (.sl (cM cI r3.1))),(14,.d (.sl (cM aW.cells r4.2))),(15,dI z)],[]⟩):Ex × St)) (fun (z:Unit)=>((.ret,⟨[(8,dB false)],[]⟩):Ex × St)) r) (bO a0 a1 a3 r1 r3 r4 p5 p6):=by
 unfold gH bO
 have u:=aN @WB @BD
 exact n8
theorem zV {β:Type} (a0:Int) (a1:List aE) (a3:Int) (r1:Bool) (r3:(List Int) × (List Int) × Int) (r4:(List Int) × (List aW)) (p5 p6:Int) (k:Ex->St->Option β):bU TT pA (kB a0 a1 a3 r1 r3 r4 p5 p6) k = (dR a0 a1 a3 r1 r3 r4 p5 p6).bind (fun (r:Int ⊕ Unit)=>Sum.elim (fun (z:Int)=>k (.exit 0) ⟨[(0,dI a0),(9,dB r1),(10,.d (.sl (cM cI r3.1))),(14,.d (.sl (cM aW.cells r4.2))),(15,dI z)],[]⟩) (fun (z:Unit)=>k .ret ⟨[(8,dB false)],[]⟩) r):=by
 have hh:=fun (w:Int × Int)=>yX a0 a1 a3 r1 r3 r4 w.1 w.2
 have h:=fun ho=>bA (T:=TT) (k:=k) (c:=gH) (step:=(fun (w:Int × Int)=>bO a0 a1 a3 r1 r3 r4 w.1 w.2)) _ _ ho hh (p5,p6)
 refine Eq.trans (h (fun r s e=>by have q:=congrArg Prod.fst e; rcases r with x | x <;> cases q)) ?_
 unfold dR
 exact aP _ fun x=>by rcases x with x | x <;> rfl
theorem zR {β:Type} (a0 p30 p32:Int) (r1:Bool) (r3:(List Int) × (List Int) × Int) (r4:(List Int) × (List aW)) (z28 p35:Int) (k:Ex->St->Option β):bU TT j0 ⟨[(0,dI a0),(9,dB r1),(10,.d (.sl (cM cI r3.1))),(14,.d (.sl (cM aW.cells r4.2))),(15,dI z28),(21,dI p30),(22,dI p35),(23,dI p32)],[]⟩ k = (dQ a0 p30 p32 r1 r3 r4 z28 p35).bind (fun (r:Int)=>k .normal ⟨[(0,dI a0),(9,dB r1),(10,.d (.sl (cM cI r3.1))),(14,.d (.sl (cM aW.cells r4.2))),(15,dI z28),(21,dI p30),(22,dI r),(23,dI p32)],[]⟩):=by
 unfold j0 dQ
 exact IA
abbrev j9 (a0 p30:Int) (r1:Bool) (r3:(List Int) × (List Int) × Int) (r4:(List Int) × (List aW)) (z28 p31 p32:Int):St:=⟨[(0,dI a0),(9,dB r1),(10,.d (.sl (cM cI r3.1))),(14,.d (.sl (cM aW.cells r4.2))),(15,dI z28),(21,dI p30),(22,dI p31),(23,dI p32)],[]⟩
theorem yU (a0 p30:Int) (r1:Bool) (r3:(List Int) × (List Int) × Int) (r4:(List Int) × (List aW)) (z28 p31 p32:Int):bU TT gI (j9 a0 p30 r1 r3 r4 z28 p31 p32) (fun e s=>some (e,s)) = cJ (fun (w:Int × Int)=>j9 a0 p30 r1 r3 r4 z28 w.1 w.2) (fun (r:Int)=>(((.exit 4),⟨[(0,dI a0),(9,dB r1),(10,.d (.sl (cM cI r3.1))),(14,.d (.sl (cM aW.cells r4.2))),(15,dI z28),(21,dI p30),(22,dI r)],[]⟩):Ex × St)) (bN a0 p30 r1 r3 r4 z28 p31 p32):=by
 unfold gI bN
 have u:=@zR
 exact n8
theorem yL {β:Type} (a0 p30:Int) (r1:Bool) (r3:(List Int) × (List Int) × Int) (r4:(List Int) × (List aW)) (z28 p31 p32:Int) (k:Ex->St->Option β):bU TT pB (j9 a0 p30 r1 r3 r4 z28 p31 p32) k = (dT a0 p30 r1 r3 r4 z28 p31 p32).bind (fun (r:Int)=>k (.exit 4) ⟨[(0,dI a0),(9,dB r1),(10,.d (.sl (cM cI r3.1))),(14,.d (.sl (cM aW.cells r4.2))),(15,dI z28),(21,dI p30),(22,dI r)],[]⟩):=by
 have hh:=fun (w:Int × Int)=>yU a0 p30 r1 r3 r4 z28 w.1 w.2
 have h:=fun ho=>bA (T:=TT) (k:=k) (c:=gI) (step:=(fun (w:Int × Int)=>bN a0 p30 r1 r3 r4 z28 w.1 w.2)) _ _ ho hh (p31,p32)
 refine Eq.trans (h (fun r s e=>by have q:=congrArg Prod.fst e; rcases r with x <;> cases q)) ?_
 unfold dT
 exact aP _ fun x=>by rcases x with x <;> rfl
abbrev j7 (a0:Int) (r1:Bool) (r3:(List Int) × (List Int) × Int) (r4:(List Int) × (List aW)) (z28 p30:Int):St:=⟨[(0,dI a0),(9,dB r1),(10,.d (.sl (cM cI r3.1))),(14,.d (.sl (cM aW.cells r4.2))),(15,dI z28),(21,dI p30)],[]⟩
theorem yV (a0:Int) (r1:Bool) (r3:(List Int) × (List Int) × Int) (r4:(List Int) × (List aW)) (z28 p30:Int):bU TT gG (j7 a0 r1 r3 r4 z28 p30) (fun e s=>some (e,s)) = cJ (fun (w:Int)=>j7 a0 r1 r3 r4 z28 w) (fun (r:Unit ⊕ Unit)=>Sum.elim (fun (z:Unit)=>(((.exit 2),⟨[(9,dB r1),(10,.d (.sl (cM cI r3.1))),(14,.d (.sl (cM aW.cells r4.2))),(15,dI z28)],[]⟩):Ex × St)) (fun (z:Unit)=>((.ret,⟨[(8,dB false)],[]⟩):Ex × St)) r) (bP a0 r1 r3 r4 z28 p30):=by
 unfold gG bP
 have u:=@yL
 exact n8
theorem zU {β:Type} (a0:Int) (r1:Bool) (r3:(List Int) × (List Int) × Int) (r4:(List Int) × (List aW)) (z28 p30:Int) (k:Ex->St->Option β):bU TT o9 (j7 a0 r1 r3 r4 z28 p30) k = (iG a0 r1 r3 r4 z28 p30).bind (fun (r:Unit ⊕ Unit)=>Sum.elim (fun (z:Unit)=>k (.exit 2) ⟨[(9,dB r1),(10,.d (.sl (cM cI r3.1))),(14,.d (.sl (cM aW.cells r4.2))),(15,dI z28)],[]⟩) (fun (z:Unit)=>k .ret ⟨[(8,dB false)],[]⟩) r):=by
 have hh:=fun (w:Int)=>yV a0 r1 r3 r4 z28 w
 have h:=fun ho=>bA (T:=TT) (k:=k) (c:=gG) (step:=(fun (w:Int)=>bP a0 r1 r3 r4 z28 w)) _ _ ho hh p30
 refine Eq.trans (h (fun r s e=>by have q:=congrArg Prod.fst e; rcases r with x | x <;> cases q)) ?_
 unfold iG
 exact aP _ fun x=>by rcases x with x | x <;> rfl
theorem A8 (a0:Int) (a1:List aE) (a2:List Int) (a3:Int):Vm.call TT 7 [.int .i64 a0,.sl (cM aE.cells a1),.sl (cM cI a2),.int .i64 a3] = (gL a0 a1 a2 a3).map fun (r:Bool)=>.bool r:=by
 refine (bI (show TT 7 = some (.code ⟨4,241,[.tmp 8],bd7,false,false⟩) from rfl) _ rfl rfl).trans ?_
 show bU TT bd7 ⟨[(0,dI a0),(1,.d (.sl (cM aE.cells a1))),(2,.d (.sl (cM cI a2))),(3,dI a3)],[]⟩ _ = _
 unfold bd7 gL
 have u:=aN (aN @zV (aN @zU @GS)) (aN (aN @JL @GJ) (aN @B5 @GU))
 exact n8
end Go.Proofs.Ytgjcnbgfaimepaa
