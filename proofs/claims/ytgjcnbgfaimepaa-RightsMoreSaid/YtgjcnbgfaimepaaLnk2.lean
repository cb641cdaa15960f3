/- The functions of the small machine compute the plain definitions. Printed by a program. -/
import Derived.Test.YtgjcnbgfaimepaaLnk1
set_option linter.unusedVariables false
set_option linter.unusedSimpArgs false
namespace Go.Proofs.Ytgjcnbgfaimepaa
open Vm
open Go.RowKit
set_option maxRecDepth 100000
set_option maxHeartbeats 4000000
attribute [local congr] xJ AH xO AD
theorem GD {β:Type} (a0:List aF) (a1:List Int) (p1:Int) (x3:aF) (p6:List aC) (k:Ex->St->Option β):bR TT qY ⟨[(1,.d (.sl (cM cI a1))),(5,.own 37 0),(6,dI p1),(7,.ptr 7 0),(8,.d (.sl (cM aF.cells a0))),(9,dI (a0.length:Int)),(10,dI p1)],[(7,some (.box (aQ x3.cells))),(37,some (.rows 0 95 6 (cM aC.cells p6)))]⟩ k = (jF a0 a1 p1 x3 p6).bind (fun (r:(List aC))=>k .normal ⟨[(1,.d (.sl (cM cI a1))),(5,.own 37 0),(8,.d (.sl (cM aF.cells a0))),(9,dI (a0.length:Int)),(10,dI p1)],[(37,some (.rows 0 95 6 (cM aC.cells r)))]⟩):=by
 unfold qY jF
 exact IU
abbrev rE (a0:List aF) (a1:List Int) (p1:Int) (p2:List aC):St:=⟨[(1,.d (.sl (cM cI a1))),(5,.own 37 0),(8,.d (.sl (cM aF.cells a0))),(9,dI (a0.length:Int)),(10,dI p1)],[(37,some (.rows 0 95 6 (cM aC.cells p2)))]⟩
theorem GX (a0:List aF) (a1:List Int) (p1:Int) (p2:List aC):bR TT mM (rE a0 a1 p1 p2) (fun e s=>some (e,s)) = cH (fun (w:Int × (List aC))=>rE a0 a1 w.1 w.2) (fun (r:(List aC))=>(((.exit 0),⟨[(5,.own 37 0)],[(37,some (.rows 0 95 6 (cM aC.cells r)))]⟩):Ex × St)) (cQ a0 a1 p1 p2):=by
 unfold mM cQ
 have u:=@GD
 exact pX
theorem GF {β:Type} (a0:List aF) (a1:List Int) (p1:Int) (p2:List aC) (k:Ex->St->Option β):bR TT xB (rE a0 a1 p1 p2) k = (oK a0 a1 p1 p2).bind (fun (r:(List aC))=>k (.exit 0) ⟨[(5,.own 37 0)],[(37,some (.rows 0 95 6 (cM aC.cells r)))]⟩):=by
 have hh:=fun (w:Int × (List aC))=>GX a0 a1 w.1 w.2
 have h:=fun ho=>aZ (T:=TT) (k:=k) (c:=mM) (step:=(fun (w:Int × (List aC))=>cQ a0 a1 w.1 w.2)) _ _ ho hh (p1,p2)
 refine Eq.trans (h (fun r s e=>by have q:=congrArg Prod.fst e; rcases r with x <;> cases q)) ?_
 unfold oK
 exact aL _ fun x=>by rcases x with x <;> rfl
theorem vV (a0:List aF) (a1:List Int):Vm.call TT 64 [.sl (cM aF.cells a0),.sl (cM cI a1)] = (fJ a0 a1).map fun (r:(List aC))=>.own (.ref 0) [(95,6)] [cM aC.cells r]:=by
 refine (LQ (show TT 64 = some (.code ⟨2,58,[.tmp 4],aL0,true,false⟩) from rfl) _ rfl rfl).trans ?_
 show bR TT aL0 ⟨[(0,.d (.sl (cM aF.cells a0))),(1,.d (.sl (cM cI a1)))],[]⟩ _ = _
 unfold aL0 fJ
 have u:=@GF
 exact pX
theorem sY (a0:List Int) (a1:Int):Vm.call TT 109 [.sl (cM cI a0),.int .i64 a1] = (fQ a0 a1).map fun (r:(List Int))=>.own (.ref 0) [(3,1)] [cM cI r] :=
 (RZ (show TT 109 = some (.told aQs) from rfl) _ rfl).trans (aNk 3 a1 a0)
theorem B5 (a0:aD) (a1:aC):Vm.call TT 106 [.agg a0.cells,.agg a1.cells] = (fP a0 a1).map fun (r:aD)=>.agg r.cells:=by
 refine (bH (show TT 106 = some (.code ⟨2,16,[.cell 4 3 true],aDd,false,false⟩) from rfl) _ rfl rfl).trans ?_
 show bR TT aDd ⟨[(0,kB a0.cells),(1,kB a1.cells)],[]⟩ _ = _
 unfold aDd fP
 exact IU
theorem BU (a0:aD) (a1:aC):KF TT 106 [.agg a0.cells,.agg a1.cells] (fP a0 a1) (fun (r:aD)=>kB r.cells):=kF (B5 a0 a1) (fun _=>rfl) (fun _=>rfl)
theorem DC (a0 a1:aD):Vm.call TT 84 [.agg a0.cells,.agg a1.cells] = (dX a0 a1).map fun (r:Bool)=>.bool r:=by
 refine (bH (show TT 84 = some (.code ⟨2,33,[.tmp 4],aOA,false,false⟩) from rfl) _ rfl rfl).trans ?_
 show bR TT aOA ⟨[(0,kB a0.cells),(1,kB a1.cells)],[]⟩ _ = _
 unfold aOA dX
 exact IU
theorem vR (a0 a1:aD):KF TT 84 [.agg a0.cells,.agg a1.cells] (dX a0 a1) (fun (r:Bool)=>dB r):=kF (DC a0 a1) (fun _=>rfl) (fun _=>rfl)
theorem uO {β:Type} (r6:(List aD)) (bl fz:List (Nat × Option aI)) (k:V->Option β) (kw:V->List (Nat × Option aI)->Option β):wC TT 10015 bl 109 [.sl (cM cI [(-1)]),.int .i64 (r6.length:Int)] fz k kw = (fQ [(-1)] (r6.length:Int)).bind fun (r:(List Int))=>aY bl 110015 fun b=>fK b (kw (.own 110015 0) ((110015,some (.rows 0 3 1 (cM cI r))) :: fz)):=C5 (sY [(-1)] (r6.length:Int)) fz
abbrev nV (a0:Int) (a1:List aC) (a2:List Int) (p1:Int) (p2:List aD):St:=⟨[(1,.d (.sl (cM aC.cells a1))),(2,.d (.sl (cM cI a2))),(8,.ptr 8 0),(13,dI a0),(14,dI p1)],[(8,some (.box [.own 11 0,.nil,.d (.fn 106 []),.d (.fn 84 [])])),(11,some (.rows 0 114 3 (cM aD.cells p2)))]⟩
theorem CD (a0:Int) (a1:List aC) (a2:List Int) (p1:Int) (p2:List aD):bR TT jT (nV a0 a1 a2 p1 p2) (fun e s=>some (e,s)) = cH (fun (w:Int × (List aD))=>nV a0 a1 a2 w.1 w.2) (fun (r:(List aD))=>(((.exit 0),⟨[(1,.d (.sl (cM aC.cells a1))),(8,.ptr 8 0)],[(8,some (.box [.own 11 0,.nil,.d (.fn 106 []),.d (.fn 84 [])])),(11,some (.rows 0 114 3 (cM aD.cells r)))]⟩):Ex × St)) (bU a0 a1 a2 p1 p2):=by
 unfold jT bU
 exact IU
theorem CJ {β:Type} (a0:Int) (a1:List aC) (a2:List Int) (p1:Int) (p2:List aD) (k:Ex->St->Option β):bR TT uX (nV a0 a1 a2 p1 p2) k = (jE a0 a1 a2 p1 p2).bind (fun (r:(List aD))=>k (.exit 0) ⟨[(1,.d (.sl (cM aC.cells a1))),(8,.ptr 8 0)],[(8,some (.box [.own 11 0,.nil,.d (.fn 106 []),.d (.fn 84 [])])),(11,some (.rows 0 114 3 (cM aD.cells r)))]⟩):=by
 have hh:=fun (w:Int × (List aD))=>CD a0 a1 a2 w.1 w.2
 have h:=fun ho=>aZ (T:=TT) (k:=k) (c:=jT) (step:=(fun (w:Int × (List aD))=>bU a0 a1 a2 w.1 w.2)) _ _ ho hh (p1,p2)
 refine Eq.trans (h (fun r s e=>by have q:=congrArg Prod.fst e; rcases r with x <;> cases q)) ?_
 unfold jE
 exact aL _ fun x=>by rcases x with x <;> rfl
abbrev nY (a1:List aC) (p11:Bool) (p12:Int) (p13:List aD) (p14:List Int):St:=⟨[(0,.ptr 8 0),(1,.d (.sl (cM aC.cells a1))),(4,dB p11),(19,.d (.sl (cM aC.cells a1))),(20,dI (a1.length:Int)),(21,dI p12)],[(8,some (.box [.own 11 0,.own 110015 0,.d (.fn 106 []),.d (.fn 84 [])])),(11,some (.rows 0 114 3 (cM aD.cells p13))),(8001,some (.outer [.ptr 8 0])),(110015,some (.rows 0 3 1 (cM cI p14)))]⟩
theorem CO (a1:List aC) (p11:Bool) (p12:Int) (p13:List aD) (p14:List Int):bR TT jR (nY a1 p11 p12 p13 p14) (fun e s=>some (e,s)) = cH (fun (w:Bool × Int × (List aD) × (List Int))=>nY a1 w.1 w.2.1 w.2.2.1 w.2.2.2) (fun (r:Bool × (List aD) × (List Int))=>(((.exit 2),⟨[(0,.ptr 8 0),(1,.d (.sl (cM aC.cells a1))),(4,dB r.1)],[(8,some (.box [.own 11 0,.own 110015 0,.d (.fn 106 []),.d (.fn 84 [])])),(11,some (.rows 0 114 3 (cM aD.cells r.2.1))),(8001,some (.outer [.ptr 8 0])),(110015,some (.rows 0 3 1 (cM cI r.2.2)))]⟩):Ex × St)) (cZ a1 p11 p12 p13 p14):=by
 unfold jR cZ
 have u:=aN @vR (aN @BU @uO)
 exact pX
theorem CG {β:Type} (a1:List aC) (p11:Bool) (p12:Int) (p13:List aD) (p14:List Int) (k:Ex->St->Option β):bR TT uQ (nY a1 p11 p12 p13 p14) k = (jB a1 p11 p12 p13 p14).bind (fun (r:Bool × (List aD) × (List Int))=>k (.exit 2) ⟨[(0,.ptr 8 0),(1,.d (.sl (cM aC.cells a1))),(4,dB r.1)],[(8,some (.box [.own 11 0,.own 110015 0,.d (.fn 106 []),.d (.fn 84 [])])),(11,some (.rows 0 114 3 (cM aD.cells r.2.1))),(8001,some (.outer [.ptr 8 0])),(110015,some (.rows 0 3 1 (cM cI r.2.2)))]⟩):=by
 have hh:=fun (w:Bool × Int × (List aD) × (List Int))=>CO a1 w.1 w.2.1 w.2.2.1 w.2.2.2
 have h:=fun ho=>aZ (T:=TT) (k:=k) (c:=jR) (step:=(fun (w:Bool × Int × (List aD) × (List Int))=>cZ a1 w.1 w.2.1 w.2.2.1 w.2.2.2)) _ _ ho hh (p11,p12,p13,p14)
 refine Eq.trans (h (fun r s e=>by have q:=congrArg Prod.fst e; rcases r with x <;> cases q)) ?_
 unfold jB
 exact aL _ fun x=>by rcases x with x <;> rfl
abbrev nT (a1:List aC) (p8:Bool) (p9:List aD) (p10:List Int):St:=⟨[(0,.ptr 8 0),(1,.d (.sl (cM aC.cells a1))),(4,dB p8)],[(8,some (.box [.own 11 0,.own 110015 0,.d (.fn 106 []),.d (.fn 84 [])])),(11,some (.rows 0 114 3 (cM aD.cells p9))),(8001,some (.outer [.ptr 8 0])),(110015,some (.rows 0 3 1 (cM cI p10)))]⟩
theorem CW (a1:List aC) (p8:Bool) (p9:List aD) (p10:List Int):bR TT jU (nT a1 p8 p9 p10) (fun e s=>some (e,s)) = cH (fun (w:Bool × (List aD) × (List Int))=>nT a1 w.1 w.2.1 w.2.2) (fun (r:(List aD) × (List Int))=>(((.exit 0),⟨[],[(8,some (.box [.own 11 0,.own 110015 0,.d (.fn 106 []),.d (.fn 84 [])])),(11,some (.rows 0 114 3 (cM aD.cells r.1))),(8001,some (.outer [.ptr 8 0])),(110015,some (.rows 0 3 1 (cM cI r.2)))]⟩):Ex × St)) (eW a1 p8 p9 p10):=by
 unfold jU eW
 have u:=@CG
 exact pX
theorem CE {β:Type} (a1:List aC) (p8:Bool) (p9:List aD) (p10:List Int) (k:Ex->St->Option β):bR TT uS (nT a1 p8 p9 p10) k = (jA a1 p8 p9 p10).bind (fun (r:(List aD) × (List Int))=>k (.exit 0) ⟨[],[(8,some (.box [.own 11 0,.own 110015 0,.d (.fn 106 []),.d (.fn 84 [])])),(11,some (.rows 0 114 3 (cM aD.cells r.1))),(8001,some (.outer [.ptr 8 0])),(110015,some (.rows 0 3 1 (cM cI r.2)))]⟩):=by
 have hh:=fun (w:Bool × (List aD) × (List Int))=>CW a1 w.1 w.2.1 w.2.2
 have h:=fun ho=>aZ (T:=TT) (k:=k) (c:=jU) (step:=(fun (w:Bool × (List aD) × (List Int))=>eW a1 w.1 w.2.1 w.2.2)) _ _ ho hh (p8,p9,p10)
 refine Eq.trans (h (fun r s e=>by have q:=congrArg Prod.fst e; rcases r with x <;> cases q)) ?_
 unfold jA
 exact aL _ fun x=>by rcases x with x <;> rfl
theorem xY (a0:Int) (a1:List aC) (a2:List Int):Vm.call TT 83 [.int .i64 a0,.sl (cM aC.cells a1),.sl (cM cI a2)] = (fH a0 a1 a2).map fun (r:(List aD) × (List Int))=>.own (.tup [.ref 0,.ref 1]) [(114,3),(3,1)] [cM aD.cells r.1,cM cI r.2]:=by
 refine (LQ (show TT 83 = some (.code ⟨3,34,[.tmp 6,.tmp 7],aNn,true,false⟩) from rfl) _ rfl rfl).trans ?_
 show bR TT aNn ⟨[(0,dI a0),(1,.d (.sl (cM aC.cells a1))),(2,.d (.sl (cM cI a2)))],[]⟩ _ = _
 unfold aNn fH
 have u:=aN @CJ (aN @CE @uO)
 exact pX
theorem A3 {β:Type} (a0:aC) (a1:List Int) (p1:Int) (k:Ex->St->Option β):bR TT lT ⟨[(1,.own 900000 0),(2,dI p1),(3,.ptr 3 0)],[(3,some (.box (aQ a0.cells))),(900000,some (.rows 0 3 1 (cM cI a1)))]⟩ k = (eY a0 a1 p1).bind (fun (r:(List Int))=>k .normal ⟨[(1,.own 900000 0)],[(900000,some (.rows 0 3 1 (cM cI r)))]⟩):=by
 unfold lT eY
 exact IU
theorem vD (a0:aC) (a1:List Int) (a2:Int):Vm.call TT 85 [.agg a0.cells,.own (.ref 0) [(3,1)] [cM cI a1],.int .i64 a2] = (dY a0 a1 a2).map fun (r:(List Int))=>.own (.tup []) [(3,1)] [cM cI r]:=by
 refine (QY (show TT 85 = some (.code ⟨3,18,[],aNw,false,true⟩) from rfl) _ rfl rfl rfl).trans ?_
 show bR TT aNw ⟨[(1,.own 900000 0),(0,kB a0.cells),(1,.d (.own (.ref 0) [(3,1)] [cM cI a1])),(2,dI a2)],[(900000,some (.rows 0 3 1 (cM cI a1)))]⟩ _ = _
 unfold aNw dY
 have u:=@A3
 exact pX
theorem DI {β:Type} (a1:List aF) (p13:List Int) (bl:List (Nat × Option aI)) (k:V->Option β) (kw:V->List (Nat × Option aI)->Option β):wK TT 51 bl 64 [.sl (cM aF.cells a1),.sl (cM cI p13)] k kw = (fJ a1 p13).bind fun (r:(List aC))=>aY bl 100051 fun b=>fK b (kw (.own 100051 0) ((100051,some (.rows 0 95 6 (cM aC.cells r))) :: [])):=rM (vV a1 p13) (fun _=>(oC rfl (vO (oV _ (fun _=>rfl) _) rfl)))
theorem DM {β:Type} (a0:Int) (p12:List Int) (r14:(List aC)) (bl:List (Nat × Option aI)) (k:V->Option β) (kw:V->List (Nat × Option aI)->Option β):wK TT 56 bl 83 [.int .i64 a0,.sl (cM aC.cells r14),.sl (cM cI p12)] k kw = (fH a0 r14 p12).bind fun (r:(List aD) × (List Int))=>aY bl 100056 fun b=>fK b (aY bl 200056 fun b=>fK b (kw (.tup [.own 100056 0,.own 200056 0]) ((100056,some (.rows 0 114 3 (cM aD.cells r.1))) :: (200056,some (.rows 0 3 1 (cM cI r.2))) :: []))):=rM (xY a0 r14 p12) (fun _=>(oC rfl (vO (oV _ (fun _=>rfl) _) (vO (oV _ (fun _=>rfl) _) rfl))))
theorem EK {β:Type} (p41:List Int) (r38:Int × Int) (x39:Int) (x44:aC) (bl:List (Nat × Option aI)) (kw:V->List (Nat × Option aI)->Option β):NL TT bl 85 900000 0 [.agg x44.cells,.own (.ref 0) [(3,1)] [cM cI p41],.int .i64 (if x39 < r38.1 then x39 else r38.1)] kw = (dY x44 p41 (if x39 < r38.1 then x39 else r38.1)).bind fun (r:(List Int))=>aY bl 900000 fun b=>I4 0 3 1 (cM cI r) b fun b2=>kw (.tup []) [(900000,b2)]:=HQ (vD x44 p41 (if x39 < r38.1 then x39 else r38.1)) (fun _=>rfl) (fun _=>oV _ (fun _=>rfl) _) 900000 0
abbrev o9 (a0:Int) (a1:List aF) (a2:List Int) (p1:Int) (p2:List Int):St:=⟨[(0,dI a0),(1,.d (.sl (cM aF.cells a1))),(2,.own 900000 0),(6,.own 18 0),(19,.d (.sl (cM aF.cells a1))),(20,dI (a1.length:Int)),(21,dI p1)],[(18,some (.rows 0 3 1 (cM cI p2))),(900000,some (.rows 0 3 1 (cM cI a2)))]⟩
theorem EE (a0:Int) (a1:List aF) (a2:List Int) (p1:Int) (p2:List Int):bR TT kM (o9 a0 a1 a2 p1 p2) (fun e s=>some (e,s)) = cH (fun (w:Int × (List Int))=>o9 a0 a1 a2 w.1 w.2) (fun (r:(List Int))=>(((.exit 0),⟨[(0,dI a0),(1,.d (.sl (cM aF.cells a1))),(2,.own 900000 0),(6,.own 18 0)],[(18,some (.rows 0 3 1 (cM cI r))),(900000,some (.rows 0 3 1 (cM cI a2)))]⟩):Ex × St)) (b6 a0 a1 a2 p1 p2):=by
 unfold kM b6
 exact IU
theorem DG {β:Type} (a0:Int) (a1:List aF) (a2:List Int) (p1:Int) (p2:List Int) (k:Ex->St->Option β):bR TT vK (o9 a0 a1 a2 p1 p2) k = (jL a0 a1 a2 p1 p2).bind (fun (r:(List Int))=>k (.exit 0) ⟨[(0,dI a0),(1,.d (.sl (cM aF.cells a1))),(2,.own 900000 0),(6,.own 18 0)],[(18,some (.rows 0 3 1 (cM cI r))),(900000,some (.rows 0 3 1 (cM cI a2)))]⟩):=by
 have hh:=fun (w:Int × (List Int))=>EE a0 a1 a2 w.1 w.2
 have h:=fun ho=>aZ (T:=TT) (k:=k) (c:=kM) (step:=(fun (w:Int × (List Int))=>b6 a0 a1 a2 w.1 w.2)) _ _ ho hh (p1,p2)
 refine Eq.trans (h (fun r s e=>by have q:=congrArg Prod.fst e; rcases r with x <;> cases q)) ?_
 unfold jL
 exact aL _ fun x=>by rcases x with x <;> rfl
abbrev pO (a0:Int) (a1:List aF) (p12 p13:List Int) (r14:(List aC)) (r15:(List aD) × (List Int)) (p16 p17:Int):St:=⟨[(0,dI a0),(1,.d (.sl (cM aF.cells a1))),(2,.own 900000 0),(6,.own 18 0),(9,.own 100051 0),(10,.own 100056 0),(11,.own 200056 0),(12,dI p16),(59,dI a0),(60,dI p17)],[(18,some (.rows 0 3 1 (cM cI p12))),(100051,some (.rows 0 95 6 (cM aC.cells r14))),(100056,some (.rows 0 114 3 (cM aD.cells r15.1))),(200056,some (.rows 0 3 1 (cM cI r15.2))),(900000,some (.rows 0 3 1 (cM cI p13)))]⟩
theorem EN (a0:Int) (a1:List aF) (p12 p13:List Int) (r14:(List aC)) (r15:(List aD) × (List Int)) (p16 p17:Int):bR TT kT (pO a0 a1 p12 p13 r14 r15 p16 p17) (fun e s=>some (e,s)) = cH (fun (w:Int × Int)=>pO a0 a1 p12 p13 r14 r15 w.1 w.2) (fun (r:Int)=>(((.exit 4),⟨[(0,dI a0),(1,.d (.sl (cM aF.cells a1))),(2,.own 900000 0),(6,.own 18 0),(9,.own 100051 0),(11,.own 200056 0),(12,dI r)],[(18,some (.rows 0 3 1 (cM cI p12))),(100051,some (.rows 0 95 6 (cM aC.cells r14))),(200056,some (.rows 0 3 1 (cM cI r15.2))),(900000,some (.rows 0 3 1 (cM cI p13)))]⟩):Ex × St)) (aU a0 a1 p12 p13 r14 r15 p16 p17):=by
 unfold kT aU
 have u:=@vR
 exact pX
theorem ED {β:Type} (a0:Int) (a1:List aF) (p12 p13:List Int) (r14:(List aC)) (r15:(List aD) × (List Int)) (p16 p17:Int) (k:Ex->St->Option β):bR TT vW (pO a0 a1 p12 p13 r14 r15 p16 p17) k = (jO a0 a1 p12 p13 r14 r15 p16 p17).bind (fun (r:Int)=>k (.exit 4) ⟨[(0,dI a0),(1,.d (.sl (cM aF.cells a1))),(2,.own 900000 0),(6,.own 18 0),(9,.own 100051 0),(11,.own 200056 0),(12,dI r)],[(18,some (.rows 0 3 1 (cM cI p12))),(100051,some (.rows 0 95 6 (cM aC.cells r14))),(200056,some (.rows 0 3 1 (cM cI r15.2))),(900000,some (.rows 0 3 1 (cM cI p13)))]⟩):=by
 have hh:=fun (w:Int × Int)=>EN a0 a1 p12 p13 r14 r15 w.1 w.2
 have h:=fun ho=>aZ (T:=TT) (k:=k) (c:=kT) (step:=(fun (w:Int × Int)=>aU a0 a1 p12 p13 r14 r15 w.1 w.2)) _ _ ho hh (p16,p17)
 refine Eq.trans (h (fun r s e=>by have q:=congrArg Prod.fst e; rcases r with x <;> cases q)) ?_
 unfold jO
 exact aL _ fun x=>by rcases x with x <;> rfl
abbrev oR (a0:Int) (a1:List aF) (p12 p13:List Int) (r14:(List aC)) (r15:(List aD) × (List Int)) (r27 p29 p30:Int):St:=⟨[(0,dI a0),(1,.d (.sl (cM aF.cells a1))),(2,.own 900000 0),(6,.own 18 0),(9,.own 100051 0),(11,.own 200056 0),(12,dI r27),(14,dI p29),(15,dI p30)],[(18,some (.rows 0 3 1 (cM cI p12))),(100051,some (.rows 0 95 6 (cM aC.cells r14))),(200056,some (.rows 0 3 1 (cM cI r15.2))),(900000,some (.rows 0 3 1 (cM cI p13)))]⟩
theorem D5 (a0:Int) (a1:List aF) (p12 p13:List Int) (r14:(List aC)) (r15:(List aD) × (List Int)) (r27 p29 p30:Int):bR TT kP (oR a0 a1 p12 p13 r14 r15 r27 p29 p30) (fun e s=>some (e,s)) = cH (fun (w:Int × Int)=>oR a0 a1 p12 p13 r14 r15 r27 w.1 w.2) (fun (r:Int × Int)=>(((.exit 6),⟨[(0,dI a0),(1,.d (.sl (cM aF.cells a1))),(2,.own 900000 0),(6,.own 18 0),(9,.own 100051 0),(11,.own 200056 0),(12,dI r27),(14,dI r.1),(15,dI r.2)],[(18,some (.rows 0 3 1 (cM cI p12))),(100051,some (.rows 0 95 6 (cM aC.cells r14))),(200056,some (.rows 0 3 1 (cM cI r15.2))),(900000,some (.rows 0 3 1 (cM cI p13)))]⟩):Ex × St)) (dG a0 a1 p12 p13 r14 r15 r27 p29 p30):=by
 unfold kP dG
 exact IU
theorem DK {β:Type} (a0:Int) (a1:List aF) (p12 p13:List Int) (r14:(List aC)) (r15:(List aD) × (List Int)) (r27 p29 p30:Int) (k:Ex->St->Option β):bR TT vS (oR a0 a1 p12 p13 r14 r15 r27 p29 p30) k = (fF a0 a1 p12 p13 r14 r15 r27 p29 p30).bind (fun (r:Int × Int)=>k (.exit 6) ⟨[(0,dI a0),(1,.d (.sl (cM aF.cells a1))),(2,.own 900000 0),(6,.own 18 0),(9,.own 100051 0),(11,.own 200056 0),(12,dI r27),(14,dI r.1),(15,dI r.2)],[(18,some (.rows 0 3 1 (cM cI p12))),(100051,some (.rows 0 95 6 (cM aC.cells r14))),(200056,some (.rows 0 3 1 (cM cI r15.2))),(900000,some (.rows 0 3 1 (cM cI p13)))]⟩):=by
 have hh:=fun (w:Int × Int)=>D5 a0 a1 p12 p13 r14 r15 r27 w.1 w.2
 have h:=fun ho=>aZ (T:=TT) (k:=k) (c:=kP) (step:=(fun (w:Int × Int)=>dG a0 a1 p12 p13 r14 r15 r27 w.1 w.2)) _ _ ho hh (p29,p30)
 refine Eq.trans (h (fun r s e=>by have q:=congrArg Prod.fst e; rcases r with x <;> cases q)) ?_
 unfold fF
 exact aL _ fun x=>by rcases x with x <;> rfl
abbrev oU (a0:Int) (a1:List aF) (p12:List Int) (r14:(List aC)) (r15:(List aD) × (List Int)) (r27:Int) (r38:Int × Int) (x39 p40:Int) (p41:List Int):St:=⟨[(0,dI a0),(1,.d (.sl (cM aF.cells a1))),(2,.own 900000 0),(6,.own 18 0),(9,.own 100051 0),(11,.own 200056 0),(12,dI r27),(14,dI (if x39 < r38.1 then x39 else r38.1)),(15,dI r38.2),(16,dI p40)],[(18,some (.rows 0 3 1 (cM cI p12))),(100051,some (.rows 0 95 6 (cM aC.cells r14))),(200056,some (.rows 0 3 1 (cM cI r15.2))),(900000,some (.rows 0 3 1 (cM cI p41)))]⟩
theorem EZ (a0:Int) (a1:List aF) (p12:List Int) (r14:(List aC)) (r15:(List aD) × (List Int)) (r27:Int) (r38:Int × Int) (x39 p40:Int) (p41:List Int):bR TT kO (oU a0 a1 p12 r14 r15 r27 r38 x39 p40 p41) (fun e s=>some (e,s)) = cH (fun (w:Int × (List Int))=>oU a0 a1 p12 r14 r15 r27 r38 x39 w.1 w.2) (fun (r:(List Int))=>(((.exit 8),⟨[(0,dI a0),(1,.d (.sl (cM aF.cells a1))),(2,.own 900000 0),(6,.own 18 0),(12,dI r27),(14,dI (if x39 < r38.1 then x39 else r38.1)),(15,dI r38.2)],[(18,some (.rows 0 3 1 (cM cI p12))),(900000,some (.rows 0 3 1 (cM cI r)))]⟩):Ex × St)) (dA a0 a1 p12 r14 r15 r27 r38 x39 p40 p41):=by
 unfold kO dA
 have u:=@EK
 exact pX
theorem EI {β:Type} (a0:Int) (a1:List aF) (p12:List Int) (r14:(List aC)) (r15:(List aD) × (List Int)) (r27:Int) (r38:Int × Int) (x39 p40:Int) (p41:List Int) (k:Ex->St->Option β):bR TT vY (oU a0 a1 p12 r14 r15 r27 r38 x39 p40 p41) k = (fI a0 a1 p12 r14 r15 r27 r38 x39 p40 p41).bind (fun (r:(List Int))=>k (.exit 8) ⟨[(0,dI a0),(1,.d (.sl (cM aF.cells a1))),(2,.own 900000 0),(6,.own 18 0),(12,dI r27),(14,dI (if x39 < r38.1 then x39 else r38.1)),(15,dI r38.2)],[(18,some (.rows 0 3 1 (cM cI p12))),(900000,some (.rows 0 3 1 (cM cI r)))]⟩):=by
 have hh:=fun (w:Int × (List Int))=>EZ a0 a1 p12 r14 r15 r27 r38 x39 w.1 w.2
 have h:=fun ho=>aZ (T:=TT) (k:=k) (c:=kO) (step:=(fun (w:Int × (List Int))=>dA a0 a1 p12 r14 r15 r27 r38 x39 w.1 w.2)) _ _ ho hh (p40,p41)
 refine Eq.trans (h (fun r s e=>by have q:=congrArg Prod.fst e; rcases r with x <;> cases q)) ?_
 unfold fI
 exact aL _ fun x=>by rcases x with x <;> rfl
abbrev pD (a0:Int) (a1:List aF) (p12 p13:List Int):St:=⟨[(0,dI a0),(1,.d (.sl (cM aF.cells a1))),(2,.own 900000 0),(6,.own 18 0)],[(18,some (.rows 0 3 1 (cM cI p12))),(900000,some (.rows 0 3 1 (cM cI p13)))]⟩
theorem D4 (a0:Int) (a1:List aF) (p12 p13:List Int):bR TT kU (pD a0 a1 p12 p13) (fun e s=>some (e,s)) = cH (fun (w:(List Int) × (List Int))=>pD a0 a1 w.1 w.2) (fun (r:(List Int))=>((.ret,⟨[(2,.own 900000 0)],[(900000,some (.rows 0 3 1 (cM cI r)))]⟩):Ex × St)) (cO a0 a1 p12 p13):=by
 unfold kU cO
 have u:=aN (aN @ED @DK) (aN @EI (aN @DI @DM))
 exact pX
theorem DX {β:Type} (a0:Int) (a1:List aF) (p12 p13:List Int) (k:Ex->St->Option β):bR TT vB (pD a0 a1 p12 p13) k = (mX a0 a1 p12 p13).bind (fun (r:(List Int))=>k .ret ⟨[(2,.own 900000 0)],[(900000,some (.rows 0 3 1 (cM cI r)))]⟩):=by
 have hh:=fun (w:(List Int) × (List Int))=>D4 a0 a1 w.1 w.2
 have h:=fun ho=>aZ (T:=TT) (k:=k) (c:=kU) (step:=(fun (w:(List Int) × (List Int))=>cO a0 a1 w.1 w.2)) _ _ ho hh (p12,p13)
 refine Eq.trans (h (fun r s e=>by have q:=congrArg Prod.fst e; rcases r with x <;> cases q)) ?_
 unfold mX
 exact aL _ fun x=>by rcases x with x <;> rfl
theorem IJ (a0:Int) (a1:List aF) (a2:List Int):Vm.call TT 61 [.int .i64 a0,.sl (cM aF.cells a1),.own (.ref 0) [(3,1)] [cM cI a2]] = (jW a0 a1 a2).map fun (r:(List Int))=>.own (.tup []) [(3,1)] [cM cI r]:=by
 refine (QY (show TT 61 = some (.code ⟨3,171,[],aOH,false,true⟩) from rfl) _ rfl rfl rfl).trans ?_
 show bR TT aOH ⟨[(2,.own 900000 0),(0,dI a0),(1,.d (.sl (cM aF.cells a1))),(2,.d (.own (.ref 0) [(3,1)] [cM cI a2]))],[(900000,some (.rows 0 3 1 (cM cI a2)))]⟩ _ = _
 unfold aOH jW
 have u:=aN @DG @DX
 exact pX
theorem B8 (a0:Int) (a1:aC):Vm.call TT 86 [.int .i64 a0,.agg a1.cells] = (fM a0 a1).map fun (r:Int)=>.int .i64 r:=by
 refine (bH (show TT 86 = some (.code ⟨2,9,[.tmp 4],aLv,false,false⟩) from rfl) _ rfl rfl).trans ?_
 show bR TT aLv ⟨[(0,dI a0),(1,kB a1.cells)],[]⟩ _ = _
 unfold aLv fM
 exact IU
theorem B4 (a0:Int) (a1:aC):KF TT 86 [.int .i64 a0,.agg a1.cells] (fM a0 a1) (fun (r:Int)=>dI r):=kF (B8 a0 a1) (fun _=>rfl) (fun _=>rfl)
theorem L1 (a0:Int):Vm.call TT 108 [.int .i64 a0] = (nR a0).map fun (r:Bool)=>.bool r:=by
 refine (bH (show TT 108 = some (.code ⟨1,6,[.tmp 2],aDb,false,false⟩) from rfl) _ rfl rfl).trans ?_
 show bR TT aDb ⟨[(0,dI a0)],[]⟩ _ = _
 unfold aDb nR
 exact IU
theorem MD (a0:Int):KF TT 108 [.int .i64 a0] (nR a0) (fun (r:Bool)=>dB r):=kF (L1 a0) (fun _=>rfl) (fun _=>rfl)
theorem OA (a0 a1:Int):Vm.call TT 87 [.int .i64 a0,.int .i64 a1] = (qA a0 a1).map fun (r:Bool)=>.bool r:=by
 refine (bH (show TT 87 = some (.code ⟨2,17,[.tmp 4],aLr,false,false⟩) from rfl) _ rfl rfl).trans ?_
 show bR TT aLr ⟨[(0,dI a0),(1,dI a1)],[]⟩ _ = _
 unfold aLr qA
 have u:=@MD
 exact pX
theorem N4 (a0 a1:Int):KF TT 87 [.int .i64 a0,.int .i64 a1] (qA a0 a1) (fun (r:Bool)=>dB r):=kF (OA a0 a1) (fun _=>rfl) (fun _=>rfl)
theorem rW {β:Type} (a1:List aF) (a2:List Int) (bl:List (Nat × Option aI)) (k:V->Option β) (kw:V->List (Nat × Option aI)->Option β):wK TT 13 bl 64 [.sl (cM aF.cells a1),.sl (cM cI a2)] k kw = (fJ a1 a2).bind fun (r:(List aC))=>aY bl 100013 fun b=>fK b (kw (.own 100013 0) ((100013,some (.rows 0 95 6 (cM aC.cells r))) :: [])):=rM (vV a1 a2) (fun _=>(oC rfl (vO (oV _ (fun _=>rfl) _) rfl)))
theorem rR {β:Type} (a0:Int) (bl fz:List (Nat × Option aI)) (k:V->Option β) (kw:V->List (Nat × Option aI)->Option β):wC TT 10015 bl 109 [.sl (cM cI [(-1)]),.int .i64 ((List.replicate a0.toNat (0:Int)).length:Int)] fz k kw = (fQ [(-1)] ((List.replicate a0.toNat (0:Int)).length:Int)).bind fun (r:(List Int))=>aY bl 110015 fun b=>fK b (kw (.own 110015 0) ((110015,some (.rows 0 3 1 (cM cI r))) :: fz)):=C5 (sY [(-1)] ((List.replicate a0.toNat (0:Int)).length:Int)) fz
abbrev lU (r1:(List aC)) (p6:Bool) (p7:Int) (p8 p9:List Int):St:=⟨[(0,.ptr 7 0),(1,.own 100013 0),(4,dB p6),(19,.own 100013 0),(20,dI (r1.length:Int)),(21,dI p7)],[(7,some (.box [.own 9 0,.own 110015 0,.d (.fn 86 []),.d (.fn 87 [])])),(9,some (.rows 0 3 1 (cM cI p8))),(8001,some (.outer [.ptr 7 0])),(100013,some (.rows 0 95 6 (cM aC.cells r1))),(110015,some (.rows 0 3 1 (cM cI p9)))]⟩
theorem AX (r1:(List aC)) (p6:Bool) (p7:Int) (p8 p9:List Int):bR TT iY (lU r1 p6 p7 p8 p9) (fun e s=>some (e,s)) = cH (fun (w:Bool × Int × (List Int) × (List Int))=>lU r1 w.1 w.2.1 w.2.2.1 w.2.2.2) (fun (r:Bool × (List Int) × (List Int))=>(((.exit 2),⟨[(0,.ptr 7 0),(1,.own 100013 0),(4,dB r.1)],[(7,some (.box [.own 9 0,.own 110015 0,.d (.fn 86 []),.d (.fn 87 [])])),(9,some (.rows 0 3 1 (cM cI r.2.1))),(8001,some (.outer [.ptr 7 0])),(100013,some (.rows 0 95 6 (cM aC.cells r1))),(110015,some (.rows 0 3 1 (cM cI r.2.2)))]⟩):Ex × St)) (cE r1 p6 p7 p8 p9):=by
 unfold iY cE
 have u:=aN (aN @B4 @N4) (aN @rW @rR)
 exact pX
theorem AW {β:Type} (r1:(List aC)) (p6:Bool) (p7:Int) (p8 p9:List Int) (k:Ex->St->Option β):bR TT rP (lU r1 p6 p7 p8 p9) k = (gW r1 p6 p7 p8 p9).bind (fun (r:Bool × (List Int) × (List Int))=>k (.exit 2) ⟨[(0,.ptr 7 0),(1,.own 100013 0),(4,dB r.1)],[(7,some (.box [.own 9 0,.own 110015 0,.d (.fn 86 []),.d (.fn 87 [])])),(9,some (.rows 0 3 1 (cM cI r.2.1))),(8001,some (.outer [.ptr 7 0])),(100013,some (.rows 0 95 6 (cM aC.cells r1))),(110015,some (.rows 0 3 1 (cM cI r.2.2)))]⟩):=by
 have hh:=fun (w:Bool × Int × (List Int) × (List Int))=>AX r1 w.1 w.2.1 w.2.2.1 w.2.2.2
 have h:=fun ho=>aZ (T:=TT) (k:=k) (c:=iY) (step:=(fun (w:Bool × Int × (List Int) × (List Int))=>cE r1 w.1 w.2.1 w.2.2.1 w.2.2.2)) _ _ ho hh (p6,p7,p8,p9)
 refine Eq.trans (h (fun r s e=>by have q:=congrArg Prod.fst e; rcases r with x <;> cases q)) ?_
 unfold gW
 exact aL _ fun x=>by rcases x with x <;> rfl
abbrev lY (r1:(List aC)) (p3:Bool) (p4 p5:List Int):St:=⟨[(0,.ptr 7 0),(1,.own 100013 0),(4,dB p3)],[(7,some (.box [.own 9 0,.own 110015 0,.d (.fn 86 []),.d (.fn 87 [])])),(9,some (.rows 0 3 1 (cM cI p4))),(8001,some (.outer [.ptr 7 0])),(100013,some (.rows 0 95 6 (cM aC.cells r1))),(110015,some (.rows 0 3 1 (cM cI p5)))]⟩
theorem A1 (r1:(List aC)) (p3:Bool) (p4 p5:List Int):bR TT i9 (lY r1 p3 p4 p5) (fun e s=>some (e,s)) = cH (fun (w:Bool × (List Int) × (List Int))=>lY r1 w.1 w.2.1 w.2.2) (fun (r:(List Int) × (List Int))=>(((.exit 0),⟨[],[(7,some (.box [.own 9 0,.own 110015 0,.d (.fn 86 []),.d (.fn 87 [])])),(9,some (.rows 0 3 1 (cM cI r.1))),(8001,some (.outer [.ptr 7 0])),(110015,some (.rows 0 3 1 (cM cI r.2)))]⟩):Ex × St)) (d8 r1 p3 p4 p5):=by
 unfold i9 d8
 have u:=@AW
 exact pX
theorem A5 {β:Type} (r1:(List aC)) (p3:Bool) (p4 p5:List Int) (k:Ex->St->Option β):bR TT rV (lY r1 p3 p4 p5) k = (gT r1 p3 p4 p5).bind (fun (r:(List Int) × (List Int))=>k (.exit 0) ⟨[],[(7,some (.box [.own 9 0,.own 110015 0,.d (.fn 86 []),.d (.fn 87 [])])),(9,some (.rows 0 3 1 (cM cI r.1))),(8001,some (.outer [.ptr 7 0])),(110015,some (.rows 0 3 1 (cM cI r.2)))]⟩):=by
 have hh:=fun (w:Bool × (List Int) × (List Int))=>A1 r1 w.1 w.2.1 w.2.2
 have h:=fun ho=>aZ (T:=TT) (k:=k) (c:=i9) (step:=(fun (w:Bool × (List Int) × (List Int))=>d8 r1 w.1 w.2.1 w.2.2)) _ _ ho hh (p3,p4,p5)
 refine Eq.trans (h (fun r s e=>by have q:=congrArg Prod.fst e; rcases r with x <;> cases q)) ?_
 unfold gT
 exact aL _ fun x=>by rcases x with x <;> rfl
theorem vP (a0:Int) (a1:List aF) (a2:List Int):Vm.call TT 62 [.int .i64 a0,.sl (cM aF.cells a1),.sl (cM cI a2)] = (d7 a0 a1 a2).map fun (r:(List Int))=>.own (.ref 0) [(3,1)] [cM cI r]:=by
 refine (LQ (show TT 62 = some (.code ⟨3,17,[.tmp 6],aNE,true,false⟩) from rfl) _ rfl rfl).trans ?_
 show bR TT aNE ⟨[(0,dI a0),(1,.d (.sl (cM aF.cells a1))),(2,.d (.sl (cM cI a2)))],[]⟩ _ = _
 unfold aNE d7
 have u:=aN @A5 (aN @rW @rR)
 exact pX
theorem FS {β:Type} (a1:List aF) (p5:List Int) (bl:List (Nat × Option aI)) (k:V->Option β) (kw:V->List (Nat × Option aI)->Option β):wK TT 50 bl 64 [.sl (cM aF.cells a1),.sl (cM cI p5)] k kw = (fJ a1 p5).bind fun (r:(List aC))=>aY bl 100050 fun b=>fK b (kw (.own 100050 0) ((100050,some (.rows 0 95 6 (cM aC.cells r))) :: [])):=rM (vV a1 p5) (fun _=>(oC rfl (vO (oV _ (fun _=>rfl) _) rfl)))
theorem GO {β:Type} (a0:Int) (r22:(List aC)) (x16:aF) (bl:List (Nat × Option aI)) (k:V->Option β) (kw:V->List (Nat × Option aI)->Option β):wK TT 104 bl 83 [.int .i64 a0,.sl (cM aC.cells r22),.sl (cM cI ((List.replicate a0.toNat (0:Int)).set x16.To.toNat 1))] k kw = (fH a0 r22 ((List.replicate a0.toNat (0:Int)).set x16.To.toNat 1)).bind fun (r:(List aD) × (List Int))=>aY bl 100104 fun b=>fK b (aY bl 200104 fun b=>fK b (kw (.tup [.own 100104 0,.own 200104 0]) ((100104,some (.rows 0 114 3 (cM aD.cells r.1))) :: (200104,some (.rows 0 3 1 (cM cI r.2))) :: []))):=rM (xY a0 r22 ((List.replicate a0.toNat (0:Int)).set x16.To.toNat 1)) (fun _=>(oC rfl (vO (oV _ (fun _=>rfl) _) (vO (oV _ (fun _=>rfl) _) rfl))))
theorem G7 {β:Type} (p40:List Int) (r37:Int) (x43:aC) (bl:List (Nat × Option aI)) (kw:V->List (Nat × Option aI)->Option β):NL TT bl 85 900000 0 [.agg x43.cells,.own (.ref 0) [(3,1)] [cM cI p40],.int .i64 r37] kw = (dY x43 p40 r37).bind fun (r:(List Int))=>aY bl 900000 fun b=>I4 0 3 1 (cM cI r) b fun b2=>kw (.tup []) [(900000,b2)]:=HQ (vD x43 p40 r37) (fun _=>rfl) (fun _=>oV _ (fun _=>rfl) _) 900000 0
abbrev qQ (a0:Int) (a1:List aF) (a3:List Int) (a4:Int) (p5:List Int) (r8:(List aC)) (p9:Int) (p10:List aC):St:=⟨[(0,dI a0),(1,.d (.sl (cM aF.cells a1))),(2,.own 900000 0),(3,.d (.sl (cM cI a3))),(4,dI a4),(10,.own 79 0),(50,.own 100050 0),(51,dI (r8.length:Int)),(52,dI p9)],[(79,some (.rows 0 95 6 (cM aC.cells p10))),(100050,some (.rows 0 95 6 (cM aC.cells r8))),(900000,some (.rows 0 3 1 (cM cI p5)))]⟩
theorem GA (a0:Int) (a1:List aF) (a3:List Int) (a4:Int) (p5:List Int) (r8:(List aC)) (p9:Int) (p10:List aC):bR TT mH (qQ a0 a1 a3 a4 p5 r8 p9 p10) (fun e s=>some (e,s)) = cH (fun (w:Int × (List aC))=>qQ a0 a1 a3 a4 p5 r8 w.1 w.2) (fun (r:(List aC))=>(((.exit 2),⟨[(0,dI a0),(1,.d (.sl (cM aF.cells a1))),(2,.own 900000 0),(3,.d (.sl (cM cI a3))),(4,dI a4),(10,.own 79 0)],[(79,some (.rows 0 95 6 (cM aC.cells r))),(900000,some (.rows 0 3 1 (cM cI p5)))]⟩):Ex × St)) (cX a0 a1 a3 a4 p5 r8 p9 p10):=by
 unfold mH cX
 exact IU
theorem GS {β:Type} (a0:Int) (a1:List aF) (a3:List Int) (a4:Int) (p5:List Int) (r8:(List aC)) (p9:Int) (p10:List aC) (k:Ex->St->Option β):bR TT xN (qQ a0 a1 a3 a4 p5 r8 p9 p10) k = (lE a0 a1 a3 a4 p5 r8 p9 p10).bind (fun (r:(List aC))=>k (.exit 2) ⟨[(0,dI a0),(1,.d (.sl (cM aF.cells a1))),(2,.own 900000 0),(3,.d (.sl (cM cI a3))),(4,dI a4),(10,.own 79 0)],[(79,some (.rows 0 95 6 (cM aC.cells r))),(900000,some (.rows 0 3 1 (cM cI p5)))]⟩):=by
 have hh:=fun (w:Int × (List aC))=>GA a0 a1 a3 a4 p5 r8 w.1 w.2
 have h:=fun ho=>aZ (T:=TT) (k:=k) (c:=mH) (step:=(fun (w:Int × (List aC))=>cX a0 a1 a3 a4 p5 r8 w.1 w.2)) _ _ ho hh (p9,p10)
 refine Eq.trans (h (fun r s e=>by have q:=congrArg Prod.fst e; rcases r with x <;> cases q)) ?_
 unfold lE
 exact aL _ fun x=>by rcases x with x <;> rfl
abbrev qX (a0:Int) (a1:List aF) (a3:List Int) (a4:Int) (p5:List Int) (r15:(List aC)) (x16:aF) (p18:Int) (p19:List aC):St:=⟨[(0,dI a0),(1,.d (.sl (cM aF.cells a1))),(2,.own 900000 0),(3,.d (.sl (cM cI a3))),(4,dI a4),(10,.own 79 0),(13,.own 82 0),(91,dI (r15.length:Int)),(92,dI p18)],[(79,some (.rows 0 95 6 (cM aC.cells p19))),(82,some (.rows 0 3 1 (cM cI ((List.replicate a0.toNat (0:Int)).set x16.To.toNat 1)))),(900000,some (.rows 0 3 1 (cM cI p5)))]⟩
theorem G0 (a0:Int) (a1:List aF) (a3:List Int) (a4:Int) (p5:List Int) (r15:(List aC)) (x16:aF) (p18:Int) (p19:List aC):bR TT mJ (qX a0 a1 a3 a4 p5 r15 x16 p18 p19) (fun e s=>some (e,s)) = cH (fun (w:Int × (List aC))=>qX a0 a1 a3 a4 p5 r15 x16 w.1 w.2) (fun (r:(List aC))=>(((.exit 4),⟨[(0,dI a0),(1,.d (.sl (cM aF.cells a1))),(2,.own 900000 0),(3,.d (.sl (cM cI a3))),(4,dI a4),(10,.own 79 0),(13,.own 82 0)],[(79,some (.rows 0 95 6 (cM aC.cells r))),(82,some (.rows 0 3 1 (cM cI ((List.replicate a0.toNat (0:Int)).set x16.To.toNat 1)))),(900000,some (.rows 0 3 1 (cM cI p5)))]⟩):Ex × St)) (cR a0 a1 a3 a4 p5 r15 x16 p18 p19):=by
 unfold mJ cR
 exact IU
theorem FO {β:Type} (a0:Int) (a1:List aF) (a3:List Int) (a4:Int) (p5:List Int) (r15:(List aC)) (x16:aF) (p18:Int) (p19:List aC) (k:Ex->St->Option β):bR TT xP (qX a0 a1 a3 a4 p5 r15 x16 p18 p19) k = (lF a0 a1 a3 a4 p5 r15 x16 p18 p19).bind (fun (r:(List aC))=>k (.exit 4) ⟨[(0,dI a0),(1,.d (.sl (cM aF.cells a1))),(2,.own 900000 0),(3,.d (.sl (cM cI a3))),(4,dI a4),(10,.own 79 0),(13,.own 82 0)],[(79,some (.rows 0 95 6 (cM aC.cells r))),(82,some (.rows 0 3 1 (cM cI ((List.replicate a0.toNat (0:Int)).set x16.To.toNat 1)))),(900000,some (.rows 0 3 1 (cM cI p5)))]⟩):=by
 have hh:=fun (w:Int × (List aC))=>G0 a0 a1 a3 a4 p5 r15 x16 w.1 w.2
 have h:=fun ho=>aZ (T:=TT) (k:=k) (c:=mJ) (step:=(fun (w:Int × (List aC))=>cR a0 a1 a3 a4 p5 r15 x16 w.1 w.2)) _ _ ho hh (p18,p19)
 refine Eq.trans (h (fun r s e=>by have q:=congrArg Prod.fst e; rcases r with x <;> cases q)) ?_
 unfold lF
 exact aL _ fun x=>by rcases x with x <;> rfl
abbrev qU (a0:Int) (a1:List aF) (a3:List Int) (a4:Int) (p5:List Int) (r22:(List aC)) (r23:(List aD) × (List Int)) (p29 p30:Int):St:=⟨[(0,dI a0),(1,.d (.sl (cM aF.cells a1))),(2,.own 900000 0),(3,.d (.sl (cM cI a3))),(4,dI a4),(10,.own 79 0),(16,.own 200104 0),(17,dI p29),(18,dI p30)],[(79,some (.rows 0 95 6 (cM aC.cells r22))),(200104,some (.rows 0 3 1 (cM cI r23.2))),(900000,some (.rows 0 3 1 (cM cI p5)))]⟩
theorem GY (a0:Int) (a1:List aF) (a3:List Int) (a4:Int) (p5:List Int) (r22:(List aC)) (r23:(List aD) × (List Int)) (p29 p30:Int):bR TT mN (qU a0 a1 a3 a4 p5 r22 r23 p29 p30) (fun e s=>some (e,s)) = cH (fun (w:Int × Int)=>qU a0 a1 a3 a4 p5 r22 r23 w.1 w.2) (fun (r:Int)=>(((.exit 6),⟨[(0,dI a0),(1,.d (.sl (cM aF.cells a1))),(2,.own 900000 0),(3,.d (.sl (cM cI a3))),(4,dI a4),(10,.own 79 0),(16,.own 200104 0),(17,dI r)],[(79,some (.rows 0 95 6 (cM aC.cells r22))),(200104,some (.rows 0 3 1 (cM cI r23.2))),(900000,some (.rows 0 3 1 (cM cI p5)))]⟩):Ex × St)) (dW a0 a1 a3 a4 p5 r22 r23 p29 p30):=by
 unfold mN dW
 exact IU
theorem F5 {β:Type} (a0:Int) (a1:List aF) (a3:List Int) (a4:Int) (p5:List Int) (r22:(List aC)) (r23:(List aD) × (List Int)) (p29 p30:Int) (k:Ex->St->Option β):bR TT xW (qU a0 a1 a3 a4 p5 r22 r23 p29 p30) k = (gS a0 a1 a3 a4 p5 r22 r23 p29 p30).bind (fun (r:Int)=>k (.exit 6) ⟨[(0,dI a0),(1,.d (.sl (cM aF.cells a1))),(2,.own 900000 0),(3,.d (.sl (cM cI a3))),(4,dI a4),(10,.own 79 0),(16,.own 200104 0),(17,dI r)],[(79,some (.rows 0 95 6 (cM aC.cells r22))),(200104,some (.rows 0 3 1 (cM cI r23.2))),(900000,some (.rows 0 3 1 (cM cI p5)))]⟩):=by
 have hh:=fun (w:Int × Int)=>GY a0 a1 a3 a4 p5 r22 r23 w.1 w.2
 have h:=fun ho=>aZ (T:=TT) (k:=k) (c:=mN) (step:=(fun (w:Int × Int)=>dW a0 a1 a3 a4 p5 r22 r23 w.1 w.2)) _ _ ho hh (p29,p30)
 refine Eq.trans (h (fun r s e=>by have q:=congrArg Prod.fst e; rcases r with x <;> cases q)) ?_
 unfold gS
 exact aL _ fun x=>by rcases x with x <;> rfl
abbrev qS (a0:Int) (a1:List aF) (a3:List Int) (a4:Int) (r22:(List aC)) (r23:(List aD) × (List Int)) (r37 p39:Int) (p40:List Int):St:=⟨[(0,dI a0),(1,.d (.sl (cM aF.cells a1))),(2,.own 900000 0),(3,.d (.sl (cM cI a3))),(4,dI a4),(10,.own 79 0),(16,.own 200104 0),(17,dI r37),(19,dI p39)],[(79,some (.rows 0 95 6 (cM aC.cells r22))),(200104,some (.rows 0 3 1 (cM cI r23.2))),(900000,some (.rows 0 3 1 (cM cI p40)))]⟩
theorem GZ (a0:Int) (a1:List aF) (a3:List Int) (a4:Int) (r22:(List aC)) (r23:(List aD) × (List Int)) (r37 p39:Int) (p40:List Int):bR TT mU (qS a0 a1 a3 a4 r22 r23 r37 p39 p40) (fun e s=>some (e,s)) = cH (fun (w:Int × (List Int))=>qS a0 a1 a3 a4 r22 r23 r37 w.1 w.2) (fun (r:(List Int))=>(((.exit 8),⟨[(0,dI a0),(1,.d (.sl (cM aF.cells a1))),(2,.own 900000 0),(3,.d (.sl (cM cI a3))),(4,dI a4),(17,dI r37)],[(900000,some (.rows 0 3 1 (cM cI r)))]⟩):Ex × St)) (dZ a0 a1 a3 a4 r22 r23 r37 p39 p40):=by
 unfold mU dZ
 have u:=@G7
 exact pX
theorem HC {β:Type} (a0:Int) (a1:List aF) (a3:List Int) (a4:Int) (r22:(List aC)) (r23:(List aD) × (List Int)) (r37 p39:Int) (p40:List Int) (k:Ex->St->Option β):bR TT xV (qS a0 a1 a3 a4 r22 r23 r37 p39 p40) k = (gP a0 a1 a3 a4 r22 r23 r37 p39 p40).bind (fun (r:(List Int))=>k (.exit 8) ⟨[(0,dI a0),(1,.d (.sl (cM aF.cells a1))),(2,.own 900000 0),(3,.d (.sl (cM cI a3))),(4,dI a4),(17,dI r37)],[(900000,some (.rows 0 3 1 (cM cI r)))]⟩):=by
 have hh:=fun (w:Int × (List Int))=>GZ a0 a1 a3 a4 r22 r23 r37 w.1 w.2
 have h:=fun ho=>aZ (T:=TT) (k:=k) (c:=mU) (step:=(fun (w:Int × (List Int))=>dZ a0 a1 a3 a4 r22 r23 r37 w.1 w.2)) _ _ ho hh (p39,p40)
 refine Eq.trans (h (fun r s e=>by have q:=congrArg Prod.fst e; rcases r with x <;> cases q)) ?_
 unfold gP
 exact aL _ fun x=>by rcases x with x <;> rfl
abbrev qO (a0:Int) (a1:List aF) (a3:List Int) (a4:Int) (p5:List Int):St:=⟨[(0,dI a0),(1,.d (.sl (cM aF.cells a1))),(2,.own 900000 0),(3,.d (.sl (cM cI a3))),(4,dI a4)],[(900000,some (.rows 0 3 1 (cM cI p5)))]⟩
theorem G3 (a0:Int) (a1:List aF) (a3:List Int) (a4:Int) (p5:List Int):bR TT mG (qO a0 a1 a3 a4 p5) (fun e s=>some (e,s)) = cH (fun (w:(List Int))=>qO a0 a1 a3 a4 w) (fun (r:((List Int)) ⊕ ((List Int)))=>Sum.elim (fun (z:(List Int))=>(((.exit 0),⟨[(2,.own 900000 0)],[(900000,some (.rows 0 3 1 (cM cI z)))]⟩):Ex × St)) (fun (z:(List Int))=>((.ret,⟨[(2,.own 900000 0)],[(900000,some (.rows 0 3 1 (cM cI z)))]⟩):Ex × St)) r) (b9 a0 a1 a3 a4 p5):=by
 unfold mG b9
 have u:=aN (aN @GS (aN @FO @F5)) (aN @HC (aN @FS @GO))
 exact pX
theorem F9 {β:Type} (a0:Int) (a1:List aF) (a3:List Int) (a4:Int) (p5:List Int) (k:Ex->St->Option β):bR TT xH (qO a0 a1 a3 a4 p5) k = (pI a0 a1 a3 a4 p5).bind (fun (r:((List Int)) ⊕ ((List Int)))=>Sum.elim (fun (z:(List Int))=>k (.exit 0) ⟨[(2,.own 900000 0)],[(900000,some (.rows 0 3 1 (cM cI z)))]⟩) (fun (z:(List Int))=>k .ret ⟨[(2,.own 900000 0)],[(900000,some (.rows 0 3 1 (cM cI z)))]⟩) r):=by
 have hh:=fun (w:(List Int))=>G3 a0 a1 a3 a4 w
 have h:=fun ho=>aZ (T:=TT) (k:=k) (c:=mG) (step:=(fun (w:(List Int))=>b9 a0 a1 a3 a4 w)) _ _ ho hh p5
 refine Eq.trans (h (fun r s e=>by have q:=congrArg Prod.fst e; rcases r with x | x <;> cases q)) ?_
 unfold pI
 exact aL _ fun x=>by rcases x with x | x <;> rfl
theorem LK (a0:Int) (a1:List aF) (a2 a3:List Int) (a4:Int):Vm.call TT 63 [.int .i64 a0,.sl (cM aF.cells a1),.own (.ref 0) [(3,1)] [cM cI a2],.sl (cM cI a3),.int .i64 a4] = (l9 a0 a1 a2 a3 a4).map fun (r:(List Int))=>.own (.tup []) [(3,1)] [cM cI r]:=by
 refine (QY (show TT 63 = some (.code ⟨5,190,[],aMD,false,true⟩) from rfl) _ rfl rfl rfl).trans ?_
 show bR TT aMD ⟨[(2,.own 900000 0),(0,dI a0),(1,.d (.sl (cM aF.cells a1))),(2,.d (.own (.ref 0) [(3,1)] [cM cI a2])),(3,.d (.sl (cM cI a3))),(4,dI a4)],[(900000,some (.rows 0 3 1 (cM cI a2)))]⟩ _ = _
 unfold aMD l9
 have u:=@F9
 exact pX
end Go.Proofs.Ytgjcnbgfaimepaa
