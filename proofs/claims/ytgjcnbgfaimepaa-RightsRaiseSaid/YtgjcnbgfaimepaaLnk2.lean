/- The functions of the small machine compute the plain definitions. Printed by a program. -/
import Derived.Test.YtgjcnbgfaimepaaLnk1
set_option linter.unusedVariables false
set_option linter.unusedSimpArgs false
namespace Go.Proofs.Ytgjcnbgfaimepaa
open Vm
open Go.RowKit
set_option maxRecDepth 100000
set_option maxHeartbeats 4000000
attribute [local congr] yJ AO yW A1
theorem GR {β:Type} (a0:List aH) (a1:List Int) (p1:Int) (x3:aH) (p6:List aC) (k:Ex->St->Option β):b6 TT rX ⟨[(1,.d (.sl (cM cI a1))),(5,.own 37 0),(6,dI p1),(7,.ptr 7 0),(8,.d (.sl (cM aH.cells a0))),(9,dI (a0.length:Int)),(10,dI p1)],[(7,some (.box (aR x3.cells))),(37,some (.rows 0 95 6 (cM aC.cells p6)))]⟩ k = (jV a0 a1 p1 x3 p6).bind (fun (r:(List aC))=>k .normal ⟨[(1,.d (.sl (cM cI a1))),(5,.own 37 0),(8,.d (.sl (cM aH.cells a0))),(9,dI (a0.length:Int)),(10,dI p1)],[(37,some (.rows 0 95 6 (cM aC.cells r)))]⟩):=by
 unfold rX jV
 exact J9
abbrev rO (a0:List aH) (a1:List Int) (p1:Int) (p2:List aC):St:=⟨[(1,.d (.sl (cM cI a1))),(5,.own 37 0),(8,.d (.sl (cM aH.cells a0))),(9,dI (a0.length:Int)),(10,dI p1)],[(37,some (.rows 0 95 6 (cM aC.cells p2)))]⟩
theorem HH (a0:List aH) (a1:List Int) (p1:Int) (p2:List aC):b6 TT nD (rO a0 a1 p1 p2) (fun e s=>some (e,s)) = cU (fun (w:Int × (List aC))=>rO a0 a1 w.1 w.2) (fun (r:(List aC))=>(((.exit 0),⟨[(5,.own 37 0)],[(37,some (.rows 0 95 6 (cM aC.cells r)))]⟩):Ex × St)) (dA a0 a1 p1 p2):=by
 unfold nD dA
 have u:=@GR
 exact oT
theorem IC {β:Type} (a0:List aH) (a1:List Int) (p1:Int) (p2:List aC) (k:Ex->St->Option β):b6 TT yM (rO a0 a1 p1 p2) k = (pN a0 a1 p1 p2).bind (fun (r:(List aC))=>k (.exit 0) ⟨[(5,.own 37 0)],[(37,some (.rows 0 95 6 (cM aC.cells r)))]⟩):=by
 have hh:=fun (w:Int × (List aC))=>HH a0 a1 w.1 w.2
 have h:=fun ho=>bE (T:=TT) (k:=k) (c:=nD) (step:=(fun (w:Int × (List aC))=>dA a0 a1 w.1 w.2)) _ _ ho hh (p1,p2)
 refine Eq.trans (h (fun r s e=>by have q:=congrArg Prod.fst e; rcases r with x <;> cases q)) ?_
 unfold pN
 exact aM _ fun x=>by rcases x with x <;> rfl
theorem wO (a0:List aH) (a1:List Int):Vm.call TT 64 [.sl (cM aH.cells a0),.sl (cM cI a1)] = (gA a0 a1).map fun (r:(List aC))=>.own (.ref 0) [(95,6)] [cM aC.cells r]:=by
 refine (LX (show TT 64 = some (.code ⟨2,58,[.tmp 4],aO5,true,false⟩) from rfl) _ rfl rfl).trans ?_
 show b6 TT aO5 ⟨[(0,.d (.sl (cM aH.cells a0))),(1,.d (.sl (cM cI a1)))],[]⟩ _ = _
 unfold aO5 gA
 have u:=@IC
 exact oT
theorem uB (a0:List Int) (a1:Int):Vm.call TT 109 [.sl (cM cI a0),.int .i64 a1] = (gF a0 a1).map fun (r:(List Int))=>.own (.ref 0) [(3,1)] [cM cI r] :=
 (T5 (show TT 109 = some (.told aRd) from rfl) _ rfl).trans (aNu 3 a1 a0)
theorem CN (a0:aD) (a1:aC):Vm.call TT 106 [.agg a0.cells,.agg a1.cells] = (gJ a0 a1).map fun (r:aD)=>.agg r.cells:=by
 refine (bQ (show TT 106 = some (.code ⟨2,16,[.cell 4 3 true],aD3,false,false⟩) from rfl) _ rfl rfl).trans ?_
 show b6 TT aD3 ⟨[(0,kY a0.cells),(1,kY a1.cells)],[]⟩ _ = _
 unfold aD3 gJ
 exact J9
theorem CL (a0:aD) (a1:aC):KF TT 106 [.agg a0.cells,.agg a1.cells] (gJ a0 a1) (fun (r:aD)=>kY r.cells):=kF (CN a0 a1) (fun _=>rfl) (fun _=>rfl)
theorem EC (a0 a1:aD):Vm.call TT 84 [.agg a0.cells,.agg a1.cells] = (eZ a0 a1).map fun (r:Bool)=>.bool r:=by
 refine (bQ (show TT 84 = some (.code ⟨2,33,[.tmp 4],aPa,false,false⟩) from rfl) _ rfl rfl).trans ?_
 show b6 TT aPa ⟨[(0,kY a0.cells),(1,kY a1.cells)],[]⟩ _ = _
 unfold aPa eZ
 exact J9
theorem wG (a0 a1:aD):KF TT 84 [.agg a0.cells,.agg a1.cells] (eZ a0 a1) (fun (r:Bool)=>dB r):=kF (EC a0 a1) (fun _=>rfl) (fun _=>rfl)
theorem vV {β:Type} (r6:(List aD)) (bl fz:List (Nat × Option aI)) (k:V->Option β) (kw:V->List (Nat × Option aI)->Option β):xI TT 10015 bl 109 [.sl (cM cI [(-1)]),.int .i64 (r6.length:Int)] fz k kw = (gF [(-1)] (r6.length:Int)).bind fun (r:(List Int))=>bG bl 110015 fun b=>gC b (kw (.own 110015 0) ((110015,some (.rows 0 3 1 (cM cI r))) :: fz)):=C5 (uB [(-1)] (r6.length:Int)) fz
abbrev oI (a0:Int) (a1:List aC) (a2:List Int) (p1:Int) (p2:List aD):St:=⟨[(1,.d (.sl (cM aC.cells a1))),(2,.d (.sl (cM cI a2))),(8,.ptr 8 0),(13,dI a0),(14,dI p1)],[(8,some (.box [.own 11 0,.nil,.d (.fn 106 []),.d (.fn 84 [])])),(11,some (.rows 0 114 3 (cM aD.cells p2)))]⟩
theorem DU (a0:Int) (a1:List aC) (a2:List Int) (p1:Int) (p2:List aD):b6 TT kS (oI a0 a1 a2 p1 p2) (fun e s=>some (e,s)) = cU (fun (w:Int × (List aD))=>oI a0 a1 a2 w.1 w.2) (fun (r:(List aD))=>(((.exit 0),⟨[(1,.d (.sl (cM aC.cells a1))),(8,.ptr 8 0)],[(8,some (.box [.own 11 0,.nil,.d (.fn 106 []),.d (.fn 84 [])])),(11,some (.rows 0 114 3 (cM aD.cells r)))]⟩):Ex × St)) (b9 a0 a1 a2 p1 p2):=by
 unfold kS b9
 exact J9
theorem DE {β:Type} (a0:Int) (a1:List aC) (a2:List Int) (p1:Int) (p2:List aD) (k:Ex->St->Option β):b6 TT vG (oI a0 a1 a2 p1 p2) k = (jS a0 a1 a2 p1 p2).bind (fun (r:(List aD))=>k (.exit 0) ⟨[(1,.d (.sl (cM aC.cells a1))),(8,.ptr 8 0)],[(8,some (.box [.own 11 0,.nil,.d (.fn 106 []),.d (.fn 84 [])])),(11,some (.rows 0 114 3 (cM aD.cells r)))]⟩):=by
 have hh:=fun (w:Int × (List aD))=>DU a0 a1 a2 w.1 w.2
 have h:=fun ho=>bE (T:=TT) (k:=k) (c:=kS) (step:=(fun (w:Int × (List aD))=>b9 a0 a1 a2 w.1 w.2)) _ _ ho hh (p1,p2)
 refine Eq.trans (h (fun r s e=>by have q:=congrArg Prod.fst e; rcases r with x <;> cases q)) ?_
 unfold jS
 exact aM _ fun x=>by rcases x with x <;> rfl
abbrev oZ (a1:List aC) (p11:Bool) (p12:Int) (p13:List aD) (p14:List Int):St:=⟨[(0,.ptr 8 0),(1,.d (.sl (cM aC.cells a1))),(4,dB p11),(19,.d (.sl (cM aC.cells a1))),(20,dI (a1.length:Int)),(21,dI p12)],[(8,some (.box [.own 11 0,.own 110015 0,.d (.fn 106 []),.d (.fn 84 [])])),(11,some (.rows 0 114 3 (cM aD.cells p13))),(8001,some (.outer [.ptr 8 0])),(110015,some (.rows 0 3 1 (cM cI p14)))]⟩
theorem DB (a1:List aC) (p11:Bool) (p12:Int) (p13:List aD) (p14:List Int):b6 TT kM (oZ a1 p11 p12 p13 p14) (fun e s=>some (e,s)) = cU (fun (w:Bool × Int × (List aD) × (List Int))=>oZ a1 w.1 w.2.1 w.2.2.1 w.2.2.2) (fun (r:Bool × (List aD) × (List Int))=>(((.exit 2),⟨[(0,.ptr 8 0),(1,.d (.sl (cM aC.cells a1))),(4,dB r.1)],[(8,some (.box [.own 11 0,.own 110015 0,.d (.fn 106 []),.d (.fn 84 [])])),(11,some (.rows 0 114 3 (cM aD.cells r.2.1))),(8001,some (.outer [.ptr 8 0])),(110015,some (.rows 0 3 1 (cM cI r.2.2)))]⟩):Ex × St)) (dL a1 p11 p12 p13 p14):=by
 unfold kM dL
 have u:=aN @wG (aN @CL @vV)
 exact oT
theorem D4 {β:Type} (a1:List aC) (p11:Bool) (p12:Int) (p13:List aD) (p14:List Int) (k:Ex->St->Option β):b6 TT vI (oZ a1 p11 p12 p13 p14) k = (jQ a1 p11 p12 p13 p14).bind (fun (r:Bool × (List aD) × (List Int))=>k (.exit 2) ⟨[(0,.ptr 8 0),(1,.d (.sl (cM aC.cells a1))),(4,dB r.1)],[(8,some (.box [.own 11 0,.own 110015 0,.d (.fn 106 []),.d (.fn 84 [])])),(11,some (.rows 0 114 3 (cM aD.cells r.2.1))),(8001,some (.outer [.ptr 8 0])),(110015,some (.rows 0 3 1 (cM cI r.2.2)))]⟩):=by
 have hh:=fun (w:Bool × Int × (List aD) × (List Int))=>DB a1 w.1 w.2.1 w.2.2.1 w.2.2.2
 have h:=fun ho=>bE (T:=TT) (k:=k) (c:=kM) (step:=(fun (w:Bool × Int × (List aD) × (List Int))=>dL a1 w.1 w.2.1 w.2.2.1 w.2.2.2)) _ _ ho hh (p11,p12,p13,p14)
 refine Eq.trans (h (fun r s e=>by have q:=congrArg Prod.fst e; rcases r with x <;> cases q)) ?_
 unfold jQ
 exact aM _ fun x=>by rcases x with x <;> rfl
abbrev oQ (a1:List aC) (p8:Bool) (p9:List aD) (p10:List Int):St:=⟨[(0,.ptr 8 0),(1,.d (.sl (cM aC.cells a1))),(4,dB p8)],[(8,some (.box [.own 11 0,.own 110015 0,.d (.fn 106 []),.d (.fn 84 [])])),(11,some (.rows 0 114 3 (cM aD.cells p9))),(8001,some (.outer [.ptr 8 0])),(110015,some (.rows 0 3 1 (cM cI p10)))]⟩
theorem C7 (a1:List aC) (p8:Bool) (p9:List aD) (p10:List Int):b6 TT kR (oQ a1 p8 p9 p10) (fun e s=>some (e,s)) = cU (fun (w:Bool × (List aD) × (List Int))=>oQ a1 w.1 w.2.1 w.2.2) (fun (r:(List aD) × (List Int))=>(((.exit 0),⟨[],[(8,some (.box [.own 11 0,.own 110015 0,.d (.fn 106 []),.d (.fn 84 [])])),(11,some (.rows 0 114 3 (cM aD.cells r.1))),(8001,some (.outer [.ptr 8 0])),(110015,some (.rows 0 3 1 (cM cI r.2)))]⟩):Ex × St)) (fQ a1 p8 p9 p10):=by
 unfold kR fQ
 have u:=@D4
 exact oT
theorem DV {β:Type} (a1:List aC) (p8:Bool) (p9:List aD) (p10:List Int) (k:Ex->St->Option β):b6 TT vJ (oQ a1 p8 p9 p10) k = (jT a1 p8 p9 p10).bind (fun (r:(List aD) × (List Int))=>k (.exit 0) ⟨[],[(8,some (.box [.own 11 0,.own 110015 0,.d (.fn 106 []),.d (.fn 84 [])])),(11,some (.rows 0 114 3 (cM aD.cells r.1))),(8001,some (.outer [.ptr 8 0])),(110015,some (.rows 0 3 1 (cM cI r.2)))]⟩):=by
 have hh:=fun (w:Bool × (List aD) × (List Int))=>C7 a1 w.1 w.2.1 w.2.2
 have h:=fun ho=>bE (T:=TT) (k:=k) (c:=kR) (step:=(fun (w:Bool × (List aD) × (List Int))=>fQ a1 w.1 w.2.1 w.2.2)) _ _ ho hh (p8,p9,p10)
 refine Eq.trans (h (fun r s e=>by have q:=congrArg Prod.fst e; rcases r with x <;> cases q)) ?_
 unfold jT
 exact aM _ fun x=>by rcases x with x <;> rfl
theorem yS (a0:Int) (a1:List aC) (a2:List Int):Vm.call TT 83 [.int .i64 a0,.sl (cM aC.cells a1),.sl (cM cI a2)] = (fX a0 a1 a2).map fun (r:(List aD) × (List Int))=>.own (.tup [.ref 0,.ref 1]) [(114,3),(3,1)] [cM aD.cells r.1,cM cI r.2]:=by
 refine (LX (show TT 83 = some (.code ⟨3,34,[.tmp 6,.tmp 7],aPu,true,false⟩) from rfl) _ rfl rfl).trans ?_
 show b6 TT aPu ⟨[(0,dI a0),(1,.d (.sl (cM aC.cells a1))),(2,.d (.sl (cM cI a2)))],[]⟩ _ = _
 unfold aPu fX
 have u:=aN @DE (aN @DV @vV)
 exact oT
theorem BW {β:Type} (a0:aC) (a1:List Int) (p1:Int) (k:Ex->St->Option β):b6 TT mX ⟨[(1,.own 900000 0),(2,dI p1),(3,.ptr 3 0)],[(3,some (.box (aR a0.cells))),(900000,some (.rows 0 3 1 (cM cI a1)))]⟩ k = (fN a0 a1 p1).bind (fun (r:(List Int))=>k .normal ⟨[(1,.own 900000 0)],[(900000,some (.rows 0 3 1 (cM cI r)))]⟩):=by
 unfold mX fN
 exact J9
theorem wI (a0:aC) (a1:List Int) (a2:Int):Vm.call TT 85 [.agg a0.cells,.own (.ref 0) [(3,1)] [cM cI a1],.int .i64 a2] = (eX a0 a1 a2).map fun (r:(List Int))=>.own (.tup []) [(3,1)] [cM cI r]:=by
 refine (SK (show TT 85 = some (.code ⟨3,18,[],aML,false,true⟩) from rfl) _ rfl rfl rfl).trans ?_
 show b6 TT aML ⟨[(1,.own 900000 0),(0,kY a0.cells),(1,.d (.own (.ref 0) [(3,1)] [cM cI a1])),(2,dI a2)],[(900000,some (.rows 0 3 1 (cM cI a1)))]⟩ _ = _
 unfold aML eX
 have u:=@BW
 exact oT
theorem FP {β:Type} (a1:List aH) (p13:List Int) (bl:List (Nat × Option aI)) (k:V->Option β) (kw:V->List (Nat × Option aI)->Option β):xU TT 51 bl 64 [.sl (cM aH.cells a1),.sl (cM cI p13)] k kw = (gA a1 p13).bind fun (r:(List aC))=>bG bl 100051 fun b=>gC b (kw (.own 100051 0) ((100051,some (.rows 0 95 6 (cM aC.cells r))) :: [])):=sK (wO a1 p13) (fun _=>(pQ rfl (wJ (pL _ (fun _=>rfl) _) rfl)))
theorem EX {β:Type} (a0:Int) (p12:List Int) (r14:(List aC)) (bl:List (Nat × Option aI)) (k:V->Option β) (kw:V->List (Nat × Option aI)->Option β):xU TT 56 bl 83 [.int .i64 a0,.sl (cM aC.cells r14),.sl (cM cI p12)] k kw = (fX a0 r14 p12).bind fun (r:(List aD) × (List Int))=>bG bl 100056 fun b=>gC b (bG bl 200056 fun b=>gC b (kw (.tup [.own 100056 0,.own 200056 0]) ((100056,some (.rows 0 114 3 (cM aD.cells r.1))) :: (200056,some (.rows 0 3 1 (cM cI r.2))) :: []))):=sK (yS a0 r14 p12) (fun _=>(pQ rfl (wJ (pL _ (fun _=>rfl) _) (wJ (pL _ (fun _=>rfl) _) rfl))))
theorem EY {β:Type} (p41:List Int) (r38:Int × Int) (x39:Int) (x44:aC) (bl:List (Nat × Option aI)) (kw:V->List (Nat × Option aI)->Option β):OW TT bl 85 900000 0 [.agg x44.cells,.own (.ref 0) [(3,1)] [cM cI p41],.int .i64 (if x39 < r38.1 then x39 else r38.1)] kw = (eX x44 p41 (if x39 < r38.1 then x39 else r38.1)).bind fun (r:(List Int))=>bG bl 900000 fun b=>KH 0 3 1 (cM cI r) b fun b2=>kw (.tup []) [(900000,b2)]:=JH (wI x44 p41 (if x39 < r38.1 then x39 else r38.1)) (fun _=>rfl) (fun _=>pL _ (fun _=>rfl) _) 900000 0
abbrev qO (a0:Int) (a1:List aH) (a2:List Int) (p1:Int) (p2:List Int):St:=⟨[(0,dI a0),(1,.d (.sl (cM aH.cells a1))),(2,.own 900000 0),(6,.own 18 0),(19,.d (.sl (cM aH.cells a1))),(20,dI (a1.length:Int)),(21,dI p1)],[(18,some (.rows 0 3 1 (cM cI p2))),(900000,some (.rows 0 3 1 (cM cI a2)))]⟩
theorem F2 (a0:Int) (a1:List aH) (a2:List Int) (p1:Int) (p2:List Int):b6 TT lD (qO a0 a1 a2 p1 p2) (fun e s=>some (e,s)) = cU (fun (w:Int × (List Int))=>qO a0 a1 a2 w.1 w.2) (fun (r:(List Int))=>(((.exit 0),⟨[(0,dI a0),(1,.d (.sl (cM aH.cells a1))),(2,.own 900000 0),(6,.own 18 0)],[(18,some (.rows 0 3 1 (cM cI r))),(900000,some (.rows 0 3 1 (cM cI a2)))]⟩):Ex × St)) (cN a0 a1 a2 p1 p2):=by
 unfold lD cN
 exact J9
theorem E8 {β:Type} (a0:Int) (a1:List aH) (a2:List Int) (p1:Int) (p2:List Int) (k:Ex->St->Option β):b6 TT wQ (qO a0 a1 a2 p1 p2) k = (kG a0 a1 a2 p1 p2).bind (fun (r:(List Int))=>k (.exit 0) ⟨[(0,dI a0),(1,.d (.sl (cM aH.cells a1))),(2,.own 900000 0),(6,.own 18 0)],[(18,some (.rows 0 3 1 (cM cI r))),(900000,some (.rows 0 3 1 (cM cI a2)))]⟩):=by
 have hh:=fun (w:Int × (List Int))=>F2 a0 a1 a2 w.1 w.2
 have h:=fun ho=>bE (T:=TT) (k:=k) (c:=lD) (step:=(fun (w:Int × (List Int))=>cN a0 a1 a2 w.1 w.2)) _ _ ho hh (p1,p2)
 refine Eq.trans (h (fun r s e=>by have q:=congrArg Prod.fst e; rcases r with x <;> cases q)) ?_
 unfold kG
 exact aM _ fun x=>by rcases x with x <;> rfl
abbrev qJ (a0:Int) (a1:List aH) (p12 p13:List Int) (r14:(List aC)) (r15:(List aD) × (List Int)) (p16 p17:Int):St:=⟨[(0,dI a0),(1,.d (.sl (cM aH.cells a1))),(2,.own 900000 0),(6,.own 18 0),(9,.own 100051 0),(10,.own 100056 0),(11,.own 200056 0),(12,dI p16),(59,dI a0),(60,dI p17)],[(18,some (.rows 0 3 1 (cM cI p12))),(100051,some (.rows 0 95 6 (cM aC.cells r14))),(100056,some (.rows 0 114 3 (cM aD.cells r15.1))),(200056,some (.rows 0 3 1 (cM cI r15.2))),(900000,some (.rows 0 3 1 (cM cI p13)))]⟩
theorem FH (a0:Int) (a1:List aH) (p12 p13:List Int) (r14:(List aC)) (r15:(List aD) × (List Int)) (p16 p17:Int):b6 TT lM (qJ a0 a1 p12 p13 r14 r15 p16 p17) (fun e s=>some (e,s)) = cU (fun (w:Int × Int)=>qJ a0 a1 p12 p13 r14 r15 w.1 w.2) (fun (r:Int)=>(((.exit 4),⟨[(0,dI a0),(1,.d (.sl (cM aH.cells a1))),(2,.own 900000 0),(6,.own 18 0),(9,.own 100051 0),(11,.own 200056 0),(12,dI r)],[(18,some (.rows 0 3 1 (cM cI p12))),(100051,some (.rows 0 95 6 (cM aC.cells r14))),(200056,some (.rows 0 3 1 (cM cI r15.2))),(900000,some (.rows 0 3 1 (cM cI p13)))]⟩):Ex × St)) (aX a0 a1 p12 p13 r14 r15 p16 p17):=by
 unfold lM aX
 have u:=@wG
 exact oT
theorem FC {β:Type} (a0:Int) (a1:List aH) (p12 p13:List Int) (r14:(List aC)) (r15:(List aD) × (List Int)) (p16 p17:Int) (k:Ex->St->Option β):b6 TT wX (qJ a0 a1 p12 p13 r14 r15 p16 p17) k = (j9 a0 a1 p12 p13 r14 r15 p16 p17).bind (fun (r:Int)=>k (.exit 4) ⟨[(0,dI a0),(1,.d (.sl (cM aH.cells a1))),(2,.own 900000 0),(6,.own 18 0),(9,.own 100051 0),(11,.own 200056 0),(12,dI r)],[(18,some (.rows 0 3 1 (cM cI p12))),(100051,some (.rows 0 95 6 (cM aC.cells r14))),(200056,some (.rows 0 3 1 (cM cI r15.2))),(900000,some (.rows 0 3 1 (cM cI p13)))]⟩):=by
 have hh:=fun (w:Int × Int)=>FH a0 a1 p12 p13 r14 r15 w.1 w.2
 have h:=fun ho=>bE (T:=TT) (k:=k) (c:=lM) (step:=(fun (w:Int × Int)=>aX a0 a1 p12 p13 r14 r15 w.1 w.2)) _ _ ho hh (p16,p17)
 refine Eq.trans (h (fun r s e=>by have q:=congrArg Prod.fst e; rcases r with x <;> cases q)) ?_
 unfold j9
 exact aM _ fun x=>by rcases x with x <;> rfl
abbrev qG (a0:Int) (a1:List aH) (p12 p13:List Int) (r14:(List aC)) (r15:(List aD) × (List Int)) (r27 p29 p30:Int):St:=⟨[(0,dI a0),(1,.d (.sl (cM aH.cells a1))),(2,.own 900000 0),(6,.own 18 0),(9,.own 100051 0),(11,.own 200056 0),(12,dI r27),(14,dI p29),(15,dI p30)],[(18,some (.rows 0 3 1 (cM cI p12))),(100051,some (.rows 0 95 6 (cM aC.cells r14))),(200056,some (.rows 0 3 1 (cM cI r15.2))),(900000,some (.rows 0 3 1 (cM cI p13)))]⟩
theorem FW (a0:Int) (a1:List aH) (p12 p13:List Int) (r14:(List aC)) (r15:(List aD) × (List Int)) (r27 p29 p30:Int):b6 TT lI (qG a0 a1 p12 p13 r14 r15 r27 p29 p30) (fun e s=>some (e,s)) = cU (fun (w:Int × Int)=>qG a0 a1 p12 p13 r14 r15 r27 w.1 w.2) (fun (r:Int × Int)=>(((.exit 6),⟨[(0,dI a0),(1,.d (.sl (cM aH.cells a1))),(2,.own 900000 0),(6,.own 18 0),(9,.own 100051 0),(11,.own 200056 0),(12,dI r27),(14,dI r.1),(15,dI r.2)],[(18,some (.rows 0 3 1 (cM cI p12))),(100051,some (.rows 0 95 6 (cM aC.cells r14))),(200056,some (.rows 0 3 1 (cM cI r15.2))),(900000,some (.rows 0 3 1 (cM cI p13)))]⟩):Ex × St)) (dR a0 a1 p12 p13 r14 r15 r27 p29 p30):=by
 unfold lI dR
 exact J9
theorem E2 {β:Type} (a0:Int) (a1:List aH) (p12 p13:List Int) (r14:(List aC)) (r15:(List aD) × (List Int)) (r27 p29 p30:Int) (k:Ex->St->Option β):b6 TT wL (qG a0 a1 p12 p13 r14 r15 r27 p29 p30) k = (fZ a0 a1 p12 p13 r14 r15 r27 p29 p30).bind (fun (r:Int × Int)=>k (.exit 6) ⟨[(0,dI a0),(1,.d (.sl (cM aH.cells a1))),(2,.own 900000 0),(6,.own 18 0),(9,.own 100051 0),(11,.own 200056 0),(12,dI r27),(14,dI r.1),(15,dI r.2)],[(18,some (.rows 0 3 1 (cM cI p12))),(100051,some (.rows 0 95 6 (cM aC.cells r14))),(200056,some (.rows 0 3 1 (cM cI r15.2))),(900000,some (.rows 0 3 1 (cM cI p13)))]⟩):=by
 have hh:=fun (w:Int × Int)=>FW a0 a1 p12 p13 r14 r15 r27 w.1 w.2
 have h:=fun ho=>bE (T:=TT) (k:=k) (c:=lI) (step:=(fun (w:Int × Int)=>dR a0 a1 p12 p13 r14 r15 r27 w.1 w.2)) _ _ ho hh (p29,p30)
 refine Eq.trans (h (fun r s e=>by have q:=congrArg Prod.fst e; rcases r with x <;> cases q)) ?_
 unfold fZ
 exact aM _ fun x=>by rcases x with x <;> rfl
abbrev pX (a0:Int) (a1:List aH) (p12:List Int) (r14:(List aC)) (r15:(List aD) × (List Int)) (r27:Int) (r38:Int × Int) (x39 p40:Int) (p41:List Int):St:=⟨[(0,dI a0),(1,.d (.sl (cM aH.cells a1))),(2,.own 900000 0),(6,.own 18 0),(9,.own 100051 0),(11,.own 200056 0),(12,dI r27),(14,dI (if x39 < r38.1 then x39 else r38.1)),(15,dI r38.2),(16,dI p40)],[(18,some (.rows 0 3 1 (cM cI p12))),(100051,some (.rows 0 95 6 (cM aC.cells r14))),(200056,some (.rows 0 3 1 (cM cI r15.2))),(900000,some (.rows 0 3 1 (cM cI p41)))]⟩
theorem FA (a0:Int) (a1:List aH) (p12:List Int) (r14:(List aC)) (r15:(List aD) × (List Int)) (r27:Int) (r38:Int × Int) (x39 p40:Int) (p41:List Int):b6 TT lA (pX a0 a1 p12 r14 r15 r27 r38 x39 p40 p41) (fun e s=>some (e,s)) = cU (fun (w:Int × (List Int))=>pX a0 a1 p12 r14 r15 r27 r38 x39 w.1 w.2) (fun (r:(List Int))=>(((.exit 8),⟨[(0,dI a0),(1,.d (.sl (cM aH.cells a1))),(2,.own 900000 0),(6,.own 18 0),(12,dI r27),(14,dI (if x39 < r38.1 then x39 else r38.1)),(15,dI r38.2)],[(18,some (.rows 0 3 1 (cM cI p12))),(900000,some (.rows 0 3 1 (cM cI r)))]⟩):Ex × St)) (dP a0 a1 p12 r14 r15 r27 r38 x39 p40 p41):=by
 unfold lA dP
 have u:=@EY
 exact oT
theorem FF {β:Type} (a0:Int) (a1:List aH) (p12:List Int) (r14:(List aC)) (r15:(List aD) × (List Int)) (r27:Int) (r38:Int × Int) (x39 p40:Int) (p41:List Int) (k:Ex->St->Option β):b6 TT wN (pX a0 a1 p12 r14 r15 r27 r38 x39 p40 p41) k = (fY a0 a1 p12 r14 r15 r27 r38 x39 p40 p41).bind (fun (r:(List Int))=>k (.exit 8) ⟨[(0,dI a0),(1,.d (.sl (cM aH.cells a1))),(2,.own 900000 0),(6,.own 18 0),(12,dI r27),(14,dI (if x39 < r38.1 then x39 else r38.1)),(15,dI r38.2)],[(18,some (.rows 0 3 1 (cM cI p12))),(900000,some (.rows 0 3 1 (cM cI r)))]⟩):=by
 have hh:=fun (w:Int × (List Int))=>FA a0 a1 p12 r14 r15 r27 r38 x39 w.1 w.2
 have h:=fun ho=>bE (T:=TT) (k:=k) (c:=lA) (step:=(fun (w:Int × (List Int))=>dP a0 a1 p12 r14 r15 r27 r38 x39 w.1 w.2)) _ _ ho hh (p40,p41)
 refine Eq.trans (h (fun r s e=>by have q:=congrArg Prod.fst e; rcases r with x <;> cases q)) ?_
 unfold fY
 exact aM _ fun x=>by rcases x with x <;> rfl
abbrev qD (a0:Int) (a1:List aH) (p12 p13:List Int):St:=⟨[(0,dI a0),(1,.d (.sl (cM aH.cells a1))),(2,.own 900000 0),(6,.own 18 0)],[(18,some (.rows 0 3 1 (cM cI p12))),(900000,some (.rows 0 3 1 (cM cI p13)))]⟩
theorem FL (a0:Int) (a1:List aH) (p12 p13:List Int):b6 TT lJ (qD a0 a1 p12 p13) (fun e s=>some (e,s)) = cU (fun (w:(List Int) × (List Int))=>qD a0 a1 w.1 w.2) (fun (r:(List Int))=>((.ret,⟨[(2,.own 900000 0)],[(900000,some (.rows 0 3 1 (cM cI r)))]⟩):Ex × St)) (cZ a0 a1 p12 p13):=by
 unfold lJ cZ
 have u:=aN (aN @FC @E2) (aN @FF (aN @FP @EX))
 exact oT
theorem EJ {β:Type} (a0:Int) (a1:List aH) (p12 p13:List Int) (k:Ex->St->Option β):b6 TT wW (qD a0 a1 p12 p13) k = (nQ a0 a1 p12 p13).bind (fun (r:(List Int))=>k .ret ⟨[(2,.own 900000 0)],[(900000,some (.rows 0 3 1 (cM cI r)))]⟩):=by
 have hh:=fun (w:(List Int) × (List Int))=>FL a0 a1 w.1 w.2
 have h:=fun ho=>bE (T:=TT) (k:=k) (c:=lJ) (step:=(fun (w:(List Int) × (List Int))=>cZ a0 a1 w.1 w.2)) _ _ ho hh (p12,p13)
 refine Eq.trans (h (fun r s e=>by have q:=congrArg Prod.fst e; rcases r with x <;> cases q)) ?_
 unfold nQ
 exact aM _ fun x=>by rcases x with x <;> rfl
theorem JT (a0:Int) (a1:List aH) (a2:List Int):Vm.call TT 61 [.int .i64 a0,.sl (cM aH.cells a1),.own (.ref 0) [(3,1)] [cM cI a2]] = (kP a0 a1 a2).map fun (r:(List Int))=>.own (.tup []) [(3,1)] [cM cI r]:=by
 refine (SK (show TT 61 = some (.code ⟨3,171,[],aPW,false,true⟩) from rfl) _ rfl rfl rfl).trans ?_
 show b6 TT aPW ⟨[(2,.own 900000 0),(0,dI a0),(1,.d (.sl (cM aH.cells a1))),(2,.d (.own (.ref 0) [(3,1)] [cM cI a2]))],[(900000,some (.rows 0 3 1 (cM cI a2)))]⟩ _ = _
 unfold aPW kP
 have u:=aN @E8 @EJ
 exact oT
theorem CK (a0:Int) (a1:aC):Vm.call TT 86 [.int .i64 a0,.agg a1.cells] = (gI a0 a1).map fun (r:Int)=>.int .i64 r:=by
 refine (bQ (show TT 86 = some (.code ⟨2,9,[.tmp 4],aOk,false,false⟩) from rfl) _ rfl rfl).trans ?_
 show b6 TT aOk ⟨[(0,dI a0),(1,kY a1.cells)],[]⟩ _ = _
 unfold aOk gI
 exact J9
theorem CS (a0:Int) (a1:aC):KF TT 86 [.int .i64 a0,.agg a1.cells] (gI a0 a1) (fun (r:Int)=>dI r):=kF (CK a0 a1) (fun _=>rfl) (fun _=>rfl)
theorem N3 (a0:Int):Vm.call TT 108 [.int .i64 a0] = (oF a0).map fun (r:Bool)=>.bool r:=by
 refine (bQ (show TT 108 = some (.code ⟨1,6,[.tmp 2],aEb,false,false⟩) from rfl) _ rfl rfl).trans ?_
 show b6 TT aEb ⟨[(0,dI a0)],[]⟩ _ = _
 unfold aEb oF
 exact J9
theorem OJ (a0:Int):KF TT 108 [.int .i64 a0] (oF a0) (fun (r:Bool)=>dB r):=kF (N3 a0) (fun _=>rfl) (fun _=>rfl)
theorem PW (a0 a1:Int):Vm.call TT 87 [.int .i64 a0,.int .i64 a1] = (qX a0 a1).map fun (r:Bool)=>.bool r:=by
 refine (bQ (show TT 87 = some (.code ⟨2,17,[.tmp 4],aOF,false,false⟩) from rfl) _ rfl rfl).trans ?_
 show b6 TT aOF ⟨[(0,dI a0),(1,dI a1)],[]⟩ _ = _
 unfold aOF qX
 have u:=@OJ
 exact oT
theorem PR (a0 a1:Int):KF TT 87 [.int .i64 a0,.int .i64 a1] (qX a0 a1) (fun (r:Bool)=>dB r):=kF (PW a0 a1) (fun _=>rfl) (fun _=>rfl)
theorem sU {β:Type} (a1:List aH) (a2:List Int) (bl:List (Nat × Option aI)) (k:V->Option β) (kw:V->List (Nat × Option aI)->Option β):xU TT 13 bl 64 [.sl (cM aH.cells a1),.sl (cM cI a2)] k kw = (gA a1 a2).bind fun (r:(List aC))=>bG bl 100013 fun b=>gC b (kw (.own 100013 0) ((100013,some (.rows 0 95 6 (cM aC.cells r))) :: [])):=sK (wO a1 a2) (fun _=>(pQ rfl (wJ (pL _ (fun _=>rfl) _) rfl)))
theorem sT {β:Type} (a0:Int) (bl fz:List (Nat × Option aI)) (k:V->Option β) (kw:V->List (Nat × Option aI)->Option β):xI TT 10015 bl 109 [.sl (cM cI [(-1)]),.int .i64 ((List.replicate a0.toNat (0:Int)).length:Int)] fz k kw = (gF [(-1)] ((List.replicate a0.toNat (0:Int)).length:Int)).bind fun (r:(List Int))=>bG bl 110015 fun b=>gC b (kw (.own 110015 0) ((110015,some (.rows 0 3 1 (cM cI r))) :: fz)):=C5 (uB [(-1)] ((List.replicate a0.toNat (0:Int)).length:Int)) fz
abbrev mY (r1:(List aC)) (p6:Bool) (p7:Int) (p8 p9:List Int):St:=⟨[(0,.ptr 7 0),(1,.own 100013 0),(4,dB p6),(19,.own 100013 0),(20,dI (r1.length:Int)),(21,dI p7)],[(7,some (.box [.own 9 0,.own 110015 0,.d (.fn 86 []),.d (.fn 87 [])])),(9,some (.rows 0 3 1 (cM cI p8))),(8001,some (.outer [.ptr 7 0])),(100013,some (.rows 0 95 6 (cM aC.cells r1))),(110015,some (.rows 0 3 1 (cM cI p9)))]⟩
theorem BU (r1:(List aC)) (p6:Bool) (p7:Int) (p8 p9:List Int):b6 TT jM (mY r1 p6 p7 p8 p9) (fun e s=>some (e,s)) = cU (fun (w:Bool × Int × (List Int) × (List Int))=>mY r1 w.1 w.2.1 w.2.2.1 w.2.2.2) (fun (r:Bool × (List Int) × (List Int))=>(((.exit 2),⟨[(0,.ptr 7 0),(1,.own 100013 0),(4,dB r.1)],[(7,some (.box [.own 9 0,.own 110015 0,.d (.fn 86 []),.d (.fn 87 [])])),(9,some (.rows 0 3 1 (cM cI r.2.1))),(8001,some (.outer [.ptr 7 0])),(100013,some (.rows 0 95 6 (cM aC.cells r1))),(110015,some (.rows 0 3 1 (cM cI r.2.2)))]⟩):Ex × St)) (cR r1 p6 p7 p8 p9):=by
 unfold jM cR
 have u:=aN (aN @CS @PR) (aN @sU @sT)
 exact oT
theorem BO {β:Type} (r1:(List aC)) (p6:Bool) (p7:Int) (p8 p9:List Int) (k:Ex->St->Option β):b6 TT sX (mY r1 p6 p7 p8 p9) k = (iK r1 p6 p7 p8 p9).bind (fun (r:Bool × (List Int) × (List Int))=>k (.exit 2) ⟨[(0,.ptr 7 0),(1,.own 100013 0),(4,dB r.1)],[(7,some (.box [.own 9 0,.own 110015 0,.d (.fn 86 []),.d (.fn 87 [])])),(9,some (.rows 0 3 1 (cM cI r.2.1))),(8001,some (.outer [.ptr 7 0])),(100013,some (.rows 0 95 6 (cM aC.cells r1))),(110015,some (.rows 0 3 1 (cM cI r.2.2)))]⟩):=by
 have hh:=fun (w:Bool × Int × (List Int) × (List Int))=>BU r1 w.1 w.2.1 w.2.2.1 w.2.2.2
 have h:=fun ho=>bE (T:=TT) (k:=k) (c:=jM) (step:=(fun (w:Bool × Int × (List Int) × (List Int))=>cR r1 w.1 w.2.1 w.2.2.1 w.2.2.2)) _ _ ho hh (p6,p7,p8,p9)
 refine Eq.trans (h (fun r s e=>by have q:=congrArg Prod.fst e; rcases r with x <;> cases q)) ?_
 unfold iK
 exact aM _ fun x=>by rcases x with x <;> rfl
abbrev m6 (r1:(List aC)) (p3:Bool) (p4 p5:List Int):St:=⟨[(0,.ptr 7 0),(1,.own 100013 0),(4,dB p3)],[(7,some (.box [.own 9 0,.own 110015 0,.d (.fn 86 []),.d (.fn 87 [])])),(9,some (.rows 0 3 1 (cM cI p4))),(8001,some (.outer [.ptr 7 0])),(100013,some (.rows 0 95 6 (cM aC.cells r1))),(110015,some (.rows 0 3 1 (cM cI p5)))]⟩
theorem BX (r1:(List aC)) (p3:Bool) (p4 p5:List Int):b6 TT jO (m6 r1 p3 p4 p5) (fun e s=>some (e,s)) = cU (fun (w:Bool × (List Int) × (List Int))=>m6 r1 w.1 w.2.1 w.2.2) (fun (r:(List Int) × (List Int))=>(((.exit 0),⟨[],[(7,some (.box [.own 9 0,.own 110015 0,.d (.fn 86 []),.d (.fn 87 [])])),(9,some (.rows 0 3 1 (cM cI r.1))),(8001,some (.outer [.ptr 7 0])),(110015,some (.rows 0 3 1 (cM cI r.2)))]⟩):Ex × St)) (e8 r1 p3 p4 p5):=by
 unfold jO e8
 have u:=@BO
 exact oT
theorem BN {β:Type} (r1:(List aC)) (p3:Bool) (p4 p5:List Int) (k:Ex->St->Option β):b6 TT sZ (m6 r1 p3 p4 p5) k = (iN r1 p3 p4 p5).bind (fun (r:(List Int) × (List Int))=>k (.exit 0) ⟨[],[(7,some (.box [.own 9 0,.own 110015 0,.d (.fn 86 []),.d (.fn 87 [])])),(9,some (.rows 0 3 1 (cM cI r.1))),(8001,some (.outer [.ptr 7 0])),(110015,some (.rows 0 3 1 (cM cI r.2)))]⟩):=by
 have hh:=fun (w:Bool × (List Int) × (List Int))=>BX r1 w.1 w.2.1 w.2.2
 have h:=fun ho=>bE (T:=TT) (k:=k) (c:=jO) (step:=(fun (w:Bool × (List Int) × (List Int))=>e8 r1 w.1 w.2.1 w.2.2)) _ _ ho hh (p3,p4,p5)
 refine Eq.trans (h (fun r s e=>by have q:=congrArg Prod.fst e; rcases r with x <;> cases q)) ?_
 unfold iN
 exact aM _ fun x=>by rcases x with x <;> rfl
theorem xA (a0:Int) (a1:List aH) (a2:List Int):Vm.call TT 62 [.int .i64 a0,.sl (cM aH.cells a1),.sl (cM cI a2)] = (eY a0 a1 a2).map fun (r:(List Int))=>.own (.ref 0) [(3,1)] [cM cI r]:=by
 refine (LX (show TT 62 = some (.code ⟨3,17,[.tmp 6],aPC,true,false⟩) from rfl) _ rfl rfl).trans ?_
 show b6 TT aPC ⟨[(0,dI a0),(1,.d (.sl (cM aH.cells a1))),(2,.d (.sl (cM cI a2)))],[]⟩ _ = _
 unfold aPC eY
 have u:=aN @BN (aN @sU @sT)
 exact oT
theorem HR {β:Type} (a1:List aH) (p5:List Int) (bl:List (Nat × Option aI)) (k:V->Option β) (kw:V->List (Nat × Option aI)->Option β):xU TT 50 bl 64 [.sl (cM aH.cells a1),.sl (cM cI p5)] k kw = (gA a1 p5).bind fun (r:(List aC))=>bG bl 100050 fun b=>gC b (kw (.own 100050 0) ((100050,some (.rows 0 95 6 (cM aC.cells r))) :: [])):=sK (wO a1 p5) (fun _=>(pQ rfl (wJ (pL _ (fun _=>rfl) _) rfl)))
theorem HL {β:Type} (a0:Int) (r22:(List aC)) (x16:aH) (bl:List (Nat × Option aI)) (k:V->Option β) (kw:V->List (Nat × Option aI)->Option β):xU TT 104 bl 83 [.int .i64 a0,.sl (cM aC.cells r22),.sl (cM cI ((List.replicate a0.toNat (0:Int)).set x16.To.toNat 1))] k kw = (fX a0 r22 ((List.replicate a0.toNat (0:Int)).set x16.To.toNat 1)).bind fun (r:(List aD) × (List Int))=>bG bl 100104 fun b=>gC b (bG bl 200104 fun b=>gC b (kw (.tup [.own 100104 0,.own 200104 0]) ((100104,some (.rows 0 114 3 (cM aD.cells r.1))) :: (200104,some (.rows 0 3 1 (cM cI r.2))) :: []))):=sK (yS a0 r22 ((List.replicate a0.toNat (0:Int)).set x16.To.toNat 1)) (fun _=>(pQ rfl (wJ (pL _ (fun _=>rfl) _) (wJ (pL _ (fun _=>rfl) _) rfl))))
theorem HU {β:Type} (p40:List Int) (r37:Int) (x43:aC) (bl:List (Nat × Option aI)) (kw:V->List (Nat × Option aI)->Option β):OW TT bl 85 900000 0 [.agg x43.cells,.own (.ref 0) [(3,1)] [cM cI p40],.int .i64 r37] kw = (eX x43 p40 r37).bind fun (r:(List Int))=>bG bl 900000 fun b=>KH 0 3 1 (cM cI r) b fun b2=>kw (.tup []) [(900000,b2)]:=JH (wI x43 p40 r37) (fun _=>rfl) (fun _=>pL _ (fun _=>rfl) _) 900000 0
abbrev rV (a0:Int) (a1:List aH) (a3:List Int) (a4:Int) (p5:List Int) (r8:(List aC)) (p9:Int) (p10:List aC):St:=⟨[(0,dI a0),(1,.d (.sl (cM aH.cells a1))),(2,.own 900000 0),(3,.d (.sl (cM cI a3))),(4,dI a4),(10,.own 79 0),(50,.own 100050 0),(51,dI (r8.length:Int)),(52,dI p9)],[(79,some (.rows 0 95 6 (cM aC.cells p10))),(100050,some (.rows 0 95 6 (cM aC.cells r8))),(900000,some (.rows 0 3 1 (cM cI p5)))]⟩
theorem IE (a0:Int) (a1:List aH) (a3:List Int) (a4:Int) (p5:List Int) (r8:(List aC)) (p9:Int) (p10:List aC):b6 TT nP (rV a0 a1 a3 a4 p5 r8 p9 p10) (fun e s=>some (e,s)) = cU (fun (w:Int × (List aC))=>rV a0 a1 a3 a4 p5 r8 w.1 w.2) (fun (r:(List aC))=>(((.exit 2),⟨[(0,dI a0),(1,.d (.sl (cM aH.cells a1))),(2,.own 900000 0),(3,.d (.sl (cM cI a3))),(4,dI a4),(10,.own 79 0)],[(79,some (.rows 0 95 6 (cM aC.cells r))),(900000,some (.rows 0 3 1 (cM cI p5)))]⟩):Ex × St)) (c7 a0 a1 a3 a4 p5 r8 p9 p10):=by
 unfold nP c7
 exact J9
theorem IF {β:Type} (a0:Int) (a1:List aH) (a3:List Int) (a4:Int) (p5:List Int) (r8:(List aC)) (p9:Int) (p10:List aC) (k:Ex->St->Option β):b6 TT yN (rV a0 a1 a3 a4 p5 r8 p9 p10) k = (mK a0 a1 a3 a4 p5 r8 p9 p10).bind (fun (r:(List aC))=>k (.exit 2) ⟨[(0,dI a0),(1,.d (.sl (cM aH.cells a1))),(2,.own 900000 0),(3,.d (.sl (cM cI a3))),(4,dI a4),(10,.own 79 0)],[(79,some (.rows 0 95 6 (cM aC.cells r))),(900000,some (.rows 0 3 1 (cM cI p5)))]⟩):=by
 have hh:=fun (w:Int × (List aC))=>IE a0 a1 a3 a4 p5 r8 w.1 w.2
 have h:=fun ho=>bE (T:=TT) (k:=k) (c:=nP) (step:=(fun (w:Int × (List aC))=>c7 a0 a1 a3 a4 p5 r8 w.1 w.2)) _ _ ho hh (p9,p10)
 refine Eq.trans (h (fun r s e=>by have q:=congrArg Prod.fst e; rcases r with x <;> cases q)) ?_
 unfold mK
 exact aM _ fun x=>by rcases x with x <;> rfl
abbrev rT (a0:Int) (a1:List aH) (a3:List Int) (a4:Int) (p5:List Int) (r15:(List aC)) (x16:aH) (p18:Int) (p19:List aC):St:=⟨[(0,dI a0),(1,.d (.sl (cM aH.cells a1))),(2,.own 900000 0),(3,.d (.sl (cM cI a3))),(4,dI a4),(10,.own 79 0),(13,.own 82 0),(91,dI (r15.length:Int)),(92,dI p18)],[(79,some (.rows 0 95 6 (cM aC.cells p19))),(82,some (.rows 0 3 1 (cM cI ((List.replicate a0.toNat (0:Int)).set x16.To.toNat 1)))),(900000,some (.rows 0 3 1 (cM cI p5)))]⟩
theorem HZ (a0:Int) (a1:List aH) (a3:List Int) (a4:Int) (p5:List Int) (r15:(List aC)) (x16:aH) (p18:Int) (p19:List aC):b6 TT nE (rT a0 a1 a3 a4 p5 r15 x16 p18 p19) (fun e s=>some (e,s)) = cU (fun (w:Int × (List aC))=>rT a0 a1 a3 a4 p5 r15 x16 w.1 w.2) (fun (r:(List aC))=>(((.exit 4),⟨[(0,dI a0),(1,.d (.sl (cM aH.cells a1))),(2,.own 900000 0),(3,.d (.sl (cM cI a3))),(4,dI a4),(10,.own 79 0),(13,.own 82 0)],[(79,some (.rows 0 95 6 (cM aC.cells r))),(82,some (.rows 0 3 1 (cM cI ((List.replicate a0.toNat (0:Int)).set x16.To.toNat 1)))),(900000,some (.rows 0 3 1 (cM cI p5)))]⟩):Ex × St)) (c9 a0 a1 a3 a4 p5 r15 x16 p18 p19):=by
 unfold nE c9
 exact J9
theorem IB {β:Type} (a0:Int) (a1:List aH) (a3:List Int) (a4:Int) (p5:List Int) (r15:(List aC)) (x16:aH) (p18:Int) (p19:List aC) (k:Ex->St->Option β):b6 TT y9 (rT a0 a1 a3 a4 p5 r15 x16 p18 p19) k = (lZ a0 a1 a3 a4 p5 r15 x16 p18 p19).bind (fun (r:(List aC))=>k (.exit 4) ⟨[(0,dI a0),(1,.d (.sl (cM aH.cells a1))),(2,.own 900000 0),(3,.d (.sl (cM cI a3))),(4,dI a4),(10,.own 79 0),(13,.own 82 0)],[(79,some (.rows 0 95 6 (cM aC.cells r))),(82,some (.rows 0 3 1 (cM cI ((List.replicate a0.toNat (0:Int)).set x16.To.toNat 1)))),(900000,some (.rows 0 3 1 (cM cI p5)))]⟩):=by
 have hh:=fun (w:Int × (List aC))=>HZ a0 a1 a3 a4 p5 r15 x16 w.1 w.2
 have h:=fun ho=>bE (T:=TT) (k:=k) (c:=nE) (step:=(fun (w:Int × (List aC))=>c9 a0 a1 a3 a4 p5 r15 x16 w.1 w.2)) _ _ ho hh (p18,p19)
 refine Eq.trans (h (fun r s e=>by have q:=congrArg Prod.fst e; rcases r with x <;> cases q)) ?_
 unfold lZ
 exact aM _ fun x=>by rcases x with x <;> rfl
abbrev sC (a0:Int) (a1:List aH) (a3:List Int) (a4:Int) (p5:List Int) (r22:(List aC)) (r23:(List aD) × (List Int)) (p29 p30:Int):St:=⟨[(0,dI a0),(1,.d (.sl (cM aH.cells a1))),(2,.own 900000 0),(3,.d (.sl (cM cI a3))),(4,dI a4),(10,.own 79 0),(16,.own 200104 0),(17,dI p29),(18,dI p30)],[(79,some (.rows 0 95 6 (cM aC.cells r22))),(200104,some (.rows 0 3 1 (cM cI r23.2))),(900000,some (.rows 0 3 1 (cM cI p5)))]⟩
theorem G7 (a0:Int) (a1:List aH) (a3:List Int) (a4:Int) (p5:List Int) (r22:(List aC)) (r23:(List aD) × (List Int)) (p29 p30:Int):b6 TT nI (sC a0 a1 a3 a4 p5 r22 r23 p29 p30) (fun e s=>some (e,s)) = cU (fun (w:Int × Int)=>sC a0 a1 a3 a4 p5 r22 r23 w.1 w.2) (fun (r:Int)=>(((.exit 6),⟨[(0,dI a0),(1,.d (.sl (cM aH.cells a1))),(2,.own 900000 0),(3,.d (.sl (cM cI a3))),(4,dI a4),(10,.own 79 0),(16,.own 200104 0),(17,dI r)],[(79,some (.rows 0 95 6 (cM aC.cells r22))),(200104,some (.rows 0 3 1 (cM cI r23.2))),(900000,some (.rows 0 3 1 (cM cI p5)))]⟩):Ex × St)) (eW a0 a1 a3 a4 p5 r22 r23 p29 p30):=by
 unfold nI eW
 exact J9
theorem G8 {β:Type} (a0:Int) (a1:List aH) (a3:List Int) (a4:Int) (p5:List Int) (r22:(List aC)) (r23:(List aD) × (List Int)) (p29 p30:Int) (k:Ex->St->Option β):b6 TT yY (sC a0 a1 a3 a4 p5 r22 r23 p29 p30) k = (iF a0 a1 a3 a4 p5 r22 r23 p29 p30).bind (fun (r:Int)=>k (.exit 6) ⟨[(0,dI a0),(1,.d (.sl (cM aH.cells a1))),(2,.own 900000 0),(3,.d (.sl (cM cI a3))),(4,dI a4),(10,.own 79 0),(16,.own 200104 0),(17,dI r)],[(79,some (.rows 0 95 6 (cM aC.cells r22))),(200104,some (.rows 0 3 1 (cM cI r23.2))),(900000,some (.rows 0 3 1 (cM cI p5)))]⟩):=by
 have hh:=fun (w:Int × Int)=>G7 a0 a1 a3 a4 p5 r22 r23 w.1 w.2
 have h:=fun ho=>bE (T:=TT) (k:=k) (c:=nI) (step:=(fun (w:Int × Int)=>eW a0 a1 a3 a4 p5 r22 r23 w.1 w.2)) _ _ ho hh (p29,p30)
 refine Eq.trans (h (fun r s e=>by have q:=congrArg Prod.fst e; rcases r with x <;> cases q)) ?_
 unfold iF
 exact aM _ fun x=>by rcases x with x <;> rfl
abbrev rS (a0:Int) (a1:List aH) (a3:List Int) (a4:Int) (r22:(List aC)) (r23:(List aD) × (List Int)) (r37 p39:Int) (p40:List Int):St:=⟨[(0,dI a0),(1,.d (.sl (cM aH.cells a1))),(2,.own 900000 0),(3,.d (.sl (cM cI a3))),(4,dI a4),(10,.own 79 0),(16,.own 200104 0),(17,dI r37),(19,dI p39)],[(79,some (.rows 0 95 6 (cM aC.cells r22))),(200104,some (.rows 0 3 1 (cM cI r23.2))),(900000,some (.rows 0 3 1 (cM cI p40)))]⟩
theorem IR (a0:Int) (a1:List aH) (a3:List Int) (a4:Int) (r22:(List aC)) (r23:(List aD) × (List Int)) (r37 p39:Int) (p40:List Int):b6 TT nJ (rS a0 a1 a3 a4 r22 r23 r37 p39 p40) (fun e s=>some (e,s)) = cU (fun (w:Int × (List Int))=>rS a0 a1 a3 a4 r22 r23 r37 w.1 w.2) (fun (r:(List Int))=>(((.exit 8),⟨[(0,dI a0),(1,.d (.sl (cM aH.cells a1))),(2,.own 900000 0),(3,.d (.sl (cM cI a3))),(4,dI a4),(17,dI r37)],[(900000,some (.rows 0 3 1 (cM cI r)))]⟩):Ex × St)) (e7 a0 a1 a3 a4 r22 r23 r37 p39 p40):=by
 unfold nJ e7
 have u:=@HU
 exact oT
theorem HA {β:Type} (a0:Int) (a1:List aH) (a3:List Int) (a4:Int) (r22:(List aC)) (r23:(List aD) × (List Int)) (r37 p39:Int) (p40:List Int) (k:Ex->St->Option β):b6 TT yX (rS a0 a1 a3 a4 r22 r23 r37 p39 p40) k = (iH a0 a1 a3 a4 r22 r23 r37 p39 p40).bind (fun (r:(List Int))=>k (.exit 8) ⟨[(0,dI a0),(1,.d (.sl (cM aH.cells a1))),(2,.own 900000 0),(3,.d (.sl (cM cI a3))),(4,dI a4),(17,dI r37)],[(900000,some (.rows 0 3 1 (cM cI r)))]⟩):=by
 have hh:=fun (w:Int × (List Int))=>IR a0 a1 a3 a4 r22 r23 r37 w.1 w.2
 have h:=fun ho=>bE (T:=TT) (k:=k) (c:=nJ) (step:=(fun (w:Int × (List Int))=>e7 a0 a1 a3 a4 r22 r23 r37 w.1 w.2)) _ _ ho hh (p39,p40)
 refine Eq.trans (h (fun r s e=>by have q:=congrArg Prod.fst e; rcases r with x <;> cases q)) ?_
 unfold iH
 exact aM _ fun x=>by rcases x with x <;> rfl
abbrev sD (a0:Int) (a1:List aH) (a3:List Int) (a4:Int) (p5:List Int):St:=⟨[(0,dI a0),(1,.d (.sl (cM aH.cells a1))),(2,.own 900000 0),(3,.d (.sl (cM cI a3))),(4,dI a4)],[(900000,some (.rows 0 3 1 (cM cI p5)))]⟩
theorem IP (a0:Int) (a1:List aH) (a3:List Int) (a4:Int) (p5:List Int):b6 TT nB (sD a0 a1 a3 a4 p5) (fun e s=>some (e,s)) = cU (fun (w:(List Int))=>sD a0 a1 a3 a4 w) (fun (r:((List Int)) ⊕ ((List Int)))=>Sum.elim (fun (z:(List Int))=>(((.exit 0),⟨[(2,.own 900000 0)],[(900000,some (.rows 0 3 1 (cM cI z)))]⟩):Ex × St)) (fun (z:(List Int))=>((.ret,⟨[(2,.own 900000 0)],[(900000,some (.rows 0 3 1 (cM cI z)))]⟩):Ex × St)) r) (cP a0 a1 a3 a4 p5):=by
 unfold nB cP
 have u:=aN (aN @IF (aN @IB @G8)) (aN @HA (aN @HR @HL))
 exact oT
theorem IQ {β:Type} (a0:Int) (a1:List aH) (a3:List Int) (a4:Int) (p5:List Int) (k:Ex->St->Option β):b6 TT yQ (sD a0 a1 a3 a4 p5) k = (pS a0 a1 a3 a4 p5).bind (fun (r:((List Int)) ⊕ ((List Int)))=>Sum.elim (fun (z:(List Int))=>k (.exit 0) ⟨[(2,.own 900000 0)],[(900000,some (.rows 0 3 1 (cM cI z)))]⟩) (fun (z:(List Int))=>k .ret ⟨[(2,.own 900000 0)],[(900000,some (.rows 0 3 1 (cM cI z)))]⟩) r):=by
 have hh:=fun (w:(List Int))=>IP a0 a1 a3 a4 w
 have h:=fun ho=>bE (T:=TT) (k:=k) (c:=nB) (step:=(fun (w:(List Int))=>cP a0 a1 a3 a4 w)) _ _ ho hh p5
 refine Eq.trans (h (fun r s e=>by have q:=congrArg Prod.fst e; rcases r with x | x <;> cases q)) ?_
 unfold pS
 exact aM _ fun x=>by rcases x with x | x <;> rfl
theorem MN (a0:Int) (a1:List aH) (a2 a3:List Int) (a4:Int):Vm.call TT 63 [.int .i64 a0,.sl (cM aH.cells a1),.own (.ref 0) [(3,1)] [cM cI a2],.sl (cM cI a3),.int .i64 a4] = (m8 a0 a1 a2 a3 a4).map fun (r:(List Int))=>.own (.tup []) [(3,1)] [cM cI r]:=by
 refine (SK (show TT 63 = some (.code ⟨5,190,[],aO9,false,true⟩) from rfl) _ rfl rfl rfl).trans ?_
 show b6 TT aO9 ⟨[(2,.own 900000 0),(0,dI a0),(1,.d (.sl (cM aH.cells a1))),(2,.d (.own (.ref 0) [(3,1)] [cM cI a2])),(3,.d (.sl (cM cI a3))),(4,dI a4)],[(900000,some (.rows 0 3 1 (cM cI a2)))]⟩ _ = _
 unfold aO9 m8
 have u:=@IQ
 exact oT
end Go.Proofs.Ytgjcnbgfaimepaa
