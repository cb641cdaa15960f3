/- The functions of the small machine compute the plain definitions. Printed by a program. -/
import Derived.Test.YtgjcnbgfaimepaaLnk1
set_option linter.unusedVariables false
set_option linter.unusedSimpArgs false
namespace Go.Proofs.Ytgjcnbgfaimepaa
open Vm
open Go.RowKit
set_option maxRecDepth 100000
set_option maxHeartbeats 4000000
attribute [local congr] yF BK yB BI
theorem PD {β:Type} (a0:List aI) (a1:List Int) (p1:Int) (x3:aI) (p6:List aC) (k:Ex->St->Option β):bD TT yJ ⟨[(1,.d (.sl (cM cI a1))),(5,.own 37 0),(6,dI p1),(7,.ptr 7 0),(8,.d (.sl (cM aI.cells a0))),(9,dI (a0.length:Int)),(10,dI p1)],[(7,some (.box (fL x3.cells))),(37,some (.rows 0 95 6 (cM aC.cells p6)))]⟩ k = (m9 a0 a1 p1 x3 p6).bind (fun (r:(List aC))=>k .normal ⟨[(1,.d (.sl (cM cI a1))),(5,.own 37 0),(8,.d (.sl (cM aI.cells a0))),(9,dI (a0.length:Int)),(10,dI p1)],[(37,some (.rows 0 95 6 (cM aC.cells r)))]⟩):=by
 unfold yJ m9
 exact G7
abbrev xT (a0:List aI) (a1:List Int) (p1:Int) (p2:List aC):St:=⟨[(1,.d (.sl (cM cI a1))),(5,.own 37 0),(8,.d (.sl (cM aI.cells a0))),(9,dI (a0.length:Int)),(10,dI p1)],[(37,some (.rows 0 95 6 (cM aC.cells p2)))]⟩
theorem PB (a0:List aI) (a1:List Int) (p1:Int) (p2:List aC):bD TT sC (xT a0 a1 p1 p2) (fun e s=>some (e,s)) = bP (fun (w:Int × (List aC))=>xT a0 a1 w.1 w.2) (fun (r:(List aC))=>(((.exit 0),⟨[(5,.own 37 0)],[(37,some (.rows 0 95 6 (cM aC.cells r)))]⟩):Ex × St)) (e9 a0 a1 p1 p2):=by
 unfold sC e9
 have u:=@PD
 exact mJ
theorem PW {β:Type} (a0:List aI) (a1:List Int) (p1:Int) (p2:List aC) (k:Ex->St->Option β):bD TT EE (xT a0 a1 p1 p2) k = (w6 a0 a1 p1 p2).bind (fun (r:(List aC))=>k (.exit 0) ⟨[(5,.own 37 0)],[(37,some (.rows 0 95 6 (cM aC.cells r)))]⟩):=by
 have hh:=fun (w:Int × (List aC))=>PB a0 a1 w.1 w.2
 have h:=fun ho=>aQ (T:=TT) (k:=k) (c:=sC) (step:=(fun (w:Int × (List aC))=>e9 a0 a1 w.1 w.2)) _ _ ho hh (p1,p2)
 refine Eq.trans (h (fun r s e=>by have q:=congrArg Prod.fst e; rcases r with x <;> cases q)) ?_
 unfold w6
 exact aK _ fun x=>by rcases x with x <;> rfl
theorem C8 (a0:List aI) (a1:List Int):Vm.call TT 64 [.sl (cM aI.cells a0),.sl (cM cI a1)] = (jM a0 a1).map fun (r:(List aC))=>.own (.ref 0) [(95,6)] [cM aC.cells r]:=by
 refine (PA (show TT 64 = some (.code ⟨2,58,[.tmp 4],aOe,true,false⟩) from rfl) _ rfl rfl).trans ?_
 show bD TT aOe ⟨[(0,.d (.sl (cM aI.cells a0))),(1,.d (.sl (cM cI a1)))],[]⟩ _ = _
 unfold aOe jM
 have u:=@PW
 exact mJ
theorem AS (a0:List Int) (a1:Int):Vm.call TT 109 [.sl (cM cI a0),.int .i64 a1] = (jU a0 a1).map fun (r:(List Int))=>.own (.ref 0) [(3,1)] [cM cI r] :=
 (aAr (show TT 109 = some (.told aRv) from rfl) _ rfl).trans (aOk 3 a1 a0)
theorem JI (a0:aE) (a1:aC):Vm.call TT 106 [.agg a0.cells,.agg a1.cells] = (jS a0 a1).map fun (r:aE)=>.agg r.cells:=by
 refine (aV (show TT 106 = some (.code ⟨2,16,[.cell 4 3 true],aGj,false,false⟩) from rfl) _ rfl rfl).trans ?_
 show bD TT aGj ⟨[(0,zZ a0.cells),(1,zZ a1.cells)],[]⟩ _ = _
 unfold aGj jS
 exact G7
theorem IP (a0:aE) (a1:aC):KF TT 106 [.agg a0.cells,.agg a1.cells] (jS a0 a1) (fun (r:aE)=>zZ r.cells):=kF (JI a0 a1) (fun _=>rfl) (fun _=>rfl)
theorem MS (a0 a1:aE):Vm.call TT 84 [.agg a0.cells,.agg a1.cells] = (gT a0 a1).map fun (r:Bool)=>.bool r:=by
 refine (aV (show TT 84 = some (.code ⟨2,33,[.tmp 4],aPB,false,false⟩) from rfl) _ rfl rfl).trans ?_
 show bD TT aPB ⟨[(0,zZ a0.cells),(1,zZ a1.cells)],[]⟩ _ = _
 unfold aPB gT
 exact G7
theorem CZ (a0 a1:aE):KF TT 84 [.agg a0.cells,.agg a1.cells] (gT a0 a1) (fun (r:Bool)=>dB r):=kF (MS a0 a1) (fun _=>rfl) (fun _=>rfl)
theorem CC {β:Type} (r6:(List aE)) (bl fz:List (Nat × Option aL)) (k:V->Option β) (kw:V->List (Nat × Option aL)->Option β):B0 TT 10015 bl 109 [.sl (cM cI [(-1)]),.int .i64 (r6.length:Int)] fz k kw = (jU [(-1)] (r6.length:Int)).bind fun (r:(List Int))=>cG bl 110015 fun b=>jX b (kw (.own 110015 0) ((110015,some (.rows 0 3 1 (cM cI r))) :: fz)):=D0 (AS [(-1)] (r6.length:Int)) fz
abbrev vC (a0:Int) (a1:List aC) (a2:List Int) (p1:Int) (p2:List aE):St:=⟨[(1,.d (.sl (cM aC.cells a1))),(2,.d (.sl (cM cI a2))),(8,.ptr 8 0),(13,dI a0),(14,dI p1)],[(8,some (.box [.own 11 0,.nil,.d (.fn 106 []),.d (.fn 84 [])])),(11,some (.rows 0 114 3 (cM aE.cells p2)))]⟩
theorem LB (a0:Int) (a1:List aC) (a2:List Int) (p1:Int) (p2:List aE):bD TT oO (vC a0 a1 a2 p1 p2) (fun e s=>some (e,s)) = bP (fun (w:Int × (List aE))=>vC a0 a1 a2 w.1 w.2) (fun (r:(List aE))=>(((.exit 0),⟨[(1,.d (.sl (cM aC.cells a1))),(8,.ptr 8 0)],[(8,some (.box [.own 11 0,.nil,.d (.fn 106 []),.d (.fn 84 [])])),(11,some (.rows 0 114 3 (cM aE.cells r)))]⟩):Ex × St)) (dE a0 a1 a2 p1 p2):=by
 unfold oO dE
 exact G7
theorem K2 {β:Type} (a0:Int) (a1:List aC) (a2:List Int) (p1:Int) (p2:List aE) (k:Ex->St->Option β):bD TT B5 (vC a0 a1 a2 p1 p2) k = (m7 a0 a1 a2 p1 p2).bind (fun (r:(List aE))=>k (.exit 0) ⟨[(1,.d (.sl (cM aC.cells a1))),(8,.ptr 8 0)],[(8,some (.box [.own 11 0,.nil,.d (.fn 106 []),.d (.fn 84 [])])),(11,some (.rows 0 114 3 (cM aE.cells r)))]⟩):=by
 have hh:=fun (w:Int × (List aE))=>LB a0 a1 a2 w.1 w.2
 have h:=fun ho=>aQ (T:=TT) (k:=k) (c:=oO) (step:=(fun (w:Int × (List aE))=>dE a0 a1 a2 w.1 w.2)) _ _ ho hh (p1,p2)
 refine Eq.trans (h (fun r s e=>by have q:=congrArg Prod.fst e; rcases r with x <;> cases q)) ?_
 unfold m7
 exact aK _ fun x=>by rcases x with x <;> rfl
abbrev uS (a1:List aC) (p11:Bool) (p12:Int) (p13:List aE) (p14:List Int):St:=⟨[(0,.ptr 8 0),(1,.d (.sl (cM aC.cells a1))),(4,dB p11),(19,.d (.sl (cM aC.cells a1))),(20,dI (a1.length:Int)),(21,dI p12)],[(8,some (.box [.own 11 0,.own 110015 0,.d (.fn 106 []),.d (.fn 84 [])])),(11,some (.rows 0 114 3 (cM aE.cells p13))),(8001,some (.outer [.ptr 8 0])),(110015,some (.rows 0 3 1 (cM cI p14)))]⟩
theorem LA (a1:List aC) (p11:Bool) (p12:Int) (p13:List aE) (p14:List Int):bD TT oU (uS a1 p11 p12 p13 p14) (fun e s=>some (e,s)) = bP (fun (w:Bool × Int × (List aE) × (List Int))=>uS a1 w.1 w.2.1 w.2.2.1 w.2.2.2) (fun (r:Bool × (List aE) × (List Int))=>(((.exit 2),⟨[(0,.ptr 8 0),(1,.d (.sl (cM aC.cells a1))),(4,dB r.1)],[(8,some (.box [.own 11 0,.own 110015 0,.d (.fn 106 []),.d (.fn 84 [])])),(11,some (.rows 0 114 3 (cM aE.cells r.2.1))),(8001,some (.outer [.ptr 8 0])),(110015,some (.rows 0 3 1 (cM cI r.2.2)))]⟩):Ex × St)) (fI a1 p11 p12 p13 p14):=by
 unfold oU fI
 have u:=aN @CZ (aN @IP @CC)
 exact mJ
theorem KY {β:Type} (a1:List aC) (p11:Bool) (p12:Int) (p13:List aE) (p14:List Int) (k:Ex->St->Option β):bD TT CB (uS a1 p11 p12 p13 p14) k = (mY a1 p11 p12 p13 p14).bind (fun (r:Bool × (List aE) × (List Int))=>k (.exit 2) ⟨[(0,.ptr 8 0),(1,.d (.sl (cM aC.cells a1))),(4,dB r.1)],[(8,some (.box [.own 11 0,.own 110015 0,.d (.fn 106 []),.d (.fn 84 [])])),(11,some (.rows 0 114 3 (cM aE.cells r.2.1))),(8001,some (.outer [.ptr 8 0])),(110015,some (.rows 0 3 1 (cM cI r.2.2)))]⟩):=by
 have hh:=fun (w:Bool × Int × (List aE) × (List Int))=>LA a1 w.1 w.2.1 w.2.2.1 w.2.2.2
 have h:=fun ho=>aQ (T:=TT) (k:=k) (c:=oU) (step:=(fun (w:Bool × Int × (List aE) × (List Int))=>fI a1 w.1 w.2.1 w.2.2.1 w.2.2.2)) _ _ ho hh (p11,p12,p13,p14)
 refine Eq.trans (h (fun r s e=>by have q:=congrArg Prod.fst e; rcases r with x <;> cases q)) ?_
 unfold mY
 exact aK _ fun x=>by rcases x with x <;> rfl
abbrev vG (a1:List aC) (p8:Bool) (p9:List aE) (p10:List Int):St:=⟨[(0,.ptr 8 0),(1,.d (.sl (cM aC.cells a1))),(4,dB p8)],[(8,some (.box [.own 11 0,.own 110015 0,.d (.fn 106 []),.d (.fn 84 [])])),(11,some (.rows 0 114 3 (cM aE.cells p9))),(8001,some (.outer [.ptr 8 0])),(110015,some (.rows 0 3 1 (cM cI p10)))]⟩
theorem KN (a1:List aC) (p8:Bool) (p9:List aE) (p10:List Int):bD TT oM (vG a1 p8 p9 p10) (fun e s=>some (e,s)) = bP (fun (w:Bool × (List aE) × (List Int))=>vG a1 w.1 w.2.1 w.2.2) (fun (r:(List aE) × (List Int))=>(((.exit 0),⟨[],[(8,some (.box [.own 11 0,.own 110015 0,.d (.fn 106 []),.d (.fn 84 [])])),(11,some (.rows 0 114 3 (cM aE.cells r.1))),(8001,some (.outer [.ptr 8 0])),(110015,some (.rows 0 3 1 (cM cI r.2)))]⟩):Ex × St)) (iY a1 p8 p9 p10):=by
 unfold oM iY
 have u:=@KY
 exact mJ
theorem KX {β:Type} (a1:List aC) (p8:Bool) (p9:List aE) (p10:List Int) (k:Ex->St->Option β):bD TT B1 (vG a1 p8 p9 p10) k = (mX a1 p8 p9 p10).bind (fun (r:(List aE) × (List Int))=>k (.exit 0) ⟨[],[(8,some (.box [.own 11 0,.own 110015 0,.d (.fn 106 []),.d (.fn 84 [])])),(11,some (.rows 0 114 3 (cM aE.cells r.1))),(8001,some (.outer [.ptr 8 0])),(110015,some (.rows 0 3 1 (cM cI r.2)))]⟩):=by
 have hh:=fun (w:Bool × (List aE) × (List Int))=>KN a1 w.1 w.2.1 w.2.2
 have h:=fun ho=>aQ (T:=TT) (k:=k) (c:=oM) (step:=(fun (w:Bool × (List aE) × (List Int))=>iY a1 w.1 w.2.1 w.2.2)) _ _ ho hh (p8,p9,p10)
 refine Eq.trans (h (fun r s e=>by have q:=congrArg Prod.fst e; rcases r with x <;> cases q)) ?_
 unfold mX
 exact aK _ fun x=>by rcases x with x <;> rfl
theorem EI (a0:Int) (a1:List aC) (a2:List Int):Vm.call TT 83 [.int .i64 a0,.sl (cM aC.cells a1),.sl (cM cI a2)] = (jF a0 a1 a2).map fun (r:(List aE) × (List Int))=>.own (.tup [.ref 0,.ref 1]) [(114,3),(3,1)] [cM aE.cells r.1,cM cI r.2]:=by
 refine (PA (show TT 83 = some (.code ⟨3,34,[.tmp 6,.tmp 7],aNb,true,false⟩) from rfl) _ rfl rfl).trans ?_
 show bD TT aNb ⟨[(0,dI a0),(1,.d (.sl (cM aC.cells a1))),(2,.d (.sl (cM cI a2)))],[]⟩ _ = _
 unfold aNb jF
 have u:=aN @K2 (aN @KX @CC)
 exact mJ
theorem HQ {β:Type} (a0:aC) (a1:List Int) (p1:Int) (k:Ex->St->Option β):bD TT rX ⟨[(1,.own 900000 0),(2,dI p1),(3,.ptr 3 0)],[(3,some (.box (fL a0.cells))),(900000,some (.rows 0 3 1 (cM cI a1)))]⟩ k = (iZ a0 a1 p1).bind (fun (r:(List Int))=>k .normal ⟨[(1,.own 900000 0)],[(900000,some (.rows 0 3 1 (cM cI r)))]⟩):=by
 unfold rX iZ
 exact G7
theorem CN (a0:aC) (a1:List Int) (a2:Int):Vm.call TT 85 [.agg a0.cells,.own (.ref 0) [(3,1)] [cM cI a1],.int .i64 a2] = (gN a0 a1 a2).map fun (r:(List Int))=>.own (.tup []) [(3,1)] [cM cI r]:=by
 refine (YW (show TT 85 = some (.code ⟨3,18,[],aNZ,false,true⟩) from rfl) _ rfl rfl rfl).trans ?_
 show bD TT aNZ ⟨[(1,.own 900000 0),(0,zZ a0.cells),(1,.d (.own (.ref 0) [(3,1)] [cM cI a1])),(2,dI a2)],[(900000,some (.rows 0 3 1 (cM cI a1)))]⟩ _ = _
 unfold aNZ gN
 have u:=@HQ
 exact mJ
theorem M7 {β:Type} (a1:List aI) (p13:List Int) (bl:List (Nat × Option aL)) (k:V->Option β) (kw:V->List (Nat × Option aL)->Option β):DY TT 51 bl 64 [.sl (cM aI.cells a1),.sl (cM cI p13)] k kw = (jM a1 p13).bind fun (r:(List aC))=>cG bl 100051 fun b=>jX b (kw (.own 100051 0) ((100051,some (.rows 0 95 6 (cM aC.cells r))) :: [])):=yQ (C8 a1 p13) (fun _=>(wX rfl (C5 (wE _ (fun _=>rfl) _) rfl)))
theorem MY {β:Type} (a0:Int) (p12:List Int) (r14:(List aC)) (bl:List (Nat × Option aL)) (k:V->Option β) (kw:V->List (Nat × Option aL)->Option β):DY TT 56 bl 83 [.int .i64 a0,.sl (cM aC.cells r14),.sl (cM cI p12)] k kw = (jF a0 r14 p12).bind fun (r:(List aE) × (List Int))=>cG bl 100056 fun b=>jX b (cG bl 200056 fun b=>jX b (kw (.tup [.own 100056 0,.own 200056 0]) ((100056,some (.rows 0 114 3 (cM aE.cells r.1))) :: (200056,some (.rows 0 3 1 (cM cI r.2))) :: []))):=yQ (EI a0 r14 p12) (fun _=>(wX rfl (C5 (wE _ (fun _=>rfl) _) (C5 (wE _ (fun _=>rfl) _) rfl))))
theorem MX {β:Type} (p41:List Int) (r38:Int × Int) (x39:Int) (x44:aC) (bl:List (Nat × Option aL)) (kw:V->List (Nat × Option aL)->Option β):VZ TT bl 85 900000 0 [.agg x44.cells,.own (.ref 0) [(3,1)] [cM cI p41],.int .i64 (if x39 < r38.1 then x39 else r38.1)] kw = (gN x44 p41 (if x39 < r38.1 then x39 else r38.1)).bind fun (r:(List Int))=>cG bl 900000 fun b=>RS 0 3 1 (cM cI r) b fun b2=>kw (.tup []) [(900000,b2)]:=QV (CN x44 p41 (if x39 < r38.1 then x39 else r38.1)) (fun _=>rfl) (fun _=>wE _ (fun _=>rfl) _) 900000 0
abbrev vR (a0:Int) (a1:List aI) (a2:List Int) (p1:Int) (p2:List Int):St:=⟨[(0,dI a0),(1,.d (.sl (cM aI.cells a1))),(2,.own 900000 0),(6,.own 18 0),(19,.d (.sl (cM aI.cells a1))),(20,dI (a1.length:Int)),(21,dI p1)],[(18,some (.rows 0 3 1 (cM cI p2))),(900000,some (.rows 0 3 1 (cM cI a2)))]⟩
theorem MV (a0:Int) (a1:List aI) (a2:List Int) (p1:Int) (p2:List Int):bD TT qE (vR a0 a1 a2 p1 p2) (fun e s=>some (e,s)) = bP (fun (w:Int × (List Int))=>vR a0 a1 a2 w.1 w.2) (fun (r:(List Int))=>(((.exit 0),⟨[(0,dI a0),(1,.d (.sl (cM aI.cells a1))),(2,.own 900000 0),(6,.own 18 0)],[(18,some (.rows 0 3 1 (cM cI r))),(900000,some (.rows 0 3 1 (cM cI a2)))]⟩):Ex × St)) (dU a0 a1 a2 p1 p2):=by
 unfold qE dU
 exact G7
theorem L6 {β:Type} (a0:Int) (a1:List aI) (a2:List Int) (p1:Int) (p2:List Int) (k:Ex->St->Option β):bD TT C2 (vR a0 a1 a2 p1 p2) k = (oF a0 a1 a2 p1 p2).bind (fun (r:(List Int))=>k (.exit 0) ⟨[(0,dI a0),(1,.d (.sl (cM aI.cells a1))),(2,.own 900000 0),(6,.own 18 0)],[(18,some (.rows 0 3 1 (cM cI r))),(900000,some (.rows 0 3 1 (cM cI a2)))]⟩):=by
 have hh:=fun (w:Int × (List Int))=>MV a0 a1 a2 w.1 w.2
 have h:=fun ho=>aQ (T:=TT) (k:=k) (c:=qE) (step:=(fun (w:Int × (List Int))=>dU a0 a1 a2 w.1 w.2)) _ _ ho hh (p1,p2)
 refine Eq.trans (h (fun r s e=>by have q:=congrArg Prod.fst e; rcases r with x <;> cases q)) ?_
 unfold oF
 exact aK _ fun x=>by rcases x with x <;> rfl
abbrev wJ (a0:Int) (a1:List aI) (p12 p13:List Int) (r14:(List aC)) (r15:(List aE) × (List Int)) (p16 p17:Int):St:=⟨[(0,dI a0),(1,.d (.sl (cM aI.cells a1))),(2,.own 900000 0),(6,.own 18 0),(9,.own 100051 0),(10,.own 100056 0),(11,.own 200056 0),(12,dI p16),(59,dI a0),(60,dI p17)],[(18,some (.rows 0 3 1 (cM cI p12))),(100051,some (.rows 0 95 6 (cM aC.cells r14))),(100056,some (.rows 0 114 3 (cM aE.cells r15.1))),(200056,some (.rows 0 3 1 (cM cI r15.2))),(900000,some (.rows 0 3 1 (cM cI p13)))]⟩
theorem LT (a0:Int) (a1:List aI) (p12 p13:List Int) (r14:(List aC)) (r15:(List aE) × (List Int)) (p16 p17:Int):bD TT pP (wJ a0 a1 p12 p13 r14 r15 p16 p17) (fun e s=>some (e,s)) = bP (fun (w:Int × Int)=>wJ a0 a1 p12 p13 r14 r15 w.1 w.2) (fun (r:Int)=>(((.exit 4),⟨[(0,dI a0),(1,.d (.sl (cM aI.cells a1))),(2,.own 900000 0),(6,.own 18 0),(9,.own 100051 0),(11,.own 200056 0),(12,dI r)],[(18,some (.rows 0 3 1 (cM cI p12))),(100051,some (.rows 0 95 6 (cM aC.cells r14))),(200056,some (.rows 0 3 1 (cM cI r15.2))),(900000,some (.rows 0 3 1 (cM cI p13)))]⟩):Ex × St)) (aX a0 a1 p12 p13 r14 r15 p16 p17):=by
 unfold pP aX
 have u:=@CZ
 exact mJ
theorem M4 {β:Type} (a0:Int) (a1:List aI) (p12 p13:List Int) (r14:(List aC)) (r15:(List aE) × (List Int)) (p16 p17:Int) (k:Ex->St->Option β):bD TT CY (wJ a0 a1 p12 p13 r14 r15 p16 p17) k = (oB a0 a1 p12 p13 r14 r15 p16 p17).bind (fun (r:Int)=>k (.exit 4) ⟨[(0,dI a0),(1,.d (.sl (cM aI.cells a1))),(2,.own 900000 0),(6,.own 18 0),(9,.own 100051 0),(11,.own 200056 0),(12,dI r)],[(18,some (.rows 0 3 1 (cM cI p12))),(100051,some (.rows 0 95 6 (cM aC.cells r14))),(200056,some (.rows 0 3 1 (cM cI r15.2))),(900000,some (.rows 0 3 1 (cM cI p13)))]⟩):=by
 have hh:=fun (w:Int × Int)=>LT a0 a1 p12 p13 r14 r15 w.1 w.2
 have h:=fun ho=>aQ (T:=TT) (k:=k) (c:=pP) (step:=(fun (w:Int × Int)=>aX a0 a1 p12 p13 r14 r15 w.1 w.2)) _ _ ho hh (p16,p17)
 refine Eq.trans (h (fun r s e=>by have q:=congrArg Prod.fst e; rcases r with x <;> cases q)) ?_
 unfold oB
 exact aK _ fun x=>by rcases x with x <;> rfl
abbrev wQ (a0:Int) (a1:List aI) (p12 p13:List Int) (r14:(List aC)) (r15:(List aE) × (List Int)) (r27 p29 p30:Int):St:=⟨[(0,dI a0),(1,.d (.sl (cM aI.cells a1))),(2,.own 900000 0),(6,.own 18 0),(9,.own 100051 0),(11,.own 200056 0),(12,dI r27),(14,dI p29),(15,dI p30)],[(18,some (.rows 0 3 1 (cM cI p12))),(100051,some (.rows 0 95 6 (cM aC.cells r14))),(200056,some (.rows 0 3 1 (cM cI r15.2))),(900000,some (.rows 0 3 1 (cM cI p13)))]⟩
theorem M8 (a0:Int) (a1:List aI) (p12 p13:List Int) (r14:(List aC)) (r15:(List aE) × (List Int)) (r27 p29 p30:Int):bD TT pQ (wQ a0 a1 p12 p13 r14 r15 r27 p29 p30) (fun e s=>some (e,s)) = bP (fun (w:Int × Int)=>wQ a0 a1 p12 p13 r14 r15 r27 w.1 w.2) (fun (r:Int × Int)=>(((.exit 6),⟨[(0,dI a0),(1,.d (.sl (cM aI.cells a1))),(2,.own 900000 0),(6,.own 18 0),(9,.own 100051 0),(11,.own 200056 0),(12,dI r27),(14,dI r.1),(15,dI r.2)],[(18,some (.rows 0 3 1 (cM cI p12))),(100051,some (.rows 0 95 6 (cM aC.cells r14))),(200056,some (.rows 0 3 1 (cM cI r15.2))),(900000,some (.rows 0 3 1 (cM cI p13)))]⟩):Ex × St)) (fS a0 a1 p12 p13 r14 r15 r27 p29 p30):=by
 unfold pQ fS
 exact G7
theorem LV {β:Type} (a0:Int) (a1:List aI) (p12 p13:List Int) (r14:(List aC)) (r15:(List aE) × (List Int)) (r27 p29 p30:Int) (k:Ex->St->Option β):bD TT C0 (wQ a0 a1 p12 p13 r14 r15 r27 p29 p30) k = (jL a0 a1 p12 p13 r14 r15 r27 p29 p30).bind (fun (r:Int × Int)=>k (.exit 6) ⟨[(0,dI a0),(1,.d (.sl (cM aI.cells a1))),(2,.own 900000 0),(6,.own 18 0),(9,.own 100051 0),(11,.own 200056 0),(12,dI r27),(14,dI r.1),(15,dI r.2)],[(18,some (.rows 0 3 1 (cM cI p12))),(100051,some (.rows 0 95 6 (cM aC.cells r14))),(200056,some (.rows 0 3 1 (cM cI r15.2))),(900000,some (.rows 0 3 1 (cM cI p13)))]⟩):=by
 have hh:=fun (w:Int × Int)=>M8 a0 a1 p12 p13 r14 r15 r27 w.1 w.2
 have h:=fun ho=>aQ (T:=TT) (k:=k) (c:=pQ) (step:=(fun (w:Int × Int)=>fS a0 a1 p12 p13 r14 r15 r27 w.1 w.2)) _ _ ho hh (p29,p30)
 refine Eq.trans (h (fun r s e=>by have q:=congrArg Prod.fst e; rcases r with x <;> cases q)) ?_
 unfold jL
 exact aK _ fun x=>by rcases x with x <;> rfl
abbrev wL (a0:Int) (a1:List aI) (p12:List Int) (r14:(List aC)) (r15:(List aE) × (List Int)) (r27:Int) (r38:Int × Int) (x39 p40:Int) (p41:List Int):St:=⟨[(0,dI a0),(1,.d (.sl (cM aI.cells a1))),(2,.own 900000 0),(6,.own 18 0),(9,.own 100051 0),(11,.own 200056 0),(12,dI r27),(14,dI (if x39 < r38.1 then x39 else r38.1)),(15,dI r38.2),(16,dI p40)],[(18,some (.rows 0 3 1 (cM cI p12))),(100051,some (.rows 0 95 6 (cM aC.cells r14))),(200056,some (.rows 0 3 1 (cM cI r15.2))),(900000,some (.rows 0 3 1 (cM cI p41)))]⟩
theorem MK (a0:Int) (a1:List aI) (p12:List Int) (r14:(List aC)) (r15:(List aE) × (List Int)) (r27:Int) (r38:Int × Int) (x39 p40:Int) (p41:List Int):bD TT pT (wL a0 a1 p12 r14 r15 r27 r38 x39 p40 p41) (fun e s=>some (e,s)) = bP (fun (w:Int × (List Int))=>wL a0 a1 p12 r14 r15 r27 r38 x39 w.1 w.2) (fun (r:(List Int))=>(((.exit 8),⟨[(0,dI a0),(1,.d (.sl (cM aI.cells a1))),(2,.own 900000 0),(6,.own 18 0),(12,dI r27),(14,dI (if x39 < r38.1 then x39 else r38.1)),(15,dI r38.2)],[(18,some (.rows 0 3 1 (cM cI p12))),(900000,some (.rows 0 3 1 (cM cI r)))]⟩):Ex × St)) (fP a0 a1 p12 r14 r15 r27 r38 x39 p40 p41):=by
 unfold pT fP
 have u:=@MX
 exact mJ
theorem MZ {β:Type} (a0:Int) (a1:List aI) (p12:List Int) (r14:(List aC)) (r15:(List aE) × (List Int)) (r27:Int) (r38:Int × Int) (x39 p40:Int) (p41:List Int) (k:Ex->St->Option β):bD TT CP (wL a0 a1 p12 r14 r15 r27 r38 x39 p40 p41) k = (jK a0 a1 p12 r14 r15 r27 r38 x39 p40 p41).bind (fun (r:(List Int))=>k (.exit 8) ⟨[(0,dI a0),(1,.d (.sl (cM aI.cells a1))),(2,.own 900000 0),(6,.own 18 0),(12,dI r27),(14,dI (if x39 < r38.1 then x39 else r38.1)),(15,dI r38.2)],[(18,some (.rows 0 3 1 (cM cI p12))),(900000,some (.rows 0 3 1 (cM cI r)))]⟩):=by
 have hh:=fun (w:Int × (List Int))=>MK a0 a1 p12 r14 r15 r27 r38 x39 w.1 w.2
 have h:=fun ho=>aQ (T:=TT) (k:=k) (c:=pT) (step:=(fun (w:Int × (List Int))=>fP a0 a1 p12 r14 r15 r27 r38 x39 w.1 w.2)) _ _ ho hh (p40,p41)
 refine Eq.trans (h (fun r s e=>by have q:=congrArg Prod.fst e; rcases r with x <;> cases q)) ?_
 unfold jK
 exact aK _ fun x=>by rcases x with x <;> rfl
abbrev vT (a0:Int) (a1:List aI) (p12 p13:List Int):St:=⟨[(0,dI a0),(1,.d (.sl (cM aI.cells a1))),(2,.own 900000 0),(6,.own 18 0)],[(18,some (.rows 0 3 1 (cM cI p12))),(900000,some (.rows 0 3 1 (cM cI p13)))]⟩
theorem MG (a0:Int) (a1:List aI) (p12 p13:List Int):bD TT qA (vT a0 a1 p12 p13) (fun e s=>some (e,s)) = bP (fun (w:(List Int) × (List Int))=>vT a0 a1 w.1 w.2) (fun (r:(List Int))=>((.ret,⟨[(2,.own 900000 0)],[(900000,some (.rows 0 3 1 (cM cI r)))]⟩):Ex × St)) (eU a0 a1 p12 p13):=by
 unfold qA eU
 have u:=aN (aN @M4 @LV) (aN @MZ (aN @M7 @MY))
 exact mJ
theorem L4 {β:Type} (a0:Int) (a1:List aI) (p12 p13:List Int) (k:Ex->St->Option β):bD TT CR (vT a0 a1 p12 p13) k = (sD a0 a1 p12 p13).bind (fun (r:(List Int))=>k .ret ⟨[(2,.own 900000 0)],[(900000,some (.rows 0 3 1 (cM cI r)))]⟩):=by
 have hh:=fun (w:(List Int) × (List Int))=>MG a0 a1 w.1 w.2
 have h:=fun ho=>aQ (T:=TT) (k:=k) (c:=qA) (step:=(fun (w:(List Int) × (List Int))=>eU a0 a1 w.1 w.2)) _ _ ho hh (p12,p13)
 refine Eq.trans (h (fun r s e=>by have q:=congrArg Prod.fst e; rcases r with x <;> cases q)) ?_
 unfold sD
 exact aK _ fun x=>by rcases x with x <;> rfl
theorem Q2 (a0:Int) (a1:List aI) (a2:List Int):Vm.call TT 61 [.int .i64 a0,.sl (cM aI.cells a1),.own (.ref 0) [(3,1)] [cM cI a2]] = (oZ a0 a1 a2).map fun (r:(List Int))=>.own (.tup []) [(3,1)] [cM cI r]:=by
 refine (YW (show TT 61 = some (.code ⟨3,171,[],aPa,false,true⟩) from rfl) _ rfl rfl rfl).trans ?_
 show bD TT aPa ⟨[(2,.own 900000 0),(0,dI a0),(1,.d (.sl (cM aI.cells a1))),(2,.d (.own (.ref 0) [(3,1)] [cM cI a2]))],[(900000,some (.rows 0 3 1 (cM cI a2)))]⟩ _ = _
 unfold aPa oZ
 have u:=aN @L6 @L4
 exact mJ
theorem I7 (a0:Int) (a1:aC):Vm.call TT 86 [.int .i64 a0,.agg a1.cells] = (jR a0 a1).map fun (r:Int)=>.int .i64 r:=by
 refine (aV (show TT 86 = some (.code ⟨2,9,[.tmp 4],aOt,false,false⟩) from rfl) _ rfl rfl).trans ?_
 show bD TT aOt ⟨[(0,dI a0),(1,zZ a1.cells)],[]⟩ _ = _
 unfold aOt jR
 exact G7
theorem JP (a0:Int) (a1:aC):KF TT 86 [.int .i64 a0,.agg a1.cells] (jR a0 a1) (fun (r:Int)=>dI r):=kF (I7 a0 a1) (fun _=>rfl) (fun _=>rfl)
theorem VB (a0:Int):Vm.call TT 108 [.int .i64 a0] = (vB a0).map fun (r:Bool)=>.bool r:=by
 refine (aV (show TT 108 = some (.code ⟨1,6,[.tmp 2],aGF,false,false⟩) from rfl) _ rfl rfl).trans ?_
 show bD TT aGF ⟨[(0,dI a0)],[]⟩ _ = _
 unfold aGF vB
 exact G7
theorem VF (a0:Int):KF TT 108 [.int .i64 a0] (vB a0) (fun (r:Bool)=>dB r):=kF (VB a0) (fun _=>rfl) (fun _=>rfl)
theorem WS (a0 a1:Int):Vm.call TT 87 [.int .i64 a0,.int .i64 a1] = (xH a0 a1).map fun (r:Bool)=>.bool r:=by
 refine (aV (show TT 87 = some (.code ⟨2,17,[.tmp 4],aOV,false,false⟩) from rfl) _ rfl rfl).trans ?_
 show bD TT aOV ⟨[(0,dI a0),(1,dI a1)],[]⟩ _ = _
 unfold aOV xH
 have u:=@VF
 exact mJ
theorem WT (a0 a1:Int):KF TT 87 [.int .i64 a0,.int .i64 a1] (xH a0 a1) (fun (r:Bool)=>dB r):=kF (WS a0 a1) (fun _=>rfl) (fun _=>rfl)
theorem y8 {β:Type} (a1:List aI) (a2:List Int) (bl:List (Nat × Option aL)) (k:V->Option β) (kw:V->List (Nat × Option aL)->Option β):DY TT 13 bl 64 [.sl (cM aI.cells a1),.sl (cM cI a2)] k kw = (jM a1 a2).bind fun (r:(List aC))=>cG bl 100013 fun b=>jX b (kw (.own 100013 0) ((100013,some (.rows 0 95 6 (cM aC.cells r))) :: [])):=yQ (C8 a1 a2) (fun _=>(wX rfl (C5 (wE _ (fun _=>rfl) _) rfl)))
theorem yX {β:Type} (a0:Int) (bl fz:List (Nat × Option aL)) (k:V->Option β) (kw:V->List (Nat × Option aL)->Option β):B0 TT 10015 bl 109 [.sl (cM cI [(-1)]),.int .i64 ((List.replicate a0.toNat (0:Int)).length:Int)] fz k kw = (jU [(-1)] ((List.replicate a0.toNat (0:Int)).length:Int)).bind fun (r:(List Int))=>cG bl 110015 fun b=>jX b (kw (.own 110015 0) ((110015,some (.rows 0 3 1 (cM cI r))) :: fz)):=D0 (AS [(-1)] ((List.replicate a0.toNat (0:Int)).length:Int)) fz
abbrev rW (r1:(List aC)) (p6:Bool) (p7:Int) (p8 p9:List Int):St:=⟨[(0,.ptr 7 0),(1,.own 100013 0),(4,dB p6),(19,.own 100013 0),(20,dI (r1.length:Int)),(21,dI p7)],[(7,some (.box [.own 9 0,.own 110015 0,.d (.fn 86 []),.d (.fn 87 [])])),(9,some (.rows 0 3 1 (cM cI p8))),(8001,some (.outer [.ptr 7 0])),(100013,some (.rows 0 95 6 (cM aC.cells r1))),(110015,some (.rows 0 3 1 (cM cI p9)))]⟩
theorem HC (r1:(List aC)) (p6:Bool) (p7:Int) (p8 p9:List Int):bD TT mT (rW r1 p6 p7 p8 p9) (fun e s=>some (e,s)) = bP (fun (w:Bool × Int × (List Int) × (List Int))=>rW r1 w.1 w.2.1 w.2.2.1 w.2.2.2) (fun (r:Bool × (List Int) × (List Int))=>(((.exit 2),⟨[(0,.ptr 7 0),(1,.own 100013 0),(4,dB r.1)],[(7,some (.box [.own 9 0,.own 110015 0,.d (.fn 86 []),.d (.fn 87 [])])),(9,some (.rows 0 3 1 (cM cI r.2.1))),(8001,some (.outer [.ptr 7 0])),(100013,some (.rows 0 95 6 (cM aC.cells r1))),(110015,some (.rows 0 3 1 (cM cI r.2.2)))]⟩):Ex × St)) (eM r1 p6 p7 p8 p9):=by
 unfold mT eM
 have u:=aN (aN @JP @WT) (aN @y8 @yX)
 exact mJ
theorem G9 {β:Type} (r1:(List aC)) (p6:Bool) (p7:Int) (p8 p9:List Int) (k:Ex->St->Option β):bD TT yZ (rW r1 p6 p7 p8 p9) k = (kV r1 p6 p7 p8 p9).bind (fun (r:Bool × (List Int) × (List Int))=>k (.exit 2) ⟨[(0,.ptr 7 0),(1,.own 100013 0),(4,dB r.1)],[(7,some (.box [.own 9 0,.own 110015 0,.d (.fn 86 []),.d (.fn 87 [])])),(9,some (.rows 0 3 1 (cM cI r.2.1))),(8001,some (.outer [.ptr 7 0])),(100013,some (.rows 0 95 6 (cM aC.cells r1))),(110015,some (.rows 0 3 1 (cM cI r.2.2)))]⟩):=by
 have hh:=fun (w:Bool × Int × (List Int) × (List Int))=>HC r1 w.1 w.2.1 w.2.2.1 w.2.2.2
 have h:=fun ho=>aQ (T:=TT) (k:=k) (c:=mT) (step:=(fun (w:Bool × Int × (List Int) × (List Int))=>eM r1 w.1 w.2.1 w.2.2.1 w.2.2.2)) _ _ ho hh (p6,p7,p8,p9)
 refine Eq.trans (h (fun r s e=>by have q:=congrArg Prod.fst e; rcases r with x <;> cases q)) ?_
 unfold kV
 exact aK _ fun x=>by rcases x with x <;> rfl
abbrev rQ (r1:(List aC)) (p3:Bool) (p4 p5:List Int):St:=⟨[(0,.ptr 7 0),(1,.own 100013 0),(4,dB p3)],[(7,some (.box [.own 9 0,.own 110015 0,.d (.fn 86 []),.d (.fn 87 [])])),(9,some (.rows 0 3 1 (cM cI p4))),(8001,some (.outer [.ptr 7 0])),(100013,some (.rows 0 95 6 (cM aC.cells r1))),(110015,some (.rows 0 3 1 (cM cI p5)))]⟩
theorem HP (r1:(List aC)) (p3:Bool) (p4 p5:List Int):bD TT mV (rQ r1 p3 p4 p5) (fun e s=>some (e,s)) = bP (fun (w:Bool × (List Int) × (List Int))=>rQ r1 w.1 w.2.1 w.2.2) (fun (r:(List Int) × (List Int))=>(((.exit 0),⟨[],[(7,some (.box [.own 9 0,.own 110015 0,.d (.fn 86 []),.d (.fn 87 [])])),(9,some (.rows 0 3 1 (cM cI r.1))),(8001,some (.outer [.ptr 7 0])),(110015,some (.rows 0 3 1 (cM cI r.2)))]⟩):Ex × St)) (gV r1 p3 p4 p5):=by
 unfold mV gV
 have u:=@G9
 exact mJ
theorem HD {β:Type} (r1:(List aC)) (p3:Bool) (p4 p5:List Int) (k:Ex->St->Option β):bD TT yY (rQ r1 p3 p4 p5) k = (kU r1 p3 p4 p5).bind (fun (r:(List Int) × (List Int))=>k (.exit 0) ⟨[],[(7,some (.box [.own 9 0,.own 110015 0,.d (.fn 86 []),.d (.fn 87 [])])),(9,some (.rows 0 3 1 (cM cI r.1))),(8001,some (.outer [.ptr 7 0])),(110015,some (.rows 0 3 1 (cM cI r.2)))]⟩):=by
 have hh:=fun (w:Bool × (List Int) × (List Int))=>HP r1 w.1 w.2.1 w.2.2
 have h:=fun ho=>aQ (T:=TT) (k:=k) (c:=mV) (step:=(fun (w:Bool × (List Int) × (List Int))=>gV r1 w.1 w.2.1 w.2.2)) _ _ ho hh (p3,p4,p5)
 refine Eq.trans (h (fun r s e=>by have q:=congrArg Prod.fst e; rcases r with x <;> cases q)) ?_
 unfold kU
 exact aK _ fun x=>by rcases x with x <;> rfl
theorem CU (a0:Int) (a1:List aI) (a2:List Int):Vm.call TT 62 [.int .i64 a0,.sl (cM aI.cells a1),.sl (cM cI a2)] = (gU a0 a1 a2).map fun (r:(List Int))=>.own (.ref 0) [(3,1)] [cM cI r]:=by
 refine (PA (show TT 62 = some (.code ⟨3,17,[.tmp 6],aNP,true,false⟩) from rfl) _ rfl rfl).trans ?_
 show bD TT aNP ⟨[(0,dI a0),(1,.d (.sl (cM aI.cells a1))),(2,.d (.sl (cM cI a2)))],[]⟩ _ = _
 unfold aNP gU
 have u:=aN @HD (aN @y8 @yX)
 exact mJ
theorem QB {β:Type} (a1:List aI) (p5:List Int) (bl:List (Nat × Option aL)) (k:V->Option β) (kw:V->List (Nat × Option aL)->Option β):DY TT 50 bl 64 [.sl (cM aI.cells a1),.sl (cM cI p5)] k kw = (jM a1 p5).bind fun (r:(List aC))=>cG bl 100050 fun b=>jX b (kw (.own 100050 0) ((100050,some (.rows 0 95 6 (cM aC.cells r))) :: [])):=yQ (C8 a1 p5) (fun _=>(wX rfl (C5 (wE _ (fun _=>rfl) _) rfl)))
theorem PM {β:Type} (a0:Int) (r22:(List aC)) (x16:aI) (bl:List (Nat × Option aL)) (k:V->Option β) (kw:V->List (Nat × Option aL)->Option β):DY TT 104 bl 83 [.int .i64 a0,.sl (cM aC.cells r22),.sl (cM cI ((List.replicate a0.toNat (0:Int)).set x16.To.toNat 1))] k kw = (jF a0 r22 ((List.replicate a0.toNat (0:Int)).set x16.To.toNat 1)).bind fun (r:(List aE) × (List Int))=>cG bl 100104 fun b=>jX b (cG bl 200104 fun b=>jX b (kw (.tup [.own 100104 0,.own 200104 0]) ((100104,some (.rows 0 114 3 (cM aE.cells r.1))) :: (200104,some (.rows 0 3 1 (cM cI r.2))) :: []))):=yQ (EI a0 r22 ((List.replicate a0.toNat (0:Int)).set x16.To.toNat 1)) (fun _=>(wX rfl (C5 (wE _ (fun _=>rfl) _) (C5 (wE _ (fun _=>rfl) _) rfl))))
theorem QG {β:Type} (p40:List Int) (r37:Int) (x43:aC) (bl:List (Nat × Option aL)) (kw:V->List (Nat × Option aL)->Option β):VZ TT bl 85 900000 0 [.agg x43.cells,.own (.ref 0) [(3,1)] [cM cI p40],.int .i64 r37] kw = (gN x43 p40 r37).bind fun (r:(List Int))=>cG bl 900000 fun b=>RS 0 3 1 (cM cI r) b fun b2=>kw (.tup []) [(900000,b2)]:=QV (CN x43 p40 r37) (fun _=>rfl) (fun _=>wE _ (fun _=>rfl) _) 900000 0
abbrev xU (a0:Int) (a1:List aI) (a3:List Int) (a4:Int) (p5:List Int) (r8:(List aC)) (p9:Int) (p10:List aC):St:=⟨[(0,dI a0),(1,.d (.sl (cM aI.cells a1))),(2,.own 900000 0),(3,.d (.sl (cM cI a3))),(4,dI a4),(10,.own 79 0),(50,.own 100050 0),(51,dI (r8.length:Int)),(52,dI p9)],[(79,some (.rows 0 95 6 (cM aC.cells p10))),(100050,some (.rows 0 95 6 (cM aC.cells r8))),(900000,some (.rows 0 3 1 (cM cI p5)))]⟩
theorem O3 (a0:Int) (a1:List aI) (a3:List Int) (a4:Int) (p5:List Int) (r8:(List aC)) (p9:Int) (p10:List aC):bD TT sW (xU a0 a1 a3 a4 p5 r8 p9 p10) (fun e s=>some (e,s)) = bP (fun (w:Int × (List aC))=>xU a0 a1 a3 a4 p5 r8 w.1 w.2) (fun (r:(List aC))=>(((.exit 2),⟨[(0,dI a0),(1,.d (.sl (cM aI.cells a1))),(2,.own 900000 0),(3,.d (.sl (cM cI a3))),(4,dI a4),(10,.own 79 0)],[(79,some (.rows 0 95 6 (cM aC.cells r))),(900000,some (.rows 0 3 1 (cM cI p5)))]⟩):Ex × St)) (e8 a0 a1 a3 a4 p5 r8 p9 p10):=by
 unfold sW e8
 exact G7
theorem OS {β:Type} (a0:Int) (a1:List aI) (a3:List Int) (a4:Int) (p5:List Int) (r8:(List aC)) (p9:Int) (p10:List aC) (k:Ex->St->Option β):bD TT EG (xU a0 a1 a3 a4 p5 r8 p9 p10) k = (qX a0 a1 a3 a4 p5 r8 p9 p10).bind (fun (r:(List aC))=>k (.exit 2) ⟨[(0,dI a0),(1,.d (.sl (cM aI.cells a1))),(2,.own 900000 0),(3,.d (.sl (cM cI a3))),(4,dI a4),(10,.own 79 0)],[(79,some (.rows 0 95 6 (cM aC.cells r))),(900000,some (.rows 0 3 1 (cM cI p5)))]⟩):=by
 have hh:=fun (w:Int × (List aC))=>O3 a0 a1 a3 a4 p5 r8 w.1 w.2
 have h:=fun ho=>aQ (T:=TT) (k:=k) (c:=sW) (step:=(fun (w:Int × (List aC))=>e8 a0 a1 a3 a4 p5 r8 w.1 w.2)) _ _ ho hh (p9,p10)
 refine Eq.trans (h (fun r s e=>by have q:=congrArg Prod.fst e; rcases r with x <;> cases q)) ?_
 unfold qX
 exact aK _ fun x=>by rcases x with x <;> rfl
abbrev yE (a0:Int) (a1:List aI) (a3:List Int) (a4:Int) (p5:List Int) (r15:(List aC)) (x16:aI) (p18:Int) (p19:List aC):St:=⟨[(0,dI a0),(1,.d (.sl (cM aI.cells a1))),(2,.own 900000 0),(3,.d (.sl (cM cI a3))),(4,dI a4),(10,.own 79 0),(13,.own 82 0),(91,dI (r15.length:Int)),(92,dI p18)],[(79,some (.rows 0 95 6 (cM aC.cells p19))),(82,some (.rows 0 3 1 (cM cI ((List.replicate a0.toNat (0:Int)).set x16.To.toNat 1)))),(900000,some (.rows 0 3 1 (cM cI p5)))]⟩
theorem PN (a0:Int) (a1:List aI) (a3:List Int) (a4:Int) (p5:List Int) (r15:(List aC)) (x16:aI) (p18:Int) (p19:List aC):bD TT sU (yE a0 a1 a3 a4 p5 r15 x16 p18 p19) (fun e s=>some (e,s)) = bP (fun (w:Int × (List aC))=>yE a0 a1 a3 a4 p5 r15 x16 w.1 w.2) (fun (r:(List aC))=>(((.exit 4),⟨[(0,dI a0),(1,.d (.sl (cM aI.cells a1))),(2,.own 900000 0),(3,.d (.sl (cM cI a3))),(4,dI a4),(10,.own 79 0),(13,.own 82 0)],[(79,some (.rows 0 95 6 (cM aC.cells r))),(82,some (.rows 0 3 1 (cM cI ((List.replicate a0.toNat (0:Int)).set x16.To.toNat 1)))),(900000,some (.rows 0 3 1 (cM cI p5)))]⟩):Ex × St)) (eZ a0 a1 a3 a4 p5 r15 x16 p18 p19):=by
 unfold sU eZ
 exact G7
theorem PE {β:Type} (a0:Int) (a1:List aI) (a3:List Int) (a4:Int) (p5:List Int) (r15:(List aC)) (x16:aI) (p18:Int) (p19:List aC) (k:Ex->St->Option β):bD TT EZ (yE a0 a1 a3 a4 p5 r15 x16 p18 p19) k = (qV a0 a1 a3 a4 p5 r15 x16 p18 p19).bind (fun (r:(List aC))=>k (.exit 4) ⟨[(0,dI a0),(1,.d (.sl (cM aI.cells a1))),(2,.own 900000 0),(3,.d (.sl (cM cI a3))),(4,dI a4),(10,.own 79 0),(13,.own 82 0)],[(79,some (.rows 0 95 6 (cM aC.cells r))),(82,some (.rows 0 3 1 (cM cI ((List.replicate a0.toNat (0:Int)).set x16.To.toNat 1)))),(900000,some (.rows 0 3 1 (cM cI p5)))]⟩):=by
 have hh:=fun (w:Int × (List aC))=>PN a0 a1 a3 a4 p5 r15 x16 w.1 w.2
 have h:=fun ho=>aQ (T:=TT) (k:=k) (c:=sU) (step:=(fun (w:Int × (List aC))=>eZ a0 a1 a3 a4 p5 r15 x16 w.1 w.2)) _ _ ho hh (p18,p19)
 refine Eq.trans (h (fun r s e=>by have q:=congrArg Prod.fst e; rcases r with x <;> cases q)) ?_
 unfold qV
 exact aK _ fun x=>by rcases x with x <;> rfl
abbrev yA (a0:Int) (a1:List aI) (a3:List Int) (a4:Int) (p5:List Int) (r22:(List aC)) (r23:(List aE) × (List Int)) (p29 p30:Int):St:=⟨[(0,dI a0),(1,.d (.sl (cM aI.cells a1))),(2,.own 900000 0),(3,.d (.sl (cM cI a3))),(4,dI a4),(10,.own 79 0),(16,.own 200104 0),(17,dI p29),(18,dI p30)],[(79,some (.rows 0 95 6 (cM aC.cells r22))),(200104,some (.rows 0 3 1 (cM cI r23.2))),(900000,some (.rows 0 3 1 (cM cI p5)))]⟩
theorem O0 (a0:Int) (a1:List aI) (a3:List Int) (a4:Int) (p5:List Int) (r22:(List aC)) (r23:(List aE) × (List Int)) (p29 p30:Int):bD TT sT (yA a0 a1 a3 a4 p5 r22 r23 p29 p30) (fun e s=>some (e,s)) = bP (fun (w:Int × Int)=>yA a0 a1 a3 a4 p5 r22 r23 w.1 w.2) (fun (r:Int)=>(((.exit 6),⟨[(0,dI a0),(1,.d (.sl (cM aI.cells a1))),(2,.own 900000 0),(3,.d (.sl (cM cI a3))),(4,dI a4),(10,.own 79 0),(16,.own 200104 0),(17,dI r)],[(79,some (.rows 0 95 6 (cM aC.cells r22))),(200104,some (.rows 0 3 1 (cM cI r23.2))),(900000,some (.rows 0 3 1 (cM cI p5)))]⟩):Ex × St)) (gO a0 a1 a3 a4 p5 r22 r23 p29 p30):=by
 unfold sT gO
 exact G7
theorem PH {β:Type} (a0:Int) (a1:List aI) (a3:List Int) (a4:Int) (p5:List Int) (r22:(List aC)) (r23:(List aE) × (List Int)) (p29 p30:Int) (k:Ex->St->Option β):bD TT EP (yA a0 a1 a3 a4 p5 r22 r23 p29 p30) k = (kQ a0 a1 a3 a4 p5 r22 r23 p29 p30).bind (fun (r:Int)=>k (.exit 6) ⟨[(0,dI a0),(1,.d (.sl (cM aI.cells a1))),(2,.own 900000 0),(3,.d (.sl (cM cI a3))),(4,dI a4),(10,.own 79 0),(16,.own 200104 0),(17,dI r)],[(79,some (.rows 0 95 6 (cM aC.cells r22))),(200104,some (.rows 0 3 1 (cM cI r23.2))),(900000,some (.rows 0 3 1 (cM cI p5)))]⟩):=by
 have hh:=fun (w:Int × Int)=>O0 a0 a1 a3 a4 p5 r22 r23 w.1 w.2
 have h:=fun ho=>aQ (T:=TT) (k:=k) (c:=sT) (step:=(fun (w:Int × Int)=>gO a0 a1 a3 a4 p5 r22 r23 w.1 w.2)) _ _ ho hh (p29,p30)
 refine Eq.trans (h (fun r s e=>by have q:=congrArg Prod.fst e; rcases r with x <;> cases q)) ?_
 unfold kQ
 exact aK _ fun x=>by rcases x with x <;> rfl
abbrev xY (a0:Int) (a1:List aI) (a3:List Int) (a4:Int) (r22:(List aC)) (r23:(List aE) × (List Int)) (r37 p39:Int) (p40:List Int):St:=⟨[(0,dI a0),(1,.d (.sl (cM aI.cells a1))),(2,.own 900000 0),(3,.d (.sl (cM cI a3))),(4,dI a4),(10,.own 79 0),(16,.own 200104 0),(17,dI r37),(19,dI p39)],[(79,some (.rows 0 95 6 (cM aC.cells r22))),(200104,some (.rows 0 3 1 (cM cI r23.2))),(900000,some (.rows 0 3 1 (cM cI p40)))]⟩
theorem OZ (a0:Int) (a1:List aI) (a3:List Int) (a4:Int) (r22:(List aC)) (r23:(List aE) × (List Int)) (r37 p39:Int) (p40:List Int):bD TT sR (xY a0 a1 a3 a4 r22 r23 r37 p39 p40) (fun e s=>some (e,s)) = bP (fun (w:Int × (List Int))=>xY a0 a1 a3 a4 r22 r23 r37 w.1 w.2) (fun (r:(List Int))=>(((.exit 8),⟨[(0,dI a0),(1,.d (.sl (cM aI.cells a1))),(2,.own 900000 0),(3,.d (.sl (cM cI a3))),(4,dI a4),(17,dI r37)],[(900000,some (.rows 0 3 1 (cM cI r)))]⟩):Ex × St)) (gQ a0 a1 a3 a4 r22 r23 r37 p39 p40):=by
 unfold sR gQ
 have u:=@QG
 exact mJ
theorem P8 {β:Type} (a0:Int) (a1:List aI) (a3:List Int) (a4:Int) (r22:(List aC)) (r23:(List aE) × (List Int)) (r37 p39:Int) (p40:List Int) (k:Ex->St->Option β):bD TT EO (xY a0 a1 a3 a4 r22 r23 r37 p39 p40) k = (kP a0 a1 a3 a4 r22 r23 r37 p39 p40).bind (fun (r:(List Int))=>k (.exit 8) ⟨[(0,dI a0),(1,.d (.sl (cM aI.cells a1))),(2,.own 900000 0),(3,.d (.sl (cM cI a3))),(4,dI a4),(17,dI r37)],[(900000,some (.rows 0 3 1 (cM cI r)))]⟩):=by
 have hh:=fun (w:Int × (List Int))=>OZ a0 a1 a3 a4 r22 r23 r37 w.1 w.2
 have h:=fun ho=>aQ (T:=TT) (k:=k) (c:=sR) (step:=(fun (w:Int × (List Int))=>gQ a0 a1 a3 a4 r22 r23 r37 w.1 w.2)) _ _ ho hh (p39,p40)
 refine Eq.trans (h (fun r s e=>by have q:=congrArg Prod.fst e; rcases r with x <;> cases q)) ?_
 unfold kP
 exact aK _ fun x=>by rcases x with x <;> rfl
abbrev yH (a0:Int) (a1:List aI) (a3:List Int) (a4:Int) (p5:List Int):St:=⟨[(0,dI a0),(1,.d (.sl (cM aI.cells a1))),(2,.own 900000 0),(3,.d (.sl (cM cI a3))),(4,dI a4)],[(900000,some (.rows 0 3 1 (cM cI p5)))]⟩
theorem PV (a0:Int) (a1:List aI) (a3:List Int) (a4:Int) (p5:List Int):bD TT sF (yH a0 a1 a3 a4 p5) (fun e s=>some (e,s)) = bP (fun (w:(List Int))=>yH a0 a1 a3 a4 w) (fun (r:((List Int)) ⊕ ((List Int)))=>Sum.elim (fun (z:(List Int))=>(((.exit 0),⟨[(2,.own 900000 0)],[(900000,some (.rows 0 3 1 (cM cI z)))]⟩):Ex × St)) (fun (z:(List Int))=>((.ret,⟨[(2,.own 900000 0)],[(900000,some (.rows 0 3 1 (cM cI z)))]⟩):Ex × St)) r) (d8 a0 a1 a3 a4 p5):=by
 unfold sF d8
 have u:=aN (aN @OS (aN @PE @PH)) (aN @P8 (aN @QB @PM))
 exact mJ
theorem OX {β:Type} (a0:Int) (a1:List aI) (a3:List Int) (a4:Int) (p5:List Int) (k:Ex->St->Option β):bD TT EJ (yH a0 a1 a3 a4 p5) k = (wD a0 a1 a3 a4 p5).bind (fun (r:((List Int)) ⊕ ((List Int)))=>Sum.elim (fun (z:(List Int))=>k (.exit 0) ⟨[(2,.own 900000 0)],[(900000,some (.rows 0 3 1 (cM cI z)))]⟩) (fun (z:(List Int))=>k .ret ⟨[(2,.own 900000 0)],[(900000,some (.rows 0 3 1 (cM cI z)))]⟩) r):=by
 have hh:=fun (w:(List Int))=>PV a0 a1 a3 a4 w
 have h:=fun ho=>aQ (T:=TT) (k:=k) (c:=sF) (step:=(fun (w:(List Int))=>d8 a0 a1 a3 a4 w)) _ _ ho hh p5
 refine Eq.trans (h (fun r s e=>by have q:=congrArg Prod.fst e; rcases r with x | x <;> cases q)) ?_
 unfold wD
 exact aK _ fun x=>by rcases x with x | x <;> rfl
theorem T3 (a0:Int) (a1:List aI) (a2 a3:List Int) (a4:Int):Vm.call TT 63 [.int .i64 a0,.sl (cM aI.cells a1),.own (.ref 0) [(3,1)] [cM cI a2],.sl (cM cI a3),.int .i64 a4] = (rZ a0 a1 a2 a3 a4).map fun (r:(List Int))=>.own (.tup []) [(3,1)] [cM cI r]:=by
 refine (YW (show TT 63 = some (.code ⟨5,190,[],aOq,false,true⟩) from rfl) _ rfl rfl rfl).trans ?_
 show bD TT aOq ⟨[(2,.own 900000 0),(0,dI a0),(1,.d (.sl (cM aI.cells a1))),(2,.d (.own (.ref 0) [(3,1)] [cM cI a2])),(3,.d (.sl (cM cI a3))),(4,dI a4)],[(900000,some (.rows 0 3 1 (cM cI a2)))]⟩ _ = _
 unfold aOq rZ
 have u:=@OX
 exact mJ
end Go.Proofs.Ytgjcnbgfaimepaa
