/- The functions of the small machine compute the plain definitions. Printed by a program. -/
import Derived.Test.YtgjcnbgfaimepaaLnk1
set_option linter.unusedVariables false
set_option linter.unusedSimpArgs false
namespace Go.Proofs.Ytgjcnbgfaimepaa
open Vm
open Go.RowKit
set_option maxRecDepth 100000
set_option maxHeartbeats 4000000
attribute [local congr] yL AK yS BG
theorem H7 {β:Type} (a0:List aF) (a1:List Int) (p1:Int) (x3:aF) (p6:List aC) (k:Ex->St->Option β):bP TT rH ⟨[(1,.d (.sl (cM cI a1))),(5,.own 37 0),(6,dI p1),(7,.ptr 7 0),(8,.d (.sl (cM aF.cells a0))),(9,dI (a0.length:Int)),(10,dI p1)],[(7,some (.box (aQ x3.cells))),(37,some (.rows 0 95 6 (cM aC.cells p6)))]⟩ k = (jJ a0 a1 p1 x3 p6).bind (fun (r:(List aC))=>k .normal ⟨[(1,.d (.sl (cM cI a1))),(5,.own 37 0),(8,.d (.sl (cM aF.cells a0))),(9,dI (a0.length:Int)),(10,dI p1)],[(37,some (.rows 0 95 6 (cM aC.cells r)))]⟩):=by
 unfold rH jJ
 exact HW
abbrev rO (a0:List aF) (a1:List Int) (p1:Int) (p2:List aC):St:=⟨[(1,.d (.sl (cM cI a1))),(5,.own 37 0),(8,.d (.sl (cM aF.cells a0))),(9,dI (a0.length:Int)),(10,dI p1)],[(37,some (.rows 0 95 6 (cM aC.cells p2)))]⟩
theorem HN (a0:List aF) (a1:List Int) (p1:Int) (p2:List aC):bP TT mQ (rO a0 a1 p1 p2) (fun e s=>some (e,s)) = cD (fun (w:Int × (List aC))=>rO a0 a1 w.1 w.2) (fun (r:(List aC))=>(((.exit 0),⟨[(5,.own 37 0)],[(37,some (.rows 0 95 6 (cM aC.cells r)))]⟩):Ex × St)) (cR a0 a1 p1 p2):=by
 unfold mQ cR
 have u:=@H7
 exact oR
theorem HX {β:Type} (a0:List aF) (a1:List Int) (p1:Int) (p2:List aC) (k:Ex->St->Option β):bP TT yN (rO a0 a1 p1 p2) k = (qA a0 a1 p1 p2).bind (fun (r:(List aC))=>k (.exit 0) ⟨[(5,.own 37 0)],[(37,some (.rows 0 95 6 (cM aC.cells r)))]⟩):=by
 have hh:=fun (w:Int × (List aC))=>HN a0 a1 w.1 w.2
 have h:=fun ho=>aX (T:=TT) (k:=k) (c:=mQ) (step:=(fun (w:Int × (List aC))=>cR a0 a1 w.1 w.2)) _ _ ho hh (p1,p2)
 refine Eq.trans (h (fun r s e=>by have q:=congrArg Prod.fst e; rcases r with x <;> cases q)) ?_
 unfold qA
 exact aL _ fun x=>by rcases x with x <;> rfl
theorem rD (a0:List aF) (a1:List Int):Vm.call TT 64 [.sl (cM aF.cells a0),.sl (cM cI a1)] = (dS a0 a1).map fun (r:(List aC))=>.own (.ref 0) [(95,6)] [cM aC.cells r]:=by
 refine (L8 (show TT 64 = some (.code ⟨2,58,[.tmp 4],aMo,true,false⟩) from rfl) _ rfl rfl).trans ?_
 show bP TT aMo ⟨[(0,.d (.sl (cM aF.cells a0))),(1,.d (.sl (cM cI a1)))],[]⟩ _ = _
 unfold aMo dS
 have u:=@HX
 exact oR
theorem tV (a0:List Int) (a1:Int):Vm.call TT 109 [.sl (cM cI a0),.int .i64 a1] = (fP a0 a1).map fun (r:(List Int))=>.own (.ref 0) [(3,1)] [cM cI r] :=
 (TR (show TT 109 = some (.told aQL) from rfl) _ rfl).trans (aM2 3 a1 a0)
theorem CU (a0:aD) (a1:aC):Vm.call TT 106 [.agg a0.cells,.agg a1.cells] = (fS a0 a1).map fun (r:aD)=>.agg r.cells:=by
 refine (bE (show TT 106 = some (.code ⟨2,16,[.cell 4 3 true],aDq,false,false⟩) from rfl) _ rfl rfl).trans ?_
 show bP TT aDq ⟨[(0,kM a0.cells),(1,kM a1.cells)],[]⟩ _ = _
 unfold aDq fS
 exact HW
theorem CT (a0:aD) (a1:aC):KF TT 106 [.agg a0.cells,.agg a1.cells] (fS a0 a1) (fun (r:aD)=>kM r.cells):=kF (CU a0 a1) (fun _=>rfl) (fun _=>rfl)
theorem D0 (a0 a1:aD):Vm.call TT 84 [.agg a0.cells,.agg a1.cells] = (dX a0 a1).map fun (r:Bool)=>.bool r:=by
 refine (bE (show TT 84 = some (.code ⟨2,33,[.tmp 4],aM0,false,false⟩) from rfl) _ rfl rfl).trans ?_
 show bP TT aM0 ⟨[(0,kM a0.cells),(1,kM a1.cells)],[]⟩ _ = _
 unfold aM0 dX
 exact HW
theorem wL (a0 a1:aD):KF TT 84 [.agg a0.cells,.agg a1.cells] (dX a0 a1) (fun (r:Bool)=>dB r):=kF (D0 a0 a1) (fun _=>rfl) (fun _=>rfl)
theorem vF {β:Type} (r6:(List aD)) (bl fz:List (Nat × Option aI)) (k:V->Option β) (kw:V->List (Nat × Option aI)->Option β):yJ TT 10015 bl 109 [.sl (cM cI [(-1)]),.int .i64 (r6.length:Int)] fz k kw = (fP [(-1)] (r6.length:Int)).bind fun (r:(List Int))=>aZ bl 110015 fun b=>fL b (kw (.own 110015 0) ((110015,some (.rows 0 3 1 (cM cI r))) :: fz)):=IU (tV [(-1)] (r6.length:Int)) fz
abbrev n9 (a0:Int) (a1:List aC) (a2:List Int) (p1:Int) (p2:List aD):St:=⟨[(1,.d (.sl (cM aC.cells a1))),(2,.d (.sl (cM cI a2))),(8,.ptr 8 0),(13,dI a0),(14,dI p1)],[(8,some (.box [.own 11 0,.nil,.d (.fn 106 []),.d (.fn 84 [])])),(11,some (.rows 0 114 3 (cM aD.cells p2)))]⟩
theorem DC (a0:Int) (a1:List aC) (a2:List Int) (p1:Int) (p2:List aD):bP TT jZ (n9 a0 a1 a2 p1 p2) (fun e s=>some (e,s)) = cD (fun (w:Int × (List aD))=>n9 a0 a1 a2 w.1 w.2) (fun (r:(List aD))=>(((.exit 0),⟨[(1,.d (.sl (cM aC.cells a1))),(8,.ptr 8 0)],[(8,some (.box [.own 11 0,.nil,.d (.fn 106 []),.d (.fn 84 [])])),(11,some (.rows 0 114 3 (cM aD.cells r)))]⟩):Ex × St)) (bX a0 a1 a2 p1 p2):=by
 unfold jZ bX
 exact HW
theorem DJ {β:Type} (a0:Int) (a1:List aC) (a2:List Int) (p1:Int) (p2:List aD) (k:Ex->St->Option β):bP TT vH (n9 a0 a1 a2 p1 p2) k = (jC a0 a1 a2 p1 p2).bind (fun (r:(List aD))=>k (.exit 0) ⟨[(1,.d (.sl (cM aC.cells a1))),(8,.ptr 8 0)],[(8,some (.box [.own 11 0,.nil,.d (.fn 106 []),.d (.fn 84 [])])),(11,some (.rows 0 114 3 (cM aD.cells r)))]⟩):=by
 have hh:=fun (w:Int × (List aD))=>DC a0 a1 a2 w.1 w.2
 have h:=fun ho=>aX (T:=TT) (k:=k) (c:=jZ) (step:=(fun (w:Int × (List aD))=>bX a0 a1 a2 w.1 w.2)) _ _ ho hh (p1,p2)
 refine Eq.trans (h (fun r s e=>by have q:=congrArg Prod.fst e; rcases r with x <;> cases q)) ?_
 unfold jC
 exact aL _ fun x=>by rcases x with x <;> rfl
abbrev oB (a1:List aC) (p11:Bool) (p12:Int) (p13:List aD) (p14:List Int):St:=⟨[(0,.ptr 8 0),(1,.d (.sl (cM aC.cells a1))),(4,dB p11),(19,.d (.sl (cM aC.cells a1))),(20,dI (a1.length:Int)),(21,dI p12)],[(8,some (.box [.own 11 0,.own 110015 0,.d (.fn 106 []),.d (.fn 84 [])])),(11,some (.rows 0 114 3 (cM aD.cells p13))),(8001,some (.outer [.ptr 8 0])),(110015,some (.rows 0 3 1 (cM cI p14)))]⟩
theorem C9 (a1:List aC) (p11:Bool) (p12:Int) (p13:List aD) (p14:List Int):bP TT j7 (oB a1 p11 p12 p13 p14) (fun e s=>some (e,s)) = cD (fun (w:Bool × Int × (List aD) × (List Int))=>oB a1 w.1 w.2.1 w.2.2.1 w.2.2.2) (fun (r:Bool × (List aD) × (List Int))=>(((.exit 2),⟨[(0,.ptr 8 0),(1,.d (.sl (cM aC.cells a1))),(4,dB r.1)],[(8,some (.box [.own 11 0,.own 110015 0,.d (.fn 106 []),.d (.fn 84 [])])),(11,some (.rows 0 114 3 (cM aD.cells r.2.1))),(8001,some (.outer [.ptr 8 0])),(110015,some (.rows 0 3 1 (cM cI r.2.2)))]⟩):Ex × St)) (c9 a1 p11 p12 p13 p14):=by
 unfold j7 c9
 have u:=aN @wL (aN @CT @vF)
 exact oR
theorem C4 {β:Type} (a1:List aC) (p11:Bool) (p12:Int) (p13:List aD) (p14:List Int) (k:Ex->St->Option β):bP TT u9 (oB a1 p11 p12 p13 p14) k = (jB a1 p11 p12 p13 p14).bind (fun (r:Bool × (List aD) × (List Int))=>k (.exit 2) ⟨[(0,.ptr 8 0),(1,.d (.sl (cM aC.cells a1))),(4,dB r.1)],[(8,some (.box [.own 11 0,.own 110015 0,.d (.fn 106 []),.d (.fn 84 [])])),(11,some (.rows 0 114 3 (cM aD.cells r.2.1))),(8001,some (.outer [.ptr 8 0])),(110015,some (.rows 0 3 1 (cM cI r.2.2)))]⟩):=by
 have hh:=fun (w:Bool × Int × (List aD) × (List Int))=>C9 a1 w.1 w.2.1 w.2.2.1 w.2.2.2
 have h:=fun ho=>aX (T:=TT) (k:=k) (c:=j7) (step:=(fun (w:Bool × Int × (List aD) × (List Int))=>c9 a1 w.1 w.2.1 w.2.2.1 w.2.2.2)) _ _ ho hh (p11,p12,p13,p14)
 refine Eq.trans (h (fun r s e=>by have q:=congrArg Prod.fst e; rcases r with x <;> cases q)) ?_
 unfold jB
 exact aL _ fun x=>by rcases x with x <;> rfl
abbrev oP (a1:List aC) (p8:Bool) (p9:List aD) (p10:List Int):St:=⟨[(0,.ptr 8 0),(1,.d (.sl (cM aC.cells a1))),(4,dB p8)],[(8,some (.box [.own 11 0,.own 110015 0,.d (.fn 106 []),.d (.fn 84 [])])),(11,some (.rows 0 114 3 (cM aD.cells p9))),(8001,some (.outer [.ptr 8 0])),(110015,some (.rows 0 3 1 (cM cI p10)))]⟩
theorem DK (a1:List aC) (p8:Bool) (p9:List aD) (p10:List Int):bP TT j5 (oP a1 p8 p9 p10) (fun e s=>some (e,s)) = cD (fun (w:Bool × (List aD) × (List Int))=>oP a1 w.1 w.2.1 w.2.2) (fun (r:(List aD) × (List Int))=>(((.exit 0),⟨[],[(8,some (.box [.own 11 0,.own 110015 0,.d (.fn 106 []),.d (.fn 84 [])])),(11,some (.rows 0 114 3 (cM aD.cells r.1))),(8001,some (.outer [.ptr 8 0])),(110015,some (.rows 0 3 1 (cM cI r.2)))]⟩):Ex × St)) (eZ a1 p8 p9 p10):=by
 unfold j5 eZ
 have u:=@C4
 exact oR
theorem C0 {β:Type} (a1:List aC) (p8:Bool) (p9:List aD) (p10:List Int) (k:Ex->St->Option β):bP TT vD (oP a1 p8 p9 p10) k = (jA a1 p8 p9 p10).bind (fun (r:(List aD) × (List Int))=>k (.exit 0) ⟨[],[(8,some (.box [.own 11 0,.own 110015 0,.d (.fn 106 []),.d (.fn 84 [])])),(11,some (.rows 0 114 3 (cM aD.cells r.1))),(8001,some (.outer [.ptr 8 0])),(110015,some (.rows 0 3 1 (cM cI r.2)))]⟩):=by
 have hh:=fun (w:Bool × (List aD) × (List Int))=>DK a1 w.1 w.2.1 w.2.2
 have h:=fun ho=>aX (T:=TT) (k:=k) (c:=j5) (step:=(fun (w:Bool × (List aD) × (List Int))=>eZ a1 w.1 w.2.1 w.2.2)) _ _ ho hh (p8,p9,p10)
 refine Eq.trans (h (fun r s e=>by have q:=congrArg Prod.fst e; rcases r with x <;> cases q)) ?_
 unfold jA
 exact aL _ fun x=>by rcases x with x <;> rfl
theorem yX (a0:Int) (a1:List aC) (a2:List Int):Vm.call TT 83 [.int .i64 a0,.sl (cM aC.cells a1),.sl (cM cI a2)] = (fG a0 a1 a2).map fun (r:(List aD) × (List Int))=>.own (.tup [.ref 0,.ref 1]) [(114,3),(3,1)] [cM aD.cells r.1,cM cI r.2]:=by
 refine (L8 (show TT 83 = some (.code ⟨3,34,[.tmp 6,.tmp 7],aOx,true,false⟩) from rfl) _ rfl rfl).trans ?_
 show bP TT aOx ⟨[(0,dI a0),(1,.d (.sl (cM aC.cells a1))),(2,.d (.sl (cM cI a2)))],[]⟩ _ = _
 unfold aOx fG
 have u:=aN @DJ (aN @C0 @vF)
 exact oR
theorem BU {β:Type} (a0:aC) (a1:List Int) (p1:Int) (k:Ex->St->Option β):bP TT mH ⟨[(1,.own 900000 0),(2,dI p1),(3,.ptr 3 0)],[(3,some (.box (aQ a0.cells))),(900000,some (.rows 0 3 1 (cM cI a1)))]⟩ k = (eV a0 a1 p1).bind (fun (r:(List Int))=>k .normal ⟨[(1,.own 900000 0)],[(900000,some (.rows 0 3 1 (cM cI r)))]⟩):=by
 unfold mH eV
 exact HW
theorem wU (a0:aC) (a1:List Int) (a2:Int):Vm.call TT 85 [.agg a0.cells,.own (.ref 0) [(3,1)] [cM cI a1],.int .i64 a2] = (d7 a0 a1 a2).map fun (r:(List Int))=>.own (.tup []) [(3,1)] [cM cI r]:=by
 refine (Q6 (show TT 85 = some (.code ⟨3,18,[],aL4,false,true⟩) from rfl) _ rfl rfl rfl).trans ?_
 show bP TT aL4 ⟨[(1,.own 900000 0),(0,kM a0.cells),(1,.d (.own (.ref 0) [(3,1)] [cM cI a1])),(2,dI a2)],[(900000,some (.rows 0 3 1 (cM cI a1)))]⟩ _ = _
 unfold aL4 d7
 have u:=@BU
 exact oR
theorem EV {β:Type} (a1:List aF) (p13:List Int) (bl:List (Nat × Option aI)) (k:V->Option β) (kw:V->List (Nat × Option aI)->Option β):vX TT 51 bl 64 [.sl (cM aF.cells a1),.sl (cM cI p13)] k kw = (dS a1 p13).bind fun (r:(List aC))=>aZ bl 100051 fun b=>fL b (kw (.own 100051 0) ((100051,some (.rows 0 95 6 (cM aC.cells r))) :: [])):=qN (rD a1 p13) (fun _=>(nL rfl (uB (nV _ (fun _=>rfl) _) rfl)))
theorem EB {β:Type} (a0:Int) (p12:List Int) (r14:(List aC)) (bl:List (Nat × Option aI)) (k:V->Option β) (kw:V->List (Nat × Option aI)->Option β):vX TT 56 bl 83 [.int .i64 a0,.sl (cM aC.cells r14),.sl (cM cI p12)] k kw = (fG a0 r14 p12).bind fun (r:(List aD) × (List Int))=>aZ bl 100056 fun b=>fL b (aZ bl 200056 fun b=>fL b (kw (.tup [.own 100056 0,.own 200056 0]) ((100056,some (.rows 0 114 3 (cM aD.cells r.1))) :: (200056,some (.rows 0 3 1 (cM cI r.2))) :: []))):=qN (yX a0 r14 p12) (fun _=>(nL rfl (uB (nV _ (fun _=>rfl) _) (uB (nV _ (fun _=>rfl) _) rfl))))
theorem FJ {β:Type} (p41:List Int) (r38:Int × Int) (x39:Int) (x44:aC) (bl:List (Nat × Option aI)) (kw:V->List (Nat × Option aI)->Option β):OT TT bl 85 900000 0 [.agg x44.cells,.own (.ref 0) [(3,1)] [cM cI p41],.int .i64 (if x39 < r38.1 then x39 else r38.1)] kw = (d7 x44 p41 (if x39 < r38.1 then x39 else r38.1)).bind fun (r:(List Int))=>aZ bl 900000 fun b=>J3 0 3 1 (cM cI r) b fun b2=>kw (.tup []) [(900000,b2)]:=IL (wU x44 p41 (if x39 < r38.1 then x39 else r38.1)) (fun _=>rfl) (fun _=>nV _ (fun _=>rfl) _) 900000 0
abbrev qC (a0:Int) (a1:List aF) (a2:List Int) (p1:Int) (p2:List Int):St:=⟨[(0,dI a0),(1,.d (.sl (cM aF.cells a1))),(2,.own 900000 0),(6,.own 18 0),(19,.d (.sl (cM aF.cells a1))),(20,dI (a1.length:Int)),(21,dI p1)],[(18,some (.rows 0 3 1 (cM cI p2))),(900000,some (.rows 0 3 1 (cM cI a2)))]⟩
theorem EM (a0:Int) (a1:List aF) (a2:List Int) (p1:Int) (p2:List Int):bP TT kW (qC a0 a1 a2 p1 p2) (fun e s=>some (e,s)) = cD (fun (w:Int × (List Int))=>qC a0 a1 a2 w.1 w.2) (fun (r:(List Int))=>(((.exit 0),⟨[(0,dI a0),(1,.d (.sl (cM aF.cells a1))),(2,.own 900000 0),(6,.own 18 0)],[(18,some (.rows 0 3 1 (cM cI r))),(900000,some (.rows 0 3 1 (cM cI a2)))]⟩):Ex × St)) (cA a0 a1 a2 p1 p2):=by
 unfold kW cA
 exact HW
theorem EN {β:Type} (a0:Int) (a1:List aF) (a2:List Int) (p1:Int) (p2:List Int) (k:Ex->St->Option β):bP TT wP (qC a0 a1 a2 p1 p2) k = (jP a0 a1 a2 p1 p2).bind (fun (r:(List Int))=>k (.exit 0) ⟨[(0,dI a0),(1,.d (.sl (cM aF.cells a1))),(2,.own 900000 0),(6,.own 18 0)],[(18,some (.rows 0 3 1 (cM cI r))),(900000,some (.rows 0 3 1 (cM cI a2)))]⟩):=by
 have hh:=fun (w:Int × (List Int))=>EM a0 a1 a2 w.1 w.2
 have h:=fun ho=>aX (T:=TT) (k:=k) (c:=kW) (step:=(fun (w:Int × (List Int))=>cA a0 a1 a2 w.1 w.2)) _ _ ho hh (p1,p2)
 refine Eq.trans (h (fun r s e=>by have q:=congrArg Prod.fst e; rcases r with x <;> cases q)) ?_
 unfold jP
 exact aL _ fun x=>by rcases x with x <;> rfl
abbrev pP (a0:Int) (a1:List aF) (p12 p13:List Int) (r14:(List aC)) (r15:(List aD) × (List Int)) (p16 p17:Int):St:=⟨[(0,dI a0),(1,.d (.sl (cM aF.cells a1))),(2,.own 900000 0),(6,.own 18 0),(9,.own 100051 0),(10,.own 100056 0),(11,.own 200056 0),(12,dI p16),(59,dI a0),(60,dI p17)],[(18,some (.rows 0 3 1 (cM cI p12))),(100051,some (.rows 0 95 6 (cM aC.cells r14))),(100056,some (.rows 0 114 3 (cM aD.cells r15.1))),(200056,some (.rows 0 3 1 (cM cI r15.2))),(900000,some (.rows 0 3 1 (cM cI p13)))]⟩
theorem D2 (a0:Int) (a1:List aF) (p12 p13:List Int) (r14:(List aC)) (r15:(List aD) × (List Int)) (p16 p17:Int):bP TT kX (pP a0 a1 p12 p13 r14 r15 p16 p17) (fun e s=>some (e,s)) = cD (fun (w:Int × Int)=>pP a0 a1 p12 p13 r14 r15 w.1 w.2) (fun (r:Int)=>(((.exit 4),⟨[(0,dI a0),(1,.d (.sl (cM aF.cells a1))),(2,.own 900000 0),(6,.own 18 0),(9,.own 100051 0),(11,.own 200056 0),(12,dI r)],[(18,some (.rows 0 3 1 (cM cI p12))),(100051,some (.rows 0 95 6 (cM aC.cells r14))),(200056,some (.rows 0 3 1 (cM cI r15.2))),(900000,some (.rows 0 3 1 (cM cI p13)))]⟩):Ex × St)) (aW a0 a1 p12 p13 r14 r15 p16 p17):=by
 unfold kX aW
 have u:=@wL
 exact oR
theorem EE {β:Type} (a0:Int) (a1:List aF) (p12 p13:List Int) (r14:(List aC)) (r15:(List aD) × (List Int)) (p16 p17:Int) (k:Ex->St->Option β):bP TT wY (pP a0 a1 p12 p13 r14 r15 p16 p17) k = (jT a0 a1 p12 p13 r14 r15 p16 p17).bind (fun (r:Int)=>k (.exit 4) ⟨[(0,dI a0),(1,.d (.sl (cM aF.cells a1))),(2,.own 900000 0),(6,.own 18 0),(9,.own 100051 0),(11,.own 200056 0),(12,dI r)],[(18,some (.rows 0 3 1 (cM cI p12))),(100051,some (.rows 0 95 6 (cM aC.cells r14))),(200056,some (.rows 0 3 1 (cM cI r15.2))),(900000,some (.rows 0 3 1 (cM cI p13)))]⟩):=by
 have hh:=fun (w:Int × Int)=>D2 a0 a1 p12 p13 r14 r15 w.1 w.2
 have h:=fun ho=>aX (T:=TT) (k:=k) (c:=kX) (step:=(fun (w:Int × Int)=>aW a0 a1 p12 p13 r14 r15 w.1 w.2)) _ _ ho hh (p16,p17)
 refine Eq.trans (h (fun r s e=>by have q:=congrArg Prod.fst e; rcases r with x <;> cases q)) ?_
 unfold jT
 exact aL _ fun x=>by rcases x with x <;> rfl
abbrev qF (a0:Int) (a1:List aF) (p12 p13:List Int) (r14:(List aC)) (r15:(List aD) × (List Int)) (r27 p29 p30:Int):St:=⟨[(0,dI a0),(1,.d (.sl (cM aF.cells a1))),(2,.own 900000 0),(6,.own 18 0),(9,.own 100051 0),(11,.own 200056 0),(12,dI r27),(14,dI p29),(15,dI p30)],[(18,some (.rows 0 3 1 (cM cI p12))),(100051,some (.rows 0 95 6 (cM aC.cells r14))),(200056,some (.rows 0 3 1 (cM cI r15.2))),(900000,some (.rows 0 3 1 (cM cI p13)))]⟩
theorem D1 (a0:Int) (a1:List aF) (p12 p13:List Int) (r14:(List aC)) (r15:(List aD) × (List Int)) (r27 p29 p30:Int):bP TT lB (qF a0 a1 p12 p13 r14 r15 r27 p29 p30) (fun e s=>some (e,s)) = cD (fun (w:Int × Int)=>qF a0 a1 p12 p13 r14 r15 r27 w.1 w.2) (fun (r:Int × Int)=>(((.exit 6),⟨[(0,dI a0),(1,.d (.sl (cM aF.cells a1))),(2,.own 900000 0),(6,.own 18 0),(9,.own 100051 0),(11,.own 200056 0),(12,dI r27),(14,dI r.1),(15,dI r.2)],[(18,some (.rows 0 3 1 (cM cI p12))),(100051,some (.rows 0 95 6 (cM aC.cells r14))),(200056,some (.rows 0 3 1 (cM cI r15.2))),(900000,some (.rows 0 3 1 (cM cI p13)))]⟩):Ex × St)) (dH a0 a1 p12 p13 r14 r15 r27 p29 p30):=by
 unfold lB dH
 exact HW
theorem D9 {β:Type} (a0:Int) (a1:List aF) (p12 p13:List Int) (r14:(List aC)) (r15:(List aD) × (List Int)) (r27 p29 p30:Int) (k:Ex->St->Option β):bP TT wX (qF a0 a1 p12 p13 r14 r15 r27 p29 p30) k = (fH a0 a1 p12 p13 r14 r15 r27 p29 p30).bind (fun (r:Int × Int)=>k (.exit 6) ⟨[(0,dI a0),(1,.d (.sl (cM aF.cells a1))),(2,.own 900000 0),(6,.own 18 0),(9,.own 100051 0),(11,.own 200056 0),(12,dI r27),(14,dI r.1),(15,dI r.2)],[(18,some (.rows 0 3 1 (cM cI p12))),(100051,some (.rows 0 95 6 (cM aC.cells r14))),(200056,some (.rows 0 3 1 (cM cI r15.2))),(900000,some (.rows 0 3 1 (cM cI p13)))]⟩):=by
 have hh:=fun (w:Int × Int)=>D1 a0 a1 p12 p13 r14 r15 r27 w.1 w.2
 have h:=fun ho=>aX (T:=TT) (k:=k) (c:=lB) (step:=(fun (w:Int × Int)=>dH a0 a1 p12 p13 r14 r15 r27 w.1 w.2)) _ _ ho hh (p29,p30)
 refine Eq.trans (h (fun r s e=>by have q:=congrArg Prod.fst e; rcases r with x <;> cases q)) ?_
 unfold fH
 exact aL _ fun x=>by rcases x with x <;> rfl
abbrev pZ (a0:Int) (a1:List aF) (p12:List Int) (r14:(List aC)) (r15:(List aD) × (List Int)) (r27:Int) (r38:Int × Int) (x39 p40:Int) (p41:List Int):St:=⟨[(0,dI a0),(1,.d (.sl (cM aF.cells a1))),(2,.own 900000 0),(6,.own 18 0),(9,.own 100051 0),(11,.own 200056 0),(12,dI r27),(14,dI (if x39 < r38.1 then x39 else r38.1)),(15,dI r38.2),(16,dI p40)],[(18,some (.rows 0 3 1 (cM cI p12))),(100051,some (.rows 0 95 6 (cM aC.cells r14))),(200056,some (.rows 0 3 1 (cM cI r15.2))),(900000,some (.rows 0 3 1 (cM cI p41)))]⟩
theorem ES (a0:Int) (a1:List aF) (p12:List Int) (r14:(List aC)) (r15:(List aD) × (List Int)) (r27:Int) (r38:Int × Int) (x39 p40:Int) (p41:List Int):bP TT kT (pZ a0 a1 p12 r14 r15 r27 r38 x39 p40 p41) (fun e s=>some (e,s)) = cD (fun (w:Int × (List Int))=>pZ a0 a1 p12 r14 r15 r27 r38 x39 w.1 w.2) (fun (r:(List Int))=>(((.exit 8),⟨[(0,dI a0),(1,.d (.sl (cM aF.cells a1))),(2,.own 900000 0),(6,.own 18 0),(12,dI r27),(14,dI (if x39 < r38.1 then x39 else r38.1)),(15,dI r38.2)],[(18,some (.rows 0 3 1 (cM cI p12))),(900000,some (.rows 0 3 1 (cM cI r)))]⟩):Ex × St)) (dG a0 a1 p12 r14 r15 r27 r38 x39 p40 p41):=by
 unfold kT dG
 have u:=@FJ
 exact oR
theorem E3 {β:Type} (a0:Int) (a1:List aF) (p12:List Int) (r14:(List aC)) (r15:(List aD) × (List Int)) (r27:Int) (r38:Int × Int) (x39 p40:Int) (p41:List Int) (k:Ex->St->Option β):bP TT wI (pZ a0 a1 p12 r14 r15 r27 r38 x39 p40 p41) k = (fF a0 a1 p12 r14 r15 r27 r38 x39 p40 p41).bind (fun (r:(List Int))=>k (.exit 8) ⟨[(0,dI a0),(1,.d (.sl (cM aF.cells a1))),(2,.own 900000 0),(6,.own 18 0),(12,dI r27),(14,dI (if x39 < r38.1 then x39 else r38.1)),(15,dI r38.2)],[(18,some (.rows 0 3 1 (cM cI p12))),(900000,some (.rows 0 3 1 (cM cI r)))]⟩):=by
 have hh:=fun (w:Int × (List Int))=>ES a0 a1 p12 r14 r15 r27 r38 x39 w.1 w.2
 have h:=fun ho=>aX (T:=TT) (k:=k) (c:=kT) (step:=(fun (w:Int × (List Int))=>dG a0 a1 p12 r14 r15 r27 r38 x39 w.1 w.2)) _ _ ho hh (p40,p41)
 refine Eq.trans (h (fun r s e=>by have q:=congrArg Prod.fst e; rcases r with x <;> cases q)) ?_
 unfold fF
 exact aL _ fun x=>by rcases x with x <;> rfl
abbrev pF (a0:Int) (a1:List aF) (p12 p13:List Int):St:=⟨[(0,dI a0),(1,.d (.sl (cM aF.cells a1))),(2,.own 900000 0),(6,.own 18 0)],[(18,some (.rows 0 3 1 (cM cI p12))),(900000,some (.rows 0 3 1 (cM cI p13)))]⟩
theorem ED (a0:Int) (a1:List aF) (p12 p13:List Int):bP TT lC (pF a0 a1 p12 p13) (fun e s=>some (e,s)) = cD (fun (w:(List Int) × (List Int))=>pF a0 a1 w.1 w.2) (fun (r:(List Int))=>((.ret,⟨[(2,.own 900000 0)],[(900000,some (.rows 0 3 1 (cM cI r)))]⟩):Ex × St)) (cO a0 a1 p12 p13):=by
 unfold lC cO
 have u:=aN (aN @EE @D9) (aN @E3 (aN @EV @EB))
 exact oR
theorem E9 {β:Type} (a0:Int) (a1:List aF) (p12 p13:List Int) (k:Ex->St->Option β):bP TT wW (pF a0 a1 p12 p13) k = (nA a0 a1 p12 p13).bind (fun (r:(List Int))=>k .ret ⟨[(2,.own 900000 0)],[(900000,some (.rows 0 3 1 (cM cI r)))]⟩):=by
 have hh:=fun (w:(List Int) × (List Int))=>ED a0 a1 w.1 w.2
 have h:=fun ho=>aX (T:=TT) (k:=k) (c:=lC) (step:=(fun (w:(List Int) × (List Int))=>cO a0 a1 w.1 w.2)) _ _ ho hh (p12,p13)
 refine Eq.trans (h (fun r s e=>by have q:=congrArg Prod.fst e; rcases r with x <;> cases q)) ?_
 unfold nA
 exact aL _ fun x=>by rcases x with x <;> rfl
theorem JK (a0:Int) (a1:List aF) (a2:List Int):Vm.call TT 61 [.int .i64 a0,.sl (cM aF.cells a1),.own (.ref 0) [(3,1)] [cM cI a2]] = (jX a0 a1 a2).map fun (r:(List Int))=>.own (.tup []) [(3,1)] [cM cI r]:=by
 refine (Q6 (show TT 61 = some (.code ⟨3,171,[],aNZ,false,true⟩) from rfl) _ rfl rfl rfl).trans ?_
 show bP TT aNZ ⟨[(2,.own 900000 0),(0,dI a0),(1,.d (.sl (cM aF.cells a1))),(2,.d (.own (.ref 0) [(3,1)] [cM cI a2]))],[(900000,some (.rows 0 3 1 (cM cI a2)))]⟩ _ = _
 unfold aNZ jX
 have u:=aN @EN @E9
 exact oR
theorem CV (a0:Int) (a1:aC):Vm.call TT 86 [.int .i64 a0,.agg a1.cells] = (fT a0 a1).map fun (r:Int)=>.int .i64 r:=by
 refine (bE (show TT 86 = some (.code ⟨2,9,[.tmp 4],aM9,false,false⟩) from rfl) _ rfl rfl).trans ?_
 show bP TT aM9 ⟨[(0,dI a0),(1,kM a1.cells)],[]⟩ _ = _
 unfold aM9 fT
 exact HW
theorem CI (a0:Int) (a1:aC):KF TT 86 [.int .i64 a0,.agg a1.cells] (fT a0 a1) (fun (r:Int)=>dI r):=kF (CV a0 a1) (fun _=>rfl) (fun _=>rfl)
theorem NJ (a0:Int):Vm.call TT 108 [.int .i64 a0] = (oF a0).map fun (r:Bool)=>.bool r:=by
 refine (bE (show TT 108 = some (.code ⟨1,6,[.tmp 2],aC3,false,false⟩) from rfl) _ rfl rfl).trans ?_
 show bP TT aC3 ⟨[(0,dI a0)],[]⟩ _ = _
 unfold aC3 oF
 exact HW
theorem M4 (a0:Int):KF TT 108 [.int .i64 a0] (oF a0) (fun (r:Bool)=>dB r):=kF (NJ a0) (fun _=>rfl) (fun _=>rfl)
theorem PF (a0 a1:Int):Vm.call TT 87 [.int .i64 a0,.int .i64 a1] = (qO a0 a1).map fun (r:Bool)=>.bool r:=by
 refine (bE (show TT 87 = some (.code ⟨2,17,[.tmp 4],aMU,false,false⟩) from rfl) _ rfl rfl).trans ?_
 show bP TT aMU ⟨[(0,dI a0),(1,dI a1)],[]⟩ _ = _
 unfold aMU qO
 have u:=@M4
 exact oR
theorem PC (a0 a1:Int):KF TT 87 [.int .i64 a0,.int .i64 a1] (qO a0 a1) (fun (r:Bool)=>dB r):=kF (PF a0 a1) (fun _=>rfl) (fun _=>rfl)
theorem sN {β:Type} (a1:List aF) (a2:List Int) (bl:List (Nat × Option aI)) (k:V->Option β) (kw:V->List (Nat × Option aI)->Option β):vX TT 13 bl 64 [.sl (cM aF.cells a1),.sl (cM cI a2)] k kw = (dS a1 a2).bind fun (r:(List aC))=>aZ bl 100013 fun b=>fL b (kw (.own 100013 0) ((100013,some (.rows 0 95 6 (cM aC.cells r))) :: [])):=qN (rD a1 a2) (fun _=>(nL rfl (uB (nV _ (fun _=>rfl) _) rfl)))
theorem sL {β:Type} (a0:Int) (bl fz:List (Nat × Option aI)) (k:V->Option β) (kw:V->List (Nat × Option aI)->Option β):yJ TT 10015 bl 109 [.sl (cM cI [(-1)]),.int .i64 ((List.replicate a0.toNat (0:Int)).length:Int)] fz k kw = (fP [(-1)] ((List.replicate a0.toNat (0:Int)).length:Int)).bind fun (r:(List Int))=>aZ bl 110015 fun b=>fL b (kw (.own 110015 0) ((110015,some (.rows 0 3 1 (cM cI r))) :: fz)):=IU (tV [(-1)] ((List.replicate a0.toNat (0:Int)).length:Int)) fz
abbrev mK (r1:(List aC)) (p6:Bool) (p7:Int) (p8 p9:List Int):St:=⟨[(0,.ptr 7 0),(1,.own 100013 0),(4,dB p6),(19,.own 100013 0),(20,dI (r1.length:Int)),(21,dI p7)],[(7,some (.box [.own 9 0,.own 110015 0,.d (.fn 86 []),.d (.fn 87 [])])),(9,some (.rows 0 3 1 (cM cI p8))),(8001,some (.outer [.ptr 7 0])),(100013,some (.rows 0 95 6 (cM aC.cells r1))),(110015,some (.rows 0 3 1 (cM cI p9)))]⟩
theorem BT (r1:(List aC)) (p6:Bool) (p7:Int) (p8 p9:List Int):bP TT iZ (mK r1 p6 p7 p8 p9) (fun e s=>some (e,s)) = cD (fun (w:Bool × Int × (List Int) × (List Int))=>mK r1 w.1 w.2.1 w.2.2.1 w.2.2.2) (fun (r:Bool × (List Int) × (List Int))=>(((.exit 2),⟨[(0,.ptr 7 0),(1,.own 100013 0),(4,dB r.1)],[(7,some (.box [.own 9 0,.own 110015 0,.d (.fn 86 []),.d (.fn 87 [])])),(9,some (.rows 0 3 1 (cM cI r.2.1))),(8001,some (.outer [.ptr 7 0])),(100013,some (.rows 0 95 6 (cM aC.cells r1))),(110015,some (.rows 0 3 1 (cM cI r.2.2)))]⟩):Ex × St)) (cG r1 p6 p7 p8 p9):=by
 unfold iZ cG
 have u:=aN (aN @CI @PC) (aN @sN @sL)
 exact oR
theorem BM {β:Type} (r1:(List aC)) (p6:Bool) (p7:Int) (p8 p9:List Int) (k:Ex->St->Option β):bP TT sK (mK r1 p6 p7 p8 p9) k = (gT r1 p6 p7 p8 p9).bind (fun (r:Bool × (List Int) × (List Int))=>k (.exit 2) ⟨[(0,.ptr 7 0),(1,.own 100013 0),(4,dB r.1)],[(7,some (.box [.own 9 0,.own 110015 0,.d (.fn 86 []),.d (.fn 87 [])])),(9,some (.rows 0 3 1 (cM cI r.2.1))),(8001,some (.outer [.ptr 7 0])),(100013,some (.rows 0 95 6 (cM aC.cells r1))),(110015,some (.rows 0 3 1 (cM cI r.2.2)))]⟩):=by
 have hh:=fun (w:Bool × Int × (List Int) × (List Int))=>BT r1 w.1 w.2.1 w.2.2.1 w.2.2.2
 have h:=fun ho=>aX (T:=TT) (k:=k) (c:=iZ) (step:=(fun (w:Bool × Int × (List Int) × (List Int))=>cG r1 w.1 w.2.1 w.2.2.1 w.2.2.2)) _ _ ho hh (p6,p7,p8,p9)
 refine Eq.trans (h (fun r s e=>by have q:=congrArg Prod.fst e; rcases r with x <;> cases q)) ?_
 unfold gT
 exact aL _ fun x=>by rcases x with x <;> rfl
abbrev mL (r1:(List aC)) (p3:Bool) (p4 p5:List Int):St:=⟨[(0,.ptr 7 0),(1,.own 100013 0),(4,dB p3)],[(7,some (.box [.own 9 0,.own 110015 0,.d (.fn 86 []),.d (.fn 87 [])])),(9,some (.rows 0 3 1 (cM cI p4))),(8001,some (.outer [.ptr 7 0])),(100013,some (.rows 0 95 6 (cM aC.cells r1))),(110015,some (.rows 0 3 1 (cM cI p5)))]⟩
theorem BP (r1:(List aC)) (p3:Bool) (p4 p5:List Int):bP TT iX (mL r1 p3 p4 p5) (fun e s=>some (e,s)) = cD (fun (w:Bool × (List Int) × (List Int))=>mL r1 w.1 w.2.1 w.2.2) (fun (r:(List Int) × (List Int))=>(((.exit 0),⟨[],[(7,some (.box [.own 9 0,.own 110015 0,.d (.fn 86 []),.d (.fn 87 [])])),(9,some (.rows 0 3 1 (cM cI r.1))),(8001,some (.outer [.ptr 7 0])),(110015,some (.rows 0 3 1 (cM cI r.2)))]⟩):Ex × St)) (d8 r1 p3 p4 p5):=by
 unfold iX d8
 have u:=@BM
 exact oR
theorem BJ {β:Type} (r1:(List aC)) (p3:Bool) (p4 p5:List Int) (k:Ex->St->Option β):bP TT sP (mL r1 p3 p4 p5) k = (gV r1 p3 p4 p5).bind (fun (r:(List Int) × (List Int))=>k (.exit 0) ⟨[],[(7,some (.box [.own 9 0,.own 110015 0,.d (.fn 86 []),.d (.fn 87 [])])),(9,some (.rows 0 3 1 (cM cI r.1))),(8001,some (.outer [.ptr 7 0])),(110015,some (.rows 0 3 1 (cM cI r.2)))]⟩):=by
 have hh:=fun (w:Bool × (List Int) × (List Int))=>BP r1 w.1 w.2.1 w.2.2
 have h:=fun ho=>aX (T:=TT) (k:=k) (c:=iX) (step:=(fun (w:Bool × (List Int) × (List Int))=>d8 r1 w.1 w.2.1 w.2.2)) _ _ ho hh (p3,p4,p5)
 refine Eq.trans (h (fun r s e=>by have q:=congrArg Prod.fst e; rcases r with x <;> cases q)) ?_
 unfold gV
 exact aL _ fun x=>by rcases x with x <;> rfl
theorem wE (a0:Int) (a1:List aF) (a2:List Int):Vm.call TT 62 [.int .i64 a0,.sl (cM aF.cells a1),.sl (cM cI a2)] = (dY a0 a1 a2).map fun (r:(List Int))=>.own (.ref 0) [(3,1)] [cM cI r]:=by
 refine (L8 (show TT 62 = some (.code ⟨3,17,[.tmp 6],aOC,true,false⟩) from rfl) _ rfl rfl).trans ?_
 show bP TT aOC ⟨[(0,dI a0),(1,.d (.sl (cM aF.cells a1))),(2,.d (.sl (cM cI a2)))],[]⟩ _ = _
 unfold aOC dY
 have u:=aN @BJ (aN @sN @sL)
 exact oR
theorem G5 {β:Type} (a1:List aF) (p5:List Int) (bl:List (Nat × Option aI)) (k:V->Option β) (kw:V->List (Nat × Option aI)->Option β):vX TT 50 bl 64 [.sl (cM aF.cells a1),.sl (cM cI p5)] k kw = (dS a1 p5).bind fun (r:(List aC))=>aZ bl 100050 fun b=>fL b (kw (.own 100050 0) ((100050,some (.rows 0 95 6 (cM aC.cells r))) :: [])):=qN (rD a1 p5) (fun _=>(nL rfl (uB (nV _ (fun _=>rfl) _) rfl)))
theorem GT {β:Type} (a0:Int) (r22:(List aC)) (x16:aF) (bl:List (Nat × Option aI)) (k:V->Option β) (kw:V->List (Nat × Option aI)->Option β):vX TT 104 bl 83 [.int .i64 a0,.sl (cM aC.cells r22),.sl (cM cI ((List.replicate a0.toNat (0:Int)).set x16.To.toNat 1))] k kw = (fG a0 r22 ((List.replicate a0.toNat (0:Int)).set x16.To.toNat 1)).bind fun (r:(List aD) × (List Int))=>aZ bl 100104 fun b=>fL b (aZ bl 200104 fun b=>fL b (kw (.tup [.own 100104 0,.own 200104 0]) ((100104,some (.rows 0 114 3 (cM aD.cells r.1))) :: (200104,some (.rows 0 3 1 (cM cI r.2))) :: []))):=qN (yX a0 r22 ((List.replicate a0.toNat (0:Int)).set x16.To.toNat 1)) (fun _=>(nL rfl (uB (nV _ (fun _=>rfl) _) (uB (nV _ (fun _=>rfl) _) rfl))))
theorem HU {β:Type} (p40:List Int) (r37:Int) (x43:aC) (bl:List (Nat × Option aI)) (kw:V->List (Nat × Option aI)->Option β):OT TT bl 85 900000 0 [.agg x43.cells,.own (.ref 0) [(3,1)] [cM cI p40],.int .i64 r37] kw = (d7 x43 p40 r37).bind fun (r:(List Int))=>aZ bl 900000 fun b=>J3 0 3 1 (cM cI r) b fun b2=>kw (.tup []) [(900000,b2)]:=IL (wU x43 p40 r37) (fun _=>rfl) (fun _=>nV _ (fun _=>rfl) _) 900000 0
abbrev rL (a0:Int) (a1:List aF) (a3:List Int) (a4:Int) (p5:List Int) (r8:(List aC)) (p9:Int) (p10:List aC):St:=⟨[(0,dI a0),(1,.d (.sl (cM aF.cells a1))),(2,.own 900000 0),(3,.d (.sl (cM cI a3))),(4,dI a4),(10,.own 79 0),(50,.own 100050 0),(51,dI (r8.length:Int)),(52,dI p9)],[(79,some (.rows 0 95 6 (cM aC.cells p10))),(100050,some (.rows 0 95 6 (cM aC.cells r8))),(900000,some (.rows 0 3 1 (cM cI p5)))]⟩
theorem GR (a0:Int) (a1:List aF) (a3:List Int) (a4:Int) (p5:List Int) (r8:(List aC)) (p9:Int) (p10:List aC):bP TT mY (rL a0 a1 a3 a4 p5 r8 p9 p10) (fun e s=>some (e,s)) = cD (fun (w:Int × (List aC))=>rL a0 a1 a3 a4 p5 r8 w.1 w.2) (fun (r:(List aC))=>(((.exit 2),⟨[(0,dI a0),(1,.d (.sl (cM aF.cells a1))),(2,.own 900000 0),(3,.d (.sl (cM cI a3))),(4,dI a4),(10,.own 79 0)],[(79,some (.rows 0 95 6 (cM aC.cells r))),(900000,some (.rows 0 3 1 (cM cI p5)))]⟩):Ex × St)) (cY a0 a1 a3 a4 p5 r8 p9 p10):=by
 unfold mY cY
 exact HW
theorem HP {β:Type} (a0:Int) (a1:List aF) (a3:List Int) (a4:Int) (p5:List Int) (r8:(List aC)) (p9:Int) (p10:List aC) (k:Ex->St->Option β):bP TT yY (rL a0 a1 a3 a4 p5 r8 p9 p10) k = (lF a0 a1 a3 a4 p5 r8 p9 p10).bind (fun (r:(List aC))=>k (.exit 2) ⟨[(0,dI a0),(1,.d (.sl (cM aF.cells a1))),(2,.own 900000 0),(3,.d (.sl (cM cI a3))),(4,dI a4),(10,.own 79 0)],[(79,some (.rows 0 95 6 (cM aC.cells r))),(900000,some (.rows 0 3 1 (cM cI p5)))]⟩):=by
 have hh:=fun (w:Int × (List aC))=>GR a0 a1 a3 a4 p5 r8 w.1 w.2
 have h:=fun ho=>aX (T:=TT) (k:=k) (c:=mY) (step:=(fun (w:Int × (List aC))=>cY a0 a1 a3 a4 p5 r8 w.1 w.2)) _ _ ho hh (p9,p10)
 refine Eq.trans (h (fun r s e=>by have q:=congrArg Prod.fst e; rcases r with x <;> cases q)) ?_
 unfold lF
 exact aL _ fun x=>by rcases x with x <;> rfl
abbrev rN (a0:Int) (a1:List aF) (a3:List Int) (a4:Int) (p5:List Int) (r15:(List aC)) (x16:aF) (p18:Int) (p19:List aC):St:=⟨[(0,dI a0),(1,.d (.sl (cM aF.cells a1))),(2,.own 900000 0),(3,.d (.sl (cM cI a3))),(4,dI a4),(10,.own 79 0),(13,.own 82 0),(91,dI (r15.length:Int)),(92,dI p18)],[(79,some (.rows 0 95 6 (cM aC.cells p19))),(82,some (.rows 0 3 1 (cM cI ((List.replicate a0.toNat (0:Int)).set x16.To.toNat 1)))),(900000,some (.rows 0 3 1 (cM cI p5)))]⟩
theorem HM (a0:Int) (a1:List aF) (a3:List Int) (a4:Int) (p5:List Int) (r15:(List aC)) (x16:aF) (p18:Int) (p19:List aC):bP TT mZ (rN a0 a1 a3 a4 p5 r15 x16 p18 p19) (fun e s=>some (e,s)) = cD (fun (w:Int × (List aC))=>rN a0 a1 a3 a4 p5 r15 x16 w.1 w.2) (fun (r:(List aC))=>(((.exit 4),⟨[(0,dI a0),(1,.d (.sl (cM aF.cells a1))),(2,.own 900000 0),(3,.d (.sl (cM cI a3))),(4,dI a4),(10,.own 79 0),(13,.own 82 0)],[(79,some (.rows 0 95 6 (cM aC.cells r))),(82,some (.rows 0 3 1 (cM cI ((List.replicate a0.toNat (0:Int)).set x16.To.toNat 1)))),(900000,some (.rows 0 3 1 (cM cI p5)))]⟩):Ex × St)) (cU a0 a1 a3 a4 p5 r15 x16 p18 p19):=by
 unfold mZ cU
 exact HW
theorem HO {β:Type} (a0:Int) (a1:List aF) (a3:List Int) (a4:Int) (p5:List Int) (r15:(List aC)) (x16:aF) (p18:Int) (p19:List aC) (k:Ex->St->Option β):bP TT yG (rN a0 a1 a3 a4 p5 r15 x16 p18 p19) k = (lR a0 a1 a3 a4 p5 r15 x16 p18 p19).bind (fun (r:(List aC))=>k (.exit 4) ⟨[(0,dI a0),(1,.d (.sl (cM aF.cells a1))),(2,.own 900000 0),(3,.d (.sl (cM cI a3))),(4,dI a4),(10,.own 79 0),(13,.own 82 0)],[(79,some (.rows 0 95 6 (cM aC.cells r))),(82,some (.rows 0 3 1 (cM cI ((List.replicate a0.toNat (0:Int)).set x16.To.toNat 1)))),(900000,some (.rows 0 3 1 (cM cI p5)))]⟩):=by
 have hh:=fun (w:Int × (List aC))=>HM a0 a1 a3 a4 p5 r15 x16 w.1 w.2
 have h:=fun ho=>aX (T:=TT) (k:=k) (c:=mZ) (step:=(fun (w:Int × (List aC))=>cU a0 a1 a3 a4 p5 r15 x16 w.1 w.2)) _ _ ho hh (p18,p19)
 refine Eq.trans (h (fun r s e=>by have q:=congrArg Prod.fst e; rcases r with x <;> cases q)) ?_
 unfold lR
 exact aL _ fun x=>by rcases x with x <;> rfl
abbrev rQ (a0:Int) (a1:List aF) (a3:List Int) (a4:Int) (p5:List Int) (r22:(List aC)) (r23:(List aD) × (List Int)) (p29 p30:Int):St:=⟨[(0,dI a0),(1,.d (.sl (cM aF.cells a1))),(2,.own 900000 0),(3,.d (.sl (cM cI a3))),(4,dI a4),(10,.own 79 0),(16,.own 200104 0),(17,dI p29),(18,dI p30)],[(79,some (.rows 0 95 6 (cM aC.cells r22))),(200104,some (.rows 0 3 1 (cM cI r23.2))),(900000,some (.rows 0 3 1 (cM cI p5)))]⟩
theorem GU (a0:Int) (a1:List aF) (a3:List Int) (a4:Int) (p5:List Int) (r22:(List aC)) (r23:(List aD) × (List Int)) (p29 p30:Int):bP TT m9 (rQ a0 a1 a3 a4 p5 r22 r23 p29 p30) (fun e s=>some (e,s)) = cD (fun (w:Int × Int)=>rQ a0 a1 a3 a4 p5 r22 r23 w.1 w.2) (fun (r:Int)=>(((.exit 6),⟨[(0,dI a0),(1,.d (.sl (cM aF.cells a1))),(2,.own 900000 0),(3,.d (.sl (cM cI a3))),(4,dI a4),(10,.own 79 0),(16,.own 200104 0),(17,dI r)],[(79,some (.rows 0 95 6 (cM aC.cells r22))),(200104,some (.rows 0 3 1 (cM cI r23.2))),(900000,some (.rows 0 3 1 (cM cI p5)))]⟩):Ex × St)) (dZ a0 a1 a3 a4 p5 r22 r23 p29 p30):=by
 unfold m9 dZ
 exact HW
theorem GZ {β:Type} (a0:Int) (a1:List aF) (a3:List Int) (a4:Int) (p5:List Int) (r22:(List aC)) (r23:(List aD) × (List Int)) (p29 p30:Int) (k:Ex->St->Option β):bP TT yP (rQ a0 a1 a3 a4 p5 r22 r23 p29 p30) k = (gM a0 a1 a3 a4 p5 r22 r23 p29 p30).bind (fun (r:Int)=>k (.exit 6) ⟨[(0,dI a0),(1,.d (.sl (cM aF.cells a1))),(2,.own 900000 0),(3,.d (.sl (cM cI a3))),(4,dI a4),(10,.own 79 0),(16,.own 200104 0),(17,dI r)],[(79,some (.rows 0 95 6 (cM aC.cells r22))),(200104,some (.rows 0 3 1 (cM cI r23.2))),(900000,some (.rows 0 3 1 (cM cI p5)))]⟩):=by
 have hh:=fun (w:Int × Int)=>GU a0 a1 a3 a4 p5 r22 r23 w.1 w.2
 have h:=fun ho=>aX (T:=TT) (k:=k) (c:=m9) (step:=(fun (w:Int × Int)=>dZ a0 a1 a3 a4 p5 r22 r23 w.1 w.2)) _ _ ho hh (p29,p30)
 refine Eq.trans (h (fun r s e=>by have q:=congrArg Prod.fst e; rcases r with x <;> cases q)) ?_
 unfold gM
 exact aL _ fun x=>by rcases x with x <;> rfl
abbrev rI (a0:Int) (a1:List aF) (a3:List Int) (a4:Int) (r22:(List aC)) (r23:(List aD) × (List Int)) (r37 p39:Int) (p40:List Int):St:=⟨[(0,dI a0),(1,.d (.sl (cM aF.cells a1))),(2,.own 900000 0),(3,.d (.sl (cM cI a3))),(4,dI a4),(10,.own 79 0),(16,.own 200104 0),(17,dI r37),(19,dI p39)],[(79,some (.rows 0 95 6 (cM aC.cells r22))),(200104,some (.rows 0 3 1 (cM cI r23.2))),(900000,some (.rows 0 3 1 (cM cI p40)))]⟩
theorem H8 (a0:Int) (a1:List aF) (a3:List Int) (a4:Int) (r22:(List aC)) (r23:(List aD) × (List Int)) (r37 p39:Int) (p40:List Int):bP TT mX (rI a0 a1 a3 a4 r22 r23 r37 p39 p40) (fun e s=>some (e,s)) = cD (fun (w:Int × (List Int))=>rI a0 a1 a3 a4 r22 r23 r37 w.1 w.2) (fun (r:(List Int))=>(((.exit 8),⟨[(0,dI a0),(1,.d (.sl (cM aF.cells a1))),(2,.own 900000 0),(3,.d (.sl (cM cI a3))),(4,dI a4),(17,dI r37)],[(900000,some (.rows 0 3 1 (cM cI r)))]⟩):Ex × St)) (dW a0 a1 a3 a4 r22 r23 r37 p39 p40):=by
 unfold mX dW
 have u:=@HU
 exact oR
theorem HL {β:Type} (a0:Int) (a1:List aF) (a3:List Int) (a4:Int) (r22:(List aC)) (r23:(List aD) × (List Int)) (r37 p39:Int) (p40:List Int) (k:Ex->St->Option β):bP TT yV (rI a0 a1 a3 a4 r22 r23 r37 p39 p40) k = (gP a0 a1 a3 a4 r22 r23 r37 p39 p40).bind (fun (r:(List Int))=>k (.exit 8) ⟨[(0,dI a0),(1,.d (.sl (cM aF.cells a1))),(2,.own 900000 0),(3,.d (.sl (cM cI a3))),(4,dI a4),(17,dI r37)],[(900000,some (.rows 0 3 1 (cM cI r)))]⟩):=by
 have hh:=fun (w:Int × (List Int))=>H8 a0 a1 a3 a4 r22 r23 r37 w.1 w.2
 have h:=fun ho=>aX (T:=TT) (k:=k) (c:=mX) (step:=(fun (w:Int × (List Int))=>dW a0 a1 a3 a4 r22 r23 r37 w.1 w.2)) _ _ ho hh (p39,p40)
 refine Eq.trans (h (fun r s e=>by have q:=congrArg Prod.fst e; rcases r with x <;> cases q)) ?_
 unfold gP
 exact aL _ fun x=>by rcases x with x <;> rfl
abbrev rF (a0:Int) (a1:List aF) (a3:List Int) (a4:Int) (p5:List Int):St:=⟨[(0,dI a0),(1,.d (.sl (cM aF.cells a1))),(2,.own 900000 0),(3,.d (.sl (cM cI a3))),(4,dI a4)],[(900000,some (.rows 0 3 1 (cM cI p5)))]⟩
theorem GP (a0:Int) (a1:List aF) (a3:List Int) (a4:Int) (p5:List Int):bP TT nC (rF a0 a1 a3 a4 p5) (fun e s=>some (e,s)) = cD (fun (w:(List Int))=>rF a0 a1 a3 a4 w) (fun (r:((List Int)) ⊕ ((List Int)))=>Sum.elim (fun (z:(List Int))=>(((.exit 0),⟨[(2,.own 900000 0)],[(900000,some (.rows 0 3 1 (cM cI z)))]⟩):Ex × St)) (fun (z:(List Int))=>((.ret,⟨[(2,.own 900000 0)],[(900000,some (.rows 0 3 1 (cM cI z)))]⟩):Ex × St)) r) (cC a0 a1 a3 a4 p5):=by
 unfold nC cC
 have u:=aN (aN @HP (aN @HO @GZ)) (aN @HL (aN @G5 @GT))
 exact oR
theorem G3 {β:Type} (a0:Int) (a1:List aF) (a3:List Int) (a4:Int) (p5:List Int) (k:Ex->St->Option β):bP TT yR (rF a0 a1 a3 a4 p5) k = (pE a0 a1 a3 a4 p5).bind (fun (r:((List Int)) ⊕ ((List Int)))=>Sum.elim (fun (z:(List Int))=>k (.exit 0) ⟨[(2,.own 900000 0)],[(900000,some (.rows 0 3 1 (cM cI z)))]⟩) (fun (z:(List Int))=>k .ret ⟨[(2,.own 900000 0)],[(900000,some (.rows 0 3 1 (cM cI z)))]⟩) r):=by
 have hh:=fun (w:(List Int))=>GP a0 a1 a3 a4 w
 have h:=fun ho=>aX (T:=TT) (k:=k) (c:=nC) (step:=(fun (w:(List Int))=>cC a0 a1 a3 a4 w)) _ _ ho hh p5
 refine Eq.trans (h (fun r s e=>by have q:=congrArg Prod.fst e; rcases r with x | x <;> cases q)) ?_
 unfold pE
 exact aL _ fun x=>by rcases x with x | x <;> rfl
theorem MO (a0:Int) (a1:List aF) (a2 a3:List Int) (a4:Int):Vm.call TT 63 [.int .i64 a0,.sl (cM aF.cells a1),.own (.ref 0) [(3,1)] [cM cI a2],.sl (cM cI a3),.int .i64 a4] = (mN a0 a1 a2 a3 a4).map fun (r:(List Int))=>.own (.tup []) [(3,1)] [cM cI r]:=by
 refine (Q6 (show TT 63 = some (.code ⟨5,190,[],aM7,false,true⟩) from rfl) _ rfl rfl rfl).trans ?_
 show bP TT aM7 ⟨[(2,.own 900000 0),(0,dI a0),(1,.d (.sl (cM aF.cells a1))),(2,.d (.own (.ref 0) [(3,1)] [cM cI a2])),(3,.d (.sl (cM cI a3))),(4,dI a4)],[(900000,some (.rows 0 3 1 (cM cI a2)))]⟩ _ = _
 unfold aM7 mN
 have u:=@G3
 exact oR
end Go.Proofs.Ytgjcnbgfaimepaa
