/- The functions of the small machine compute the plain definitions. Printed by a program. -/
import Derived.Test.YtgjcnbgfaimepaaLnk1
set_option linter.unusedVariables false
set_option linter.unusedSimpArgs false
namespace Go.Proofs.Ytgjcnbgfaimepaa
open Vm
open Go.RowKit
set_option maxRecDepth 100000
set_option maxHeartbeats 4000000
attribute [local congr] yZ BS zP BP
theorem G7 {β:Type} (a0:List aI) (a1:List Int) (p1:Int) (x3:aI) (p6:List aC) (k:Ex->St->Option β):bU TT rV ⟨[(1,.d (.sl (cM cI a1))),(5,.own 37 0),(6,dI p1),(7,.ptr 7 0),(8,.d (.sl (cM aI.cells a0))),(9,dI (a0.length:Int)),(10,dI p1)],[(7,some (.box (aO x3.cells))),(37,some (.rows 0 95 6 (cM aC.cells p6)))]⟩ k = (jR a0 a1 p1 x3 p6).bind (fun (r:(List aC))=>k .normal ⟨[(1,.d (.sl (cM cI a1))),(5,.own 37 0),(8,.d (.sl (cM aI.cells a0))),(9,dI (a0.length:Int)),(10,dI p1)],[(37,some (.rows 0 95 6 (cM aC.cells r)))]⟩):=by
 unfold rV jR
 exact IA
abbrev rN (a0:List aI) (a1:List Int) (p1:Int) (p2:List aC):St:=⟨[(1,.d (.sl (cM cI a1))),(5,.own 37 0),(8,.d (.sl (cM aI.cells a0))),(9,dI (a0.length:Int)),(10,dI p1)],[(37,some (.rows 0 95 6 (cM aC.cells p2)))]⟩
theorem G3 (a0:List aI) (a1:List Int) (p1:Int) (p2:List aC):bU TT nJ (rN a0 a1 p1 p2) (fun e s=>some (e,s)) = cJ (fun (w:Int × (List aC))=>rN a0 a1 w.1 w.2) (fun (r:(List aC))=>(((.exit 0),⟨[(5,.own 37 0)],[(37,some (.rows 0 95 6 (cM aC.cells r)))]⟩):Ex × St)) (c7 a0 a1 p1 p2):=by
 unfold nJ c7
 have u:=@G7
 exact n8
theorem GX {β:Type} (a0:List aI) (a1:List Int) (p1:Int) (p2:List aC) (k:Ex->St->Option β):bU TT y8 (rN a0 a1 p1 p2) k = (qM a0 a1 p1 p2).bind (fun (r:(List aC))=>k (.exit 0) ⟨[(5,.own 37 0)],[(37,some (.rows 0 95 6 (cM aC.cells r)))]⟩):=by
 have hh:=fun (w:Int × (List aC))=>G3 a0 a1 w.1 w.2
 have h:=fun ho=>bA (T:=TT) (k:=k) (c:=nJ) (step:=(fun (w:Int × (List aC))=>c7 a0 a1 w.1 w.2)) _ _ ho hh (p1,p2)
 refine Eq.trans (h (fun r s e=>by have q:=congrArg Prod.fst e; rcases r with x <;> cases q)) ?_
 unfold qM
 exact aP _ fun x=>by rcases x with x <;> rfl
theorem wR (a0:List aI) (a1:List Int):Vm.call TT 64 [.sl (cM aI.cells a0),.sl (cM cI a1)] = (fQ a0 a1).map fun (r:(List aC))=>.own (.ref 0) [(95,6)] [cM aC.cells r]:=by
 refine (LX (show TT 64 = some (.code ⟨2,58,[.tmp 4],aNn,true,false⟩) from rfl) _ rfl rfl).trans ?_
 show bU TT aNn ⟨[(0,.d (.sl (cM aI.cells a0))),(1,.d (.sl (cM cI a1)))],[]⟩ _ = _
 unfold aNn fQ
 have u:=@GX
 exact n8
theorem t8 (a0:List Int) (a1:Int):Vm.call TT 109 [.sl (cM cI a0),.int .i64 a1] = (fY a0 a1).map fun (r:(List Int))=>.own (.ref 0) [(3,1)] [cM cI r] :=
 (N1 (show TT 109 = some (.told aQN) from rfl) _ rfl).trans (aMz 3 a1 a0)
theorem DJ (a0:aD) (a1:aC):Vm.call TT 106 [.agg a0.cells,.agg a1.cells] = (fX a0 a1).map fun (r:aD)=>.agg r.cells:=by
 refine (bI (show TT 106 = some (.code ⟨2,16,[.cell 4 3 true],aDu,false,false⟩) from rfl) _ rfl rfl).trans ?_
 show bU TT aDu ⟨[(0,iX a0.cells),(1,iX a1.cells)],[]⟩ _ = _
 unfold aDu fX
 exact IA
theorem C9 (a0:aD) (a1:aC):KF TT 106 [.agg a0.cells,.agg a1.cells] (fX a0 a1) (fun (r:aD)=>iX r.cells):=kF (DJ a0 a1) (fun _=>rfl) (fun _=>rfl)
theorem E1 (a0 a1:aD):Vm.call TT 84 [.agg a0.cells,.agg a1.cells] = (eE a0 a1).map fun (r:Bool)=>.bool r:=by
 refine (bI (show TT 84 = some (.code ⟨2,33,[.tmp 4],aNP,false,false⟩) from rfl) _ rfl rfl).trans ?_
 show bU TT aNP ⟨[(0,iX a0.cells),(1,iX a1.cells)],[]⟩ _ = _
 unfold aNP eE
 exact IA
theorem xB (a0 a1:aD):KF TT 84 [.agg a0.cells,.agg a1.cells] (eE a0 a1) (fun (r:Bool)=>dB r):=kF (E1 a0 a1) (fun _=>rfl) (fun _=>rfl)
theorem vH {β:Type} (r6:(List aD)) (bl fz:List (Nat × Option aJ)) (k:V->Option β) (kw:V->List (Nat × Option aJ)->Option β):tT TT 10015 bl 109 [.sl (cM cI [(-1)]),.int .i64 (r6.length:Int)] fz k kw = (fY [(-1)] (r6.length:Int)).bind fun (r:(List Int))=>bC bl 110015 fun b=>fU b (kw (.own 110015 0) ((110015,some (.rows 0 3 1 (cM cI r))) :: fz)):=IZ (t8 [(-1)] (r6.length:Int)) fz
abbrev oP (a0:Int) (a1:List aC) (a2:List Int) (p1:Int) (p2:List aD):St:=⟨[(1,.d (.sl (cM aC.cells a1))),(2,.d (.sl (cM cI a2))),(8,.ptr 8 0),(13,dI a0),(14,dI p1)],[(8,some (.box [.own 11 0,.nil,.d (.fn 106 []),.d (.fn 84 [])])),(11,some (.rows 0 114 3 (cM aD.cells p2)))]⟩
theorem EF (a0:Int) (a1:List aC) (a2:List Int) (p1:Int) (p2:List aD):bU TT kS (oP a0 a1 a2 p1 p2) (fun e s=>some (e,s)) = cJ (fun (w:Int × (List aD))=>oP a0 a1 a2 w.1 w.2) (fun (r:(List aD))=>(((.exit 0),⟨[(1,.d (.sl (cM aC.cells a1))),(8,.ptr 8 0)],[(8,some (.box [.own 11 0,.nil,.d (.fn 106 []),.d (.fn 84 [])])),(11,some (.rows 0 114 3 (cM aD.cells r)))]⟩):Ex × St)) (b8 a0 a1 a2 p1 p2):=by
 unfold kS b8
 exact IA
theorem EI {β:Type} (a0:Int) (a1:List aC) (a2:List Int) (p1:Int) (p2:List aD) (k:Ex->St->Option β):bU TT vE (oP a0 a1 a2 p1 p2) k = (jN a0 a1 a2 p1 p2).bind (fun (r:(List aD))=>k (.exit 0) ⟨[(1,.d (.sl (cM aC.cells a1))),(8,.ptr 8 0)],[(8,some (.box [.own 11 0,.nil,.d (.fn 106 []),.d (.fn 84 [])])),(11,some (.rows 0 114 3 (cM aD.cells r)))]⟩):=by
 have hh:=fun (w:Int × (List aD))=>EF a0 a1 a2 w.1 w.2
 have h:=fun ho=>bA (T:=TT) (k:=k) (c:=kS) (step:=(fun (w:Int × (List aD))=>b8 a0 a1 a2 w.1 w.2)) _ _ ho hh (p1,p2)
 refine Eq.trans (h (fun r s e=>by have q:=congrArg Prod.fst e; rcases r with x <;> cases q)) ?_
 unfold jN
 exact aP _ fun x=>by rcases x with x <;> rfl
abbrev oQ (a1:List aC) (p11:Bool) (p12:Int) (p13:List aD) (p14:List Int):St:=⟨[(0,.ptr 8 0),(1,.d (.sl (cM aC.cells a1))),(4,dB p11),(19,.d (.sl (cM aC.cells a1))),(20,dI (a1.length:Int)),(21,dI p12)],[(8,some (.box [.own 11 0,.own 110015 0,.d (.fn 106 []),.d (.fn 84 [])])),(11,some (.rows 0 114 3 (cM aD.cells p13))),(8001,some (.outer [.ptr 8 0])),(110015,some (.rows 0 3 1 (cM cI p14)))]⟩
theorem DW (a1:List aC) (p11:Bool) (p12:Int) (p13:List aD) (p14:List Int):bU TT kM (oQ a1 p11 p12 p13 p14) (fun e s=>some (e,s)) = cJ (fun (w:Bool × Int × (List aD) × (List Int))=>oQ a1 w.1 w.2.1 w.2.2.1 w.2.2.2) (fun (r:Bool × (List aD) × (List Int))=>(((.exit 2),⟨[(0,.ptr 8 0),(1,.d (.sl (cM aC.cells a1))),(4,dB r.1)],[(8,some (.box [.own 11 0,.own 110015 0,.d (.fn 106 []),.d (.fn 84 [])])),(11,some (.rows 0 114 3 (cM aD.cells r.2.1))),(8001,some (.outer [.ptr 8 0])),(110015,some (.rows 0 3 1 (cM cI r.2.2)))]⟩):Ex × St)) (dG a1 p11 p12 p13 p14):=by
 unfold kM dG
 have u:=aN @xB (aN @C9 @vH)
 exact n8
theorem D0 {β:Type} (a1:List aC) (p11:Bool) (p12:Int) (p13:List aD) (p14:List Int) (k:Ex->St->Option β):bU TT vS (oQ a1 p11 p12 p13 p14) k = (jL a1 p11 p12 p13 p14).bind (fun (r:Bool × (List aD) × (List Int))=>k (.exit 2) ⟨[(0,.ptr 8 0),(1,.d (.sl (cM aC.cells a1))),(4,dB r.1)],[(8,some (.box [.own 11 0,.own 110015 0,.d (.fn 106 []),.d (.fn 84 [])])),(11,some (.rows 0 114 3 (cM aD.cells r.2.1))),(8001,some (.outer [.ptr 8 0])),(110015,some (.rows 0 3 1 (cM cI r.2.2)))]⟩):=by
 have hh:=fun (w:Bool × Int × (List aD) × (List Int))=>DW a1 w.1 w.2.1 w.2.2.1 w.2.2.2
 have h:=fun ho=>bA (T:=TT) (k:=k) (c:=kM) (step:=(fun (w:Bool × Int × (List aD) × (List Int))=>dG a1 w.1 w.2.1 w.2.2.1 w.2.2.2)) _ _ ho hh (p11,p12,p13,p14)
 refine Eq.trans (h (fun r s e=>by have q:=congrArg Prod.fst e; rcases r with x <;> cases q)) ?_
 unfold jL
 exact aP _ fun x=>by rcases x with x <;> rfl
abbrev oS (a1:List aC) (p8:Bool) (p9:List aD) (p10:List Int):St:=⟨[(0,.ptr 8 0),(1,.d (.sl (cM aC.cells a1))),(4,dB p8)],[(8,some (.box [.own 11 0,.own 110015 0,.d (.fn 106 []),.d (.fn 84 [])])),(11,some (.rows 0 114 3 (cM aD.cells p9))),(8001,some (.outer [.ptr 8 0])),(110015,some (.rows 0 3 1 (cM cI p10)))]⟩
theorem D9 (a1:List aC) (p8:Bool) (p9:List aD) (p10:List Int):bU TT kR (oS a1 p8 p9 p10) (fun e s=>some (e,s)) = cJ (fun (w:Bool × (List aD) × (List Int))=>oS a1 w.1 w.2.1 w.2.2) (fun (r:(List aD) × (List Int))=>(((.exit 0),⟨[],[(8,some (.box [.own 11 0,.own 110015 0,.d (.fn 106 []),.d (.fn 84 [])])),(11,some (.rows 0 114 3 (cM aD.cells r.1))),(8001,some (.outer [.ptr 8 0])),(110015,some (.rows 0 3 1 (cM cI r.2)))]⟩):Ex × St)) (fA a1 p8 p9 p10):=by
 unfold kR fA
 have u:=@D0
 exact n8
theorem DV {β:Type} (a1:List aC) (p8:Bool) (p9:List aD) (p10:List Int) (k:Ex->St->Option β):bU TT vN (oS a1 p8 p9 p10) k = (jP a1 p8 p9 p10).bind (fun (r:(List aD) × (List Int))=>k (.exit 0) ⟨[],[(8,some (.box [.own 11 0,.own 110015 0,.d (.fn 106 []),.d (.fn 84 [])])),(11,some (.rows 0 114 3 (cM aD.cells r.1))),(8001,some (.outer [.ptr 8 0])),(110015,some (.rows 0 3 1 (cM cI r.2)))]⟩):=by
 have hh:=fun (w:Bool × (List aD) × (List Int))=>D9 a1 w.1 w.2.1 w.2.2
 have h:=fun ho=>bA (T:=TT) (k:=k) (c:=kR) (step:=(fun (w:Bool × (List aD) × (List Int))=>fA a1 w.1 w.2.1 w.2.2)) _ _ ho hh (p8,p9,p10)
 refine Eq.trans (h (fun r s e=>by have q:=congrArg Prod.fst e; rcases r with x <;> cases q)) ?_
 unfold jP
 exact aP _ fun x=>by rcases x with x <;> rfl
theorem zS (a0:Int) (a1:List aC) (a2:List Int):Vm.call TT 83 [.int .i64 a0,.sl (cM aC.cells a1),.sl (cM cI a2)] = (fM a0 a1 a2).map fun (r:(List aD) × (List Int))=>.own (.tup [.ref 0,.ref 1]) [(114,3),(3,1)] [cM aD.cells r.1,cM cI r.2]:=by
 refine (LX (show TT 83 = some (.code ⟨3,34,[.tmp 6,.tmp 7],aN1,true,false⟩) from rfl) _ rfl rfl).trans ?_
 show bU TT aN1 ⟨[(0,dI a0),(1,.d (.sl (cM aC.cells a1))),(2,.d (.sl (cM cI a2)))],[]⟩ _ = _
 unfold aN1 fM
 have u:=aN @EI (aN @DV @vH)
 exact n8
theorem CC {β:Type} (a0:aC) (a1:List Int) (p1:Int) (k:Ex->St->Option β):bU TT mL ⟨[(1,.own 900000 0),(2,dI p1),(3,.ptr 3 0)],[(3,some (.box (aO a0.cells))),(900000,some (.rows 0 3 1 (cM cI a1)))]⟩ k = (fC a0 a1 p1).bind (fun (r:(List Int))=>k .normal ⟨[(1,.own 900000 0)],[(900000,some (.rows 0 3 1 (cM cI r)))]⟩):=by
 unfold mL fC
 exact IA
theorem wC (a0:aC) (a1:List Int) (a2:Int):Vm.call TT 85 [.agg a0.cells,.own (.ref 0) [(3,1)] [cM cI a1],.int .i64 a2] = (eJ a0 a1 a2).map fun (r:(List Int))=>.own (.tup []) [(3,1)] [cM cI r]:=by
 refine (SG (show TT 85 = some (.code ⟨3,18,[],aPb,false,true⟩) from rfl) _ rfl rfl rfl).trans ?_
 show bU TT aPb ⟨[(1,.own 900000 0),(0,iX a0.cells),(1,.d (.own (.ref 0) [(3,1)] [cM cI a1])),(2,dI a2)],[(900000,some (.rows 0 3 1 (cM cI a1)))]⟩ _ = _
 unfold aPb eJ
 have u:=@CC
 exact n8
theorem FD {β:Type} (a1:List aI) (p13:List Int) (bl:List (Nat × Option aJ)) (k:V->Option β) (kw:V->List (Nat × Option aJ)->Option β):wM TT 51 bl 64 [.sl (cM aI.cells a1),.sl (cM cI p13)] k kw = (fQ a1 p13).bind fun (r:(List aC))=>bC bl 100051 fun b=>fU b (kw (.own 100051 0) ((100051,some (.rows 0 95 6 (cM aC.cells r))) :: [])):=qW (wR a1 p13) (fun _=>(nS rfl (uL (oB _ (fun _=>rfl) _) rfl)))
theorem FT {β:Type} (a0:Int) (p12:List Int) (r14:(List aC)) (bl:List (Nat × Option aJ)) (k:V->Option β) (kw:V->List (Nat × Option aJ)->Option β):wM TT 56 bl 83 [.int .i64 a0,.sl (cM aC.cells r14),.sl (cM cI p12)] k kw = (fM a0 r14 p12).bind fun (r:(List aD) × (List Int))=>bC bl 100056 fun b=>fU b (bC bl 200056 fun b=>fU b (kw (.tup [.own 100056 0,.own 200056 0]) ((100056,some (.rows 0 114 3 (cM aD.cells r.1))) :: (200056,some (.rows 0 3 1 (cM cI r.2))) :: []))):=qW (zS a0 r14 p12) (fun _=>(nS rfl (uL (oB _ (fun _=>rfl) _) (uL (oB _ (fun _=>rfl) _) rfl))))
theorem EQ {β:Type} (p41:List Int) (r38:Int × Int) (x39:Int) (x44:aC) (bl:List (Nat × Option aJ)) (kw:V->List (Nat × Option aJ)->Option β):PB TT bl 85 900000 0 [.agg x44.cells,.own (.ref 0) [(3,1)] [cM cI p41],.int .i64 (if x39 < r38.1 then x39 else r38.1)] kw = (eJ x44 p41 (if x39 < r38.1 then x39 else r38.1)).bind fun (r:(List Int))=>bC bl 900000 fun b=>K3 0 3 1 (cM cI r) b fun b2=>kw (.tup []) [(900000,b2)]:=I6 (wC x44 p41 (if x39 < r38.1 then x39 else r38.1)) (fun _=>rfl) (fun _=>oB _ (fun _=>rfl) _) 900000 0
abbrev pG (a0:Int) (a1:List aI) (a2:List Int) (p1:Int) (p2:List Int):St:=⟨[(0,dI a0),(1,.d (.sl (cM aI.cells a1))),(2,.own 900000 0),(6,.own 18 0),(19,.d (.sl (cM aI.cells a1))),(20,dI (a1.length:Int)),(21,dI p1)],[(18,some (.rows 0 3 1 (cM cI p2))),(900000,some (.rows 0 3 1 (cM cI a2)))]⟩
theorem FY (a0:Int) (a1:List aI) (a2:List Int) (p1:Int) (p2:List Int):bU TT lC (pG a0 a1 a2 p1 p2) (fun e s=>some (e,s)) = cJ (fun (w:Int × (List Int))=>pG a0 a1 a2 w.1 w.2) (fun (r:(List Int))=>(((.exit 0),⟨[(0,dI a0),(1,.d (.sl (cM aI.cells a1))),(2,.own 900000 0),(6,.own 18 0)],[(18,some (.rows 0 3 1 (cM cI r))),(900000,some (.rows 0 3 1 (cM cI a2)))]⟩):Ex × St)) (cG a0 a1 a2 p1 p2):=by
 unfold lC cG
 exact IA
theorem F0 {β:Type} (a0:Int) (a1:List aI) (a2:List Int) (p1:Int) (p2:List Int) (k:Ex->St->Option β):bU TT wJ (pG a0 a1 a2 p1 p2) k = (j6 a0 a1 a2 p1 p2).bind (fun (r:(List Int))=>k (.exit 0) ⟨[(0,dI a0),(1,.d (.sl (cM aI.cells a1))),(2,.own 900000 0),(6,.own 18 0)],[(18,some (.rows 0 3 1 (cM cI r))),(900000,some (.rows 0 3 1 (cM cI a2)))]⟩):=by
 have hh:=fun (w:Int × (List Int))=>FY a0 a1 a2 w.1 w.2
 have h:=fun ho=>bA (T:=TT) (k:=k) (c:=lC) (step:=(fun (w:Int × (List Int))=>cG a0 a1 a2 w.1 w.2)) _ _ ho hh (p1,p2)
 refine Eq.trans (h (fun r s e=>by have q:=congrArg Prod.fst e; rcases r with x <;> cases q)) ?_
 unfold j6
 exact aP _ fun x=>by rcases x with x <;> rfl
abbrev qC (a0:Int) (a1:List aI) (p12 p13:List Int) (r14:(List aC)) (r15:(List aD) × (List Int)) (p16 p17:Int):St:=⟨[(0,dI a0),(1,.d (.sl (cM aI.cells a1))),(2,.own 900000 0),(6,.own 18 0),(9,.own 100051 0),(10,.own 100056 0),(11,.own 200056 0),(12,dI p16),(59,dI a0),(60,dI p17)],[(18,some (.rows 0 3 1 (cM cI p12))),(100051,some (.rows 0 95 6 (cM aC.cells r14))),(100056,some (.rows 0 114 3 (cM aD.cells r15.1))),(200056,some (.rows 0 3 1 (cM cI r15.2))),(900000,some (.rows 0 3 1 (cM cI p13)))]⟩
theorem E7 (a0:Int) (a1:List aI) (p12 p13:List Int) (r14:(List aC)) (r15:(List aD) × (List Int)) (p16 p17:Int):bU TT lA (qC a0 a1 p12 p13 r14 r15 p16 p17) (fun e s=>some (e,s)) = cJ (fun (w:Int × Int)=>qC a0 a1 p12 p13 r14 r15 w.1 w.2) (fun (r:Int)=>(((.exit 4),⟨[(0,dI a0),(1,.d (.sl (cM aI.cells a1))),(2,.own 900000 0),(6,.own 18 0),(9,.own 100051 0),(11,.own 200056 0),(12,dI r)],[(18,some (.rows 0 3 1 (cM cI p12))),(100051,some (.rows 0 95 6 (cM aC.cells r14))),(200056,some (.rows 0 3 1 (cM cI r15.2))),(900000,some (.rows 0 3 1 (cM cI p13)))]⟩):Ex × St)) (aZ a0 a1 p12 p13 r14 r15 p16 p17):=by
 unfold lA aZ
 have u:=@xB
 exact n8
theorem FS {β:Type} (a0:Int) (a1:List aI) (p12 p13:List Int) (r14:(List aC)) (r15:(List aD) × (List Int)) (p16 p17:Int) (k:Ex->St->Option β):bU TT wP (qC a0 a1 p12 p13 r14 r15 p16 p17) k = (kA a0 a1 p12 p13 r14 r15 p16 p17).bind (fun (r:Int)=>k (.exit 4) ⟨[(0,dI a0),(1,.d (.sl (cM aI.cells a1))),(2,.own 900000 0),(6,.own 18 0),(9,.own 100051 0),(11,.own 200056 0),(12,dI r)],[(18,some (.rows 0 3 1 (cM cI p12))),(100051,some (.rows 0 95 6 (cM aC.cells r14))),(200056,some (.rows 0 3 1 (cM cI r15.2))),(900000,some (.rows 0 3 1 (cM cI p13)))]⟩):=by
 have hh:=fun (w:Int × Int)=>E7 a0 a1 p12 p13 r14 r15 w.1 w.2
 have h:=fun ho=>bA (T:=TT) (k:=k) (c:=lA) (step:=(fun (w:Int × Int)=>aZ a0 a1 p12 p13 r14 r15 w.1 w.2)) _ _ ho hh (p16,p17)
 refine Eq.trans (h (fun r s e=>by have q:=congrArg Prod.fst e; rcases r with x <;> cases q)) ?_
 unfold kA
 exact aP _ fun x=>by rcases x with x <;> rfl
abbrev pN (a0:Int) (a1:List aI) (p12 p13:List Int) (r14:(List aC)) (r15:(List aD) × (List Int)) (r27 p29 p30:Int):St:=⟨[(0,dI a0),(1,.d (.sl (cM aI.cells a1))),(2,.own 900000 0),(6,.own 18 0),(9,.own 100051 0),(11,.own 200056 0),(12,dI r27),(14,dI p29),(15,dI p30)],[(18,some (.rows 0 3 1 (cM cI p12))),(100051,some (.rows 0 95 6 (cM aC.cells r14))),(200056,some (.rows 0 3 1 (cM cI r15.2))),(900000,some (.rows 0 3 1 (cM cI p13)))]⟩
theorem FZ (a0:Int) (a1:List aI) (p12 p13:List Int) (r14:(List aC)) (r15:(List aD) × (List Int)) (r27 p29 p30:Int):bU TT lD (pN a0 a1 p12 p13 r14 r15 r27 p29 p30) (fun e s=>some (e,s)) = cJ (fun (w:Int × Int)=>pN a0 a1 p12 p13 r14 r15 r27 w.1 w.2) (fun (r:Int × Int)=>(((.exit 6),⟨[(0,dI a0),(1,.d (.sl (cM aI.cells a1))),(2,.own 900000 0),(6,.own 18 0),(9,.own 100051 0),(11,.own 200056 0),(12,dI r27),(14,dI r.1),(15,dI r.2)],[(18,some (.rows 0 3 1 (cM cI p12))),(100051,some (.rows 0 95 6 (cM aC.cells r14))),(200056,some (.rows 0 3 1 (cM cI r15.2))),(900000,some (.rows 0 3 1 (cM cI p13)))]⟩):Ex × St)) (dM a0 a1 p12 p13 r14 r15 r27 p29 p30):=by
 unfold lD dM
 exact IA
theorem EN {β:Type} (a0:Int) (a1:List aI) (p12 p13:List Int) (r14:(List aC)) (r15:(List aD) × (List Int)) (r27 p29 p30:Int) (k:Ex->St->Option β):bU TT xC (pN a0 a1 p12 p13 r14 r15 r27 p29 p30) k = (fP a0 a1 p12 p13 r14 r15 r27 p29 p30).bind (fun (r:Int × Int)=>k (.exit 6) ⟨[(0,dI a0),(1,.d (.sl (cM aI.cells a1))),(2,.own 900000 0),(6,.own 18 0),(9,.own 100051 0),(11,.own 200056 0),(12,dI r27),(14,dI r.1),(15,dI r.2)],[(18,some (.rows 0 3 1 (cM cI p12))),(100051,some (.rows 0 95 6 (cM aC.cells r14))),(200056,some (.rows 0 3 1 (cM cI r15.2))),(900000,some (.rows 0 3 1 (cM cI p13)))]⟩):=by
 have hh:=fun (w:Int × Int)=>FZ a0 a1 p12 p13 r14 r15 r27 w.1 w.2
 have h:=fun ho=>bA (T:=TT) (k:=k) (c:=lD) (step:=(fun (w:Int × Int)=>dM a0 a1 p12 p13 r14 r15 r27 w.1 w.2)) _ _ ho hh (p29,p30)
 refine Eq.trans (h (fun r s e=>by have q:=congrArg Prod.fst e; rcases r with x <;> cases q)) ?_
 unfold fP
 exact aP _ fun x=>by rcases x with x <;> rfl
abbrev qI (a0:Int) (a1:List aI) (p12:List Int) (r14:(List aC)) (r15:(List aD) × (List Int)) (r27:Int) (r38:Int × Int) (x39 p40:Int) (p41:List Int):St:=⟨[(0,dI a0),(1,.d (.sl (cM aI.cells a1))),(2,.own 900000 0),(6,.own 18 0),(9,.own 100051 0),(11,.own 200056 0),(12,dI r27),(14,dI (if x39 < r38.1 then x39 else r38.1)),(15,dI r38.2),(16,dI p40)],[(18,some (.rows 0 3 1 (cM cI p12))),(100051,some (.rows 0 95 6 (cM aC.cells r14))),(200056,some (.rows 0 3 1 (cM cI r15.2))),(900000,some (.rows 0 3 1 (cM cI p41)))]⟩
theorem ER (a0:Int) (a1:List aI) (p12:List Int) (r14:(List aC)) (r15:(List aD) × (List Int)) (r27:Int) (r38:Int × Int) (x39 p40:Int) (p41:List Int):bU TT lF (qI a0 a1 p12 r14 r15 r27 r38 x39 p40 p41) (fun e s=>some (e,s)) = cJ (fun (w:Int × (List Int))=>qI a0 a1 p12 r14 r15 r27 r38 x39 w.1 w.2) (fun (r:(List Int))=>(((.exit 8),⟨[(0,dI a0),(1,.d (.sl (cM aI.cells a1))),(2,.own 900000 0),(6,.own 18 0),(12,dI r27),(14,dI (if x39 < r38.1 then x39 else r38.1)),(15,dI r38.2)],[(18,some (.rows 0 3 1 (cM cI p12))),(900000,some (.rows 0 3 1 (cM cI r)))]⟩):Ex × St)) (dN a0 a1 p12 r14 r15 r27 r38 x39 p40 p41):=by
 unfold lF dN
 have u:=@EQ
 exact n8
theorem FI {β:Type} (a0:Int) (a1:List aI) (p12:List Int) (r14:(List aC)) (r15:(List aD) × (List Int)) (r27:Int) (r38:Int × Int) (x39 p40:Int) (p41:List Int) (k:Ex->St->Option β):bU TT wZ (qI a0 a1 p12 r14 r15 r27 r38 x39 p40 p41) k = (fK a0 a1 p12 r14 r15 r27 r38 x39 p40 p41).bind (fun (r:(List Int))=>k (.exit 8) ⟨[(0,dI a0),(1,.d (.sl (cM aI.cells a1))),(2,.own 900000 0),(6,.own 18 0),(12,dI r27),(14,dI (if x39 < r38.1 then x39 else r38.1)),(15,dI r38.2)],[(18,some (.rows 0 3 1 (cM cI p12))),(900000,some (.rows 0 3 1 (cM cI r)))]⟩):=by
 have hh:=fun (w:Int × (List Int))=>ER a0 a1 p12 r14 r15 r27 r38 x39 w.1 w.2
 have h:=fun ho=>bA (T:=TT) (k:=k) (c:=lF) (step:=(fun (w:Int × (List Int))=>dN a0 a1 p12 r14 r15 r27 r38 x39 w.1 w.2)) _ _ ho hh (p40,p41)
 refine Eq.trans (h (fun r s e=>by have q:=congrArg Prod.fst e; rcases r with x <;> cases q)) ?_
 unfold fK
 exact aP _ fun x=>by rcases x with x <;> rfl
abbrev pY (a0:Int) (a1:List aI) (p12 p13:List Int):St:=⟨[(0,dI a0),(1,.d (.sl (cM aI.cells a1))),(2,.own 900000 0),(6,.own 18 0)],[(18,some (.rows 0 3 1 (cM cI p12))),(900000,some (.rows 0 3 1 (cM cI p13)))]⟩
theorem E6 (a0:Int) (a1:List aI) (p12 p13:List Int):bU TT lK (pY a0 a1 p12 p13) (fun e s=>some (e,s)) = cJ (fun (w:(List Int) × (List Int))=>pY a0 a1 w.1 w.2) (fun (r:(List Int))=>((.ret,⟨[(2,.own 900000 0)],[(900000,some (.rows 0 3 1 (cM cI r)))]⟩):Ex × St)) (cX a0 a1 p12 p13):=by
 unfold lK cX
 have u:=aN (aN @FS @EN) (aN @FI (aN @FD @FT))
 exact n8
theorem FW {β:Type} (a0:Int) (a1:List aI) (p12 p13:List Int) (k:Ex->St->Option β):bU TT wL (pY a0 a1 p12 p13) k = (m6 a0 a1 p12 p13).bind (fun (r:(List Int))=>k .ret ⟨[(2,.own 900000 0)],[(900000,some (.rows 0 3 1 (cM cI r)))]⟩):=by
 have hh:=fun (w:(List Int) × (List Int))=>E6 a0 a1 w.1 w.2
 have h:=fun ho=>bA (T:=TT) (k:=k) (c:=lK) (step:=(fun (w:(List Int) × (List Int))=>cX a0 a1 w.1 w.2)) _ _ ho hh (p12,p13)
 refine Eq.trans (h (fun r s e=>by have q:=congrArg Prod.fst e; rcases r with x <;> cases q)) ?_
 unfold m6
 exact aP _ fun x=>by rcases x with x <;> rfl
theorem JR (a0:Int) (a1:List aI) (a2:List Int):Vm.call TT 61 [.int .i64 a0,.sl (cM aI.cells a1),.own (.ref 0) [(3,1)] [cM cI a2]] = (kL a0 a1 a2).map fun (r:(List Int))=>.own (.tup []) [(3,1)] [cM cI r]:=by
 refine (SG (show TT 61 = some (.code ⟨3,171,[],aL9,false,true⟩) from rfl) _ rfl rfl rfl).trans ?_
 show bU TT aL9 ⟨[(2,.own 900000 0),(0,dI a0),(1,.d (.sl (cM aI.cells a1))),(2,.d (.own (.ref 0) [(3,1)] [cM cI a2]))],[(900000,some (.rows 0 3 1 (cM cI a2)))]⟩ _ = _
 unfold aL9 kL
 have u:=aN @F0 @FW
 exact n8
theorem C7 (a0:Int) (a1:aC):Vm.call TT 86 [.int .i64 a0,.agg a1.cells] = (fW a0 a1).map fun (r:Int)=>.int .i64 r:=by
 refine (bI (show TT 86 = some (.code ⟨2,9,[.tmp 4],aNt,false,false⟩) from rfl) _ rfl rfl).trans ?_
 show bU TT aNt ⟨[(0,dI a0),(1,iX a1.cells)],[]⟩ _ = _
 unfold aNt fW
 exact IA
theorem C3 (a0:Int) (a1:aC):KF TT 86 [.int .i64 a0,.agg a1.cells] (fW a0 a1) (fun (r:Int)=>dI r):=kF (C7 a0 a1) (fun _=>rfl) (fun _=>rfl)
theorem ND (a0:Int):Vm.call TT 108 [.int .i64 a0] = (oZ a0).map fun (r:Bool)=>.bool r:=by
 refine (bI (show TT 108 = some (.code ⟨1,6,[.tmp 2],aD1,false,false⟩) from rfl) _ rfl rfl).trans ?_
 show bU TT aD1 ⟨[(0,dI a0)],[]⟩ _ = _
 unfold aD1 oZ
 exact IA
theorem N0 (a0:Int):KF TT 108 [.int .i64 a0] (oZ a0) (fun (r:Bool)=>dB r):=kF (ND a0) (fun _=>rfl) (fun _=>rfl)
theorem PN (a0 a1:Int):Vm.call TT 87 [.int .i64 a0,.int .i64 a1] = (qX a0 a1).map fun (r:Bool)=>.bool r:=by
 refine (bI (show TT 87 = some (.code ⟨2,17,[.tmp 4],aPM,false,false⟩) from rfl) _ rfl rfl).trans ?_
 show bU TT aPM ⟨[(0,dI a0),(1,dI a1)],[]⟩ _ = _
 unfold aPM qX
 have u:=@N0
 exact n8
theorem PF (a0 a1:Int):KF TT 87 [.int .i64 a0,.int .i64 a1] (qX a0 a1) (fun (r:Bool)=>dB r):=kF (PN a0 a1) (fun _=>rfl) (fun _=>rfl)
theorem sP {β:Type} (a1:List aI) (a2:List Int) (bl:List (Nat × Option aJ)) (k:V->Option β) (kw:V->List (Nat × Option aJ)->Option β):wM TT 13 bl 64 [.sl (cM aI.cells a1),.sl (cM cI a2)] k kw = (fQ a1 a2).bind fun (r:(List aC))=>bC bl 100013 fun b=>fU b (kw (.own 100013 0) ((100013,some (.rows 0 95 6 (cM aC.cells r))) :: [])):=qW (wR a1 a2) (fun _=>(nS rfl (uL (oB _ (fun _=>rfl) _) rfl)))
theorem sL {β:Type} (a0:Int) (bl fz:List (Nat × Option aJ)) (k:V->Option β) (kw:V->List (Nat × Option aJ)->Option β):tT TT 10015 bl 109 [.sl (cM cI [(-1)]),.int .i64 ((List.replicate a0.toNat (0:Int)).length:Int)] fz k kw = (fY [(-1)] ((List.replicate a0.toNat (0:Int)).length:Int)).bind fun (r:(List Int))=>bC bl 110015 fun b=>fU b (kw (.own 110015 0) ((110015,some (.rows 0 3 1 (cM cI r))) :: fz)):=IZ (t8 [(-1)] ((List.replicate a0.toNat (0:Int)).length:Int)) fz
abbrev mM (r1:(List aC)) (p6:Bool) (p7:Int) (p8 p9:List Int):St:=⟨[(0,.ptr 7 0),(1,.own 100013 0),(4,dB p6),(19,.own 100013 0),(20,dI (r1.length:Int)),(21,dI p7)],[(7,some (.box [.own 9 0,.own 110015 0,.d (.fn 86 []),.d (.fn 87 [])])),(9,some (.rows 0 3 1 (cM cI p8))),(8001,some (.outer [.ptr 7 0])),(100013,some (.rows 0 95 6 (cM aC.cells r1))),(110015,some (.rows 0 3 1 (cM cI p9)))]⟩
theorem CG (r1:(List aC)) (p6:Bool) (p7:Int) (p8 p9:List Int):bU TT jD (mM r1 p6 p7 p8 p9) (fun e s=>some (e,s)) = cJ (fun (w:Bool × Int × (List Int) × (List Int))=>mM r1 w.1 w.2.1 w.2.2.1 w.2.2.2) (fun (r:Bool × (List Int) × (List Int))=>(((.exit 2),⟨[(0,.ptr 7 0),(1,.own 100013 0),(4,dB r.1)],[(7,some (.box [.own 9 0,.own 110015 0,.d (.fn 86 []),.d (.fn 87 [])])),(9,some (.rows 0 3 1 (cM cI r.2.1))),(8001,some (.outer [.ptr 7 0])),(100013,some (.rows 0 95 6 (cM aC.cells r1))),(110015,some (.rows 0 3 1 (cM cI r.2.2)))]⟩):Ex × St)) (cQ r1 p6 p7 p8 p9):=by
 unfold jD cQ
 have u:=aN (aN @C3 @PF) (aN @sP @sL)
 exact n8
theorem B8 {β:Type} (r1:(List aC)) (p6:Bool) (p7:Int) (p8 p9:List Int) (k:Ex->St->Option β):bU TT sQ (mM r1 p6 p7 p8 p9) k = (hY r1 p6 p7 p8 p9).bind (fun (r:Bool × (List Int) × (List Int))=>k (.exit 2) ⟨[(0,.ptr 7 0),(1,.own 100013 0),(4,dB r.1)],[(7,some (.box [.own 9 0,.own 110015 0,.d (.fn 86 []),.d (.fn 87 [])])),(9,some (.rows 0 3 1 (cM cI r.2.1))),(8001,some (.outer [.ptr 7 0])),(100013,some (.rows 0 95 6 (cM aC.cells r1))),(110015,some (.rows 0 3 1 (cM cI r.2.2)))]⟩):=by
 have hh:=fun (w:Bool × Int × (List Int) × (List Int))=>CG r1 w.1 w.2.1 w.2.2.1 w.2.2.2
 have h:=fun ho=>bA (T:=TT) (k:=k) (c:=jD) (step:=(fun (w:Bool × Int × (List Int) × (List Int))=>cQ r1 w.1 w.2.1 w.2.2.1 w.2.2.2)) _ _ ho hh (p6,p7,p8,p9)
 refine Eq.trans (h (fun r s e=>by have q:=congrArg Prod.fst e; rcases r with x <;> cases q)) ?_
 unfold hY
 exact aP _ fun x=>by rcases x with x <;> rfl
abbrev mK (r1:(List aC)) (p3:Bool) (p4 p5:List Int):St:=⟨[(0,.ptr 7 0),(1,.own 100013 0),(4,dB p3)],[(7,some (.box [.own 9 0,.own 110015 0,.d (.fn 86 []),.d (.fn 87 [])])),(9,some (.rows 0 3 1 (cM cI p4))),(8001,some (.outer [.ptr 7 0])),(100013,some (.rows 0 95 6 (cM aC.cells r1))),(110015,some (.rows 0 3 1 (cM cI p5)))]⟩
theorem B9 (r1:(List aC)) (p3:Bool) (p4 p5:List Int):bU TT jE (mK r1 p3 p4 p5) (fun e s=>some (e,s)) = cJ (fun (w:Bool × (List Int) × (List Int))=>mK r1 w.1 w.2.1 w.2.2) (fun (r:(List Int) × (List Int))=>(((.exit 0),⟨[],[(7,some (.box [.own 9 0,.own 110015 0,.d (.fn 86 []),.d (.fn 87 [])])),(9,some (.rows 0 3 1 (cM cI r.1))),(8001,some (.outer [.ptr 7 0])),(110015,some (.rows 0 3 1 (cM cI r.2)))]⟩):Ex × St)) (eK r1 p3 p4 p5):=by
 unfold jE eK
 have u:=@B8
 exact n8
theorem CD {β:Type} (r1:(List aC)) (p3:Bool) (p4 p5:List Int) (k:Ex->St->Option β):bU TT sS (mK r1 p3 p4 p5) k = (hJ r1 p3 p4 p5).bind (fun (r:(List Int) × (List Int))=>k (.exit 0) ⟨[],[(7,some (.box [.own 9 0,.own 110015 0,.d (.fn 86 []),.d (.fn 87 [])])),(9,some (.rows 0 3 1 (cM cI r.1))),(8001,some (.outer [.ptr 7 0])),(110015,some (.rows 0 3 1 (cM cI r.2)))]⟩):=by
 have hh:=fun (w:Bool × (List Int) × (List Int))=>B9 r1 w.1 w.2.1 w.2.2
 have h:=fun ho=>bA (T:=TT) (k:=k) (c:=jE) (step:=(fun (w:Bool × (List Int) × (List Int))=>eK r1 w.1 w.2.1 w.2.2)) _ _ ho hh (p3,p4,p5)
 refine Eq.trans (h (fun r s e=>by have q:=congrArg Prod.fst e; rcases r with x <;> cases q)) ?_
 unfold hJ
 exact aP _ fun x=>by rcases x with x <;> rfl
theorem wT (a0:Int) (a1:List aI) (a2:List Int):Vm.call TT 62 [.int .i64 a0,.sl (cM aI.cells a1),.sl (cM cI a2)] = (eG a0 a1 a2).map fun (r:(List Int))=>.own (.ref 0) [(3,1)] [cM cI r]:=by
 refine (LX (show TT 62 = some (.code ⟨3,17,[.tmp 6],aNG,true,false⟩) from rfl) _ rfl rfl).trans ?_
 show bU TT aNG ⟨[(0,dI a0),(1,.d (.sl (cM aI.cells a1))),(2,.d (.sl (cM cI a2)))],[]⟩ _ = _
 unfold aNG eG
 have u:=aN @CD (aN @sP @sL)
 exact n8
theorem H3 {β:Type} (a1:List aI) (p5:List Int) (bl:List (Nat × Option aJ)) (k:V->Option β) (kw:V->List (Nat × Option aJ)->Option β):wM TT 50 bl 64 [.sl (cM aI.cells a1),.sl (cM cI p5)] k kw = (fQ a1 p5).bind fun (r:(List aC))=>bC bl 100050 fun b=>fU b (kw (.own 100050 0) ((100050,some (.rows 0 95 6 (cM aC.cells r))) :: [])):=qW (wR a1 p5) (fun _=>(nS rfl (uL (oB _ (fun _=>rfl) _) rfl)))
theorem HM {β:Type} (a0:Int) (r22:(List aC)) (x16:aI) (bl:List (Nat × Option aJ)) (k:V->Option β) (kw:V->List (Nat × Option aJ)->Option β):wM TT 104 bl 83 [.int .i64 a0,.sl (cM aC.cells r22),.sl (cM cI ((List.replicate a0.toNat (0:Int)).set x16.To.toNat 1))] k kw = (fM a0 r22 ((List.replicate a0.toNat (0:Int)).set x16.To.toNat 1)).bind fun (r:(List aD) × (List Int))=>bC bl 100104 fun b=>fU b (bC bl 200104 fun b=>fU b (kw (.tup [.own 100104 0,.own 200104 0]) ((100104,some (.rows 0 114 3 (cM aD.cells r.1))) :: (200104,some (.rows 0 3 1 (cM cI r.2))) :: []))):=qW (zS a0 r22 ((List.replicate a0.toNat (0:Int)).set x16.To.toNat 1)) (fun _=>(nS rfl (uL (oB _ (fun _=>rfl) _) (uL (oB _ (fun _=>rfl) _) rfl))))
theorem HR {β:Type} (p40:List Int) (r37:Int) (x43:aC) (bl:List (Nat × Option aJ)) (kw:V->List (Nat × Option aJ)->Option β):PB TT bl 85 900000 0 [.agg x43.cells,.own (.ref 0) [(3,1)] [cM cI p40],.int .i64 r37] kw = (eJ x43 p40 r37).bind fun (r:(List Int))=>bC bl 900000 fun b=>K3 0 3 1 (cM cI r) b fun b2=>kw (.tup []) [(900000,b2)]:=I6 (wC x43 p40 r37) (fun _=>rfl) (fun _=>oB _ (fun _=>rfl) _) 900000 0
abbrev rK (a0:Int) (a1:List aI) (a3:List Int) (a4:Int) (p5:List Int) (r8:(List aC)) (p9:Int) (p10:List aC):St:=⟨[(0,dI a0),(1,.d (.sl (cM aI.cells a1))),(2,.own 900000 0),(3,.d (.sl (cM cI a3))),(4,dI a4),(10,.own 79 0),(50,.own 100050 0),(51,dI (r8.length:Int)),(52,dI p9)],[(79,some (.rows 0 95 6 (cM aC.cells p10))),(100050,some (.rows 0 95 6 (cM aC.cells r8))),(900000,some (.rows 0 3 1 (cM cI p5)))]⟩
theorem II (a0:Int) (a1:List aI) (a3:List Int) (a4:Int) (p5:List Int) (r8:(List aC)) (p9:Int) (p10:List aC):bU TT nD (rK a0 a1 a3 a4 p5 r8 p9 p10) (fun e s=>some (e,s)) = cJ (fun (w:Int × (List aC))=>rK a0 a1 a3 a4 p5 r8 w.1 w.2) (fun (r:(List aC))=>(((.exit 2),⟨[(0,dI a0),(1,.d (.sl (cM aI.cells a1))),(2,.own 900000 0),(3,.d (.sl (cM cI a3))),(4,dI a4),(10,.own 79 0)],[(79,some (.rows 0 95 6 (cM aC.cells r))),(900000,some (.rows 0 3 1 (cM cI p5)))]⟩):Ex × St)) (c8 a0 a1 a3 a4 p5 r8 p9 p10):=by
 unfold nD c8
 exact IA
theorem HD {β:Type} (a0:Int) (a1:List aI) (a3:List Int) (a4:Int) (p5:List Int) (r8:(List aC)) (p9:Int) (p10:List aC) (k:Ex->St->Option β):bU TT zZ (rK a0 a1 a3 a4 p5 r8 p9 p10) k = (lS a0 a1 a3 a4 p5 r8 p9 p10).bind (fun (r:(List aC))=>k (.exit 2) ⟨[(0,dI a0),(1,.d (.sl (cM aI.cells a1))),(2,.own 900000 0),(3,.d (.sl (cM cI a3))),(4,dI a4),(10,.own 79 0)],[(79,some (.rows 0 95 6 (cM aC.cells r))),(900000,some (.rows 0 3 1 (cM cI p5)))]⟩):=by
 have hh:=fun (w:Int × (List aC))=>II a0 a1 a3 a4 p5 r8 w.1 w.2
 have h:=fun ho=>bA (T:=TT) (k:=k) (c:=nD) (step:=(fun (w:Int × (List aC))=>c8 a0 a1 a3 a4 p5 r8 w.1 w.2)) _ _ ho hh (p9,p10)
 refine Eq.trans (h (fun r s e=>by have q:=congrArg Prod.fst e; rcases r with x <;> cases q)) ?_
 unfold lS
 exact aP _ fun x=>by rcases x with x <;> rfl
abbrev rZ (a0:Int) (a1:List aI) (a3:List Int) (a4:Int) (p5:List Int) (r15:(List aC)) (x16:aI) (p18:Int) (p19:List aC):St:=⟨[(0,dI a0),(1,.d (.sl (cM aI.cells a1))),(2,.own 900000 0),(3,.d (.sl (cM cI a3))),(4,dI a4),(10,.own 79 0),(13,.own 82 0),(91,dI (r15.length:Int)),(92,dI p18)],[(79,some (.rows 0 95 6 (cM aC.cells p19))),(82,some (.rows 0 3 1 (cM cI ((List.replicate a0.toNat (0:Int)).set x16.To.toNat 1)))),(900000,some (.rows 0 3 1 (cM cI p5)))]⟩
theorem H5 (a0:Int) (a1:List aI) (a3:List Int) (a4:Int) (p5:List Int) (r15:(List aC)) (x16:aI) (p18:Int) (p19:List aC):bU TT mW (rZ a0 a1 a3 a4 p5 r15 x16 p18 p19) (fun e s=>some (e,s)) = cJ (fun (w:Int × (List aC))=>rZ a0 a1 a3 a4 p5 r15 x16 w.1 w.2) (fun (r:(List aC))=>(((.exit 4),⟨[(0,dI a0),(1,.d (.sl (cM aI.cells a1))),(2,.own 900000 0),(3,.d (.sl (cM cI a3))),(4,dI a4),(10,.own 79 0),(13,.own 82 0)],[(79,some (.rows 0 95 6 (cM aC.cells r))),(82,some (.rows 0 3 1 (cM cI ((List.replicate a0.toNat (0:Int)).set x16.To.toNat 1)))),(900000,some (.rows 0 3 1 (cM cI p5)))]⟩):Ex × St)) (c9 a0 a1 a3 a4 p5 r15 x16 p18 p19):=by
 unfold mW c9
 exact IA
theorem IB {β:Type} (a0:Int) (a1:List aI) (a3:List Int) (a4:Int) (p5:List Int) (r15:(List aC)) (x16:aI) (p18:Int) (p19:List aC) (k:Ex->St->Option β):bU TT yY (rZ a0 a1 a3 a4 p5 r15 x16 p18 p19) k = (lX a0 a1 a3 a4 p5 r15 x16 p18 p19).bind (fun (r:(List aC))=>k (.exit 4) ⟨[(0,dI a0),(1,.d (.sl (cM aI.cells a1))),(2,.own 900000 0),(3,.d (.sl (cM cI a3))),(4,dI a4),(10,.own 79 0),(13,.own 82 0)],[(79,some (.rows 0 95 6 (cM aC.cells r))),(82,some (.rows 0 3 1 (cM cI ((List.replicate a0.toNat (0:Int)).set x16.To.toNat 1)))),(900000,some (.rows 0 3 1 (cM cI p5)))]⟩):=by
 have hh:=fun (w:Int × (List aC))=>H5 a0 a1 a3 a4 p5 r15 x16 w.1 w.2
 have h:=fun ho=>bA (T:=TT) (k:=k) (c:=mW) (step:=(fun (w:Int × (List aC))=>c9 a0 a1 a3 a4 p5 r15 x16 w.1 w.2)) _ _ ho hh (p18,p19)
 refine Eq.trans (h (fun r s e=>by have q:=congrArg Prod.fst e; rcases r with x <;> cases q)) ?_
 unfold lX
 exact aP _ fun x=>by rcases x with x <;> rfl
abbrev rM (a0:Int) (a1:List aI) (a3:List Int) (a4:Int) (p5:List Int) (r22:(List aC)) (r23:(List aD) × (List Int)) (p29 p30:Int):St:=⟨[(0,dI a0),(1,.d (.sl (cM aI.cells a1))),(2,.own 900000 0),(3,.d (.sl (cM cI a3))),(4,dI a4),(10,.own 79 0),(16,.own 200104 0),(17,dI p29),(18,dI p30)],[(79,some (.rows 0 95 6 (cM aC.cells r22))),(200104,some (.rows 0 3 1 (cM cI r23.2))),(900000,some (.rows 0 3 1 (cM cI p5)))]⟩
theorem HA (a0:Int) (a1:List aI) (a3:List Int) (a4:Int) (p5:List Int) (r22:(List aC)) (r23:(List aD) × (List Int)) (p29 p30:Int):bU TT m8 (rM a0 a1 a3 a4 p5 r22 r23 p29 p30) (fun e s=>some (e,s)) = cJ (fun (w:Int × Int)=>rM a0 a1 a3 a4 p5 r22 r23 w.1 w.2) (fun (r:Int)=>(((.exit 6),⟨[(0,dI a0),(1,.d (.sl (cM aI.cells a1))),(2,.own 900000 0),(3,.d (.sl (cM cI a3))),(4,dI a4),(10,.own 79 0),(16,.own 200104 0),(17,dI r)],[(79,some (.rows 0 95 6 (cM aC.cells r22))),(200104,some (.rows 0 3 1 (cM cI r23.2))),(900000,some (.rows 0 3 1 (cM cI p5)))]⟩):Ex × St)) (d9 a0 a1 a3 a4 p5 r22 r23 p29 p30):=by
 unfold m8 d9
 exact IA
theorem HP {β:Type} (a0:Int) (a1:List aI) (a3:List Int) (a4:Int) (p5:List Int) (r22:(List aC)) (r23:(List aD) × (List Int)) (p29 p30:Int) (k:Ex->St->Option β):bU TT yT (rM a0 a1 a3 a4 p5 r22 r23 p29 p30) k = (gS a0 a1 a3 a4 p5 r22 r23 p29 p30).bind (fun (r:Int)=>k (.exit 6) ⟨[(0,dI a0),(1,.d (.sl (cM aI.cells a1))),(2,.own 900000 0),(3,.d (.sl (cM cI a3))),(4,dI a4),(10,.own 79 0),(16,.own 200104 0),(17,dI r)],[(79,some (.rows 0 95 6 (cM aC.cells r22))),(200104,some (.rows 0 3 1 (cM cI r23.2))),(900000,some (.rows 0 3 1 (cM cI p5)))]⟩):=by
 have hh:=fun (w:Int × Int)=>HA a0 a1 a3 a4 p5 r22 r23 w.1 w.2
 have h:=fun ho=>bA (T:=TT) (k:=k) (c:=m8) (step:=(fun (w:Int × Int)=>d9 a0 a1 a3 a4 p5 r22 r23 w.1 w.2)) _ _ ho hh (p29,p30)
 refine Eq.trans (h (fun r s e=>by have q:=congrArg Prod.fst e; rcases r with x <;> cases q)) ?_
 unfold gS
 exact aP _ fun x=>by rcases x with x <;> rfl
abbrev rT (a0:Int) (a1:List aI) (a3:List Int) (a4:Int) (r22:(List aC)) (r23:(List aD) × (List Int)) (r37 p39:Int) (p40:List Int):St:=⟨[(0,dI a0),(1,.d (.sl (cM aI.cells a1))),(2,.own 900000 0),(3,.d (.sl (cM cI a3))),(4,dI a4),(10,.own 79 0),(16,.own 200104 0),(17,dI r37),(19,dI p39)],[(79,some (.rows 0 95 6 (cM aC.cells r22))),(200104,some (.rows 0 3 1 (cM cI r23.2))),(900000,some (.rows 0 3 1 (cM cI p40)))]⟩
theorem HW (a0:Int) (a1:List aI) (a3:List Int) (a4:Int) (r22:(List aC)) (r23:(List aD) × (List Int)) (r37 p39:Int) (p40:List Int):bU TT nH (rT a0 a1 a3 a4 r22 r23 r37 p39 p40) (fun e s=>some (e,s)) = cJ (fun (w:Int × (List Int))=>rT a0 a1 a3 a4 r22 r23 r37 w.1 w.2) (fun (r:(List Int))=>(((.exit 8),⟨[(0,dI a0),(1,.d (.sl (cM aI.cells a1))),(2,.own 900000 0),(3,.d (.sl (cM cI a3))),(4,dI a4),(17,dI r37)],[(900000,some (.rows 0 3 1 (cM cI r)))]⟩):Ex × St)) (eH a0 a1 a3 a4 r22 r23 r37 p39 p40):=by
 unfold nH eH
 have u:=@HR
 exact n8
theorem GW {β:Type} (a0:Int) (a1:List aI) (a3:List Int) (a4:Int) (r22:(List aC)) (r23:(List aD) × (List Int)) (r37 p39:Int) (p40:List Int) (k:Ex->St->Option β):bU TT yM (rT a0 a1 a3 a4 r22 r23 r37 p39 p40) k = (gV a0 a1 a3 a4 r22 r23 r37 p39 p40).bind (fun (r:(List Int))=>k (.exit 8) ⟨[(0,dI a0),(1,.d (.sl (cM aI.cells a1))),(2,.own 900000 0),(3,.d (.sl (cM cI a3))),(4,dI a4),(17,dI r37)],[(900000,some (.rows 0 3 1 (cM cI r)))]⟩):=by
 have hh:=fun (w:Int × (List Int))=>HW a0 a1 a3 a4 r22 r23 r37 w.1 w.2
 have h:=fun ho=>bA (T:=TT) (k:=k) (c:=nH) (step:=(fun (w:Int × (List Int))=>eH a0 a1 a3 a4 r22 r23 r37 w.1 w.2)) _ _ ho hh (p39,p40)
 refine Eq.trans (h (fun r s e=>by have q:=congrArg Prod.fst e; rcases r with x <;> cases q)) ?_
 unfold gV
 exact aP _ fun x=>by rcases x with x <;> rfl
abbrev rS (a0:Int) (a1:List aI) (a3:List Int) (a4:Int) (p5:List Int):St:=⟨[(0,dI a0),(1,.d (.sl (cM aI.cells a1))),(2,.own 900000 0),(3,.d (.sl (cM cI a3))),(4,dI a4)],[(900000,some (.rows 0 3 1 (cM cI p5)))]⟩
theorem G9 (a0:Int) (a1:List aI) (a3:List Int) (a4:Int) (p5:List Int):bU TT nC (rS a0 a1 a3 a4 p5) (fun e s=>some (e,s)) = cJ (fun (w:(List Int))=>rS a0 a1 a3 a4 w) (fun (r:((List Int)) ⊕ ((List Int)))=>Sum.elim (fun (z:(List Int))=>(((.exit 0),⟨[(2,.own 900000 0)],[(900000,some (.rows 0 3 1 (cM cI z)))]⟩):Ex × St)) (fun (z:(List Int))=>((.ret,⟨[(2,.own 900000 0)],[(900000,some (.rows 0 3 1 (cM cI z)))]⟩):Ex × St)) r) (cN a0 a1 a3 a4 p5):=by
 unfold nC cN
 have u:=aN (aN @HD (aN @IB @HP)) (aN @GW (aN @H3 @HM))
 exact n8
theorem HY {β:Type} (a0:Int) (a1:List aI) (a3:List Int) (a4:Int) (p5:List Int) (k:Ex->St->Option β):bU TT yR (rS a0 a1 a3 a4 p5) k = (pF a0 a1 a3 a4 p5).bind (fun (r:((List Int)) ⊕ ((List Int)))=>Sum.elim (fun (z:(List Int))=>k (.exit 0) ⟨[(2,.own 900000 0)],[(900000,some (.rows 0 3 1 (cM cI z)))]⟩) (fun (z:(List Int))=>k .ret ⟨[(2,.own 900000 0)],[(900000,some (.rows 0 3 1 (cM cI z)))]⟩) r):=by
 have hh:=fun (w:(List Int))=>G9 a0 a1 a3 a4 w
 have h:=fun ho=>bA (T:=TT) (k:=k) (c:=nC) (step:=(fun (w:(List Int))=>cN a0 a1 a3 a4 w)) _ _ ho hh p5
 refine Eq.trans (h (fun r s e=>by have q:=congrArg Prod.fst e; rcases r with x | x <;> cases q)) ?_
 unfold pF
 exact aP _ fun x=>by rcases x with x | x <;> rfl
theorem MD (a0:Int) (a1:List aI) (a2 a3:List Int) (a4:Int):Vm.call TT 63 [.int .i64 a0,.sl (cM aI.cells a1),.own (.ref 0) [(3,1)] [cM cI a2],.sl (cM cI a3),.int .i64 a4] = (mR a0 a1 a2 a3 a4).map fun (r:(List Int))=>.own (.tup []) [(3,1)] [cM cI r]:=by
 refine (SG (show TT 63 = some (.code ⟨5,190,[],aL1,false,true⟩) from rfl) _ rfl rfl rfl).trans ?_
 show bU TT aL1 ⟨[(2,.own 900000 0),(0,dI a0),(1,.d (.sl (cM aI.cells a1))),(2,.d (.own (.ref 0) [(3,1)] [cM cI a2])),(3,.d (.sl (cM cI a3))),(4,dI a4)],[(900000,some (.rows 0 3 1 (cM cI a2)))]⟩ _ = _
 unfold aL1 mR
 have u:=@HY
 exact n8
end Go.Proofs.Ytgjcnbgfaimepaa
