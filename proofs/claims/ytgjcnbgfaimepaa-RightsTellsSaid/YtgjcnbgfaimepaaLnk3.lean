/- The functions of the small machine compute the plain definitions. Printed by a program. -/
import Derived.Test.YtgjcnbgfaimepaaLnk2
set_option linter.unusedVariables false
set_option linter.unusedSimpArgs false
namespace Go.Proofs.Ytgjcnbgfaimepaa
open Vm
open Go.RowKit
set_option maxRecDepth 100000
set_option maxHeartbeats 4000000
attribute [local congr] yF BK yB BI
theorem PQ {β:Type} (a0:Int) (a1:List aI) (r8:(List Int)) (bl:List (Nat × Option aL)) (k:V->Option β) (kw:V->List (Nat × Option aL)->Option β):DY TT 38 bl 62 [.int .i64 a0,.sl (cM aI.cells a1),.sl (cM cI r8)] k kw = (gU a0 a1 r8).bind fun (r:(List Int))=>cG bl 100038 fun b=>jX b (kw (.own 100038 0) ((100038,some (.rows 0 3 1 (cM cI r))) :: [])):=yQ (CU a0 a1 r8) (fun _=>(wX rfl (C5 (wE _ (fun _=>rfl) _) rfl)))
theorem OK {β:Type} (a0:Int) (a1:List aI) (r14:(List Int)) (bl:List (Nat × Option aL)) (k:V->Option β) (kw:V->List (Nat × Option aL)->Option β):DY TT 55 bl 62 [.int .i64 a0,.sl (cM aI.cells a1),.sl (cM cI r14)] k kw = (gU a0 a1 r14).bind fun (r:(List Int))=>cG bl 100055 fun b=>jX b (kw (.own 100055 0) ((100055,some (.rows 0 3 1 (cM cI r))) :: [])):=yQ (CU a0 a1 r14) (fun _=>(wX rfl (C5 (wE _ (fun _=>rfl) _) rfl)))
theorem O4 {β:Type} (a0:Int) (a1:List aI) (r7:(List Int)) (bl:List (Nat × Option aL)) (kw:V->List (Nat × Option aL)->Option β):VZ TT bl 61 17 0 [.int .i64 a0,.sl (cM aI.cells a1),.own (.ref 0) [(3,1)] [cM cI r7]] kw = (oZ a0 a1 r7).bind fun (r:(List Int))=>cG bl 17 fun b=>RS 0 3 1 (cM cI r) b fun b2=>kw (.tup []) [(17,b2)]:=QV (Q2 a0 a1 r7) (fun _=>rfl) (fun _=>wE _ (fun _=>rfl) _) 17 0
theorem PU {β:Type} (a0:Int) (a1:List aI) (p10:Int) (p11:List Int) (r9:(List Int)) (bl:List (Nat × Option aL)) (kw:V->List (Nat × Option aL)->Option β):VZ TT bl 63 17 0 [.int .i64 a0,.sl (cM aI.cells a1),.own (.ref 0) [(3,1)] [cM cI p11],.sl (cM cI r9),.int .i64 p10] kw = (rZ a0 a1 p11 r9 p10).bind fun (r:(List Int))=>cG bl 17 fun b=>RS 0 3 1 (cM cI r) b fun b2=>kw (.tup []) [(17,b2)]:=QV (T3 a0 a1 p11 r9 p10) (fun _=>rfl) (fun _=>wE _ (fun _=>rfl) _) 17 0
abbrev yG (a0:Int) (a1:List aI) (p2:Int) (p3:List Int):St:=⟨[(0,dI a0),(1,.d (.sl (cM aI.cells a1))),(4,.own 17 0),(18,.d (.sl (cM aI.cells a1))),(19,dI (a1.length:Int)),(20,dI p2)],[(17,some (.rows 0 3 1 (cM cI p3)))]⟩
theorem O7 (a0:Int) (a1:List aI) (p2:Int) (p3:List Int):bD TT sI (yG a0 a1 p2 p3) (fun e s=>some (e,s)) = bP (fun (w:Int × (List Int))=>yG a0 a1 w.1 w.2) (fun (r:(List Int))=>(((.exit 0),⟨[(0,dI a0),(1,.d (.sl (cM aI.cells a1))),(4,.own 17 0)],[(17,some (.rows 0 3 1 (cM cI r)))]⟩):Ex × St)) (e7 a0 a1 p2 p3):=by
 unfold sI e7
 exact G7
theorem OG {β:Type} (a0:Int) (a1:List aI) (p2:Int) (p3:List Int) (k:Ex->St->Option β):bD TT EQ (yG a0 a1 p2 p3) k = (qP a0 a1 p2 p3).bind (fun (r:(List Int))=>k (.exit 0) ⟨[(0,dI a0),(1,.d (.sl (cM aI.cells a1))),(4,.own 17 0)],[(17,some (.rows 0 3 1 (cM cI r)))]⟩):=by
 have hh:=fun (w:Int × (List Int))=>O7 a0 a1 w.1 w.2
 have h:=fun ho=>aQ (T:=TT) (k:=k) (c:=sI) (step:=(fun (w:Int × (List Int))=>e7 a0 a1 w.1 w.2)) _ _ ho hh (p2,p3)
 refine Eq.trans (h (fun r s e=>by have q:=congrArg Prod.fst e; rcases r with x <;> cases q)) ?_
 unfold qP
 exact aK _ fun x=>by rcases x with x <;> rfl
abbrev yN (a0:Int) (a1:List aI) (r9:(List Int)) (p10:Int) (p11:List Int):St:=⟨[(0,dI a0),(1,.d (.sl (cM aI.cells a1))),(4,.own 17 0),(9,.own 100038 0),(40,dI (a1.length:Int)),(41,dI p10)],[(17,some (.rows 0 3 1 (cM cI p11))),(100038,some (.rows 0 3 1 (cM cI r9)))]⟩
theorem OD (a0:Int) (a1:List aI) (r9:(List Int)) (p10:Int) (p11:List Int):bD TT sP (yN a0 a1 r9 p10 p11) (fun e s=>some (e,s)) = bP (fun (w:Int × (List Int))=>yN a0 a1 r9 w.1 w.2) (fun (r:(List Int))=>(((.exit 2),⟨[(0,dI a0),(1,.d (.sl (cM aI.cells a1))),(4,.own 17 0)],[(17,some (.rows 0 3 1 (cM cI r)))]⟩):Ex × St)) (fQ a0 a1 r9 p10 p11):=by
 unfold sP fQ
 have u:=@PU
 exact mJ
theorem OL {β:Type} (a0:Int) (a1:List aI) (r9:(List Int)) (p10:Int) (p11:List Int) (k:Ex->St->Option β):bD TT EV (yN a0 a1 r9 p10 p11) k = (rC a0 a1 r9 p10 p11).bind (fun (r:(List Int))=>k (.exit 2) ⟨[(0,dI a0),(1,.d (.sl (cM aI.cells a1))),(4,.own 17 0)],[(17,some (.rows 0 3 1 (cM cI r)))]⟩):=by
 have hh:=fun (w:Int × (List Int))=>OD a0 a1 r9 w.1 w.2
 have h:=fun ho=>aQ (T:=TT) (k:=k) (c:=sP) (step:=(fun (w:Int × (List Int))=>fQ a0 a1 r9 w.1 w.2)) _ _ ho hh (p10,p11)
 refine Eq.trans (h (fun r s e=>by have q:=congrArg Prod.fst e; rcases r with x <;> cases q)) ?_
 unfold rC
 exact aK _ fun x=>by rcases x with x <;> rfl
theorem UN (a0:Int) (a1:List aI):Vm.call TT 25 [.int .i64 a0,.sl (cM aI.cells a1)] = (pG a0 a1).map fun (r:(List Int) × (List Int) × Int)=>.tup [.sl (cM cI r.1),.sl (cM cI r.2.1),.int .i64 r.2.2]:=by
 refine (aV (show TT 25 = some (.code ⟨2,56,[.tmp 4,.tmp 5,.tmp 6],aPf,false,false⟩) from rfl) _ rfl rfl).trans ?_
 show bD TT aPf ⟨[(0,dI a0),(1,.d (.sl (cM aI.cells a1)))],[]⟩ _ = _
 unfold aPf pG
 have u:=aN (aN @OG (aN @OL @HT)) (aN @PQ (aN @OK @O4))
 exact mJ
theorem S9 (a0:Int) (a1:List aI):KD TT 25 [.int .i64 a0,.sl (cM aI.cells a1)] (pG a0 a1) (fun (r:(List Int) × (List Int) × Int)=>.tup [.d (.sl (cM cI r.1)),.d (.sl (cM cI r.2.1)),dI r.2.2]):=kD (UN a0 a1) (fun _=>rfl) (fun _=>rfl) (fun _=>rfl)
abbrev CS (a0:Int) (a1:List aF) (a2:List Int) (p1:Int) (p2:List aI) (p3:List Int):St:=⟨[(0,dI a0),(1,.d (.sl (cM aF.cells a1))),(2,.d (.sl (cM cI a2))),(8,.own 30 0),(9,.own 34 0),(16,.d (.sl (cM aF.cells a1))),(17,dI (a1.length:Int)),(18,dI p1)],[(30,some (.rows 0 54 3 (cM aI.cells p2))),(34,some (.rows 0 3 1 (cM cI p3)))]⟩
theorem T0 (a0:Int) (a1:List aF) (a2:List Int) (p1:Int) (p2:List aI) (p3:List Int):bD TT xP (CS a0 a1 a2 p1 p2 p3) (fun e s=>some (e,s)) = bP (fun (w:Int × (List aI) × (List Int))=>CS a0 a1 a2 w.1 w.2.1 w.2.2) (fun (r:(List aI) × (List Int))=>(((.exit 0),⟨[(0,dI a0),(1,.d (.sl (cM aF.cells a1))),(8,.own 30 0),(9,.own 34 0)],[(30,some (.rows 0 54 3 (cM aI.cells r.1))),(34,some (.rows 0 3 1 (cM cI r.2)))]⟩):Ex × St)) (gM a0 a1 a2 p1 p2 p3):=by
 unfold xP gM
 have u:=aN @RF @QE
 exact mJ
theorem TM {β:Type} (a0:Int) (a1:List aF) (a2:List Int) (p1:Int) (p2:List aI) (p3:List Int) (k:Ex->St->Option β):bD TT HY (CS a0 a1 a2 p1 p2 p3) k = (xB a0 a1 a2 p1 p2 p3).bind (fun (r:(List aI) × (List Int))=>k (.exit 0) ⟨[(0,dI a0),(1,.d (.sl (cM aF.cells a1))),(8,.own 30 0),(9,.own 34 0)],[(30,some (.rows 0 54 3 (cM aI.cells r.1))),(34,some (.rows 0 3 1 (cM cI r.2)))]⟩):=by
 have hh:=fun (w:Int × (List aI) × (List Int))=>T0 a0 a1 a2 w.1 w.2.1 w.2.2
 have h:=fun ho=>aQ (T:=TT) (k:=k) (c:=xP) (step:=(fun (w:Int × (List aI) × (List Int))=>gM a0 a1 a2 w.1 w.2.1 w.2.2)) _ _ ho hh (p1,p2,p3)
 refine Eq.trans (h (fun r s e=>by have q:=congrArg Prod.fst e; rcases r with x <;> cases q)) ?_
 unfold xB
 exact aK _ fun x=>by rcases x with x <;> rfl
abbrev DA (r10:(List Int) × (List Int) × Int) (r9:(List aI) × (List Int)) (p11:Int) (p12:List Int):St:=⟨[(6,.own 45 0),(7,.d (.sl (cM cI r10.2.1))),(9,.own 34 0),(46,.d (.sl (cM cI r10.1))),(47,dI (r10.1.length:Int)),(48,dI p11)],[(34,some (.rows 0 3 1 (cM cI r9.2))),(45,some (.rows 0 3 1 (cM cI p12)))]⟩
theorem TS (r10:(List Int) × (List Int) × Int) (r9:(List aI) × (List Int)) (p11:Int) (p12:List Int):bD TT xR (DA r10 r9 p11 p12) (fun e s=>some (e,s)) = bP (fun (w:Int × (List Int))=>DA r10 r9 w.1 w.2) (fun (r:(List Int))=>(((.exit 2),⟨[(6,.own 45 0),(7,.d (.sl (cM cI r10.2.1)))],[(45,some (.rows 0 3 1 (cM cI r)))]⟩):Ex × St)) (iQ r10 r9 p11 p12):=by
 unfold xR iQ
 exact G7
theorem UD {β:Type} (r10:(List Int) × (List Int) × Int) (r9:(List aI) × (List Int)) (p11:Int) (p12:List Int) (k:Ex->St->Option β):bD TT H4 (DA r10 r9 p11 p12) k = (w9 r10 r9 p11 p12).bind (fun (r:(List Int))=>k (.exit 2) ⟨[(6,.own 45 0),(7,.d (.sl (cM cI r10.2.1)))],[(45,some (.rows 0 3 1 (cM cI r)))]⟩):=by
 have hh:=fun (w:Int × (List Int))=>TS r10 r9 w.1 w.2
 have h:=fun ho=>aQ (T:=TT) (k:=k) (c:=xR) (step:=(fun (w:Int × (List Int))=>iQ r10 r9 w.1 w.2)) _ _ ho hh (p11,p12)
 refine Eq.trans (h (fun r s e=>by have q:=congrArg Prod.fst e; rcases r with x <;> cases q)) ?_
 unfold w9
 exact aK _ fun x=>by rcases x with x <;> rfl
theorem XO (a0:Int) (a1:List aF) (a2:List Int):Vm.call TT 38 [.int .i64 a0,.sl (cM aF.cells a1),.sl (cM cI a2)] = (nI a0 a1 a2).map fun (r:(List Int) × (List Int))=>.tup [.sl (cM cI r.1),.sl (cM cI r.2)]:=by
 refine (aV (show TT 38 = some (.code ⟨3,63,[.tmp 6,.tmp 7],aPv,false,false⟩) from rfl) _ rfl rfl).trans ?_
 show bD TT aPv ⟨[(0,dI a0),(1,.d (.sl (cM aF.cells a1))),(2,.d (.sl (cM cI a2)))],[]⟩ _ = _
 unfold aPv nI
 have u:=aN @TM (aN @UD @S9)
 exact mJ
theorem C3 (a0:Int) (a1:List aF) (a2:List Int):KD TT 38 [.int .i64 a0,.sl (cM aF.cells a1),.sl (cM cI a2)] (nI a0 a1 a2) (fun (r:(List Int) × (List Int))=>.tup [.d (.sl (cM cI r.1)),.d (.sl (cM cI r.2))]):=kD (XO a0 a1 a2) (fun _=>rfl) (fun _=>rfl) (fun _=>rfl)
theorem ND (a0:Int) (a1:List aF) (a2:List Int):Vm.call TT 10 [.int .i64 a0,.sl (cM aF.cells a1),.sl (cM cI a2)] = (iK a0 a1 a2).map fun (r:(List Int) × (List Int) × Int)=>.tup [.sl (cM cI r.1),.sl (cM cI r.2.1),.int .i64 r.2.2]:=by
 refine (aV (show TT 10 = some (.code ⟨3,27,[.tmp 6,.tmp 7,.tmp 8],aNI,false,false⟩) from rfl) _ rfl rfl).trans ?_
 show bD TT aNI ⟨[(0,dI a0),(1,.d (.sl (cM aF.cells a1))),(2,.d (.sl (cM cI a2)))],[]⟩ _ = _
 unfold aNI iK
 have u:=aN @xD (aN @FC @C3)
 exact mJ
theorem NB (a0:Int) (a1:List aF) (a2:List Int):KD TT 10 [.int .i64 a0,.sl (cM aF.cells a1),.sl (cM cI a2)] (iK a0 a1 a2) (fun (r:(List Int) × (List Int) × Int)=>.tup [.d (.sl (cM cI r.1)),.d (.sl (cM cI r.2.1)),dI r.2.2]):=kD (ND a0 a1 a2) (fun _=>rfl) (fun _=>rfl) (fun _=>rfl)
abbrev zU (a0:List aF) (p1:Int) (x3:aF) (p4:Int) (p5:List Int):St:=⟨[(3,.own 25 0),(8,.d (.sl (cM aF.cells a0))),(9,dI (a0.length:Int)),(10,dI p1),(15,.d (.sl (cM aT.cells x3.Rights))),(16,dI (x3.Rights.length:Int)),(17,dI p4)],[(25,some (.rows 0 3 1 (cM cI p5)))]⟩
theorem Q7 (a0:List aF) (p1:Int) (x3:aF) (p4:Int) (p5:List Int):bD TT uI (zU a0 p1 x3 p4 p5) (fun e s=>some (e,s)) = bP (fun (w:Int × (List Int))=>zU a0 p1 x3 w.1 w.2) (fun (r:(List Int))=>(((.exit 2),⟨[(3,.own 25 0),(8,.d (.sl (cM aF.cells a0))),(9,dI (a0.length:Int)),(10,dI p1)],[(25,some (.rows 0 3 1 (cM cI r)))]⟩):Ex × St)) (gI a0 p1 x3 p4 p5):=by
 unfold uI gI
 exact G7
theorem RD {β:Type} (a0:List aF) (p1:Int) (x3:aF) (p4:Int) (p5:List Int) (k:Ex->St->Option β):bD TT FH (zU a0 p1 x3 p4 p5) k = (sH a0 p1 x3 p4 p5).bind (fun (r:(List Int))=>k (.exit 2) ⟨[(3,.own 25 0),(8,.d (.sl (cM aF.cells a0))),(9,dI (a0.length:Int)),(10,dI p1)],[(25,some (.rows 0 3 1 (cM cI r)))]⟩):=by
 have hh:=fun (w:Int × (List Int))=>Q7 a0 p1 x3 w.1 w.2
 have h:=fun ho=>aQ (T:=TT) (k:=k) (c:=uI) (step:=(fun (w:Int × (List Int))=>gI a0 p1 x3 w.1 w.2)) _ _ ho hh (p4,p5)
 refine Eq.trans (h (fun r s e=>by have q:=congrArg Prod.fst e; rcases r with x <;> cases q)) ?_
 unfold sH
 exact aK _ fun x=>by rcases x with x <;> rfl
abbrev zQ (a0:List aF) (p1:Int) (p2:List Int):St:=⟨[(3,.own 25 0),(8,.d (.sl (cM aF.cells a0))),(9,dI (a0.length:Int)),(10,dI p1)],[(25,some (.rows 0 3 1 (cM cI p2)))]⟩
theorem Q4 (a0:List aF) (p1:Int) (p2:List Int):bD TT uM (zQ a0 p1 p2) (fun e s=>some (e,s)) = bP (fun (w:Int × (List Int))=>zQ a0 w.1 w.2) (fun (r:(List Int))=>(((.exit 0),⟨[(3,.own 25 0)],[(25,some (.rows 0 3 1 (cM cI r)))]⟩):Ex × St)) (gJ a0 p1 p2):=by
 unfold uM gJ
 have u:=@RD
 exact mJ
theorem Q3 {β:Type} (a0:List aF) (p1:Int) (p2:List Int) (k:Ex->St->Option β):bD TT FG (zQ a0 p1 p2) k = (sE a0 p1 p2).bind (fun (r:(List Int))=>k (.exit 0) ⟨[(3,.own 25 0)],[(25,some (.rows 0 3 1 (cM cI r)))]⟩):=by
 have hh:=fun (w:Int × (List Int))=>Q4 a0 w.1 w.2
 have h:=fun ho=>aQ (T:=TT) (k:=k) (c:=uM) (step:=(fun (w:Int × (List Int))=>gJ a0 w.1 w.2)) _ _ ho hh (p1,p2)
 refine Eq.trans (h (fun r s e=>by have q:=congrArg Prod.fst e; rcases r with x <;> cases q)) ?_
 unfold sE
 exact aK _ fun x=>by rcases x with x <;> rfl
theorem DM (a0:List aF):Vm.call TT 21 [.sl (cM aF.cells a0)] = (kM a0).map fun (r:(List Int))=>.own (.ref 0) [(3,1)] [cM cI r]:=by
 refine (PA (show TT 21 = some (.code ⟨1,32,[.tmp 2],aOF,true,false⟩) from rfl) _ rfl rfl).trans ?_
 show bD TT aOF ⟨[(0,.d (.sl (cM aF.cells a0)))],[]⟩ _ = _
 unfold aOF kM
 have u:=@Q3
 exact mJ
theorem PI (a0:Int) (a1:List Int):Vm.call TT 43 [.int .i64 a0,.ptr [.sl (cM cI a1)] 0] = (kR a0 a1).map fun (r:Bool)=>.bool r:=by
 refine (aV (show TT 43 = some (.code ⟨2,7,[.tmp 3],aNK,false,false⟩) from rfl) _ rfl rfl).trans ?_
 show bD TT aNK ⟨[(0,dI a0),(1,.d (.ptr [.sl (cM cI a1)] 0))],[]⟩ _ = _
 unfold aNK kR
 have u:=@qQ
 exact mJ
theorem ET (a0:Int) (a1:List Int):KF TT 43 [.int .i64 a0,.ptr [.sl (cM cI a1)] 0] (kR a0 a1) (fun (r:Bool)=>dB r):=kF (PI a0 a1) (fun _=>rfl) (fun _=>rfl)
abbrev jZ (a0 a1:List Int) (p1:Int):St:=⟨[(0,.d (.sl (cM cI a0))),(1,.d (.fn 43 [.ptr [.sl (cM cI a1)] 0])),(7,dI (a0.length:Int)),(8,dI p1)],[]⟩
theorem AC (a0 a1:List Int) (p1:Int):bD TT cE (jZ a0 a1 p1) (fun e s=>some (e,s)) = bP (fun (w:Int)=>jZ a0 a1 w) (fun (r:Unit ⊕ Int)=>Sum.elim (fun (z:Unit)=>(((.exit 0),⟨[],[]⟩):Ex × St)) (fun (z:Int)=>((.ret,⟨[(4,dI z)],[]⟩):Ex × St)) r) (a8 a0 a1 p1):=by
 unfold cE a8
 have u:=@ET
 exact mJ
theorem zP {β:Type} (a0 a1:List Int) (p1:Int) (k:Ex->St->Option β):bD TT lB (jZ a0 a1 p1) k = (hU a0 a1 p1).bind (fun (r:Unit ⊕ Int)=>Sum.elim (fun (z:Unit)=>k (.exit 0) ⟨[],[]⟩) (fun (z:Int)=>k .ret ⟨[(4,dI z)],[]⟩) r):=by
 have hh:=fun (w:Int)=>AC a0 a1 w
 have h:=fun ho=>aQ (T:=TT) (k:=k) (c:=cE) (step:=(fun (w:Int)=>a8 a0 a1 w)) _ _ ho hh p1
 refine Eq.trans (h (fun r s e=>by have q:=congrArg Prod.fst e; rcases r with x | x <;> cases q)) ?_
 unfold hU
 exact aK _ fun x=>by rcases x with x | x <;> rfl
theorem CE (a0 a1:List Int):Vm.call TT 72 [.sl (cM cI a0),.fn 43 [.ptr [.sl (cM cI a1)] 0]] = (c7 a0 a1).map fun (r:Int)=>.int .i64 r:=by
 refine (aV (show TT 72 = some (.code ⟨2,19,[.tmp 4],aEo,false,false⟩) from rfl) _ rfl rfl).trans ?_
 show bD TT aEo ⟨[(0,.d (.sl (cM cI a0))),(1,.d (.fn 43 [.ptr [.sl (cM cI a1)] 0]))],[]⟩ _ = _
 unfold aEo c7
 have u:=@zP
 exact mJ
theorem rL (a0 a1:List Int):KF TT 72 [.sl (cM cI a0),.fn 43 [.ptr [.sl (cM cI a1)] 0]] (c7 a0 a1) (fun (r:Int)=>dI r):=kF (CE a0 a1) (fun _=>rfl) (fun _=>rfl)
abbrev yM (a0:List Int) (p1 p2:Int):St:=⟨[(3,dI p1),(9,.d (.sl (cM cI a0))),(10,dI (a0.length:Int)),(11,dI p2)],[]⟩
theorem ON (a0:List Int) (p1 p2:Int):bD TT sX (yM a0 p1 p2) (fun e s=>some (e,s)) = bP (fun (w:Int × Int)=>yM a0 w.1 w.2) (fun (r:Int ⊕ Unit)=>Sum.elim (fun (z:Int)=>(((.exit 0),⟨[(3,dI z)],[]⟩):Ex × St)) (fun (z:Unit)=>((.ret,⟨[(2,dI 0)],[]⟩):Ex × St)) r) (d9 a0 p1 p2):=by
 unfold sX d9
 exact G7
theorem PL {β:Type} (a0:List Int) (p1 p2:Int) (k:Ex->St->Option β):bD TT ES (yM a0 p1 p2) k = (wM a0 p1 p2).bind (fun (r:Int ⊕ Unit)=>Sum.elim (fun (z:Int)=>k (.exit 0) ⟨[(3,dI z)],[]⟩) (fun (z:Unit)=>k .ret ⟨[(2,dI 0)],[]⟩) r):=by
 have hh:=fun (w:Int × Int)=>ON a0 w.1 w.2
 have h:=fun ho=>aQ (T:=TT) (k:=k) (c:=sX) (step:=(fun (w:Int × Int)=>d9 a0 w.1 w.2)) _ _ ho hh (p1,p2)
 refine Eq.trans (h (fun r s e=>by have q:=congrArg Prod.fst e; rcases r with x | x <;> cases q)) ?_
 unfold wM
 exact aK _ fun x=>by rcases x with x | x <;> rfl
theorem T5 (a0:List Int):Vm.call TT 27 [.sl (cM cI a0)] = (pH a0).map fun (r:Int)=>.int .i64 r:=by
 refine (aV (show TT 27 = some (.code ⟨1,26,[.tmp 2],aPA,false,false⟩) from rfl) _ rfl rfl).trans ?_
 show bD TT aPA ⟨[(0,.d (.sl (cM cI a0)))],[]⟩ _ = _
 unfold aPA pH
 have u:=@PL
 exact mJ
theorem CX (a0:List Int):KF TT 27 [.sl (cM cI a0)] (pH a0) (fun (r:Int)=>dI r):=kF (T5 a0) (fun _=>rfl) (fun _=>rfl)
theorem B7 (a0:List Int):Vm.call TT 49 [.sl (cM cI a0)] = (gF a0).map fun (r:(List Int))=>.own (.ref 0) [(3,1)] [cM cI r]:=by
 refine (aAr (show TT 49 = some (.told o49) from rfl) _ rfl).trans ?_
 have h1:sized 1 (cM cI a0) = true:=vF _ _ (fun x=>by rfl) a0
 have h2:UJ (cM cI a0) = true:=aJD _ _ (fun x=>rfl)
 have h3:(cM cI a0).length = a0.length:=List.length_map ..
 simp only [o49,aBs,h1,h2,h3,true_and,gF]
 split <;> rfl
theorem NU (a0:Int) (a1:List Int):Vm.call TT 77 [.int .i64 a0,.ptr [.sl (cM cI a1)] 0] = (pM a0 a1).map fun (r:Bool)=>.bool r:=by
 refine (aV (show TT 77 = some (.code ⟨2,8,[.tmp 3],aN5,false,false⟩) from rfl) _ rfl rfl).trans ?_
 show bD TT aN5 ⟨[(0,dI a0),(1,.d (.ptr [.sl (cM cI a1)] 0))],[]⟩ _ = _
 unfold aN5 pM
 have u:=@qQ
 exact mJ
theorem N4 (a0:Int) (a1:List Int):KF TT 77 [.int .i64 a0,.ptr [.sl (cM cI a1)] 0] (pM a0 a1) (fun (r:Bool)=>dB r):=kF (NU a0 a1) (fun _=>rfl) (fun _=>rfl)
abbrev j8 (a0 a1:List Int) (p1:Int):St:=⟨[(0,.d (.sl (cM cI a0))),(1,.d (.fn 77 [.ptr [.sl (cM cI a1)] 0])),(7,dI (a0.length:Int)),(8,dI p1)],[]⟩
theorem zS (a0 a1:List Int) (p1:Int):bD TT cE (j8 a0 a1 p1) (fun e s=>some (e,s)) = bP (fun (w:Int)=>j8 a0 a1 w) (fun (r:Unit ⊕ Int)=>Sum.elim (fun (z:Unit)=>(((.exit 0),⟨[],[]⟩):Ex × St)) (fun (z:Int)=>((.ret,⟨[(4,dI z)],[]⟩):Ex × St)) r) (aZ a0 a1 p1):=by
 unfold cE aZ
 have u:=@N4
 exact mJ
theorem AG {β:Type} (a0 a1:List Int) (p1:Int) (k:Ex->St->Option β):bD TT lB (j8 a0 a1 p1) k = (gZ a0 a1 p1).bind (fun (r:Unit ⊕ Int)=>Sum.elim (fun (z:Unit)=>k (.exit 0) ⟨[],[]⟩) (fun (z:Int)=>k .ret ⟨[(4,dI z)],[]⟩) r):=by
 have hh:=fun (w:Int)=>zS a0 a1 w
 have h:=fun ho=>aQ (T:=TT) (k:=k) (c:=cE) (step:=(fun (w:Int)=>aZ a0 a1 w)) _ _ ho hh p1
 refine Eq.trans (h (fun r s e=>by have q:=congrArg Prod.fst e; rcases r with x | x <;> cases q)) ?_
 unfold gZ
 exact aK _ fun x=>by rcases x with x | x <;> rfl
theorem CF (a0 a1:List Int):Vm.call TT 72 [.sl (cM cI a0),.fn 77 [.ptr [.sl (cM cI a1)] 0]] = (gB a0 a1).map fun (r:Int)=>.int .i64 r:=by
 refine (aV (show TT 72 = some (.code ⟨2,19,[.tmp 4],aEo,false,false⟩) from rfl) _ rfl rfl).trans ?_
 show bD TT aEo ⟨[(0,.d (.sl (cM cI a0))),(1,.d (.fn 77 [.ptr [.sl (cM cI a1)] 0]))],[]⟩ _ = _
 unfold aEo gB
 have u:=@AG
 exact mJ
theorem CD (a0 a1:List Int):KF TT 72 [.sl (cM cI a0),.fn 77 [.ptr [.sl (cM cI a1)] 0]] (gB a0 a1) (fun (r:Int)=>dI r):=kF (CF a0 a1) (fun _=>rfl) (fun _=>rfl)
theorem AD (a0 a1:List Int):Vm.call TT 76 [.sl (cM cI a0),.fn 77 [.ptr [.sl (cM cI a1)] 0]] = (fB a0 a1).map fun (r:Bool)=>.bool r:=by
 refine (aV (show TT 76 = some (.code ⟨2,9,[.tmp 4],aOc,false,false⟩) from rfl) _ rfl rfl).trans ?_
 show bD TT aOc ⟨[(0,.d (.sl (cM cI a0))),(1,.d (.fn 77 [.ptr [.sl (cM cI a1)] 0]))],[]⟩ _ = _
 unfold aOc fB
 have u:=@CD
 exact mJ
theorem zX (a0 a1:List Int):KF TT 76 [.sl (cM cI a0),.fn 77 [.ptr [.sl (cM cI a1)] 0]] (fB a0 a1) (fun (r:Bool)=>dB r):=kF (AD a0 a1) (fun _=>rfl) (fun _=>rfl)
theorem UZ (a0 a1:List Int):Vm.call TT 48 [.sl (cM cI a0),.sl (cM cI a1)] = (uU a0 a1).map fun (r:Bool)=>.bool r:=by
 refine (aV (show TT 48 = some (.code ⟨2,9,[.tmp 4],aOS,false,false⟩) from rfl) _ rfl rfl).trans ?_
 show bD TT aOS ⟨[(0,.d (.sl (cM cI a0))),(1,.d (.sl (cM cI a1)))],[]⟩ _ = _
 unfold aOS uU
 have u:=@zX
 exact mJ
theorem UR (a0 a1:List Int):KF TT 48 [.sl (cM cI a0),.sl (cM cI a1)] (uU a0 a1) (fun (r:Bool)=>dB r):=kF (UZ a0 a1) (fun _=>rfl) (fun _=>rfl)
end Go.Proofs.Ytgjcnbgfaimepaa
