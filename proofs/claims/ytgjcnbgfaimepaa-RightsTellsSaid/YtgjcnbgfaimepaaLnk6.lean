/- The functions of the small machine compute the plain definitions. Printed by a program. -/
import Derived.Test.YtgjcnbgfaimepaaLnk5
set_option linter.unusedVariables false
set_option linter.unusedSimpArgs false
namespace Go.Proofs.Ytgjcnbgfaimepaa
open Vm
open Go.RowKit
set_option maxRecDepth 100000
set_option maxHeartbeats 4000000
attribute [local congr] yF BK yB BI
theorem KO {β:Type} (p1:List Int) (r10:(List aD)) (r13:Int × (List Int)) (r16:Int) (bl fz:List (Nat × Option aL)) (k:V->Option β) (kw:V->List (Nat × Option aL)->Option β):B0 TT 90 bl 94 [.sl (cM aD.cells r10),.sl (cM cI r13.2),.sl (cM cI p1),.int .i64 r16] fz k kw = (iA r10 r13.2 p1 r16).bind fun (r:(List Int))=>cG bl 100090 fun b=>jX b (kw (.own 100090 0) ((100090,some (.rows 0 3 1 (cM cI r))) :: fz)):=D0 (EC r10 r13.2 p1 r16) fz
abbrev uO (a0:Int) (a1:List aI) (a3:Int) (p1:List Int) (r4:(List aD)) (p5:Int) (p6:List aD):St:=⟨[(0,dI a0),(1,.d (.sl (cM aI.cells a1))),(2,.d (.sl (cM cI p1))),(3,dI a3),(9,.d (.sl (cM aD.cells r4))),(10,.own 50 0),(11,dI p5)],[(50,some (.rows 0 128 4 (cM aD.cells p6)))]⟩
theorem K1 (a0:Int) (a1:List aI) (a3:Int) (p1:List Int) (r4:(List aD)) (p5:Int) (p6:List aD):bD TT oQ (uO a0 a1 a3 p1 r4 p5 p6) (fun e s=>some (e,s)) = bP (fun (w:Int × (List aD))=>uO a0 a1 a3 p1 r4 w.1 w.2) (fun (r:(List aD))=>(((.exit 2),⟨[(0,dI a0),(1,.d (.sl (cM aI.cells a1))),(2,.d (.sl (cM cI p1))),(3,dI a3),(10,.own 50 0)],[(50,some (.rows 0 128 4 (cM aD.cells r)))]⟩):Ex × St)) (dA a0 a1 a3 p1 r4 p5 p6):=by
 unfold oQ dA
 exact G7
theorem KV {β:Type} (a0:Int) (a1:List aI) (a3:Int) (p1:List Int) (r4:(List aD)) (p5:Int) (p6:List aD) (k:Ex->St->Option β):bD TT B6 (uO a0 a1 a3 p1 r4 p5 p6) k = (kH a0 a1 a3 p1 r4 p5 p6).bind (fun (r:(List aD))=>k (.exit 2) ⟨[(0,dI a0),(1,.d (.sl (cM aI.cells a1))),(2,.d (.sl (cM cI p1))),(3,dI a3),(10,.own 50 0)],[(50,some (.rows 0 128 4 (cM aD.cells r)))]⟩):=by
 have hh:=fun (w:Int × (List aD))=>K1 a0 a1 a3 p1 r4 w.1 w.2
 have h:=fun ho=>aQ (T:=TT) (k:=k) (c:=oQ) (step:=(fun (w:Int × (List aD))=>dA a0 a1 a3 p1 r4 w.1 w.2)) _ _ ho hh (p5,p6)
 refine Eq.trans (h (fun r s e=>by have q:=congrArg Prod.fst e; rcases r with x <;> cases q)) ?_
 unfold kH
 exact aK _ fun x=>by rcases x with x <;> rfl
abbrev uV (a0:Int) (a1:List aI) (a3:Int) (p1:List Int):St:=⟨[(0,dI a0),(1,.d (.sl (cM aI.cells a1))),(2,.d (.sl (cM cI p1))),(3,dI a3)],[(100090,none)]⟩
theorem KH (a0:Int) (a1:List aI) (a3:Int) (p1:List Int):bD TT oK (uV a0 a1 a3 p1) (fun e s=>some (e,s)) = bP (fun (w:(List Int))=>uV a0 a1 a3 w) (fun (r:((List Int)) ⊕ ((List Int)))=>Sum.elim (fun (z:(List Int))=>(((.exit 0),⟨[(2,.d (.sl (cM cI z)))],[]⟩):Ex × St)) (fun (z:(List Int))=>((.ret,⟨[(8,.d (.sl (cM cI z)))],[]⟩):Ex × St)) r) (b9 a0 a1 a3 p1):=by
 unfold oK b9
 have u:=aN (aN @KV @xL) (aN @zV (aN @DL @KO))
 exact mJ
theorem KK {β:Type} (a0:Int) (a1:List aI) (a3:Int) (p1:List Int) (k:Ex->St->Option β):bD TT B4 (uV a0 a1 a3 p1) k = (rH a0 a1 a3 p1).bind (fun (r:((List Int)) ⊕ ((List Int)))=>Sum.elim (fun (z:(List Int))=>k (.exit 0) ⟨[(2,.d (.sl (cM cI z)))],[]⟩) (fun (z:(List Int))=>k .ret ⟨[(8,.d (.sl (cM cI z)))],[]⟩) r):=by
 have hh:=fun (w:(List Int))=>KH a0 a1 a3 w
 have h:=fun ho=>aQ (T:=TT) (k:=k) (c:=oK) (step:=(fun (w:(List Int))=>b9 a0 a1 a3 w)) _ _ ho hh p1
 refine Eq.trans (h (fun r s e=>by have q:=congrArg Prod.fst e; rcases r with x | x <;> cases q)) ?_
 unfold rH
 exact aK _ fun x=>by rcases x with x | x <;> rfl
theorem OO (a0:Int) (a1:List aI) (a2:List Int) (a3:Int):Vm.call TT 69 [.int .i64 a0,.sl (cM aI.cells a1),.sl (cM cI a2),.int .i64 a3] = (nC a0 a1 a2 a3).map fun (r:(List Int))=>.sl (cM cI r):=by
 refine (aV (show TT 69 = some (.code ⟨4,101,[.tmp 8],aPZ,false,false⟩) from rfl) _ rfl rfl).trans ?_
 show bD TT aPZ ⟨[(0,dI a0),(1,.d (.sl (cM aI.cells a1))),(2,.d (.sl (cM cI a2))),(3,dI a3)],[]⟩ _ = _
 unfold aPZ nC
 have u:=@KK
 exact mJ
theorem P0 (a0:Int) (a1:List aI) (a2:List Int) (a3:Int):KD TT 69 [.int .i64 a0,.sl (cM aI.cells a1),.sl (cM cI a2),.int .i64 a3] (nC a0 a1 a2 a3) (fun (r:(List Int))=>.d (.sl (cM cI r))):=kD (OO a0 a1 a2 a3) (fun _=>rfl) (fun _=>rfl) (fun _=>rfl)
theorem IB {β:Type} (p1:List Int) (r10:Int) (r4:(List aD)) (r7:Int × (List Int)) (bl fz:List (Nat × Option aL)) (k:V->Option β) (kw:V->List (Nat × Option aL)->Option β):B0 TT 66 bl 94 [.sl (cM aD.cells r4),.sl (cM cI r7.2),.sl (cM cI p1),.int .i64 r10] fz k kw = (iA r4 r7.2 p1 r10).bind fun (r:(List Int))=>cG bl 100066 fun b=>jX b (kw (.own 100066 0) ((100066,some (.rows 0 3 1 (cM cI r))) :: fz)):=D0 (EC r4 r7.2 p1 r10) fz
abbrev tH (a0:Int) (a1:List aI) (a3:Int) (p1:List Int):St:=⟨[(0,dI a0),(1,.d (.sl (cM aI.cells a1))),(2,.d (.sl (cM cI p1))),(3,dI a3)],[(100066,none)]⟩
theorem J2 (a0:Int) (a1:List aI) (a3:Int) (p1:List Int):bD TT nP (tH a0 a1 a3 p1) (fun e s=>some (e,s)) = bP (fun (w:(List Int))=>tH a0 a1 a3 w) (fun (r:((List Int)) ⊕ ((List Int)))=>Sum.elim (fun (z:(List Int))=>(((.exit 0),⟨[(2,.d (.sl (cM cI z)))],[]⟩):Ex × St)) (fun (z:(List Int))=>((.ret,⟨[(8,.d (.sl (cM cI z)))],[]⟩):Ex × St)) r) (bX a0 a1 a3 p1):=by
 unfold nP bX
 have u:=aN (aN @xL @zV) (aN @DL @IB)
 exact mJ
theorem IX {β:Type} (a0:Int) (a1:List aI) (a3:Int) (p1:List Int) (k:Ex->St->Option β):bD TT AJ (tH a0 a1 a3 p1) k = (pW a0 a1 a3 p1).bind (fun (r:((List Int)) ⊕ ((List Int)))=>Sum.elim (fun (z:(List Int))=>k (.exit 0) ⟨[(2,.d (.sl (cM cI z)))],[]⟩) (fun (z:(List Int))=>k .ret ⟨[(8,.d (.sl (cM cI z)))],[]⟩) r):=by
 have hh:=fun (w:(List Int))=>J2 a0 a1 a3 w
 have h:=fun ho=>aQ (T:=TT) (k:=k) (c:=nP) (step:=(fun (w:(List Int))=>bX a0 a1 a3 w)) _ _ ho hh p1
 refine Eq.trans (h (fun r s e=>by have q:=congrArg Prod.fst e; rcases r with x | x <;> cases q)) ?_
 unfold pW
 exact aK _ fun x=>by rcases x with x | x <;> rfl
theorem N7 (a0:Int) (a1:List aI) (a2:List Int) (a3:Int):Vm.call TT 70 [.int .i64 a0,.sl (cM aI.cells a1),.sl (cM cI a2),.int .i64 a3] = (mG a0 a1 a2 a3).map fun (r:(List Int))=>.sl (cM cI r):=by
 refine (aV (show TT 70 = some (.code ⟨4,77,[.tmp 8],aP2,false,false⟩) from rfl) _ rfl rfl).trans ?_
 show bD TT aP2 ⟨[(0,dI a0),(1,.d (.sl (cM aI.cells a1))),(2,.d (.sl (cM cI a2))),(3,dI a3)],[]⟩ _ = _
 unfold aP2 mG
 have u:=@IX
 exact mJ
theorem N0 (a0:Int) (a1:List aI) (a2:List Int) (a3:Int):KD TT 70 [.int .i64 a0,.sl (cM aI.cells a1),.sl (cM cI a2),.int .i64 a3] (mG a0 a1 a2 a3) (fun (r:(List Int))=>.d (.sl (cM cI r))):=kD (N7 a0 a1 a2 a3) (fun _=>rfl) (fun _=>rfl) (fun _=>rfl)
abbrev n9 (a0 p2:Int) (r1:(List aD)) (p4:Int) (p5:List Int):St:=⟨[(0,dI a0),(7,.d (.sl (cM aD.cells r1))),(8,.own 17 0),(9,dI p2),(10,dI p4)],[(17,some (.rows 0 3 1 (cM cI p5)))]⟩
theorem EX (a0 p2:Int) (r1:(List aD)) (p4:Int) (p5:List Int):bD TT kA (n9 a0 p2 r1 p4 p5) (fun e s=>some (e,s)) = bP (fun (w:Int × (List Int))=>n9 a0 p2 r1 w.1 w.2) (fun (r:(List Int))=>(((.exit 2),⟨[(0,dI a0),(7,.d (.sl (cM aD.cells r1))),(8,.own 17 0),(9,dI p2)],[(17,some (.rows 0 3 1 (cM cI r)))]⟩):Ex × St)) (bS a0 p2 r1 p4 p5):=by
 unfold kA bS
 have u:=@zV
 exact mJ
theorem E1 {β:Type} (a0 p2:Int) (r1:(List aD)) (p4:Int) (p5:List Int) (k:Ex->St->Option β):bD TT vK (n9 a0 p2 r1 p4 p5) k = (iR a0 p2 r1 p4 p5).bind (fun (r:(List Int))=>k (.exit 2) ⟨[(0,dI a0),(7,.d (.sl (cM aD.cells r1))),(8,.own 17 0),(9,dI p2)],[(17,some (.rows 0 3 1 (cM cI r)))]⟩):=by
 have hh:=fun (w:Int × (List Int))=>EX a0 p2 r1 w.1 w.2
 have h:=fun ho=>aQ (T:=TT) (k:=k) (c:=kA) (step:=(fun (w:Int × (List Int))=>bS a0 p2 r1 w.1 w.2)) _ _ ho hh (p4,p5)
 refine Eq.trans (h (fun r s e=>by have q:=congrArg Prod.fst e; rcases r with x <;> cases q)) ?_
 unfold iR
 exact aK _ fun x=>by rcases x with x <;> rfl
abbrev n7 (a0:Int) (r1:(List aD)) (p2:Int) (p3:List Int):St:=⟨[(0,dI a0),(7,.d (.sl (cM aD.cells r1))),(8,.own 17 0),(9,dI p2)],[(17,some (.rows 0 3 1 (cM cI p3)))]⟩
theorem EN (a0:Int) (r1:(List aD)) (p2:Int) (p3:List Int):bD TT kB (n7 a0 r1 p2 p3) (fun e s=>some (e,s)) = bP (fun (w:Int × (List Int))=>n7 a0 r1 w.1 w.2) (fun (r:(List Int))=>(((.exit 0),⟨[(8,.own 17 0)],[(17,some (.rows 0 3 1 (cM cI r)))]⟩):Ex × St)) (bU a0 r1 p2 p3):=by
 unfold kB bU
 have u:=@E1
 exact mJ
theorem EU {β:Type} (a0:Int) (r1:(List aD)) (p2:Int) (p3:List Int) (k:Ex->St->Option β):bD TT vL (n7 a0 r1 p2 p3) k = (iU a0 r1 p2 p3).bind (fun (r:(List Int))=>k (.exit 0) ⟨[(8,.own 17 0)],[(17,some (.rows 0 3 1 (cM cI r)))]⟩):=by
 have hh:=fun (w:Int × (List Int))=>EN a0 r1 w.1 w.2
 have h:=fun ho=>aQ (T:=TT) (k:=k) (c:=kB) (step:=(fun (w:Int × (List Int))=>bU a0 r1 w.1 w.2)) _ _ ho hh (p2,p3)
 refine Eq.trans (h (fun r s e=>by have q:=congrArg Prod.fst e; rcases r with x <;> cases q)) ?_
 unfold iU
 exact aK _ fun x=>by rcases x with x <;> rfl
theorem GM (a0:Int) (a1:List aI) (a2:List Int):Vm.call TT 71 [.int .i64 a0,.sl (cM aI.cells a1),.sl (cM cI a2)] = (iI a0 a1 a2).map fun (r:(List Int))=>.sl (cM cI r):=by
 refine (aV (show TT 71 = some (.code ⟨3,46,[.tmp 6],aMZ,false,false⟩) from rfl) _ rfl rfl).trans ?_
 show bD TT aMZ ⟨[(0,dI a0),(1,.d (.sl (cM aI.cells a1))),(2,.d (.sl (cM cI a2)))],[]⟩ _ = _
 unfold aMZ iI
 have u:=aN @EU @xL
 exact mJ
theorem GJ (a0:Int) (a1:List aI) (a2:List Int):KD TT 71 [.int .i64 a0,.sl (cM aI.cells a1),.sl (cM cI a2)] (iI a0 a1 a2) (fun (r:(List Int))=>.d (.sl (cM cI r))):=kD (GM a0 a1 a2) (fun _=>rfl) (fun _=>rfl) (fun _=>rfl)
abbrev tN (a0:Int) (a1:List aI) (p2:List Int) (p3:Int):St:=⟨[(0,dI a0),(1,.d (.sl (cM aI.cells a1))),(7,.d (.sl (cM cI p2))),(8,dI p3)],[(16,none)]⟩
theorem I5 (a0:Int) (a1:List aI) (p2:List Int) (p3:Int):bD TT nV (tN a0 a1 p2 p3) (fun e s=>some (e,s)) = bP (fun (w:(List Int) × Int)=>tN a0 a1 w.1 w.2) (fun (r:(List Int))=>(((.exit 0),⟨[(0,dI a0),(1,.d (.sl (cM aI.cells a1))),(7,.d (.sl (cM cI r)))],[(16,none)]⟩):Ex × St)) (dN a0 a1 p2 p3):=by
 unfold nV dN
 have u:=@P0
 exact mJ
theorem I6 {β:Type} (a0:Int) (a1:List aI) (p2:List Int) (p3:Int) (k:Ex->St->Option β):bD TT A7 (tN a0 a1 p2 p3) k = (lQ a0 a1 p2 p3).bind (fun (r:(List Int))=>k (.exit 0) ⟨[(0,dI a0),(1,.d (.sl (cM aI.cells a1))),(7,.d (.sl (cM cI r)))],[(16,none)]⟩):=by
 have hh:=fun (w:(List Int) × Int)=>I5 a0 a1 w.1 w.2
 have h:=fun ho=>aQ (T:=TT) (k:=k) (c:=nV) (step:=(fun (w:(List Int) × Int)=>dN a0 a1 w.1 w.2)) _ _ ho hh (p2,p3)
 refine Eq.trans (h (fun r s e=>by have q:=congrArg Prod.fst e; rcases r with x <;> cases q)) ?_
 unfold lQ
 exact aK _ fun x=>by rcases x with x <;> rfl
abbrev tX (a0:Int) (a1:List aI) (p7:List Int) (p8:Int):St:=⟨[(0,dI a0),(1,.d (.sl (cM aI.cells a1))),(7,.d (.sl (cM cI p7))),(9,dI p8)],[]⟩
theorem I8 (a0:Int) (a1:List aI) (p7:List Int) (p8:Int):bD TT nH (tX a0 a1 p7 p8) (fun e s=>some (e,s)) = bP (fun (w:(List Int) × Int)=>tX a0 a1 w.1 w.2) (fun (r:(List Int))=>(((.exit 2),⟨[(0,dI a0),(1,.d (.sl (cM aI.cells a1))),(7,.d (.sl (cM cI r)))],[]⟩):Ex × St)) (dT a0 a1 p7 p8):=by
 unfold nH dT
 have u:=@N0
 exact mJ
theorem J0 {β:Type} (a0:Int) (a1:List aI) (p7:List Int) (p8:Int) (k:Ex->St->Option β):bD TT AX (tX a0 a1 p7 p8) k = (lU a0 a1 p7 p8).bind (fun (r:(List Int))=>k (.exit 2) ⟨[(0,dI a0),(1,.d (.sl (cM aI.cells a1))),(7,.d (.sl (cM cI r)))],[]⟩):=by
 have hh:=fun (w:(List Int) × Int)=>I8 a0 a1 w.1 w.2
 have h:=fun ho=>aQ (T:=TT) (k:=k) (c:=nH) (step:=(fun (w:(List Int) × Int)=>dT a0 a1 w.1 w.2)) _ _ ho hh (p7,p8)
 refine Eq.trans (h (fun r s e=>by have q:=congrArg Prod.fst e; rcases r with x <;> cases q)) ?_
 unfold lU
 exact aK _ fun x=>by rcases x with x <;> rfl
theorem N5 (a0:Int) (a1:List aI):Vm.call TT 41 [.int .i64 a0,.sl (cM aI.cells a1)] = (mF a0 a1).map fun (r:(List Int) × (List Int) × Int)=>.tup [.sl (cM cI r.1),.sl (cM cI r.2.1),.int .i64 r.2.2]:=by
 refine (aV (show TT 41 = some (.code ⟨2,44,[.tmp 4,.tmp 5,.tmp 6],aOQ,false,false⟩) from rfl) _ rfl rfl).trans ?_
 show bD TT aOQ ⟨[(0,dI a0),(1,.d (.sl (cM aI.cells a1)))],[]⟩ _ = _
 unfold aOQ mF
 have u:=aN (aN @I6 @J0) (aN @DF @GJ)
 exact mJ
theorem NZ (a0:Int) (a1:List aI):KD TT 41 [.int .i64 a0,.sl (cM aI.cells a1)] (mF a0 a1) (fun (r:(List Int) × (List Int) × Int)=>.tup [.d (.sl (cM cI r.1)),.d (.sl (cM cI r.2.1)),dI r.2.2]):=kD (N5 a0 a1) (fun _=>rfl) (fun _=>rfl) (fun _=>rfl)
abbrev t7 (a0:Int) (a1:List aF) (a2:List Int) (p3:Int) (p4:List aF):St:=⟨[(0,dI a0),(1,.d (.sl (cM aF.cells a1))),(2,.d (.sl (cM cI a2))),(9,.own 26 0),(10,dI p3)],[(26,some (.rows 0 48 7 (cM aF.cells p4)))]⟩
theorem JC (a0:Int) (a1:List aF) (a2:List Int) (p3:Int) (p4:List aF):bD TT nS (t7 a0 a1 a2 p3 p4) (fun e s=>some (e,s)) = bP (fun (w:Int × (List aF))=>t7 a0 a1 a2 w.1 w.2) (fun (r:(List aF))=>(((.exit 0),⟨[(0,dI a0),(1,.d (.sl (cM aF.cells a1))),(2,.d (.sl (cM cI a2))),(9,.own 26 0)],[(26,some (.rows 0 48 7 (cM aF.cells r)))]⟩):Ex × St)) (cR a0 a1 a2 p3 p4):=by
 unfold nS cR
 have u:=@xW
 exact mJ
theorem IV {β:Type} (a0:Int) (a1:List aF) (a2:List Int) (p3:Int) (p4:List aF) (k:Ex->St->Option β):bD TT A0 (t7 a0 a1 a2 p3 p4) k = (lR a0 a1 a2 p3 p4).bind (fun (r:(List aF))=>k (.exit 0) ⟨[(0,dI a0),(1,.d (.sl (cM aF.cells a1))),(2,.d (.sl (cM cI a2))),(9,.own 26 0)],[(26,some (.rows 0 48 7 (cM aF.cells r)))]⟩):=by
 have hh:=fun (w:Int × (List aF))=>JC a0 a1 a2 w.1 w.2
 have h:=fun ho=>aQ (T:=TT) (k:=k) (c:=nS) (step:=(fun (w:Int × (List aF))=>cR a0 a1 a2 w.1 w.2)) _ _ ho hh (p3,p4)
 refine Eq.trans (h (fun r s e=>by have q:=congrArg Prod.fst e; rcases r with x <;> cases q)) ?_
 unfold lR
 exact aK _ fun x=>by rcases x with x <;> rfl
abbrev sY (a1:List aF) (a2:List Int) (r11:(List Int) × (List Int) × Int) (p12 p13:Int) (p14:List Int):St:=⟨[(1,.d (.sl (cM aF.cells a1))),(2,.d (.sl (cM cI a2))),(11,.d (.sl (cM cI r11.1))),(12,.d (.sl (cM cI r11.2.1))),(14,.own 54 0),(15,dI p12),(16,dI p13)],[(54,some (.rows 0 3 1 (cM cI p14)))]⟩
theorem J1 (a1:List aF) (a2:List Int) (r11:(List Int) × (List Int) × Int) (p12 p13:Int) (p14:List Int):bD TT nN (sY a1 a2 r11 p12 p13 p14) (fun e s=>some (e,s)) = bP (fun (w:Int × Int × (List Int))=>sY a1 a2 r11 w.1 w.2.1 w.2.2) (fun (r:(List Int))=>(((.exit 2),⟨[(12,.d (.sl (cM cI r11.2.1))),(14,.own 54 0)],[(54,some (.rows 0 3 1 (cM cI r)))]⟩):Ex × St)) (cO a1 a2 r11 p12 p13 p14):=by
 unfold nN cO
 have u:=@xW
 exact mJ
theorem IU {β:Type} (a1:List aF) (a2:List Int) (r11:(List Int) × (List Int) × Int) (p12 p13:Int) (p14:List Int) (k:Ex->St->Option β):bD TT AO (sY a1 a2 r11 p12 p13 p14) k = (lO a1 a2 r11 p12 p13 p14).bind (fun (r:(List Int))=>k (.exit 2) ⟨[(12,.d (.sl (cM cI r11.2.1))),(14,.own 54 0)],[(54,some (.rows 0 3 1 (cM cI r)))]⟩):=by
 have hh:=fun (w:Int × Int × (List Int))=>J1 a1 a2 r11 w.1 w.2.1 w.2.2
 have h:=fun ho=>aQ (T:=TT) (k:=k) (c:=nN) (step:=(fun (w:Int × Int × (List Int))=>cO a1 a2 r11 w.1 w.2.1 w.2.2)) _ _ ho hh (p12,p13,p14)
 refine Eq.trans (h (fun r s e=>by have q:=congrArg Prod.fst e; rcases r with x <;> cases q)) ?_
 unfold lO
 exact aK _ fun x=>by rcases x with x <;> rfl
theorem NS (a0:Int) (a1:List aF) (a2:List Int):Vm.call TT 11 [.int .i64 a0,.sl (cM aF.cells a1),.sl (cM cI a2)] = (fJ a0 a1 a2).map fun (r:(List Int) × (List Int) × Int)=>.tup [.sl (cM cI r.1),.sl (cM cI r.2.1),.int .i64 r.2.2]:=by
 refine (aV (show TT 11 = some (.code ⟨3,81,[.tmp 6,.tmp 7,.tmp 8],aPX,false,false⟩) from rfl) _ rfl rfl).trans ?_
 show bD TT aPX ⟨[(0,dI a0),(1,.d (.sl (cM aF.cells a1))),(2,.d (.sl (cM cI a2)))],[]⟩ _ = _
 unfold aPX fJ
 have u:=aN (aN @IV (aN @IU @xM)) (aN @yC (aN @DK @NZ))
 exact mJ
theorem DG (a0:Int) (a1:List aF) (a2:List Int):KD TT 11 [.int .i64 a0,.sl (cM aF.cells a1),.sl (cM cI a2)] (fJ a0 a1 a2) (fun (r:(List Int) × (List Int) × Int)=>.tup [.d (.sl (cM cI r.1)),.d (.sl (cM cI r.2.1)),dI r.2.2]):=kD (NS a0 a1 a2) (fun _=>rfl) (fun _=>rfl) (fun _=>rfl)
abbrev tT (a0:List Int) (p1 p2:Int):St:=⟨[(0,.d (.sl (cM cI a0))),(3,dI p1),(4,dI p2)],[]⟩
theorem IQ (a0:List Int) (p1 p2:Int):bD TT nL (tT a0 p1 p2) (fun e s=>some (e,s)) = bP (fun (w:Int × Int)=>tT a0 w.1 w.2) (fun (r:Int ⊕ Unit)=>Sum.elim (fun (z:Int)=>(((.exit 0),⟨[(3,dI z)],[]⟩):Ex × St)) (fun (z:Unit)=>((.ret,⟨[(2,dI 0)],[]⟩):Ex × St)) r) (bH a0 p1 p2):=by
 unfold nL bH
 exact G7
theorem IG {β:Type} (a0:List Int) (p1 p2:Int) (k:Ex->St->Option β):bD TT A5 (tT a0 p1 p2) k = (pX a0 p1 p2).bind (fun (r:Int ⊕ Unit)=>Sum.elim (fun (z:Int)=>k (.exit 0) ⟨[(3,dI z)],[]⟩) (fun (z:Unit)=>k .ret ⟨[(2,dI 0)],[]⟩) r):=by
 have hh:=fun (w:Int × Int)=>IQ a0 w.1 w.2
 have h:=fun ho=>aQ (T:=TT) (k:=k) (c:=nL) (step:=(fun (w:Int × Int)=>bH a0 w.1 w.2)) _ _ ho hh (p1,p2)
 refine Eq.trans (h (fun r s e=>by have q:=congrArg Prod.fst e; rcases r with x | x <;> cases q)) ?_
 unfold pX
 exact aK _ fun x=>by rcases x with x | x <;> rfl
theorem NV (a0:List Int):Vm.call TT 34 [.sl (cM cI a0)] = (mH a0).map fun (r:Int)=>.int .i64 r:=by
 refine (aV (show TT 34 = some (.code ⟨1,35,[.tmp 2],aOz,false,false⟩) from rfl) _ rfl rfl).trans ?_
 show bD TT aOz ⟨[(0,.d (.sl (cM cI a0)))],[]⟩ _ = _
 unfold aOz mH
 have u:=@IG
 exact mJ
theorem N9 (a0:List Int):KF TT 34 [.sl (cM cI a0)] (mH a0) (fun (r:Int)=>dI r):=kF (NV a0) (fun _=>rfl) (fun _=>rfl)
theorem NY (a0:Int) (a1:List aF) (a2:List Int):Vm.call TT 78 [.int .i64 a0,.sl (cM aF.cells a1),.sl (cM cI a2)] = (j6 a0 a1 a2).map fun (r:Int)=>.int .i64 r:=by
 refine (aV (show TT 78 = some (.code ⟨3,20,[.tmp 6],aMO,false,false⟩) from rfl) _ rfl rfl).trans ?_
 show bD TT aMO ⟨[(0,dI a0),(1,.d (.sl (cM aF.cells a1))),(2,.d (.sl (cM cI a2)))],[]⟩ _ = _
 unfold aMO j6
 have u:=aN @DG @N9
 exact mJ
theorem N2 (a0:Int) (a1:List aF) (a2:List Int):KF TT 78 [.int .i64 a0,.sl (cM aF.cells a1),.sl (cM cI a2)] (j6 a0 a1 a2) (fun (r:Int)=>dI r):=kF (NY a0 a1 a2) (fun _=>rfl) (fun _=>rfl)
abbrev rU (a0:Int) (a1:List aF) (a2 a3:List Int) (a4:Int) (p1:List Int) (p2:Int):St:=⟨[(0,dI a0),(1,.d (.sl (cM aF.cells a1))),(2,.d (.sl (cM cI a2))),(3,.d (.sl (cM cI a3))),(4,dI a4),(11,.d (.sl (cM cI p1))),(12,dI p2)],[]⟩
theorem HR (a0:Int) (a1:List aF) (a2 a3:List Int) (a4:Int) (p1:List Int) (p2:Int):bD TT mU (rU a0 a1 a2 a3 a4 p1 p2) (fun e s=>some (e,s)) = bP (fun (w:(List Int) × Int)=>rU a0 a1 a2 a3 a4 w.1 w.2) (fun (r:(List Int))=>(((.exit 0),⟨[(0,dI a0),(1,.d (.sl (cM aF.cells a1))),(2,.d (.sl (cM cI a2))),(11,.d (.sl (cM cI r)))],[]⟩):Ex × St)) (bL a0 a1 a2 a3 a4 p1 p2):=by
 unfold mU bL
 have u:=@FL
 exact mJ
theorem HF {β:Type} (a0:Int) (a1:List aF) (a2 a3:List Int) (a4:Int) (p1:List Int) (p2:Int) (k:Ex->St->Option β):bD TT y7 (rU a0 a1 a2 a3 a4 p1 p2) k = (oT a0 a1 a2 a3 a4 p1 p2).bind (fun (r:(List Int))=>k (.exit 0) ⟨[(0,dI a0),(1,.d (.sl (cM aF.cells a1))),(2,.d (.sl (cM cI a2))),(11,.d (.sl (cM cI r)))],[]⟩):=by
 have hh:=fun (w:(List Int) × Int)=>HR a0 a1 a2 a3 a4 w.1 w.2
 have h:=fun ho=>aQ (T:=TT) (k:=k) (c:=mU) (step:=(fun (w:(List Int) × Int)=>bL a0 a1 a2 a3 a4 w.1 w.2)) _ _ ho hh (p1,p2)
 refine Eq.trans (h (fun r s e=>by have q:=congrArg Prod.fst e; rcases r with x <;> cases q)) ?_
 unfold oT
 exact aK _ fun x=>by rcases x with x <;> rfl
theorem LL (a0:Int) (a1:List aF) (a2 a3:List Int) (a4:Int):Vm.call TT 50 [.int .i64 a0,.sl (cM aF.cells a1),.sl (cM cI a2),.sl (cM cI a3),.int .i64 a4] = (kX a0 a1 a2 a3 a4).map fun (r:Bool)=>.bool r:=by
 refine (aV (show TT 50 = some (.code ⟨5,40,[.tmp 10],aNp,false,false⟩) from rfl) _ rfl rfl).trans ?_
 show bD TT aNp ⟨[(0,dI a0),(1,.d (.sl (cM aF.cells a1))),(2,.d (.sl (cM cI a2))),(3,.d (.sl (cM cI a3))),(4,dI a4)],[]⟩ _ = _
 unfold aNp kX
 have u:=aN @HF @N2
 exact mJ
theorem M5 (a0:Int) (a1:List aF) (a2 a3:List Int) (a4:Int):KF TT 50 [.int .i64 a0,.sl (cM aF.cells a1),.sl (cM cI a2),.sl (cM cI a3),.int .i64 a4] (kX a0 a1 a2 a3 a4) (fun (r:Bool)=>dB r):=kF (LL a0 a1 a2 a3 a4) (fun _=>rfl) (fun _=>rfl)
abbrev rT (a0:List Int) (a1 p1:Int) (p2:List Int):St:=⟨[(0,.d (.sl (cM cI a0))),(1,dI a1),(5,.own 7 0),(6,dI p1)],[(7,some (.rows 0 3 1 (cM cI p2)))]⟩
theorem HK (a0:List Int) (a1 p1:Int) (p2:List Int):bD TT mS (rT a0 a1 p1 p2) (fun e s=>some (e,s)) = bP (fun (w:Int × (List Int))=>rT a0 a1 w.1 w.2) (fun (r:(List Int))=>(((.exit 0),⟨[(5,.own 7 0)],[(7,some (.rows 0 3 1 (cM cI r)))]⟩):Ex × St)) (b7 a0 a1 p1 p2):=by
 unfold mS b7
 exact G7
theorem HM {β:Type} (a0:List Int) (a1 p1:Int) (p2:List Int) (k:Ex->St->Option β):bD TT yU (rT a0 a1 p1 p2) k = (o9 a0 a1 p1 p2).bind (fun (r:(List Int))=>k (.exit 0) ⟨[(5,.own 7 0)],[(7,some (.rows 0 3 1 (cM cI r)))]⟩):=by
 have hh:=fun (w:Int × (List Int))=>HK a0 a1 w.1 w.2
 have h:=fun ho=>aQ (T:=TT) (k:=k) (c:=mS) (step:=(fun (w:Int × (List Int))=>b7 a0 a1 w.1 w.2)) _ _ ho hh (p1,p2)
 refine Eq.trans (h (fun r s e=>by have q:=congrArg Prod.fst e; rcases r with x <;> cases q)) ?_
 unfold o9
 exact aK _ fun x=>by rcases x with x <;> rfl
theorem LU (a0:List Int) (a1:Int):Vm.call TT 51 [.sl (cM cI a0),.int .i64 a1] = (jE a0 a1).map fun (r:(List Int))=>.sl (cM cI r):=by
 refine (aV (show TT 51 = some (.code ⟨2,27,[.tmp 4],aNJ,false,false⟩) from rfl) _ rfl rfl).trans ?_
 show bD TT aNJ ⟨[(0,.d (.sl (cM cI a0))),(1,dI a1)],[]⟩ _ = _
 unfold aNJ jE
 have u:=@HM
 exact mJ
theorem LI (a0:List Int) (a1:Int):KD TT 51 [.sl (cM cI a0),.int .i64 a1] (jE a0 a1) (fun (r:(List Int))=>.d (.sl (cM cI r))):=kD (LU a0 a1) (fun _=>rfl) (fun _=>rfl) (fun _=>rfl)
abbrev tQ (a0:Int) (a1:List aF) (a2:List Int) (r3:(List Int)) (p4:Int) (p5:List Int):St:=⟨[(0,dI a0),(1,.d (.sl (cM aF.cells a1))),(2,.d (.sl (cM cI a2))),(8,.own 30 0),(9,.d (.sl (cM cI r3))),(10,dI p4)],[(30,some (.rows 0 3 1 (cM cI p5)))]⟩
theorem ID (a0:Int) (a1:List aF) (a2:List Int) (r3:(List Int)) (p4:Int) (p5:List Int):bD TT nJ (tQ a0 a1 a2 r3 p4 p5) (fun e s=>some (e,s)) = bP (fun (w:Int × (List Int))=>tQ a0 a1 a2 r3 w.1 w.2) (fun (r:(List Int))=>(((.exit 0),⟨[(0,dI a0),(1,.d (.sl (cM aF.cells a1))),(2,.d (.sl (cM cI a2))),(8,.own 30 0)],[(30,some (.rows 0 3 1 (cM cI r)))]⟩):Ex × St)) (cN a0 a1 a2 r3 p4 p5):=by
 unfold nJ cN
 have u:=@AF
 exact mJ
theorem I9 {β:Type} (a0:Int) (a1:List aF) (a2:List Int) (r3:(List Int)) (p4:Int) (p5:List Int) (k:Ex->St->Option β):bD TT AP (tQ a0 a1 a2 r3 p4 p5) k = (lW a0 a1 a2 r3 p4 p5).bind (fun (r:(List Int))=>k (.exit 0) ⟨[(0,dI a0),(1,.d (.sl (cM aF.cells a1))),(2,.d (.sl (cM cI a2))),(8,.own 30 0)],[(30,some (.rows 0 3 1 (cM cI r)))]⟩):=by
 have hh:=fun (w:Int × (List Int))=>ID a0 a1 a2 r3 w.1 w.2
 have h:=fun ho=>aQ (T:=TT) (k:=k) (c:=nJ) (step:=(fun (w:Int × (List Int))=>cN a0 a1 a2 r3 w.1 w.2)) _ _ ho hh (p4,p5)
 refine Eq.trans (h (fun r s e=>by have q:=congrArg Prod.fst e; rcases r with x <;> cases q)) ?_
 unfold lW
 exact aK _ fun x=>by rcases x with x <;> rfl
abbrev tJ (a0:Int) (a1:List aF) (a2:List Int) (r10:(List Int)) (p11:Int) (p12:List Bool):St:=⟨[(0,dI a0),(1,.d (.sl (cM aF.cells a1))),(2,.d (.sl (cM cI a2))),(8,.own 30 0),(11,.own 56 0),(12,dI p11)],[(30,some (.rows 0 3 1 (cM cI r10))),(56,some (.rows 0 4 1 (cM cB p12)))]⟩
theorem JQ (a0:Int) (a1:List aF) (a2:List Int) (r10:(List Int)) (p11:Int) (p12:List Bool):bD TT nO (tJ a0 a1 a2 r10 p11 p12) (fun e s=>some (e,s)) = bP (fun (w:Int × (List Bool))=>tJ a0 a1 a2 r10 w.1 w.2) (fun (r:(List Bool))=>(((.exit 2),⟨[(8,.own 30 0),(11,.own 56 0)],[(30,some (.rows 0 3 1 (cM cI r10))),(56,some (.rows 0 4 1 (cM cB r)))]⟩):Ex × St)) (cQ a0 a1 a2 r10 p11 p12):=by
 unfold nO cQ
 have u:=@M5
 exact mJ
theorem JS {β:Type} (a0:Int) (a1:List aF) (a2:List Int) (r10:(List Int)) (p11:Int) (p12:List Bool) (k:Ex->St->Option β):bD TT AQ (tJ a0 a1 a2 r10 p11 p12) k = (lK a0 a1 a2 r10 p11 p12).bind (fun (r:(List Bool))=>k (.exit 2) ⟨[(8,.own 30 0),(11,.own 56 0)],[(30,some (.rows 0 3 1 (cM cI r10))),(56,some (.rows 0 4 1 (cM cB r)))]⟩):=by
 have hh:=fun (w:Int × (List Bool))=>JQ a0 a1 a2 r10 w.1 w.2
 have h:=fun ho=>aQ (T:=TT) (k:=k) (c:=nO) (step:=(fun (w:Int × (List Bool))=>cQ a0 a1 a2 r10 w.1 w.2)) _ _ ho hh (p11,p12)
 refine Eq.trans (h (fun r s e=>by have q:=congrArg Prod.fst e; rcases r with x <;> cases q)) ?_
 unfold lK
 exact aK _ fun x=>by rcases x with x <;> rfl
abbrev s8 (p16:List (List Int)) (p17:Int) (r10:(List Int)) (r15:(List Bool)) (p19:Bool) (p20:Int):St:=⟨[(8,.d (.sl (cM cI r10))),(11,.own 56 0),(13,.d (.sl (cM (cL cI) p16))),(14,dI p17),(15,dB p19),(16,dI p20)],[(30,none),(56,some (.rows 0 4 1 (cM cB r15))),(73,none)]⟩
theorem IE (p16:List (List Int)) (p17:Int) (r10:(List Int)) (r15:(List Bool)) (p19:Bool) (p20:Int):bD TT nU (s8 p16 p17 r10 r15 p19 p20) (fun e s=>some (e,s)) = bP (fun (w:Bool × Int)=>s8 p16 p17 r10 r15 w.1 w.2) (fun (r:Bool)=>(((.exit 6),⟨[(8,.d (.sl (cM cI r10))),(11,.own 56 0),(13,.d (.sl (cM (cL cI) p16))),(14,dI p17),(15,dB r)],[(30,none),(56,some (.rows 0 4 1 (cM cB r15))),(73,none)]⟩):Ex × St)) (bE p16 p17 r10 r15 p19 p20):=by
 unfold nU bE
 exact G7
theorem JX {β:Type} (p16:List (List Int)) (p17:Int) (r10:(List Int)) (r15:(List Bool)) (p19:Bool) (p20:Int) (k:Ex->St->Option β):bD TT A6 (s8 p16 p17 r10 r15 p19 p20) k = (lS p16 p17 r10 r15 p19 p20).bind (fun (r:Bool)=>k (.exit 6) ⟨[(8,.d (.sl (cM cI r10))),(11,.own 56 0),(13,.d (.sl (cM (cL cI) p16))),(14,dI p17),(15,dB r)],[(30,none),(56,some (.rows 0 4 1 (cM cB r15))),(73,none)]⟩):=by
 have hh:=fun (w:Bool × Int)=>IE p16 p17 r10 r15 w.1 w.2
 have h:=fun ho=>aQ (T:=TT) (k:=k) (c:=nU) (step:=(fun (w:Bool × Int)=>bE p16 p17 r10 r15 w.1 w.2)) _ _ ho hh (p19,p20)
 refine Eq.trans (h (fun r s e=>by have q:=congrArg Prod.fst e; rcases r with x <;> cases q)) ?_
 unfold lS
 exact aK _ fun x=>by rcases x with x <;> rfl
theorem II {β:Type} (p16:List (List Int)) (p17 p26:Int) (r10:(List Int)) (r15:(List Bool)) (r24:(List Int)) (p30:Bool) (p31:List (List Int)) (k:Ex->St->Option β):bD TT s0 ⟨[(8,.d (.sl (cM cI r10))),(11,.own 56 0),(13,.d (.sl (cM (cL cI) p16))),(14,dI p17),(17,.d (.sl (cM cI r24))),(18,.own 104 0),(19,dB p30),(20,dI p26)],[(56,some (.rows 0 4 1 (cM cB r15))),(73,none),(104,some (.rows 0 23 1 (cM (cL cI) p31)))]⟩ k = (gY p16 p17 p26 r10 r15 r24 p30 p31).bind (fun (r:(List (List Int)))=>k .normal ⟨[(8,.d (.sl (cM cI r10))),(11,.own 56 0),(13,.d (.sl (cM (cL cI) p16))),(14,dI p17),(17,.d (.sl (cM cI r24))),(18,.own 104 0),(19,dB p30),(20,dI p26)],[(56,some (.rows 0 4 1 (cM cB r15))),(73,none),(104,some (.rows 0 23 1 (cM (cL cI) r)))]⟩):=by
 unfold s0 gY
 exact G7
abbrev t8 (p16:List (List Int)) (p17:Int) (r10:(List Int)) (r15:(List Bool)) (r24:(List Int)) (p25:Bool) (p26:Int) (p27:List (List Int)):St:=⟨[(8,.d (.sl (cM cI r10))),(11,.own 56 0),(13,.d (.sl (cM (cL cI) p16))),(14,dI p17),(17,.d (.sl (cM cI r24))),(18,.own 104 0),(19,dB p25),(20,dI p26)],[(56,some (.rows 0 4 1 (cM cB r15))),(73,none),(104,some (.rows 0 23 1 (cM (cL cI) p27)))]⟩
theorem IM (p16:List (List Int)) (p17:Int) (r10:(List Int)) (r15:(List Bool)) (r24:(List Int)) (p25:Bool) (p26:Int) (p27:List (List Int)):bD TT nK (t8 p16 p17 r10 r15 r24 p25 p26 p27) (fun e s=>some (e,s)) = bP (fun (w:Bool × Int × (List (List Int)))=>t8 p16 p17 r10 r15 r24 w.1 w.2.1 w.2.2) (fun (r:Bool × (List (List Int)))=>(((.exit 8),⟨[(8,.d (.sl (cM cI r10))),(11,.own 56 0),(14,dI p17),(17,.d (.sl (cM cI r24))),(18,.own 104 0),(19,dB r.1)],[(56,some (.rows 0 4 1 (cM cB r15))),(104,some (.rows 0 23 1 (cM (cL cI) r.2)))]⟩):Ex × St)) (bG p16 p17 r10 r15 r24 p25 p26 p27):=by
 unfold nK bG
 have u:=aN @II @DB
 exact mJ
theorem IF {β:Type} (p16:List (List Int)) (p17:Int) (r10:(List Int)) (r15:(List Bool)) (r24:(List Int)) (p25:Bool) (p26:Int) (p27:List (List Int)) (k:Ex->St->Option β):bD TT A4 (t8 p16 p17 r10 r15 r24 p25 p26 p27) k = (jT p16 p17 r10 r15 r24 p25 p26 p27).bind (fun (r:Bool × (List (List Int)))=>k (.exit 8) ⟨[(8,.d (.sl (cM cI r10))),(11,.own 56 0),(14,dI p17),(17,.d (.sl (cM cI r24))),(18,.own 104 0),(19,dB r.1)],[(56,some (.rows 0 4 1 (cM cB r15))),(104,some (.rows 0 23 1 (cM (cL cI) r.2)))]⟩):=by
 have hh:=fun (w:Bool × Int × (List (List Int)))=>IM p16 p17 r10 r15 r24 w.1 w.2.1 w.2.2
 have h:=fun ho=>aQ (T:=TT) (k:=k) (c:=nK) (step:=(fun (w:Bool × Int × (List (List Int)))=>bG p16 p17 r10 r15 r24 w.1 w.2.1 w.2.2)) _ _ ho hh (p25,p26,p27)
 refine Eq.trans (h (fun r s e=>by have q:=congrArg Prod.fst e; rcases r with x <;> cases q)) ?_
 unfold jT
 exact aK _ fun x=>by rcases x with x <;> rfl
abbrev tL (r10:(List Int)) (r15:(List Bool)) (p16:List (List Int)) (p17:Int):St:=⟨[(8,.d (.sl (cM cI r10))),(11,.own 56 0),(13,.d (.sl (cM (cL cI) p16))),(14,dI p17)],[(30,none),(56,some (.rows 0 4 1 (cM cB r15))),(73,none),(104,none)]⟩
theorem JZ (r10:(List Int)) (r15:(List Bool)) (p16:List (List Int)) (p17:Int):bD TT nY (tL r10 r15 p16 p17) (fun e s=>some (e,s)) = bP (fun (w:(List (List Int)) × Int)=>tL r10 r15 w.1 w.2) (fun (r:(List (List Int)))=>(((.exit 4),⟨[(13,.d (.sl (cM (cL cI) r)))],[(73,none)]⟩):Ex × St)) (dS r10 r15 p16 p17):=by
 unfold nY dS
 have u:=aN @JX (aN @IF @LI)
 exact mJ
theorem IW {β:Type} (r10:(List Int)) (r15:(List Bool)) (p16:List (List Int)) (p17:Int) (k:Ex->St->Option β):bD TT AY (tL r10 r15 p16 p17) k = (lJ r10 r15 p16 p17).bind (fun (r:(List (List Int)))=>k (.exit 4) ⟨[(13,.d (.sl (cM (cL cI) r)))],[(73,none)]⟩):=by
 have hh:=fun (w:(List (List Int)) × Int)=>JZ r10 r15 w.1 w.2
 have h:=fun ho=>aQ (T:=TT) (k:=k) (c:=nY) (step:=(fun (w:(List (List Int)) × Int)=>dS r10 r15 w.1 w.2)) _ _ ho hh (p16,p17)
 refine Eq.trans (h (fun r s e=>by have q:=congrArg Prod.fst e; rcases r with x <;> cases q)) ?_
 unfold lJ
 exact aK _ fun x=>by rcases x with x <;> rfl
theorem N8 (a0:Int) (a1:List aF) (a2:List Int):Vm.call TT 13 [.int .i64 a0,.sl (cM aF.cells a1),.sl (cM cI a2)] = (gG a0 a1 a2).map fun (r:(List (List Int)) × Int)=>.tup [.sl (cM (cL cI) r.1),.int .i64 r.2]:=by
 refine (aV (show TT 13 = some (.code ⟨3,140,[.tmp 6,.tmp 7],aMT,false,false⟩) from rfl) _ rfl rfl).trans ?_
 show bD TT aMT ⟨[(0,dI a0),(1,.d (.sl (cM aF.cells a1))),(2,.d (.sl (cM cI a2)))],[]⟩ _ = _
 unfold aMT gG
 have u:=aN (aN @I9 (aN @JS @IW)) (aN @xM (aN @vN @DK))
 exact mJ
theorem NL (a0:Int) (a1:List aF) (a2:List Int):KD TT 13 [.int .i64 a0,.sl (cM aF.cells a1),.sl (cM cI a2)] (gG a0 a1 a2) (fun (r:(List (List Int)) × Int)=>.tup [.d (.sl (cM (cL cI) r.1)),dI r.2]):=kD (N8 a0 a1 a2) (fun _=>rfl) (fun _=>rfl) (fun _=>rfl)
abbrev qG (a0:List aF) (a1:List Int) (a2 a3 p1:Int) (p2:List Int) (p3:List b6):St:=⟨[(0,.d (.sl (cM aF.cells a0))),(1,.d (.sl (cM cI a1))),(2,dI a2),(3,dI a3),(10,.own 13 0),(11,.own 14 0),(12,dI p1)],[(13,some (.rows 0 3 1 (cM cI p2))),(14,some (.rows 0 60 9 (cM b6.cells p3)))]⟩
theorem FT (a0:List aF) (a1:List Int) (a2 a3 p1:Int) (p2:List Int) (p3:List b6):bD TT k9 (qG a0 a1 a2 a3 p1 p2 p3) (fun e s=>some (e,s)) = bP (fun (w:Int × (List Int) × (List b6))=>qG a0 a1 a2 a3 w.1 w.2.1 w.2.2) (fun (r:(List Int) × (List b6))=>(((.exit 0),⟨[(10,.own 13 0),(11,.own 14 0)],[(13,some (.rows 0 3 1 (cM cI r.1))),(14,some (.rows 0 60 9 (cM b6.cells r.2)))]⟩):Ex × St)) (bJ a0 a1 a2 a3 p1 p2 p3):=by
 unfold k9 bJ
 exact G7
theorem FV {β:Type} (a0:List aF) (a1:List Int) (a2 a3 p1:Int) (p2:List Int) (p3:List b6) (k:Ex->St->Option β):bD TT xS (qG a0 a1 a2 a3 p1 p2 p3) k = (fK a0 a1 a2 a3 p1 p2 p3).bind (fun (r:(List Int) × (List b6))=>k (.exit 0) ⟨[(10,.own 13 0),(11,.own 14 0)],[(13,some (.rows 0 3 1 (cM cI r.1))),(14,some (.rows 0 60 9 (cM b6.cells r.2)))]⟩):=by
 have hh:=fun (w:Int × (List Int) × (List b6))=>FT a0 a1 a2 a3 w.1 w.2.1 w.2.2
 have h:=fun ho=>aQ (T:=TT) (k:=k) (c:=k9) (step:=(fun (w:Int × (List Int) × (List b6))=>bJ a0 a1 a2 a3 w.1 w.2.1 w.2.2)) _ _ ho hh (p1,p2,p3)
 refine Eq.trans (h (fun r s e=>by have q:=congrArg Prod.fst e; rcases r with x <;> cases q)) ?_
 unfold fK
 exact aK _ fun x=>by rcases x with x <;> rfl
theorem I1 (a0:List aF) (a1:List Int) (a2 a3:Int):Vm.call TT 15 [.sl (cM aF.cells a0),.sl (cM cI a1),.int .i64 a2,.int .i64 a3] = (jO a0 a1 a2 a3).map fun (r:(List Int) × (List b6))=>.tup [.sl (cM cI r.1),.sl (cM b6.cells r.2)]:=by
 refine (aV (show TT 15 = some (.code ⟨4,73,[.tmp 8,.tmp 9],aPQ,false,false⟩) from rfl) _ rfl rfl).trans ?_
 show bD TT aPQ ⟨[(0,.d (.sl (cM aF.cells a0))),(1,.d (.sl (cM cI a1))),(2,dI a2),(3,dI a3)],[]⟩ _ = _
 unfold aPQ jO
 have u:=@FV
 exact mJ
theorem IK (a0:List aF) (a1:List Int) (a2 a3:Int):KD TT 15 [.sl (cM aF.cells a0),.sl (cM cI a1),.int .i64 a2,.int .i64 a3] (jO a0 a1 a2 a3) (fun (r:(List Int) × (List b6))=>.tup [.d (.sl (cM cI r.1)),.d (.sl (cM b6.cells r.2))]):=kD (I1 a0 a1 a2 a3) (fun _=>rfl) (fun _=>rfl) (fun _=>rfl)
abbrev pR (a0 a1:List b6) (p1:Int):St:=⟨[(0,.d (.sl (cM b6.cells a0))),(1,.d (.sl (cM b6.cells a1))),(5,dI p1)],[]⟩
theorem FW (a0 a1:List b6) (p1:Int):bD TT kZ (pR a0 a1 p1) (fun e s=>some (e,s)) = bP (fun (w:Int)=>pR a0 a1 w) (fun (r:Unit ⊕ Unit)=>Sum.elim (fun (z:Unit)=>(((.exit 0),⟨[],[]⟩):Ex × St)) (fun (z:Unit)=>((.ret,⟨[(4,dB false)],[]⟩):Ex × St)) r) (cD a0 a1 p1):=by
 unfold kZ cD
 exact G7
theorem FP {β:Type} (a0 a1:List b6) (p1:Int) (k:Ex->St->Option β):bD TT xO (pR a0 a1 p1) k = (rS a0 a1 p1).bind (fun (r:Unit ⊕ Unit)=>Sum.elim (fun (z:Unit)=>k (.exit 0) ⟨[],[]⟩) (fun (z:Unit)=>k .ret ⟨[(4,dB false)],[]⟩) r):=by
 have hh:=fun (w:Int)=>FW a0 a1 w
 have h:=fun ho=>aQ (T:=TT) (k:=k) (c:=kZ) (step:=(fun (w:Int)=>cD a0 a1 w)) _ _ ho hh p1
 refine Eq.trans (h (fun r s e=>by have q:=congrArg Prod.fst e; rcases r with x | x <;> cases q)) ?_
 unfold rS
 exact aK _ fun x=>by rcases x with x | x <;> rfl
theorem JA (a0 a1:List b6):Vm.call TT 18 [.sl (cM b6.cells a0),.sl (cM b6.cells a1)] = (jV a0 a1).map fun (r:Bool)=>.bool r:=by
 refine (aV (show TT 18 = some (.code ⟨2,26,[.tmp 4],aOC,false,false⟩) from rfl) _ rfl rfl).trans ?_
 show bD TT aOC ⟨[(0,.d (.sl (cM b6.cells a0))),(1,.d (.sl (cM b6.cells a1)))],[]⟩ _ = _
 unfold aOC jV
 have u:=@FP
 exact mJ
theorem IR (a0 a1:List b6):KF TT 18 [.sl (cM b6.cells a0),.sl (cM b6.cells a1)] (jV a0 a1) (fun (r:Bool)=>dB r):=kF (JA a0 a1) (fun _=>rfl) (fun _=>rfl)
end Go.Proofs.Ytgjcnbgfaimepaa
