/- The functions of the small machine compute the plain definitions. Printed by a program. -/
import Derived.Test.YtgjcnbgfaimepaaLnk3
set_option linter.unusedVariables false
set_option linter.unusedSimpArgs false
namespace Go.Proofs.Ytgjcnbgfaimepaa
open Vm
open Go.RowKit
set_option maxRecDepth 100000
set_option maxHeartbeats 4000000
attribute [local congr] yZ BS zP BP
theorem IR (a0 a1:List Int):Vm.call TT 47 [.sl (cM cI a0),.ptr [.sl (cM cI a1)] 0] = (pM a0 a1).map fun (r:Bool)=>.bool r:=by
 refine (bI (show TT 47 = some (.code ⟨2,7,[.tmp 3],aMp,false,false⟩) from rfl) _ rfl rfl).trans ?_
 show bU TT aMp ⟨[(0,.d (.sl (cM cI a0))),(1,.d (.ptr [.sl (cM cI a1)] 0))],[]⟩ _ = _
 unfold aMp pM
 have u:=@N4
 exact n8
theorem IG (a0 a1:List Int):KF TT 47 [.sl (cM cI a0),.ptr [.sl (cM cI a1)] 0] (pM a0 a1) (fun (r:Bool)=>dB r):=kF (IR a0 a1) (fun _=>rfl) (fun _=>rfl)
abbrev gD (a0:List (List Int)) (a1:List Int) (p1:Int):St:=⟨[(0,.d (.sl (cM (cL cI) a0))),(1,.d (.fn 47 [.ptr [.sl (cM cI a1)] 0])),(7,dI (a0.length:Int)),(8,dI p1)],[]⟩
theorem s7 (a0:List (List Int)) (a1:List Int) (p1:Int):bU TT eX (gD a0 a1 p1) (fun e s=>some (e,s)) = cJ (fun (w:Int)=>gD a0 a1 w) (fun (r:Unit ⊕ Int)=>Sum.elim (fun (z:Unit)=>(((.exit 0),⟨[],[]⟩):Ex × St)) (fun (z:Int)=>((.ret,⟨[(4,dI z)],[]⟩):Ex × St)) r) (dX a0 a1 p1):=by
 unfold eX dX
 have u:=@IG
 exact n8
theorem tH {β:Type} (a0:List (List Int)) (a1:List Int) (p1:Int) (k:Ex->St->Option β):bU TT mJ (gD a0 a1 p1) k = (gW a0 a1 p1).bind (fun (r:Unit ⊕ Int)=>Sum.elim (fun (z:Unit)=>k (.exit 0) ⟨[],[]⟩) (fun (z:Int)=>k .ret ⟨[(4,dI z)],[]⟩) r):=by
 have hh:=fun (w:Int)=>s7 a0 a1 w
 have h:=fun ho=>bA (T:=TT) (k:=k) (c:=eX) (step:=(fun (w:Int)=>dX a0 a1 w)) _ _ ho hh p1
 refine Eq.trans (h (fun r s e=>by have q:=congrArg Prod.fst e; rcases r with x | x <;> cases q)) ?_
 unfold gW
 exact aP _ fun x=>by rcases x with x | x <;> rfl
theorem vU (a0:List (List Int)) (a1:List Int):Vm.call TT 75 [.sl (cM (cL cI) a0),.fn 47 [.ptr [.sl (cM cI a1)] 0]] = (fG a0 a1).map fun (r:Int)=>.int .i64 r:=by
 refine (bI (show TT 75 = some (.code ⟨2,19,[.tmp 4],aOs,false,false⟩) from rfl) _ rfl rfl).trans ?_
 show bU TT aOs ⟨[(0,.d (.sl (cM (cL cI) a0))),(1,.d (.fn 47 [.ptr [.sl (cM cI a1)] 0]))],[]⟩ _ = _
 unfold aOs fG
 have u:=@tH
 exact n8
theorem vW (a0:List (List Int)) (a1:List Int):KF TT 75 [.sl (cM (cL cI) a0),.fn 47 [.ptr [.sl (cM cI a1)] 0]] (fG a0 a1) (fun (r:Int)=>dI r):=kF (vU a0 a1) (fun _=>rfl) (fun _=>rfl)
theorem tM (a0:List (List Int)) (a1:List Int):Vm.call TT 46 [.sl (cM (cL cI) a0),.fn 47 [.ptr [.sl (cM cI a1)] 0]] = (eQ a0 a1).map fun (r:Bool)=>.bool r:=by
 refine (bI (show TT 46 = some (.code ⟨2,9,[.tmp 4],aMq,false,false⟩) from rfl) _ rfl rfl).trans ?_
 show bU TT aMq ⟨[(0,.d (.sl (cM (cL cI) a0))),(1,.d (.fn 47 [.ptr [.sl (cM cI a1)] 0]))],[]⟩ _ = _
 unfold aMq eQ
 have u:=@vW
 exact n8
theorem kZ (a0:List (List Int)) (a1:List Int):KF TT 46 [.sl (cM (cL cI) a0),.fn 47 [.ptr [.sl (cM cI a1)] 0]] (eQ a0 a1) (fun (r:Bool)=>dB r):=kF (tM a0 a1) (fun _=>rfl) (fun _=>rfl)
theorem BL {β:Type} (a1:List aE) (bl fz:List (Nat × Option aJ)) (k:V->Option β) (kw:V->List (Nat × Option aJ)->Option β):tT TT 26 bl 21 [.sl (cM aE.cells a1)] fz k kw = (oI a1).bind fun (r:(List Int))=>bC bl 100026 fun b=>fU b (kw (.own 100026 0) ((100026,some (.rows 0 3 1 (cM cI r))) :: fz)):=IZ (D4 a1) fz
theorem uQ {β:Type} (x22:List Int) (bl:List (Nat × Option aJ)) (k:V->Option β) (kw:V->List (Nat × Option aJ)->Option β):wM TT 30044 bl 49 [.sl (cM cI x22)] k kw = (gJ x22).bind fun (r:(List Int))=>bC bl 130044 fun b=>fU b (kw (.own 130044 0) ((130044,some (.rows 0 3 1 (cM cI r))) :: [])):=qW (vI x22) (fun _=>(nS rfl (uL (oB _ (fun _=>rfl) _) rfl)))
theorem u0 {β:Type} (a2:List Int) (bl:List (Nat × Option aJ)) (k:V->Option β) (kw:V->List (Nat × Option aJ)->Option β):wM TT 50051 bl 49 [.sl (cM cI a2)] k kw = (gJ a2).bind fun (r:(List Int))=>bC bl 150051 fun b=>fU b (kw (.own 150051 0) ((150051,some (.rows 0 3 1 (cM cI r))) :: [])):=qW (vI a2) (fun _=>(nS rfl (uL (oB _ (fun _=>rfl) _) rfl)))
abbrev uS (a0:Int) (a1:List aE) (a2:List Int) (p5 p6:Int) (p7:List Int):St:=⟨[(0,.own 100026 0),(1,.d (.fn 43 [.ptr [.sl (cM cI a2)] 0])),(5,dI p5),(6,dI p6)],[(3,some (.box [dI a0])),(4,some (.box [.d (.sl (cM aE.cells a1))])),(8001,some (.outer [.ptr 3 0,.ptr 4 0,.d (.ptr [.sl (cM cI a2)] 0)])),(100026,some (.rows 0 3 1 (cM cI p7)))]⟩
theorem LE (a0:Int) (a1:List aE) (a2:List Int) (p5 p6:Int) (p7:List Int):bU TT qG (uS a0 a1 a2 p5 p6 p7) (fun e s=>some (e,s)) = cJ (fun (w:Int × Int × (List Int))=>uS a0 a1 a2 w.1 w.2.1 w.2.2) (fun (r:Int × (List Int))=>(((.exit 0),⟨[(0,.own 100026 0),(5,dI r.1)],[(3,some (.box [dI a0])),(4,some (.box [.d (.sl (cM aE.cells a1))])),(8001,some (.outer [.ptr 3 0,.ptr 4 0,.d (.ptr [.sl (cM cI a2)] 0)])),(100026,some (.rows 0 3 1 (cM cI r.2)))]⟩):Ex × St)) (qJ a0 a1 a2 p5 p6 p7):=by
 unfold qG qJ
 have u:=aN (aN (aN @uI @wK) (aN @AC (aN @wU @zY))) (aN (aN @kZ @mH) (aN @BL (aN @uQ @u0)))
 exact n8
theorem KQ {β:Type} (a0:Int) (a1:List aE) (a2:List Int) (p5 p6:Int) (p7:List Int) (k:Ex->St->Option β):bU TT BG (uS a0 a1 a2 p5 p6 p7) k = (xL a0 a1 a2 p5 p6 p7).bind (fun (r:Int × (List Int))=>k (.exit 0) ⟨[(0,.own 100026 0),(5,dI r.1)],[(3,some (.box [dI a0])),(4,some (.box [.d (.sl (cM aE.cells a1))])),(8001,some (.outer [.ptr 3 0,.ptr 4 0,.d (.ptr [.sl (cM cI a2)] 0)])),(100026,some (.rows 0 3 1 (cM cI r.2)))]⟩):=by
 have hh:=fun (w:Int × Int × (List Int))=>LE a0 a1 a2 w.1 w.2.1 w.2.2
 have h:=fun ho=>bA (T:=TT) (k:=k) (c:=qG) (step:=(fun (w:Int × Int × (List Int))=>qJ a0 a1 a2 w.1 w.2.1 w.2.2)) _ _ ho hh (p5,p6,p7)
 refine Eq.trans (h (fun r s e=>by have q:=congrArg Prod.fst e; rcases r with x <;> cases q)) ?_
 unfold xL
 exact aP _ fun x=>by rcases x with x <;> rfl
abbrev uX (a0:Int) (a1:List aE) (a2 p14:List Int) (p17:List (List Int)) (p18:Int) (p19:List (List Int)) (p20 r16:Int) (x22:List Int) (p25:Int) (p26:List (List Int)):St:=⟨[(1,.ptr 20001 0),(4,.own 30049 0),(6,.d (.sl (cM cI x22))),(8,dI p25),(16,dI (p14.length:Int)),(17,dI p18),(19,.d (.sl (cM (cL cI) p17))),(20,dI (p17.length:Int)),(21,dI p20)],[(3,some (.box [dI a0])),(4,some (.box [.d (.sl (cM aE.cells a1))])),(11,some (.box [dI r16])),(12,some (.box [.own 50064 0])),(8003,some (.outer [.ptr 3 0,.ptr 4 0,.d (.ptr [.sl (cM cI a2)] 0),.ptr 11 0,.ptr 12 0])),(20001,some (.box [.own 100026 0])),(30014,none),(30049,some (.rows 0 23 1 (cM (cL cI) p26))),(50064,some (.rows 0 23 1 (cM (cL cI) p19))),(100026,some (.rows 0 3 1 (cM cI p14)))]⟩
theorem K4 (a0:Int) (a1:List aE) (a2 p14:List Int) (p17:List (List Int)) (p18:Int) (p19:List (List Int)) (p20 r16:Int) (x22:List Int) (p25:Int) (p26:List (List Int)):bU TT qA (uX a0 a1 a2 p14 p17 p18 p19 p20 r16 x22 p25 p26) (fun e s=>some (e,s)) = cJ (fun (w:Int × (List (List Int)))=>uX a0 a1 a2 p14 p17 p18 p19 p20 r16 x22 w.1 w.2) (fun (r:(List (List Int)))=>(((.exit 4),⟨[(1,.ptr 20001 0),(4,.own 30049 0),(16,dI (p14.length:Int)),(17,dI p18),(19,.d (.sl (cM (cL cI) p17))),(20,dI (p17.length:Int)),(21,dI p20)],[(3,some (.box [dI a0])),(4,some (.box [.d (.sl (cM aE.cells a1))])),(11,some (.box [dI r16])),(12,some (.box [.own 50064 0])),(8003,some (.outer [.ptr 3 0,.ptr 4 0,.d (.ptr [.sl (cM cI a2)] 0),.ptr 11 0,.ptr 12 0])),(20001,some (.box [.own 100026 0])),(30014,none),(30049,some (.rows 0 23 1 (cM (cL cI) r))),(50064,some (.rows 0 23 1 (cM (cL cI) p19))),(100026,some (.rows 0 3 1 (cM cI p14)))]⟩):Ex × St)) (pJ a0 a1 a2 p14 p17 p18 p19 p20 r16 x22 p25 p26):=by
 unfold qA pJ
 have u:=aN @uQ @u0
 exact n8
theorem LO {β:Type} (a0:Int) (a1:List aE) (a2 p14:List Int) (p17:List (List Int)) (p18:Int) (p19:List (List Int)) (p20 r16:Int) (x22:List Int) (p25:Int) (p26:List (List Int)) (k:Ex->St->Option β):bU TT BC (uX a0 a1 a2 p14 p17 p18 p19 p20 r16 x22 p25 p26) k = (yC a0 a1 a2 p14 p17 p18 p19 p20 r16 x22 p25 p26).bind (fun (r:(List (List Int)))=>k (.exit 4) ⟨[(1,.ptr 20001 0),(4,.own 30049 0),(16,dI (p14.length:Int)),(17,dI p18),(19,.d (.sl (cM (cL cI) p17))),(20,dI (p17.length:Int)),(21,dI p20)],[(3,some (.box [dI a0])),(4,some (.box [.d (.sl (cM aE.cells a1))])),(11,some (.box [dI r16])),(12,some (.box [.own 50064 0])),(8003,some (.outer [.ptr 3 0,.ptr 4 0,.d (.ptr [.sl (cM cI a2)] 0),.ptr 11 0,.ptr 12 0])),(20001,some (.box [.own 100026 0])),(30014,none),(30049,some (.rows 0 23 1 (cM (cL cI) r))),(50064,some (.rows 0 23 1 (cM (cL cI) p19))),(100026,some (.rows 0 3 1 (cM cI p14)))]⟩):=by
 have hh:=fun (w:Int × (List (List Int)))=>K4 a0 a1 a2 p14 p17 p18 p19 p20 r16 x22 w.1 w.2
 have h:=fun ho=>bA (T:=TT) (k:=k) (c:=qA) (step:=(fun (w:Int × (List (List Int)))=>pJ a0 a1 a2 p14 p17 p18 p19 p20 r16 x22 w.1 w.2)) _ _ ho hh (p25,p26)
 refine Eq.trans (h (fun r s e=>by have q:=congrArg Prod.fst e; rcases r with x <;> cases q)) ?_
 unfold yC
 exact aP _ fun x=>by rcases x with x <;> rfl
theorem LK {β:Type} (a0:Int) (a1:List aE) (a2 p14:List Int) (p17:List (List Int)) (p18:Int) (p19:List (List Int)) (p20:Int) (p21:List (List Int)) (r16:Int) (x22:List Int) (p24:Int) (k:Ex->St->Option β):bU TT uT ⟨[(1,.ptr 20001 0),(4,.own 30049 0),(6,.d (.sl (cM cI x22))),(7,dI p24),(16,dI (p14.length:Int)),(17,dI p18),(19,.d (.sl (cM (cL cI) p17))),(20,dI (p17.length:Int)),(21,dI p20)],[(3,some (.box [dI a0])),(4,some (.box [.d (.sl (cM aE.cells a1))])),(11,some (.box [dI r16])),(12,some (.box [.own 50064 0])),(8003,some (.outer [.ptr 3 0,.ptr 4 0,.d (.ptr [.sl (cM cI a2)] 0),.ptr 11 0,.ptr 12 0])),(20001,some (.box [.own 100026 0])),(30014,none),(30049,some (.rows 0 23 1 (cM (cL cI) p21))),(50064,some (.rows 0 23 1 (cM (cL cI) p19))),(100026,some (.rows 0 3 1 (cM cI p14)))]⟩ k = (sH a0 a1 a2 p14 p17 p18 p19 p20 p21 r16 x22 p24).bind (fun (r:(List (List Int)))=>k .normal ⟨[(1,.ptr 20001 0),(4,.own 30049 0),(16,dI (p14.length:Int)),(17,dI p18),(19,.d (.sl (cM (cL cI) p17))),(20,dI (p17.length:Int)),(21,dI p20)],[(3,some (.box [dI a0])),(4,some (.box [.d (.sl (cM aE.cells a1))])),(11,some (.box [dI r16])),(12,some (.box [.own 50064 0])),(8003,some (.outer [.ptr 3 0,.ptr 4 0,.d (.ptr [.sl (cM cI a2)] 0),.ptr 11 0,.ptr 12 0])),(20001,some (.box [.own 100026 0])),(30014,none),(30049,some (.rows 0 23 1 (cM (cL cI) r))),(50064,some (.rows 0 23 1 (cM (cL cI) p19))),(100026,some (.rows 0 3 1 (cM cI p14)))]⟩):=by
 unfold uT sH
 have u:=@LO
 exact n8
abbrev uN (a0:Int) (a1:List aE) (a2 p14:List Int) (p17:List (List Int)) (p18:Int) (p19:List (List Int)) (r16 p20:Int) (p21:List (List Int)):St:=⟨[(1,.ptr 20001 0),(4,.own 30049 0),(16,dI (p14.length:Int)),(17,dI p18),(19,.d (.sl (cM (cL cI) p17))),(20,dI (p17.length:Int)),(21,dI p20)],[(3,some (.box [dI a0])),(4,some (.box [.d (.sl (cM aE.cells a1))])),(11,some (.box [dI r16])),(12,some (.box [.own 50064 0])),(8003,some (.outer [.ptr 3 0,.ptr 4 0,.d (.ptr [.sl (cM cI a2)] 0),.ptr 11 0,.ptr 12 0])),(20001,some (.box [.own 100026 0])),(30014,none),(30049,some (.rows 0 23 1 (cM (cL cI) p21))),(50064,some (.rows 0 23 1 (cM (cL cI) p19))),(100026,some (.rows 0 3 1 (cM cI p14)))]⟩
theorem KW (a0:Int) (a1:List aE) (a2 p14:List Int) (p17:List (List Int)) (p18:Int) (p19:List (List Int)) (r16 p20:Int) (p21:List (List Int)):bU TT pI (uN a0 a1 a2 p14 p17 p18 p19 r16 p20 p21) (fun e s=>some (e,s)) = cJ (fun (w:Int × (List (List Int)))=>uN a0 a1 a2 p14 p17 p18 p19 r16 w.1 w.2) (fun (r:(List (List Int)))=>(((.exit 2),⟨[(1,.ptr 20001 0),(4,.own 30049 0),(16,dI (p14.length:Int)),(17,dI p18)],[(3,some (.box [dI a0])),(4,some (.box [.d (.sl (cM aE.cells a1))])),(11,some (.box [dI r16])),(12,some (.box [.own 50064 0])),(8003,some (.outer [.ptr 3 0,.ptr 4 0,.d (.ptr [.sl (cM cI a2)] 0),.ptr 11 0,.ptr 12 0])),(20001,some (.box [.own 100026 0])),(30049,some (.rows 0 23 1 (cM (cL cI) r))),(50064,some (.rows 0 23 1 (cM (cL cI) p19))),(100026,some (.rows 0 3 1 (cM cI p14)))]⟩):Ex × St)) (pO a0 a1 a2 p14 p17 p18 p19 r16 p20 p21):=by
 unfold pI pO
 have u:=@LK
 exact n8
theorem K5 {β:Type} (a0:Int) (a1:List aE) (a2 p14:List Int) (p17:List (List Int)) (p18:Int) (p19:List (List Int)) (r16 p20:Int) (p21:List (List Int)) (k:Ex->St->Option β):bU TT BK (uN a0 a1 a2 p14 p17 p18 p19 r16 p20 p21) k = (xQ a0 a1 a2 p14 p17 p18 p19 r16 p20 p21).bind (fun (r:(List (List Int)))=>k (.exit 2) ⟨[(1,.ptr 20001 0),(4,.own 30049 0),(16,dI (p14.length:Int)),(17,dI p18)],[(3,some (.box [dI a0])),(4,some (.box [.d (.sl (cM aE.cells a1))])),(11,some (.box [dI r16])),(12,some (.box [.own 50064 0])),(8003,some (.outer [.ptr 3 0,.ptr 4 0,.d (.ptr [.sl (cM cI a2)] 0),.ptr 11 0,.ptr 12 0])),(20001,some (.box [.own 100026 0])),(30049,some (.rows 0 23 1 (cM (cL cI) r))),(50064,some (.rows 0 23 1 (cM (cL cI) p19))),(100026,some (.rows 0 3 1 (cM cI p14)))]⟩):=by
 have hh:=fun (w:Int × (List (List Int)))=>KW a0 a1 a2 p14 p17 p18 p19 r16 w.1 w.2
 have h:=fun ho=>bA (T:=TT) (k:=k) (c:=pI) (step:=(fun (w:Int × (List (List Int)))=>pO a0 a1 a2 p14 p17 p18 p19 r16 w.1 w.2)) _ _ ho hh (p20,p21)
 refine Eq.trans (h (fun r s e=>by have q:=congrArg Prod.fst e; rcases r with x <;> cases q)) ?_
 unfold xQ
 exact aP _ fun x=>by rcases x with x <;> rfl
abbrev u4 (a0:Int) (a1:List aE) (a2 p14:List Int) (p18 p35:Int) (p36:List (List Int)) (r16:Int) (r34:(List (List Int))) (x37:List Int) (p38:Int) (p39:List Int):St:=⟨[(1,.ptr 20001 0),(4,.own 30049 0),(11,.own 30069 0),(16,dI (p14.length:Int)),(17,dI p18),(51,.own 30049 0),(52,dI (r34.length:Int)),(53,dI p35),(57,.d (.sl (cM cI x37))),(58,dI (x37.length:Int)),(59,dI p38)],[(3,some (.box [dI a0])),(4,some (.box [.d (.sl (cM aE.cells a1))])),(11,some (.box [dI r16])),(12,some (.box [.own 50064 0])),(8003,some (.outer [.ptr 3 0,.ptr 4 0,.d (.ptr [.sl (cM cI a2)] 0),.ptr 11 0,.ptr 12 0])),(20001,some (.box [.own 100026 0])),(30049,some (.rows 0 23 1 (cM (cL cI) r34))),(30069,some (.rows 0 3 1 (cM cI p39))),(50064,some (.rows 0 23 1 (cM (cL cI) p36))),(100026,some (.rows 0 3 1 (cM cI p14)))]⟩
theorem KI (a0:Int) (a1:List aE) (a2 p14:List Int) (p18 p35:Int) (p36:List (List Int)) (r16:Int) (r34:(List (List Int))) (x37:List Int) (p38:Int) (p39:List Int):bU TT pS (u4 a0 a1 a2 p14 p18 p35 p36 r16 r34 x37 p38 p39) (fun e s=>some (e,s)) = cJ (fun (w:Int × (List Int))=>u4 a0 a1 a2 p14 p18 p35 p36 r16 r34 x37 w.1 w.2) (fun (r:(List Int))=>(((.exit 8),⟨[(1,.ptr 20001 0),(4,.own 30049 0),(11,.own 30069 0),(16,dI (p14.length:Int)),(17,dI p18),(51,.own 30049 0),(52,dI (r34.length:Int)),(53,dI p35)],[(3,some (.box [dI a0])),(4,some (.box [.d (.sl (cM aE.cells a1))])),(11,some (.box [dI r16])),(12,some (.box [.own 50064 0])),(8003,some (.outer [.ptr 3 0,.ptr 4 0,.d (.ptr [.sl (cM cI a2)] 0),.ptr 11 0,.ptr 12 0])),(20001,some (.box [.own 100026 0])),(30049,some (.rows 0 23 1 (cM (cL cI) r34))),(30069,some (.rows 0 3 1 (cM cI r))),(50064,some (.rows 0 23 1 (cM (cL cI) p36))),(100026,some (.rows 0 3 1 (cM cI p14)))]⟩):Ex × St)) (qE a0 a1 a2 p14 p18 p35 p36 r16 r34 x37 p38 p39):=by
 unfold pS qE
 exact IA
theorem LM {β:Type} (a0:Int) (a1:List aE) (a2 p14:List Int) (p18 p35:Int) (p36:List (List Int)) (r16:Int) (r34:(List (List Int))) (x37:List Int) (p38:Int) (p39:List Int) (k:Ex->St->Option β):bU TT B2 (u4 a0 a1 a2 p14 p18 p35 p36 r16 r34 x37 p38 p39) k = (xR a0 a1 a2 p14 p18 p35 p36 r16 r34 x37 p38 p39).bind (fun (r:(List Int))=>k (.exit 8) ⟨[(1,.ptr 20001 0),(4,.own 30049 0),(11,.own 30069 0),(16,dI (p14.length:Int)),(17,dI p18),(51,.own 30049 0),(52,dI (r34.length:Int)),(53,dI p35)],[(3,some (.box [dI a0])),(4,some (.box [.d (.sl (cM aE.cells a1))])),(11,some (.box [dI r16])),(12,some (.box [.own 50064 0])),(8003,some (.outer [.ptr 3 0,.ptr 4 0,.d (.ptr [.sl (cM cI a2)] 0),.ptr 11 0,.ptr 12 0])),(20001,some (.box [.own 100026 0])),(30049,some (.rows 0 23 1 (cM (cL cI) r34))),(30069,some (.rows 0 3 1 (cM cI r))),(50064,some (.rows 0 23 1 (cM (cL cI) p36))),(100026,some (.rows 0 3 1 (cM cI p14)))]⟩):=by
 have hh:=fun (w:Int × (List Int))=>KI a0 a1 a2 p14 p18 p35 p36 r16 r34 x37 w.1 w.2
 have h:=fun ho=>bA (T:=TT) (k:=k) (c:=pS) (step:=(fun (w:Int × (List Int))=>qE a0 a1 a2 p14 p18 p35 p36 r16 r34 x37 w.1 w.2)) _ _ ho hh (p38,p39)
 refine Eq.trans (h (fun r s e=>by have q:=congrArg Prod.fst e; rcases r with x <;> cases q)) ?_
 unfold xR
 exact aP _ fun x=>by rcases x with x <;> rfl
abbrev uZ (a0:Int) (a1:List aE) (a2 p14:List Int) (p18 r16:Int) (r34:(List (List Int))) (p35:Int) (p36:List (List Int)):St:=⟨[(1,.ptr 20001 0),(4,.own 30049 0),(16,dI (p14.length:Int)),(17,dI p18),(51,.own 30049 0),(52,dI (r34.length:Int)),(53,dI p35)],[(3,some (.box [dI a0])),(4,some (.box [.d (.sl (cM aE.cells a1))])),(11,some (.box [dI r16])),(12,some (.box [.own 50064 0])),(8003,some (.outer [.ptr 3 0,.ptr 4 0,.d (.ptr [.sl (cM cI a2)] 0),.ptr 11 0,.ptr 12 0])),(20001,some (.box [.own 100026 0])),(30049,some (.rows 0 23 1 (cM (cL cI) r34))),(50064,some (.rows 0 23 1 (cM (cL cI) p36))),(100026,some (.rows 0 3 1 (cM cI p14)))]⟩
theorem KP (a0:Int) (a1:List aE) (a2 p14:List Int) (p18 r16:Int) (r34:(List (List Int))) (p35:Int) (p36:List (List Int)):bU TT pX (uZ a0 a1 a2 p14 p18 r16 r34 p35 p36) (fun e s=>some (e,s)) = cJ (fun (w:Int × (List (List Int)))=>uZ a0 a1 a2 p14 p18 r16 r34 w.1 w.2) (fun (r:(List (List Int)))=>(((.exit 6),⟨[(1,.ptr 20001 0),(4,.own 30049 0),(16,dI (p14.length:Int)),(17,dI p18)],[(3,some (.box [dI a0])),(4,some (.box [.d (.sl (cM aE.cells a1))])),(11,some (.box [dI r16])),(12,some (.box [.own 50064 0])),(8003,some (.outer [.ptr 3 0,.ptr 4 0,.d (.ptr [.sl (cM cI a2)] 0),.ptr 11 0,.ptr 12 0])),(20001,some (.box [.own 100026 0])),(30049,some (.rows 0 23 1 (cM (cL cI) r34))),(50064,some (.rows 0 23 1 (cM (cL cI) r))),(100026,some (.rows 0 3 1 (cM cI p14)))]⟩):Ex × St)) (pH a0 a1 a2 p14 p18 r16 r34 p35 p36):=by
 unfold pX pH
 have u:=aN (aN @LM (aN @wK @wU)) (aN @kZ (aN @uQ @u0))
 exact n8
theorem KC {β:Type} (a0:Int) (a1:List aE) (a2 p14:List Int) (p18 r16:Int) (r34:(List (List Int))) (p35:Int) (p36:List (List Int)) (k:Ex->St->Option β):bU TT BB (uZ a0 a1 a2 p14 p18 r16 r34 p35 p36) k = (xZ a0 a1 a2 p14 p18 r16 r34 p35 p36).bind (fun (r:(List (List Int)))=>k (.exit 6) ⟨[(1,.ptr 20001 0),(4,.own 30049 0),(16,dI (p14.length:Int)),(17,dI p18)],[(3,some (.box [dI a0])),(4,some (.box [.d (.sl (cM aE.cells a1))])),(11,some (.box [dI r16])),(12,some (.box [.own 50064 0])),(8003,some (.outer [.ptr 3 0,.ptr 4 0,.d (.ptr [.sl (cM cI a2)] 0),.ptr 11 0,.ptr 12 0])),(20001,some (.box [.own 100026 0])),(30049,some (.rows 0 23 1 (cM (cL cI) r34))),(50064,some (.rows 0 23 1 (cM (cL cI) r))),(100026,some (.rows 0 3 1 (cM cI p14)))]⟩):=by
 have hh:=fun (w:Int × (List (List Int)))=>KP a0 a1 a2 p14 p18 r16 r34 w.1 w.2
 have h:=fun ho=>bA (T:=TT) (k:=k) (c:=pX) (step:=(fun (w:Int × (List (List Int)))=>pH a0 a1 a2 p14 p18 r16 r34 w.1 w.2)) _ _ ho hh (p35,p36)
 refine Eq.trans (h (fun r s e=>by have q:=congrArg Prod.fst e; rcases r with x <;> cases q)) ?_
 unfold xZ
 exact aP _ fun x=>by rcases x with x <;> rfl
abbrev uO (a0:Int) (a1:List aE) (a2 p14:List Int) (r16:Int) (p17:List (List Int)) (p18:Int) (p19:List (List Int)):St:=⟨[(1,.ptr 20001 0),(3,.d (.sl (cM (cL cI) p17))),(16,dI (p14.length:Int)),(17,dI p18)],[(3,some (.box [dI a0])),(4,some (.box [.d (.sl (cM aE.cells a1))])),(11,some (.box [dI r16])),(12,some (.box [.own 50064 0])),(8003,some (.outer [.ptr 3 0,.ptr 4 0,.d (.ptr [.sl (cM cI a2)] 0),.ptr 11 0,.ptr 12 0])),(20001,some (.box [.own 100026 0])),(30014,none),(30049,none),(50064,some (.rows 0 23 1 (cM (cL cI) p19))),(100026,some (.rows 0 3 1 (cM cI p14)))]⟩
theorem LB (a0:Int) (a1:List aE) (a2 p14:List Int) (r16:Int) (p17:List (List Int)) (p18:Int) (p19:List (List Int)):bU TT pQ (uO a0 a1 a2 p14 r16 p17 p18 p19) (fun e s=>some (e,s)) = cJ (fun (w:(List (List Int)) × Int × (List (List Int)))=>uO a0 a1 a2 p14 r16 w.1 w.2.1 w.2.2) (fun (r:(List (List Int)))=>(((.exit 0),⟨[],[(3,some (.box [dI a0])),(4,some (.box [.d (.sl (cM aE.cells a1))])),(11,some (.box [dI r16])),(12,some (.box [.own 50064 0])),(8003,some (.outer [.ptr 3 0,.ptr 4 0,.d (.ptr [.sl (cM cI a2)] 0),.ptr 11 0,.ptr 12 0])),(50064,some (.rows 0 23 1 (cM (cL cI) r)))]⟩):Ex × St)) (pV a0 a1 a2 p14 r16 p17 p18 p19):=by
 unfold pQ pV
 have u:=aN @K5 @KC
 exact n8
theorem KY {β:Type} (a0:Int) (a1:List aE) (a2 p14:List Int) (r16:Int) (p17:List (List Int)) (p18:Int) (p19:List (List Int)) (k:Ex->St->Option β):bU TT uW (uO a0 a1 a2 p14 r16 p17 p18 p19) k = (xK a0 a1 a2 p14 r16 p17 p18 p19).bind (fun (r:(List (List Int)))=>k (.exit 0) ⟨[],[(3,some (.box [dI a0])),(4,some (.box [.d (.sl (cM aE.cells a1))])),(11,some (.box [dI r16])),(12,some (.box [.own 50064 0])),(8003,some (.outer [.ptr 3 0,.ptr 4 0,.d (.ptr [.sl (cM cI a2)] 0),.ptr 11 0,.ptr 12 0])),(50064,some (.rows 0 23 1 (cM (cL cI) r)))]⟩):=by
 have hh:=fun (w:(List (List Int)) × Int × (List (List Int)))=>LB a0 a1 a2 p14 r16 w.1 w.2.1 w.2.2
 have h:=fun ho=>bA (T:=TT) (k:=k) (c:=pQ) (step:=(fun (w:(List (List Int)) × Int × (List (List Int)))=>pV a0 a1 a2 p14 r16 w.1 w.2.1 w.2.2)) _ _ ho hh (p17,p18,p19)
 refine Eq.trans (h (fun r s e=>by have q:=congrArg Prod.fst e; rcases r with x <;> cases q)) ?_
 unfold xK
 exact aP _ fun x=>by rcases x with x <;> rfl
theorem LH {β:Type} (a0:Int) (a1:List aE) (a2 p14:List Int) (k:Ex->St->Option β):bU TT uU ⟨[(3,.ptr 3 0),(4,.ptr 4 0),(5,.d (.ptr [.sl (cM cI a2)] 0)),(8,.own 100026 0)],[(3,some (.box [dI a0])),(4,some (.box [.d (.sl (cM aE.cells a1))])),(100026,some (.rows 0 3 1 (cM cI p14)))]⟩ k = (sE a0 a1 a2 p14).bind (fun (r:Int × (List (List Int)))=>k .ret ⟨[(6,.own 50064 0),(7,dI r.1)],[(50064,some (.rows 0 23 1 (cM (cL cI) r.2)))]⟩):=by
 unfold uU sE
 have u:=aN @KY (aN @wK @wU)
 exact n8
theorem GA (a0:Int) (a1:List aE) (a2:List Int):Vm.call TT 12 [.int .i64 a0,.sl (cM aE.cells a1),.sl (cM cI a2)] = (nR a0 a1 a2).map fun (r:(List (List Int)) × Int)=>.tup [.sl (cM (cL cI) r.1),.int .i64 r.2]:=by
 refine (bI (show TT 12 = some (.code ⟨3,66,[.tmp 6,.tmp 7],aPl,false,false⟩) from rfl) _ rfl rfl).trans ?_
 show bU TT aPl ⟨[(0,dI a0),(1,.d (.sl (cM aE.cells a1))),(2,.d (.sl (cM cI a2)))],[]⟩ _ = _
 unfold aPl nR
 have u:=aN (aN @KQ (aN @LH @uI)) (aN @AC (aN @mH @BL))
 exact n8
theorem PQ (a0:Int) (a1:List aE) (a2:List Int):KD TT 12 [.int .i64 a0,.sl (cM aE.cells a1),.sl (cM cI a2)] (nR a0 a1 a2) (fun (r:(List (List Int)) × Int)=>.tup [.d (.sl (cM (cL cI) r.1)),dI r.2]):=kD (GA a0 a1 a2) (fun _=>rfl) (fun _=>rfl) (fun _=>rfl)
abbrev qZ (a0:List aE) (a1:List Int) (a2 a3 p1:Int) (p2:List Int) (p3:List aW):St:=⟨[(1,.d (.sl (cM cI a1))),(2,dI a2),(3,dI a3),(8,.own 33 0),(9,.own 51 0),(17,.d (.sl (cM aE.cells a0))),(18,dI (a0.length:Int)),(19,dI p1)],[(33,some (.rows 0 3 1 (cM cI p2))),(51,some (.rows 0 60 9 (cM aW.cells p3)))]⟩
theorem GP (a0:List aE) (a1:List Int) (a2 a3 p1:Int) (p2:List Int) (p3:List aW):bU TT mD (qZ a0 a1 a2 a3 p1 p2 p3) (fun e s=>some (e,s)) = cJ (fun (w:Int × (List Int) × (List aW))=>qZ a0 a1 a2 a3 w.1 w.2.1 w.2.2) (fun (r:(List Int) × (List aW))=>(((.exit 0),⟨[(8,.own 33 0),(9,.own 51 0)],[(33,some (.rows 0 3 1 (cM cI r.1))),(51,some (.rows 0 60 9 (cM aW.cells r.2)))]⟩):Ex × St)) (dF a0 a1 a2 a3 p1 p2 p3):=by
 unfold mD dF
 exact IA
theorem GL {β:Type} (a0:List aE) (a1:List Int) (a2 a3 p1:Int) (p2:List Int) (p3:List aW) (k:Ex->St->Option β):bU TT xH (qZ a0 a1 a2 a3 p1 p2 p3) k = (kX a0 a1 a2 a3 p1 p2 p3).bind (fun (r:(List Int) × (List aW))=>k (.exit 0) ⟨[(8,.own 33 0),(9,.own 51 0)],[(33,some (.rows 0 3 1 (cM cI r.1))),(51,some (.rows 0 60 9 (cM aW.cells r.2)))]⟩):=by
 have hh:=fun (w:Int × (List Int) × (List aW))=>GP a0 a1 a2 a3 w.1 w.2.1 w.2.2
 have h:=fun ho=>bA (T:=TT) (k:=k) (c:=mD) (step:=(fun (w:Int × (List Int) × (List aW))=>dF a0 a1 a2 a3 w.1 w.2.1 w.2.2)) _ _ ho hh (p1,p2,p3)
 refine Eq.trans (h (fun r s e=>by have q:=congrArg Prod.fst e; rcases r with x <;> cases q)) ?_
 unfold kX
 exact aP _ fun x=>by rcases x with x <;> rfl
theorem KB (a0:List aE) (a1:List Int) (a2 a3:Int):Vm.call TT 14 [.sl (cM aE.cells a0),.sl (cM cI a1),.int .i64 a2,.int .i64 a3] = (jS a0 a1 a2 a3).map fun (r:(List Int) × (List aW))=>.tup [.sl (cM cI r.1),.sl (cM aW.cells r.2)]:=by
 refine (bI (show TT 14 = some (.code ⟨4,55,[.tmp 8,.tmp 9],aPK,false,false⟩) from rfl) _ rfl rfl).trans ?_
 show bU TT aPK ⟨[(0,.d (.sl (cM aE.cells a0))),(1,.d (.sl (cM cI a1))),(2,dI a2),(3,dI a3)],[]⟩ _ = _
 unfold aPK jS
 have u:=@GL
 exact n8
theorem B5 (a0:List aE) (a1:List Int) (a2 a3:Int):KD TT 14 [.sl (cM aE.cells a0),.sl (cM cI a1),.int .i64 a2,.int .i64 a3] (jS a0 a1 a2 a3) (fun (r:(List Int) × (List aW))=>.tup [.d (.sl (cM cI r.1)),.d (.sl (cM aW.cells r.2))]):=kD (KB a0 a1 a2 a3) (fun _=>rfl) (fun _=>rfl) (fun _=>rfl)
abbrev oH (a0 a1:List Int) (p1:Int):St:=⟨[(0,.d (.sl (cM cI a0))),(1,.d (.sl (cM cI a1))),(5,dI p1)],[]⟩
theorem EH (a0 a1:List Int) (p1:Int):bU TT kO (oH a0 a1 p1) (fun e s=>some (e,s)) = cJ (fun (w:Int)=>oH a0 a1 w) (fun (r:Unit ⊕ Unit)=>Sum.elim (fun (z:Unit)=>(((.exit 0),⟨[],[]⟩):Ex × St)) (fun (z:Unit)=>((.ret,⟨[(4,dB false)],[]⟩):Ex × St)) r) (kP a0 a1 p1):=by
 unfold kO kP
 exact IA
theorem D6 {β:Type} (a0 a1:List Int) (p1:Int) (k:Ex->St->Option β):bU TT vK (oH a0 a1 p1) k = (rC a0 a1 p1).bind (fun (r:Unit ⊕ Unit)=>Sum.elim (fun (z:Unit)=>k (.exit 0) ⟨[],[]⟩) (fun (z:Unit)=>k .ret ⟨[(4,dB false)],[]⟩) r):=by
 have hh:=fun (w:Int)=>EH a0 a1 w
 have h:=fun ho=>bA (T:=TT) (k:=k) (c:=kO) (step:=(fun (w:Int)=>kP a0 a1 w)) _ _ ho hh p1
 refine Eq.trans (h (fun r s e=>by have q:=congrArg Prod.fst e; rcases r with x | x <;> cases q)) ?_
 unfold rC
 exact aP _ fun x=>by rcases x with x | x <;> rfl
theorem G8 (a0 a1:List Int):Vm.call TT 16 [.sl (cM cI a0),.sl (cM cI a1)] = (gT a0 a1).map fun (r:Bool)=>.bool r:=by
 refine (bI (show TT 16 = some (.code ⟨2,26,[.tmp 4],aNi,false,false⟩) from rfl) _ rfl rfl).trans ?_
 show bU TT aNi ⟨[(0,.d (.sl (cM cI a0))),(1,.d (.sl (cM cI a1)))],[]⟩ _ = _
 unfold aNi gT
 have u:=@D6
 exact n8
theorem yH (a0 a1:List Int):KF TT 16 [.sl (cM cI a0),.sl (cM cI a1)] (gT a0 a1) (fun (r:Bool)=>dB r):=kF (G8 a0 a1) (fun _=>rfl) (fun _=>rfl)
abbrev mO (a0 a1:List Int) (p1:Int):St:=⟨[(0,.d (.sl (cM cI a0))),(1,.d (.sl (cM cI a1))),(5,dI p1)],[]⟩
theorem CB (a0 a1:List Int) (p1:Int):bU TT jF (mO a0 a1 p1) (fun e s=>some (e,s)) = cJ (fun (w:Int)=>mO a0 a1 w) (fun (r:Unit ⊕ Bool)=>Sum.elim (fun (z:Unit)=>(((.exit 0),⟨[],[]⟩):Ex × St)) (fun (z:Bool)=>((.ret,⟨[(4,dB z)],[]⟩):Ex × St)) r) (jI a0 a1 p1):=by
 unfold jF jI
 exact IA
theorem CF {β:Type} (a0 a1:List Int) (p1:Int) (k:Ex->St->Option β):bU TT sM (mO a0 a1 p1) k = (oO a0 a1 p1).bind (fun (r:Unit ⊕ Bool)=>Sum.elim (fun (z:Unit)=>k (.exit 0) ⟨[],[]⟩) (fun (z:Bool)=>k .ret ⟨[(4,dB z)],[]⟩) r):=by
 have hh:=fun (w:Int)=>CB a0 a1 w
 have h:=fun ho=>bA (T:=TT) (k:=k) (c:=jF) (step:=(fun (w:Int)=>jI a0 a1 w)) _ _ ho hh p1
 refine Eq.trans (h (fun r s e=>by have q:=congrArg Prod.fst e; rcases r with x | x <;> cases q)) ?_
 unfold oO
 exact aP _ fun x=>by rcases x with x | x <;> rfl
theorem FB (a0 a1:List Int):Vm.call TT 52 [.sl (cM cI a0),.sl (cM cI a1)] = (jZ a0 a1).map fun (r:Bool)=>.bool r:=by
 refine (bI (show TT 52 = some (.code ⟨2,40,[.tmp 4],aNS,false,false⟩) from rfl) _ rfl rfl).trans ?_
 show bU TT aNS ⟨[(0,.d (.sl (cM cI a0))),(1,.d (.sl (cM cI a1)))],[]⟩ _ = _
 unfold aNS jZ
 have u:=@CF
 exact n8
theorem FF (a0 a1:List Int):KF TT 52 [.sl (cM cI a0),.sl (cM cI a1)] (jZ a0 a1) (fun (r:Bool)=>dB r):=kF (FB a0 a1) (fun _=>rfl) (fun _=>rfl)
abbrev kV (a0 a1:List (List Int)) (p1:Int):St:=⟨[(0,.d (.sl (cM (cL cI) a0))),(1,.d (.sl (cM (cL cI) a1))),(5,dI p1)],[]⟩
theorem AL (a0 a1:List (List Int)) (p1:Int):bU TT gO (kV a0 a1 p1) (fun e s=>some (e,s)) = cJ (fun (w:Int)=>kV a0 a1 w) (fun (r:Unit ⊕ Unit)=>Sum.elim (fun (z:Unit)=>(((.exit 0),⟨[],[]⟩):Ex × St)) (fun (z:Unit)=>((.ret,⟨[(4,dB false)],[]⟩):Ex × St)) r) (gP a0 a1 p1):=by
 unfold gO gP
 have u:=@FF
 exact n8
theorem AD {β:Type} (a0 a1:List (List Int)) (p1:Int) (k:Ex->St->Option β):bU TT qR (kV a0 a1 p1) k = (l9 a0 a1 p1).bind (fun (r:Unit ⊕ Unit)=>Sum.elim (fun (z:Unit)=>k (.exit 0) ⟨[],[]⟩) (fun (z:Unit)=>k .ret ⟨[(4,dB false)],[]⟩) r):=by
 have hh:=fun (w:Int)=>AL a0 a1 w
 have h:=fun ho=>bA (T:=TT) (k:=k) (c:=gO) (step:=(fun (w:Int)=>gP a0 a1 w)) _ _ ho hh p1
 refine Eq.trans (h (fun r s e=>by have q:=congrArg Prod.fst e; rcases r with x | x <;> cases q)) ?_
 unfold l9
 exact aP _ fun x=>by rcases x with x | x <;> rfl
theorem B6 (a0 a1:List (List Int)):Vm.call TT 17 [.sl (cM (cL cI) a0),.sl (cM (cL cI) a1)] = (iD a0 a1).map fun (r:Bool)=>.bool r:=by
 refine (bI (show TT 17 = some (.code ⟨2,37,[.tmp 4],aN9,false,false⟩) from rfl) _ rfl rfl).trans ?_
 show bU TT aN9 ⟨[(0,.d (.sl (cM (cL cI) a0))),(1,.d (.sl (cM (cL cI) a1)))],[]⟩ _ = _
 unfold aN9 iD
 have u:=@AD
 exact n8
theorem B7 (a0 a1:List (List Int)):KF TT 17 [.sl (cM (cL cI) a0),.sl (cM (cL cI) a1)] (iD a0 a1) (fun (r:Bool)=>dB r):=kF (B6 a0 a1) (fun _=>rfl) (fun _=>rfl)
abbrev uM (a0:List aE) (a1 a2:List Int) (p1:Int):St:=⟨[(1,.d (.sl (cM cI a1))),(2,.d (.sl (cM cI a2))),(14,.d (.sl (cM aE.cells a0))),(15,dI (a0.length:Int)),(16,dI p1)],[]⟩
theorem LL (a0:List aE) (a1 a2:List Int) (p1:Int):bU TT qB (uM a0 a1 a2 p1) (fun e s=>some (e,s)) = cJ (fun (w:Int)=>uM a0 a1 a2 w) (fun (r:Unit ⊕ Unit)=>Sum.elim (fun (z:Unit)=>(((.exit 0),⟨[],[]⟩):Ex × St)) (fun (z:Unit)=>((.ret,⟨[(6,dB false)],[]⟩):Ex × St)) r) (qP a0 a1 a2 p1):=by
 unfold qB qP
 have u:=@HC
 exact n8
theorem LJ {β:Type} (a0:List aE) (a1 a2:List Int) (p1:Int) (k:Ex->St->Option β):bU TT A6 (uM a0 a1 a2 p1) k = (xM a0 a1 a2 p1).bind (fun (r:Unit ⊕ Unit)=>Sum.elim (fun (z:Unit)=>k (.exit 0) ⟨[],[]⟩) (fun (z:Unit)=>k .ret ⟨[(6,dB false)],[]⟩) r):=by
 have hh:=fun (w:Int)=>LL a0 a1 a2 w
 have h:=fun ho=>bA (T:=TT) (k:=k) (c:=qB) (step:=(fun (w:Int)=>qP a0 a1 a2 w)) _ _ ho hh p1
 refine Eq.trans (h (fun r s e=>by have q:=congrArg Prod.fst e; rcases r with x | x <;> cases q)) ?_
 unfold xM
 exact aP _ fun x=>by rcases x with x | x <;> rfl
theorem PK (a0:List aE) (a1 a2:List Int):Vm.call TT 23 [.sl (cM aE.cells a0),.sl (cM cI a1),.sl (cM cI a2)] = (tV a0 a1 a2).map fun (r:Bool)=>.bool r:=by
 refine (bI (show TT 23 = some (.code ⟨3,33,[.tmp 6],aMv,false,false⟩) from rfl) _ rfl rfl).trans ?_
 show bU TT aMv ⟨[(0,.d (.sl (cM aE.cells a0))),(1,.d (.sl (cM cI a1))),(2,.d (.sl (cM cI a2)))],[]⟩ _ = _
 unfold aMv tV
 have u:=@LJ
 exact n8
theorem PW (a0:List aE) (a1 a2:List Int):KF TT 23 [.sl (cM aE.cells a0),.sl (cM cI a1),.sl (cM cI a2)] (tV a0 a1 a2) (fun (r:Bool)=>dB r):=kF (PK a0 a1 a2) (fun _=>rfl) (fun _=>rfl)
theorem C5 (r1:(List aE)):KD TT 10 [.int .i64 3,.sl (cM aE.cells r1),.sl []] (fT 3 r1 []) (fun (r:(List Int) × (List Int) × Int)=>.tup [.d (.sl (cM cI r.1)),.d (.sl (cM cI r.2.1)),dI r.2.2]):=kD (F5 3 r1 []) (fun _=>rfl) (fun _=>rfl) (fun _=>rfl)
theorem C6 (r1:(List aE)):KD TT 12 [.int .i64 3,.sl (cM aE.cells r1),.sl []] (nR 3 r1 []) (fun (r:(List (List Int)) × Int)=>.tup [.d (.sl (cM (cL cI) r.1)),dI r.2]):=kD (GA 3 r1 []) (fun _=>rfl) (fun _=>rfl) (fun _=>rfl)
theorem DK {β:Type} (r1:(List aE)) (bl fz:List (Nat × Option aJ)) (k:V->Option β) (kw:V->List (Nat × Option aJ)->Option β):tT TT 139 bl 21 [.sl (cM aE.cells r1)] fz k kw = (oI r1).bind fun (r:(List Int))=>bC bl 100139 fun b=>fU b (kw (.own 100139 0) ((100139,some (.rows 0 3 1 (cM cI r))) :: fz)):=IZ (D4 r1) fz
theorem DE {β:Type} (p12:Bool) (r1:(List aE)) (r3:(List Int) × (List Int) × Int) (r8:(List Int) × (List aW)) (p15:Bool) (k:Ex->St->Option β):bU TT nP ⟨[(1,.d (.sl (cM aE.cells r1))),(5,.d (.sl (cM cI r3.1))),(18,.d (.sl (cM aW.cells r8.2))),(19,dB p12),(20,dB p15)],[]⟩ k = (i5 p12 r1 r3 r8 p15).bind (fun (r:Bool)=>k .ret ⟨[(0,dB r)],[]⟩):=by
 unfold nP i5
 have u:=aN (aN @yH @uI) (aN @PW @DK)
 exact n8
theorem C1 {β:Type} (r1:(List aE)) (r3:(List Int) × (List Int) × Int) (r5 r6 r7:(List (List Int)) × Int) (r8:(List Int) × (List aW)) (p12:Bool) (k:Ex->St->Option β):bU TT nT ⟨[(1,.d (.sl (cM aE.cells r1))),(5,.d (.sl (cM cI r3.1))),(11,.d (.sl (cM (cL cI) r5.1))),(13,.d (.sl (cM (cL cI) r6.1))),(15,.d (.sl (cM (cL cI) r7.1))),(18,.d (.sl (cM aW.cells r8.2))),(19,dB p12)],[]⟩ k = (iU r1 r3 r5 r6 r7 r8 p12).bind (fun (r:Bool)=>k .ret ⟨[(0,dB r)],[]⟩):=by
 unfold nT iU
 have u:=aN @DE @B7
 exact n8
theorem xG:Vm.call TT 8 [] = (gC).map fun (r:Bool)=>.bool r:=by
 refine (bI (show TT 8 = some (.code ⟨0,166,[.tmp 0],bd8,false,false⟩) from rfl) _ rfl rfl).trans ?_
 show bU TT bd8 ⟨[],[]⟩ _ = _
 unfold bd8 gC
 have u:=aN (aN (aN @C1 @GJ) (aN @PQ @B5)) (aN (aN @yH @EJ) (aN @C5 @C6))
 exact n8
theorem GS:KF TT 8 [] (gC) (fun (r:Bool)=>dB r):=kF (xG ) (fun _=>rfl) (fun _=>rfl)
abbrev oJ (a0:List aE) (p1:Int) (p2:List aI):St:=⟨[(0,.d (.sl (cM aE.cells a0))),(3,.own 5 0),(4,dI p1)],[(5,some (.rows 0 54 3 (cM aI.cells p2)))]⟩
theorem EC (a0:List aE) (p1:Int) (p2:List aI):bU TT kU (oJ a0 p1 p2) (fun e s=>some (e,s)) = cJ (fun (w:Int × (List aI))=>oJ a0 w.1 w.2) (fun (r:(List aI))=>(((.exit 0),⟨[(3,.own 5 0)],[(5,some (.rows 0 54 3 (cM aI.cells r)))]⟩):Ex × St)) (b9 a0 p1 p2):=by
 unfold kU b9
 exact IA
theorem DX {β:Type} (a0:List aE) (p1:Int) (p2:List aI) (k:Ex->St->Option β):bU TT vP (oJ a0 p1 p2) k = (mE a0 p1 p2).bind (fun (r:(List aI))=>k (.exit 0) ⟨[(3,.own 5 0)],[(5,some (.rows 0 54 3 (cM aI.cells r)))]⟩):=by
 have hh:=fun (w:Int × (List aI))=>EC a0 w.1 w.2
 have h:=fun ho=>bA (T:=TT) (k:=k) (c:=kU) (step:=(fun (w:Int × (List aI))=>b9 a0 w.1 w.2)) _ _ ho hh (p1,p2)
 refine Eq.trans (h (fun r s e=>by have q:=congrArg Prod.fst e; rcases r with x <;> cases q)) ?_
 unfold mE
 exact aP _ fun x=>by rcases x with x <;> rfl
theorem H7 (a0:List aE):Vm.call TT 26 [.sl (cM aE.cells a0)] = (jT a0).map fun (r:(List aI))=>.sl (cM aI.cells r):=by
 refine (bI (show TT 26 = some (.code ⟨1,32,[.tmp 2],aPc,false,false⟩) from rfl) _ rfl rfl).trans ?_
 show bU TT aPc ⟨[(0,.d (.sl (cM aE.cells a0)))],[]⟩ _ = _
 unfold aPc jT
 have u:=@DX
 exact n8
theorem HT (a0:List aE):KD TT 26 [.sl (cM aE.cells a0)] (jT a0) (fun (r:(List aI))=>.d (.sl (cM aI.cells r))):=kD (H7 a0) (fun _=>rfl) (fun _=>rfl) (fun _=>rfl)
abbrev pL (a0:Int) (a1:List aI) (p1:Int):St:=⟨[(0,dI a0),(1,.d (.sl (cM aI.cells a1))),(5,dI p1)],[]⟩
theorem FA (a0:Int) (a1:List aI) (p1:Int):bU TT lB (pL a0 a1 p1) (fun e s=>some (e,s)) = cJ (fun (w:Int)=>pL a0 a1 w) (fun (r:Unit ⊕ Unit)=>Sum.elim (fun (z:Unit)=>(((.exit 0),⟨[(0,dI a0),(1,.d (.sl (cM aI.cells a1)))],[]⟩):Ex × St)) (fun (z:Unit)=>((.ret,⟨[(4,dB false)],[]⟩):Ex × St)) r) (bR a0 a1 p1):=by
 unfold lB bR
 exact IA
theorem FR {β:Type} (a0:Int) (a1:List aI) (p1:Int) (k:Ex->St->Option β):bU TT wH (pL a0 a1 p1) k = (j8 a0 a1 p1).bind (fun (r:Unit ⊕ Unit)=>Sum.elim (fun (z:Unit)=>k (.exit 0) ⟨[(0,dI a0),(1,.d (.sl (cM aI.cells a1)))],[]⟩) (fun (z:Unit)=>k .ret ⟨[(4,dB false)],[]⟩) r):=by
 have hh:=fun (w:Int)=>FA a0 a1 w
 have h:=fun ho=>bA (T:=TT) (k:=k) (c:=lB) (step:=(fun (w:Int)=>bR a0 a1 w)) _ _ ho hh p1
 refine Eq.trans (h (fun r s e=>by have q:=congrArg Prod.fst e; rcases r with x | x <;> cases q)) ?_
 unfold j8
 exact aP _ fun x=>by rcases x with x | x <;> rfl
theorem JU (a0:Int) (a1:List aI):Vm.call TT 36 [.int .i64 a0,.sl (cM aI.cells a1)] = (kQ a0 a1).map fun (r:Bool)=>.bool r:=by
 refine (bI (show TT 36 = some (.code ⟨2,51,[.tmp 4],aPA,false,false⟩) from rfl) _ rfl rfl).trans ?_
 show bU TT aPA ⟨[(0,dI a0),(1,.d (.sl (cM aI.cells a1)))],[]⟩ _ = _
 unfold aPA kQ
 have u:=@FR
 exact n8
theorem JJ (a0:Int) (a1:List aI):KF TT 36 [.int .i64 a0,.sl (cM aI.cells a1)] (kQ a0 a1) (fun (r:Bool)=>dB r):=kF (JU a0 a1) (fun _=>rfl) (fun _=>rfl)
end Go.Proofs.Ytgjcnbgfaimepaa
