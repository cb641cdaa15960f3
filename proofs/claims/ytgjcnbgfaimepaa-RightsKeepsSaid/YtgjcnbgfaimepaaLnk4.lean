/- The functions of the small machine compute the plain definitions. Printed by a program. -/
import Derived.Test.YtgjcnbgfaimepaaLnk3
set_option linter.unusedVariables false
set_option linter.unusedSimpArgs false
namespace Go.Proofs.Ytgjcnbgfaimepaa
open Vm
open Go.RowKit
set_option maxRecDepth 100000
set_option maxHeartbeats 4000000
attribute [local congr] yL AK yS BG
theorem GS (a0 a1:List Int):Vm.call TT 47 [.sl (cM cI a0),.ptr [.sl (cM cI a1)] 0] = (pD a0 a1).map fun (r:Bool)=>.bool r:=by
 refine (bE (show TT 47 = some (.code ⟨2,7,[.tmp 3],aNg,false,false⟩) from rfl) _ rfl rfl).trans ?_
 show bP TT aNg ⟨[(0,.d (.sl (cM cI a0))),(1,.d (.ptr [.sl (cM cI a1)] 0))],[]⟩ _ = _
 unfold aNg pD
 have u:=@NU
 exact oR
theorem HA (a0 a1:List Int):KF TT 47 [.sl (cM cI a0),.ptr [.sl (cM cI a1)] 0] (pD a0 a1) (fun (r:Bool)=>dB r):=kF (GS a0 a1) (fun _=>rfl) (fun _=>rfl)
abbrev fZ (a0:List (List Int)) (a1:List Int) (p1:Int):St:=⟨[(0,.d (.sl (cM (cL cI) a0))),(1,.d (.fn 47 [.ptr [.sl (cM cI a1)] 0])),(7,dI (a0.length:Int)),(8,dI p1)],[]⟩
theorem tM (a0:List (List Int)) (a1:List Int) (p1:Int):bP TT eK (fZ a0 a1 p1) (fun e s=>some (e,s)) = cD (fun (w:Int)=>fZ a0 a1 w) (fun (r:Unit ⊕ Int)=>Sum.elim (fun (z:Unit)=>(((.exit 0),⟨[],[]⟩):Ex × St)) (fun (z:Int)=>((.ret,⟨[(4,dI z)],[]⟩):Ex × St)) r) (dP a0 a1 p1):=by
 unfold eK dP
 have u:=@HA
 exact oR
theorem sT {β:Type} (a0:List (List Int)) (a1:List Int) (p1:Int) (k:Ex->St->Option β):bP TT mE (fZ a0 a1 p1) k = (gO a0 a1 p1).bind (fun (r:Unit ⊕ Int)=>Sum.elim (fun (z:Unit)=>k (.exit 0) ⟨[],[]⟩) (fun (z:Int)=>k .ret ⟨[(4,dI z)],[]⟩) r):=by
 have hh:=fun (w:Int)=>tM a0 a1 w
 have h:=fun ho=>aX (T:=TT) (k:=k) (c:=eK) (step:=(fun (w:Int)=>dP a0 a1 w)) _ _ ho hh p1
 refine Eq.trans (h (fun r s e=>by have q:=congrArg Prod.fst e; rcases r with x | x <;> cases q)) ?_
 unfold gO
 exact aL _ fun x=>by rcases x with x | x <;> rfl
theorem vQ (a0:List (List Int)) (a1:List Int):Vm.call TT 75 [.sl (cM (cL cI) a0),.fn 47 [.ptr [.sl (cM cI a1)] 0]] = (e9 a0 a1).map fun (r:Int)=>.int .i64 r:=by
 refine (bE (show TT 75 = some (.code ⟨2,19,[.tmp 4],aNm,false,false⟩) from rfl) _ rfl rfl).trans ?_
 show bP TT aNm ⟨[(0,.d (.sl (cM (cL cI) a0))),(1,.d (.fn 47 [.ptr [.sl (cM cI a1)] 0]))],[]⟩ _ = _
 unfold aNm e9
 have u:=@sT
 exact oR
theorem vP (a0:List (List Int)) (a1:List Int):KF TT 75 [.sl (cM (cL cI) a0),.fn 47 [.ptr [.sl (cM cI a1)] 0]] (e9 a0 a1) (fun (r:Int)=>dI r):=kF (vQ a0 a1) (fun _=>rfl) (fun _=>rfl)
theorem sU (a0:List (List Int)) (a1:List Int):Vm.call TT 46 [.sl (cM (cL cI) a0),.fn 47 [.ptr [.sl (cM cI a1)] 0]] = (d9 a0 a1).map fun (r:Bool)=>.bool r:=by
 refine (bE (show TT 46 = some (.code ⟨2,9,[.tmp 4],aNS,false,false⟩) from rfl) _ rfl rfl).trans ?_
 show bP TT aNS ⟨[(0,.d (.sl (cM (cL cI) a0))),(1,.d (.fn 47 [.ptr [.sl (cM cI a1)] 0]))],[]⟩ _ = _
 unfold aNS d9
 have u:=@vP
 exact oR
theorem kH (a0:List (List Int)) (a1:List Int):KF TT 46 [.sl (cM (cL cI) a0),.fn 47 [.ptr [.sl (cM cI a1)] 0]] (d9 a0 a1) (fun (r:Bool)=>dB r):=kF (sU a0 a1) (fun _=>rfl) (fun _=>rfl)
theorem AJ {β:Type} (a1:List aE) (bl fz:List (Nat × Option aI)) (k:V->Option β) (kw:V->List (Nat × Option aI)->Option β):yJ TT 26 bl 21 [.sl (cM aE.cells a1)] fz k kw = (oG a1).bind fun (r:(List Int))=>aZ bl 100026 fun b=>fL b (kw (.own 100026 0) ((100026,some (.rows 0 3 1 (cM cI r))) :: fz)):=IU (DU a1) fz
theorem uN {β:Type} (x22:List Int) (bl:List (Nat × Option aI)) (k:V->Option β) (kw:V->List (Nat × Option aI)->Option β):vX TT 30044 bl 49 [.sl (cM cI x22)] k kw = (gC x22).bind fun (r:(List Int))=>aZ bl 130044 fun b=>fL b (kw (.own 130044 0) ((130044,some (.rows 0 3 1 (cM cI r))) :: [])):=qN (u4 x22) (fun _=>(nL rfl (uB (nV _ (fun _=>rfl) _) rfl)))
theorem uW {β:Type} (a2:List Int) (bl:List (Nat × Option aI)) (k:V->Option β) (kw:V->List (Nat × Option aI)->Option β):vX TT 50051 bl 49 [.sl (cM cI a2)] k kw = (gC a2).bind fun (r:(List Int))=>aZ bl 150051 fun b=>fL b (kw (.own 150051 0) ((150051,some (.rows 0 3 1 (cM cI r))) :: [])):=qN (u4 a2) (fun _=>(nL rfl (uB (nV _ (fun _=>rfl) _) rfl)))
abbrev uF (a0:Int) (a1:List aE) (a2:List Int) (p5 p6:Int) (p7:List Int):St:=⟨[(0,.own 100026 0),(1,.d (.fn 43 [.ptr [.sl (cM cI a2)] 0])),(5,dI p5),(6,dI p6)],[(3,some (.box [dI a0])),(4,some (.box [.d (.sl (cM aE.cells a1))])),(8001,some (.outer [.ptr 3 0,.ptr 4 0,.d (.ptr [.sl (cM cI a2)] 0)])),(100026,some (.rows 0 3 1 (cM cI p7)))]⟩
theorem J8 (a0:Int) (a1:List aE) (a2:List Int) (p5 p6:Int) (p7:List Int):bP TT qE (uF a0 a1 a2 p5 p6 p7) (fun e s=>some (e,s)) = cD (fun (w:Int × Int × (List Int))=>uF a0 a1 a2 w.1 w.2.1 w.2.2) (fun (r:Int × (List Int))=>(((.exit 0),⟨[(0,.own 100026 0),(5,dI r.1)],[(3,some (.box [dI a0])),(4,some (.box [.d (.sl (cM aE.cells a1))])),(8001,some (.outer [.ptr 3 0,.ptr 4 0,.d (.ptr [.sl (cM cI a2)] 0)])),(100026,some (.rows 0 3 1 (cM cI r.2)))]⟩):Ex × St)) (oY a0 a1 a2 p5 p6 p7):=by
 unfold qE oY
 have u:=aN (aN (aN @uE @vZ) (aN @zQ (aN @vU @yD))) (aN (aN @kH @mC) (aN @AJ (aN @uN @uW)))
 exact oR
theorem JY {β:Type} (a0:Int) (a1:List aE) (a2:List Int) (p5 p6:Int) (p7:List Int) (k:Ex->St->Option β):bP TT BE (uF a0 a1 a2 p5 p6 p7) k = (xX a0 a1 a2 p5 p6 p7).bind (fun (r:Int × (List Int))=>k (.exit 0) ⟨[(0,.own 100026 0),(5,dI r.1)],[(3,some (.box [dI a0])),(4,some (.box [.d (.sl (cM aE.cells a1))])),(8001,some (.outer [.ptr 3 0,.ptr 4 0,.d (.ptr [.sl (cM cI a2)] 0)])),(100026,some (.rows 0 3 1 (cM cI r.2)))]⟩):=by
 have hh:=fun (w:Int × Int × (List Int))=>J8 a0 a1 a2 w.1 w.2.1 w.2.2
 have h:=fun ho=>aX (T:=TT) (k:=k) (c:=qE) (step:=(fun (w:Int × Int × (List Int))=>oY a0 a1 a2 w.1 w.2.1 w.2.2)) _ _ ho hh (p5,p6,p7)
 refine Eq.trans (h (fun r s e=>by have q:=congrArg Prod.fst e; rcases r with x <;> cases q)) ?_
 unfold xX
 exact aL _ fun x=>by rcases x with x <;> rfl
abbrev uL (a0:Int) (a1:List aE) (a2 p14:List Int) (p17:List (List Int)) (p18:Int) (p19:List (List Int)) (p20 r16:Int) (x22:List Int) (p25:Int) (p26:List (List Int)):St:=⟨[(1,.ptr 20001 0),(4,.own 30049 0),(6,.d (.sl (cM cI x22))),(8,dI p25),(16,dI (p14.length:Int)),(17,dI p18),(19,.d (.sl (cM (cL cI) p17))),(20,dI (p17.length:Int)),(21,dI p20)],[(3,some (.box [dI a0])),(4,some (.box [.d (.sl (cM aE.cells a1))])),(11,some (.box [dI r16])),(12,some (.box [.own 50064 0])),(8003,some (.outer [.ptr 3 0,.ptr 4 0,.d (.ptr [.sl (cM cI a2)] 0),.ptr 11 0,.ptr 12 0])),(20001,some (.box [.own 100026 0])),(30014,none),(30049,some (.rows 0 23 1 (cM (cL cI) p26))),(50064,some (.rows 0 23 1 (cM (cL cI) p19))),(100026,some (.rows 0 3 1 (cM cI p14)))]⟩
theorem J5 (a0:Int) (a1:List aE) (a2 p14:List Int) (p17:List (List Int)) (p18:Int) (p19:List (List Int)) (p20 r16:Int) (x22:List Int) (p25:Int) (p26:List (List Int)):bP TT pR (uL a0 a1 a2 p14 p17 p18 p19 p20 r16 x22 p25 p26) (fun e s=>some (e,s)) = cD (fun (w:Int × (List (List Int)))=>uL a0 a1 a2 p14 p17 p18 p19 p20 r16 x22 w.1 w.2) (fun (r:(List (List Int)))=>(((.exit 4),⟨[(1,.ptr 20001 0),(4,.own 30049 0),(16,dI (p14.length:Int)),(17,dI p18),(19,.d (.sl (cM (cL cI) p17))),(20,dI (p17.length:Int)),(21,dI p20)],[(3,some (.box [dI a0])),(4,some (.box [.d (.sl (cM aE.cells a1))])),(11,some (.box [dI r16])),(12,some (.box [.own 50064 0])),(8003,some (.outer [.ptr 3 0,.ptr 4 0,.d (.ptr [.sl (cM cI a2)] 0),.ptr 11 0,.ptr 12 0])),(20001,some (.box [.own 100026 0])),(30014,none),(30049,some (.rows 0 23 1 (cM (cL cI) r))),(50064,some (.rows 0 23 1 (cM (cL cI) p19))),(100026,some (.rows 0 3 1 (cM cI p14)))]⟩):Ex × St)) (pX a0 a1 a2 p14 p17 p18 p19 p20 r16 x22 p25 p26):=by
 unfold pR pX
 have u:=aN @uN @uW
 exact oR
theorem KE {β:Type} (a0:Int) (a1:List aE) (a2 p14:List Int) (p17:List (List Int)) (p18:Int) (p19:List (List Int)) (p20 r16:Int) (x22:List Int) (p25:Int) (p26:List (List Int)) (k:Ex->St->Option β):bP TT A4 (uL a0 a1 a2 p14 p17 p18 p19 p20 r16 x22 p25 p26) k = (xQ a0 a1 a2 p14 p17 p18 p19 p20 r16 x22 p25 p26).bind (fun (r:(List (List Int)))=>k (.exit 4) ⟨[(1,.ptr 20001 0),(4,.own 30049 0),(16,dI (p14.length:Int)),(17,dI p18),(19,.d (.sl (cM (cL cI) p17))),(20,dI (p17.length:Int)),(21,dI p20)],[(3,some (.box [dI a0])),(4,some (.box [.d (.sl (cM aE.cells a1))])),(11,some (.box [dI r16])),(12,some (.box [.own 50064 0])),(8003,some (.outer [.ptr 3 0,.ptr 4 0,.d (.ptr [.sl (cM cI a2)] 0),.ptr 11 0,.ptr 12 0])),(20001,some (.box [.own 100026 0])),(30014,none),(30049,some (.rows 0 23 1 (cM (cL cI) r))),(50064,some (.rows 0 23 1 (cM (cL cI) p19))),(100026,some (.rows 0 3 1 (cM cI p14)))]⟩):=by
 have hh:=fun (w:Int × (List (List Int)))=>J5 a0 a1 a2 p14 p17 p18 p19 p20 r16 x22 w.1 w.2
 have h:=fun ho=>aX (T:=TT) (k:=k) (c:=pR) (step:=(fun (w:Int × (List (List Int)))=>pX a0 a1 a2 p14 p17 p18 p19 p20 r16 x22 w.1 w.2)) _ _ ho hh (p25,p26)
 refine Eq.trans (h (fun r s e=>by have q:=congrArg Prod.fst e; rcases r with x <;> cases q)) ?_
 unfold xQ
 exact aL _ fun x=>by rcases x with x <;> rfl
theorem LG {β:Type} (a0:Int) (a1:List aE) (a2 p14:List Int) (p17:List (List Int)) (p18:Int) (p19:List (List Int)) (p20:Int) (p21:List (List Int)) (r16:Int) (x22:List Int) (p24:Int) (k:Ex->St->Option β):bP TT uK ⟨[(1,.ptr 20001 0),(4,.own 30049 0),(6,.d (.sl (cM cI x22))),(7,dI p24),(16,dI (p14.length:Int)),(17,dI p18),(19,.d (.sl (cM (cL cI) p17))),(20,dI (p17.length:Int)),(21,dI p20)],[(3,some (.box [dI a0])),(4,some (.box [.d (.sl (cM aE.cells a1))])),(11,some (.box [dI r16])),(12,some (.box [.own 50064 0])),(8003,some (.outer [.ptr 3 0,.ptr 4 0,.d (.ptr [.sl (cM cI a2)] 0),.ptr 11 0,.ptr 12 0])),(20001,some (.box [.own 100026 0])),(30014,none),(30049,some (.rows 0 23 1 (cM (cL cI) p21))),(50064,some (.rows 0 23 1 (cM (cL cI) p19))),(100026,some (.rows 0 3 1 (cM cI p14)))]⟩ k = (sG a0 a1 a2 p14 p17 p18 p19 p20 p21 r16 x22 p24).bind (fun (r:(List (List Int)))=>k .normal ⟨[(1,.ptr 20001 0),(4,.own 30049 0),(16,dI (p14.length:Int)),(17,dI p18),(19,.d (.sl (cM (cL cI) p17))),(20,dI (p17.length:Int)),(21,dI p20)],[(3,some (.box [dI a0])),(4,some (.box [.d (.sl (cM aE.cells a1))])),(11,some (.box [dI r16])),(12,some (.box [.own 50064 0])),(8003,some (.outer [.ptr 3 0,.ptr 4 0,.d (.ptr [.sl (cM cI a2)] 0),.ptr 11 0,.ptr 12 0])),(20001,some (.box [.own 100026 0])),(30014,none),(30049,some (.rows 0 23 1 (cM (cL cI) r))),(50064,some (.rows 0 23 1 (cM (cL cI) p19))),(100026,some (.rows 0 3 1 (cM cI p14)))]⟩):=by
 unfold uK sG
 have u:=@KE
 exact oR
abbrev uQ (a0:Int) (a1:List aE) (a2 p14:List Int) (p17:List (List Int)) (p18:Int) (p19:List (List Int)) (r16 p20:Int) (p21:List (List Int)):St:=⟨[(1,.ptr 20001 0),(4,.own 30049 0),(16,dI (p14.length:Int)),(17,dI p18),(19,.d (.sl (cM (cL cI) p17))),(20,dI (p17.length:Int)),(21,dI p20)],[(3,some (.box [dI a0])),(4,some (.box [.d (.sl (cM aE.cells a1))])),(11,some (.box [dI r16])),(12,some (.box [.own 50064 0])),(8003,some (.outer [.ptr 3 0,.ptr 4 0,.d (.ptr [.sl (cM cI a2)] 0),.ptr 11 0,.ptr 12 0])),(20001,some (.box [.own 100026 0])),(30014,none),(30049,some (.rows 0 23 1 (cM (cL cI) p21))),(50064,some (.rows 0 23 1 (cM (cL cI) p19))),(100026,some (.rows 0 3 1 (cM cI p14)))]⟩
theorem K3 (a0:Int) (a1:List aE) (a2 p14:List Int) (p17:List (List Int)) (p18:Int) (p19:List (List Int)) (r16 p20:Int) (p21:List (List Int)):bP TT pT (uQ a0 a1 a2 p14 p17 p18 p19 r16 p20 p21) (fun e s=>some (e,s)) = cD (fun (w:Int × (List (List Int)))=>uQ a0 a1 a2 p14 p17 p18 p19 r16 w.1 w.2) (fun (r:(List (List Int)))=>(((.exit 2),⟨[(1,.ptr 20001 0),(4,.own 30049 0),(16,dI (p14.length:Int)),(17,dI p18)],[(3,some (.box [dI a0])),(4,some (.box [.d (.sl (cM aE.cells a1))])),(11,some (.box [dI r16])),(12,some (.box [.own 50064 0])),(8003,some (.outer [.ptr 3 0,.ptr 4 0,.d (.ptr [.sl (cM cI a2)] 0),.ptr 11 0,.ptr 12 0])),(20001,some (.box [.own 100026 0])),(30049,some (.rows 0 23 1 (cM (cL cI) r))),(50064,some (.rows 0 23 1 (cM (cL cI) p19))),(100026,some (.rows 0 3 1 (cM cI p14)))]⟩):Ex × St)) (pI a0 a1 a2 p14 p17 p18 p19 r16 p20 p21):=by
 unfold pT pI
 have u:=@LG
 exact oR
theorem JZ {β:Type} (a0:Int) (a1:List aE) (a2 p14:List Int) (p17:List (List Int)) (p18:Int) (p19:List (List Int)) (r16 p20:Int) (p21:List (List Int)) (k:Ex->St->Option β):bP TT AX (uQ a0 a1 a2 p14 p17 p18 p19 r16 p20 p21) k = (xW a0 a1 a2 p14 p17 p18 p19 r16 p20 p21).bind (fun (r:(List (List Int)))=>k (.exit 2) ⟨[(1,.ptr 20001 0),(4,.own 30049 0),(16,dI (p14.length:Int)),(17,dI p18)],[(3,some (.box [dI a0])),(4,some (.box [.d (.sl (cM aE.cells a1))])),(11,some (.box [dI r16])),(12,some (.box [.own 50064 0])),(8003,some (.outer [.ptr 3 0,.ptr 4 0,.d (.ptr [.sl (cM cI a2)] 0),.ptr 11 0,.ptr 12 0])),(20001,some (.box [.own 100026 0])),(30049,some (.rows 0 23 1 (cM (cL cI) r))),(50064,some (.rows 0 23 1 (cM (cL cI) p19))),(100026,some (.rows 0 3 1 (cM cI p14)))]⟩):=by
 have hh:=fun (w:Int × (List (List Int)))=>K3 a0 a1 a2 p14 p17 p18 p19 r16 w.1 w.2
 have h:=fun ho=>aX (T:=TT) (k:=k) (c:=pT) (step:=(fun (w:Int × (List (List Int)))=>pI a0 a1 a2 p14 p17 p18 p19 r16 w.1 w.2)) _ _ ho hh (p20,p21)
 refine Eq.trans (h (fun r s e=>by have q:=congrArg Prod.fst e; rcases r with x <;> cases q)) ?_
 unfold xW
 exact aL _ fun x=>by rcases x with x <;> rfl
abbrev uZ (a0:Int) (a1:List aE) (a2 p14:List Int) (p18 p35:Int) (p36:List (List Int)) (r16:Int) (r34:(List (List Int))) (x37:List Int) (p38:Int) (p39:List Int):St:=⟨[(1,.ptr 20001 0),(4,.own 30049 0),(11,.own 30069 0),(16,dI (p14.length:Int)),(17,dI p18),(51,.own 30049 0),(52,dI (r34.length:Int)),(53,dI p35),(57,.d (.sl (cM cI x37))),(58,dI (x37.length:Int)),(59,dI p38)],[(3,some (.box [dI a0])),(4,some (.box [.d (.sl (cM aE.cells a1))])),(11,some (.box [dI r16])),(12,some (.box [.own 50064 0])),(8003,some (.outer [.ptr 3 0,.ptr 4 0,.d (.ptr [.sl (cM cI a2)] 0),.ptr 11 0,.ptr 12 0])),(20001,some (.box [.own 100026 0])),(30049,some (.rows 0 23 1 (cM (cL cI) r34))),(30069,some (.rows 0 3 1 (cM cI p39))),(50064,some (.rows 0 23 1 (cM (cL cI) p36))),(100026,some (.rows 0 3 1 (cM cI p14)))]⟩
theorem K6 (a0:Int) (a1:List aE) (a2 p14:List Int) (p18 p35:Int) (p36:List (List Int)) (r16:Int) (r34:(List (List Int))) (x37:List Int) (p38:Int) (p39:List Int):bP TT qD (uZ a0 a1 a2 p14 p18 p35 p36 r16 r34 x37 p38 p39) (fun e s=>some (e,s)) = cD (fun (w:Int × (List Int))=>uZ a0 a1 a2 p14 p18 p35 p36 r16 r34 x37 w.1 w.2) (fun (r:(List Int))=>(((.exit 8),⟨[(1,.ptr 20001 0),(4,.own 30049 0),(11,.own 30069 0),(16,dI (p14.length:Int)),(17,dI p18),(51,.own 30049 0),(52,dI (r34.length:Int)),(53,dI p35)],[(3,some (.box [dI a0])),(4,some (.box [.d (.sl (cM aE.cells a1))])),(11,some (.box [dI r16])),(12,some (.box [.own 50064 0])),(8003,some (.outer [.ptr 3 0,.ptr 4 0,.d (.ptr [.sl (cM cI a2)] 0),.ptr 11 0,.ptr 12 0])),(20001,some (.box [.own 100026 0])),(30049,some (.rows 0 23 1 (cM (cL cI) r34))),(30069,some (.rows 0 3 1 (cM cI r))),(50064,some (.rows 0 23 1 (cM (cL cI) p36))),(100026,some (.rows 0 3 1 (cM cI p14)))]⟩):Ex × St)) (pG a0 a1 a2 p14 p18 p35 p36 r16 r34 x37 p38 p39):=by
 unfold qD pG
 exact HW
theorem LB {β:Type} (a0:Int) (a1:List aE) (a2 p14:List Int) (p18 p35:Int) (p36:List (List Int)) (r16:Int) (r34:(List (List Int))) (x37:List Int) (p38:Int) (p39:List Int) (k:Ex->St->Option β):bP TT AY (uZ a0 a1 a2 p14 p18 p35 p36 r16 r34 x37 p38 p39) k = (xV a0 a1 a2 p14 p18 p35 p36 r16 r34 x37 p38 p39).bind (fun (r:(List Int))=>k (.exit 8) ⟨[(1,.ptr 20001 0),(4,.own 30049 0),(11,.own 30069 0),(16,dI (p14.length:Int)),(17,dI p18),(51,.own 30049 0),(52,dI (r34.length:Int)),(53,dI p35)],[(3,some (.box [dI a0])),(4,some (.box [.d (.sl (cM aE.cells a1))])),(11,some (.box [dI r16])),(12,some (.box [.own 50064 0])),(8003,some (.outer [.ptr 3 0,.ptr 4 0,.d (.ptr [.sl (cM cI a2)] 0),.ptr 11 0,.ptr 12 0])),(20001,some (.box [.own 100026 0])),(30049,some (.rows 0 23 1 (cM (cL cI) r34))),(30069,some (.rows 0 3 1 (cM cI r))),(50064,some (.rows 0 23 1 (cM (cL cI) p36))),(100026,some (.rows 0 3 1 (cM cI p14)))]⟩):=by
 have hh:=fun (w:Int × (List Int))=>K6 a0 a1 a2 p14 p18 p35 p36 r16 r34 x37 w.1 w.2
 have h:=fun ho=>aX (T:=TT) (k:=k) (c:=qD) (step:=(fun (w:Int × (List Int))=>pG a0 a1 a2 p14 p18 p35 p36 r16 r34 x37 w.1 w.2)) _ _ ho hh (p38,p39)
 refine Eq.trans (h (fun r s e=>by have q:=congrArg Prod.fst e; rcases r with x <;> cases q)) ?_
 unfold xV
 exact aL _ fun x=>by rcases x with x <;> rfl
abbrev uU (a0:Int) (a1:List aE) (a2 p14:List Int) (p18 r16:Int) (r34:(List (List Int))) (p35:Int) (p36:List (List Int)):St:=⟨[(1,.ptr 20001 0),(4,.own 30049 0),(16,dI (p14.length:Int)),(17,dI p18),(51,.own 30049 0),(52,dI (r34.length:Int)),(53,dI p35)],[(3,some (.box [dI a0])),(4,some (.box [.d (.sl (cM aE.cells a1))])),(11,some (.box [dI r16])),(12,some (.box [.own 50064 0])),(8003,some (.outer [.ptr 3 0,.ptr 4 0,.d (.ptr [.sl (cM cI a2)] 0),.ptr 11 0,.ptr 12 0])),(20001,some (.box [.own 100026 0])),(30049,some (.rows 0 23 1 (cM (cL cI) r34))),(50064,some (.rows 0 23 1 (cM (cL cI) p36))),(100026,some (.rows 0 3 1 (cM cI p14)))]⟩
theorem K2 (a0:Int) (a1:List aE) (a2 p14:List Int) (p18 r16:Int) (r34:(List (List Int))) (p35:Int) (p36:List (List Int)):bP TT pM (uU a0 a1 a2 p14 p18 r16 r34 p35 p36) (fun e s=>some (e,s)) = cD (fun (w:Int × (List (List Int)))=>uU a0 a1 a2 p14 p18 r16 r34 w.1 w.2) (fun (r:(List (List Int)))=>(((.exit 6),⟨[(1,.ptr 20001 0),(4,.own 30049 0),(16,dI (p14.length:Int)),(17,dI p18)],[(3,some (.box [dI a0])),(4,some (.box [.d (.sl (cM aE.cells a1))])),(11,some (.box [dI r16])),(12,some (.box [.own 50064 0])),(8003,some (.outer [.ptr 3 0,.ptr 4 0,.d (.ptr [.sl (cM cI a2)] 0),.ptr 11 0,.ptr 12 0])),(20001,some (.box [.own 100026 0])),(30049,some (.rows 0 23 1 (cM (cL cI) r34))),(50064,some (.rows 0 23 1 (cM (cL cI) r))),(100026,some (.rows 0 3 1 (cM cI p14)))]⟩):Ex × St)) (pB a0 a1 a2 p14 p18 r16 r34 p35 p36):=by
 unfold pM pB
 have u:=aN (aN @LB (aN @vZ @vU)) (aN @kH (aN @uN @uW))
 exact oR
theorem LC {β:Type} (a0:Int) (a1:List aE) (a2 p14:List Int) (p18 r16:Int) (r34:(List (List Int))) (p35:Int) (p36:List (List Int)) (k:Ex->St->Option β):bP TT BD (uU a0 a1 a2 p14 p18 r16 r34 p35 p36) k = (xM a0 a1 a2 p14 p18 r16 r34 p35 p36).bind (fun (r:(List (List Int)))=>k (.exit 6) ⟨[(1,.ptr 20001 0),(4,.own 30049 0),(16,dI (p14.length:Int)),(17,dI p18)],[(3,some (.box [dI a0])),(4,some (.box [.d (.sl (cM aE.cells a1))])),(11,some (.box [dI r16])),(12,some (.box [.own 50064 0])),(8003,some (.outer [.ptr 3 0,.ptr 4 0,.d (.ptr [.sl (cM cI a2)] 0),.ptr 11 0,.ptr 12 0])),(20001,some (.box [.own 100026 0])),(30049,some (.rows 0 23 1 (cM (cL cI) r34))),(50064,some (.rows 0 23 1 (cM (cL cI) r))),(100026,some (.rows 0 3 1 (cM cI p14)))]⟩):=by
 have hh:=fun (w:Int × (List (List Int)))=>K2 a0 a1 a2 p14 p18 r16 r34 w.1 w.2
 have h:=fun ho=>aX (T:=TT) (k:=k) (c:=pM) (step:=(fun (w:Int × (List (List Int)))=>pB a0 a1 a2 p14 p18 r16 r34 w.1 w.2)) _ _ ho hh (p35,p36)
 refine Eq.trans (h (fun r s e=>by have q:=congrArg Prod.fst e; rcases r with x <;> cases q)) ?_
 unfold xM
 exact aL _ fun x=>by rcases x with x <;> rfl
abbrev u0 (a0:Int) (a1:List aE) (a2 p14:List Int) (r16:Int) (p17:List (List Int)) (p18:Int) (p19:List (List Int)):St:=⟨[(1,.ptr 20001 0),(3,.d (.sl (cM (cL cI) p17))),(16,dI (p14.length:Int)),(17,dI p18)],[(3,some (.box [dI a0])),(4,some (.box [.d (.sl (cM aE.cells a1))])),(11,some (.box [dI r16])),(12,some (.box [.own 50064 0])),(8003,some (.outer [.ptr 3 0,.ptr 4 0,.d (.ptr [.sl (cM cI a2)] 0),.ptr 11 0,.ptr 12 0])),(20001,some (.box [.own 100026 0])),(30014,none),(30049,none),(50064,some (.rows 0 23 1 (cM (cL cI) p19))),(100026,some (.rows 0 3 1 (cM cI p14)))]⟩
theorem KK (a0:Int) (a1:List aE) (a2 p14:List Int) (r16:Int) (p17:List (List Int)) (p18:Int) (p19:List (List Int)):bP TT pV (u0 a0 a1 a2 p14 r16 p17 p18 p19) (fun e s=>some (e,s)) = cD (fun (w:(List (List Int)) × Int × (List (List Int)))=>u0 a0 a1 a2 p14 r16 w.1 w.2.1 w.2.2) (fun (r:(List (List Int)))=>(((.exit 0),⟨[],[(3,some (.box [dI a0])),(4,some (.box [.d (.sl (cM aE.cells a1))])),(11,some (.box [dI r16])),(12,some (.box [.own 50064 0])),(8003,some (.outer [.ptr 3 0,.ptr 4 0,.d (.ptr [.sl (cM cI a2)] 0),.ptr 11 0,.ptr 12 0])),(50064,some (.rows 0 23 1 (cM (cL cI) r)))]⟩):Ex × St)) (pS a0 a1 a2 p14 r16 p17 p18 p19):=by
 unfold pV pS
 have u:=aN @JZ @LC
 exact oR
theorem K4 {β:Type} (a0:Int) (a1:List aE) (a2 p14:List Int) (r16:Int) (p17:List (List Int)) (p18:Int) (p19:List (List Int)) (k:Ex->St->Option β):bP TT u3 (u0 a0 a1 a2 p14 r16 p17 p18 p19) k = (xS a0 a1 a2 p14 r16 p17 p18 p19).bind (fun (r:(List (List Int)))=>k (.exit 0) ⟨[],[(3,some (.box [dI a0])),(4,some (.box [.d (.sl (cM aE.cells a1))])),(11,some (.box [dI r16])),(12,some (.box [.own 50064 0])),(8003,some (.outer [.ptr 3 0,.ptr 4 0,.d (.ptr [.sl (cM cI a2)] 0),.ptr 11 0,.ptr 12 0])),(50064,some (.rows 0 23 1 (cM (cL cI) r)))]⟩):=by
 have hh:=fun (w:(List (List Int)) × Int × (List (List Int)))=>KK a0 a1 a2 p14 r16 w.1 w.2.1 w.2.2
 have h:=fun ho=>aX (T:=TT) (k:=k) (c:=pV) (step:=(fun (w:(List (List Int)) × Int × (List (List Int)))=>pS a0 a1 a2 p14 r16 w.1 w.2.1 w.2.2)) _ _ ho hh (p17,p18,p19)
 refine Eq.trans (h (fun r s e=>by have q:=congrArg Prod.fst e; rcases r with x <;> cases q)) ?_
 unfold xS
 exact aL _ fun x=>by rcases x with x <;> rfl
theorem KC {β:Type} (a0:Int) (a1:List aE) (a2 p14:List Int) (k:Ex->St->Option β):bP TT uS ⟨[(3,.ptr 3 0),(4,.ptr 4 0),(5,.d (.ptr [.sl (cM cI a2)] 0)),(8,.own 100026 0)],[(3,some (.box [dI a0])),(4,some (.box [.d (.sl (cM aE.cells a1))])),(100026,some (.rows 0 3 1 (cM cI p14)))]⟩ k = (sH a0 a1 a2 p14).bind (fun (r:Int × (List (List Int)))=>k .ret ⟨[(6,.own 50064 0),(7,dI r.1)],[(50064,some (.rows 0 23 1 (cM (cL cI) r.2)))]⟩):=by
 unfold uS sH
 have u:=aN @K4 (aN @vZ @vU)
 exact oR
theorem FO (a0:Int) (a1:List aE) (a2:List Int):Vm.call TT 12 [.int .i64 a0,.sl (cM aE.cells a1),.sl (cM cI a2)] = (nK a0 a1 a2).map fun (r:(List (List Int)) × Int)=>.tup [.sl (cM (cL cI) r.1),.int .i64 r.2]:=by
 refine (bE (show TT 12 = some (.code ⟨3,66,[.tmp 6,.tmp 7],aN4,false,false⟩) from rfl) _ rfl rfl).trans ?_
 show bP TT aN4 ⟨[(0,dI a0),(1,.d (.sl (cM aE.cells a1))),(2,.d (.sl (cM cI a2)))],[]⟩ _ = _
 unfold aN4 nK
 have u:=aN (aN @JY (aN @KC @uE)) (aN @zQ (aN @mC @AJ))
 exact oR
theorem PI (a0:Int) (a1:List aE) (a2:List Int):KD TT 12 [.int .i64 a0,.sl (cM aE.cells a1),.sl (cM cI a2)] (nK a0 a1 a2) (fun (r:(List (List Int)) × Int)=>.tup [.d (.sl (cM (cL cI) r.1)),dI r.2]):=kD (FO a0 a1 a2) (fun _=>rfl) (fun _=>rfl) (fun _=>rfl)
abbrev qW (a0:List aE) (a1:List Int) (a2 a3 p1:Int) (p2:List Int) (p3:List a8):St:=⟨[(1,.d (.sl (cM cI a1))),(2,dI a2),(3,dI a3),(8,.own 33 0),(9,.own 51 0),(17,.d (.sl (cM aE.cells a0))),(18,dI (a0.length:Int)),(19,dI p1)],[(33,some (.rows 0 3 1 (cM cI p2))),(51,some (.rows 0 60 9 (cM a8.cells p3)))]⟩
theorem F6 (a0:List aE) (a1:List Int) (a2 a3 p1:Int) (p2:List Int) (p3:List a8):bP TT l9 (qW a0 a1 a2 a3 p1 p2 p3) (fun e s=>some (e,s)) = cD (fun (w:Int × (List Int) × (List a8))=>qW a0 a1 a2 a3 w.1 w.2.1 w.2.2) (fun (r:(List Int) × (List a8))=>(((.exit 0),⟨[(8,.own 33 0),(9,.own 51 0)],[(33,some (.rows 0 3 1 (cM cI r.1))),(51,some (.rows 0 60 9 (cM a8.cells r.2)))]⟩):Ex × St)) (lW a0 a1 a2 a3 p1 p2 p3):=by
 unfold l9 lW
 exact HW
theorem F4 {β:Type} (a0:List aE) (a1:List Int) (a2 a3 p1:Int) (p2:List Int) (p3:List a8) (k:Ex->St->Option β):bP TT w6 (qW a0 a1 a2 a3 p1 p2 p3) k = (s7 a0 a1 a2 a3 p1 p2 p3).bind (fun (r:(List Int) × (List a8))=>k (.exit 0) ⟨[(8,.own 33 0),(9,.own 51 0)],[(33,some (.rows 0 3 1 (cM cI r.1))),(51,some (.rows 0 60 9 (cM a8.cells r.2)))]⟩):=by
 have hh:=fun (w:Int × (List Int) × (List a8))=>F6 a0 a1 a2 a3 w.1 w.2.1 w.2.2
 have h:=fun ho=>aX (T:=TT) (k:=k) (c:=l9) (step:=(fun (w:Int × (List Int) × (List a8))=>lW a0 a1 a2 a3 w.1 w.2.1 w.2.2)) _ _ ho hh (p1,p2,p3)
 refine Eq.trans (h (fun r s e=>by have q:=congrArg Prod.fst e; rcases r with x <;> cases q)) ?_
 unfold s7
 exact aL _ fun x=>by rcases x with x <;> rfl
theorem K9 (a0:List aE) (a1:List Int) (a2 a3:Int):Vm.call TT 14 [.sl (cM aE.cells a0),.sl (cM cI a1),.int .i64 a2,.int .i64 a3] = (sF a0 a1 a2 a3).map fun (r:(List Int) × (List a8))=>.tup [.sl (cM cI r.1),.sl (cM a8.cells r.2)]:=by
 refine (bE (show TT 14 = some (.code ⟨4,55,[.tmp 8,.tmp 9],aNM,false,false⟩) from rfl) _ rfl rfl).trans ?_
 show bP TT aNM ⟨[(0,.d (.sl (cM aE.cells a0))),(1,.d (.sl (cM cI a1))),(2,dI a2),(3,dI a3)],[]⟩ _ = _
 unfold aNM sF
 have u:=@F4
 exact oR
theorem KR (a0:List aE) (a1:List Int) (a2 a3:Int):KD TT 14 [.sl (cM aE.cells a0),.sl (cM cI a1),.int .i64 a2,.int .i64 a3] (sF a0 a1 a2 a3) (fun (r:(List Int) × (List a8))=>.tup [.d (.sl (cM cI r.1)),.d (.sl (cM a8.cells r.2))]):=kD (K9 a0 a1 a2 a3) (fun _=>rfl) (fun _=>rfl) (fun _=>rfl)
abbrev oJ (a0 a1:List Int) (p1:Int):St:=⟨[(0,.d (.sl (cM cI a0))),(1,.d (.sl (cM cI a1))),(5,dI p1)],[]⟩
theorem CZ (a0 a1:List Int) (p1:Int):bP TT jV (oJ a0 a1 p1) (fun e s=>some (e,s)) = cD (fun (w:Int)=>oJ a0 a1 w) (fun (r:Unit ⊕ Unit)=>Sum.elim (fun (z:Unit)=>(((.exit 0),⟨[],[]⟩):Ex × St)) (fun (z:Unit)=>((.ret,⟨[(4,dB false)],[]⟩):Ex × St)) r) (j9 a0 a1 p1):=by
 unfold jV j9
 exact HW
theorem C6 {β:Type} (a0 a1:List Int) (p1:Int) (k:Ex->St->Option β):bP TT vB (oJ a0 a1 p1) k = (qP a0 a1 p1).bind (fun (r:Unit ⊕ Unit)=>Sum.elim (fun (z:Unit)=>k (.exit 0) ⟨[],[]⟩) (fun (z:Unit)=>k .ret ⟨[(4,dB false)],[]⟩) r):=by
 have hh:=fun (w:Int)=>CZ a0 a1 w
 have h:=fun ho=>aX (T:=TT) (k:=k) (c:=jV) (step:=(fun (w:Int)=>j9 a0 a1 w)) _ _ ho hh p1
 refine Eq.trans (h (fun r s e=>by have q:=congrArg Prod.fst e; rcases r with x | x <;> cases q)) ?_
 unfold qP
 exact aL _ fun x=>by rcases x with x | x <;> rfl
theorem HH (a0 a1:List Int):Vm.call TT 16 [.sl (cM cI a0),.sl (cM cI a1)] = (gQ a0 a1).map fun (r:Bool)=>.bool r:=by
 refine (bE (show TT 16 = some (.code ⟨2,26,[.tmp 4],aOb,false,false⟩) from rfl) _ rfl rfl).trans ?_
 show bP TT aOb ⟨[(0,.d (.sl (cM cI a0))),(1,.d (.sl (cM cI a1)))],[]⟩ _ = _
 unfold aOb gQ
 have u:=@C6
 exact oR
theorem yU (a0 a1:List Int):KF TT 16 [.sl (cM cI a0),.sl (cM cI a1)] (gQ a0 a1) (fun (r:Bool)=>dB r):=kF (HH a0 a1) (fun _=>rfl) (fun _=>rfl)
abbrev mF (a0 a1:List Int) (p1:Int):St:=⟨[(0,.d (.sl (cM cI a0))),(1,.d (.sl (cM cI a1))),(5,dI p1)],[]⟩
theorem BL (a0 a1:List Int) (p1:Int):bP TT i7 (mF a0 a1 p1) (fun e s=>some (e,s)) = cD (fun (w:Int)=>mF a0 a1 w) (fun (r:Unit ⊕ Bool)=>Sum.elim (fun (z:Unit)=>(((.exit 0),⟨[],[]⟩):Ex × St)) (fun (z:Bool)=>((.ret,⟨[(4,dB z)],[]⟩):Ex × St)) r) (i5 a0 a1 p1):=by
 unfold i7 i5
 exact HW
theorem BK {β:Type} (a0 a1:List Int) (p1:Int) (k:Ex->St->Option β):bP TT sO (mF a0 a1 p1) k = (oC a0 a1 p1).bind (fun (r:Unit ⊕ Bool)=>Sum.elim (fun (z:Unit)=>k (.exit 0) ⟨[],[]⟩) (fun (z:Bool)=>k .ret ⟨[(4,dB z)],[]⟩) r):=by
 have hh:=fun (w:Int)=>BL a0 a1 w
 have h:=fun ho=>aX (T:=TT) (k:=k) (c:=i7) (step:=(fun (w:Int)=>i5 a0 a1 w)) _ _ ho hh p1
 refine Eq.trans (h (fun r s e=>by have q:=congrArg Prod.fst e; rcases r with x | x <;> cases q)) ?_
 unfold oC
 exact aL _ fun x=>by rcases x with x | x <;> rfl
theorem EX (a0 a1:List Int):Vm.call TT 52 [.sl (cM cI a0),.sl (cM cI a1)] = (jR a0 a1).map fun (r:Bool)=>.bool r:=by
 refine (bE (show TT 52 = some (.code ⟨2,40,[.tmp 4],aPg,false,false⟩) from rfl) _ rfl rfl).trans ?_
 show bP TT aPg ⟨[(0,.d (.sl (cM cI a0))),(1,.d (.sl (cM cI a1)))],[]⟩ _ = _
 unfold aPg jR
 have u:=@BK
 exact oR
theorem FH (a0 a1:List Int):KF TT 52 [.sl (cM cI a0),.sl (cM cI a1)] (jR a0 a1) (fun (r:Bool)=>dB r):=kF (EX a0 a1) (fun _=>rfl) (fun _=>rfl)
abbrev kG (a0 a1:List (List Int)) (p1:Int):St:=⟨[(0,.d (.sl (cM (cL cI) a0))),(1,.d (.sl (cM (cL cI) a1))),(5,dI p1)],[]⟩
theorem zR (a0 a1:List (List Int)) (p1:Int):bP TT gJ (kG a0 a1 p1) (fun e s=>some (e,s)) = cD (fun (w:Int)=>kG a0 a1 w) (fun (r:Unit ⊕ Unit)=>Sum.elim (fun (z:Unit)=>(((.exit 0),⟨[],[]⟩):Ex × St)) (fun (z:Unit)=>((.ret,⟨[(4,dB false)],[]⟩):Ex × St)) r) (gI a0 a1 p1):=by
 unfold gJ gI
 have u:=@FH
 exact oR
theorem zP {β:Type} (a0 a1:List (List Int)) (p1:Int) (k:Ex->St->Option β):bP TT qK (kG a0 a1 p1) k = (lS a0 a1 p1).bind (fun (r:Unit ⊕ Unit)=>Sum.elim (fun (z:Unit)=>k (.exit 0) ⟨[],[]⟩) (fun (z:Unit)=>k .ret ⟨[(4,dB false)],[]⟩) r):=by
 have hh:=fun (w:Int)=>zR a0 a1 w
 have h:=fun ho=>aX (T:=TT) (k:=k) (c:=gJ) (step:=(fun (w:Int)=>gI a0 a1 w)) _ _ ho hh p1
 refine Eq.trans (h (fun r s e=>by have q:=congrArg Prod.fst e; rcases r with x | x <;> cases q)) ?_
 unfold lS
 exact aL _ fun x=>by rcases x with x | x <;> rfl
theorem BV (a0 a1:List (List Int)):Vm.call TT 17 [.sl (cM (cL cI) a0),.sl (cM (cL cI) a1)] = (gU a0 a1).map fun (r:Bool)=>.bool r:=by
 refine (bE (show TT 17 = some (.code ⟨2,37,[.tmp 4],aOD,false,false⟩) from rfl) _ rfl rfl).trans ?_
 show bP TT aOD ⟨[(0,.d (.sl (cM (cL cI) a0))),(1,.d (.sl (cM (cL cI) a1)))],[]⟩ _ = _
 unfold aOD gU
 have u:=@zP
 exact oR
theorem BN (a0 a1:List (List Int)):KF TT 17 [.sl (cM (cL cI) a0),.sl (cM (cL cI) a1)] (gU a0 a1) (fun (r:Bool)=>dB r):=kF (BV a0 a1) (fun _=>rfl) (fun _=>rfl)
abbrev uM (a0:List aE) (a1 a2:List Int) (p1:Int):St:=⟨[(1,.d (.sl (cM cI a1))),(2,.d (.sl (cM cI a2))),(14,.d (.sl (cM aE.cells a0))),(15,dI (a0.length:Int)),(16,dI p1)],[]⟩
theorem K5 (a0:List aE) (a1 a2:List Int) (p1:Int):bP TT pC (uM a0 a1 a2 p1) (fun e s=>some (e,s)) = cD (fun (w:Int)=>uM a0 a1 a2 w) (fun (r:Unit ⊕ Unit)=>Sum.elim (fun (z:Unit)=>(((.exit 0),⟨[],[]⟩):Ex × St)) (fun (z:Unit)=>((.ret,⟨[(6,dB false)],[]⟩):Ex × St)) r) (dM a0 a1 a2 p1):=by
 unfold pC dM
 have u:=@H6
 exact oR
theorem KZ {β:Type} (a0:List aE) (a1 a2:List Int) (p1:Int) (k:Ex->St->Option β):bP TT A0 (uM a0 a1 a2 p1) k = (sD a0 a1 a2 p1).bind (fun (r:Unit ⊕ Unit)=>Sum.elim (fun (z:Unit)=>k (.exit 0) ⟨[],[]⟩) (fun (z:Unit)=>k .ret ⟨[(6,dB false)],[]⟩) r):=by
 have hh:=fun (w:Int)=>K5 a0 a1 a2 w
 have h:=fun ho=>aX (T:=TT) (k:=k) (c:=pC) (step:=(fun (w:Int)=>dM a0 a1 a2 w)) _ _ ho hh p1
 refine Eq.trans (h (fun r s e=>by have q:=congrArg Prod.fst e; rcases r with x | x <;> cases q)) ?_
 unfold sD
 exact aL _ fun x=>by rcases x with x | x <;> rfl
theorem PB (a0:List aE) (a1 a2:List Int):Vm.call TT 23 [.sl (cM aE.cells a0),.sl (cM cI a1),.sl (cM cI a2)] = (iF a0 a1 a2).map fun (r:Bool)=>.bool r:=by
 refine (bE (show TT 23 = some (.code ⟨3,33,[.tmp 6],aMz,false,false⟩) from rfl) _ rfl rfl).trans ?_
 show bP TT aMz ⟨[(0,.d (.sl (cM aE.cells a0))),(1,.d (.sl (cM cI a1))),(2,.d (.sl (cM cI a2)))],[]⟩ _ = _
 unfold aMz iF
 have u:=@KZ
 exact oR
theorem zT (a0:List aE) (a1 a2:List Int):KF TT 23 [.sl (cM aE.cells a0),.sl (cM cI a1),.sl (cM cI a2)] (iF a0 a1 a2) (fun (r:Bool)=>dB r):=kF (PB a0 a1 a2) (fun _=>rfl) (fun _=>rfl)
theorem CE (r1:(List aE)):KD TT 10 [.int .i64 3,.sl (cM aE.cells r1),.sl []] (fJ 3 r1 []) (fun (r:(List Int) × (List Int) × Int)=>.tup [.d (.sl (cM cI r.1)),.d (.sl (cM cI r.2.1)),dI r.2.2]):=kD (FR 3 r1 []) (fun _=>rfl) (fun _=>rfl) (fun _=>rfl)
theorem CC (r1:(List aE)):KD TT 12 [.int .i64 3,.sl (cM aE.cells r1),.sl []] (nK 3 r1 []) (fun (r:(List (List Int)) × Int)=>.tup [.d (.sl (cM (cL cI) r.1)),dI r.2]):=kD (FO 3 r1 []) (fun _=>rfl) (fun _=>rfl) (fun _=>rfl)
theorem CP {β:Type} (r1:(List aE)) (bl fz:List (Nat × Option aI)) (k:V->Option β) (kw:V->List (Nat × Option aI)->Option β):yJ TT 139 bl 21 [.sl (cM aE.cells r1)] fz k kw = (oG r1).bind fun (r:(List Int))=>aZ bl 100139 fun b=>fL b (kw (.own 100139 0) ((100139,some (.rows 0 3 1 (cM cI r))) :: fz)):=IU (DU r1) fz
theorem CL {β:Type} (p12:Bool) (r1:(List aE)) (r3:(List Int) × (List Int) × Int) (r8:(List Int) × (List a8)) (p15:Bool) (k:Ex->St->Option β):bP TT nG ⟨[(1,.d (.sl (cM aE.cells r1))),(5,.d (.sl (cM cI r3.1))),(18,.d (.sl (cM a8.cells r8.2))),(19,dB p12),(20,dB p15)],[]⟩ k = (iG p12 r1 r3 r8 p15).bind (fun (r:Bool)=>k .ret ⟨[(0,dB r)],[]⟩):=by
 unfold nG iG
 have u:=aN (aN @yU @uE) (aN @zT @CP)
 exact oR
theorem CW {β:Type} (r1:(List aE)) (r3:(List Int) × (List Int) × Int) (r5 r6 r7:(List (List Int)) × Int) (r8:(List Int) × (List a8)) (p12:Bool) (k:Ex->St->Option β):bP TT nF ⟨[(1,.d (.sl (cM aE.cells r1))),(5,.d (.sl (cM cI r3.1))),(11,.d (.sl (cM (cL cI) r5.1))),(13,.d (.sl (cM (cL cI) r6.1))),(15,.d (.sl (cM (cL cI) r7.1))),(18,.d (.sl (cM a8.cells r8.2))),(19,dB p12)],[]⟩ k = (iJ r1 r3 r5 r6 r7 r8 p12).bind (fun (r:Bool)=>k .ret ⟨[(0,dB r)],[]⟩):=by
 unfold nF iJ
 have u:=aN @CL @BN
 exact oR
theorem w7:Vm.call TT 8 [] = (gA).map fun (r:Bool)=>.bool r:=by
 refine (bE (show TT 8 = some (.code ⟨0,166,[.tmp 0],bd8,false,false⟩) from rfl) _ rfl rfl).trans ?_
 show bP TT bd8 ⟨[],[]⟩ _ = _
 unfold bd8 gA
 have u:=aN (aN (aN @CW @FS) (aN @PI @KR)) (aN (aN @yU @DO) (aN @CE @CC))
 exact oR
theorem F9:KF TT 8 [] (gA) (fun (r:Bool)=>dB r):=kF (w7 ) (fun _=>rfl) (fun _=>rfl)
abbrev oI (a0:List aE) (p1:Int) (p2:List aF):St:=⟨[(0,.d (.sl (cM aE.cells a0))),(3,.own 5 0),(4,dI p1)],[(5,some (.rows 0 54 3 (cM aF.cells p2)))]⟩
theorem C2 (a0:List aE) (p1:Int) (p2:List aF):bP TT kB (oI a0 p1 p2) (fun e s=>some (e,s)) = cD (fun (w:Int × (List aF))=>oI a0 w.1 w.2) (fun (r:(List aF))=>(((.exit 0),⟨[(3,.own 5 0)],[(5,some (.rows 0 54 3 (cM aF.cells r)))]⟩):Ex × St)) (bV a0 p1 p2):=by
 unfold kB bV
 exact HW
theorem DA {β:Type} (a0:List aE) (p1:Int) (p2:List aF) (k:Ex->St->Option β):bP TT vA (oI a0 p1 p2) k = (lX a0 p1 p2).bind (fun (r:(List aF))=>k (.exit 0) ⟨[(3,.own 5 0)],[(5,some (.rows 0 54 3 (cM aF.cells r)))]⟩):=by
 have hh:=fun (w:Int × (List aF))=>C2 a0 w.1 w.2
 have h:=fun ho=>aX (T:=TT) (k:=k) (c:=kB) (step:=(fun (w:Int × (List aF))=>bV a0 w.1 w.2)) _ _ ho hh (p1,p2)
 refine Eq.trans (h (fun r s e=>by have q:=congrArg Prod.fst e; rcases r with x <;> cases q)) ?_
 unfold lX
 exact aL _ fun x=>by rcases x with x <;> rfl
theorem HV (a0:List aE):Vm.call TT 26 [.sl (cM aE.cells a0)] = (jG a0).map fun (r:(List aF))=>.sl (cM aF.cells r):=by
 refine (bE (show TT 26 = some (.code ⟨1,32,[.tmp 2],aL0,false,false⟩) from rfl) _ rfl rfl).trans ?_
 show bP TT aL0 ⟨[(0,.d (.sl (cM aE.cells a0)))],[]⟩ _ = _
 unfold aL0 jG
 have u:=@DA
 exact oR
theorem GJ (a0:List aE):KD TT 26 [.sl (cM aE.cells a0)] (jG a0) (fun (r:(List aF))=>.d (.sl (cM aF.cells r))):=kD (HV a0) (fun _=>rfl) (fun _=>rfl) (fun _=>rfl)
abbrev pL (a0:Int) (a1:List aF) (p1:Int):St:=⟨[(0,dI a0),(1,.d (.sl (cM aF.cells a1))),(5,dI p1)],[]⟩
theorem E7 (a0:Int) (a1:List aF) (p1:Int):bP TT lE (pL a0 a1 p1) (fun e s=>some (e,s)) = cD (fun (w:Int)=>pL a0 a1 w) (fun (r:Unit ⊕ Unit)=>Sum.elim (fun (z:Unit)=>(((.exit 0),⟨[(0,dI a0),(1,.d (.sl (cM aF.cells a1)))],[]⟩):Ex × St)) (fun (z:Unit)=>((.ret,⟨[(4,dB false)],[]⟩):Ex × St)) r) (bK a0 a1 p1):=by
 unfold lE bK
 exact HW
theorem FC {β:Type} (a0:Int) (a1:List aF) (p1:Int) (k:Ex->St->Option β):bP TT wM (pL a0 a1 p1) k = (jU a0 a1 p1).bind (fun (r:Unit ⊕ Unit)=>Sum.elim (fun (z:Unit)=>k (.exit 0) ⟨[(0,dI a0),(1,.d (.sl (cM aF.cells a1)))],[]⟩) (fun (z:Unit)=>k .ret ⟨[(4,dB false)],[]⟩) r):=by
 have hh:=fun (w:Int)=>E7 a0 a1 w
 have h:=fun ho=>aX (T:=TT) (k:=k) (c:=lE) (step:=(fun (w:Int)=>bK a0 a1 w)) _ _ ho hh p1
 refine Eq.trans (h (fun r s e=>by have q:=congrArg Prod.fst e; rcases r with x | x <;> cases q)) ?_
 unfold jU
 exact aL _ fun x=>by rcases x with x | x <;> rfl
theorem I6 (a0:Int) (a1:List aF):Vm.call TT 36 [.int .i64 a0,.sl (cM aF.cells a1)] = (jY a0 a1).map fun (r:Bool)=>.bool r:=by
 refine (bE (show TT 36 = some (.code ⟨2,51,[.tmp 4],aMy,false,false⟩) from rfl) _ rfl rfl).trans ?_
 show bP TT aMy ⟨[(0,dI a0),(1,.d (.sl (cM aF.cells a1)))],[]⟩ _ = _
 unfold aMy jY
 have u:=@FC
 exact oR
theorem I7 (a0:Int) (a1:List aF):KF TT 36 [.int .i64 a0,.sl (cM aF.cells a1)] (jY a0 a1) (fun (r:Bool)=>dB r):=kF (I6 a0 a1) (fun _=>rfl) (fun _=>rfl)
end Go.Proofs.Ytgjcnbgfaimepaa
