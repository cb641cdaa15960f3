/- The functions of the small machine compute the plain definitions. Printed by a program. -/
import Derived.Test.YtgjcnbgfaimepaaLnk3
set_option linter.unusedVariables false
set_option linter.unusedSimpArgs false
namespace Go.Proofs.Ytgjcnbgfaimepaa
open Vm
open Go.RowKit
set_option maxRecDepth 100000
set_option maxHeartbeats 4000000
attribute [local congr] yF BK yB BI
theorem PY (a0 a1:List Int):Vm.call TT 47 [.sl (cM cI a0),.ptr [.sl (cM cI a1)] 0] = (qS a0 a1).map fun (r:Bool)=>.bool r:=by
 refine (aV (show TT 47 = some (.code ⟨2,7,[.tmp 3],aOn,false,false⟩) from rfl) _ rfl rfl).trans ?_
 show bD TT aOn ⟨[(0,.d (.sl (cM cI a0))),(1,.d (.ptr [.sl (cM cI a1)] 0))],[]⟩ _ = _
 unfold aOn qS
 have u:=@UR
 exact mJ
theorem OH (a0 a1:List Int):KF TT 47 [.sl (cM cI a0),.ptr [.sl (cM cI a1)] 0] (qS a0 a1) (fun (r:Bool)=>dB r):=kF (PY a0 a1) (fun _=>rfl) (fun _=>rfl)
abbrev j9 (a0:List (List Int)) (a1:List Int) (p1:Int):St:=⟨[(0,.d (.sl (cM (cL cI) a0))),(1,.d (.fn 47 [.ptr [.sl (cM cI a1)] 0])),(7,dI (a0.length:Int)),(8,dI p1)],[]⟩
theorem zT (a0:List (List Int)) (a1:List Int) (p1:Int):bD TT iG (j9 a0 a1 p1) (fun e s=>some (e,s)) = bP (fun (w:Int)=>j9 a0 a1 w) (fun (r:Unit ⊕ Int)=>Sum.elim (fun (z:Unit)=>(((.exit 0),⟨[],[]⟩):Ex × St)) (fun (z:Int)=>((.ret,⟨[(4,dI z)],[]⟩):Ex × St)) r) (aY a0 a1 p1):=by
 unfold iG aY
 have u:=@OH
 exact mJ
theorem AE {β:Type} (a0:List (List Int)) (a1:List Int) (p1:Int) (k:Ex->St->Option β):bD TT rO (j9 a0 a1 p1) k = (hJ a0 a1 p1).bind (fun (r:Unit ⊕ Int)=>Sum.elim (fun (z:Unit)=>k (.exit 0) ⟨[],[]⟩) (fun (z:Int)=>k .ret ⟨[(4,dI z)],[]⟩) r):=by
 have hh:=fun (w:Int)=>zT a0 a1 w
 have h:=fun ho=>aQ (T:=TT) (k:=k) (c:=iG) (step:=(fun (w:Int)=>aY a0 a1 w)) _ _ ho hh p1
 refine Eq.trans (h (fun r s e=>by have q:=congrArg Prod.fst e; rcases r with x | x <;> cases q)) ?_
 unfold hJ
 exact aK _ fun x=>by rcases x with x | x <;> rfl
theorem CH (a0:List (List Int)) (a1:List Int):Vm.call TT 75 [.sl (cM (cL cI) a0),.fn 47 [.ptr [.sl (cM cI a1)] 0]] = (gC a0 a1).map fun (r:Int)=>.int .i64 r:=by
 refine (aV (show TT 75 = some (.code ⟨2,19,[.tmp 4],aPu,false,false⟩) from rfl) _ rfl rfl).trans ?_
 show bD TT aPu ⟨[(0,.d (.sl (cM (cL cI) a0))),(1,.d (.fn 47 [.ptr [.sl (cM cI a1)] 0]))],[]⟩ _ = _
 unfold aPu gC
 have u:=@AE
 exact mJ
theorem CG (a0:List (List Int)) (a1:List Int):KF TT 75 [.sl (cM (cL cI) a0),.fn 47 [.ptr [.sl (cM cI a1)] 0]] (gC a0 a1) (fun (r:Int)=>dI r):=kF (CH a0 a1) (fun _=>rfl) (fun _=>rfl)
theorem zR (a0:List (List Int)) (a1:List Int):Vm.call TT 46 [.sl (cM (cL cI) a0),.fn 47 [.ptr [.sl (cM cI a1)] 0]] = (dK a0 a1).map fun (r:Bool)=>.bool r:=by
 refine (aV (show TT 46 = some (.code ⟨2,9,[.tmp 4],aNU,false,false⟩) from rfl) _ rfl rfl).trans ?_
 show bD TT aNU ⟨[(0,.d (.sl (cM (cL cI) a0))),(1,.d (.fn 47 [.ptr [.sl (cM cI a1)] 0]))],[]⟩ _ = _
 unfold aNU dK
 have u:=@CG
 exact mJ
theorem pL (a0:List (List Int)) (a1:List Int):KF TT 46 [.sl (cM (cL cI) a0),.fn 47 [.ptr [.sl (cM cI a1)] 0]] (dK a0 a1) (fun (r:Bool)=>dB r):=kF (zR a0 a1) (fun _=>rfl) (fun _=>rfl)
theorem GY {β:Type} (a1:List aF) (bl fz:List (Nat × Option aL)) (k:V->Option β) (kw:V->List (Nat × Option aL)->Option β):B0 TT 26 bl 21 [.sl (cM aF.cells a1)] fz k kw = (kM a1).bind fun (r:(List Int))=>cG bl 100026 fun b=>jX b (kw (.own 100026 0) ((100026,some (.rows 0 3 1 (cM cI r))) :: fz)):=D0 (DM a1) fz
theorem BT {β:Type} (x22:List Int) (bl:List (Nat × Option aL)) (k:V->Option β) (kw:V->List (Nat × Option aL)->Option β):DY TT 30044 bl 49 [.sl (cM cI x22)] k kw = (gF x22).bind fun (r:(List Int))=>cG bl 130044 fun b=>jX b (kw (.own 130044 0) ((130044,some (.rows 0 3 1 (cM cI r))) :: [])):=yQ (B7 x22) (fun _=>(wX rfl (C5 (wE _ (fun _=>rfl) _) rfl)))
theorem BN {β:Type} (a2:List Int) (bl:List (Nat × Option aL)) (k:V->Option β) (kw:V->List (Nat × Option aL)->Option β):DY TT 50051 bl 49 [.sl (cM cI a2)] k kw = (gF a2).bind fun (r:(List Int))=>cG bl 150051 fun b=>jX b (kw (.own 150051 0) ((150051,some (.rows 0 3 1 (cM cI r))) :: [])):=yQ (B7 a2) (fun _=>(wX rfl (C5 (wE _ (fun _=>rfl) _) rfl)))
abbrev BC (a0:Int) (a1:List aF) (a2:List Int) (p5 p6:Int) (p7:List Int):St:=⟨[(0,.own 100026 0),(1,.d (.fn 43 [.ptr [.sl (cM cI a2)] 0])),(5,dI p5),(6,dI p6)],[(3,some (.box [dI a0])),(4,some (.box [.d (.sl (cM aF.cells a1))])),(8001,some (.outer [.ptr 3 0,.ptr 4 0,.d (.ptr [.sl (cM cI a2)] 0)])),(100026,some (.rows 0 3 1 (cM cI p7)))]⟩
theorem SK (a0:Int) (a1:List aF) (a2:List Int) (p5 p6:Int) (p7:List Int):bD TT vY (BC a0 a1 a2 p5 p6 p7) (fun e s=>some (e,s)) = bP (fun (w:Int × Int × (List Int))=>BC a0 a1 a2 w.1 w.2.1 w.2.2) (fun (r:Int × (List Int))=>(((.exit 0),⟨[(0,.own 100026 0),(5,dI r.1)],[(3,some (.box [dI a0])),(4,some (.box [.d (.sl (cM aF.cells a1))])),(8001,some (.outer [.ptr 3 0,.ptr 4 0,.d (.ptr [.sl (cM cI a2)] 0)])),(100026,some (.rows 0 3 1 (cM cI r.2)))]⟩):Ex × St)) (fD a0 a1 a2 p5 p6 p7):=by
 unfold vY fD
 have u:=aN (aN (aN @xD @CX) (aN @FC (aN @C3 @ET))) (aN (aN @pL @rL) (aN @GY (aN @BT @BN)))
 exact mJ
theorem S2 {β:Type} (a0:Int) (a1:List aF) (a2:List Int) (p5 p6:Int) (p7:List Int) (k:Ex->St->Option β):bD TT G4 (BC a0 a1 a2 p5 p6 p7) k = (qL a0 a1 a2 p5 p6 p7).bind (fun (r:Int × (List Int))=>k (.exit 0) ⟨[(0,.own 100026 0),(5,dI r.1)],[(3,some (.box [dI a0])),(4,some (.box [.d (.sl (cM aF.cells a1))])),(8001,some (.outer [.ptr 3 0,.ptr 4 0,.d (.ptr [.sl (cM cI a2)] 0)])),(100026,some (.rows 0 3 1 (cM cI r.2)))]⟩):=by
 have hh:=fun (w:Int × Int × (List Int))=>SK a0 a1 a2 w.1 w.2.1 w.2.2
 have h:=fun ho=>aQ (T:=TT) (k:=k) (c:=vY) (step:=(fun (w:Int × Int × (List Int))=>fD a0 a1 a2 w.1 w.2.1 w.2.2)) _ _ ho hh (p5,p6,p7)
 refine Eq.trans (h (fun r s e=>by have q:=congrArg Prod.fst e; rcases r with x <;> cases q)) ?_
 unfold qL
 exact aK _ fun x=>by rcases x with x <;> rfl
abbrev BU (a0:Int) (a1:List aF) (a2 p14:List Int) (p17:List (List Int)) (p18:Int) (p19:List (List Int)) (p20 r16:Int) (x22:List Int) (p25:Int) (p26:List (List Int)):St:=⟨[(1,.ptr 20001 0),(4,.own 30049 0),(6,.d (.sl (cM cI x22))),(8,dI p25),(16,dI (p14.length:Int)),(17,dI p18),(19,.d (.sl (cM (cL cI) p17))),(20,dI (p17.length:Int)),(21,dI p20)],[(3,some (.box [dI a0])),(4,some (.box [.d (.sl (cM aF.cells a1))])),(11,some (.box [dI r16])),(12,some (.box [.own 50064 0])),(8003,some (.outer [.ptr 3 0,.ptr 4 0,.d (.ptr [.sl (cM cI a2)] 0),.ptr 11 0,.ptr 12 0])),(20001,some (.box [.own 100026 0])),(30014,none),(30049,some (.rows 0 23 1 (cM (cL cI) p26))),(50064,some (.rows 0 23 1 (cM (cL cI) p19))),(100026,some (.rows 0 3 1 (cM cI p14)))]⟩
theorem RU (a0:Int) (a1:List aF) (a2 p14:List Int) (p17:List (List Int)) (p18:Int) (p19:List (List Int)) (p20 r16:Int) (x22:List Int) (p25:Int) (p26:List (List Int)):bD TT wO (BU a0 a1 a2 p14 p17 p18 p19 p20 r16 x22 p25 p26) (fun e s=>some (e,s)) = bP (fun (w:Int × (List (List Int)))=>BU a0 a1 a2 p14 p17 p18 p19 p20 r16 x22 w.1 w.2) (fun (r:(List (List Int)))=>(((.exit 4),⟨[(1,.ptr 20001 0),(4,.own 30049 0),(16,dI (p14.length:Int)),(17,dI p18),(19,.d (.sl (cM (cL cI) p17))),(20,dI (p17.length:Int)),(21,dI p20)],[(3,some (.box [dI a0])),(4,some (.box [.d (.sl (cM aF.cells a1))])),(11,some (.box [dI r16])),(12,some (.box [.own 50064 0])),(8003,some (.outer [.ptr 3 0,.ptr 4 0,.d (.ptr [.sl (cM cI a2)] 0),.ptr 11 0,.ptr 12 0])),(20001,some (.box [.own 100026 0])),(30014,none),(30049,some (.rows 0 23 1 (cM (cL cI) r))),(50064,some (.rows 0 23 1 (cM (cL cI) p19))),(100026,some (.rows 0 3 1 (cM cI p14)))]⟩):Ex × St)) (fZ a0 a1 a2 p14 p17 p18 p19 p20 r16 x22 p25 p26):=by
 unfold wO fZ
 have u:=aN @BT @BN
 exact mJ
theorem RO {β:Type} (a0:Int) (a1:List aF) (a2 p14:List Int) (p17:List (List Int)) (p18:Int) (p19:List (List Int)) (p20 r16:Int) (x22:List Int) (p25:Int) (p26:List (List Int)) (k:Ex->St->Option β):bD TT G1 (BU a0 a1 a2 p14 p17 p18 p19 p20 r16 x22 p25 p26) k = (u9 a0 a1 a2 p14 p17 p18 p19 p20 r16 x22 p25 p26).bind (fun (r:(List (List Int)))=>k (.exit 4) ⟨[(1,.ptr 20001 0),(4,.own 30049 0),(16,dI (p14.length:Int)),(17,dI p18),(19,.d (.sl (cM (cL cI) p17))),(20,dI (p17.length:Int)),(21,dI p20)],[(3,some (.box [dI a0])),(4,some (.box [.d (.sl (cM aF.cells a1))])),(11,some (.box [dI r16])),(12,some (.box [.own 50064 0])),(8003,some (.outer [.ptr 3 0,.ptr 4 0,.d (.ptr [.sl (cM cI a2)] 0),.ptr 11 0,.ptr 12 0])),(20001,some (.box [.own 100026 0])),(30014,none),(30049,some (.rows 0 23 1 (cM (cL cI) r))),(50064,some (.rows 0 23 1 (cM (cL cI) p19))),(100026,some (.rows 0 3 1 (cM cI p14)))]⟩):=by
 have hh:=fun (w:Int × (List (List Int)))=>RU a0 a1 a2 p14 p17 p18 p19 p20 r16 x22 w.1 w.2
 have h:=fun ho=>aQ (T:=TT) (k:=k) (c:=wO) (step:=(fun (w:Int × (List (List Int)))=>fZ a0 a1 a2 p14 p17 p18 p19 p20 r16 x22 w.1 w.2)) _ _ ho hh (p25,p26)
 refine Eq.trans (h (fun r s e=>by have q:=congrArg Prod.fst e; rcases r with x <;> cases q)) ?_
 unfold u9
 exact aK _ fun x=>by rcases x with x <;> rfl
theorem SL {β:Type} (a0:Int) (a1:List aF) (a2 p14:List Int) (p17:List (List Int)) (p18:Int) (p19:List (List Int)) (p20:Int) (p21:List (List Int)) (r16:Int) (x22:List Int) (p24:Int) (k:Ex->St->Option β):bD TT BL ⟨[(1,.ptr 20001 0),(4,.own 30049 0),(6,.d (.sl (cM cI x22))),(7,dI p24),(16,dI (p14.length:Int)),(17,dI p18),(19,.d (.sl (cM (cL cI) p17))),(20,dI (p17.length:Int)),(21,dI p20)],[(3,some (.box [dI a0])),(4,some (.box [.d (.sl (cM aF.cells a1))])),(11,some (.box [dI r16])),(12,some (.box [.own 50064 0])),(8003,some (.outer [.ptr 3 0,.ptr 4 0,.d (.ptr [.sl (cM cI a2)] 0),.ptr 11 0,.ptr 12 0])),(20001,some (.box [.own 100026 0])),(30014,none),(30049,some (.rows 0 23 1 (cM (cL cI) p21))),(50064,some (.rows 0 23 1 (cM (cL cI) p19))),(100026,some (.rows 0 3 1 (cM cI p14)))]⟩ k = (qN a0 a1 a2 p14 p17 p18 p19 p20 p21 r16 x22 p24).bind (fun (r:(List (List Int)))=>k .normal ⟨[(1,.ptr 20001 0),(4,.own 30049 0),(16,dI (p14.length:Int)),(17,dI p18),(19,.d (.sl (cM (cL cI) p17))),(20,dI (p17.length:Int)),(21,dI p20)],[(3,some (.box [dI a0])),(4,some (.box [.d (.sl (cM aF.cells a1))])),(11,some (.box [dI r16])),(12,some (.box [.own 50064 0])),(8003,some (.outer [.ptr 3 0,.ptr 4 0,.d (.ptr [.sl (cM cI a2)] 0),.ptr 11 0,.ptr 12 0])),(20001,some (.box [.own 100026 0])),(30014,none),(30049,some (.rows 0 23 1 (cM (cL cI) r))),(50064,some (.rows 0 23 1 (cM (cL cI) p19))),(100026,some (.rows 0 3 1 (cM cI p14)))]⟩):=by
 unfold BL qN
 have u:=@RO
 exact mJ
abbrev BP (a0:Int) (a1:List aF) (a2 p14:List Int) (p17:List (List Int)) (p18:Int) (p19:List (List Int)) (r16 p20:Int) (p21:List (List Int)):St:=⟨[(1,.ptr 20001 0),(4,.own 30049 0),(16,dI (p14.length:Int)),(17,dI p18),(19,.d (.sl (cM (cL cI) p17))),(20,dI (p17.length:Int)),(21,dI p20)],[(3,some (.box [dI a0])),(4,some (.box [.d (.sl (cM aF.cells a1))])),(11,some (.box [dI r16])),(12,some (.box [.own 50064 0])),(8003,some (.outer [.ptr 3 0,.ptr 4 0,.d (.ptr [.sl (cM cI a2)] 0),.ptr 11 0,.ptr 12 0])),(20001,some (.box [.own 100026 0])),(30014,none),(30049,some (.rows 0 23 1 (cM (cL cI) p21))),(50064,some (.rows 0 23 1 (cM (cL cI) p19))),(100026,some (.rows 0 3 1 (cM cI p14)))]⟩
theorem R0 (a0:Int) (a1:List aF) (a2 p14:List Int) (p17:List (List Int)) (p18:Int) (p19:List (List Int)) (r16 p20:Int) (p21:List (List Int)):bD TT v7 (BP a0 a1 a2 p14 p17 p18 p19 r16 p20 p21) (fun e s=>some (e,s)) = bP (fun (w:Int × (List (List Int)))=>BP a0 a1 a2 p14 p17 p18 p19 r16 w.1 w.2) (fun (r:(List (List Int)))=>(((.exit 2),⟨[(1,.ptr 20001 0),(4,.own 30049 0),(16,dI (p14.length:Int)),(17,dI p18)],[(3,some (.box [dI a0])),(4,some (.box [.d (.sl (cM aF.cells a1))])),(11,some (.box [dI r16])),(12,some (.box [.own 50064 0])),(8003,some (.outer [.ptr 3 0,.ptr 4 0,.d (.ptr [.sl (cM cI a2)] 0),.ptr 11 0,.ptr 12 0])),(20001,some (.box [.own 100026 0])),(30049,some (.rows 0 23 1 (cM (cL cI) r))),(50064,some (.rows 0 23 1 (cM (cL cI) p19))),(100026,some (.rows 0 3 1 (cM cI p14)))]⟩):Ex × St)) (fX a0 a1 a2 p14 p17 p18 p19 r16 p20 p21):=by
 unfold v7 fX
 have u:=@SL
 exact mJ
theorem RX {β:Type} (a0:Int) (a1:List aF) (a2 p14:List Int) (p17:List (List Int)) (p18:Int) (p19:List (List Int)) (r16 p20:Int) (p21:List (List Int)) (k:Ex->St->Option β):bD TT F5 (BP a0 a1 a2 p14 p17 p18 p19 r16 p20 p21) k = (u8 a0 a1 a2 p14 p17 p18 p19 r16 p20 p21).bind (fun (r:(List (List Int)))=>k (.exit 2) ⟨[(1,.ptr 20001 0),(4,.own 30049 0),(16,dI (p14.length:Int)),(17,dI p18)],[(3,some (.box [dI a0])),(4,some (.box [.d (.sl (cM aF.cells a1))])),(11,some (.box [dI r16])),(12,some (.box [.own 50064 0])),(8003,some (.outer [.ptr 3 0,.ptr 4 0,.d (.ptr [.sl (cM cI a2)] 0),.ptr 11 0,.ptr 12 0])),(20001,some (.box [.own 100026 0])),(30049,some (.rows 0 23 1 (cM (cL cI) r))),(50064,some (.rows 0 23 1 (cM (cL cI) p19))),(100026,some (.rows 0 3 1 (cM cI p14)))]⟩):=by
 have hh:=fun (w:Int × (List (List Int)))=>R0 a0 a1 a2 p14 p17 p18 p19 r16 w.1 w.2
 have h:=fun ho=>aQ (T:=TT) (k:=k) (c:=v7) (step:=(fun (w:Int × (List (List Int)))=>fX a0 a1 a2 p14 p17 p18 p19 r16 w.1 w.2)) _ _ ho hh (p20,p21)
 refine Eq.trans (h (fun r s e=>by have q:=congrArg Prod.fst e; rcases r with x <;> cases q)) ?_
 unfold u8
 exact aK _ fun x=>by rcases x with x <;> rfl
abbrev BW (a0:Int) (a1:List aF) (a2 p14:List Int) (p18 p35:Int) (p36:List (List Int)) (r16:Int) (r34:(List (List Int))) (x37:List Int) (p38:Int) (p39:List Int):St:=⟨[(1,.ptr 20001 0),(4,.own 30049 0),(11,.own 30069 0),(16,dI (p14.length:Int)),(17,dI p18),(51,.own 30049 0),(52,dI (r34.length:Int)),(53,dI p35),(57,.d (.sl (cM cI x37))),(58,dI (x37.length:Int)),(59,dI p38)],[(3,some (.box [dI a0])),(4,some (.box [.d (.sl (cM aF.cells a1))])),(11,some (.box [dI r16])),(12,some (.box [.own 50064 0])),(8003,some (.outer [.ptr 3 0,.ptr 4 0,.d (.ptr [.sl (cM cI a2)] 0),.ptr 11 0,.ptr 12 0])),(20001,some (.box [.own 100026 0])),(30049,some (.rows 0 23 1 (cM (cL cI) r34))),(30069,some (.rows 0 3 1 (cM cI p39))),(50064,some (.rows 0 23 1 (cM (cL cI) p36))),(100026,some (.rows 0 3 1 (cM cI p14)))]⟩
theorem SY (a0:Int) (a1:List aF) (a2 p14:List Int) (p18 p35:Int) (p36:List (List Int)) (r16:Int) (r34:(List (List Int))) (x37:List Int) (p38:Int) (p39:List Int):bD TT wK (BW a0 a1 a2 p14 p18 p35 p36 r16 r34 x37 p38 p39) (fun e s=>some (e,s)) = bP (fun (w:Int × (List Int))=>BW a0 a1 a2 p14 p18 p35 p36 r16 r34 x37 w.1 w.2) (fun (r:(List Int))=>(((.exit 8),⟨[(1,.ptr 20001 0),(4,.own 30049 0),(11,.own 30069 0),(16,dI (p14.length:Int)),(17,dI p18),(51,.own 30049 0),(52,dI (r34.length:Int)),(53,dI p35)],[(3,some (.box [dI a0])),(4,some (.box [.d (.sl (cM aF.cells a1))])),(11,some (.box [dI r16])),(12,some (.box [.own 50064 0])),(8003,some (.outer [.ptr 3 0,.ptr 4 0,.d (.ptr [.sl (cM cI a2)] 0),.ptr 11 0,.ptr 12 0])),(20001,some (.box [.own 100026 0])),(30049,some (.rows 0 23 1 (cM (cL cI) r34))),(30069,some (.rows 0 3 1 (cM cI r))),(50064,some (.rows 0 23 1 (cM (cL cI) p36))),(100026,some (.rows 0 3 1 (cM cI p14)))]⟩):Ex × St)) (gA a0 a1 a2 p14 p18 p35 p36 r16 r34 x37 p38 p39):=by
 unfold wK gA
 exact G7
theorem SM {β:Type} (a0:Int) (a1:List aF) (a2 p14:List Int) (p18 p35:Int) (p36:List (List Int)) (r16:Int) (r34:(List (List Int))) (x37:List Int) (p38:Int) (p39:List Int) (k:Ex->St->Option β):bD TT GL (BW a0 a1 a2 p14 p18 p35 p36 r16 r34 x37 p38 p39) k = (u7 a0 a1 a2 p14 p18 p35 p36 r16 r34 x37 p38 p39).bind (fun (r:(List Int))=>k (.exit 8) ⟨[(1,.ptr 20001 0),(4,.own 30049 0),(11,.own 30069 0),(16,dI (p14.length:Int)),(17,dI p18),(51,.own 30049 0),(52,dI (r34.length:Int)),(53,dI p35)],[(3,some (.box [dI a0])),(4,some (.box [.d (.sl (cM aF.cells a1))])),(11,some (.box [dI r16])),(12,some (.box [.own 50064 0])),(8003,some (.outer [.ptr 3 0,.ptr 4 0,.d (.ptr [.sl (cM cI a2)] 0),.ptr 11 0,.ptr 12 0])),(20001,some (.box [.own 100026 0])),(30049,some (.rows 0 23 1 (cM (cL cI) r34))),(30069,some (.rows 0 3 1 (cM cI r))),(50064,some (.rows 0 23 1 (cM (cL cI) p36))),(100026,some (.rows 0 3 1 (cM cI p14)))]⟩):=by
 have hh:=fun (w:Int × (List Int))=>SY a0 a1 a2 p14 p18 p35 p36 r16 r34 x37 w.1 w.2
 have h:=fun ho=>aQ (T:=TT) (k:=k) (c:=wK) (step:=(fun (w:Int × (List Int))=>gA a0 a1 a2 p14 p18 p35 p36 r16 r34 x37 w.1 w.2)) _ _ ho hh (p38,p39)
 refine Eq.trans (h (fun r s e=>by have q:=congrArg Prod.fst e; rcases r with x <;> cases q)) ?_
 unfold u7
 exact aK _ fun x=>by rcases x with x <;> rfl
abbrev BG (a0:Int) (a1:List aF) (a2 p14:List Int) (p18 r16:Int) (r34:(List (List Int))) (p35:Int) (p36:List (List Int)):St:=⟨[(1,.ptr 20001 0),(4,.own 30049 0),(16,dI (p14.length:Int)),(17,dI p18),(51,.own 30049 0),(52,dI (r34.length:Int)),(53,dI p35)],[(3,some (.box [dI a0])),(4,some (.box [.d (.sl (cM aF.cells a1))])),(11,some (.box [dI r16])),(12,some (.box [.own 50064 0])),(8003,some (.outer [.ptr 3 0,.ptr 4 0,.d (.ptr [.sl (cM cI a2)] 0),.ptr 11 0,.ptr 12 0])),(20001,some (.box [.own 100026 0])),(30049,some (.rows 0 23 1 (cM (cL cI) r34))),(50064,some (.rows 0 23 1 (cM (cL cI) p36))),(100026,some (.rows 0 3 1 (cM cI p14)))]⟩
theorem SF (a0:Int) (a1:List aF) (a2 p14:List Int) (p18 r16:Int) (r34:(List (List Int))) (p35:Int) (p36:List (List Int)):bD TT vS (BG a0 a1 a2 p14 p18 r16 r34 p35 p36) (fun e s=>some (e,s)) = bP (fun (w:Int × (List (List Int)))=>BG a0 a1 a2 p14 p18 r16 r34 w.1 w.2) (fun (r:(List (List Int)))=>(((.exit 6),⟨[(1,.ptr 20001 0),(4,.own 30049 0),(16,dI (p14.length:Int)),(17,dI p18)],[(3,some (.box [dI a0])),(4,some (.box [.d (.sl (cM aF.cells a1))])),(11,some (.box [dI r16])),(12,some (.box [.own 50064 0])),(8003,some (.outer [.ptr 3 0,.ptr 4 0,.d (.ptr [.sl (cM cI a2)] 0),.ptr 11 0,.ptr 12 0])),(20001,some (.box [.own 100026 0])),(30049,some (.rows 0 23 1 (cM (cL cI) r34))),(50064,some (.rows 0 23 1 (cM (cL cI) r))),(100026,some (.rows 0 3 1 (cM cI p14)))]⟩):Ex × St)) (fW a0 a1 a2 p14 p18 r16 r34 p35 p36):=by
 unfold vS fW
 have u:=aN (aN @SM (aN @CX @C3)) (aN @pL (aN @BT @BN))
 exact mJ
theorem RY {β:Type} (a0:Int) (a1:List aF) (a2 p14:List Int) (p18 r16:Int) (r34:(List (List Int))) (p35:Int) (p36:List (List Int)) (k:Ex->St->Option β):bD TT F8 (BG a0 a1 a2 p14 p18 r16 r34 p35 p36) k = (uQ a0 a1 a2 p14 p18 r16 r34 p35 p36).bind (fun (r:(List (List Int)))=>k (.exit 6) ⟨[(1,.ptr 20001 0),(4,.own 30049 0),(16,dI (p14.length:Int)),(17,dI p18)],[(3,some (.box [dI a0])),(4,some (.box [.d (.sl (cM aF.cells a1))])),(11,some (.box [dI r16])),(12,some (.box [.own 50064 0])),(8003,some (.outer [.ptr 3 0,.ptr 4 0,.d (.ptr [.sl (cM cI a2)] 0),.ptr 11 0,.ptr 12 0])),(20001,some (.box [.own 100026 0])),(30049,some (.rows 0 23 1 (cM (cL cI) r34))),(50064,some (.rows 0 23 1 (cM (cL cI) r))),(100026,some (.rows 0 3 1 (cM cI p14)))]⟩):=by
 have hh:=fun (w:Int × (List (List Int)))=>SF a0 a1 a2 p14 p18 r16 r34 w.1 w.2
 have h:=fun ho=>aQ (T:=TT) (k:=k) (c:=vS) (step:=(fun (w:Int × (List (List Int)))=>fW a0 a1 a2 p14 p18 r16 r34 w.1 w.2)) _ _ ho hh (p35,p36)
 refine Eq.trans (h (fun r s e=>by have q:=congrArg Prod.fst e; rcases r with x <;> cases q)) ?_
 unfold uQ
 exact aK _ fun x=>by rcases x with x <;> rfl
abbrev BO (a0:Int) (a1:List aF) (a2 p14:List Int) (r16:Int) (p17:List (List Int)) (p18:Int) (p19:List (List Int)):St:=⟨[(1,.ptr 20001 0),(3,.d (.sl (cM (cL cI) p17))),(16,dI (p14.length:Int)),(17,dI p18)],[(3,some (.box [dI a0])),(4,some (.box [.d (.sl (cM aF.cells a1))])),(11,some (.box [dI r16])),(12,some (.box [.own 50064 0])),(8003,some (.outer [.ptr 3 0,.ptr 4 0,.d (.ptr [.sl (cM cI a2)] 0),.ptr 11 0,.ptr 12 0])),(20001,some (.box [.own 100026 0])),(30014,none),(30049,none),(50064,some (.rows 0 23 1 (cM (cL cI) p19))),(100026,some (.rows 0 3 1 (cM cI p14)))]⟩
theorem SQ (a0:Int) (a1:List aF) (a2 p14:List Int) (r16:Int) (p17:List (List Int)) (p18:Int) (p19:List (List Int)):bD TT vQ (BO a0 a1 a2 p14 r16 p17 p18 p19) (fun e s=>some (e,s)) = bP (fun (w:(List (List Int)) × Int × (List (List Int)))=>BO a0 a1 a2 p14 r16 w.1 w.2.1 w.2.2) (fun (r:(List (List Int)))=>(((.exit 0),⟨[],[(3,some (.box [dI a0])),(4,some (.box [.d (.sl (cM aF.cells a1))])),(11,some (.box [dI r16])),(12,some (.box [.own 50064 0])),(8003,some (.outer [.ptr 3 0,.ptr 4 0,.d (.ptr [.sl (cM cI a2)] 0),.ptr 11 0,.ptr 12 0])),(50064,some (.rows 0 23 1 (cM (cL cI) r)))]⟩):Ex × St)) (fV a0 a1 a2 p14 r16 p17 p18 p19):=by
 unfold vQ fV
 have u:=aN @RX @RY
 exact mJ
theorem SH {β:Type} (a0:Int) (a1:List aF) (a2 p14:List Int) (r16:Int) (p17:List (List Int)) (p18:Int) (p19:List (List Int)) (k:Ex->St->Option β):bD TT BA (BO a0 a1 a2 p14 r16 p17 p18 p19) k = (vE a0 a1 a2 p14 r16 p17 p18 p19).bind (fun (r:(List (List Int)))=>k (.exit 0) ⟨[],[(3,some (.box [dI a0])),(4,some (.box [.d (.sl (cM aF.cells a1))])),(11,some (.box [dI r16])),(12,some (.box [.own 50064 0])),(8003,some (.outer [.ptr 3 0,.ptr 4 0,.d (.ptr [.sl (cM cI a2)] 0),.ptr 11 0,.ptr 12 0])),(50064,some (.rows 0 23 1 (cM (cL cI) r)))]⟩):=by
 have hh:=fun (w:(List (List Int)) × Int × (List (List Int)))=>SQ a0 a1 a2 p14 r16 w.1 w.2.1 w.2.2
 have h:=fun ho=>aQ (T:=TT) (k:=k) (c:=vQ) (step:=(fun (w:(List (List Int)) × Int × (List (List Int)))=>fV a0 a1 a2 p14 r16 w.1 w.2.1 w.2.2)) _ _ ho hh (p17,p18,p19)
 refine Eq.trans (h (fun r s e=>by have q:=congrArg Prod.fst e; rcases r with x <;> cases q)) ?_
 unfold vE
 exact aK _ fun x=>by rcases x with x <;> rfl
theorem RV {β:Type} (a0:Int) (a1:List aF) (a2 p14:List Int) (k:Ex->St->Option β):bD TT A9 ⟨[(3,.ptr 3 0),(4,.ptr 4 0),(5,.d (.ptr [.sl (cM cI a2)] 0)),(8,.own 100026 0)],[(3,some (.box [dI a0])),(4,some (.box [.d (.sl (cM aF.cells a1))])),(100026,some (.rows 0 3 1 (cM cI p14)))]⟩ k = (qK a0 a1 a2 p14).bind (fun (r:Int × (List (List Int)))=>k .ret ⟨[(6,.own 50064 0),(7,dI r.1)],[(50064,some (.rows 0 23 1 (cM (cL cI) r.2)))]⟩):=by
 unfold A9 qK
 have u:=aN @SH (aN @CX @C3)
 exact mJ
theorem NE (a0:Int) (a1:List aF) (a2:List Int):Vm.call TT 12 [.int .i64 a0,.sl (cM aF.cells a1),.sl (cM cI a2)] = (iJ a0 a1 a2).map fun (r:(List (List Int)) × Int)=>.tup [.sl (cM (cL cI) r.1),.int .i64 r.2]:=by
 refine (aV (show TT 12 = some (.code ⟨3,66,[.tmp 6,.tmp 7],aPS,false,false⟩) from rfl) _ rfl rfl).trans ?_
 show bD TT aPS ⟨[(0,dI a0),(1,.d (.sl (cM aF.cells a1))),(2,.d (.sl (cM cI a2)))],[]⟩ _ = _
 unfold aPS iJ
 have u:=aN (aN @S2 (aN @RV @xD)) (aN @FC (aN @rL @GY))
 exact mJ
theorem NH (a0:Int) (a1:List aF) (a2:List Int):KD TT 12 [.int .i64 a0,.sl (cM aF.cells a1),.sl (cM cI a2)] (iJ a0 a1 a2) (fun (r:(List (List Int)) × Int)=>.tup [.d (.sl (cM (cL cI) r.1)),dI r.2]):=kD (NE a0 a1 a2) (fun _=>rfl) (fun _=>rfl) (fun _=>rfl)
abbrev xN (a0:List aF) (a1:List Int) (a2 a3 p1:Int) (p2:List Int) (p3:List b6):St:=⟨[(1,.d (.sl (cM cI a1))),(2,dI a2),(3,dI a3),(8,.own 33 0),(9,.own 51 0),(17,.d (.sl (cM aF.cells a0))),(18,dI (a0.length:Int)),(19,dI p1)],[(33,some (.rows 0 3 1 (cM cI p2))),(51,some (.rows 0 60 9 (cM b6.cells p3)))]⟩
theorem N3 (a0:List aF) (a1:List Int) (a2 a3 p1:Int) (p2:List Int) (p3:List b6):bD TT rI (xN a0 a1 a2 a3 p1 p2 p3) (fun e s=>some (e,s)) = bP (fun (w:Int × (List Int) × (List b6))=>xN a0 a1 a2 a3 w.1 w.2.1 w.2.2) (fun (r:(List Int) × (List b6))=>(((.exit 0),⟨[(8,.own 33 0),(9,.own 51 0)],[(33,some (.rows 0 3 1 (cM cI r.1))),(51,some (.rows 0 60 9 (cM b6.cells r.2)))]⟩):Ex × St)) (fG a0 a1 a2 a3 p1 p2 p3):=by
 unfold rI fG
 exact G7
theorem NT {β:Type} (a0:List aF) (a1:List Int) (a2 a3 p1:Int) (p2:List Int) (p3:List b6) (k:Ex->St->Option β):bD TT DI (xN a0 a1 a2 a3 p1 p2 p3) k = (pK a0 a1 a2 a3 p1 p2 p3).bind (fun (r:(List Int) × (List b6))=>k (.exit 0) ⟨[(8,.own 33 0),(9,.own 51 0)],[(33,some (.rows 0 3 1 (cM cI r.1))),(51,some (.rows 0 60 9 (cM b6.cells r.2)))]⟩):=by
 have hh:=fun (w:Int × (List Int) × (List b6))=>N3 a0 a1 a2 a3 w.1 w.2.1 w.2.2
 have h:=fun ho=>aQ (T:=TT) (k:=k) (c:=rI) (step:=(fun (w:Int × (List Int) × (List b6))=>fG a0 a1 a2 a3 w.1 w.2.1 w.2.2)) _ _ ho hh (p1,p2,p3)
 refine Eq.trans (h (fun r s e=>by have q:=congrArg Prod.fst e; rcases r with x <;> cases q)) ?_
 unfold pK
 exact aK _ fun x=>by rcases x with x <;> rfl
theorem R4 (a0:List aF) (a1:List Int) (a2 a3:Int):Vm.call TT 14 [.sl (cM aF.cells a0),.sl (cM cI a1),.int .i64 a2,.int .i64 a3] = (m8 a0 a1 a2 a3).map fun (r:(List Int) × (List b6))=>.tup [.sl (cM cI r.1),.sl (cM b6.cells r.2)]:=by
 refine (aV (show TT 14 = some (.code ⟨4,55,[.tmp 8,.tmp 9],aOD,false,false⟩) from rfl) _ rfl rfl).trans ?_
 show bD TT aOD ⟨[(0,.d (.sl (cM aF.cells a0))),(1,.d (.sl (cM cI a1))),(2,dI a2),(3,dI a3)],[]⟩ _ = _
 unfold aOD m8
 have u:=@NT
 exact mJ
theorem GF (a0:List aF) (a1:List Int) (a2 a3:Int):KD TT 14 [.sl (cM aF.cells a0),.sl (cM cI a1),.int .i64 a2,.int .i64 a3] (m8 a0 a1 a2 a3) (fun (r:(List Int) × (List b6))=>.tup [.d (.sl (cM cI r.1)),.d (.sl (cM b6.cells r.2))]):=kD (R4 a0 a1 a2 a3) (fun _=>rfl) (fun _=>rfl) (fun _=>rfl)
abbrev u5 (a0 a1:List Int) (p1:Int):St:=⟨[(0,.d (.sl (cM cI a0))),(1,.d (.sl (cM cI a1))),(5,dI p1)],[]⟩
theorem LE (a0 a1:List Int) (p1:Int):bD TT oL (u5 a0 a1 p1) (fun e s=>some (e,s)) = bP (fun (w:Int)=>u5 a0 a1 w) (fun (r:Unit ⊕ Unit)=>Sum.elim (fun (z:Unit)=>(((.exit 0),⟨[],[]⟩):Ex × St)) (fun (z:Unit)=>((.ret,⟨[(4,dB false)],[]⟩):Ex × St)) r) (eH a0 a1 p1):=by
 unfold oL eH
 exact G7
theorem LF {β:Type} (a0 a1:List Int) (p1:Int) (k:Ex->St->Option β):bD TT BX (u5 a0 a1 p1) k = (xK a0 a1 p1).bind (fun (r:Unit ⊕ Unit)=>Sum.elim (fun (z:Unit)=>k (.exit 0) ⟨[],[]⟩) (fun (z:Unit)=>k .ret ⟨[(4,dB false)],[]⟩) r):=by
 have hh:=fun (w:Int)=>LE a0 a1 w
 have h:=fun ho=>aQ (T:=TT) (k:=k) (c:=oL) (step:=(fun (w:Int)=>eH a0 a1 w)) _ _ ho hh p1
 refine Eq.trans (h (fun r s e=>by have q:=congrArg Prod.fst e; rcases r with x | x <;> cases q)) ?_
 unfold xK
 exact aK _ fun x=>by rcases x with x | x <;> rfl
theorem OQ (a0 a1:List Int):Vm.call TT 16 [.sl (cM cI a0),.sl (cM cI a1)] = (dL a0 a1).map fun (r:Bool)=>.bool r:=by
 refine (aV (show TT 16 = some (.code ⟨2,26,[.tmp 4],aNA,false,false⟩) from rfl) _ rfl rfl).trans ?_
 show bD TT aNA ⟨[(0,.d (.sl (cM cI a0))),(1,.d (.sl (cM cI a1)))],[]⟩ _ = _
 unfold aNA dL
 have u:=@LF
 exact mJ
theorem yK (a0 a1:List Int):KF TT 16 [.sl (cM cI a0),.sl (cM cI a1)] (dL a0 a1) (fun (r:Bool)=>dB r):=kF (OQ a0 a1) (fun _=>rfl) (fun _=>rfl)
abbrev rY (a0 a1:List Int) (p1:Int):St:=⟨[(0,.d (.sl (cM cI a0))),(1,.d (.sl (cM cI a1))),(5,dI p1)],[]⟩
theorem HN (a0 a1:List Int) (p1:Int):bD TT mW (rY a0 a1 p1) (fun e s=>some (e,s)) = bP (fun (w:Int)=>rY a0 a1 w) (fun (r:Unit ⊕ Bool)=>Sum.elim (fun (z:Unit)=>(((.exit 0),⟨[],[]⟩):Ex × St)) (fun (z:Bool)=>((.ret,⟨[(4,dB z)],[]⟩):Ex × St)) r) (bM a0 a1 p1):=by
 unfold mW bM
 exact G7
theorem HE {β:Type} (a0 a1:List Int) (p1:Int) (k:Ex->St->Option β):bD TT yW (rY a0 a1 p1) k = (oJ a0 a1 p1).bind (fun (r:Unit ⊕ Bool)=>Sum.elim (fun (z:Unit)=>k (.exit 0) ⟨[],[]⟩) (fun (z:Bool)=>k .ret ⟨[(4,dB z)],[]⟩) r):=by
 have hh:=fun (w:Int)=>HN a0 a1 w
 have h:=fun ho=>aQ (T:=TT) (k:=k) (c:=mW) (step:=(fun (w:Int)=>bM a0 a1 w)) _ _ ho hh p1
 refine Eq.trans (h (fun r s e=>by have q:=congrArg Prod.fst e; rcases r with x | x <;> cases q)) ?_
 unfold oJ
 exact aK _ fun x=>by rcases x with x | x <;> rfl
theorem MJ (a0 a1:List Int):Vm.call TT 52 [.sl (cM cI a0),.sl (cM cI a1)] = (gS a0 a1).map fun (r:Bool)=>.bool r:=by
 refine (aV (show TT 52 = some (.code ⟨2,40,[.tmp 4],aM7,false,false⟩) from rfl) _ rfl rfl).trans ?_
 show bD TT aM7 ⟨[(0,.d (.sl (cM cI a0))),(1,.d (.sl (cM cI a1)))],[]⟩ _ = _
 unfold aM7 gS
 have u:=@HE
 exact mJ
theorem DB (a0 a1:List Int):KF TT 52 [.sl (cM cI a0),.sl (cM cI a1)] (gS a0 a1) (fun (r:Bool)=>dB r):=kF (MJ a0 a1) (fun _=>rfl) (fun _=>rfl)
abbrev pC (a0 a1:List (List Int)) (p1:Int):St:=⟨[(0,.d (.sl (cM (cL cI) a0))),(1,.d (.sl (cM (cL cI) a1))),(5,dI p1)],[]⟩
theorem E3 (a0 a1:List (List Int)) (p1:Int):bD TT kN (pC a0 a1 p1) (fun e s=>some (e,s)) = bP (fun (w:Int)=>pC a0 a1 w) (fun (r:Unit ⊕ Unit)=>Sum.elim (fun (z:Unit)=>(((.exit 0),⟨[],[]⟩):Ex × St)) (fun (z:Unit)=>((.ret,⟨[(4,dB false)],[]⟩):Ex × St)) r) (bZ a0 a1 p1):=by
 unfold kN bZ
 have u:=@DB
 exact mJ
theorem E5 {β:Type} (a0 a1:List (List Int)) (p1:Int) (k:Ex->St->Option β):bD TT xC (pC a0 a1 p1) k = (qY a0 a1 p1).bind (fun (r:Unit ⊕ Unit)=>Sum.elim (fun (z:Unit)=>k (.exit 0) ⟨[],[]⟩) (fun (z:Unit)=>k .ret ⟨[(4,dB false)],[]⟩) r):=by
 have hh:=fun (w:Int)=>E3 a0 a1 w
 have h:=fun ho=>aQ (T:=TT) (k:=k) (c:=kN) (step:=(fun (w:Int)=>bZ a0 a1 w)) _ _ ho hh p1
 refine Eq.trans (h (fun r s e=>by have q:=congrArg Prod.fst e; rcases r with x | x <;> cases q)) ?_
 unfold qY
 exact aK _ fun x=>by rcases x with x | x <;> rfl
theorem HL (a0 a1:List (List Int)):Vm.call TT 17 [.sl (cM (cL cI) a0),.sl (cM (cL cI) a1)] = (fH a0 a1).map fun (r:Bool)=>.bool r:=by
 refine (aV (show TT 17 = some (.code ⟨2,37,[.tmp 4],aNs,false,false⟩) from rfl) _ rfl rfl).trans ?_
 show bD TT aNs ⟨[(0,.d (.sl (cM (cL cI) a0))),(1,.d (.sl (cM (cL cI) a1)))],[]⟩ _ = _
 unfold aNs fH
 have u:=@E5
 exact mJ
theorem y9 (a0 a1:List (List Int)):KF TT 17 [.sl (cM (cL cI) a0),.sl (cM (cL cI) a1)] (fH a0 a1) (fun (r:Bool)=>dB r):=kF (HL a0 a1) (fun _=>rfl) (fun _=>rfl)
abbrev BD (a0:List aF) (a1 a2:List Int) (p1:Int):St:=⟨[(1,.d (.sl (cM cI a1))),(2,.d (.sl (cM cI a2))),(14,.d (.sl (cM aF.cells a0))),(15,dI (a0.length:Int)),(16,dI p1)],[]⟩
theorem RT (a0:List aF) (a1 a2:List Int) (p1:Int):bD TT vX (BD a0 a1 a2 p1) (fun e s=>some (e,s)) = bP (fun (w:Int)=>BD a0 a1 a2 w) (fun (r:Unit ⊕ Unit)=>Sum.elim (fun (z:Unit)=>(((.exit 0),⟨[],[]⟩):Ex × St)) (fun (z:Unit)=>((.ret,⟨[(6,dB false)],[]⟩):Ex × St)) r) (fY a0 a1 a2 p1):=by
 unfold vX fY
 have u:=@QE
 exact mJ
theorem SE {β:Type} (a0:List aF) (a1 a2:List Int) (p1:Int) (k:Ex->St->Option β):bD TT GX (BD a0 a1 a2 p1) k = (yP a0 a1 a2 p1).bind (fun (r:Unit ⊕ Unit)=>Sum.elim (fun (z:Unit)=>k (.exit 0) ⟨[],[]⟩) (fun (z:Unit)=>k .ret ⟨[(6,dB false)],[]⟩) r):=by
 have hh:=fun (w:Int)=>RT a0 a1 a2 w
 have h:=fun ho=>aQ (T:=TT) (k:=k) (c:=vX) (step:=(fun (w:Int)=>fY a0 a1 a2 w)) _ _ ho hh p1
 refine Eq.trans (h (fun r s e=>by have q:=congrArg Prod.fst e; rcases r with x | x <;> cases q)) ?_
 unfold yP
 exact aK _ fun x=>by rcases x with x | x <;> rfl
theorem WZ (a0:List aF) (a1 a2:List Int):Vm.call TT 23 [.sl (cM aF.cells a0),.sl (cM cI a1),.sl (cM cI a2)] = (qJ a0 a1 a2).map fun (r:Bool)=>.bool r:=by
 refine (aV (show TT 23 = some (.code ⟨3,33,[.tmp 6],aPz,false,false⟩) from rfl) _ rfl rfl).trans ?_
 show bD TT aPz ⟨[(0,.d (.sl (cM aF.cells a0))),(1,.d (.sl (cM cI a1))),(2,.d (.sl (cM cI a2)))],[]⟩ _ = _
 unfold aPz qJ
 have u:=@SE
 exact mJ
theorem NI (a0:List aF) (a1 a2:List Int):KF TT 23 [.sl (cM aF.cells a0),.sl (cM cI a1),.sl (cM cI a2)] (qJ a0 a1 a2) (fun (r:Bool)=>dB r):=kF (WZ a0 a1 a2) (fun _=>rfl) (fun _=>rfl)
theorem JE (r1:(List aF)):KD TT 10 [.int .i64 3,.sl (cM aF.cells r1),.sl []] (iK 3 r1 []) (fun (r:(List Int) × (List Int) × Int)=>.tup [.d (.sl (cM cI r.1)),.d (.sl (cM cI r.2.1)),dI r.2.2]):=kD (ND 3 r1 []) (fun _=>rfl) (fun _=>rfl) (fun _=>rfl)
theorem IY (r1:(List aF)):KD TT 12 [.int .i64 3,.sl (cM aF.cells r1),.sl []] (iJ 3 r1 []) (fun (r:(List (List Int)) × Int)=>.tup [.d (.sl (cM (cL cI) r.1)),dI r.2]):=kD (NE 3 r1 []) (fun _=>rfl) (fun _=>rfl) (fun _=>rfl)
theorem I3 {β:Type} (r1:(List aF)) (bl fz:List (Nat × Option aL)) (k:V->Option β) (kw:V->List (Nat × Option aL)->Option β):B0 TT 139 bl 21 [.sl (cM aF.cells r1)] fz k kw = (kM r1).bind fun (r:(List Int))=>cG bl 100139 fun b=>jX b (kw (.own 100139 0) ((100139,some (.rows 0 3 1 (cM cI r))) :: fz)):=D0 (DM r1) fz
theorem JN {β:Type} (p12:Bool) (r1:(List aF)) (r3:(List Int) × (List Int) × Int) (r8:(List Int) × (List b6)) (p15:Bool) (k:Ex->St->Option β):bD TT uC ⟨[(1,.d (.sl (cM aF.cells r1))),(5,.d (.sl (cM cI r3.1))),(18,.d (.sl (cM b6.cells r8.2))),(19,dB p12),(20,dB p15)],[]⟩ k = (lL p12 r1 r3 r8 p15).bind (fun (r:Bool)=>k .ret ⟨[(0,dB r)],[]⟩):=by
 unfold uC lL
 have u:=aN (aN @yK @xD) (aN @NI @I3)
 exact mJ
theorem JY {β:Type} (r1:(List aF)) (r3:(List Int) × (List Int) × Int) (r5 r6 r7:(List (List Int)) × Int) (r8:(List Int) × (List b6)) (p12:Bool) (k:Ex->St->Option β):bD TT uA ⟨[(1,.d (.sl (cM aF.cells r1))),(5,.d (.sl (cM cI r3.1))),(11,.d (.sl (cM (cL cI) r5.1))),(13,.d (.sl (cM (cL cI) r6.1))),(15,.d (.sl (cM (cL cI) r7.1))),(18,.d (.sl (cM b6.cells r8.2))),(19,dB p12)],[]⟩ k = (mD r1 r3 r5 r6 r7 r8 p12).bind (fun (r:Bool)=>k .ret ⟨[(0,dB r)],[]⟩):=by
 unfold uA mD
 have u:=aN @JN @y9
 exact mJ
theorem DE:Vm.call TT 8 [] = (j5).map fun (r:Bool)=>.bool r:=by
 refine (aV (show TT 8 = some (.code ⟨0,166,[.tmp 0],bd8,false,false⟩) from rfl) _ rfl rfl).trans ?_
 show bD TT bd8 ⟨[],[]⟩ _ = _
 unfold bd8 j5
 have u:=aN (aN (aN @JY @NB) (aN @NH @GF)) (aN (aN @yK @J7) (aN @JE @IY))
 exact mJ
theorem NM:KF TT 8 [] (j5) (fun (r:Bool)=>dB r):=kF (DE ) (fun _=>rfl) (fun _=>rfl)
abbrev u3 (a0:List aF) (p1:Int) (p2:List aI):St:=⟨[(0,.d (.sl (cM aF.cells a0))),(3,.own 5 0),(4,dI p1)],[(5,some (.rows 0 54 3 (cM aI.cells p2)))]⟩
theorem K3 (a0:List aF) (p1:Int) (p2:List aI):bD TT oR (u3 a0 p1 p2) (fun e s=>some (e,s)) = bP (fun (w:Int × (List aI))=>u3 a0 w.1 w.2) (fun (r:(List aI))=>(((.exit 0),⟨[(3,.own 5 0)],[(5,some (.rows 0 54 3 (cM aI.cells r)))]⟩):Ex × St)) (dG a0 p1 p2):=by
 unfold oR dG
 exact G7
theorem KR {β:Type} (a0:List aF) (p1:Int) (p2:List aI) (k:Ex->St->Option β):bD TT CA (u3 a0 p1 p2) k = (rJ a0 p1 p2).bind (fun (r:(List aI))=>k (.exit 0) ⟨[(3,.own 5 0)],[(5,some (.rows 0 54 3 (cM aI.cells r)))]⟩):=by
 have hh:=fun (w:Int × (List aI))=>K3 a0 w.1 w.2
 have h:=fun ho=>aQ (T:=TT) (k:=k) (c:=oR) (step:=(fun (w:Int × (List aI))=>dG a0 w.1 w.2)) _ _ ho hh (p1,p2)
 refine Eq.trans (h (fun r s e=>by have q:=congrArg Prod.fst e; rcases r with x <;> cases q)) ?_
 unfold rJ
 exact aK _ fun x=>by rcases x with x <;> rfl
theorem PX (a0:List aF):Vm.call TT 26 [.sl (cM aF.cells a0)] = (jI a0).map fun (r:(List aI))=>.sl (cM aI.cells r):=by
 refine (aV (show TT 26 = some (.code ⟨1,32,[.tmp 2],aMQ,false,false⟩) from rfl) _ rfl rfl).trans ?_
 show bD TT aMQ ⟨[(0,.d (.sl (cM aF.cells a0)))],[]⟩ _ = _
 unfold aMQ jI
 have u:=@KR
 exact mJ
theorem yC (a0:List aF):KD TT 26 [.sl (cM aF.cells a0)] (jI a0) (fun (r:(List aI))=>.d (.sl (cM aI.cells r))):=kD (PX a0) (fun _=>rfl) (fun _=>rfl) (fun _=>rfl)
abbrev v6 (a0:Int) (a1:List aI) (p1:Int):St:=⟨[(0,dI a0),(1,.d (.sl (cM aI.cells a1))),(5,dI p1)],[]⟩
theorem M9 (a0:Int) (a1:List aI) (p1:Int):bD TT pO (v6 a0 a1 p1) (fun e s=>some (e,s)) = bP (fun (w:Int)=>v6 a0 a1 w) (fun (r:Unit ⊕ Unit)=>Sum.elim (fun (z:Unit)=>(((.exit 0),⟨[(0,dI a0),(1,.d (.sl (cM aI.cells a1)))],[]⟩):Ex × St)) (fun (z:Unit)=>((.ret,⟨[(4,dB false)],[]⟩):Ex × St)) r) (bY a0 a1 p1):=by
 unfold pO bY
 exact G7
theorem MO {β:Type} (a0:Int) (a1:List aI) (p1:Int) (k:Ex->St->Option β):bD TT C1 (v6 a0 a1 p1) k = (n8 a0 a1 p1).bind (fun (r:Unit ⊕ Unit)=>Sum.elim (fun (z:Unit)=>k (.exit 0) ⟨[(0,dI a0),(1,.d (.sl (cM aI.cells a1)))],[]⟩) (fun (z:Unit)=>k .ret ⟨[(4,dB false)],[]⟩) r):=by
 have hh:=fun (w:Int)=>M9 a0 a1 w
 have h:=fun ho=>aQ (T:=TT) (k:=k) (c:=pO) (step:=(fun (w:Int)=>bY a0 a1 w)) _ _ ho hh p1
 refine Eq.trans (h (fun r s e=>by have q:=congrArg Prod.fst e; rcases r with x | x <;> cases q)) ?_
 unfold n8
 exact aK _ fun x=>by rcases x with x | x <;> rfl
theorem Q9 (a0:Int) (a1:List aI):Vm.call TT 36 [.int .i64 a0,.sl (cM aI.cells a1)] = (pA a0 a1).map fun (r:Bool)=>.bool r:=by
 refine (aV (show TT 36 = some (.code ⟨2,51,[.tmp 4],aO4,false,false⟩) from rfl) _ rfl rfl).trans ?_
 show bD TT aO4 ⟨[(0,dI a0),(1,.d (.sl (cM aI.cells a1)))],[]⟩ _ = _
 unfold aO4 pA
 have u:=@MO
 exact mJ
theorem Q0 (a0:Int) (a1:List aI):KF TT 36 [.int .i64 a0,.sl (cM aI.cells a1)] (pA a0 a1) (fun (r:Bool)=>dB r):=kF (Q9 a0 a1) (fun _=>rfl) (fun _=>rfl)
end Go.Proofs.Ytgjcnbgfaimepaa
