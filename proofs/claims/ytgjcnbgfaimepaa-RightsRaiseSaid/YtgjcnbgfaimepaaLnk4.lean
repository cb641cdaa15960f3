/- The functions of the small machine compute the plain definitions. Printed by a program. -/
import Derived.Test.YtgjcnbgfaimepaaLnk3
set_option linter.unusedVariables false
set_option linter.unusedSimpArgs false
namespace Go.Proofs.Ytgjcnbgfaimepaa
open Vm
open Go.RowKit
set_option maxRecDepth 100000
set_option maxHeartbeats 4000000
attribute [local congr] yJ AO yW A1
theorem G1 (a0 a1:List Int):Vm.call TT 47 [.sl (cM cI a0),.ptr [.sl (cM cI a1)] 0] = (mA a0 a1).map fun (r:Bool)=>.bool r:=by
 refine (bQ (show TT 47 = some (.code ⟨2,7,[.tmp 3],aOV,false,false⟩) from rfl) _ rfl rfl).trans ?_
 show b6 TT aOV ⟨[(0,.d (.sl (cM cI a0))),(1,.d (.ptr [.sl (cM cI a1)] 0))],[]⟩ _ = _
 unfold aOV mA
 have u:=@NV
 exact oT
theorem G9 (a0 a1:List Int):KF TT 47 [.sl (cM cI a0),.ptr [.sl (cM cI a1)] 0] (mA a0 a1) (fun (r:Bool)=>dB r):=kF (G1 a0 a1) (fun _=>rfl) (fun _=>rfl)
abbrev gO (a0:List (List Int)) (a1:List Int) (p1:Int):St:=⟨[(0,.d (.sl (cM (cL cI) a0))),(1,.d (.fn 47 [.ptr [.sl (cM cI a1)] 0])),(7,dI (a0.length:Int)),(8,dI p1)],[]⟩
theorem tT (a0:List (List Int)) (a1:List Int) (p1:Int):b6 TT fH (gO a0 a1 p1) (fun e s=>some (e,s)) = cU (fun (w:Int)=>gO a0 a1 w) (fun (r:Unit ⊕ Int)=>Sum.elim (fun (z:Unit)=>(((.exit 0),⟨[],[]⟩):Ex × St)) (fun (z:Int)=>((.ret,⟨[(4,dI z)],[]⟩):Ex × St)) r) (bB a0 a1 p1):=by
 unfold fH bB
 have u:=@G9
 exact oT
theorem tL {β:Type} (a0:List (List Int)) (a1:List Int) (p1:Int) (k:Ex->St->Option β):b6 TT mU (gO a0 a1 p1) k = (fB a0 a1 p1).bind (fun (r:Unit ⊕ Int)=>Sum.elim (fun (z:Unit)=>k (.exit 0) ⟨[],[]⟩) (fun (z:Int)=>k .ret ⟨[(4,dI z)],[]⟩) r):=by
 have hh:=fun (w:Int)=>tT a0 a1 w
 have h:=fun ho=>bE (T:=TT) (k:=k) (c:=fH) (step:=(fun (w:Int)=>bB a0 a1 w)) _ _ ho hh p1
 refine Eq.trans (h (fun r s e=>by have q:=congrArg Prod.fst e; rcases r with x | x <;> cases q)) ?_
 unfold fB
 exact aM _ fun x=>by rcases x with x | x <;> rfl
theorem v6 (a0:List (List Int)) (a1:List Int):Vm.call TT 75 [.sl (cM (cL cI) a0),.fn 47 [.ptr [.sl (cM cI a1)] 0]] = (d8 a0 a1).map fun (r:Int)=>.int .i64 r:=by
 refine (bQ (show TT 75 = some (.code ⟨2,19,[.tmp 4],aPp,false,false⟩) from rfl) _ rfl rfl).trans ?_
 show b6 TT aPp ⟨[(0,.d (.sl (cM (cL cI) a0))),(1,.d (.fn 47 [.ptr [.sl (cM cI a1)] 0]))],[]⟩ _ = _
 unfold aPp d8
 have u:=@tL
 exact oT
theorem v7 (a0:List (List Int)) (a1:List Int):KF TT 75 [.sl (cM (cL cI) a0),.fn 47 [.ptr [.sl (cM cI a1)] 0]] (d8 a0 a1) (fun (r:Int)=>dI r):=kF (v6 a0 a1) (fun _=>rfl) (fun _=>rfl)
theorem tG (a0:List (List Int)) (a1:List Int):Vm.call TT 46 [.sl (cM (cL cI) a0),.fn 47 [.ptr [.sl (cM cI a1)] 0]] = (cG a0 a1).map fun (r:Bool)=>.bool r:=by
 refine (bQ (show TT 46 = some (.code ⟨2,9,[.tmp 4],aPV,false,false⟩) from rfl) _ rfl rfl).trans ?_
 show b6 TT aPV ⟨[(0,.d (.sl (cM (cL cI) a0))),(1,.d (.fn 47 [.ptr [.sl (cM cI a1)] 0]))],[]⟩ _ = _
 unfold aPV cG
 have u:=@v7
 exact oT
theorem kX (a0:List (List Int)) (a1:List Int):KF TT 46 [.sl (cM (cL cI) a0),.fn 47 [.ptr [.sl (cM cI a1)] 0]] (cG a0 a1) (fun (r:Bool)=>dB r):=kF (tG a0 a1) (fun _=>rfl) (fun _=>rfl)
theorem AR {β:Type} (a1:List aE) (bl fz:List (Nat × Option aI)) (k:V->Option β) (kw:V->List (Nat × Option aI)->Option β):xI TT 26 bl 21 [.sl (cM aE.cells a1)] fz k kw = (gZ a1).bind fun (r:(List Int))=>bG bl 100026 fun b=>gC b (kw (.own 100026 0) ((100026,some (.rows 0 3 1 (cM cI r))) :: fz)):=C5 (xZ a1) fz
theorem vC {β:Type} (x22:List Int) (bl:List (Nat × Option aI)) (k:V->Option β) (kw:V->List (Nat × Option aI)->Option β):xU TT 30044 bl 49 [.sl (cM cI x22)] k kw = (eG x22).bind fun (r:(List Int))=>bG bl 130044 fun b=>gC b (kw (.own 130044 0) ((130044,some (.rows 0 3 1 (cM cI r))) :: [])):=sK (vR x22) (fun _=>(pQ rfl (wJ (pL _ (fun _=>rfl) _) rfl)))
theorem uU {β:Type} (a2:List Int) (bl:List (Nat × Option aI)) (k:V->Option β) (kw:V->List (Nat × Option aI)->Option β):xU TT 50051 bl 49 [.sl (cM cI a2)] k kw = (eG a2).bind fun (r:(List Int))=>bG bl 150051 fun b=>gC b (kw (.own 150051 0) ((150051,some (.rows 0 3 1 (cM cI r))) :: [])):=sK (vR a2) (fun _=>(pQ rfl (wJ (pL _ (fun _=>rfl) _) rfl)))
abbrev uR (a0:Int) (a1:List aE) (a2:List Int) (p5 p6:Int) (p7:List Int):St:=⟨[(0,.own 100026 0),(1,.d (.fn 43 [.ptr [.sl (cM cI a2)] 0])),(5,dI p5),(6,dI p6)],[(3,some (.box [dI a0])),(4,some (.box [.d (.sl (cM aE.cells a1))])),(8001,some (.outer [.ptr 3 0,.ptr 4 0,.d (.ptr [.sl (cM cI a2)] 0)])),(100026,some (.rows 0 3 1 (cM cI p7)))]⟩
theorem LK (a0:Int) (a1:List aE) (a2:List Int) (p5 p6:Int) (p7:List Int):b6 TT qB (uR a0 a1 a2 p5 p6 p7) (fun e s=>some (e,s)) = cU (fun (w:Int × Int × (List Int))=>uR a0 a1 a2 w.1 w.2.1 w.2.2) (fun (r:Int × (List Int))=>(((.exit 0),⟨[(0,.own 100026 0),(5,dI r.1)],[(3,some (.box [dI a0])),(4,some (.box [.d (.sl (cM aE.cells a1))])),(8001,some (.outer [.ptr 3 0,.ptr 4 0,.d (.ptr [.sl (cM cI a2)] 0)])),(100026,some (.rows 0 3 1 (cM cI r.2)))]⟩):Ex × St)) (dG a0 a1 a2 p5 p6 p7):=by
 unfold qB dG
 have u:=aN (aN (aN @uN @kO) (aN @zT (aN @wU @yT))) (aN (aN @kX @mT) (aN @AR (aN @vC @uU)))
 exact oT
theorem KW {β:Type} (a0:Int) (a1:List aE) (a2:List Int) (p5 p6:Int) (p7:List Int) (k:Ex->St->Option β):b6 TT A2 (uR a0 a1 a2 p5 p6 p7) k = (lS a0 a1 a2 p5 p6 p7).bind (fun (r:Int × (List Int))=>k (.exit 0) ⟨[(0,.own 100026 0),(5,dI r.1)],[(3,some (.box [dI a0])),(4,some (.box [.d (.sl (cM aE.cells a1))])),(8001,some (.outer [.ptr 3 0,.ptr 4 0,.d (.ptr [.sl (cM cI a2)] 0)])),(100026,some (.rows 0 3 1 (cM cI r.2)))]⟩):=by
 have hh:=fun (w:Int × Int × (List Int))=>LK a0 a1 a2 w.1 w.2.1 w.2.2
 have h:=fun ho=>bE (T:=TT) (k:=k) (c:=qB) (step:=(fun (w:Int × Int × (List Int))=>dG a0 a1 a2 w.1 w.2.1 w.2.2)) _ _ ho hh (p5,p6,p7)
 refine Eq.trans (h (fun r s e=>by have q:=congrArg Prod.fst e; rcases r with x <;> cases q)) ?_
 unfold lS
 exact aM _ fun x=>by rcases x with x <;> rfl
abbrev u4 (a0:Int) (a1:List aE) (a2 p14:List Int) (p17:List (List Int)) (p18:Int) (p19:List (List Int)) (p20 r16:Int) (x22:List Int) (p25:Int) (p26:List (List Int)):St:=⟨[(1,.ptr 20001 0),(4,.own 30049 0),(6,.d (.sl (cM cI x22))),(8,dI p25),(16,dI (p14.length:Int)),(17,dI p18),(19,.d (.sl (cM (cL cI) p17))),(20,dI (p17.length:Int)),(21,dI p20)],[(3,some (.box [dI a0])),(4,some (.box [.d (.sl (cM aE.cells a1))])),(11,some (.box [dI r16])),(12,some (.box [.own 50064 0])),(8003,some (.outer [.ptr 3 0,.ptr 4 0,.d (.ptr [.sl (cM cI a2)] 0),.ptr 11 0,.ptr 12 0])),(20001,some (.box [.own 100026 0])),(30014,none),(30049,some (.rows 0 23 1 (cM (cL cI) p26))),(50064,some (.rows 0 23 1 (cM (cL cI) p19))),(100026,some (.rows 0 3 1 (cM cI p14)))]⟩
theorem K7 (a0:Int) (a1:List aE) (a2 p14:List Int) (p17:List (List Int)) (p18:Int) (p19:List (List Int)) (p20 r16:Int) (x22:List Int) (p25:Int) (p26:List (List Int)):b6 TT qA (u4 a0 a1 a2 p14 p17 p18 p19 p20 r16 x22 p25 p26) (fun e s=>some (e,s)) = cU (fun (w:Int × (List (List Int)))=>u4 a0 a1 a2 p14 p17 p18 p19 p20 r16 x22 w.1 w.2) (fun (r:(List (List Int)))=>(((.exit 4),⟨[(1,.ptr 20001 0),(4,.own 30049 0),(16,dI (p14.length:Int)),(17,dI p18),(19,.d (.sl (cM (cL cI) p17))),(20,dI (p17.length:Int)),(21,dI p20)],[(3,some (.box [dI a0])),(4,some (.box [.d (.sl (cM aE.cells a1))])),(11,some (.box [dI r16])),(12,some (.box [.own 50064 0])),(8003,some (.outer [.ptr 3 0,.ptr 4 0,.d (.ptr [.sl (cM cI a2)] 0),.ptr 11 0,.ptr 12 0])),(20001,some (.box [.own 100026 0])),(30014,none),(30049,some (.rows 0 23 1 (cM (cL cI) r))),(50064,some (.rows 0 23 1 (cM (cL cI) p19))),(100026,some (.rows 0 3 1 (cM cI p14)))]⟩):Ex × St)) (dV a0 a1 a2 p14 p17 p18 p19 p20 r16 x22 p25 p26):=by
 unfold qA dV
 have u:=aN @vC @uU
 exact oT
theorem KV {β:Type} (a0:Int) (a1:List aE) (a2 p14:List Int) (p17:List (List Int)) (p18:Int) (p19:List (List Int)) (p20 r16:Int) (x22:List Int) (p25:Int) (p26:List (List Int)) (k:Ex->St->Option β):b6 TT AV (u4 a0 a1 a2 p14 p17 p18 p19 p20 r16 x22 p25 p26) k = (oV a0 a1 a2 p14 p17 p18 p19 p20 r16 x22 p25 p26).bind (fun (r:(List (List Int)))=>k (.exit 4) ⟨[(1,.ptr 20001 0),(4,.own 30049 0),(16,dI (p14.length:Int)),(17,dI p18),(19,.d (.sl (cM (cL cI) p17))),(20,dI (p17.length:Int)),(21,dI p20)],[(3,some (.box [dI a0])),(4,some (.box [.d (.sl (cM aE.cells a1))])),(11,some (.box [dI r16])),(12,some (.box [.own 50064 0])),(8003,some (.outer [.ptr 3 0,.ptr 4 0,.d (.ptr [.sl (cM cI a2)] 0),.ptr 11 0,.ptr 12 0])),(20001,some (.box [.own 100026 0])),(30014,none),(30049,some (.rows 0 23 1 (cM (cL cI) r))),(50064,some (.rows 0 23 1 (cM (cL cI) p19))),(100026,some (.rows 0 3 1 (cM cI p14)))]⟩):=by
 have hh:=fun (w:Int × (List (List Int)))=>K7 a0 a1 a2 p14 p17 p18 p19 p20 r16 x22 w.1 w.2
 have h:=fun ho=>bE (T:=TT) (k:=k) (c:=qA) (step:=(fun (w:Int × (List (List Int)))=>dV a0 a1 a2 p14 p17 p18 p19 p20 r16 x22 w.1 w.2)) _ _ ho hh (p25,p26)
 refine Eq.trans (h (fun r s e=>by have q:=congrArg Prod.fst e; rcases r with x <;> cases q)) ?_
 unfold oV
 exact aM _ fun x=>by rcases x with x <;> rfl
theorem LC {β:Type} (a0:Int) (a1:List aE) (a2 p14:List Int) (p17:List (List Int)) (p18:Int) (p19:List (List Int)) (p20:Int) (p21:List (List Int)) (r16:Int) (x22:List Int) (p24:Int) (k:Ex->St->Option β):b6 TT uY ⟨[(1,.ptr 20001 0),(4,.own 30049 0),(6,.d (.sl (cM cI x22))),(7,dI p24),(16,dI (p14.length:Int)),(17,dI p18),(19,.d (.sl (cM (cL cI) p17))),(20,dI (p17.length:Int)),(21,dI p20)],[(3,some (.box [dI a0])),(4,some (.box [.d (.sl (cM aE.cells a1))])),(11,some (.box [dI r16])),(12,some (.box [.own 50064 0])),(8003,some (.outer [.ptr 3 0,.ptr 4 0,.d (.ptr [.sl (cM cI a2)] 0),.ptr 11 0,.ptr 12 0])),(20001,some (.box [.own 100026 0])),(30014,none),(30049,some (.rows 0 23 1 (cM (cL cI) p21))),(50064,some (.rows 0 23 1 (cM (cL cI) p19))),(100026,some (.rows 0 3 1 (cM cI p14)))]⟩ k = (lQ a0 a1 a2 p14 p17 p18 p19 p20 p21 r16 x22 p24).bind (fun (r:(List (List Int)))=>k .normal ⟨[(1,.ptr 20001 0),(4,.own 30049 0),(16,dI (p14.length:Int)),(17,dI p18),(19,.d (.sl (cM (cL cI) p17))),(20,dI (p17.length:Int)),(21,dI p20)],[(3,some (.box [dI a0])),(4,some (.box [.d (.sl (cM aE.cells a1))])),(11,some (.box [dI r16])),(12,some (.box [.own 50064 0])),(8003,some (.outer [.ptr 3 0,.ptr 4 0,.d (.ptr [.sl (cM cI a2)] 0),.ptr 11 0,.ptr 12 0])),(20001,some (.box [.own 100026 0])),(30014,none),(30049,some (.rows 0 23 1 (cM (cL cI) r))),(50064,some (.rows 0 23 1 (cM (cL cI) p19))),(100026,some (.rows 0 3 1 (cM cI p14)))]⟩):=by
 unfold uY lQ
 have u:=@KV
 exact oT
abbrev vE (a0:Int) (a1:List aE) (a2 p14:List Int) (p17:List (List Int)) (p18:Int) (p19:List (List Int)) (r16 p20:Int) (p21:List (List Int)):St:=⟨[(1,.ptr 20001 0),(4,.own 30049 0),(16,dI (p14.length:Int)),(17,dI p18),(19,.d (.sl (cM (cL cI) p17))),(20,dI (p17.length:Int)),(21,dI p20)],[(3,some (.box [dI a0])),(4,some (.box [.d (.sl (cM aE.cells a1))])),(11,some (.box [dI r16])),(12,some (.box [.own 50064 0])),(8003,some (.outer [.ptr 3 0,.ptr 4 0,.d (.ptr [.sl (cM cI a2)] 0),.ptr 11 0,.ptr 12 0])),(20001,some (.box [.own 100026 0])),(30014,none),(30049,some (.rows 0 23 1 (cM (cL cI) p21))),(50064,some (.rows 0 23 1 (cM (cL cI) p19))),(100026,some (.rows 0 3 1 (cM cI p14)))]⟩
theorem K1 (a0:Int) (a1:List aE) (a2 p14:List Int) (p17:List (List Int)) (p18:Int) (p19:List (List Int)) (r16 p20:Int) (p21:List (List Int)):b6 TT pV (vE a0 a1 a2 p14 p17 p18 p19 r16 p20 p21) (fun e s=>some (e,s)) = cU (fun (w:Int × (List (List Int)))=>vE a0 a1 a2 p14 p17 p18 p19 r16 w.1 w.2) (fun (r:(List (List Int)))=>(((.exit 2),⟨[(1,.ptr 20001 0),(4,.own 30049 0),(16,dI (p14.length:Int)),(17,dI p18)],[(3,some (.box [dI a0])),(4,some (.box [.d (.sl (cM aE.cells a1))])),(11,some (.box [dI r16])),(12,some (.box [.own 50064 0])),(8003,some (.outer [.ptr 3 0,.ptr 4 0,.d (.ptr [.sl (cM cI a2)] 0),.ptr 11 0,.ptr 12 0])),(20001,some (.box [.own 100026 0])),(30049,some (.rows 0 23 1 (cM (cL cI) r))),(50064,some (.rows 0 23 1 (cM (cL cI) p19))),(100026,some (.rows 0 3 1 (cM cI p14)))]⟩):Ex × St)) (dZ a0 a1 a2 p14 p17 p18 p19 r16 p20 p21):=by
 unfold pV dZ
 have u:=@LC
 exact oT
theorem KU {β:Type} (a0:Int) (a1:List aE) (a2 p14:List Int) (p17:List (List Int)) (p18:Int) (p19:List (List Int)) (r16 p20:Int) (p21:List (List Int)) (k:Ex->St->Option β):b6 TT BF (vE a0 a1 a2 p14 p17 p18 p19 r16 p20 p21) k = (oP a0 a1 a2 p14 p17 p18 p19 r16 p20 p21).bind (fun (r:(List (List Int)))=>k (.exit 2) ⟨[(1,.ptr 20001 0),(4,.own 30049 0),(16,dI (p14.length:Int)),(17,dI p18)],[(3,some (.box [dI a0])),(4,some (.box [.d (.sl (cM aE.cells a1))])),(11,some (.box [dI r16])),(12,some (.box [.own 50064 0])),(8003,some (.outer [.ptr 3 0,.ptr 4 0,.d (.ptr [.sl (cM cI a2)] 0),.ptr 11 0,.ptr 12 0])),(20001,some (.box [.own 100026 0])),(30049,some (.rows 0 23 1 (cM (cL cI) r))),(50064,some (.rows 0 23 1 (cM (cL cI) p19))),(100026,some (.rows 0 3 1 (cM cI p14)))]⟩):=by
 have hh:=fun (w:Int × (List (List Int)))=>K1 a0 a1 a2 p14 p17 p18 p19 r16 w.1 w.2
 have h:=fun ho=>bE (T:=TT) (k:=k) (c:=pV) (step:=(fun (w:Int × (List (List Int)))=>dZ a0 a1 a2 p14 p17 p18 p19 r16 w.1 w.2)) _ _ ho hh (p20,p21)
 refine Eq.trans (h (fun r s e=>by have q:=congrArg Prod.fst e; rcases r with x <;> cases q)) ?_
 unfold oP
 exact aM _ fun x=>by rcases x with x <;> rfl
abbrev u7 (a0:Int) (a1:List aE) (a2 p14:List Int) (p18 p35:Int) (p36:List (List Int)) (r16:Int) (r34:(List (List Int))) (x37:List Int) (p38:Int) (p39:List Int):St:=⟨[(1,.ptr 20001 0),(4,.own 30049 0),(11,.own 30069 0),(16,dI (p14.length:Int)),(17,dI p18),(51,.own 30049 0),(52,dI (r34.length:Int)),(53,dI p35),(57,.d (.sl (cM cI x37))),(58,dI (x37.length:Int)),(59,dI p38)],[(3,some (.box [dI a0])),(4,some (.box [.d (.sl (cM aE.cells a1))])),(11,some (.box [dI r16])),(12,some (.box [.own 50064 0])),(8003,some (.outer [.ptr 3 0,.ptr 4 0,.d (.ptr [.sl (cM cI a2)] 0),.ptr 11 0,.ptr 12 0])),(20001,some (.box [.own 100026 0])),(30049,some (.rows 0 23 1 (cM (cL cI) r34))),(30069,some (.rows 0 3 1 (cM cI p39))),(50064,some (.rows 0 23 1 (cM (cL cI) p36))),(100026,some (.rows 0 3 1 (cM cI p14)))]⟩
theorem LJ (a0:Int) (a1:List aE) (a2 p14:List Int) (p18 p35:Int) (p36:List (List Int)) (r16:Int) (r34:(List (List Int))) (x37:List Int) (p38:Int) (p39:List Int):b6 TT pU (u7 a0 a1 a2 p14 p18 p35 p36 r16 r34 x37 p38 p39) (fun e s=>some (e,s)) = cU (fun (w:Int × (List Int))=>u7 a0 a1 a2 p14 p18 p35 p36 r16 r34 x37 w.1 w.2) (fun (r:(List Int))=>(((.exit 8),⟨[(1,.ptr 20001 0),(4,.own 30049 0),(11,.own 30069 0),(16,dI (p14.length:Int)),(17,dI p18),(51,.own 30049 0),(52,dI (r34.length:Int)),(53,dI p35)],[(3,some (.box [dI a0])),(4,some (.box [.d (.sl (cM aE.cells a1))])),(11,some (.box [dI r16])),(12,some (.box [.own 50064 0])),(8003,some (.outer [.ptr 3 0,.ptr 4 0,.d (.ptr [.sl (cM cI a2)] 0),.ptr 11 0,.ptr 12 0])),(20001,some (.box [.own 100026 0])),(30049,some (.rows 0 23 1 (cM (cL cI) r34))),(30069,some (.rows 0 3 1 (cM cI r))),(50064,some (.rows 0 23 1 (cM (cL cI) p36))),(100026,some (.rows 0 3 1 (cM cI p14)))]⟩):Ex × St)) (dY a0 a1 a2 p14 p18 p35 p36 r16 r34 x37 p38 p39):=by
 unfold pU dY
 exact J9
theorem LR {β:Type} (a0:Int) (a1:List aE) (a2 p14:List Int) (p18 p35:Int) (p36:List (List Int)) (r16:Int) (r34:(List (List Int))) (x37:List Int) (p38:Int) (p39:List Int) (k:Ex->St->Option β):b6 TT AX (u7 a0 a1 a2 p14 p18 p35 p36 r16 r34 x37 p38 p39) k = (oS a0 a1 a2 p14 p18 p35 p36 r16 r34 x37 p38 p39).bind (fun (r:(List Int))=>k (.exit 8) ⟨[(1,.ptr 20001 0),(4,.own 30049 0),(11,.own 30069 0),(16,dI (p14.length:Int)),(17,dI p18),(51,.own 30049 0),(52,dI (r34.length:Int)),(53,dI p35)],[(3,some (.box [dI a0])),(4,some (.box [.d (.sl (cM aE.cells a1))])),(11,some (.box [dI r16])),(12,some (.box [.own 50064 0])),(8003,some (.outer [.ptr 3 0,.ptr 4 0,.d (.ptr [.sl (cM cI a2)] 0),.ptr 11 0,.ptr 12 0])),(20001,some (.box [.own 100026 0])),(30049,some (.rows 0 23 1 (cM (cL cI) r34))),(30069,some (.rows 0 3 1 (cM cI r))),(50064,some (.rows 0 23 1 (cM (cL cI) p36))),(100026,some (.rows 0 3 1 (cM cI p14)))]⟩):=by
 have hh:=fun (w:Int × (List Int))=>LJ a0 a1 a2 p14 p18 p35 p36 r16 r34 x37 w.1 w.2
 have h:=fun ho=>bE (T:=TT) (k:=k) (c:=pU) (step:=(fun (w:Int × (List Int))=>dY a0 a1 a2 p14 p18 p35 p36 r16 r34 x37 w.1 w.2)) _ _ ho hh (p38,p39)
 refine Eq.trans (h (fun r s e=>by have q:=congrArg Prod.fst e; rcases r with x <;> cases q)) ?_
 unfold oS
 exact aM _ fun x=>by rcases x with x <;> rfl
abbrev u5 (a0:Int) (a1:List aE) (a2 p14:List Int) (p18 r16:Int) (r34:(List (List Int))) (p35:Int) (p36:List (List Int)):St:=⟨[(1,.ptr 20001 0),(4,.own 30049 0),(16,dI (p14.length:Int)),(17,dI p18),(51,.own 30049 0),(52,dI (r34.length:Int)),(53,dI p35)],[(3,some (.box [dI a0])),(4,some (.box [.d (.sl (cM aE.cells a1))])),(11,some (.box [dI r16])),(12,some (.box [.own 50064 0])),(8003,some (.outer [.ptr 3 0,.ptr 4 0,.d (.ptr [.sl (cM cI a2)] 0),.ptr 11 0,.ptr 12 0])),(20001,some (.box [.own 100026 0])),(30049,some (.rows 0 23 1 (cM (cL cI) r34))),(50064,some (.rows 0 23 1 (cM (cL cI) p36))),(100026,some (.rows 0 3 1 (cM cI p14)))]⟩
theorem KS (a0:Int) (a1:List aE) (a2 p14:List Int) (p18 r16:Int) (r34:(List (List Int))) (p35:Int) (p36:List (List Int)):b6 TT pP (u5 a0 a1 a2 p14 p18 r16 r34 p35 p36) (fun e s=>some (e,s)) = cU (fun (w:Int × (List (List Int)))=>u5 a0 a1 a2 p14 p18 r16 r34 w.1 w.2) (fun (r:(List (List Int)))=>(((.exit 6),⟨[(1,.ptr 20001 0),(4,.own 30049 0),(16,dI (p14.length:Int)),(17,dI p18)],[(3,some (.box [dI a0])),(4,some (.box [.d (.sl (cM aE.cells a1))])),(11,some (.box [dI r16])),(12,some (.box [.own 50064 0])),(8003,some (.outer [.ptr 3 0,.ptr 4 0,.d (.ptr [.sl (cM cI a2)] 0),.ptr 11 0,.ptr 12 0])),(20001,some (.box [.own 100026 0])),(30049,some (.rows 0 23 1 (cM (cL cI) r34))),(50064,some (.rows 0 23 1 (cM (cL cI) r))),(100026,some (.rows 0 3 1 (cM cI p14)))]⟩):Ex × St)) (dX a0 a1 a2 p14 p18 r16 r34 p35 p36):=by
 unfold pP dX
 have u:=aN (aN @LR (aN @kO @wU)) (aN @kX (aN @vC @uU))
 exact oT
theorem LI {β:Type} (a0:Int) (a1:List aE) (a2 p14:List Int) (p18 r16:Int) (r34:(List (List Int))) (p35:Int) (p36:List (List Int)) (k:Ex->St->Option β):b6 TT A0 (u5 a0 a1 a2 p14 p18 r16 r34 p35 p36) k = (pD a0 a1 a2 p14 p18 r16 r34 p35 p36).bind (fun (r:(List (List Int)))=>k (.exit 6) ⟨[(1,.ptr 20001 0),(4,.own 30049 0),(16,dI (p14.length:Int)),(17,dI p18)],[(3,some (.box [dI a0])),(4,some (.box [.d (.sl (cM aE.cells a1))])),(11,some (.box [dI r16])),(12,some (.box [.own 50064 0])),(8003,some (.outer [.ptr 3 0,.ptr 4 0,.d (.ptr [.sl (cM cI a2)] 0),.ptr 11 0,.ptr 12 0])),(20001,some (.box [.own 100026 0])),(30049,some (.rows 0 23 1 (cM (cL cI) r34))),(50064,some (.rows 0 23 1 (cM (cL cI) r))),(100026,some (.rows 0 3 1 (cM cI p14)))]⟩):=by
 have hh:=fun (w:Int × (List (List Int)))=>KS a0 a1 a2 p14 p18 r16 r34 w.1 w.2
 have h:=fun ho=>bE (T:=TT) (k:=k) (c:=pP) (step:=(fun (w:Int × (List (List Int)))=>dX a0 a1 a2 p14 p18 r16 r34 w.1 w.2)) _ _ ho hh (p35,p36)
 refine Eq.trans (h (fun r s e=>by have q:=congrArg Prod.fst e; rcases r with x <;> cases q)) ?_
 unfold pD
 exact aM _ fun x=>by rcases x with x <;> rfl
abbrev vD (a0:Int) (a1:List aE) (a2 p14:List Int) (r16:Int) (p17:List (List Int)) (p18:Int) (p19:List (List Int)):St:=⟨[(1,.ptr 20001 0),(3,.d (.sl (cM (cL cI) p17))),(16,dI (p14.length:Int)),(17,dI p18)],[(3,some (.box [dI a0])),(4,some (.box [.d (.sl (cM aE.cells a1))])),(11,some (.box [dI r16])),(12,some (.box [.own 50064 0])),(8003,some (.outer [.ptr 3 0,.ptr 4 0,.d (.ptr [.sl (cM cI a2)] 0),.ptr 11 0,.ptr 12 0])),(20001,some (.box [.own 100026 0])),(30014,none),(30049,none),(50064,some (.rows 0 23 1 (cM (cL cI) p19))),(100026,some (.rows 0 3 1 (cM cI p14)))]⟩
theorem LG (a0:Int) (a1:List aE) (a2 p14:List Int) (r16:Int) (p17:List (List Int)) (p18:Int) (p19:List (List Int)):b6 TT qP (vD a0 a1 a2 p14 r16 p17 p18 p19) (fun e s=>some (e,s)) = cU (fun (w:(List (List Int)) × Int × (List (List Int)))=>vD a0 a1 a2 p14 r16 w.1 w.2.1 w.2.2) (fun (r:(List (List Int)))=>(((.exit 0),⟨[],[(3,some (.box [dI a0])),(4,some (.box [.d (.sl (cM aE.cells a1))])),(11,some (.box [dI r16])),(12,some (.box [.own 50064 0])),(8003,some (.outer [.ptr 3 0,.ptr 4 0,.d (.ptr [.sl (cM cI a2)] 0),.ptr 11 0,.ptr 12 0])),(50064,some (.rows 0 23 1 (cM (cL cI) r)))]⟩):Ex × St)) (dU a0 a1 a2 p14 r16 p17 p18 p19):=by
 unfold qP dU
 have u:=aN @KU @LI
 exact oT
theorem KY {β:Type} (a0:Int) (a1:List aE) (a2 p14:List Int) (r16:Int) (p17:List (List Int)) (p18:Int) (p19:List (List Int)) (k:Ex->St->Option β):b6 TT uQ (vD a0 a1 a2 p14 r16 p17 p18 p19) k = (pG a0 a1 a2 p14 r16 p17 p18 p19).bind (fun (r:(List (List Int)))=>k (.exit 0) ⟨[],[(3,some (.box [dI a0])),(4,some (.box [.d (.sl (cM aE.cells a1))])),(11,some (.box [dI r16])),(12,some (.box [.own 50064 0])),(8003,some (.outer [.ptr 3 0,.ptr 4 0,.d (.ptr [.sl (cM cI a2)] 0),.ptr 11 0,.ptr 12 0])),(50064,some (.rows 0 23 1 (cM (cL cI) r)))]⟩):=by
 have hh:=fun (w:(List (List Int)) × Int × (List (List Int)))=>LG a0 a1 a2 p14 r16 w.1 w.2.1 w.2.2
 have h:=fun ho=>bE (T:=TT) (k:=k) (c:=qP) (step:=(fun (w:(List (List Int)) × Int × (List (List Int)))=>dU a0 a1 a2 p14 r16 w.1 w.2.1 w.2.2)) _ _ ho hh (p17,p18,p19)
 refine Eq.trans (h (fun r s e=>by have q:=congrArg Prod.fst e; rcases r with x <;> cases q)) ?_
 unfold pG
 exact aM _ fun x=>by rcases x with x <;> rfl
theorem KT {β:Type} (a0:Int) (a1:List aE) (a2 p14:List Int) (k:Ex->St->Option β):b6 TT uS ⟨[(3,.ptr 3 0),(4,.ptr 4 0),(5,.d (.ptr [.sl (cM cI a2)] 0)),(8,.own 100026 0)],[(3,some (.box [dI a0])),(4,some (.box [.d (.sl (cM aE.cells a1))])),(100026,some (.rows 0 3 1 (cM cI p14)))]⟩ k = (lP a0 a1 a2 p14).bind (fun (r:Int × (List (List Int)))=>k .ret ⟨[(6,.own 50064 0),(7,dI r.1)],[(50064,some (.rows 0 23 1 (cM (cL cI) r.2)))]⟩):=by
 unfold uS lP
 have u:=aN @KY (aN @kO @wU)
 exact oT
theorem F8 (a0:Int) (a1:List aE) (a2:List Int):Vm.call TT 12 [.int .i64 a0,.sl (cM aE.cells a1),.sl (cM cI a2)] = (gB a0 a1 a2).map fun (r:(List (List Int)) × Int)=>.tup [.sl (cM (cL cI) r.1),.int .i64 r.2]:=by
 refine (bQ (show TT 12 = some (.code ⟨3,66,[.tmp 6,.tmp 7],aPq,false,false⟩) from rfl) _ rfl rfl).trans ?_
 show b6 TT aPq ⟨[(0,dI a0),(1,.d (.sl (cM aE.cells a1))),(2,.d (.sl (cM cI a2)))],[]⟩ _ = _
 unfold aPq gB
 have u:=aN (aN @KW (aN @KT @uN)) (aN @zT (aN @mT @AR))
 exact oT
theorem F7 (a0:Int) (a1:List aE) (a2:List Int):KD TT 12 [.int .i64 a0,.sl (cM aE.cells a1),.sl (cM cI a2)] (gB a0 a1 a2) (fun (r:(List (List Int)) × Int)=>.tup [.d (.sl (cM (cL cI) r.1)),dI r.2]):=kD (F8 a0 a1 a2) (fun _=>rfl) (fun _=>rfl) (fun _=>rfl)
abbrev rE (a0:List aE) (a1:List Int) (a2 a3 p1:Int) (p2:List Int) (p3:List bH):St:=⟨[(1,.d (.sl (cM cI a1))),(2,dI a2),(3,dI a3),(8,.own 33 0),(9,.own 51 0),(17,.d (.sl (cM aE.cells a0))),(18,dI (a0.length:Int)),(19,dI p1)],[(33,some (.rows 0 3 1 (cM cI p2))),(51,some (.rows 0 60 9 (cM bH.cells p3)))]⟩
theorem GM (a0:List aE) (a1:List Int) (a2 a3 p1:Int) (p2:List Int) (p3:List bH):b6 TT mO (rE a0 a1 a2 a3 p1 p2 p3) (fun e s=>some (e,s)) = cU (fun (w:Int × (List Int) × (List bH))=>rE a0 a1 a2 a3 w.1 w.2.1 w.2.2) (fun (r:(List Int) × (List bH))=>(((.exit 0),⟨[(8,.own 33 0),(9,.own 51 0)],[(33,some (.rows 0 3 1 (cM cI r.1))),(51,some (.rows 0 60 9 (cM bH.cells r.2)))]⟩):Ex × St)) (mM a0 a1 a2 a3 p1 p2 p3):=by
 unfold mO mM
 exact J9
theorem GI {β:Type} (a0:List aE) (a1:List Int) (a2 a3 p1:Int) (p2:List Int) (p3:List bH) (k:Ex->St->Option β):b6 TT xE (rE a0 a1 a2 a3 p1 p2 p3) k = (tY a0 a1 a2 a3 p1 p2 p3).bind (fun (r:(List Int) × (List bH))=>k (.exit 0) ⟨[(8,.own 33 0),(9,.own 51 0)],[(33,some (.rows 0 3 1 (cM cI r.1))),(51,some (.rows 0 60 9 (cM bH.cells r.2)))]⟩):=by
 have hh:=fun (w:Int × (List Int) × (List bH))=>GM a0 a1 a2 a3 w.1 w.2.1 w.2.2
 have h:=fun ho=>bE (T:=TT) (k:=k) (c:=mO) (step:=(fun (w:Int × (List Int) × (List bH))=>mM a0 a1 a2 a3 w.1 w.2.1 w.2.2)) _ _ ho hh (p1,p2,p3)
 refine Eq.trans (h (fun r s e=>by have q:=congrArg Prod.fst e; rcases r with x <;> cases q)) ?_
 unfold tY
 exact aM _ fun x=>by rcases x with x <;> rfl
theorem LE (a0:List aE) (a1:List Int) (a2 a3:Int):Vm.call TT 14 [.sl (cM aE.cells a0),.sl (cM cI a1),.int .i64 a2,.int .i64 a3] = (sM a0 a1 a2 a3).map fun (r:(List Int) × (List bH))=>.tup [.sl (cM cI r.1),.sl (cM bH.cells r.2)]:=by
 refine (bQ (show TT 14 = some (.code ⟨4,55,[.tmp 8,.tmp 9],aPf,false,false⟩) from rfl) _ rfl rfl).trans ?_
 show b6 TT aPf ⟨[(0,.d (.sl (cM aE.cells a0))),(1,.d (.sl (cM cI a1))),(2,dI a2),(3,dI a3)],[]⟩ _ = _
 unfold aPf sM
 have u:=@GI
 exact oT
theorem KK (a0:List aE) (a1:List Int) (a2 a3:Int):KD TT 14 [.sl (cM aE.cells a0),.sl (cM cI a1),.int .i64 a2,.int .i64 a3] (sM a0 a1 a2 a3) (fun (r:(List Int) × (List bH))=>.tup [.d (.sl (cM cI r.1)),.d (.sl (cM bH.cells r.2))]):=kD (LE a0 a1 a2 a3) (fun _=>rfl) (fun _=>rfl) (fun _=>rfl)
abbrev pA (a0 a1:List Int) (p1:Int):St:=⟨[(0,.d (.sl (cM cI a0))),(1,.d (.sl (cM cI a1))),(5,dI p1)],[]⟩
theorem D7 (a0 a1:List Int) (p1:Int):b6 TT kQ (pA a0 a1 p1) (fun e s=>some (e,s)) = cU (fun (w:Int)=>pA a0 a1 w) (fun (r:Unit ⊕ Unit)=>Sum.elim (fun (z:Unit)=>(((.exit 0),⟨[],[]⟩):Ex × St)) (fun (z:Unit)=>((.ret,⟨[(4,dB false)],[]⟩):Ex × St)) r) (kT a0 a1 p1):=by
 unfold kQ kT
 exact J9
theorem DD {β:Type} (a0 a1:List Int) (p1:Int) (k:Ex->St->Option β):b6 TT vK (pA a0 a1 p1) k = (qZ a0 a1 p1).bind (fun (r:Unit ⊕ Unit)=>Sum.elim (fun (z:Unit)=>k (.exit 0) ⟨[],[]⟩) (fun (z:Unit)=>k .ret ⟨[(4,dB false)],[]⟩) r):=by
 have hh:=fun (w:Int)=>D7 a0 a1 w
 have h:=fun ho=>bE (T:=TT) (k:=k) (c:=kQ) (step:=(fun (w:Int)=>kT a0 a1 w)) _ _ ho hh p1
 refine Eq.trans (h (fun r s e=>by have q:=congrArg Prod.fst e; rcases r with x | x <;> cases q)) ?_
 unfold qZ
 exact aM _ fun x=>by rcases x with x | x <;> rfl
theorem H7 (a0 a1:List Int):Vm.call TT 16 [.sl (cM cI a0),.sl (cM cI a1)] = (iG a0 a1).map fun (r:Bool)=>.bool r:=by
 refine (bQ (show TT 16 = some (.code ⟨2,26,[.tmp 4],aNV,false,false⟩) from rfl) _ rfl rfl).trans ?_
 show b6 TT aNV ⟨[(0,.d (.sl (cM cI a0))),(1,.d (.sl (cM cI a1)))],[]⟩ _ = _
 unfold aNV iG
 have u:=@DD
 exact oT
theorem y7 (a0 a1:List Int):KF TT 16 [.sl (cM cI a0),.sl (cM cI a1)] (iG a0 a1) (fun (r:Bool)=>dB r):=kF (H7 a0 a1) (fun _=>rfl) (fun _=>rfl)
abbrev mV (a0 a1:List Int) (p1:Int):St:=⟨[(0,.d (.sl (cM cI a0))),(1,.d (.sl (cM cI a1))),(5,dI p1)],[]⟩
theorem BT (a0 a1:List Int) (p1:Int):b6 TT jP (mV a0 a1 p1) (fun e s=>some (e,s)) = cU (fun (w:Int)=>mV a0 a1 w) (fun (r:Unit ⊕ Bool)=>Sum.elim (fun (z:Unit)=>(((.exit 0),⟨[],[]⟩):Ex × St)) (fun (z:Bool)=>((.ret,⟨[(4,dB z)],[]⟩):Ex × St)) r) (jN a0 a1 p1):=by
 unfold jP jN
 exact J9
theorem B3 {β:Type} (a0 a1:List Int) (p1:Int) (k:Ex->St->Option β):b6 TT sS (mV a0 a1 p1) k = (pC a0 a1 p1).bind (fun (r:Unit ⊕ Bool)=>Sum.elim (fun (z:Unit)=>k (.exit 0) ⟨[],[]⟩) (fun (z:Bool)=>k .ret ⟨[(4,dB z)],[]⟩) r):=by
 have hh:=fun (w:Int)=>BT a0 a1 w
 have h:=fun ho=>bE (T:=TT) (k:=k) (c:=jP) (step:=(fun (w:Int)=>jN a0 a1 w)) _ _ ho hh p1
 refine Eq.trans (h (fun r s e=>by have q:=congrArg Prod.fst e; rcases r with x | x <;> cases q)) ?_
 unfold pC
 exact aM _ fun x=>by rcases x with x | x <;> rfl
theorem E9 (a0 a1:List Int):Vm.call TT 52 [.sl (cM cI a0),.sl (cM cI a1)] = (j7 a0 a1).map fun (r:Bool)=>.bool r:=by
 refine (bQ (show TT 52 = some (.code ⟨2,40,[.tmp 4],aPY,false,false⟩) from rfl) _ rfl rfl).trans ?_
 show b6 TT aPY ⟨[(0,.d (.sl (cM cI a0))),(1,.d (.sl (cM cI a1)))],[]⟩ _ = _
 unfold aPY j7
 have u:=@B3
 exact oT
theorem EN (a0 a1:List Int):KF TT 52 [.sl (cM cI a0),.sl (cM cI a1)] (j7 a0 a1) (fun (r:Bool)=>dB r):=kF (E9 a0 a1) (fun _=>rfl) (fun _=>rfl)
abbrev kW (a0 a1:List (List Int)) (p1:Int):St:=⟨[(0,.d (.sl (cM (cL cI) a0))),(1,.d (.sl (cM (cL cI) a1))),(5,dI p1)],[]⟩
theorem zU (a0 a1:List (List Int)) (p1:Int):b6 TT iA (kW a0 a1 p1) (fun e s=>some (e,s)) = cU (fun (w:Int)=>kW a0 a1 w) (fun (r:Unit ⊕ Unit)=>Sum.elim (fun (z:Unit)=>(((.exit 0),⟨[],[]⟩):Ex × St)) (fun (z:Unit)=>((.ret,⟨[(4,dB false)],[]⟩):Ex × St)) r) (hY a0 a1 p1):=by
 unfold iA hY
 have u:=@EN
 exact oT
theorem zR {β:Type} (a0 a1:List (List Int)) (p1:Int) (k:Ex->St->Option β):b6 TT qU (kW a0 a1 p1) k = (mG a0 a1 p1).bind (fun (r:Unit ⊕ Unit)=>Sum.elim (fun (z:Unit)=>k (.exit 0) ⟨[],[]⟩) (fun (z:Unit)=>k .ret ⟨[(4,dB false)],[]⟩) r):=by
 have hh:=fun (w:Int)=>zU a0 a1 w
 have h:=fun ho=>bE (T:=TT) (k:=k) (c:=iA) (step:=(fun (w:Int)=>hY a0 a1 w)) _ _ ho hh p1
 refine Eq.trans (h (fun r s e=>by have q:=congrArg Prod.fst e; rcases r with x | x <;> cases q)) ?_
 unfold mG
 exact aM _ fun x=>by rcases x with x | x <;> rfl
theorem BS (a0 a1:List (List Int)):Vm.call TT 17 [.sl (cM (cL cI) a0),.sl (cM (cL cI) a1)] = (iL a0 a1).map fun (r:Bool)=>.bool r:=by
 refine (bQ (show TT 17 = some (.code ⟨2,37,[.tmp 4],aO4,false,false⟩) from rfl) _ rfl rfl).trans ?_
 show b6 TT aO4 ⟨[(0,.d (.sl (cM (cL cI) a0))),(1,.d (.sl (cM (cL cI) a1)))],[]⟩ _ = _
 unfold aO4 iL
 have u:=@zR
 exact oT
theorem BV (a0 a1:List (List Int)):KF TT 17 [.sl (cM (cL cI) a0),.sl (cM (cL cI) a1)] (iL a0 a1) (fun (r:Bool)=>dB r):=kF (BS a0 a1) (fun _=>rfl) (fun _=>rfl)
abbrev u0 (a0:List aE) (a1 a2:List Int) (p1:Int):St:=⟨[(1,.d (.sl (cM cI a1))),(2,.d (.sl (cM cI a2))),(14,.d (.sl (cM aE.cells a0))),(15,dI (a0.length:Int)),(16,dI p1)],[]⟩
theorem LQ (a0:List aE) (a1 a2:List Int) (p1:Int):b6 TT qF (u0 a0 a1 a2 p1) (fun e s=>some (e,s)) = cU (fun (w:Int)=>u0 a0 a1 a2 w) (fun (r:Unit ⊕ Unit)=>Sum.elim (fun (z:Unit)=>(((.exit 0),⟨[],[]⟩):Ex × St)) (fun (z:Unit)=>((.ret,⟨[(6,dB false)],[]⟩):Ex × St)) r) (qL a0 a1 a2 p1):=by
 unfold qF qL
 have u:=@HI
 exact oT
theorem KQ {β:Type} (a0:List aE) (a1 a2:List Int) (p1:Int) (k:Ex->St->Option β):b6 TT A9 (u0 a0 a1 a2 p1) k = (xR a0 a1 a2 p1).bind (fun (r:Unit ⊕ Unit)=>Sum.elim (fun (z:Unit)=>k (.exit 0) ⟨[],[]⟩) (fun (z:Unit)=>k .ret ⟨[(6,dB false)],[]⟩) r):=by
 have hh:=fun (w:Int)=>LQ a0 a1 a2 w
 have h:=fun ho=>bE (T:=TT) (k:=k) (c:=qF) (step:=(fun (w:Int)=>qL a0 a1 a2 w)) _ _ ho hh p1
 refine Eq.trans (h (fun r s e=>by have q:=congrArg Prod.fst e; rcases r with x | x <;> cases q)) ?_
 unfold xR
 exact aM _ fun x=>by rcases x with x | x <;> rfl
theorem PX (a0:List aE) (a1 a2:List Int):Vm.call TT 23 [.sl (cM aE.cells a0),.sl (cM cI a1),.sl (cM cI a2)] = (uF a0 a1 a2).map fun (r:Bool)=>.bool r:=by
 refine (bQ (show TT 23 = some (.code ⟨3,33,[.tmp 6],aPw,false,false⟩) from rfl) _ rfl rfl).trans ?_
 show b6 TT aPw ⟨[(0,.d (.sl (cM aE.cells a0))),(1,.d (.sl (cM cI a1))),(2,.d (.sl (cM cI a2)))],[]⟩ _ = _
 unfold aPw uF
 have u:=@KQ
 exact oT
theorem PU (a0:List aE) (a1 a2:List Int):KF TT 23 [.sl (cM aE.cells a0),.sl (cM cI a1),.sl (cM cI a2)] (uF a0 a1 a2) (fun (r:Bool)=>dB r):=kF (PX a0 a1 a2) (fun _=>rfl) (fun _=>rfl)
theorem C3 (r1:(List aE)):KD TT 10 [.int .i64 3,.sl (cM aE.cells r1),.sl []] (cQ 3 r1 []) (fun (r:(List Int) × (List Int) × Int)=>.tup [.d (.sl (cM cI r.1)),.d (.sl (cM cI r.2.1)),dI r.2.2]):=kD (GF 3 r1 []) (fun _=>rfl) (fun _=>rfl) (fun _=>rfl)
theorem C0 (r1:(List aE)):KD TT 12 [.int .i64 3,.sl (cM aE.cells r1),.sl []] (gB 3 r1 []) (fun (r:(List (List Int)) × Int)=>.tup [.d (.sl (cM (cL cI) r.1)),dI r.2]):=kD (F8 3 r1 []) (fun _=>rfl) (fun _=>rfl) (fun _=>rfl)
theorem CZ {β:Type} (r1:(List aE)) (bl fz:List (Nat × Option aI)) (k:V->Option β) (kw:V->List (Nat × Option aI)->Option β):xI TT 139 bl 21 [.sl (cM aE.cells r1)] fz k kw = (gZ r1).bind fun (r:(List Int))=>bG bl 100139 fun b=>gC b (kw (.own 100139 0) ((100139,some (.rows 0 3 1 (cM cI r))) :: fz)):=C5 (xZ r1) fz
theorem CQ {β:Type} (p12:Bool) (r1:(List aE)) (r3:(List Int) × (List Int) × Int) (r8:(List Int) × (List bH)) (p15:Bool) (k:Ex->St->Option β):b6 TT nW ⟨[(1,.d (.sl (cM aE.cells r1))),(5,.d (.sl (cM cI r3.1))),(18,.d (.sl (cM bH.cells r8.2))),(19,dB p12),(20,dB p15)],[]⟩ k = (i6 p12 r1 r3 r8 p15).bind (fun (r:Bool)=>k .ret ⟨[(0,dB r)],[]⟩):=by
 unfold nW i6
 have u:=aN (aN @y7 @uN) (aN @PU @CZ)
 exact oT
theorem CI {β:Type} (r1:(List aE)) (r3:(List Int) × (List Int) × Int) (r5 r6 r7:(List (List Int)) × Int) (r8:(List Int) × (List bH)) (p12:Bool) (k:Ex->St->Option β):b6 TT nS ⟨[(1,.d (.sl (cM aE.cells r1))),(5,.d (.sl (cM cI r3.1))),(11,.d (.sl (cM (cL cI) r5.1))),(13,.d (.sl (cM (cL cI) r6.1))),(15,.d (.sl (cM (cL cI) r7.1))),(18,.d (.sl (cM bH.cells r8.2))),(19,dB p12)],[]⟩ k = (jA r1 r3 r5 r6 r7 r8 p12).bind (fun (r:Bool)=>k .ret ⟨[(0,dB r)],[]⟩):=by
 unfold nS jA
 have u:=aN @CQ @BV
 exact oT
theorem xF:Vm.call TT 8 [] = (gQ).map fun (r:Bool)=>.bool r:=by
 refine (bQ (show TT 8 = some (.code ⟨0,166,[.tmp 0],bd8,false,false⟩) from rfl) _ rfl rfl).trans ?_
 show b6 TT bd8 ⟨[],[]⟩ _ = _
 unfold bd8 gQ
 have u:=aN (aN (aN @CI @uL) (aN @F7 @KK)) (aN (aN @y7 @DO) (aN @C3 @C0))
 exact oT
theorem GK:KF TT 8 [] (gQ) (fun (r:Bool)=>dB r):=kF (xF ) (fun _=>rfl) (fun _=>rfl)
abbrev oJ (a0:List aE) (p1:Int) (p2:List aH):St:=⟨[(0,.d (.sl (cM aE.cells a0))),(3,.own 5 0),(4,dI p1)],[(5,some (.rows 0 54 3 (cM aH.cells p2)))]⟩
theorem DL (a0:List aE) (p1:Int) (p2:List aH):b6 TT kN (oJ a0 p1 p2) (fun e s=>some (e,s)) = cU (fun (w:Int × (List aH))=>oJ a0 w.1 w.2) (fun (r:(List aH))=>(((.exit 0),⟨[(3,.own 5 0)],[(5,some (.rows 0 54 3 (cM aH.cells r)))]⟩):Ex × St)) (cA a0 p1 p2):=by
 unfold kN cA
 exact J9
theorem DX {β:Type} (a0:List aE) (p1:Int) (p2:List aH) (k:Ex->St->Option β):b6 TT vN (oJ a0 p1 p2) k = (mN a0 p1 p2).bind (fun (r:(List aH))=>k (.exit 0) ⟨[(3,.own 5 0)],[(5,some (.rows 0 54 3 (cM aH.cells r)))]⟩):=by
 have hh:=fun (w:Int × (List aH))=>DL a0 w.1 w.2
 have h:=fun ho=>bE (T:=TT) (k:=k) (c:=kN) (step:=(fun (w:Int × (List aH))=>cA a0 w.1 w.2)) _ _ ho hh (p1,p2)
 refine Eq.trans (h (fun r s e=>by have q:=congrArg Prod.fst e; rcases r with x <;> cases q)) ?_
 unfold mN
 exact aM _ fun x=>by rcases x with x <;> rfl
theorem GS (a0:List aE):Vm.call TT 26 [.sl (cM aE.cells a0)] = (jU a0).map fun (r:(List aH))=>.sl (cM aH.cells r):=by
 refine (bQ (show TT 26 = some (.code ⟨1,32,[.tmp 2],aPG,false,false⟩) from rfl) _ rfl rfl).trans ?_
 show b6 TT aPG ⟨[(0,.d (.sl (cM aE.cells a0)))],[]⟩ _ = _
 unfold aPG jU
 have u:=@DX
 exact oT
theorem HF (a0:List aE):KD TT 26 [.sl (cM aE.cells a0)] (jU a0) (fun (r:(List aH))=>.d (.sl (cM aH.cells r))):=kD (GS a0) (fun _=>rfl) (fun _=>rfl) (fun _=>rfl)
abbrev pM (a0:Int) (a1:List aH) (p1:Int):St:=⟨[(0,dI a0),(1,.d (.sl (cM aH.cells a1))),(5,dI p1)],[]⟩
theorem EO (a0:Int) (a1:List aH) (p1:Int):b6 TT lK (pM a0 a1 p1) (fun e s=>some (e,s)) = cU (fun (w:Int)=>pM a0 a1 w) (fun (r:Unit ⊕ Unit)=>Sum.elim (fun (z:Unit)=>(((.exit 0),⟨[(0,dI a0),(1,.d (.sl (cM aH.cells a1)))],[]⟩):Ex × St)) (fun (z:Unit)=>((.ret,⟨[(4,dB false)],[]⟩):Ex × St)) r) (bS a0 a1 p1):=by
 unfold lK bS
 exact J9
theorem EU {β:Type} (a0:Int) (a1:List aH) (p1:Int) (k:Ex->St->Option β):b6 TT wK (pM a0 a1 p1) k = (j8 a0 a1 p1).bind (fun (r:Unit ⊕ Unit)=>Sum.elim (fun (z:Unit)=>k (.exit 0) ⟨[(0,dI a0),(1,.d (.sl (cM aH.cells a1)))],[]⟩) (fun (z:Unit)=>k .ret ⟨[(4,dB false)],[]⟩) r):=by
 have hh:=fun (w:Int)=>EO a0 a1 w
 have h:=fun ho=>bE (T:=TT) (k:=k) (c:=lK) (step:=(fun (w:Int)=>bS a0 a1 w)) _ _ ho hh p1
 refine Eq.trans (h (fun r s e=>by have q:=congrArg Prod.fst e; rcases r with x | x <;> cases q)) ?_
 unfold j8
 exact aM _ fun x=>by rcases x with x | x <;> rfl
theorem JQ (a0:Int) (a1:List aH):Vm.call TT 36 [.int .i64 a0,.sl (cM aH.cells a1)] = (kK a0 a1).map fun (r:Bool)=>.bool r:=by
 refine (bQ (show TT 36 = some (.code ⟨2,51,[.tmp 4],aMW,false,false⟩) from rfl) _ rfl rfl).trans ?_
 show b6 TT aMW ⟨[(0,dI a0),(1,.d (.sl (cM aH.cells a1)))],[]⟩ _ = _
 unfold aMW kK
 have u:=@EU
 exact oT
theorem JY (a0:Int) (a1:List aH):KF TT 36 [.int .i64 a0,.sl (cM aH.cells a1)] (kK a0 a1) (fun (r:Bool)=>dB r):=kF (JQ a0 a1) (fun _=>rfl) (fun _=>rfl)
end Go.Proofs.Ytgjcnbgfaimepaa
