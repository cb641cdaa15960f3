/- The functions of the small machine compute the plain definitions. Printed by a program. -/
import Derived.Test.YtgjcnbgfaimepaaLnk3
set_option linter.unusedVariables false
set_option linter.unusedSimpArgs false
namespace Go.Proofs.Ytgjcnbgfaimepaa
open Vm
open Go.RowKit
set_option maxRecDepth 100000
set_option maxHeartbeats 4000000
attribute [local congr] xJ AH xO AD
theorem GV (a0 a1:List Int):Vm.call TT 47 [.sl (cM cI a0),.ptr [.sl (cM cI a1)] 0] = (pJ a0 a1).map fun (r:Bool)=>.bool r:=by
 refine (bH (show TT 47 = some (.code ⟨2,7,[.tmp 3],aOi,false,false⟩) from rfl) _ rfl rfl).trans ?_
 show bR TT aOi ⟨[(0,.d (.sl (cM cI a0))),(1,.d (.ptr [.sl (cM cI a1)] 0))],[]⟩ _ = _
 unfold aOi pJ
 have u:=@MF
 exact pX
theorem GP (a0 a1:List Int):KF TT 47 [.sl (cM cI a0),.ptr [.sl (cM cI a1)] 0] (pJ a0 a1) (fun (r:Bool)=>dB r):=kF (GV a0 a1) (fun _=>rfl) (fun _=>rfl)
abbrev fT (a0:List (List Int)) (a1:List Int) (p1:Int):St:=⟨[(0,.d (.sl (cM (cL cI) a0))),(1,.d (.fn 47 [.ptr [.sl (cM cI a1)] 0])),(7,dI (a0.length:Int)),(8,dI p1)],[]⟩
theorem rY (a0:List (List Int)) (a1:List Int) (p1:Int):bR TT eK (fT a0 a1 p1) (fun e s=>some (e,s)) = cH (fun (w:Int)=>fT a0 a1 w) (fun (r:Unit ⊕ Int)=>Sum.elim (fun (z:Unit)=>(((.exit 0),⟨[],[]⟩):Ex × St)) (fun (z:Int)=>((.ret,⟨[(4,dI z)],[]⟩):Ex × St)) r) (dQ a0 a1 p1):=by
 unfold eK dQ
 have u:=@GP
 exact pX
theorem sT {β:Type} (a0:List (List Int)) (a1:List Int) (p1:Int) (k:Ex->St->Option β):bR TT lR (fT a0 a1 p1) k = (gO a0 a1 p1).bind (fun (r:Unit ⊕ Int)=>Sum.elim (fun (z:Unit)=>k (.exit 0) ⟨[],[]⟩) (fun (z:Int)=>k .ret ⟨[(4,dI z)],[]⟩) r):=by
 have hh:=fun (w:Int)=>rY a0 a1 w
 have h:=fun ho=>aZ (T:=TT) (k:=k) (c:=eK) (step:=(fun (w:Int)=>dQ a0 a1 w)) _ _ ho hh p1
 refine Eq.trans (h (fun r s e=>by have q:=congrArg Prod.fst e; rcases r with x | x <;> cases q)) ?_
 unfold gO
 exact aL _ fun x=>by rcases x with x | x <;> rfl
theorem u5 (a0:List (List Int)) (a1:List Int):Vm.call TT 75 [.sl (cM (cL cI) a0),.fn 47 [.ptr [.sl (cM cI a1)] 0]] = (fB a0 a1).map fun (r:Int)=>.int .i64 r:=by
 refine (bH (show TT 75 = some (.code ⟨2,19,[.tmp 4],aOL,false,false⟩) from rfl) _ rfl rfl).trans ?_
 show bR TT aOL ⟨[(0,.d (.sl (cM (cL cI) a0))),(1,.d (.fn 47 [.ptr [.sl (cM cI a1)] 0]))],[]⟩ _ = _
 unfold aOL fB
 have u:=@sT
 exact pX
theorem u7 (a0:List (List Int)) (a1:List Int):KF TT 75 [.sl (cM (cL cI) a0),.fn 47 [.ptr [.sl (cM cI a1)] 0]] (fB a0 a1) (fun (r:Int)=>dI r):=kF (u5 a0 a1) (fun _=>rfl) (fun _=>rfl)
theorem sE (a0:List (List Int)) (a1:List Int):Vm.call TT 46 [.sl (cM (cL cI) a0),.fn 47 [.ptr [.sl (cM cI a1)] 0]] = (d9 a0 a1).map fun (r:Bool)=>.bool r:=by
 refine (bH (show TT 46 = some (.code ⟨2,9,[.tmp 4],aMQ,false,false⟩) from rfl) _ rfl rfl).trans ?_
 show bR TT aMQ ⟨[(0,.d (.sl (cM (cL cI) a0))),(1,.d (.fn 47 [.ptr [.sl (cM cI a1)] 0]))],[]⟩ _ = _
 unfold aMQ d9
 have u:=@u7
 exact pX
theorem kE (a0:List (List Int)) (a1:List Int):KF TT 46 [.sl (cM (cL cI) a0),.fn 47 [.ptr [.sl (cM cI a1)] 0]] (d9 a0 a1) (fun (r:Bool)=>dB r):=kF (sE a0 a1) (fun _=>rfl) (fun _=>rfl)
theorem AU {β:Type} (a1:List aE) (bl fz:List (Nat × Option aI)) (k:V->Option β) (kw:V->List (Nat × Option aI)->Option β):wC TT 26 bl 21 [.sl (cM aE.cells a1)] fz k kw = (gD a1).bind fun (r:(List Int))=>aY bl 100026 fun b=>fK b (kw (.own 100026 0) ((100026,some (.rows 0 3 1 (cM cI r))) :: fz)):=C5 (wT a1) fz
theorem uC {β:Type} (x22:List Int) (bl:List (Nat × Option aI)) (k:V->Option β) (kw:V->List (Nat × Option aI)->Option β):wK TT 30044 bl 49 [.sl (cM cI x22)] k kw = (gA x22).bind fun (r:(List Int))=>aY bl 130044 fun b=>fK b (kw (.own 130044 0) ((130044,some (.rows 0 3 1 (cM cI r))) :: [])):=rM (uY x22) (fun _=>(oC rfl (vO (oV _ (fun _=>rfl) _) rfl)))
theorem tT {β:Type} (a2:List Int) (bl:List (Nat × Option aI)) (k:V->Option β) (kw:V->List (Nat × Option aI)->Option β):wK TT 50051 bl 49 [.sl (cM cI a2)] k kw = (gA a2).bind fun (r:(List Int))=>aY bl 150051 fun b=>fK b (kw (.own 150051 0) ((150051,some (.rows 0 3 1 (cM cI r))) :: [])):=rM (uY a2) (fun _=>(oC rfl (vO (oV _ (fun _=>rfl) _) rfl)))
abbrev tJ (a0:Int) (a1:List aE) (a2:List Int) (p5 p6:Int) (p7:List Int):St:=⟨[(0,.own 100026 0),(1,.d (.fn 43 [.ptr [.sl (cM cI a2)] 0])),(5,dI p5),(6,dI p6)],[(3,some (.box [dI a0])),(4,some (.box [.d (.sl (cM aE.cells a1))])),(8001,some (.outer [.ptr 3 0,.ptr 4 0,.d (.ptr [.sl (cM cI a2)] 0)])),(100026,some (.rows 0 3 1 (cM cI p7)))]⟩
theorem J4 (a0:Int) (a1:List aE) (a2:List Int) (p5 p6:Int) (p7:List Int):bR TT pH (tJ a0 a1 a2 p5 p6 p7) (fun e s=>some (e,s)) = cH (fun (w:Int × Int × (List Int))=>tJ a0 a1 a2 w.1 w.2.1 w.2.2) (fun (r:Int × (List Int))=>(((.exit 0),⟨[(0,.own 100026 0),(5,dI r.1)],[(3,some (.box [dI a0])),(4,some (.box [.d (.sl (cM aE.cells a1))])),(8001,some (.outer [.ptr 3 0,.ptr 4 0,.d (.ptr [.sl (cM cI a2)] 0)])),(100026,some (.rows 0 3 1 (cM cI r.2)))]⟩):Ex × St)) (oY a0 a1 a2 p5 p6 p7):=by
 unfold pH oY
 have u:=aN (aN (aN @pW @qG) (aN @yG (aN @vG @yC))) (aN (aN @kE @lS) (aN @AU (aN @uC @tT)))
 exact pX
theorem J1 {β:Type} (a0:Int) (a1:List aE) (a2:List Int) (p5 p6:Int) (p7:List Int) (k:Ex->St->Option β):bR TT AA (tJ a0 a1 a2 p5 p6 p7) k = (wW a0 a1 a2 p5 p6 p7).bind (fun (r:Int × (List Int))=>k (.exit 0) ⟨[(0,.own 100026 0),(5,dI r.1)],[(3,some (.box [dI a0])),(4,some (.box [.d (.sl (cM aE.cells a1))])),(8001,some (.outer [.ptr 3 0,.ptr 4 0,.d (.ptr [.sl (cM cI a2)] 0)])),(100026,some (.rows 0 3 1 (cM cI r.2)))]⟩):=by
 have hh:=fun (w:Int × Int × (List Int))=>J4 a0 a1 a2 w.1 w.2.1 w.2.2
 have h:=fun ho=>aZ (T:=TT) (k:=k) (c:=pH) (step:=(fun (w:Int × Int × (List Int))=>oY a0 a1 a2 w.1 w.2.1 w.2.2)) _ _ ho hh (p5,p6,p7)
 refine Eq.trans (h (fun r s e=>by have q:=congrArg Prod.fst e; rcases r with x <;> cases q)) ?_
 unfold wW
 exact aL _ fun x=>by rcases x with x <;> rfl
abbrev uE (a0:Int) (a1:List aE) (a2 p14:List Int) (p17:List (List Int)) (p18:Int) (p19:List (List Int)) (p20 r16:Int) (x22:List Int) (p25:Int) (p26:List (List Int)):St:=⟨[(1,.ptr 20001 0),(4,.own 30049 0),(6,.d (.sl (cM cI x22))),(8,dI p25),(16,dI (p14.length:Int)),(17,dI p18),(19,.d (.sl (cM (cL cI) p17))),(20,dI (p17.length:Int)),(21,dI p20)],[(3,some (.box [dI a0])),(4,some (.box [.d (.sl (cM aE.cells a1))])),(11,some (.box [dI r16])),(12,some (.box [.own 50064 0])),(8003,some (.outer [.ptr 3 0,.ptr 4 0,.d (.ptr [.sl (cM cI a2)] 0),.ptr 11 0,.ptr 12 0])),(20001,some (.box [.own 100026 0])),(30014,none),(30049,some (.rows 0 23 1 (cM (cL cI) p26))),(50064,some (.rows 0 23 1 (cM (cL cI) p19))),(100026,some (.rows 0 3 1 (cM cI p14)))]⟩
theorem I7 (a0:Int) (a1:List aE) (a2 p14:List Int) (p17:List (List Int)) (p18:Int) (p19:List (List Int)) (p20 r16:Int) (x22:List Int) (p25:Int) (p26:List (List Int)):bR TT pQ (uE a0 a1 a2 p14 p17 p18 p19 p20 r16 x22 p25 p26) (fun e s=>some (e,s)) = cH (fun (w:Int × (List (List Int)))=>uE a0 a1 a2 p14 p17 p18 p19 p20 r16 x22 w.1 w.2) (fun (r:(List (List Int)))=>(((.exit 4),⟨[(1,.ptr 20001 0),(4,.own 30049 0),(16,dI (p14.length:Int)),(17,dI p18),(19,.d (.sl (cM (cL cI) p17))),(20,dI (p17.length:Int)),(21,dI p20)],[(3,some (.box [dI a0])),(4,some (.box [.d (.sl (cM aE.cells a1))])),(11,some (.box [dI r16])),(12,some (.box [.own 50064 0])),(8003,some (.outer [.ptr 3 0,.ptr 4 0,.d (.ptr [.sl (cM cI a2)] 0),.ptr 11 0,.ptr 12 0])),(20001,some (.box [.own 100026 0])),(30014,none),(30049,some (.rows 0 23 1 (cM (cL cI) r))),(50064,some (.rows 0 23 1 (cM (cL cI) p19))),(100026,some (.rows 0 3 1 (cM cI p14)))]⟩):Ex × St)) (pK a0 a1 a2 p14 p17 p18 p19 p20 r16 x22 p25 p26):=by
 unfold pQ pK
 have u:=aN @uC @tT
 exact pX
theorem JN {β:Type} (a0:Int) (a1:List aE) (a2 p14:List Int) (p17:List (List Int)) (p18:Int) (p19:List (List Int)) (p20 r16:Int) (x22:List Int) (p25:Int) (p26:List (List Int)) (k:Ex->St->Option β):bR TT zU (uE a0 a1 a2 p14 p17 p18 p19 p20 r16 x22 p25 p26) k = (wN a0 a1 a2 p14 p17 p18 p19 p20 r16 x22 p25 p26).bind (fun (r:(List (List Int)))=>k (.exit 4) ⟨[(1,.ptr 20001 0),(4,.own 30049 0),(16,dI (p14.length:Int)),(17,dI p18),(19,.d (.sl (cM (cL cI) p17))),(20,dI (p17.length:Int)),(21,dI p20)],[(3,some (.box [dI a0])),(4,some (.box [.d (.sl (cM aE.cells a1))])),(11,some (.box [dI r16])),(12,some (.box [.own 50064 0])),(8003,some (.outer [.ptr 3 0,.ptr 4 0,.d (.ptr [.sl (cM cI a2)] 0),.ptr 11 0,.ptr 12 0])),(20001,some (.box [.own 100026 0])),(30014,none),(30049,some (.rows 0 23 1 (cM (cL cI) r))),(50064,some (.rows 0 23 1 (cM (cL cI) p19))),(100026,some (.rows 0 3 1 (cM cI p14)))]⟩):=by
 have hh:=fun (w:Int × (List (List Int)))=>I7 a0 a1 a2 p14 p17 p18 p19 p20 r16 x22 w.1 w.2
 have h:=fun ho=>aZ (T:=TT) (k:=k) (c:=pQ) (step:=(fun (w:Int × (List (List Int)))=>pK a0 a1 a2 p14 p17 p18 p19 p20 r16 x22 w.1 w.2)) _ _ ho hh (p25,p26)
 refine Eq.trans (h (fun r s e=>by have q:=congrArg Prod.fst e; rcases r with x <;> cases q)) ?_
 unfold wN
 exact aL _ fun x=>by rcases x with x <;> rfl
theorem J0 {β:Type} (a0:Int) (a1:List aE) (a2 p14:List Int) (p17:List (List Int)) (p18:Int) (p19:List (List Int)) (p20:Int) (p21:List (List Int)) (r16:Int) (x22:List Int) (p24:Int) (k:Ex->St->Option β):bR TT tV ⟨[(1,.ptr 20001 0),(4,.own 30049 0),(6,.d (.sl (cM cI x22))),(7,dI p24),(16,dI (p14.length:Int)),(17,dI p18),(19,.d (.sl (cM (cL cI) p17))),(20,dI (p17.length:Int)),(21,dI p20)],[(3,some (.box [dI a0])),(4,some (.box [.d (.sl (cM aE.cells a1))])),(11,some (.box [dI r16])),(12,some (.box [.own 50064 0])),(8003,some (.outer [.ptr 3 0,.ptr 4 0,.d (.ptr [.sl (cM cI a2)] 0),.ptr 11 0,.ptr 12 0])),(20001,some (.box [.own 100026 0])),(30014,none),(30049,some (.rows 0 23 1 (cM (cL cI) p21))),(50064,some (.rows 0 23 1 (cM (cL cI) p19))),(100026,some (.rows 0 3 1 (cM cI p14)))]⟩ k = (rG a0 a1 a2 p14 p17 p18 p19 p20 p21 r16 x22 p24).bind (fun (r:(List (List Int)))=>k .normal ⟨[(1,.ptr 20001 0),(4,.own 30049 0),(16,dI (p14.length:Int)),(17,dI p18),(19,.d (.sl (cM (cL cI) p17))),(20,dI (p17.length:Int)),(21,dI p20)],[(3,some (.box [dI a0])),(4,some (.box [.d (.sl (cM aE.cells a1))])),(11,some (.box [dI r16])),(12,some (.box [.own 50064 0])),(8003,some (.outer [.ptr 3 0,.ptr 4 0,.d (.ptr [.sl (cM cI a2)] 0),.ptr 11 0,.ptr 12 0])),(20001,some (.box [.own 100026 0])),(30014,none),(30049,some (.rows 0 23 1 (cM (cL cI) r))),(50064,some (.rows 0 23 1 (cM (cL cI) p19))),(100026,some (.rows 0 3 1 (cM cI p14)))]⟩):=by
 unfold tV rG
 have u:=@JN
 exact pX
abbrev uA (a0:Int) (a1:List aE) (a2 p14:List Int) (p17:List (List Int)) (p18:Int) (p19:List (List Int)) (r16 p20:Int) (p21:List (List Int)):St:=⟨[(1,.ptr 20001 0),(4,.own 30049 0),(16,dI (p14.length:Int)),(17,dI p18),(19,.d (.sl (cM (cL cI) p17))),(20,dI (p17.length:Int)),(21,dI p20)],[(3,some (.box [dI a0])),(4,some (.box [.d (.sl (cM aE.cells a1))])),(11,some (.box [dI r16])),(12,some (.box [.own 50064 0])),(8003,some (.outer [.ptr 3 0,.ptr 4 0,.d (.ptr [.sl (cM cI a2)] 0),.ptr 11 0,.ptr 12 0])),(20001,some (.box [.own 100026 0])),(30014,none),(30049,some (.rows 0 23 1 (cM (cL cI) p21))),(50064,some (.rows 0 23 1 (cM (cL cI) p19))),(100026,some (.rows 0 3 1 (cM cI p14)))]⟩
theorem I1 (a0:Int) (a1:List aE) (a2 p14:List Int) (p17:List (List Int)) (p18:Int) (p19:List (List Int)) (r16 p20:Int) (p21:List (List Int)):bR TT oQ (uA a0 a1 a2 p14 p17 p18 p19 r16 p20 p21) (fun e s=>some (e,s)) = cH (fun (w:Int × (List (List Int)))=>uA a0 a1 a2 p14 p17 p18 p19 r16 w.1 w.2) (fun (r:(List (List Int)))=>(((.exit 2),⟨[(1,.ptr 20001 0),(4,.own 30049 0),(16,dI (p14.length:Int)),(17,dI p18)],[(3,some (.box [dI a0])),(4,some (.box [.d (.sl (cM aE.cells a1))])),(11,some (.box [dI r16])),(12,some (.box [.own 50064 0])),(8003,some (.outer [.ptr 3 0,.ptr 4 0,.d (.ptr [.sl (cM cI a2)] 0),.ptr 11 0,.ptr 12 0])),(20001,some (.box [.own 100026 0])),(30049,some (.rows 0 23 1 (cM (cL cI) r))),(50064,some (.rows 0 23 1 (cM (cL cI) p19))),(100026,some (.rows 0 3 1 (cM cI p14)))]⟩):Ex × St)) (oT a0 a1 a2 p14 p17 p18 p19 r16 p20 p21):=by
 unfold oQ oT
 have u:=@J0
 exact pX
theorem I9 {β:Type} (a0:Int) (a1:List aE) (a2 p14:List Int) (p17:List (List Int)) (p18:Int) (p19:List (List Int)) (r16 p20:Int) (p21:List (List Int)) (k:Ex->St->Option β):bR TT AV (uA a0 a1 a2 p14 p17 p18 p19 r16 p20 p21) k = (wX a0 a1 a2 p14 p17 p18 p19 r16 p20 p21).bind (fun (r:(List (List Int)))=>k (.exit 2) ⟨[(1,.ptr 20001 0),(4,.own 30049 0),(16,dI (p14.length:Int)),(17,dI p18)],[(3,some (.box [dI a0])),(4,some (.box [.d (.sl (cM aE.cells a1))])),(11,some (.box [dI r16])),(12,some (.box [.own 50064 0])),(8003,some (.outer [.ptr 3 0,.ptr 4 0,.d (.ptr [.sl (cM cI a2)] 0),.ptr 11 0,.ptr 12 0])),(20001,some (.box [.own 100026 0])),(30049,some (.rows 0 23 1 (cM (cL cI) r))),(50064,some (.rows 0 23 1 (cM (cL cI) p19))),(100026,some (.rows 0 3 1 (cM cI p14)))]⟩):=by
 have hh:=fun (w:Int × (List (List Int)))=>I1 a0 a1 a2 p14 p17 p18 p19 r16 w.1 w.2
 have h:=fun ho=>aZ (T:=TT) (k:=k) (c:=oQ) (step:=(fun (w:Int × (List (List Int)))=>oT a0 a1 a2 p14 p17 p18 p19 r16 w.1 w.2)) _ _ ho hh (p20,p21)
 refine Eq.trans (h (fun r s e=>by have q:=congrArg Prod.fst e; rcases r with x <;> cases q)) ?_
 unfold wX
 exact aL _ fun x=>by rcases x with x <;> rfl
abbrev tP (a0:Int) (a1:List aE) (a2 p14:List Int) (p18 p35:Int) (p36:List (List Int)) (r16:Int) (r34:(List (List Int))) (x37:List Int) (p38:Int) (p39:List Int):St:=⟨[(1,.ptr 20001 0),(4,.own 30049 0),(11,.own 30069 0),(16,dI (p14.length:Int)),(17,dI p18),(51,.own 30049 0),(52,dI (r34.length:Int)),(53,dI p35),(57,.d (.sl (cM cI x37))),(58,dI (x37.length:Int)),(59,dI p38)],[(3,some (.box [dI a0])),(4,some (.box [.d (.sl (cM aE.cells a1))])),(11,some (.box [dI r16])),(12,some (.box [.own 50064 0])),(8003,some (.outer [.ptr 3 0,.ptr 4 0,.d (.ptr [.sl (cM cI a2)] 0),.ptr 11 0,.ptr 12 0])),(20001,some (.box [.own 100026 0])),(30049,some (.rows 0 23 1 (cM (cL cI) r34))),(30069,some (.rows 0 3 1 (cM cI p39))),(50064,some (.rows 0 23 1 (cM (cL cI) p36))),(100026,some (.rows 0 3 1 (cM cI p14)))]⟩
theorem J3 (a0:Int) (a1:List aE) (a2 p14:List Int) (p18 p35:Int) (p36:List (List Int)) (r16:Int) (r34:(List (List Int))) (x37:List Int) (p38:Int) (p39:List Int):bR TT oM (tP a0 a1 a2 p14 p18 p35 p36 r16 r34 x37 p38 p39) (fun e s=>some (e,s)) = cH (fun (w:Int × (List Int))=>tP a0 a1 a2 p14 p18 p35 p36 r16 r34 x37 w.1 w.2) (fun (r:(List Int))=>(((.exit 8),⟨[(1,.ptr 20001 0),(4,.own 30049 0),(11,.own 30069 0),(16,dI (p14.length:Int)),(17,dI p18),(51,.own 30049 0),(52,dI (r34.length:Int)),(53,dI p35)],[(3,some (.box [dI a0])),(4,some (.box [.d (.sl (cM aE.cells a1))])),(11,some (.box [dI r16])),(12,some (.box [.own 50064 0])),(8003,some (.outer [.ptr 3 0,.ptr 4 0,.d (.ptr [.sl (cM cI a2)] 0),.ptr 11 0,.ptr 12 0])),(20001,some (.box [.own 100026 0])),(30049,some (.rows 0 23 1 (cM (cL cI) r34))),(30069,some (.rows 0 3 1 (cM cI r))),(50064,some (.rows 0 23 1 (cM (cL cI) p36))),(100026,some (.rows 0 3 1 (cM cI p14)))]⟩):Ex × St)) (oG a0 a1 a2 p14 p18 p35 p36 r16 r34 x37 p38 p39):=by
 unfold oM oG
 exact IU
theorem JR {β:Type} (a0:Int) (a1:List aE) (a2 p14:List Int) (p18 p35:Int) (p36:List (List Int)) (r16:Int) (r34:(List (List Int))) (x37:List Int) (p38:Int) (p39:List Int) (k:Ex->St->Option β):bR TT AO (tP a0 a1 a2 p14 p18 p35 p36 r16 r34 x37 p38 p39) k = (wH a0 a1 a2 p14 p18 p35 p36 r16 r34 x37 p38 p39).bind (fun (r:(List Int))=>k (.exit 8) ⟨[(1,.ptr 20001 0),(4,.own 30049 0),(11,.own 30069 0),(16,dI (p14.length:Int)),(17,dI p18),(51,.own 30049 0),(52,dI (r34.length:Int)),(53,dI p35)],[(3,some (.box [dI a0])),(4,some (.box [.d (.sl (cM aE.cells a1))])),(11,some (.box [dI r16])),(12,some (.box [.own 50064 0])),(8003,some (.outer [.ptr 3 0,.ptr 4 0,.d (.ptr [.sl (cM cI a2)] 0),.ptr 11 0,.ptr 12 0])),(20001,some (.box [.own 100026 0])),(30049,some (.rows 0 23 1 (cM (cL cI) r34))),(30069,some (.rows 0 3 1 (cM cI r))),(50064,some (.rows 0 23 1 (cM (cL cI) p36))),(100026,some (.rows 0 3 1 (cM cI p14)))]⟩):=by
 have hh:=fun (w:Int × (List Int))=>J3 a0 a1 a2 p14 p18 p35 p36 r16 r34 x37 w.1 w.2
 have h:=fun ho=>aZ (T:=TT) (k:=k) (c:=oM) (step:=(fun (w:Int × (List Int))=>oG a0 a1 a2 p14 p18 p35 p36 r16 r34 x37 w.1 w.2)) _ _ ho hh (p38,p39)
 refine Eq.trans (h (fun r s e=>by have q:=congrArg Prod.fst e; rcases r with x <;> cases q)) ?_
 unfold wH
 exact aL _ fun x=>by rcases x with x <;> rfl
abbrev tL (a0:Int) (a1:List aE) (a2 p14:List Int) (p18 r16:Int) (r34:(List (List Int))) (p35:Int) (p36:List (List Int)):St:=⟨[(1,.ptr 20001 0),(4,.own 30049 0),(16,dI (p14.length:Int)),(17,dI p18),(51,.own 30049 0),(52,dI (r34.length:Int)),(53,dI p35)],[(3,some (.box [dI a0])),(4,some (.box [.d (.sl (cM aE.cells a1))])),(11,some (.box [dI r16])),(12,some (.box [.own 50064 0])),(8003,some (.outer [.ptr 3 0,.ptr 4 0,.d (.ptr [.sl (cM cI a2)] 0),.ptr 11 0,.ptr 12 0])),(20001,some (.box [.own 100026 0])),(30049,some (.rows 0 23 1 (cM (cL cI) r34))),(50064,some (.rows 0 23 1 (cM (cL cI) p36))),(100026,some (.rows 0 3 1 (cM cI p14)))]⟩
theorem JJ (a0:Int) (a1:List aE) (a2 p14:List Int) (p18 r16:Int) (r34:(List (List Int))) (p35:Int) (p36:List (List Int)):bR TT oO (tL a0 a1 a2 p14 p18 r16 r34 p35 p36) (fun e s=>some (e,s)) = cH (fun (w:Int × (List (List Int)))=>tL a0 a1 a2 p14 p18 r16 r34 w.1 w.2) (fun (r:(List (List Int)))=>(((.exit 6),⟨[(1,.ptr 20001 0),(4,.own 30049 0),(16,dI (p14.length:Int)),(17,dI p18)],[(3,some (.box [dI a0])),(4,some (.box [.d (.sl (cM aE.cells a1))])),(11,some (.box [dI r16])),(12,some (.box [.own 50064 0])),(8003,some (.outer [.ptr 3 0,.ptr 4 0,.d (.ptr [.sl (cM cI a2)] 0),.ptr 11 0,.ptr 12 0])),(20001,some (.box [.own 100026 0])),(30049,some (.rows 0 23 1 (cM (cL cI) r34))),(50064,some (.rows 0 23 1 (cM (cL cI) r))),(100026,some (.rows 0 3 1 (cM cI p14)))]⟩):Ex × St)) (oD a0 a1 a2 p14 p18 r16 r34 p35 p36):=by
 unfold oO oD
 have u:=aN (aN @JR (aN @qG @vG)) (aN @kE (aN @uC @tT))
 exact pX
theorem JY {β:Type} (a0:Int) (a1:List aE) (a2 p14:List Int) (p18 r16:Int) (r34:(List (List Int))) (p35:Int) (p36:List (List Int)) (k:Ex->St->Option β):bR TT zO (tL a0 a1 a2 p14 p18 r16 r34 p35 p36) k = (wO a0 a1 a2 p14 p18 r16 r34 p35 p36).bind (fun (r:(List (List Int)))=>k (.exit 6) ⟨[(1,.ptr 20001 0),(4,.own 30049 0),(16,dI (p14.length:Int)),(17,dI p18)],[(3,some (.box [dI a0])),(4,some (.box [.d (.sl (cM aE.cells a1))])),(11,some (.box [dI r16])),(12,some (.box [.own 50064 0])),(8003,some (.outer [.ptr 3 0,.ptr 4 0,.d (.ptr [.sl (cM cI a2)] 0),.ptr 11 0,.ptr 12 0])),(20001,some (.box [.own 100026 0])),(30049,some (.rows 0 23 1 (cM (cL cI) r34))),(50064,some (.rows 0 23 1 (cM (cL cI) r))),(100026,some (.rows 0 3 1 (cM cI p14)))]⟩):=by
 have hh:=fun (w:Int × (List (List Int)))=>JJ a0 a1 a2 p14 p18 r16 r34 w.1 w.2
 have h:=fun ho=>aZ (T:=TT) (k:=k) (c:=oO) (step:=(fun (w:Int × (List (List Int)))=>oD a0 a1 a2 p14 p18 r16 r34 w.1 w.2)) _ _ ho hh (p35,p36)
 refine Eq.trans (h (fun r s e=>by have q:=congrArg Prod.fst e; rcases r with x <;> cases q)) ?_
 unfold wO
 exact aL _ fun x=>by rcases x with x <;> rfl
abbrev uD (a0:Int) (a1:List aE) (a2 p14:List Int) (r16:Int) (p17:List (List Int)) (p18:Int) (p19:List (List Int)):St:=⟨[(1,.ptr 20001 0),(3,.d (.sl (cM (cL cI) p17))),(16,dI (p14.length:Int)),(17,dI p18)],[(3,some (.box [dI a0])),(4,some (.box [.d (.sl (cM aE.cells a1))])),(11,some (.box [dI r16])),(12,some (.box [.own 50064 0])),(8003,some (.outer [.ptr 3 0,.ptr 4 0,.d (.ptr [.sl (cM cI a2)] 0),.ptr 11 0,.ptr 12 0])),(20001,some (.box [.own 100026 0])),(30014,none),(30049,none),(50064,some (.rows 0 23 1 (cM (cL cI) p19))),(100026,some (.rows 0 3 1 (cM cI p14)))]⟩
theorem JG (a0:Int) (a1:List aE) (a2 p14:List Int) (r16:Int) (p17:List (List Int)) (p18:Int) (p19:List (List Int)):bR TT oJ (uD a0 a1 a2 p14 r16 p17 p18 p19) (fun e s=>some (e,s)) = cH (fun (w:(List (List Int)) × Int × (List (List Int)))=>uD a0 a1 a2 p14 r16 w.1 w.2.1 w.2.2) (fun (r:(List (List Int)))=>(((.exit 0),⟨[],[(3,some (.box [dI a0])),(4,some (.box [.d (.sl (cM aE.cells a1))])),(11,some (.box [dI r16])),(12,some (.box [.own 50064 0])),(8003,some (.outer [.ptr 3 0,.ptr 4 0,.d (.ptr [.sl (cM cI a2)] 0),.ptr 11 0,.ptr 12 0])),(50064,some (.rows 0 23 1 (cM (cL cI) r)))]⟩):Ex × St)) (oE a0 a1 a2 p14 r16 p17 p18 p19):=by
 unfold oJ oE
 have u:=aN @I9 @JY
 exact pX
theorem JA {β:Type} (a0:Int) (a1:List aE) (a2 p14:List Int) (r16:Int) (p17:List (List Int)) (p18:Int) (p19:List (List Int)) (k:Ex->St->Option β):bR TT uI (uD a0 a1 a2 p14 r16 p17 p18 p19) k = (wU a0 a1 a2 p14 r16 p17 p18 p19).bind (fun (r:(List (List Int)))=>k (.exit 0) ⟨[],[(3,some (.box [dI a0])),(4,some (.box [.d (.sl (cM aE.cells a1))])),(11,some (.box [dI r16])),(12,some (.box [.own 50064 0])),(8003,some (.outer [.ptr 3 0,.ptr 4 0,.d (.ptr [.sl (cM cI a2)] 0),.ptr 11 0,.ptr 12 0])),(50064,some (.rows 0 23 1 (cM (cL cI) r)))]⟩):=by
 have hh:=fun (w:(List (List Int)) × Int × (List (List Int)))=>JG a0 a1 a2 p14 r16 w.1 w.2.1 w.2.2
 have h:=fun ho=>aZ (T:=TT) (k:=k) (c:=oJ) (step:=(fun (w:(List (List Int)) × Int × (List (List Int)))=>oE a0 a1 a2 p14 r16 w.1 w.2.1 w.2.2)) _ _ ho hh (p17,p18,p19)
 refine Eq.trans (h (fun r s e=>by have q:=congrArg Prod.fst e; rcases r with x <;> cases q)) ?_
 unfold wU
 exact aL _ fun x=>by rcases x with x <;> rfl
theorem JO {β:Type} (a0:Int) (a1:List aE) (a2 p14:List Int) (k:Ex->St->Option β):bR TT uB ⟨[(3,.ptr 3 0),(4,.ptr 4 0),(5,.d (.ptr [.sl (cM cI a2)] 0)),(8,.own 100026 0)],[(3,some (.box [dI a0])),(4,some (.box [.d (.sl (cM aE.cells a1))])),(100026,some (.rows 0 3 1 (cM cI p14)))]⟩ k = (rJ a0 a1 a2 p14).bind (fun (r:Int × (List (List Int)))=>k .ret ⟨[(6,.own 50064 0),(7,dI r.1)],[(50064,some (.rows 0 23 1 (cM (cL cI) r.2)))]⟩):=by
 unfold uB rJ
 have u:=aN @JA (aN @qG @vG)
 exact pX
theorem E6 (a0:Int) (a1:List aE) (a2:List Int):Vm.call TT 12 [.int .i64 a0,.sl (cM aE.cells a1),.sl (cM cI a2)] = (m7 a0 a1 a2).map fun (r:(List (List Int)) × Int)=>.tup [.sl (cM (cL cI) r.1),.int .i64 r.2]:=by
 refine (bH (show TT 12 = some (.code ⟨3,66,[.tmp 6,.tmp 7],aLK,false,false⟩) from rfl) _ rfl rfl).trans ?_
 show bR TT aLK ⟨[(0,dI a0),(1,.d (.sl (cM aE.cells a1))),(2,.d (.sl (cM cI a2)))],[]⟩ _ = _
 unfold aLK m7
 have u:=aN (aN @J1 (aN @JO @pW)) (aN @yG (aN @lS @AU))
 exact pX
theorem N8 (a0:Int) (a1:List aE) (a2:List Int):KD TT 12 [.int .i64 a0,.sl (cM aE.cells a1),.sl (cM cI a2)] (m7 a0 a1 a2) (fun (r:(List (List Int)) × Int)=>.tup [.d (.sl (cM (cL cI) r.1)),dI r.2]):=kD (E6 a0 a1 a2) (fun _=>rfl) (fun _=>rfl) (fun _=>rfl)
abbrev qC (a0:List aE) (a1:List Int) (a2 a3 p1:Int) (p2:List Int) (p3:List a8):St:=⟨[(1,.d (.sl (cM cI a1))),(2,dI a2),(3,dI a3),(8,.own 33 0),(9,.own 51 0),(17,.d (.sl (cM aE.cells a0))),(18,dI (a0.length:Int)),(19,dI p1)],[(33,some (.rows 0 3 1 (cM cI p2))),(51,some (.rows 0 60 9 (cM a8.cells p3)))]⟩
theorem FL (a0:List aE) (a1:List Int) (a2 a3 p1:Int) (p2:List Int) (p3:List a8):bR TT lL (qC a0 a1 a2 a3 p1 p2 p3) (fun e s=>some (e,s)) = cH (fun (w:Int × (List Int) × (List a8))=>qC a0 a1 a2 a3 w.1 w.2.1 w.2.2) (fun (r:(List Int) × (List a8))=>(((.exit 0),⟨[(8,.own 33 0),(9,.own 51 0)],[(33,some (.rows 0 3 1 (cM cI r.1))),(51,some (.rows 0 60 9 (cM a8.cells r.2)))]⟩):Ex × St)) (lJ a0 a1 a2 a3 p1 p2 p3):=by
 unfold lL lJ
 exact IU
theorem FF {β:Type} (a0:List aE) (a1:List Int) (a2 a3 p1:Int) (p2:List Int) (p3:List a8) (k:Ex->St->Option β):bR TT wD (qC a0 a1 a2 a3 p1 p2 p3) k = (sO a0 a1 a2 a3 p1 p2 p3).bind (fun (r:(List Int) × (List a8))=>k (.exit 0) ⟨[(8,.own 33 0),(9,.own 51 0)],[(33,some (.rows 0 3 1 (cM cI r.1))),(51,some (.rows 0 60 9 (cM a8.cells r.2)))]⟩):=by
 have hh:=fun (w:Int × (List Int) × (List a8))=>FL a0 a1 a2 a3 w.1 w.2.1 w.2.2
 have h:=fun ho=>aZ (T:=TT) (k:=k) (c:=lL) (step:=(fun (w:Int × (List Int) × (List a8))=>lJ a0 a1 a2 a3 w.1 w.2.1 w.2.2)) _ _ ho hh (p1,p2,p3)
 refine Eq.trans (h (fun r s e=>by have q:=congrArg Prod.fst e; rcases r with x <;> cases q)) ?_
 unfold sO
 exact aL _ fun x=>by rcases x with x <;> rfl
theorem KC (a0:List aE) (a1:List Int) (a2 a3:Int):Vm.call TT 14 [.sl (cM aE.cells a0),.sl (cM cI a1),.int .i64 a2,.int .i64 a3] = (rN a0 a1 a2 a3).map fun (r:(List Int) × (List a8))=>.tup [.sl (cM cI r.1),.sl (cM a8.cells r.2)]:=by
 refine (bH (show TT 14 = some (.code ⟨4,55,[.tmp 8,.tmp 9],aMU,false,false⟩) from rfl) _ rfl rfl).trans ?_
 show bR TT aMU ⟨[(0,.d (.sl (cM aE.cells a0))),(1,.d (.sl (cM cI a1))),(2,dI a2),(3,dI a3)],[]⟩ _ = _
 unfold aMU rN
 have u:=@FF
 exact pX
theorem JD (a0:List aE) (a1:List Int) (a2 a3:Int):KD TT 14 [.sl (cM aE.cells a0),.sl (cM cI a1),.int .i64 a2,.int .i64 a3] (rN a0 a1 a2 a3) (fun (r:(List Int) × (List a8))=>.tup [.d (.sl (cM cI r.1)),.d (.sl (cM a8.cells r.2))]):=kD (KC a0 a1 a2 a3) (fun _=>rfl) (fun _=>rfl) (fun _=>rfl)
abbrev n6 (a0 a1:List Int) (p1:Int):St:=⟨[(0,.d (.sl (cM cI a0))),(1,.d (.sl (cM cI a1))),(5,dI p1)],[]⟩
theorem CC (a0 a1:List Int) (p1:Int):bR TT j0 (n6 a0 a1 p1) (fun e s=>some (e,s)) = cH (fun (w:Int)=>n6 a0 a1 w) (fun (r:Unit ⊕ Unit)=>Sum.elim (fun (z:Unit)=>(((.exit 0),⟨[],[]⟩):Ex × St)) (fun (z:Unit)=>((.ret,⟨[(4,dB false)],[]⟩):Ex × St)) r) (jQ a0 a1 p1):=by
 unfold j0 jQ
 exact IU
theorem C2 {β:Type} (a0 a1:List Int) (p1:Int) (k:Ex->St->Option β):bR TT uM (n6 a0 a1 p1) k = (qE a0 a1 p1).bind (fun (r:Unit ⊕ Unit)=>Sum.elim (fun (z:Unit)=>k (.exit 0) ⟨[],[]⟩) (fun (z:Unit)=>k .ret ⟨[(4,dB false)],[]⟩) r):=by
 have hh:=fun (w:Int)=>CC a0 a1 w
 have h:=fun ho=>aZ (T:=TT) (k:=k) (c:=j0) (step:=(fun (w:Int)=>jQ a0 a1 w)) _ _ ho hh p1
 refine Eq.trans (h (fun r s e=>by have q:=congrArg Prod.fst e; rcases r with x | x <;> cases q)) ?_
 unfold qE
 exact aL _ fun x=>by rcases x with x | x <;> rfl
theorem GT (a0 a1:List Int):Vm.call TT 16 [.sl (cM cI a0),.sl (cM cI a1)] = (gQ a0 a1).map fun (r:Bool)=>.bool r:=by
 refine (bH (show TT 16 = some (.code ⟨2,26,[.tmp 4],aN0,false,false⟩) from rfl) _ rfl rfl).trans ?_
 show bR TT aN0 ⟨[(0,.d (.sl (cM cI a0))),(1,.d (.sl (cM cI a1)))],[]⟩ _ = _
 unfold aN0 gQ
 have u:=@C2
 exact pX
theorem xT (a0 a1:List Int):KF TT 16 [.sl (cM cI a0),.sl (cM cI a1)] (gQ a0 a1) (fun (r:Bool)=>dB r):=kF (GT a0 a1) (fun _=>rfl) (fun _=>rfl)
abbrev lX (a0 a1:List Int) (p1:Int):St:=⟨[(0,.d (.sl (cM cI a0))),(1,.d (.sl (cM cI a1))),(5,dI p1)],[]⟩
theorem AY (a0 a1:List Int) (p1:Int):bR TT i8 (lX a0 a1 p1) (fun e s=>some (e,s)) = cH (fun (w:Int)=>lX a0 a1 w) (fun (r:Unit ⊕ Bool)=>Sum.elim (fun (z:Unit)=>(((.exit 0),⟨[],[]⟩):Ex × St)) (fun (z:Bool)=>((.ret,⟨[(4,dB z)],[]⟩):Ex × St)) r) (i7 a0 a1 p1):=by
 unfold i8 i7
 exact IU
theorem A2 {β:Type} (a0 a1:List Int) (p1:Int) (k:Ex->St->Option β):bR TT rQ (lX a0 a1 p1) k = (nW a0 a1 p1).bind (fun (r:Unit ⊕ Bool)=>Sum.elim (fun (z:Unit)=>k (.exit 0) ⟨[],[]⟩) (fun (z:Bool)=>k .ret ⟨[(4,dB z)],[]⟩) r):=by
 have hh:=fun (w:Int)=>AY a0 a1 w
 have h:=fun ho=>aZ (T:=TT) (k:=k) (c:=i8) (step:=(fun (w:Int)=>i7 a0 a1 w)) _ _ ho hh p1
 refine Eq.trans (h (fun r s e=>by have q:=congrArg Prod.fst e; rcases r with x | x <;> cases q)) ?_
 unfold nW
 exact aL _ fun x=>by rcases x with x | x <;> rfl
theorem EO (a0 a1:List Int):Vm.call TT 52 [.sl (cM cI a0),.sl (cM cI a1)] = (jN a0 a1).map fun (r:Bool)=>.bool r:=by
 refine (bH (show TT 52 = some (.code ⟨2,40,[.tmp 4],aLE,false,false⟩) from rfl) _ rfl rfl).trans ?_
 show bR TT aLE ⟨[(0,.d (.sl (cM cI a0))),(1,.d (.sl (cM cI a1)))],[]⟩ _ = _
 unfold aLE jN
 have u:=@A2
 exact pX
theorem EX (a0 a1:List Int):KF TT 52 [.sl (cM cI a0),.sl (cM cI a1)] (jN a0 a1) (fun (r:Bool)=>dB r):=kF (EO a0 a1) (fun _=>rfl) (fun _=>rfl)
abbrev j7 (a0 a1:List (List Int)) (p1:Int):St:=⟨[(0,.d (.sl (cM (cL cI) a0))),(1,.d (.sl (cM (cL cI) a1))),(5,dI p1)],[]⟩
theorem yJ (a0 a1:List (List Int)) (p1:Int):bR TT gG (j7 a0 a1 p1) (fun e s=>some (e,s)) = cH (fun (w:Int)=>j7 a0 a1 w) (fun (r:Unit ⊕ Unit)=>Sum.elim (fun (z:Unit)=>(((.exit 0),⟨[],[]⟩):Ex × St)) (fun (z:Unit)=>((.ret,⟨[(4,dB false)],[]⟩):Ex × St)) r) (gF a0 a1 p1):=by
 unfold gG gF
 have u:=@EX
 exact pX
theorem yL {β:Type} (a0 a1:List (List Int)) (p1:Int) (k:Ex->St->Option β):bR TT pU (j7 a0 a1 p1) k = (lG a0 a1 p1).bind (fun (r:Unit ⊕ Unit)=>Sum.elim (fun (z:Unit)=>k (.exit 0) ⟨[],[]⟩) (fun (z:Unit)=>k .ret ⟨[(4,dB false)],[]⟩) r):=by
 have hh:=fun (w:Int)=>yJ a0 a1 w
 have h:=fun ho=>aZ (T:=TT) (k:=k) (c:=gG) (step:=(fun (w:Int)=>gF a0 a1 w)) _ _ ho hh p1
 refine Eq.trans (h (fun r s e=>by have q:=congrArg Prod.fst e; rcases r with x | x <;> cases q)) ?_
 unfold lG
 exact aL _ fun x=>by rcases x with x | x <;> rfl
theorem A4 (a0 a1:List (List Int)):Vm.call TT 17 [.sl (cM (cL cI) a0),.sl (cM (cL cI) a1)] = (gX a0 a1).map fun (r:Bool)=>.bool r:=by
 refine (bH (show TT 17 = some (.code ⟨2,37,[.tmp 4],aLg,false,false⟩) from rfl) _ rfl rfl).trans ?_
 show bR TT aLg ⟨[(0,.d (.sl (cM (cL cI) a0))),(1,.d (.sl (cM (cL cI) a1)))],[]⟩ _ = _
 unfold aLg gX
 have u:=@yL
 exact pX
theorem A9 (a0 a1:List (List Int)):KF TT 17 [.sl (cM (cL cI) a0),.sl (cM (cL cI) a1)] (gX a0 a1) (fun (r:Bool)=>dB r):=kF (A4 a0 a1) (fun _=>rfl) (fun _=>rfl)
abbrev t8 (a0:List aE) (a1 a2:List Int) (p1:Int):St:=⟨[(1,.d (.sl (cM cI a1))),(2,.d (.sl (cM cI a2))),(14,.d (.sl (cM aE.cells a0))),(15,dI (a0.length:Int)),(16,dI p1)],[]⟩
theorem JW (a0:List aE) (a1 a2:List Int) (p1:Int):bR TT oH (t8 a0 a1 a2 p1) (fun e s=>some (e,s)) = cH (fun (w:Int)=>t8 a0 a1 a2 w) (fun (r:Unit ⊕ Unit)=>Sum.elim (fun (z:Unit)=>(((.exit 0),⟨[],[]⟩):Ex × St)) (fun (z:Unit)=>((.ret,⟨[(6,dB false)],[]⟩):Ex × St)) r) (oP a0 a1 a2 p1):=by
 unfold oH oP
 have u:=@F8
 exact pX
theorem KA {β:Type} (a0:List aE) (a1 a2:List Int) (p1:Int) (k:Ex->St->Option β):bR TT AF (t8 a0 a1 a2 p1) k = (wY a0 a1 a2 p1).bind (fun (r:Unit ⊕ Unit)=>Sum.elim (fun (z:Unit)=>k (.exit 0) ⟨[],[]⟩) (fun (z:Unit)=>k .ret ⟨[(6,dB false)],[]⟩) r):=by
 have hh:=fun (w:Int)=>JW a0 a1 a2 w
 have h:=fun ho=>aZ (T:=TT) (k:=k) (c:=oH) (step:=(fun (w:Int)=>oP a0 a1 a2 w)) _ _ ho hh p1
 refine Eq.trans (h (fun r s e=>by have q:=congrArg Prod.fst e; rcases r with x | x <;> cases q)) ?_
 unfold wY
 exact aL _ fun x=>by rcases x with x | x <;> rfl
theorem OD (a0:List aE) (a1 a2:List Int):Vm.call TT 23 [.sl (cM aE.cells a0),.sl (cM cI a1),.sl (cM cI a2)] = (s8 a0 a1 a2).map fun (r:Bool)=>.bool r:=by
 refine (bH (show TT 23 = some (.code ⟨3,33,[.tmp 6],aOt,false,false⟩) from rfl) _ rfl rfl).trans ?_
 show bR TT aOt ⟨[(0,.d (.sl (cM aE.cells a0))),(1,.d (.sl (cM cI a1))),(2,.d (.sl (cM cI a2)))],[]⟩ _ = _
 unfold aOt s8
 have u:=@KA
 exact pX
theorem N7 (a0:List aE) (a1 a2:List Int):KF TT 23 [.sl (cM aE.cells a0),.sl (cM cI a1),.sl (cM cI a2)] (s8 a0 a1 a2) (fun (r:Bool)=>dB r):=kF (OD a0 a1 a2) (fun _=>rfl) (fun _=>rfl)
theorem BO (r1:(List aE)):KD TT 10 [.int .i64 3,.sl (cM aE.cells r1),.sl []] (dK 3 r1 []) (fun (r:(List Int) × (List Int) × Int)=>.tup [.d (.sl (cM cI r.1)),.d (.sl (cM cI r.2.1)),dI r.2.2]):=kD (yH 3 r1 []) (fun _=>rfl) (fun _=>rfl) (fun _=>rfl)
theorem BZ (r1:(List aE)):KD TT 12 [.int .i64 3,.sl (cM aE.cells r1),.sl []] (m7 3 r1 []) (fun (r:(List (List Int)) × Int)=>.tup [.d (.sl (cM (cL cI) r.1)),dI r.2]):=kD (E6 3 r1 []) (fun _=>rfl) (fun _=>rfl) (fun _=>rfl)
theorem BQ {β:Type} (r1:(List aE)) (bl fz:List (Nat × Option aI)) (k:V->Option β) (kw:V->List (Nat × Option aI)->Option β):wC TT 139 bl 21 [.sl (cM aE.cells r1)] fz k kw = (gD r1).bind fun (r:(List Int))=>aY bl 100139 fun b=>fK b (kw (.own 100139 0) ((100139,some (.rows 0 3 1 (cM cI r))) :: fz)):=C5 (wT r1) fz
theorem B6 {β:Type} (p12:Bool) (r1:(List aE)) (r3:(List Int) × (List Int) × Int) (r8:(List Int) × (List a8)) (p15:Bool) (k:Ex->St->Option β):bR TT nC ⟨[(1,.d (.sl (cM aE.cells r1))),(5,.d (.sl (cM cI r3.1))),(18,.d (.sl (cM a8.cells r8.2))),(19,dB p12),(20,dB p15)],[]⟩ k = (iJ p12 r1 r3 r8 p15).bind (fun (r:Bool)=>k .ret ⟨[(0,dB r)],[]⟩):=by
 unfold nC iJ
 have u:=aN (aN @xT @pW) (aN @N7 @BQ)
 exact pX
theorem BT {β:Type} (r1:(List aE)) (r3:(List Int) × (List Int) × Int) (r5 r6 r7:(List (List Int)) × Int) (r8:(List Int) × (List a8)) (p12:Bool) (k:Ex->St->Option β):bR TT nA ⟨[(1,.d (.sl (cM aE.cells r1))),(5,.d (.sl (cM cI r3.1))),(11,.d (.sl (cM (cL cI) r5.1))),(13,.d (.sl (cM (cL cI) r6.1))),(15,.d (.sl (cM (cL cI) r7.1))),(18,.d (.sl (cM a8.cells r8.2))),(19,dB p12)],[]⟩ k = (iP r1 r3 r5 r6 r7 r8 p12).bind (fun (r:Bool)=>k .ret ⟨[(0,dB r)],[]⟩):=by
 unfold nA iP
 have u:=aN @B6 @A9
 exact pX
theorem vZ:Vm.call TT 8 [] = (fV).map fun (r:Bool)=>.bool r:=by
 refine (bH (show TT 8 = some (.code ⟨0,166,[.tmp 0],bd8,false,false⟩) from rfl) _ rfl rfl).trans ?_
 show bR TT bd8 ⟨[],[]⟩ _ = _
 unfold bd8 fV
 have u:=aN (aN (aN @BT @FB) (aN @N8 @JD)) (aN (aN @xT @CM) (aN @BO @BZ))
 exact pX
theorem FI:KF TT 8 [] (fV) (fun (r:Bool)=>dB r):=kF (vZ ) (fun _=>rfl) (fun _=>rfl)
abbrev nQ (a0:List aE) (p1:Int) (p2:List aF):St:=⟨[(0,.d (.sl (cM aE.cells a0))),(3,.own 5 0),(4,dI p1)],[(5,some (.rows 0 54 3 (cM aF.cells p2)))]⟩
theorem CY (a0:List aE) (p1:Int) (p2:List aF):bR TT jV (nQ a0 p1 p2) (fun e s=>some (e,s)) = cH (fun (w:Int × (List aF))=>nQ a0 w.1 w.2) (fun (r:(List aF))=>(((.exit 0),⟨[(3,.own 5 0)],[(5,some (.rows 0 54 3 (cM aF.cells r)))]⟩):Ex × St)) (bS a0 p1 p2):=by
 unfold jV bS
 exact IU
theorem CS {β:Type} (a0:List aE) (p1:Int) (p2:List aF) (k:Ex->St->Option β):bR TT uU (nQ a0 p1 p2) k = (lM a0 p1 p2).bind (fun (r:(List aF))=>k (.exit 0) ⟨[(3,.own 5 0)],[(5,some (.rows 0 54 3 (cM aF.cells r)))]⟩):=by
 have hh:=fun (w:Int × (List aF))=>CY a0 w.1 w.2
 have h:=fun ho=>aZ (T:=TT) (k:=k) (c:=jV) (step:=(fun (w:Int × (List aF))=>bS a0 w.1 w.2)) _ _ ho hh (p1,p2)
 refine Eq.trans (h (fun r s e=>by have q:=congrArg Prod.fst e; rcases r with x <;> cases q)) ?_
 unfold lM
 exact aL _ fun x=>by rcases x with x <;> rfl
theorem G6 (a0:List aE):Vm.call TT 26 [.sl (cM aE.cells a0)] = (gN a0).map fun (r:(List aF))=>.sl (cM aF.cells r):=by
 refine (bH (show TT 26 = some (.code ⟨1,32,[.tmp 2],aOK,false,false⟩) from rfl) _ rfl rfl).trans ?_
 show bR TT aOK ⟨[(0,.d (.sl (cM aE.cells a0)))],[]⟩ _ = _
 unfold aOK gN
 have u:=@CS
 exact pX
theorem xM (a0:List aE):KD TT 26 [.sl (cM aE.cells a0)] (gN a0) (fun (r:(List aF))=>.d (.sl (cM aF.cells r))):=kD (G6 a0) (fun _=>rfl) (fun _=>rfl) (fun _=>rfl)
abbrev pL (a0:Int) (a1:List aF) (p1:Int):St:=⟨[(0,dI a0),(1,.d (.sl (cM aF.cells a1))),(5,dI p1)],[]⟩
theorem EG (a0:Int) (a1:List aF) (p1:Int):bR TT kN (pL a0 a1 p1) (fun e s=>some (e,s)) = cH (fun (w:Int)=>pL a0 a1 w) (fun (r:Unit ⊕ Unit)=>Sum.elim (fun (z:Unit)=>(((.exit 0),⟨[(0,dI a0),(1,.d (.sl (cM aF.cells a1)))],[]⟩):Ex × St)) (fun (z:Unit)=>((.ret,⟨[(4,dB false)],[]⟩):Ex × St)) r) (bJ a0 a1 p1):=by
 unfold kN bJ
 exact IU
theorem EB {β:Type} (a0:Int) (a1:List aF) (p1:Int) (k:Ex->St->Option β):bR TT vF (pL a0 a1 p1) k = (jK a0 a1 p1).bind (fun (r:Unit ⊕ Unit)=>Sum.elim (fun (z:Unit)=>k (.exit 0) ⟨[(0,dI a0),(1,.d (.sl (cM aF.cells a1)))],[]⟩) (fun (z:Unit)=>k .ret ⟨[(4,dB false)],[]⟩) r):=by
 have hh:=fun (w:Int)=>EG a0 a1 w
 have h:=fun ho=>aZ (T:=TT) (k:=k) (c:=kN) (step:=(fun (w:Int)=>bJ a0 a1 w)) _ _ ho hh p1
 refine Eq.trans (h (fun r s e=>by have q:=congrArg Prod.fst e; rcases r with x | x <;> cases q)) ?_
 unfold jK
 exact aL _ fun x=>by rcases x with x | x <;> rfl
theorem IF (a0:Int) (a1:List aF):Vm.call TT 36 [.int .i64 a0,.sl (cM aF.cells a1)] = (j6 a0 a1).map fun (r:Bool)=>.bool r:=by
 refine (bH (show TT 36 = some (.code ⟨2,51,[.tmp 4],aNX,false,false⟩) from rfl) _ rfl rfl).trans ?_
 show bR TT aNX ⟨[(0,dI a0),(1,.d (.sl (cM aF.cells a1)))],[]⟩ _ = _
 unfold aNX j6
 have u:=@EB
 exact pX
theorem H4 (a0:Int) (a1:List aF):KF TT 36 [.int .i64 a0,.sl (cM aF.cells a1)] (j6 a0 a1) (fun (r:Bool)=>dB r):=kF (IF a0 a1) (fun _=>rfl) (fun _=>rfl)
end Go.Proofs.Ytgjcnbgfaimepaa
