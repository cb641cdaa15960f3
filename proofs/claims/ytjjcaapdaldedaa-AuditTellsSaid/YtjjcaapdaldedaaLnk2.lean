/- The functions of the small machine compute the plain definitions. Printed by a program. -/
import Derived.Test.YtjjcaapdaldedaaLnk1
set_option linter.unusedVariables false
set_option linter.unusedSimpArgs false
namespace Go.Proofs.Ytjjcaapdaldedaa
open Vm
open Go.RowKit
set_option maxRecDepth 100000
set_option maxHeartbeats 4000000
attribute [local congr] u9 yL vJ yM
theorem L9 (a0:Int) (a1:aA):Vm.call TT 31 [.int .i64 a0,.ptr a1.cells 0] = (iY a0 a1).map fun (r:Bool)=>.bool r:=by
 refine (aR (show TT 31 = some (.code ⟨2,11,[.tmp 3],aMA,false,false⟩) from rfl) _ rfl rfl).trans ?_
 show bD TT aMA ⟨[(0,dI a0),(1,.d (.ptr a1.cells 0))],[]⟩ _ = _
 unfold aMA iY
 have u:=@W4
 exact i9
theorem NK (a0:Int) (a1:aA):KF TT 31 [.int .i64 a0,.ptr a1.cells 0] (iY a0 a1) (fun (r:Bool)=>dB r):=kF (L9 a0 a1) (fun _=>rfl) (fun _=>rfl)
abbrev wS (a0:List ByteArray) (a2:aA) (p1:Int):St:=⟨[(0,.d (.sl (cM cS a0))),(2,.d (.fn 31 [.ptr a2.cells 0])),(14,dI (a0.length:Int)),(15,dI p1)],[]⟩
theorem MZ (a0:List ByteArray) (a2:aA) (p1:Int):bD TT dE (wS a0 a2 p1) (fun e s=>some (e,s)) = bH (fun (w:Int)=>wS a0 a2 w) (fun (r:Unit ⊕ Int)=>Sum.elim (fun (z:Unit)=>(((.exit 0),⟨[],[]⟩):Ex × St)) (fun (z:Int)=>((.ret,⟨[(6,dI z)],[]⟩):Ex × St)) r) (lC a0 a2 p1):=by
 unfold dE lC
 have u:=aN @NK @BB
 exact i9
theorem MO {β:Type} (a0:List ByteArray) (a2:aA) (p1:Int) (k:Ex->St->Option β):bD TT rT (wS a0 a2 p1) k = (A3 a0 a2 p1).bind (fun (r:Unit ⊕ Int)=>Sum.elim (fun (z:Unit)=>k (.exit 0) ⟨[],[]⟩) (fun (z:Int)=>k .ret ⟨[(6,dI z)],[]⟩) r):=by
 have hh:=fun (w:Int)=>MZ a0 a2 w
 have h:=fun ho=>aU (T:=TT) (k:=k) (c:=dE) (step:=(fun (w:Int)=>lC a0 a2 w)) _ _ ho hh p1
 refine Eq.trans (h (fun r s e=>by have q:=congrArg Prod.fst e; rcases r with x | x <;> cases q)) ?_
 unfold A3
 exact aH _ fun x=>by rcases x with x | x <;> rfl
theorem SO (a0:List ByteArray) (a1:Int) (a2:aA):Vm.call TT 29 [.sl (cM cS a0),.int .i64 a1,.fn 31 [.ptr a2.cells 0]] = (mR a0 a1 a2).map fun (r:Int)=>.int .i64 r:=by
 refine (aR (show TT 29 = some (.code ⟨3,29,[.tmp 6],SN,false,false⟩) from rfl) _ rfl rfl).trans ?_
 show bD TT SN ⟨[(0,.d (.sl (cM cS a0))),(1,dI a1),(2,.d (.fn 31 [.ptr a2.cells 0]))],[]⟩ _ = _
 unfold SN mR
 have u:=@MO
 exact i9
theorem RL (a0:List ByteArray) (a1:Int) (a2:aA):KF TT 29 [.sl (cM cS a0),.int .i64 a1,.fn 31 [.ptr a2.cells 0]] (mR a0 a1 a2) (fun (r:Int)=>dI r):=kF (SO a0 a1 a2) (fun _=>rfl) (fun _=>rfl)
theorem NO (a0:Int) (a1:aA):Vm.call TT 34 [.int .i64 a0,.ptr a1.cells 0] = (hH a0 a1).map fun (r:Bool)=>.bool r:=by
 refine (aR (show TT 34 = some (.code ⟨2,26,[.tmp 3],aNn,false,false⟩) from rfl) _ rfl rfl).trans ?_
 show bD TT aNn ⟨[(0,dI a0),(1,.d (.ptr a1.cells 0))],[]⟩ _ = _
 unfold aNn hH
 have u:=@vG
 exact i9
theorem MC (a0:Int) (a1:aA):KF TT 34 [.int .i64 a0,.ptr a1.cells 0] (hH a0 a1) (fun (r:Bool)=>dB r):=kF (NO a0 a1) (fun _=>rfl) (fun _=>rfl)
abbrev wN (a0:List ByteArray) (a2:aA) (p1:Int):St:=⟨[(0,.d (.sl (cM cS a0))),(2,.d (.fn 34 [.ptr a2.cells 0])),(14,dI (a0.length:Int)),(15,dI p1)],[]⟩
theorem MF (a0:List ByteArray) (a2:aA) (p1:Int):bD TT dE (wN a0 a2 p1) (fun e s=>some (e,s)) = bH (fun (w:Int)=>wN a0 a2 w) (fun (r:Unit ⊕ Int)=>Sum.elim (fun (z:Unit)=>(((.exit 0),⟨[],[]⟩):Ex × St)) (fun (z:Int)=>((.ret,⟨[(6,dI z)],[]⟩):Ex × St)) r) (lA a0 a2 p1):=by
 unfold dE lA
 have u:=aN @MC @BB
 exact i9
theorem MV {β:Type} (a0:List ByteArray) (a2:aA) (p1:Int) (k:Ex->St->Option β):bD TT rT (wN a0 a2 p1) k = (AH a0 a2 p1).bind (fun (r:Unit ⊕ Int)=>Sum.elim (fun (z:Unit)=>k (.exit 0) ⟨[],[]⟩) (fun (z:Int)=>k .ret ⟨[(6,dI z)],[]⟩) r):=by
 have hh:=fun (w:Int)=>MF a0 a2 w
 have h:=fun ho=>aU (T:=TT) (k:=k) (c:=dE) (step:=(fun (w:Int)=>lA a0 a2 w)) _ _ ho hh p1
 refine Eq.trans (h (fun r s e=>by have q:=congrArg Prod.fst e; rcases r with x | x <;> cases q)) ?_
 unfold AH
 exact aH _ fun x=>by rcases x with x | x <;> rfl
theorem R5 (a0:List ByteArray) (a1:Int) (a2:aA):Vm.call TT 29 [.sl (cM cS a0),.int .i64 a1,.fn 34 [.ptr a2.cells 0]] = (mX a0 a1 a2).map fun (r:Int)=>.int .i64 r:=by
 refine (aR (show TT 29 = some (.code ⟨3,29,[.tmp 6],SN,false,false⟩) from rfl) _ rfl rfl).trans ?_
 show bD TT SN ⟨[(0,.d (.sl (cM cS a0))),(1,dI a1),(2,.d (.fn 34 [.ptr a2.cells 0]))],[]⟩ _ = _
 unfold SN mX
 have u:=@MV
 exact i9
theorem RG (a0:List ByteArray) (a1:Int) (a2:aA):KF TT 29 [.sl (cM cS a0),.int .i64 a1,.fn 34 [.ptr a2.cells 0]] (mX a0 a1 a2) (fun (r:Int)=>dI r):=kF (R5 a0 a1 a2) (fun _=>rfl) (fun _=>rfl)
abbrev AR (a0:aG) (p1:Int) (p2:List Int):St:=⟨[(1,.ptr 1 0),(3,.own 20 0),(4,.nil),(10,.d (.sl (cM aM.cells a0.Choices))),(11,dI (a0.Choices.length:Int)),(12,dI p1)],[(1,some (.box (aK a0.cells))),(20,some (.rows 0 3 1 (cM cI p2)))]⟩
theorem QZ (a0:aG) (p1:Int) (p2:List Int):bD TT uF (AR a0 p1 p2) (fun e s=>some (e,s)) = bH (fun (w:Int × (List Int))=>AR a0 w.1 w.2) (fun (r:((List Int)) ⊕ Unit)=>Sum.elim (fun (z:(List Int))=>(((.exit 0),⟨[(1,.ptr 1 0),(3,.own 20 0),(4,.nil)],[(1,some (.box (aK a0.cells))),(20,some (.rows 0 3 1 (cM cI z)))]⟩):Ex × St)) (fun (z:Unit)=>((.ret,⟨[(2,dB false)],[]⟩):Ex × St)) r) (fM a0 p1 p2):=by
 unfold uF fM
 have u:=@vG
 exact i9
theorem Q1 {β:Type} (a0:aG) (p1:Int) (p2:List Int) (k:Ex->St->Option β):bD TT FX (AR a0 p1 p2) k = (tN a0 p1 p2).bind (fun (r:((List Int)) ⊕ Unit)=>Sum.elim (fun (z:(List Int))=>k (.exit 0) ⟨[(1,.ptr 1 0),(3,.own 20 0),(4,.nil)],[(1,some (.box (aK a0.cells))),(20,some (.rows 0 3 1 (cM cI z)))]⟩) (fun (z:Unit)=>k .ret ⟨[(2,dB false)],[]⟩) r):=by
 have hh:=fun (w:Int × (List Int))=>QZ a0 w.1 w.2
 have h:=fun ho=>aU (T:=TT) (k:=k) (c:=uF) (step:=(fun (w:Int × (List Int))=>fM a0 w.1 w.2)) _ _ ho hh (p1,p2)
 refine Eq.trans (h (fun r s e=>by have q:=congrArg Prod.fst e; rcases r with x | x <;> cases q)) ?_
 unfold tN
 exact aH _ fun x=>by rcases x with x | x <;> rfl
abbrev AG (a0:aG) (z7:(List Int)) (p9:Int) (p10:List Int):St:=⟨[(3,.own 20 0),(4,.own 37 0),(27,.d (.sl (cM a8.cells a0.Rules))),(28,dI (a0.Rules.length:Int)),(29,dI p9)],[(20,some (.rows 0 3 1 (cM cI z7))),(37,some (.rows 0 3 1 (cM cI p10)))]⟩
theorem PM (a0:aG) (z7:(List Int)) (p9:Int) (p10:List Int):bD TT uO (AG a0 z7 p9 p10) (fun e s=>some (e,s)) = bH (fun (w:Int × (List Int))=>AG a0 z7 w.1 w.2) (fun (r:(List Int))=>(((.exit 2),⟨[(3,.own 20 0),(4,.own 37 0)],[(20,some (.rows 0 3 1 (cM cI z7))),(37,some (.rows 0 3 1 (cM cI r)))]⟩):Ex × St)) (fN a0 z7 p9 p10):=by
 unfold uO fN
 exact DF
theorem P2 {β:Type} (a0:aG) (z7:(List Int)) (p9:Int) (p10:List Int) (k:Ex->St->Option β):bD TT FY (AG a0 z7 p9 p10) k = (tM a0 z7 p9 p10).bind (fun (r:(List Int))=>k (.exit 2) ⟨[(3,.own 20 0),(4,.own 37 0)],[(20,some (.rows 0 3 1 (cM cI z7))),(37,some (.rows 0 3 1 (cM cI r)))]⟩):=by
 have hh:=fun (w:Int × (List Int))=>PM a0 z7 w.1 w.2
 have h:=fun ho=>aU (T:=TT) (k:=k) (c:=uO) (step:=(fun (w:Int × (List Int))=>fN a0 z7 w.1 w.2)) _ _ ho hh (p9,p10)
 refine Eq.trans (h (fun r s e=>by have q:=congrArg Prod.fst e; rcases r with x <;> cases q)) ?_
 unfold tM
 exact aH _ fun x=>by rcases x with x <;> rfl
theorem UG (a0:aG):Vm.call TT 36 [.agg a0.cells] = (qD a0).map fun (r:Bool)=>.bool r:=by
 refine (aR (show TT 36 = some (.code ⟨1,45,[.tmp 2],aNE,false,false⟩) from rfl) _ rfl rfl).trans ?_
 show bD TT aNE ⟨[(0,fL a0.cells)],[]⟩ _ = _
 unfold aNE qD
 have u:=aN @Q1 (aN @P2 @JT)
 exact i9
theorem UZ (a0:aG):KF TT 36 [.agg a0.cells] (qD a0) (fun (r:Bool)=>dB r):=kF (UG a0) (fun _=>rfl) (fun _=>rfl)
theorem M9 (a0:Int) (a1:aA):Vm.call TT 35 [.int .i64 a0,.ptr a1.cells 0] = (i7 a0 a1).map fun (r:Bool)=>.bool r:=by
 refine (aR (show TT 35 = some (.code ⟨2,10,[.tmp 3],aL6,false,false⟩) from rfl) _ rfl rfl).trans ?_
 show bD TT aL6 ⟨[(0,dI a0),(1,.d (.ptr a1.cells 0))],[]⟩ _ = _
 unfold aL6 i7
 have u:=@UZ
 exact i9
theorem MM (a0:Int) (a1:aA):KF TT 35 [.int .i64 a0,.ptr a1.cells 0] (i7 a0 a1) (fun (r:Bool)=>dB r):=kF (M9 a0 a1) (fun _=>rfl) (fun _=>rfl)
abbrev wM (a0:List ByteArray) (a2:aA) (p1:Int):St:=⟨[(0,.d (.sl (cM cS a0))),(2,.d (.fn 35 [.ptr a2.cells 0])),(14,dI (a0.length:Int)),(15,dI p1)],[]⟩
theorem MD (a0:List ByteArray) (a2:aA) (p1:Int):bD TT dE (wM a0 a2 p1) (fun e s=>some (e,s)) = bH (fun (w:Int)=>wM a0 a2 w) (fun (r:Unit ⊕ Int)=>Sum.elim (fun (z:Unit)=>(((.exit 0),⟨[],[]⟩):Ex × St)) (fun (z:Int)=>((.ret,⟨[(6,dI z)],[]⟩):Ex × St)) r) (lB a0 a2 p1):=by
 unfold dE lB
 have u:=aN @MM @BB
 exact i9
theorem MY {β:Type} (a0:List ByteArray) (a2:aA) (p1:Int) (k:Ex->St->Option β):bD TT rT (wM a0 a2 p1) k = (AP a0 a2 p1).bind (fun (r:Unit ⊕ Int)=>Sum.elim (fun (z:Unit)=>k (.exit 0) ⟨[],[]⟩) (fun (z:Int)=>k .ret ⟨[(6,dI z)],[]⟩) r):=by
 have hh:=fun (w:Int)=>MD a0 a2 w
 have h:=fun ho=>aU (T:=TT) (k:=k) (c:=dE) (step:=(fun (w:Int)=>lB a0 a2 w)) _ _ ho hh p1
 refine Eq.trans (h (fun r s e=>by have q:=congrArg Prod.fst e; rcases r with x | x <;> cases q)) ?_
 unfold AP
 exact aH _ fun x=>by rcases x with x | x <;> rfl
theorem SM (a0:List ByteArray) (a1:Int) (a2:aA):Vm.call TT 29 [.sl (cM cS a0),.int .i64 a1,.fn 35 [.ptr a2.cells 0]] = (mU a0 a1 a2).map fun (r:Int)=>.int .i64 r:=by
 refine (aR (show TT 29 = some (.code ⟨3,29,[.tmp 6],SN,false,false⟩) from rfl) _ rfl rfl).trans ?_
 show bD TT SN ⟨[(0,.d (.sl (cM cS a0))),(1,dI a1),(2,.d (.fn 35 [.ptr a2.cells 0]))],[]⟩ _ = _
 unfold SN mU
 have u:=@MY
 exact i9
theorem SG (a0:List ByteArray) (a1:Int) (a2:aA):KF TT 29 [.sl (cM cS a0),.int .i64 a1,.fn 35 [.ptr a2.cells 0]] (mU a0 a1 a2) (fun (r:Int)=>dI r):=kF (SM a0 a1 a2) (fun _=>rfl) (fun _=>rfl)
abbrev wV (a0:aA) (p1:Int) (x2:aW) (p5:Int):St:=⟨[(1,.ptr 1 0),(4,.ptr 4 0),(12,.d (.sl (cM aW.cells a0.Usances))),(13,dI (a0.Usances.length:Int)),(14,dI p1),(48,.d (.sl (cM aW.cells (n7 a0.Usances 0 p1)))),(49,dI ((n7 a0.Usances 0 p1).length:Int)),(50,dI p5)],[(1,some (.box (aK a0.cells))),(4,some (.box (aK x2.cells)))]⟩
theorem NQ (a0:aA) (p1:Int) (x2:aW) (p5:Int):bD TT rJ (wV a0 p1 x2 p5) (fun e s=>some (e,s)) = bH (fun (w:Int)=>wV a0 p1 x2 w) (fun (r:Unit ⊕ Unit)=>Sum.elim (fun (z:Unit)=>(((.exit 2),⟨[(1,.ptr 1 0),(12,.d (.sl (cM aW.cells a0.Usances))),(13,dI (a0.Usances.length:Int)),(14,dI p1)],[(1,some (.box (aK a0.cells)))]⟩):Ex × St)) (fun (z:Unit)=>((.ret,⟨[(2,dI 5)],[]⟩):Ex × St)) r) (dR a0 p1 x2 p5):=by
 unfold rJ dR
 exact DF
theorem MI {β:Type} (a0:aA) (p1:Int) (x2:aW) (p5:Int) (k:Ex->St->Option β):bD TT C7 (wV a0 p1 x2 p5) k = (pS a0 p1 x2 p5).bind (fun (r:Unit ⊕ Unit)=>Sum.elim (fun (z:Unit)=>k (.exit 2) ⟨[(1,.ptr 1 0),(12,.d (.sl (cM aW.cells a0.Usances))),(13,dI (a0.Usances.length:Int)),(14,dI p1)],[(1,some (.box (aK a0.cells)))]⟩) (fun (z:Unit)=>k .ret ⟨[(2,dI 5)],[]⟩) r):=by
 have hh:=fun (w:Int)=>NQ a0 p1 x2 w
 have h:=fun ho=>aU (T:=TT) (k:=k) (c:=rJ) (step:=(fun (w:Int)=>dR a0 p1 x2 w)) _ _ ho hh p5
 refine Eq.trans (h (fun r s e=>by have q:=congrArg Prod.fst e; rcases r with x | x <;> cases q)) ?_
 unfold pS
 exact aH _ fun x=>by rcases x with x | x <;> rfl
abbrev wW (a0:aA) (p1:Int):St:=⟨[(1,.ptr 1 0),(12,.d (.sl (cM aW.cells a0.Usances))),(13,dI (a0.Usances.length:Int)),(14,dI p1)],[(1,some (.box (aK a0.cells)))]⟩
theorem M0 (a0:aA) (p1:Int):bD TT rB (wW a0 p1) (fun e s=>some (e,s)) = bH (fun (w:Int)=>wW a0 w) (fun (r:Unit ⊕ Int)=>Sum.elim (fun (z:Unit)=>(((.exit 0),⟨[],[]⟩):Ex × St)) (fun (z:Int)=>((.ret,⟨[(2,dI z)],[]⟩):Ex × St)) r) (dQ a0 p1):=by
 unfold rB dQ
 have u:=aN @MI @vG
 exact i9
theorem NB {β:Type} (a0:aA) (p1:Int) (k:Ex->St->Option β):bD TT DC (wW a0 p1) k = (uT a0 p1).bind (fun (r:Unit ⊕ Int)=>Sum.elim (fun (z:Unit)=>k (.exit 0) ⟨[],[]⟩) (fun (z:Int)=>k .ret ⟨[(2,dI z)],[]⟩) r):=by
 have hh:=fun (w:Int)=>M0 a0 w
 have h:=fun ho=>aU (T:=TT) (k:=k) (c:=rB) (step:=(fun (w:Int)=>dQ a0 w)) _ _ ho hh p1
 refine Eq.trans (h (fun r s e=>by have q:=congrArg Prod.fst e; rcases r with x | x <;> cases q)) ?_
 unfold uT
 exact aH _ fun x=>by rcases x with x | x <;> rfl
theorem RK (a0:aA):Vm.call TT 37 [.agg a0.cells] = (mY a0).map fun (r:Int)=>.int .i64 r:=by
 refine (aR (show TT 37 = some (.code ⟨1,68,[.tmp 2],aLE,false,false⟩) from rfl) _ rfl rfl).trans ?_
 show bD TT aLE ⟨[(0,fL a0.cells)],[]⟩ _ = _
 unfold aLE mY
 have u:=@NB
 exact i9
theorem R9 (a0:aA):KF TT 37 [.agg a0.cells] (mY a0) (fun (r:Int)=>dI r):=kF (RK a0) (fun _=>rfl) (fun _=>rfl)
abbrev B2 (a0:aA) (p1:Int):St:=⟨[(1,.ptr 1 0),(12,.d (.sl (cM bV.cells a0.Rates))),(13,dI (a0.Rates.length:Int)),(14,dI p1)],[(1,some (.box (aK a0.cells)))]⟩
theorem RE (a0:aA) (p1:Int):bD TT vR (B2 a0 p1) (fun e s=>some (e,s)) = bH (fun (w:Int)=>B2 a0 w) (fun (r:Unit ⊕ Unit)=>Sum.elim (fun (z:Unit)=>(((.exit 0),⟨[(1,.ptr 1 0)],[(1,some (.box (aK a0.cells)))]⟩):Ex × St)) (fun (z:Unit)=>((.ret,⟨[(2,dI 1)],[]⟩):Ex × St)) r) (gO a0 p1):=by
 unfold vR gO
 have u:=@vG
 exact i9
theorem RA {β:Type} (a0:aA) (p1:Int) (k:Ex->St->Option β):bD TT H4 (B2 a0 p1) k = (vI a0 p1).bind (fun (r:Unit ⊕ Unit)=>Sum.elim (fun (z:Unit)=>k (.exit 0) ⟨[(1,.ptr 1 0)],[(1,some (.box (aK a0.cells)))]⟩) (fun (z:Unit)=>k .ret ⟨[(2,dI 1)],[]⟩) r):=by
 have hh:=fun (w:Int)=>RE a0 w
 have h:=fun ho=>aU (T:=TT) (k:=k) (c:=vR) (step:=(fun (w:Int)=>gO a0 w)) _ _ ho hh p1
 refine Eq.trans (h (fun r s e=>by have q:=congrArg Prod.fst e; rcases r with x | x <;> cases q)) ?_
 unfold vI
 exact aH _ fun x=>by rcases x with x | x <;> rfl
abbrev BN (a0:aA) (p11:Int):St:=⟨[(1,.ptr 1 0),(67,.d (.sl (cM c9.cells a0.Halts))),(68,dI (a0.Halts.length:Int)),(69,dI p11)],[(1,some (.box (aK a0.cells)))]⟩
theorem SK (a0:aA) (p11:Int):bD TT vM (BN a0 p11) (fun e s=>some (e,s)) = bH (fun (w:Int)=>BN a0 w) (fun (r:Unit ⊕ Unit)=>Sum.elim (fun (z:Unit)=>(((.exit 2),⟨[],[]⟩):Ex × St)) (fun (z:Unit)=>((.ret,⟨[(2,dI 1)],[]⟩):Ex × St)) r) (gL a0 p11):=by
 unfold vM gL
 have u:=@vG
 exact i9
theorem RJ {β:Type} (a0:aA) (p11:Int) (k:Ex->St->Option β):bD TT HT (BN a0 p11) k = (vA a0 p11).bind (fun (r:Unit ⊕ Unit)=>Sum.elim (fun (z:Unit)=>k (.exit 2) ⟨[],[]⟩) (fun (z:Unit)=>k .ret ⟨[(2,dI 1)],[]⟩) r):=by
 have hh:=fun (w:Int)=>SK a0 w
 have h:=fun ho=>aU (T:=TT) (k:=k) (c:=vM) (step:=(fun (w:Int)=>gL a0 w)) _ _ ho hh p11
 refine Eq.trans (h (fun r s e=>by have q:=congrArg Prod.fst e; rcases r with x | x <;> cases q)) ?_
 unfold vA
 exact aH _ fun x=>by rcases x with x | x <;> rfl
theorem W7 (a0:aA):Vm.call TT 38 [.agg a0.cells] = (sL a0).map fun (r:Int)=>.int .i64 r:=by
 refine (aR (show TT 38 = some (.code ⟨1,98,[.tmp 2],aLM,false,false⟩) from rfl) _ rfl rfl).trans ?_
 show bD TT aLM ⟨[(0,fL a0.cells)],[]⟩ _ = _
 unfold aLM sL
 have u:=aN @RA @RJ
 exact i9
theorem W2 (a0:aA):KF TT 38 [.agg a0.cells] (sL a0) (fun (r:Int)=>dI r):=kF (W7 a0) (fun _=>rfl) (fun _=>rfl)
abbrev AD (a0:aA) (r1:(List ByteArray) × (List ByteArray) × (List ByteArray)) (p4:Int):St:=⟨[(1,.d (.ptr a0.cells 0)),(4,.d (.sl (cM cS r1.2.1))),(5,.d (.sl (cM cS r1.2.2))),(36,.d (.sl (cM bU.cells a0.Groups))),(37,dI (a0.Groups.length:Int)),(38,dI p4)],[]⟩
theorem QD (a0:aA) (r1:(List ByteArray) × (List ByteArray) × (List ByteArray)) (p4:Int):bD TT uM (AD a0 r1 p4) (fun e s=>some (e,s)) = bH (fun (w:Int)=>AD a0 r1 w) (fun (r:Unit ⊕ Unit)=>Sum.elim (fun (z:Unit)=>(((.exit 0),⟨[(1,.d (.ptr a0.cells 0)),(4,.d (.sl (cM cS r1.2.1))),(5,.d (.sl (cM cS r1.2.2)))],[]⟩):Ex × St)) (fun (z:Unit)=>((.ret,⟨[(2,dI 1)],[]⟩):Ex × St)) r) (fO a0 r1 p4):=by
 unfold uM fO
 have u:=@vG
 exact i9
theorem P5 {β:Type} (a0:aA) (r1:(List ByteArray) × (List ByteArray) × (List ByteArray)) (p4:Int) (k:Ex->St->Option β):bD TT F1 (AD a0 r1 p4) k = (tP a0 r1 p4).bind (fun (r:Unit ⊕ Unit)=>Sum.elim (fun (z:Unit)=>k (.exit 0) ⟨[(1,.d (.ptr a0.cells 0)),(4,.d (.sl (cM cS r1.2.1))),(5,.d (.sl (cM cS r1.2.2)))],[]⟩) (fun (z:Unit)=>k .ret ⟨[(2,dI 1)],[]⟩) r):=by
 have hh:=fun (w:Int)=>QD a0 r1 w
 have h:=fun ho=>aU (T:=TT) (k:=k) (c:=uM) (step:=(fun (w:Int)=>fO a0 r1 w)) _ _ ho hh p4
 refine Eq.trans (h (fun r s e=>by have q:=congrArg Prod.fst e; rcases r with x | x <;> cases q)) ?_
 unfold tP
 exact aH _ fun x=>by rcases x with x | x <;> rfl
theorem VY (a0:aA):Vm.call TT 18 [.agg a0.cells] = (iL a0).map fun (r:Int)=>.int .i64 r:=by
 refine (aR (show TT 18 = some (.code ⟨1,66,[.tmp 2],aMH,false,false⟩) from rfl) _ rfl rfl).trans ?_
 show bD TT aMH ⟨[(0,fL a0.cells)],[]⟩ _ = _
 unfold aMH iL
 have u:=aN (aN (aN @P5 @V1) (aN @SP @RL)) (aN (aN @RG @SG) (aN @R9 @W2))
 exact i9
theorem K0 (a0:aA):KF TT 18 [.agg a0.cells] (iL a0) (fun (r:Int)=>dI r):=kF (VY a0) (fun _=>rfl) (fun _=>rfl)
abbrev yS (a0:aG) (a1 p1:Int):St:=⟨[(1,dI a1),(9,.d (.sl (cM aM.cells a0.Choices))),(10,dI (a0.Choices.length:Int)),(11,dI p1)],[]⟩
theorem N9 (a0:aG) (a1 p1:Int):bD TT sT (yS a0 a1 p1) (fun e s=>some (e,s)) = bH (fun (w:Int)=>yS a0 a1 w) (fun (r:Unit ⊕ (Int × Bool))=>Sum.elim (fun (z:Unit)=>(((.exit 0),⟨[],[]⟩):Ex × St)) (fun (z:Int × Bool)=>((.ret,⟨[(4,dI z.1),(5,dB z.2)],[]⟩):Ex × St)) r) (jK a0 a1 p1):=by
 unfold sT jK
 exact DF
theorem OR {β:Type} (a0:aG) (a1 p1:Int) (k:Ex->St->Option β):bD TT ER (yS a0 a1 p1) k = (vW a0 a1 p1).bind (fun (r:Unit ⊕ (Int × Bool))=>Sum.elim (fun (z:Unit)=>k (.exit 0) ⟨[],[]⟩) (fun (z:Int × Bool)=>k .ret ⟨[(4,dI z.1),(5,dB z.2)],[]⟩) r):=by
 have hh:=fun (w:Int)=>N9 a0 a1 w
 have h:=fun ho=>aU (T:=TT) (k:=k) (c:=sT) (step:=(fun (w:Int)=>jK a0 a1 w)) _ _ ho hh p1
 refine Eq.trans (h (fun r s e=>by have q:=congrArg Prod.fst e; rcases r with x | x <;> cases q)) ?_
 unfold vW
 exact aH _ fun x=>by rcases x with x | x <;> rfl
theorem TM (a0:aG) (a1:Int):Vm.call TT 43 [.agg a0.cells,.int .i64 a1] = (oM a0 a1).map fun (r:Int × Bool)=>.tup [.int .i64 r.1,.bool r.2]:=by
 refine (aR (show TT 43 = some (.code ⟨2,29,[.tmp 4,.tmp 5],aLs,false,false⟩) from rfl) _ rfl rfl).trans ?_
 show bD TT aLs ⟨[(0,fL a0.cells),(1,dI a1)],[]⟩ _ = _
 unfold aLs oM
 have u:=@OR
 exact i9
theorem xY (a0:aG) (a1:Int):KF TT 43 [.agg a0.cells,.int .i64 a1] (oM a0 a1) (fun (r:Int × Bool)=>.tup [dI r.1,dB r.2]):=kF (TM a0 a1) (fun _=>rfl) (fun _=>rfl)
theorem aY (a0:List Int):Vm.call TT 40 [.sl (cM cI a0)] = (aF a0).map fun (r:(List Int))=>.own (.ref 0) [(3,1)] [cM cI r]:=by
 refine (aGU (show TT 40 = some (.told o40) from rfl) _ rfl).trans ?_
 have h1:sized 1 (cM cI a0) = true:=kG _ _ (fun x=>by rfl) a0
 have h2:PO (cM cI a0) = true:=aJT _ _ (fun x=>rfl)
 have h3:(cM cI a0).length = a0.length:=List.length_map ..
 simp only [o40,Y3,h1,h2,h3,true_and,aF]
 split <;> rfl
end Go.Proofs.Ytjjcaapdaldedaa
