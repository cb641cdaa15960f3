/- Code and answers agree. -/
import Derived.Test.YtoefdnkjcfoccaaDoorLnk1
set_option linter.unusedVariables false
set_option linter.unusedSimpArgs false
namespace Go.Proofs.YtoefdnkjcfoccaaDoor
open Vm
open Go.RowKit
set_option maxRecDepth 100000
set_option maxHeartbeats 4000000
attribute [local congr] qD s6 qG s9
theorem KW (a0:Int) (a1:aB):Vm.call TT 33 [.int .i64 a0,.ptr a1.cells 0] = (k9 a0 a1).map fun (r:Bool)=>.bool r:=by
 refine (aW (show TT 33 = some (.code ⟨2,11,[.tmp 3],aPB,false,false⟩) from rfl) _ rfl rfl).trans ?_
 show bM TT aPB ⟨[(0,dI a0),(1,.d (.ptr a1.cells 0))],[]⟩ _ = _
 unfold aPB k9
 have u:=@U1
 exact iV
theorem JY (a0:Int) (a1:aB):KF TT 33 [.int .i64 a0,.ptr a1.cells 0] (k9 a0 a1) (fun (r:Bool)=>dB r):=kF (KW a0 a1) (fun _=>rfl) (fun _=>rfl)
abbrev vQ (a0:List ByteArray) (a2:aB) (p1:Int):St:=⟨[(0,.d (.sl (cM cS a0))),(2,.d (.fn 33 [.ptr a2.cells 0])),(14,dI (a0.length:Int)),(15,dI p1)],[]⟩
theorem KG (a0:List ByteArray) (a2:aB) (p1:Int):bM TT dC (vQ a0 a2 p1) (fun e s=>some (e,s)) = cO (fun (w:Int)=>vQ a0 a2 w) (fun (r:Unit ⊕ Int)=>Sum.elim (fun (z:Unit)=>(((.exit 0),⟨[],[]⟩):Ex × St)) (fun (z:Int)=>((.ret,⟨[(6,dI z)],[]⟩):Ex × St)) r) (lR a0 a2 p1):=by
 unfold dC lR
 have u:=aN @JY @zS
 exact iV
theorem J5 {β:Type} (a0:List ByteArray) (a2:aB) (p1:Int) (k:Ex->St->Option β):bM TT pP (vQ a0 a2 p1) k = (yQ a0 a2 p1).bind (fun (r:Unit ⊕ Int)=>Sum.elim (fun (z:Unit)=>k (.exit 0) ⟨[],[]⟩) (fun (z:Int)=>k .ret ⟨[(6,dI z)],[]⟩) r):=by
 have hh:=fun (w:Int)=>KG a0 a2 w
 have h:=fun ho=>bE (T:=TT) (k:=k) (c:=dC) (step:=(fun (w:Int)=>lR a0 a2 w)) _ _ ho hh p1
 refine Eq.trans (h (fun r s e=>by have q:=congrArg Prod.fst e; rcases r with x | x <;> cases q)) ?_
 unfold yQ
 exact aV _ fun x=>by rcases x with x | x <;> rfl
theorem QC (a0:List ByteArray) (a1:Int) (a2:aB):Vm.call TT 31 [.sl (cM cS a0),.int .i64 a1,.fn 33 [.ptr a2.cells 0]] = (pA a0 a1 a2).map fun (r:Int)=>.int .i64 r:=by
 refine (aW (show TT 31 = some (.code ⟨3,29,[.tmp 6],PM,false,false⟩) from rfl) _ rfl rfl).trans ?_
 show bM TT PM ⟨[(0,.d (.sl (cM cS a0))),(1,dI a1),(2,.d (.fn 33 [.ptr a2.cells 0]))],[]⟩ _ = _
 unfold PM pA
 have u:=@J5
 exact iV
theorem PG (a0:List ByteArray) (a1:Int) (a2:aB):KF TT 31 [.sl (cM cS a0),.int .i64 a1,.fn 33 [.ptr a2.cells 0]] (pA a0 a1 a2) (fun (r:Int)=>dI r):=kF (QC a0 a1 a2) (fun _=>rfl) (fun _=>rfl)
theorem KZ (a0:Int) (a1:aB):Vm.call TT 36 [.int .i64 a0,.ptr a1.cells 0] = (i5 a0 a1).map fun (r:Bool)=>.bool r:=by
 refine (aW (show TT 36 = some (.code ⟨2,26,[.tmp 3],aM9,false,false⟩) from rfl) _ rfl rfl).trans ?_
 show bM TT aM9 ⟨[(0,dI a0),(1,.d (.ptr a1.cells 0))],[]⟩ _ = _
 unfold aM9 i5
 have u:=@tG
 exact iV
theorem LG (a0:Int) (a1:aB):KF TT 36 [.int .i64 a0,.ptr a1.cells 0] (i5 a0 a1) (fun (r:Bool)=>dB r):=kF (KZ a0 a1) (fun _=>rfl) (fun _=>rfl)
abbrev vG (a0:List ByteArray) (a2:aB) (p1:Int):St:=⟨[(0,.d (.sl (cM cS a0))),(2,.d (.fn 36 [.ptr a2.cells 0])),(14,dI (a0.length:Int)),(15,dI p1)],[]⟩
theorem LB (a0:List ByteArray) (a2:aB) (p1:Int):bM TT dC (vG a0 a2 p1) (fun e s=>some (e,s)) = cO (fun (w:Int)=>vG a0 a2 w) (fun (r:Unit ⊕ Int)=>Sum.elim (fun (z:Unit)=>(((.exit 0),⟨[],[]⟩):Ex × St)) (fun (z:Int)=>((.ret,⟨[(6,dI z)],[]⟩):Ex × St)) r) (lX a0 a2 p1):=by
 unfold dC lX
 have u:=aN @LG @zS
 exact iV
theorem KX {β:Type} (a0:List ByteArray) (a2:aB) (p1:Int) (k:Ex->St->Option β):bM TT pP (vG a0 a2 p1) k = (yU a0 a2 p1).bind (fun (r:Unit ⊕ Int)=>Sum.elim (fun (z:Unit)=>k (.exit 0) ⟨[],[]⟩) (fun (z:Int)=>k .ret ⟨[(6,dI z)],[]⟩) r):=by
 have hh:=fun (w:Int)=>LB a0 a2 w
 have h:=fun ho=>bE (T:=TT) (k:=k) (c:=dC) (step:=(fun (w:Int)=>lX a0 a2 w)) _ _ ho hh p1
 refine Eq.trans (h (fun r s e=>by have q:=congrArg Prod.fst e; rcases r with x | x <;> cases q)) ?_
 unfold yU
 exact aV _ fun x=>by rcases x with x | x <;> rfl
theorem PX (a0:List ByteArray) (a1:Int) (a2:aB):Vm.call TT 31 [.sl (cM cS a0),.int .i64 a1,.fn 36 [.ptr a2.cells 0]] = (pI a0 a1 a2).map fun (r:Int)=>.int .i64 r:=by
 refine (aW (show TT 31 = some (.code ⟨3,29,[.tmp 6],PM,false,false⟩) from rfl) _ rfl rfl).trans ?_
 show bM TT PM ⟨[(0,.d (.sl (cM cS a0))),(1,dI a1),(2,.d (.fn 36 [.ptr a2.cells 0]))],[]⟩ _ = _
 unfold PM pI
 have u:=@KX
 exact iV
theorem QA (a0:List ByteArray) (a1:Int) (a2:aB):KF TT 31 [.sl (cM cS a0),.int .i64 a1,.fn 36 [.ptr a2.cells 0]] (pI a0 a1 a2) (fun (r:Int)=>dI r):=kF (PX a0 a1 a2) (fun _=>rfl) (fun _=>rfl)
abbrev AC (a0:aJ) (p1:Int) (p2:List Int):St:=⟨[(1,.ptr 1 0),(3,.own 20 0),(4,.nil),(10,.d (.sl (cM aQ.cells a0.Choices))),(11,dI (a0.Choices.length:Int)),(12,dI p1)],[(1,some (.box (aE a0.cells))),(20,some (.rows 0 3 1 (cM cI p2)))]⟩
theorem N6 (a0:aJ) (p1:Int) (p2:List Int):bM TT sP (AC a0 p1 p2) (fun e s=>some (e,s)) = cO (fun (w:Int × (List Int))=>AC a0 w.1 w.2) (fun (r:((List Int)) ⊕ Unit)=>Sum.elim (fun (z:(List Int))=>(((.exit 0),⟨[(1,.ptr 1 0),(3,.own 20 0),(4,.nil)],[(1,some (.box (aE a0.cells))),(20,some (.rows 0 3 1 (cM cI z)))]⟩):Ex × St)) (fun (z:Unit)=>((.ret,⟨[(2,dB false)],[]⟩):Ex × St)) r) (i8 a0 p1 p2):=by
 unfold sP i8
 have u:=@tG
 exact iV
theorem OW {β:Type} (a0:aJ) (p1:Int) (p2:List Int) (k:Ex->St->Option β):bM TT EE (AC a0 p1 p2) k = (wI a0 p1 p2).bind (fun (r:((List Int)) ⊕ Unit)=>Sum.elim (fun (z:(List Int))=>k (.exit 0) ⟨[(1,.ptr 1 0),(3,.own 20 0),(4,.nil)],[(1,some (.box (aE a0.cells))),(20,some (.rows 0 3 1 (cM cI z)))]⟩) (fun (z:Unit)=>k .ret ⟨[(2,dB false)],[]⟩) r):=by
 have hh:=fun (w:Int × (List Int))=>N6 a0 w.1 w.2
 have h:=fun ho=>bE (T:=TT) (k:=k) (c:=sP) (step:=(fun (w:Int × (List Int))=>i8 a0 w.1 w.2)) _ _ ho hh (p1,p2)
 refine Eq.trans (h (fun r s e=>by have q:=congrArg Prod.fst e; rcases r with x | x <;> cases q)) ?_
 unfold wI
 exact aV _ fun x=>by rcases x with x | x <;> rfl
abbrev yW (a0:aJ) (z7:(List Int)) (p9:Int) (p10:List Int):St:=⟨[(3,.own 20 0),(4,.own 37 0),(27,.d (.sl (cM aS.cells a0.Rules))),(28,dI (a0.Rules.length:Int)),(29,dI p9)],[(20,some (.rows 0 3 1 (cM cI z7))),(37,some (.rows 0 3 1 (cM cI p10)))]⟩
theorem OD (a0:aJ) (z7:(List Int)) (p9:Int) (p10:List Int):bM TT sI (yW a0 z7 p9 p10) (fun e s=>some (e,s)) = cO (fun (w:Int × (List Int))=>yW a0 z7 w.1 w.2) (fun (r:(List Int))=>(((.exit 2),⟨[(3,.own 20 0),(4,.own 37 0)],[(20,some (.rows 0 3 1 (cM cI z7))),(37,some (.rows 0 3 1 (cM cI r)))]⟩):Ex × St)) (jJ a0 z7 p9 p10):=by
 unfold sI jJ
 exact yM
theorem OR {β:Type} (a0:aJ) (z7:(List Int)) (p9:Int) (p10:List Int) (k:Ex->St->Option β):bM TT EI (yW a0 z7 p9 p10) k = (v9 a0 z7 p9 p10).bind (fun (r:(List Int))=>k (.exit 2) ⟨[(3,.own 20 0),(4,.own 37 0)],[(20,some (.rows 0 3 1 (cM cI z7))),(37,some (.rows 0 3 1 (cM cI r)))]⟩):=by
 have hh:=fun (w:Int × (List Int))=>OD a0 z7 w.1 w.2
 have h:=fun ho=>bE (T:=TT) (k:=k) (c:=sI) (step:=(fun (w:Int × (List Int))=>jJ a0 z7 w.1 w.2)) _ _ ho hh (p9,p10)
 refine Eq.trans (h (fun r s e=>by have q:=congrArg Prod.fst e; rcases r with x <;> cases q)) ?_
 unfold v9
 exact aV _ fun x=>by rcases x with x <;> rfl
theorem UR (a0:aJ):Vm.call TT 38 [.agg a0.cells] = (tV a0).map fun (r:Bool)=>.bool r:=by
 refine (aW (show TT 38 = some (.code ⟨1,45,[.tmp 2],aQh,false,false⟩) from rfl) _ rfl rfl).trans ?_
 show bM TT aQh ⟨[(0,b9 a0.cells)],[]⟩ _ = _
 unfold aQh tV
 have u:=aN @OW (aN @OR @HU)
 exact iV
theorem TE (a0:aJ):KF TT 38 [.agg a0.cells] (tV a0) (fun (r:Bool)=>dB r):=kF (UR a0) (fun _=>rfl) (fun _=>rfl)
theorem J7 (a0:Int) (a1:aB):Vm.call TT 37 [.int .i64 a0,.ptr a1.cells 0] = (kZ a0 a1).map fun (r:Bool)=>.bool r:=by
 refine (aW (show TT 37 = some (.code ⟨2,10,[.tmp 3],aQg,false,false⟩) from rfl) _ rfl rfl).trans ?_
 show bM TT aQg ⟨[(0,dI a0),(1,.d (.ptr a1.cells 0))],[]⟩ _ = _
 unfold aQg kZ
 have u:=@TE
 exact iV
theorem LF (a0:Int) (a1:aB):KF TT 37 [.int .i64 a0,.ptr a1.cells 0] (kZ a0 a1) (fun (r:Bool)=>dB r):=kF (J7 a0 a1) (fun _=>rfl) (fun _=>rfl)
abbrev vN (a0:List ByteArray) (a2:aB) (p1:Int):St:=⟨[(0,.d (.sl (cM cS a0))),(2,.d (.fn 37 [.ptr a2.cells 0])),(14,dI (a0.length:Int)),(15,dI p1)],[]⟩
theorem J2 (a0:List ByteArray) (a2:aB) (p1:Int):bM TT dC (vN a0 a2 p1) (fun e s=>some (e,s)) = cO (fun (w:Int)=>vN a0 a2 w) (fun (r:Unit ⊕ Int)=>Sum.elim (fun (z:Unit)=>(((.exit 0),⟨[],[]⟩):Ex × St)) (fun (z:Int)=>((.ret,⟨[(6,dI z)],[]⟩):Ex × St)) r) (lW a0 a2 p1):=by
 unfold dC lW
 have u:=aN @LF @zS
 exact iV
theorem KI {β:Type} (a0:List ByteArray) (a2:aB) (p1:Int) (k:Ex->St->Option β):bM TT pP (vN a0 a2 p1) k = (AM a0 a2 p1).bind (fun (r:Unit ⊕ Int)=>Sum.elim (fun (z:Unit)=>k (.exit 0) ⟨[],[]⟩) (fun (z:Int)=>k .ret ⟨[(6,dI z)],[]⟩) r):=by
 have hh:=fun (w:Int)=>J2 a0 a2 w
 have h:=fun ho=>bE (T:=TT) (k:=k) (c:=dC) (step:=(fun (w:Int)=>lW a0 a2 w)) _ _ ho hh p1
 refine Eq.trans (h (fun r s e=>by have q:=congrArg Prod.fst e; rcases r with x | x <;> cases q)) ?_
 unfold AM
 exact aV _ fun x=>by rcases x with x | x <;> rfl
theorem PB (a0:List ByteArray) (a1:Int) (a2:aB):Vm.call TT 31 [.sl (cM cS a0),.int .i64 a1,.fn 37 [.ptr a2.cells 0]] = (pV a0 a1 a2).map fun (r:Int)=>.int .i64 r:=by
 refine (aW (show TT 31 = some (.code ⟨3,29,[.tmp 6],PM,false,false⟩) from rfl) _ rfl rfl).trans ?_
 show bM TT PM ⟨[(0,.d (.sl (cM cS a0))),(1,dI a1),(2,.d (.fn 37 [.ptr a2.cells 0]))],[]⟩ _ = _
 unfold PM pV
 have u:=@KI
 exact iV
theorem QO (a0:List ByteArray) (a1:Int) (a2:aB):KF TT 31 [.sl (cM cS a0),.int .i64 a1,.fn 37 [.ptr a2.cells 0]] (pV a0 a1 a2) (fun (r:Int)=>dI r):=kF (PB a0 a1 a2) (fun _=>rfl) (fun _=>rfl)
abbrev vA (a0:aB) (p1:Int) (x2:aR) (p5:Int):St:=⟨[(1,.ptr 1 0),(4,.ptr 4 0),(12,.d (.sl (cM aR.cells a0.Usances))),(13,dI (a0.Usances.length:Int)),(14,dI p1),(48,.d (.sl (cM aR.cells (iI a0.Usances 0 p1)))),(49,dI ((iI a0.Usances 0 p1).length:Int)),(50,dI p5)],[(1,some (.box (aE a0.cells))),(4,some (.box (aE x2.cells)))]⟩
theorem KN (a0:aB) (p1:Int) (x2:aR) (p5:Int):bM TT oM (vA a0 p1 x2 p5) (fun e s=>some (e,s)) = cO (fun (w:Int)=>vA a0 p1 x2 w) (fun (r:Unit ⊕ Unit)=>Sum.elim (fun (z:Unit)=>(((.exit 2),⟨[(1,.ptr 1 0),(12,.d (.sl (cM aR.cells a0.Usances))),(13,dI (a0.Usances.length:Int)),(14,dI p1)],[(1,some (.box (aE a0.cells)))]⟩):Ex × St)) (fun (z:Unit)=>((.ret,⟨[(2,dI 5)],[]⟩):Ex × St)) r) (gV a0 p1 x2 p5):=by
 unfold oM gV
 exact yM
theorem J4 {β:Type} (a0:aB) (p1:Int) (x2:aR) (p5:Int) (k:Ex->St->Option β):bM TT CG (vA a0 p1 x2 p5) k = (sG a0 p1 x2 p5).bind (fun (r:Unit ⊕ Unit)=>Sum.elim (fun (z:Unit)=>k (.exit 2) ⟨[(1,.ptr 1 0),(12,.d (.sl (cM aR.cells a0.Usances))),(13,dI (a0.Usances.length:Int)),(14,dI p1)],[(1,some (.box (aE a0.cells)))]⟩) (fun (z:Unit)=>k .ret ⟨[(2,dI 5)],[]⟩) r):=by
 have hh:=fun (w:Int)=>KN a0 p1 x2 w
 have h:=fun ho=>bE (T:=TT) (k:=k) (c:=oM) (step:=(fun (w:Int)=>gV a0 p1 x2 w)) _ _ ho hh p5
 refine Eq.trans (h (fun r s e=>by have q:=congrArg Prod.fst e; rcases r with x | x <;> cases q)) ?_
 unfold sG
 exact aV _ fun x=>by rcases x with x | x <;> rfl
abbrev vM (a0:aB) (p1:Int):St:=⟨[(1,.ptr 1 0),(12,.d (.sl (cM aR.cells a0.Usances))),(13,dI (a0.Usances.length:Int)),(14,dI p1)],[(1,some (.box (aE a0.cells)))]⟩
theorem JV (a0:aB) (p1:Int):bM TT oT (vM a0 p1) (fun e s=>some (e,s)) = cO (fun (w:Int)=>vM a0 w) (fun (r:Unit ⊕ Int)=>Sum.elim (fun (z:Unit)=>(((.exit 0),⟨[],[]⟩):Ex × St)) (fun (z:Int)=>((.ret,⟨[(2,dI z)],[]⟩):Ex × St)) r) (gN a0 p1):=by
 unfold oT gN
 have u:=aN @J4 @tG
 exact iV
theorem K1 {β:Type} (a0:aB) (p1:Int) (k:Ex->St->Option β):bM TT CJ (vM a0 p1) k = (sQ a0 p1).bind (fun (r:Unit ⊕ Int)=>Sum.elim (fun (z:Unit)=>k (.exit 0) ⟨[],[]⟩) (fun (z:Int)=>k .ret ⟨[(2,dI z)],[]⟩) r):=by
 have hh:=fun (w:Int)=>JV a0 w
 have h:=fun ho=>bE (T:=TT) (k:=k) (c:=oT) (step:=(fun (w:Int)=>gN a0 w)) _ _ ho hh p1
 refine Eq.trans (h (fun r s e=>by have q:=congrArg Prod.fst e; rcases r with x | x <;> cases q)) ?_
 unfold sQ
 exact aV _ fun x=>by rcases x with x | x <;> rfl
theorem PE (a0:aB):Vm.call TT 39 [.agg a0.cells] = (pM a0).map fun (r:Int)=>.int .i64 r:=by
 refine (aW (show TT 39 = some (.code ⟨1,68,[.tmp 2],aPd,false,false⟩) from rfl) _ rfl rfl).trans ?_
 show bM TT aPd ⟨[(0,b9 a0.cells)],[]⟩ _ = _
 unfold aPd pM
 have u:=@K1
 exact iV
theorem QG (a0:aB):KF TT 39 [.agg a0.cells] (pM a0) (fun (r:Int)=>dI r):=kF (PE a0) (fun _=>rfl) (fun _=>rfl)
abbrev AR (a0:aB) (p1:Int):St:=⟨[(1,.ptr 1 0),(12,.d (.sl (cM bA.cells a0.Rates))),(13,dI (a0.Rates.length:Int)),(14,dI p1)],[(1,some (.box (aE a0.cells)))]⟩
theorem QI (a0:aB) (p1:Int):bM TT tY (AR a0 p1) (fun e s=>some (e,s)) = cO (fun (w:Int)=>AR a0 w) (fun (r:Unit ⊕ Unit)=>Sum.elim (fun (z:Unit)=>(((.exit 0),⟨[(1,.ptr 1 0)],[(1,some (.box (aE a0.cells)))]⟩):Ex × St)) (fun (z:Unit)=>((.ret,⟨[(2,dI 1)],[]⟩):Ex × St)) r) (kL a0 p1):=by
 unfold tY kL
 have u:=@tG
 exact iV
theorem QB {β:Type} (a0:aB) (p1:Int) (k:Ex->St->Option β):bM TT FN (AR a0 p1) k = (AN a0 p1).bind (fun (r:Unit ⊕ Unit)=>Sum.elim (fun (z:Unit)=>k (.exit 0) ⟨[(1,.ptr 1 0)],[(1,some (.box (aE a0.cells)))]⟩) (fun (z:Unit)=>k .ret ⟨[(2,dI 1)],[]⟩) r):=by
 have hh:=fun (w:Int)=>QI a0 w
 have h:=fun ho=>bE (T:=TT) (k:=k) (c:=tY) (step:=(fun (w:Int)=>kL a0 w)) _ _ ho hh p1
 refine Eq.trans (h (fun r s e=>by have q:=congrArg Prod.fst e; rcases r with x | x <;> cases q)) ?_
 unfold AN
 exact aV _ fun x=>by rcases x with x | x <;> rfl
abbrev AW (a0:aB) (p11:Int):St:=⟨[(1,.ptr 1 0),(67,.d (.sl (cM bD.cells a0.Halts))),(68,dI (a0.Halts.length:Int)),(69,dI p11)],[(1,some (.box (aE a0.cells)))]⟩
theorem PF (a0:aB) (p11:Int):bM TT uA (AW a0 p11) (fun e s=>some (e,s)) = cO (fun (w:Int)=>AW a0 w) (fun (r:Unit ⊕ Unit)=>Sum.elim (fun (z:Unit)=>(((.exit 2),⟨[],[]⟩):Ex × St)) (fun (z:Unit)=>((.ret,⟨[(2,dI 1)],[]⟩):Ex × St)) r) (kK a0 p11):=by
 unfold uA kK
 have u:=@tG
 exact iV
theorem PK {β:Type} (a0:aB) (p11:Int) (k:Ex->St->Option β):bM TT FV (AW a0 p11) k = (AJ a0 p11).bind (fun (r:Unit ⊕ Unit)=>Sum.elim (fun (z:Unit)=>k (.exit 2) ⟨[],[]⟩) (fun (z:Unit)=>k .ret ⟨[(2,dI 1)],[]⟩) r):=by
 have hh:=fun (w:Int)=>PF a0 w
 have h:=fun ho=>bE (T:=TT) (k:=k) (c:=uA) (step:=(fun (w:Int)=>kK a0 w)) _ _ ho hh p11
 refine Eq.trans (h (fun r s e=>by have q:=congrArg Prod.fst e; rcases r with x | x <;> cases q)) ?_
 unfold AJ
 exact aV _ fun x=>by rcases x with x | x <;> rfl
theorem U7 (a0:aB):Vm.call TT 40 [.agg a0.cells] = (xY a0).map fun (r:Int)=>.int .i64 r:=by
 refine (aW (show TT 40 = some (.code ⟨1,98,[.tmp 2],aNQ,false,false⟩) from rfl) _ rfl rfl).trans ?_
 show bM TT aNQ ⟨[(0,b9 a0.cells)],[]⟩ _ = _
 unfold aNQ xY
 have u:=aN @QB @PK
 exact iV
theorem UV (a0:aB):KF TT 40 [.agg a0.cells] (xY a0) (fun (r:Int)=>dI r):=kF (U7 a0) (fun _=>rfl) (fun _=>rfl)
abbrev AA (a0:aB) (r1:(List ByteArray) × (List ByteArray) × (List ByteArray)) (p4:Int):St:=⟨[(1,.d (.ptr a0.cells 0)),(4,.d (.sl (cM cS r1.2.1))),(5,.d (.sl (cM cS r1.2.2))),(36,.d (.sl (cM aZ.cells a0.Groups))),(37,dI (a0.Groups.length:Int)),(38,dI p4)],[]⟩
theorem NW (a0:aB) (r1:(List ByteArray) × (List ByteArray) × (List ByteArray)) (p4:Int):bM TT sF (AA a0 r1 p4) (fun e s=>some (e,s)) = cO (fun (w:Int)=>AA a0 r1 w) (fun (r:Unit ⊕ Unit)=>Sum.elim (fun (z:Unit)=>(((.exit 0),⟨[(1,.d (.ptr a0.cells 0)),(4,.d (.sl (cM cS r1.2.1))),(5,.d (.sl (cM cS r1.2.2)))],[]⟩):Ex × St)) (fun (z:Unit)=>((.ret,⟨[(2,dI 1)],[]⟩):Ex × St)) r) (jH a0 r1 p4):=by
 unfold sF jH
 have u:=@tG
 exact iV
theorem OM {β:Type} (a0:aB) (r1:(List ByteArray) × (List ByteArray) × (List ByteArray)) (p4:Int) (k:Ex->St->Option β):bM TT D5 (AA a0 r1 p4) k = (wA a0 r1 p4).bind (fun (r:Unit ⊕ Unit)=>Sum.elim (fun (z:Unit)=>k (.exit 0) ⟨[(1,.d (.ptr a0.cells 0)),(4,.d (.sl (cM cS r1.2.1))),(5,.d (.sl (cM cS r1.2.2)))],[]⟩) (fun (z:Unit)=>k .ret ⟨[(2,dI 1)],[]⟩) r):=by
 have hh:=fun (w:Int)=>NW a0 r1 w
 have h:=fun ho=>bE (T:=TT) (k:=k) (c:=sF) (step:=(fun (w:Int)=>jH a0 r1 w)) _ _ ho hh p4
 refine Eq.trans (h (fun r s e=>by have q:=congrArg Prod.fst e; rcases r with x | x <;> cases q)) ?_
 unfold wA
 exact aV _ fun x=>by rcases x with x | x <;> rfl
theorem SO (a0:aB):Vm.call TT 17 [.agg a0.cells] = (nV a0).map fun (r:Int)=>.int .i64 r:=by
 refine (aW (show TT 17 = some (.code ⟨1,66,[.tmp 2],aNL,false,false⟩) from rfl) _ rfl rfl).trans ?_
 show bM TT aNL ⟨[(0,b9 a0.cells)],[]⟩ _ = _
 unfold aNL nV
 have u:=aN (aN (aN @OM @UK) (aN @PT @PG)) (aN (aN @QA @QO) (aN @QG @UV))
 exact iV
theorem IM (a0:aB):KF TT 17 [.agg a0.cells] (nV a0) (fun (r:Int)=>dI r):=kF (SO a0) (fun _=>rfl) (fun _=>rfl)
abbrev xE (a0:aJ) (a1 p1:Int):St:=⟨[(1,dI a1),(9,.d (.sl (cM aQ.cells a0.Choices))),(10,dI (a0.Choices.length:Int)),(11,dI p1)],[]⟩
theorem MT (a0:aJ) (a1 p1:Int):bM TT qL (xE a0 a1 p1) (fun e s=>some (e,s)) = cO (fun (w:Int)=>xE a0 a1 w) (fun (r:Unit ⊕ (Int × Bool))=>Sum.elim (fun (z:Unit)=>(((.exit 0),⟨[],[]⟩):Ex × St)) (fun (z:Int × Bool)=>((.ret,⟨[(4,dI z.1),(5,dB z.2)],[]⟩):Ex × St)) r) (iK a0 a1 p1):=by
 unfold qL iK
 exact yM
theorem M3 {β:Type} (a0:aJ) (a1 p1:Int) (k:Ex->St->Option β):bM TT DY (xE a0 a1 p1) k = (uB a0 a1 p1).bind (fun (r:Unit ⊕ (Int × Bool))=>Sum.elim (fun (z:Unit)=>k (.exit 0) ⟨[],[]⟩) (fun (z:Int × Bool)=>k .ret ⟨[(4,dI z.1),(5,dB z.2)],[]⟩) r):=by
 have hh:=fun (w:Int)=>MT a0 a1 w
 have h:=fun ho=>bE (T:=TT) (k:=k) (c:=qL) (step:=(fun (w:Int)=>iK a0 a1 w)) _ _ ho hh p1
 refine Eq.trans (h (fun r s e=>by have q:=congrArg Prod.fst e; rcases r with x | x <;> cases q)) ?_
 unfold uB
 exact aV _ fun x=>by rcases x with x | x <;> rfl
theorem RQ (a0:aJ) (a1:Int):Vm.call TT 45 [.agg a0.cells,.int .i64 a1] = (mI a0 a1).map fun (r:Int × Bool)=>.tup [.int .i64 r.1,.bool r.2]:=by
 refine (aW (show TT 45 = some (.code ⟨2,29,[.tmp 4,.tmp 5],aO0,false,false⟩) from rfl) _ rfl rfl).trans ?_
 show bM TT aO0 ⟨[(0,b9 a0.cells),(1,dI a1)],[]⟩ _ = _
 unfold aO0 mI
 have u:=@M3
 exact iV
theorem wG (a0:aJ) (a1:Int):KF TT 45 [.agg a0.cells,.int .i64 a1] (mI a0 a1) (fun (r:Int × Bool)=>.tup [dI r.1,dB r.2]):=kF (RQ a0 a1) (fun _=>rfl) (fun _=>rfl)
theorem a9 (a0:List Int):Vm.call TT 42 [.sl (cM cI a0)] = (aL a0).map fun (r:(List Int))=>.own (.ref 0) [(3,1)] [cM cI r]:=by
 refine (uF (show TT 42 = some (.told o42) from rfl) _ rfl).trans ?_
 have h1:sized 1 (cM cI a0) = true:=gM _ _ (fun x=>by rfl) a0
 have h2:NQ (cM cI a0) = true:=aKJ _ _ (fun x=>rfl)
 have h3:(cM cI a0).length = a0.length:=List.length_map ..
 simp only [o42,Y5,h1,h2,h3,true_and,aL]
 split <;> rfl
end Go.Proofs.YtoefdnkjcfoccaaDoor
