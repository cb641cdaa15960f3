/- Code and answers agree. -/
import Derived.Test.YtoefdnkjcfoccaaDoorLnkQ
set_option linter.unusedVariables false
set_option linter.unusedSimpArgs false
namespace Go.Proofs.YtoefdnkjcfoccaaDoor
open Vm
open Go.RowKit
set_option maxRecDepth 100000
set_option maxHeartbeats 4000000
attribute [local congr] qD s6 qG s9
abbrev oI (a0:ByteArray) (a1 p1:Int) (p2:List aS):St:=⟨[(1,dI a1),(4,.ptr 4 0),(5,.ptr 5 0),(6,dI p1)],[(4,some (.box [.d (.str ByteArray.empty),dB false,.nil,.nil])),(5,some (.box [.d (.str a0),dB false,.nil,.own 22 0])),(22,some (.rows 0 96 4 (cM aS.cells p2)))]⟩
theorem E0 (a0:ByteArray) (a1 p1:Int) (p2:List aS):bM TT kQ (oI a0 a1 p1 p2) (fun e s=>some (e,s)) = cO (fun (w:Int × (List aS))=>oI a0 a1 w.1 w.2) (fun (r:(List aS))=>(((.exit 0),⟨[(4,.ptr 4 0),(5,.ptr 5 0)],[(4,some (.box [.d (.str ByteArray.empty),dB false,.nil,.nil])),(5,some (.box [.d (.str a0),dB false,.nil,.own 22 0])),(22,some (.rows 0 96 4 (cM aS.cells r)))]⟩):Ex × St)) (kP a0 a1 p1 p2):=by
 unfold kQ kP
 exact yM
theorem FD {β:Type} (a0:ByteArray) (a1 p1:Int) (p2:List aS) (k:Ex->St->Option β):bM TT vZ (oI a0 a1 p1 p2) k = (qM a0 a1 p1 p2).bind (fun (r:(List aS))=>k (.exit 0) ⟨[(4,.ptr 4 0),(5,.ptr 5 0)],[(4,some (.box [.d (.str ByteArray.empty),dB false,.nil,.nil])),(5,some (.box [.d (.str a0),dB false,.nil,.own 22 0])),(22,some (.rows 0 96 4 (cM aS.cells r)))]⟩):=by
 have hh:=fun (w:Int × (List aS))=>E0 a0 a1 w.1 w.2
 have h:=fun ho=>bE (T:=TT) (k:=k) (c:=kQ) (step:=(fun (w:Int × (List aS))=>kP a0 a1 w.1 w.2)) _ _ ho hh (p1,p2)
 refine Eq.trans (h (fun r s e=>by have q:=congrArg Prod.fst e; rcases r with x <;> cases q)) ?_
 unfold qM
 exact aV _ fun x=>by rcases x with x <;> rfl
theorem H6 (a0:ByteArray) (a1:Int):Vm.call TT 29 [.str a0,.int .i64 a1] = (lT a0 a1).map fun (r:aJ)=>.agg r.cells:=by
 refine (aW (show TT 29 = some (.code ⟨2,25,[.cell 4 4 true],aPe,false,false⟩) from rfl) _ rfl rfl).trans ?_
 show bM TT aPe ⟨[(0,.d (.str a0)),(1,dI a1)],[]⟩ _ = _
 unfold aPe lT
 have u:=@FD
 exact iV
theorem H0 (a0:ByteArray) (a1:Int):KD TT 29 [.str a0,.int .i64 a1] (lT a0 a1) (fun (r:aJ)=>b9 r.cells):=kD (H6 a0 a1) (fun _=>rfl) (fun _=>rfl) (fun _=>rfl)
theorem FU:Vm.call TT 14 [] = (m9).map fun (r:aB)=>.agg r.cells:=by
 refine (aW (show TT 14 = some (.code ⟨0,16,[.cell 0 8 true],aQo,false,false⟩) from rfl) _ rfl rfl).trans ?_
 show bM TT aQo ⟨[],[]⟩ _ = _
 unfold aQo m9
 have u:=@H0
 exact iV
theorem FJ:KD TT 14 [] (m9) (fun (r:aB)=>b9 r.cells):=kD (FU ) (fun _=>rfl) (fun _=>rfl) (fun _=>rfl)
abbrev yN (a0:aB) (p1:Int) (p2:List ByteArray):St:=⟨[(1,.ptr 1 0),(2,.own 22 0),(3,.nil),(4,.nil),(12,.d (.sl (cM aX.cells a0.Cities))),(13,dI (a0.Cities.length:Int)),(14,dI p1)],[(1,some (.box (aE a0.cells))),(22,some (.rows 0 9 1 (cM cS p2)))]⟩
theorem OU (a0:aB) (p1:Int) (p2:List ByteArray):bM TT sS (yN a0 p1 p2) (fun e s=>some (e,s)) = cO (fun (w:Int × (List ByteArray))=>yN a0 w.1 w.2) (fun (r:(List ByteArray))=>(((.exit 0),⟨[(1,.ptr 1 0),(2,.own 22 0),(3,.nil),(4,.nil)],[(1,some (.box (aE a0.cells))),(22,some (.rows 0 9 1 (cM cS r)))]⟩):Ex × St)) (jI a0 p1 p2):=by
 unfold sS jI
 exact yM
theorem NF {β:Type} (a0:aB) (p1:Int) (p2:List ByteArray) (k:Ex->St->Option β):bM TT D7 (yN a0 p1 p2) k = (wJ a0 p1 p2).bind (fun (r:(List ByteArray))=>k (.exit 0) ⟨[(1,.ptr 1 0),(2,.own 22 0),(3,.nil),(4,.nil)],[(1,some (.box (aE a0.cells))),(22,some (.rows 0 9 1 (cM cS r)))]⟩):=by
 have hh:=fun (w:Int × (List ByteArray))=>OU a0 w.1 w.2
 have h:=fun ho=>bE (T:=TT) (k:=k) (c:=sS) (step:=(fun (w:Int × (List ByteArray))=>jI a0 w.1 w.2)) _ _ ho hh (p1,p2)
 refine Eq.trans (h (fun r s e=>by have q:=congrArg Prod.fst e; rcases r with x <;> cases q)) ?_
 unfold wJ
 exact aV _ fun x=>by rcases x with x <;> rfl
abbrev yY (a0:aB) (r5:(List ByteArray)) (p6:Int) (p7:List ByteArray):St:=⟨[(1,.ptr 1 0),(2,.own 22 0),(3,.own 35 0),(4,.nil),(25,.d (.sl (cM bB.cells a0.Firms))),(26,dI (a0.Firms.length:Int)),(27,dI p6)],[(1,some (.box (aE a0.cells))),(22,some (.rows 0 9 1 (cM cS r5))),(35,some (.rows 0 9 1 (cM cS p7)))]⟩
theorem NI (a0:aB) (r5:(List ByteArray)) (p6:Int) (p7:List ByteArray):bM TT sR (yY a0 r5 p6 p7) (fun e s=>some (e,s)) = cO (fun (w:Int × (List ByteArray))=>yY a0 r5 w.1 w.2) (fun (r:(List ByteArray))=>(((.exit 2),⟨[(1,.ptr 1 0),(2,.own 22 0),(3,.own 35 0),(4,.nil)],[(1,some (.box (aE a0.cells))),(22,some (.rows 0 9 1 (cM cS r5))),(35,some (.rows 0 9 1 (cM cS r)))]⟩):Ex × St)) (jF a0 r5 p6 p7):=by
 unfold sR jF
 exact yM
theorem NN {β:Type} (a0:aB) (r5:(List ByteArray)) (p6:Int) (p7:List ByteArray) (k:Ex->St->Option β):bM TT D3 (yY a0 r5 p6 p7) k = (wB a0 r5 p6 p7).bind (fun (r:(List ByteArray))=>k (.exit 2) ⟨[(1,.ptr 1 0),(2,.own 22 0),(3,.own 35 0),(4,.nil)],[(1,some (.box (aE a0.cells))),(22,some (.rows 0 9 1 (cM cS r5))),(35,some (.rows 0 9 1 (cM cS r)))]⟩):=by
 have hh:=fun (w:Int × (List ByteArray))=>NI a0 r5 w.1 w.2
 have h:=fun ho=>bE (T:=TT) (k:=k) (c:=sR) (step:=(fun (w:Int × (List ByteArray))=>jF a0 r5 w.1 w.2)) _ _ ho hh (p6,p7)
 refine Eq.trans (h (fun r s e=>by have q:=congrArg Prod.fst e; rcases r with x <;> cases q)) ?_
 unfold wB
 exact aV _ fun x=>by rcases x with x <;> rfl
abbrev zW (a0:aB) (r10 r5:(List ByteArray)) (p11:Int) (p12:List ByteArray):St:=⟨[(2,.own 22 0),(3,.own 35 0),(4,.own 48 0),(38,.d (.sl (cM aJ.cells a0.Orders))),(39,dI (a0.Orders.length:Int)),(40,dI p11)],[(22,some (.rows 0 9 1 (cM cS r5))),(35,some (.rows 0 9 1 (cM cS r10))),(48,some (.rows 0 9 1 (cM cS p12)))]⟩
theorem O8 (a0:aB) (r10 r5:(List ByteArray)) (p11:Int) (p12:List ByteArray):bM TT sU (zW a0 r10 r5 p11 p12) (fun e s=>some (e,s)) = cO (fun (w:Int × (List ByteArray))=>zW a0 r10 r5 w.1 w.2) (fun (r:(List ByteArray))=>(((.exit 4),⟨[(2,.own 22 0),(3,.own 35 0),(4,.own 48 0)],[(22,some (.rows 0 9 1 (cM cS r5))),(35,some (.rows 0 9 1 (cM cS r10))),(48,some (.rows 0 9 1 (cM cS r)))]⟩):Ex × St)) (i6 a0 r10 r5 p11 p12):=by
 unfold sU i6
 exact yM
theorem NO {β:Type} (a0:aB) (r10 r5:(List ByteArray)) (p11:Int) (p12:List ByteArray) (k:Ex->St->Option β):bM TT EM (zW a0 r10 r5 p11 p12) k = (wD a0 r10 r5 p11 p12).bind (fun (r:(List ByteArray))=>k (.exit 4) ⟨[(2,.own 22 0),(3,.own 35 0),(4,.own 48 0)],[(22,some (.rows 0 9 1 (cM cS r5))),(35,some (.rows 0 9 1 (cM cS r10))),(48,some (.rows 0 9 1 (cM cS r)))]⟩):=by
 have hh:=fun (w:Int × (List ByteArray))=>O8 a0 r10 r5 w.1 w.2
 have h:=fun ho=>bE (T:=TT) (k:=k) (c:=sU) (step:=(fun (w:Int × (List ByteArray))=>i6 a0 r10 r5 w.1 w.2)) _ _ ho hh (p11,p12)
 refine Eq.trans (h (fun r s e=>by have q:=congrArg Prod.fst e; rcases r with x <;> cases q)) ?_
 unfold wD
 exact aV _ fun x=>by rcases x with x <;> rfl
theorem SJ (a0:aB):Vm.call TT 30 [.agg a0.cells] = (uH a0).map fun (r:(List ByteArray) × (List ByteArray) × (List ByteArray))=>.tup [.sl (cM cS r.1),.sl (cM cS r.2.1),.sl (cM cS r.2.2)]:=by
 refine (aW (show TT 30 = some (.code ⟨1,53,[.tmp 2,.tmp 3,.tmp 4],aNz,false,false⟩) from rfl) _ rfl rfl).trans ?_
 show bM TT aNz ⟨[(0,b9 a0.cells)],[]⟩ _ = _
 unfold aNz uH
 have u:=aN @NF (aN @NN @NO)
 exact iV
theorem UK (a0:aB):KD TT 30 [.agg a0.cells] (uH a0) (fun (r:(List ByteArray) × (List ByteArray) × (List ByteArray))=>.tup [.d (.sl (cM cS r.1)),.d (.sl (cM cS r.2.1)),.d (.sl (cM cS r.2.2))]):=kD (SJ a0) (fun _=>rfl) (fun _=>rfl) (fun _=>rfl)
theorem LT {β:Type} (a0:ByteArray) (p1 x2:Int) (p3:Bool) (k:Ex->St->Option β):bM TT xR ⟨[(3,dI p1),(4,.d (.int .u8 x2)),(5,dB p3),(14,.d (.sl (cM (cK .u8) (rH a0)))),(15,dI ((rH a0).length:Int)),(16,dI p1)],[]⟩ k = (gE a0 p1 x2 p3).bind (fun (r:Unit ⊕ Unit)=>Sum.elim (fun (z:Unit)=>k .normal ⟨[(14,.d (.sl (cM (cK .u8) (rH a0)))),(15,dI ((rH a0).length:Int)),(16,dI p1)],[]⟩) (fun (z:Unit)=>k .ret ⟨[(2,dB false)],[]⟩) r):=by
 unfold xR gE
 exact yM
abbrev xB (a0:ByteArray) (p1:Int):St:=⟨[(14,.d (.sl (cM (cK .u8) (rH a0)))),(15,dI ((rH a0).length:Int)),(16,dI p1)],[]⟩
theorem MR (a0:ByteArray) (p1:Int):bM TT rG (xB a0 p1) (fun e s=>some (e,s)) = cO (fun (w:Int)=>xB a0 w) (fun (r:Unit ⊕ Unit)=>Sum.elim (fun (z:Unit)=>(((.exit 0),⟨[],[]⟩):Ex × St)) (fun (z:Unit)=>((.ret,⟨[(2,dB false)],[]⟩):Ex × St)) r) (iG a0 p1):=by
 unfold rG iG
 have u:=@LT
 exact iV
theorem LY {β:Type} (a0:ByteArray) (p1:Int) (k:Ex->St->Option β):bM TT C1 (xB a0 p1) k = (uC a0 p1).bind (fun (r:Unit ⊕ Unit)=>Sum.elim (fun (z:Unit)=>k (.exit 0) ⟨[],[]⟩) (fun (z:Unit)=>k .ret ⟨[(2,dB false)],[]⟩) r):=by
 have hh:=fun (w:Int)=>MR a0 w
 have h:=fun ho=>bE (T:=TT) (k:=k) (c:=rG) (step:=(fun (w:Int)=>iG a0 w)) _ _ ho hh p1
 refine Eq.trans (h (fun r s e=>by have q:=congrArg Prod.fst e; rcases r with x | x <;> cases q)) ?_
 unfold uC
 exact aV _ fun x=>by rcases x with x | x <;> rfl
theorem RW (a0:ByteArray):Vm.call TT 64 [.str a0] = (rU a0).map fun (r:Bool)=>.bool r:=by
 refine (aW (show TT 64 = some (.code ⟨1,54,[.tmp 2],aOx,false,false⟩) from rfl) _ rfl rfl).trans ?_
 show bM TT aOx ⟨[(0,.d (.str a0))],[]⟩ _ = _
 unfold aOx rU
 have u:=@LY
 exact iV
theorem RY (a0:ByteArray):KF TT 64 [.str a0] (rU a0) (fun (r:Bool)=>dB r):=kF (RW a0) (fun _=>rfl) (fun _=>rfl)
abbrev jW (a0:List ByteArray) (a1:ByteArray) (p1:Int):St:=⟨[(0,.d (.sl (cM cS a0))),(1,.d (.str a1)),(7,dI (a0.length:Int)),(8,dI p1)],[]⟩
theorem AE (a0:List ByteArray) (a1:ByteArray) (p1:Int):bM TT fM (jW a0 a1 p1) (fun e s=>some (e,s)) = cO (fun (w:Int)=>jW a0 a1 w) (fun (r:Unit ⊕ Int)=>Sum.elim (fun (z:Unit)=>(((.exit 0),⟨[],[]⟩):Ex × St)) (fun (z:Int)=>((.ret,⟨[(4,dI z)],[]⟩):Ex × St)) r) (cC a0 a1 p1):=by
 unfold fM cC
 exact yM
theorem zY {β:Type} (a0:List ByteArray) (a1:ByteArray) (p1:Int) (k:Ex->St->Option β):bM TT n0 (jW a0 a1 p1) k = (gH a0 a1 p1).bind (fun (r:Unit ⊕ Int)=>Sum.elim (fun (z:Unit)=>k (.exit 0) ⟨[],[]⟩) (fun (z:Int)=>k .ret ⟨[(4,dI z)],[]⟩) r):=by
 have hh:=fun (w:Int)=>AE a0 a1 w
 have h:=fun ho=>bE (T:=TT) (k:=k) (c:=fM) (step:=(fun (w:Int)=>cC a0 a1 w)) _ _ ho hh p1
 refine Eq.trans (h (fun r s e=>by have q:=congrArg Prod.fst e; rcases r with x | x <;> cases q)) ?_
 unfold gH
 exact aV _ fun x=>by rcases x with x | x <;> rfl
theorem BJ (a0:List ByteArray) (a1:ByteArray):Vm.call TT 74 [.sl (cM cS a0),.str a1] = (dS a0 a1).map fun (r:Int)=>.int .i64 r:=by
 refine (aW (show TT 74 = some (.code ⟨2,19,[.tmp 4],aPl,false,false⟩) from rfl) _ rfl rfl).trans ?_
 show bM TT aPl ⟨[(0,.d (.sl (cM cS a0))),(1,.d (.str a1))],[]⟩ _ = _
 unfold aPl dS
 have u:=@zY
 exact iV
theorem BV (a0:List ByteArray) (a1:ByteArray):KF TT 74 [.sl (cM cS a0),.str a1] (dS a0 a1) (fun (r:Int)=>dI r):=kF (BJ a0 a1) (fun _=>rfl) (fun _=>rfl)
theorem yV (a0:List ByteArray) (a1:ByteArray):Vm.call TT 65 [.sl (cM cS a0),.str a1] = (dD a0 a1).map fun (r:Bool)=>.bool r:=by
 refine (aW (show TT 65 = some (.code ⟨2,9,[.tmp 4],aNe,false,false⟩) from rfl) _ rfl rfl).trans ?_
 show bM TT aNe ⟨[(0,.d (.sl (cM cS a0))),(1,.d (.str a1))],[]⟩ _ = _
 unfold aNe dD
 have u:=@BV
 exact iV
theorem zO (a0:List ByteArray) (a1:ByteArray):KF TT 65 [.sl (cM cS a0),.str a1] (dD a0 a1) (fun (r:Bool)=>dB r):=kF (yV a0 a1) (fun _=>rfl) (fun _=>rfl)
theorem UD (a0:List ByteArray) (a1:Int):Vm.call TT 55 [.sl (cM cS a0),.int .i64 a1] = (kS a0 a1).map fun (r:Int)=>.int .i64 r:=by
 refine (aW (show TT 55 = some (.code ⟨2,19,[.tmp 4],aOr,false,false⟩) from rfl) _ rfl rfl).trans ?_
 show bM TT aOr ⟨[(0,.d (.sl (cM cS a0))),(1,dI a1)],[]⟩ _ = _
 unfold aOr kS
 have u:=aN @RY @zO
 exact iV
theorem zS (a0:List ByteArray) (a1:Int):KF TT 55 [.sl (cM cS a0),.int .i64 a1] (kS a0 a1) (fun (r:Int)=>dI r):=kF (UD a0 a1) (fun _=>rfl) (fun _=>rfl)
theorem QM (a0:Int):Vm.call TT 32 [.int .i64 a0] = (tJ a0).map fun (r:Bool)=>.bool r:=by
 refine (aW (show TT 32 = some (.code ⟨1,3,[.tmp 2],aPY,false,false⟩) from rfl) _ rfl rfl).trans ?_
 show bM TT aPY ⟨[(0,dI a0)],[]⟩ _ = _
 unfold aPY tJ
 exact yM
theorem PQ (a0:Int):KF TT 32 [.int .i64 a0] (tJ a0) (fun (r:Bool)=>dB r):=kF (QM a0) (fun _=>rfl) (fun _=>rfl)
abbrev uY (a0:List ByteArray) (p1:Int):St:=⟨[(0,.d (.sl (cM cS a0))),(2,.d (.fn 32 [])),(14,dI (a0.length:Int)),(15,dI p1)],[]⟩
theorem KP (a0:List ByteArray) (p1:Int):bM TT dC (uY a0 p1) (fun e s=>some (e,s)) = cO (fun (w:Int)=>uY a0 w) (fun (r:Unit ⊕ Int)=>Sum.elim (fun (z:Unit)=>(((.exit 0),⟨[],[]⟩):Ex × St)) (fun (z:Int)=>((.ret,⟨[(6,dI z)],[]⟩):Ex × St)) r) (lS a0 p1):=by
 unfold dC lS
 have u:=aN @PQ @zS
 exact iV
theorem J9 {β:Type} (a0:List ByteArray) (p1:Int) (k:Ex->St->Option β):bM TT pP (uY a0 p1) k = (AG a0 p1).bind (fun (r:Unit ⊕ Int)=>Sum.elim (fun (z:Unit)=>k (.exit 0) ⟨[],[]⟩) (fun (z:Int)=>k .ret ⟨[(6,dI z)],[]⟩) r):=by
 have hh:=fun (w:Int)=>KP a0 w
 have h:=fun ho=>bE (T:=TT) (k:=k) (c:=dC) (step:=(fun (w:Int)=>lS a0 w)) _ _ ho hh p1
 refine Eq.trans (h (fun r s e=>by have q:=congrArg Prod.fst e; rcases r with x | x <;> cases q)) ?_
 unfold AG
 exact aV _ fun x=>by rcases x with x | x <;> rfl
theorem QH (a0:List ByteArray) (a1:Int):Vm.call TT 31 [.sl (cM cS a0),.int .i64 a1,.fn 32 []] = (pG a0 a1).map fun (r:Int)=>.int .i64 r:=by
 refine (aW (show TT 31 = some (.code ⟨3,29,[.tmp 6],PM,false,false⟩) from rfl) _ rfl rfl).trans ?_
 show bM TT PM ⟨[(0,.d (.sl (cM cS a0))),(1,dI a1),(2,.d (.fn 32 []))],[]⟩ _ = _
 unfold PM pG
 have u:=@J9
 exact iV
theorem PT (a0:List ByteArray) (a1:Int):KF TT 31 [.sl (cM cS a0),.int .i64 a1,.fn 32 []] (pG a0 a1) (fun (r:Int)=>dI r):=kF (QH a0 a1) (fun _=>rfl) (fun _=>rfl)
theorem ZG (a0 a1:Int):Vm.call TT 35 [.int .i64 a0,.int .i64 a1] = (gG a0 a1).map fun (r:Bool)=>.bool r:=by
 refine (aW (show TT 35 = some (.code ⟨2,12,[.tmp 4],aO4,false,false⟩) from rfl) _ rfl rfl).trans ?_
 show bM TT aO4 ⟨[(0,dI a0),(1,dI a1)],[]⟩ _ = _
 unfold aO4 gG
 exact yM
theorem tG (a0 a1:Int):KF TT 35 [.int .i64 a0,.int .i64 a1] (gG a0 a1) (fun (r:Bool)=>dB r):=kF (ZG a0 a1) (fun _=>rfl) (fun _=>rfl)
abbrev xK (a0:List Int) (a1 a2 p1:Int):St:=⟨[(0,.d (.sl (cM cI a0))),(1,dI a1),(2,dI a2),(9,.d (.sl (cM cI a0))),(10,dI (a0.length:Int)),(11,dI p1)],[]⟩
theorem LV (a0:List Int) (a1 a2 p1:Int):bM TT qK (xK a0 a1 a2 p1) (fun e s=>some (e,s)) = cO (fun (w:Int)=>xK a0 a1 a2 w) (fun (r:Unit ⊕ Unit)=>Sum.elim (fun (z:Unit)=>(((.exit 0),⟨[],[]⟩):Ex × St)) (fun (z:Unit)=>((.ret,⟨[(6,dB false)],[]⟩):Ex × St)) r) (iH a0 a1 a2 p1):=by
 unfold qK iH
 exact yM
theorem L9 {β:Type} (a0:List Int) (a1 a2 p1:Int) (k:Ex->St->Option β):bM TT C0 (xK a0 a1 a2 p1) k = (uG a0 a1 a2 p1).bind (fun (r:Unit ⊕ Unit)=>Sum.elim (fun (z:Unit)=>k (.exit 0) ⟨[],[]⟩) (fun (z:Unit)=>k .ret ⟨[(6,dB false)],[]⟩) r):=by
 have hh:=fun (w:Int)=>LV a0 a1 a2 w
 have h:=fun ho=>bE (T:=TT) (k:=k) (c:=qK) (step:=(fun (w:Int)=>iH a0 a1 a2 w)) _ _ ho hh p1
 refine Eq.trans (h (fun r s e=>by have q:=congrArg Prod.fst e; rcases r with x | x <;> cases q)) ?_
 unfold uG
 exact aV _ fun x=>by rcases x with x | x <;> rfl
theorem RV (a0:List Int) (a1 a2:Int):Vm.call TT 56 [.sl (cM cI a0),.int .i64 a1,.int .i64 a2] = (iY a0 a1 a2).map fun (r:Bool)=>.bool r:=by
 refine (aW (show TT 56 = some (.code ⟨3,38,[.tmp 6],aQa,false,false⟩) from rfl) _ rfl rfl).trans ?_
 show bM TT aQa ⟨[(0,.d (.sl (cM cI a0))),(1,dI a1),(2,dI a2)],[]⟩ _ = _
 unfold aQa iY
 have u:=@L9
 exact iV
theorem HU (a0:List Int) (a1 a2:Int):KF TT 56 [.sl (cM cI a0),.int .i64 a1,.int .i64 a2] (iY a0 a1 a2) (fun (r:Bool)=>dB r):=kF (RV a0 a1 a2) (fun _=>rfl) (fun _=>rfl)
abbrev A9 (a0:aB) (a1:aX) (p1:Int):St:=⟨[(2,.ptr 2 0),(3,.ptr 3 0),(8,.d (.sl (cM cI a1.Feasts))),(9,dI (a1.Feasts.length:Int)),(10,dI p1)],[(2,some (.box (aE a0.cells))),(3,some (.box (aE a1.cells)))]⟩
theorem P5 (a0:aB) (a1:aX) (p1:Int):bM TT tQ (A9 a0 a1 p1) (fun e s=>some (e,s)) = cO (fun (w:Int)=>A9 a0 a1 w) (fun (r:Unit ⊕ Unit)=>Sum.elim (fun (z:Unit)=>(((.exit 0),⟨[(2,.ptr 2 0),(3,.ptr 3 0)],[(2,some (.box (aE a0.cells))),(3,some (.box (aE a1.cells)))]⟩):Ex × St)) (fun (z:Unit)=>((.ret,⟨[(4,dB false)],[]⟩):Ex × St)) r) (kJ a0 a1 p1):=by
 unfold tQ kJ
 exact yM
theorem PH {β:Type} (a0:aB) (a1:aX) (p1:Int) (k:Ex->St->Option β):bM TT F1 (A9 a0 a1 p1) k = (yP a0 a1 p1).bind (fun (r:Unit ⊕ Unit)=>Sum.elim (fun (z:Unit)=>k (.exit 0) ⟨[(2,.ptr 2 0),(3,.ptr 3 0)],[(2,some (.box (aE a0.cells))),(3,some (.box (aE a1.cells)))]⟩) (fun (z:Unit)=>k .ret ⟨[(4,dB false)],[]⟩) r):=by
 have hh:=fun (w:Int)=>P5 a0 a1 w
 have h:=fun ho=>bE (T:=TT) (k:=k) (c:=tQ) (step:=(fun (w:Int)=>kJ a0 a1 w)) _ _ ho hh p1
 refine Eq.trans (h (fun r s e=>by have q:=congrArg Prod.fst e; rcases r with x | x <;> cases q)) ?_
 unfold yP
 exact aV _ fun x=>by rcases x with x | x <;> rfl
theorem VT (a0:aB) (a1:aX):Vm.call TT 34 [.agg a0.cells,.agg a1.cells] = (xU a0 a1).map fun (r:Bool)=>.bool r:=by
 refine (aW (show TT 34 = some (.code ⟨2,64,[.tmp 4],aNd,false,false⟩) from rfl) _ rfl rfl).trans ?_
 show bM TT aNd ⟨[(0,b9 a0.cells),(1,b9 a1.cells)],[]⟩ _ = _
 unfold aNd xU
 have u:=aN @PH (aN @tG @HU)
 exact iV
theorem U1 (a0:aB) (a1:aX):KF TT 34 [.agg a0.cells,.agg a1.cells] (xU a0 a1) (fun (r:Bool)=>dB r):=kF (VT a0 a1) (fun _=>rfl) (fun _=>rfl)
end Go.Proofs.YtoefdnkjcfoccaaDoor
