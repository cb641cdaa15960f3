/- The functions of the small machine compute the plain definitions. Printed by a program. -/
import Derived.Test.YtjjcaapdaldedaaFn
set_option linter.unusedVariables false
set_option linter.unusedSimpArgs false
namespace Go.Proofs.Ytjjcaapdaldedaa
open Vm
open Go.RowKit
set_option maxRecDepth 100000
set_option maxHeartbeats 4000000
attribute [local congr] u9 yL vJ yM
abbrev qR (a0:ByteArray) (a1 p1:Int) (p2:List a8):St:=⟨[(1,dI a1),(4,.ptr 4 0),(5,.ptr 5 0),(6,dI p1)],[(4,some (.box [.d (.str ByteArray.empty),dB false,.nil,.nil])),(5,some (.box [.d (.str a0),dB false,.nil,.own 22 0])),(22,some (.rows 0 69 4 (cM a8.cells p2)))]⟩
theorem GF (a0:ByteArray) (a1 p1:Int) (p2:List a8):bD TT mO (qR a0 a1 p1 p2) (fun e s=>some (e,s)) = bH (fun (w:Int × (List a8))=>qR a0 a1 w.1 w.2) (fun (r:(List a8))=>(((.exit 0),⟨[(4,.ptr 4 0),(5,.ptr 5 0)],[(4,some (.box [.d (.str ByteArray.empty),dB false,.nil,.nil])),(5,some (.box [.d (.str a0),dB false,.nil,.own 22 0])),(22,some (.rows 0 69 4 (cM a8.cells r)))]⟩):Ex × St)) (mM a0 a1 p1 p2):=by
 unfold mO mM
 exact DF
theorem GC {β:Type} (a0:ByteArray) (a1 p1:Int) (p2:List a8) (k:Ex->St->Option β):bD TT xN (qR a0 a1 p1 p2) k = (tG a0 a1 p1 p2).bind (fun (r:(List a8))=>k (.exit 0) ⟨[(4,.ptr 4 0),(5,.ptr 5 0)],[(4,some (.box [.d (.str ByteArray.empty),dB false,.nil,.nil])),(5,some (.box [.d (.str a0),dB false,.nil,.own 22 0])),(22,some (.rows 0 69 4 (cM a8.cells r)))]⟩):=by
 have hh:=fun (w:Int × (List a8))=>GF a0 a1 w.1 w.2
 have h:=fun ho=>aU (T:=TT) (k:=k) (c:=mO) (step:=(fun (w:Int × (List a8))=>mM a0 a1 w.1 w.2)) _ _ ho hh (p1,p2)
 refine Eq.trans (h (fun r s e=>by have q:=congrArg Prod.fst e; rcases r with x <;> cases q)) ?_
 unfold tG
 exact aH _ fun x=>by rcases x with x <;> rfl
theorem KE (a0:ByteArray) (a1:Int):Vm.call TT 15 [.str a0,.int .i64 a1] = (nX a0 a1).map fun (r:aG)=>.agg r.cells:=by
 refine (aR (show TT 15 = some (.code ⟨2,25,[.cell 4 4 true],aLN,false,false⟩) from rfl) _ rfl rfl).trans ?_
 show bD TT aLN ⟨[(0,.d (.str a0)),(1,dI a1)],[]⟩ _ = _
 unfold aLN nX
 have u:=@GC
 exact i9
theorem J5 (a0:ByteArray) (a1:Int):KD TT 15 [.str a0,.int .i64 a1] (nX a0 a1) (fun (r:aG)=>fL r.cells):=kD (KE a0 a1) (fun _=>rfl) (fun _=>rfl) (fun _=>rfl)
theorem HJ:Vm.call TT 16 [] = (o4).map fun (r:aA)=>.agg r.cells:=by
 refine (aR (show TT 16 = some (.code ⟨0,16,[.cell 0 8 true],aMt,false,false⟩) from rfl) _ rfl rfl).trans ?_
 show bD TT aMt ⟨[],[]⟩ _ = _
 unfold aMt o4
 have u:=@J5
 exact i9
theorem HO:KD TT 16 [] (o4) (fun (r:aA)=>fL r.cells):=kD (HJ ) (fun _=>rfl) (fun _=>rfl) (fun _=>rfl)
abbrev BC (a0:aA) (p1:Int) (p2:List ByteArray):St:=⟨[(1,.ptr 1 0),(2,.own 22 0),(3,.nil),(4,.nil),(12,.d (.sl (cM a7.cells a0.Cities))),(13,dI (a0.Cities.length:Int)),(14,dI p1)],[(1,some (.box (aK a0.cells))),(22,some (.rows 0 9 1 (cM cS p2)))]⟩
theorem PG (a0:aA) (p1:Int) (p2:List ByteArray):bD TT uE (BC a0 p1 p2) (fun e s=>some (e,s)) = bH (fun (w:Int × (List ByteArray))=>BC a0 w.1 w.2) (fun (r:(List ByteArray))=>(((.exit 0),⟨[(1,.ptr 1 0),(2,.own 22 0),(3,.nil),(4,.nil)],[(1,some (.box (aK a0.cells))),(22,some (.rows 0 9 1 (cM cS r)))]⟩):Ex × St)) (j9 a0 p1 p2):=by
 unfold uE j9
 exact DF
theorem QG {β:Type} (a0:aA) (p1:Int) (p2:List ByteArray) (k:Ex->St->Option β):bD TT F2 (BC a0 p1 p2) k = (xX a0 p1 p2).bind (fun (r:(List ByteArray))=>k (.exit 0) ⟨[(1,.ptr 1 0),(2,.own 22 0),(3,.nil),(4,.nil)],[(1,some (.box (aK a0.cells))),(22,some (.rows 0 9 1 (cM cS r)))]⟩):=by
 have hh:=fun (w:Int × (List ByteArray))=>PG a0 w.1 w.2
 have h:=fun ho=>aU (T:=TT) (k:=k) (c:=uE) (step:=(fun (w:Int × (List ByteArray))=>j9 a0 w.1 w.2)) _ _ ho hh (p1,p2)
 refine Eq.trans (h (fun r s e=>by have q:=congrArg Prod.fst e; rcases r with x <;> cases q)) ?_
 unfold xX
 exact aH _ fun x=>by rcases x with x <;> rfl
abbrev AE (a0:aA) (r5:(List ByteArray)) (p6:Int) (p7:List ByteArray):St:=⟨[(1,.ptr 1 0),(2,.own 22 0),(3,.own 35 0),(4,.nil),(25,.d (.sl (cM cF.cells a0.Firms))),(26,dI (a0.Firms.length:Int)),(27,dI p6)],[(1,some (.box (aK a0.cells))),(22,some (.rows 0 9 1 (cM cS r5))),(35,some (.rows 0 9 1 (cM cS p7)))]⟩
theorem QH (a0:aA) (r5:(List ByteArray)) (p6:Int) (p7:List ByteArray):bD TT uG (AE a0 r5 p6 p7) (fun e s=>some (e,s)) = bH (fun (w:Int × (List ByteArray))=>AE a0 r5 w.1 w.2) (fun (r:(List ByteArray))=>(((.exit 2),⟨[(1,.ptr 1 0),(2,.own 22 0),(3,.own 35 0),(4,.nil)],[(1,some (.box (aK a0.cells))),(22,some (.rows 0 9 1 (cM cS r5))),(35,some (.rows 0 9 1 (cM cS r)))]⟩):Ex × St)) (kS a0 r5 p6 p7):=by
 unfold uG kS
 exact DF
theorem P1 {β:Type} (a0:aA) (r5:(List ByteArray)) (p6:Int) (p7:List ByteArray) (k:Ex->St->Option β):bD TT FZ (AE a0 r5 p6 p7) k = (yB a0 r5 p6 p7).bind (fun (r:(List ByteArray))=>k (.exit 2) ⟨[(1,.ptr 1 0),(2,.own 22 0),(3,.own 35 0),(4,.nil)],[(1,some (.box (aK a0.cells))),(22,some (.rows 0 9 1 (cM cS r5))),(35,some (.rows 0 9 1 (cM cS r)))]⟩):=by
 have hh:=fun (w:Int × (List ByteArray))=>QH a0 r5 w.1 w.2
 have h:=fun ho=>aU (T:=TT) (k:=k) (c:=uG) (step:=(fun (w:Int × (List ByteArray))=>kS a0 r5 w.1 w.2)) _ _ ho hh (p6,p7)
 refine Eq.trans (h (fun r s e=>by have q:=congrArg Prod.fst e; rcases r with x <;> cases q)) ?_
 unfold yB
 exact aH _ fun x=>by rcases x with x <;> rfl
abbrev AU (a0:aA) (r10 r5:(List ByteArray)) (p11:Int) (p12:List ByteArray):St:=⟨[(2,.own 22 0),(3,.own 35 0),(4,.own 48 0),(38,.d (.sl (cM aG.cells a0.Orders))),(39,dI (a0.Orders.length:Int)),(40,dI p11)],[(22,some (.rows 0 9 1 (cM cS r5))),(35,some (.rows 0 9 1 (cM cS r10))),(48,some (.rows 0 9 1 (cM cS p12)))]⟩
theorem QN (a0:aA) (r10 r5:(List ByteArray)) (p11:Int) (p12:List ByteArray):bD TT uC (AU a0 r10 r5 p11 p12) (fun e s=>some (e,s)) = bH (fun (w:Int × (List ByteArray))=>AU a0 r10 r5 w.1 w.2) (fun (r:(List ByteArray))=>(((.exit 4),⟨[(2,.own 22 0),(3,.own 35 0),(4,.own 48 0)],[(22,some (.rows 0 9 1 (cM cS r5))),(35,some (.rows 0 9 1 (cM cS r10))),(48,some (.rows 0 9 1 (cM cS r)))]⟩):Ex × St)) (kY a0 r10 r5 p11 p12):=by
 unfold uC kY
 exact DF
theorem Q0 {β:Type} (a0:aA) (r10 r5:(List ByteArray)) (p11:Int) (p12:List ByteArray) (k:Ex->St->Option β):bD TT FQ (AU a0 r10 r5 p11 p12) k = (xZ a0 r10 r5 p11 p12).bind (fun (r:(List ByteArray))=>k (.exit 4) ⟨[(2,.own 22 0),(3,.own 35 0),(4,.own 48 0)],[(22,some (.rows 0 9 1 (cM cS r5))),(35,some (.rows 0 9 1 (cM cS r10))),(48,some (.rows 0 9 1 (cM cS r)))]⟩):=by
 have hh:=fun (w:Int × (List ByteArray))=>QN a0 r10 r5 w.1 w.2
 have h:=fun ho=>aU (T:=TT) (k:=k) (c:=uC) (step:=(fun (w:Int × (List ByteArray))=>kY a0 r10 r5 w.1 w.2)) _ _ ho hh (p11,p12)
 refine Eq.trans (h (fun r s e=>by have q:=congrArg Prod.fst e; rcases r with x <;> cases q)) ?_
 unfold xZ
 exact aH _ fun x=>by rcases x with x <;> rfl
theorem VL (a0:aA):Vm.call TT 28 [.agg a0.cells] = (vN a0).map fun (r:(List ByteArray) × (List ByteArray) × (List ByteArray))=>.tup [.sl (cM cS r.1),.sl (cM cS r.2.1),.sl (cM cS r.2.2)]:=by
 refine (aR (show TT 28 = some (.code ⟨1,53,[.tmp 2,.tmp 3,.tmp 4],aKE,false,false⟩) from rfl) _ rfl rfl).trans ?_
 show bD TT aKE ⟨[(0,fL a0.cells)],[]⟩ _ = _
 unfold aKE vN
 have u:=aN @QG (aN @P1 @Q0)
 exact i9
theorem V1 (a0:aA):KD TT 28 [.agg a0.cells] (vN a0) (fun (r:(List ByteArray) × (List ByteArray) × (List ByteArray))=>.tup [.d (.sl (cM cS r.1)),.d (.sl (cM cS r.2.1)),.d (.sl (cM cS r.2.2))]):=kD (VL a0) (fun _=>rfl) (fun _=>rfl) (fun _=>rfl)
theorem PA {β:Type} (a0:ByteArray) (p1 x2:Int) (p3:Bool) (k:Ex->St->Option β):bD TT yU ⟨[(3,dI p1),(4,.d (.int .u8 x2)),(5,dB p3),(14,.d (.sl (cM (cK .u8) (jL a0)))),(15,dI ((jL a0).length:Int)),(16,dI p1)],[]⟩ k = (fI a0 p1 x2 p3).bind (fun (r:Unit ⊕ Unit)=>Sum.elim (fun (z:Unit)=>k .normal ⟨[(14,.d (.sl (cM (cK .u8) (jL a0)))),(15,dI ((jL a0).length:Int)),(16,dI p1)],[]⟩) (fun (z:Unit)=>k .ret ⟨[(2,dB false)],[]⟩) r):=by
 unfold yU fI
 exact DF
abbrev yJ (a0:ByteArray) (p1:Int):St:=⟨[(14,.d (.sl (cM (cK .u8) (jL a0)))),(15,dI ((jL a0).length:Int)),(16,dI p1)],[]⟩
theorem OC (a0:ByteArray) (p1:Int):bD TT tH (yJ a0 p1) (fun e s=>some (e,s)) = bH (fun (w:Int)=>yJ a0 w) (fun (r:Unit ⊕ Unit)=>Sum.elim (fun (z:Unit)=>(((.exit 0),⟨[],[]⟩):Ex × St)) (fun (z:Unit)=>((.ret,⟨[(2,dB false)],[]⟩):Ex × St)) r) (eF a0 p1):=by
 unfold tH eF
 have u:=@PA
 exact i9
theorem ON {β:Type} (a0:ByteArray) (p1:Int) (k:Ex->St->Option β):bD TT ET (yJ a0 p1) k = (rU a0 p1).bind (fun (r:Unit ⊕ Unit)=>Sum.elim (fun (z:Unit)=>k (.exit 0) ⟨[],[]⟩) (fun (z:Unit)=>k .ret ⟨[(2,dB false)],[]⟩) r):=by
 have hh:=fun (w:Int)=>OC a0 w
 have h:=fun ho=>aU (T:=TT) (k:=k) (c:=tH) (step:=(fun (w:Int)=>eF a0 w)) _ _ ho hh p1
 refine Eq.trans (h (fun r s e=>by have q:=congrArg Prod.fst e; rcases r with x | x <;> cases q)) ?_
 unfold rU
 exact aH _ fun x=>by rcases x with x | x <;> rfl
theorem TY (a0:ByteArray):Vm.call TT 71 [.str a0] = (oK a0).map fun (r:Bool)=>.bool r:=by
 refine (aR (show TT 71 = some (.code ⟨1,54,[.tmp 2],aLm,false,false⟩) from rfl) _ rfl rfl).trans ?_
 show bD TT aLm ⟨[(0,.d (.str a0))],[]⟩ _ = _
 unfold aLm oK
 have u:=@ON
 exact i9
theorem TR (a0:ByteArray):KF TT 71 [.str a0] (oK a0) (fun (r:Bool)=>dB r):=kF (TY a0) (fun _=>rfl) (fun _=>rfl)
abbrev kH (a0:List ByteArray) (a1:ByteArray) (p1:Int):St:=⟨[(0,.d (.sl (cM cS a0))),(1,.d (.str a1)),(7,dI (a0.length:Int)),(8,dI p1)],[]⟩
theorem AK (a0:List ByteArray) (a1:ByteArray) (p1:Int):bD TT gY (kH a0 a1 p1) (fun e s=>some (e,s)) = bH (fun (w:Int)=>kH a0 a1 w) (fun (r:Unit ⊕ Int)=>Sum.elim (fun (z:Unit)=>(((.exit 0),⟨[],[]⟩):Ex × St)) (fun (z:Int)=>((.ret,⟨[(4,dI z)],[]⟩):Ex × St)) r) (bA a0 a1 p1):=by
 unfold gY bA
 exact DF
theorem AS {β:Type} (a0:List ByteArray) (a1:ByteArray) (p1:Int) (k:Ex->St->Option β):bD TT pU (kH a0 a1 p1) k = (fK a0 a1 p1).bind (fun (r:Unit ⊕ Int)=>Sum.elim (fun (z:Unit)=>k (.exit 0) ⟨[],[]⟩) (fun (z:Int)=>k .ret ⟨[(4,dI z)],[]⟩) r):=by
 have hh:=fun (w:Int)=>AK a0 a1 w
 have h:=fun ho=>aU (T:=TT) (k:=k) (c:=gY) (step:=(fun (w:Int)=>bA a0 a1 w)) _ _ ho hh p1
 refine Eq.trans (h (fun r s e=>by have q:=congrArg Prod.fst e; rcases r with x | x <;> cases q)) ?_
 unfold fK
 exact aH _ fun x=>by rcases x with x | x <;> rfl
theorem CG (a0:List ByteArray) (a1:ByteArray):Vm.call TT 79 [.sl (cM cS a0),.str a1] = (bX a0 a1).map fun (r:Int)=>.int .i64 r:=by
 refine (aR (show TT 79 = some (.code ⟨2,19,[.tmp 4],aMT,false,false⟩) from rfl) _ rfl rfl).trans ?_
 show bD TT aMT ⟨[(0,.d (.sl (cM cS a0))),(1,.d (.str a1))],[]⟩ _ = _
 unfold aMT bX
 have u:=@AS
 exact i9
theorem CC (a0:List ByteArray) (a1:ByteArray):KF TT 79 [.sl (cM cS a0),.str a1] (bX a0 a1) (fun (r:Int)=>dI r):=kF (CG a0 a1) (fun _=>rfl) (fun _=>rfl)
theorem A4 (a0:List ByteArray) (a1:ByteArray):Vm.call TT 72 [.sl (cM cS a0),.str a1] = (bP a0 a1).map fun (r:Bool)=>.bool r:=by
 refine (aR (show TT 72 = some (.code ⟨2,9,[.tmp 4],aMr,false,false⟩) from rfl) _ rfl rfl).trans ?_
 show bD TT aMr ⟨[(0,.d (.sl (cM cS a0))),(1,.d (.str a1))],[]⟩ _ = _
 unfold aMr bP
 have u:=@CC
 exact i9
theorem AZ (a0:List ByteArray) (a1:ByteArray):KF TT 72 [.sl (cM cS a0),.str a1] (bP a0 a1) (fun (r:Bool)=>dB r):=kF (A4 a0 a1) (fun _=>rfl) (fun _=>rfl)
theorem WE (a0:List ByteArray) (a1:Int):Vm.call TT 57 [.sl (cM cS a0),.int .i64 a1] = (iN a0 a1).map fun (r:Int)=>.int .i64 r:=by
 refine (aR (show TT 57 = some (.code ⟨2,19,[.tmp 4],aLY,false,false⟩) from rfl) _ rfl rfl).trans ?_
 show bD TT aLY ⟨[(0,.d (.sl (cM cS a0))),(1,dI a1)],[]⟩ _ = _
 unfold aLY iN
 have u:=aN @TR @AZ
 exact i9
theorem BB (a0:List ByteArray) (a1:Int):KF TT 57 [.sl (cM cS a0),.int .i64 a1] (iN a0 a1) (fun (r:Int)=>dI r):=kF (WE a0 a1) (fun _=>rfl) (fun _=>rfl)
theorem RQ (a0:Int):Vm.call TT 30 [.int .i64 a0] = (sD a0).map fun (r:Bool)=>.bool r:=by
 refine (aR (show TT 30 = some (.code ⟨1,3,[.tmp 2],aLw,false,false⟩) from rfl) _ rfl rfl).trans ?_
 show bD TT aLw ⟨[(0,dI a0)],[]⟩ _ = _
 unfold aLw sD
 exact DF
theorem SA (a0:Int):KF TT 30 [.int .i64 a0] (sD a0) (fun (r:Bool)=>dB r):=kF (RQ a0) (fun _=>rfl) (fun _=>rfl)
abbrev wX (a0:List ByteArray) (p1:Int):St:=⟨[(0,.d (.sl (cM cS a0))),(2,.d (.fn 30 [])),(14,dI (a0.length:Int)),(15,dI p1)],[]⟩
theorem NR (a0:List ByteArray) (p1:Int):bD TT dE (wX a0 p1) (fun e s=>some (e,s)) = bH (fun (w:Int)=>wX a0 w) (fun (r:Unit ⊕ Int)=>Sum.elim (fun (z:Unit)=>(((.exit 0),⟨[],[]⟩):Ex × St)) (fun (z:Int)=>((.ret,⟨[(6,dI z)],[]⟩):Ex × St)) r) (k9 a0 p1):=by
 unfold dE k9
 have u:=aN @SA @BB
 exact i9
theorem NP {β:Type} (a0:List ByteArray) (p1:Int) (k:Ex->St->Option β):bD TT rT (wX a0 p1) k = (AF a0 p1).bind (fun (r:Unit ⊕ Int)=>Sum.elim (fun (z:Unit)=>k (.exit 0) ⟨[],[]⟩) (fun (z:Int)=>k .ret ⟨[(6,dI z)],[]⟩) r):=by
 have hh:=fun (w:Int)=>NR a0 w
 have h:=fun ho=>aU (T:=TT) (k:=k) (c:=dE) (step:=(fun (w:Int)=>k9 a0 w)) _ _ ho hh p1
 refine Eq.trans (h (fun r s e=>by have q:=congrArg Prod.fst e; rcases r with x | x <;> cases q)) ?_
 unfold AF
 exact aH _ fun x=>by rcases x with x | x <;> rfl
theorem RT (a0:List ByteArray) (a1:Int):Vm.call TT 29 [.sl (cM cS a0),.int .i64 a1,.fn 30 []] = (mQ a0 a1).map fun (r:Int)=>.int .i64 r:=by
 refine (aR (show TT 29 = some (.code ⟨3,29,[.tmp 6],SN,false,false⟩) from rfl) _ rfl rfl).trans ?_
 show bD TT SN ⟨[(0,.d (.sl (cM cS a0))),(1,dI a1),(2,.d (.fn 30 []))],[]⟩ _ = _
 unfold SN mQ
 have u:=@NP
 exact i9
theorem SP (a0:List ByteArray) (a1:Int):KF TT 29 [.sl (cM cS a0),.int .i64 a1,.fn 30 []] (mQ a0 a1) (fun (r:Int)=>dI r):=kF (RT a0 a1) (fun _=>rfl) (fun _=>rfl)
theorem aAr (a0 a1:Int):Vm.call TT 33 [.int .i64 a0,.int .i64 a1] = (iO a0 a1).map fun (r:Bool)=>.bool r:=by
 refine (aR (show TT 33 = some (.code ⟨2,12,[.tmp 4],aKY,false,false⟩) from rfl) _ rfl rfl).trans ?_
 show bD TT aKY ⟨[(0,dI a0),(1,dI a1)],[]⟩ _ = _
 unfold aKY iO
 exact DF
theorem vG (a0 a1:Int):KF TT 33 [.int .i64 a0,.int .i64 a1] (iO a0 a1) (fun (r:Bool)=>dB r):=kF (aAr a0 a1) (fun _=>rfl) (fun _=>rfl)
abbrev yK (a0:List Int) (a1 a2 p1:Int):St:=⟨[(0,.d (.sl (cM cI a0))),(1,dI a1),(2,dI a2),(9,.d (.sl (cM cI a0))),(10,dI (a0.length:Int)),(11,dI p1)],[]⟩
theorem OE (a0:List Int) (a1 a2 p1:Int):bD TT sR (yK a0 a1 a2 p1) (fun e s=>some (e,s)) = bH (fun (w:Int)=>yK a0 a1 a2 w) (fun (r:Unit ⊕ Unit)=>Sum.elim (fun (z:Unit)=>(((.exit 0),⟨[],[]⟩):Ex × St)) (fun (z:Unit)=>((.ret,⟨[(6,dB false)],[]⟩):Ex × St)) r) (eE a0 a1 a2 p1):=by
 unfold sR eE
 exact DF
theorem OB {β:Type} (a0:List Int) (a1 a2 p1:Int) (k:Ex->St->Option β):bD TT EI (yK a0 a1 a2 p1) k = (rR a0 a1 a2 p1).bind (fun (r:Unit ⊕ Unit)=>Sum.elim (fun (z:Unit)=>k (.exit 0) ⟨[],[]⟩) (fun (z:Unit)=>k .ret ⟨[(6,dB false)],[]⟩) r):=by
 have hh:=fun (w:Int)=>OE a0 a1 a2 w
 have h:=fun ho=>aU (T:=TT) (k:=k) (c:=sR) (step:=(fun (w:Int)=>eE a0 a1 a2 w)) _ _ ho hh p1
 refine Eq.trans (h (fun r s e=>by have q:=congrArg Prod.fst e; rcases r with x | x <;> cases q)) ?_
 unfold rR
 exact aH _ fun x=>by rcases x with x | x <;> rfl
theorem TS (a0:List Int) (a1 a2:Int):Vm.call TT 58 [.sl (cM cI a0),.int .i64 a1,.int .i64 a2] = (iI a0 a1 a2).map fun (r:Bool)=>.bool r:=by
 refine (aR (show TT 58 = some (.code ⟨3,38,[.tmp 6],aLv,false,false⟩) from rfl) _ rfl rfl).trans ?_
 show bD TT aLv ⟨[(0,.d (.sl (cM cI a0))),(1,dI a1),(2,dI a2)],[]⟩ _ = _
 unfold aLv iI
 have u:=@OB
 exact i9
theorem JT (a0:List Int) (a1 a2:Int):KF TT 58 [.sl (cM cI a0),.int .i64 a1,.int .i64 a2] (iI a0 a1 a2) (fun (r:Bool)=>dB r):=kF (TS a0 a1 a2) (fun _=>rfl) (fun _=>rfl)
abbrev BU (a0:aA) (a1:a7) (p1:Int):St:=⟨[(2,.ptr 2 0),(3,.ptr 3 0),(8,.d (.sl (cM cI a1.Feasts))),(9,dI (a1.Feasts.length:Int)),(10,dI p1)],[(2,some (.box (aK a0.cells))),(3,some (.box (aK a1.cells)))]⟩
theorem SD (a0:aA) (a1:a7) (p1:Int):bD TT vU (BU a0 a1 p1) (fun e s=>some (e,s)) = bH (fun (w:Int)=>BU a0 a1 w) (fun (r:Unit ⊕ Unit)=>Sum.elim (fun (z:Unit)=>(((.exit 0),⟨[(2,.ptr 2 0),(3,.ptr 3 0)],[(2,some (.box (aK a0.cells))),(3,some (.box (aK a1.cells)))]⟩):Ex × St)) (fun (z:Unit)=>((.ret,⟨[(4,dB false)],[]⟩):Ex × St)) r) (gM a0 a1 p1):=by
 unfold vU gM
 exact DF
theorem RX {β:Type} (a0:aA) (a1:a7) (p1:Int) (k:Ex->St->Option β):bD TT HG (BU a0 a1 p1) k = (vE a0 a1 p1).bind (fun (r:Unit ⊕ Unit)=>Sum.elim (fun (z:Unit)=>k (.exit 0) ⟨[(2,.ptr 2 0),(3,.ptr 3 0)],[(2,some (.box (aK a0.cells))),(3,some (.box (aK a1.cells)))]⟩) (fun (z:Unit)=>k .ret ⟨[(4,dB false)],[]⟩) r):=by
 have hh:=fun (w:Int)=>SD a0 a1 w
 have h:=fun ho=>aU (T:=TT) (k:=k) (c:=vU) (step:=(fun (w:Int)=>gM a0 a1 w)) _ _ ho hh p1
 refine Eq.trans (h (fun r s e=>by have q:=congrArg Prod.fst e; rcases r with x | x <;> cases q)) ?_
 unfold vE
 exact aH _ fun x=>by rcases x with x | x <;> rfl
theorem WY (a0:aA) (a1:a7):Vm.call TT 32 [.agg a0.cells,.agg a1.cells] = (sK a0 a1).map fun (r:Bool)=>.bool r:=by
 refine (aR (show TT 32 = some (.code ⟨2,64,[.tmp 4],aKB,false,false⟩) from rfl) _ rfl rfl).trans ?_
 show bD TT aKB ⟨[(0,fL a0.cells),(1,fL a1.cells)],[]⟩ _ = _
 unfold aKB sK
 have u:=aN @RX (aN @vG @JT)
 exact i9
theorem W4 (a0:aA) (a1:a7):KF TT 32 [.agg a0.cells,.agg a1.cells] (sK a0 a1) (fun (r:Bool)=>dB r):=kF (WY a0 a1) (fun _=>rfl) (fun _=>rfl)
end Go.Proofs.Ytjjcaapdaldedaa
