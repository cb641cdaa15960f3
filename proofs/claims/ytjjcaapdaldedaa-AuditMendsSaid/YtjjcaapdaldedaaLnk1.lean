/- The functions of the small machine compute the plain definitions. Printed by a program. -/
import Derived.Test.YtjjcaapdaldedaaFn
set_option linter.unusedVariables false
set_option linter.unusedSimpArgs false
namespace Go.Proofs.Ytjjcaapdaldedaa
open Vm
open Go.RowKit
set_option maxRecDepth 100000
set_option maxHeartbeats 4000000
attribute [local congr] yV A7 yK BL
abbrev nM (a0:ByteArray) (a1 p1:Int) (p2:List aV):St:=⟨[(1,dI a1),(4,.ptr 4 0),(5,.ptr 5 0),(6,dI p1)],[(4,some (.box [.d (.str ByteArray.empty),dB false,.nil,.nil])),(5,some (.box [.d (.str a0),dB false,.nil,.own 22 0])),(22,some (.rows 0 69 4 (cM aV.cells p2)))]⟩
theorem CV (a0:ByteArray) (a1 p1:Int) (p2:List aV):bP TT j9 (nM a0 a1 p1 p2) (fun e s=>some (e,s)) = cU (fun (w:Int × (List aV))=>nM a0 a1 w.1 w.2) (fun (r:(List aV))=>(((.exit 0),⟨[(4,.ptr 4 0),(5,.ptr 5 0)],[(4,some (.box [.d (.str ByteArray.empty),dB false,.nil,.nil])),(5,some (.box [.d (.str a0),dB false,.nil,.own 22 0])),(22,some (.rows 0 69 4 (cM aV.cells r)))]⟩):Ex × St)) (dR a0 a1 p1 p2):=by
 unfold j9 dR
 exact CH
theorem CS {β:Type} (a0:ByteArray) (a1 p1:Int) (p2:List aV) (k:Ex->St->Option β):bP TT uF (nM a0 a1 p1 p2) k = (lV a0 a1 p1 p2).bind (fun (r:(List aV))=>k (.exit 0) ⟨[(4,.ptr 4 0),(5,.ptr 5 0)],[(4,some (.box [.d (.str ByteArray.empty),dB false,.nil,.nil])),(5,some (.box [.d (.str a0),dB false,.nil,.own 22 0])),(22,some (.rows 0 69 4 (cM aV.cells r)))]⟩):=by
 have hh:=fun (w:Int × (List aV))=>CV a0 a1 w.1 w.2
 have h:=fun ho=>aZ (T:=TT) (k:=k) (c:=j9) (step:=(fun (w:Int × (List aV))=>dR a0 a1 w.1 w.2)) _ _ ho hh (p1,p2)
 refine Eq.trans (h (fun r s e=>by have q:=congrArg Prod.fst e; rcases r with x <;> cases q)) ?_
 unfold lV
 exact aL _ fun x=>by rcases x with x <;> rfl
theorem FG (a0:ByteArray) (a1:Int):Vm.call TT 15 [.str a0,.int .i64 a1] = (fP a0 a1).map fun (r:aC)=>.agg r.cells:=by
 refine (bE (show TT 15 = some (.code ⟨2,25,[.cell 4 4 true],aIb,false,false⟩) from rfl) _ rfl rfl).trans ?_
 show bP TT aIb ⟨[(0,.d (.str a0)),(1,dI a1)],[]⟩ _ = _
 unfold aIb fP
 have u:=@CS
 exact nQ
theorem xM (a0:ByteArray) (a1:Int):KD TT 15 [.str a0,.int .i64 a1] (fP a0 a1) (fun (r:aC)=>jQ r.cells):=kD (FG a0 a1) (fun _=>rfl) (fun _=>rfl) (fun _=>rfl)
theorem DL:Vm.call TT 16 [] = (mM).map fun (r:aB)=>.agg r.cells:=by
 refine (bE (show TT 16 = some (.code ⟨0,16,[.cell 0 8 true],aHc,false,false⟩) from rfl) _ rfl rfl).trans ?_
 show bP TT aHc ⟨[],[]⟩ _ = _
 unfold aHc mM
 have u:=@xM
 exact nQ
theorem DO:KD TT 16 [] (mM) (fun (r:aB)=>jQ r.cells):=kD (DL ) (fun _=>rfl) (fun _=>rfl) (fun _=>rfl)
abbrev wM (a0:aB) (p1:Int) (p2:List ByteArray):St:=⟨[(1,.ptr 1 0),(2,.own 22 0),(3,.nil),(4,.nil),(12,.d (.sl (cM aW.cells a0.Cities))),(13,dI (a0.Cities.length:Int)),(14,dI p1)],[(1,some (.box (aR a0.cells))),(22,some (.rows 0 9 1 (cM cS p2)))]⟩
theorem K9 (a0:aB) (p1:Int) (p2:List ByteArray):bP TT rV (wM a0 p1 p2) (fun e s=>some (e,s)) = cU (fun (w:Int × (List ByteArray))=>wM a0 w.1 w.2) (fun (r:(List ByteArray))=>(((.exit 0),⟨[(1,.ptr 1 0),(2,.own 22 0),(3,.nil),(4,.nil)],[(1,some (.box (aR a0.cells))),(22,some (.rows 0 9 1 (cM cS r)))]⟩):Ex × St)) (iT a0 p1 p2):=by
 unfold rV iT
 exact CH
theorem LE {β:Type} (a0:aB) (p1:Int) (p2:List ByteArray) (k:Ex->St->Option β):bP TT CQ (wM a0 p1 p2) k = (uU a0 p1 p2).bind (fun (r:(List ByteArray))=>k (.exit 0) ⟨[(1,.ptr 1 0),(2,.own 22 0),(3,.nil),(4,.nil)],[(1,some (.box (aR a0.cells))),(22,some (.rows 0 9 1 (cM cS r)))]⟩):=by
 have hh:=fun (w:Int × (List ByteArray))=>K9 a0 w.1 w.2
 have h:=fun ho=>aZ (T:=TT) (k:=k) (c:=rV) (step:=(fun (w:Int × (List ByteArray))=>iT a0 w.1 w.2)) _ _ ho hh (p1,p2)
 refine Eq.trans (h (fun r s e=>by have q:=congrArg Prod.fst e; rcases r with x <;> cases q)) ?_
 unfold uU
 exact aL _ fun x=>by rcases x with x <;> rfl
abbrev w9 (a0:aB) (r5:(List ByteArray)) (p6:Int) (p7:List ByteArray):St:=⟨[(1,.ptr 1 0),(2,.own 22 0),(3,.own 35 0),(4,.nil),(25,.d (.sl (cM bO.cells a0.Firms))),(26,dI (a0.Firms.length:Int)),(27,dI p6)],[(1,some (.box (aR a0.cells))),(22,some (.rows 0 9 1 (cM cS r5))),(35,some (.rows 0 9 1 (cM cS p7)))]⟩
theorem KM (a0:aB) (r5:(List ByteArray)) (p6:Int) (p7:List ByteArray):bP TT rE (w9 a0 r5 p6 p7) (fun e s=>some (e,s)) = cU (fun (w:Int × (List ByteArray))=>w9 a0 r5 w.1 w.2) (fun (r:(List ByteArray))=>(((.exit 2),⟨[(1,.ptr 1 0),(2,.own 22 0),(3,.own 35 0),(4,.nil)],[(1,some (.box (aR a0.cells))),(22,some (.rows 0 9 1 (cM cS r5))),(35,some (.rows 0 9 1 (cM cS r)))]⟩):Ex × St)) (i7 a0 r5 p6 p7):=by
 unfold rE i7
 exact CH
theorem KH {β:Type} (a0:aB) (r5:(List ByteArray)) (p6:Int) (p7:List ByteArray) (k:Ex->St->Option β):bP TT CB (w9 a0 r5 p6 p7) k = (uO a0 r5 p6 p7).bind (fun (r:(List ByteArray))=>k (.exit 2) ⟨[(1,.ptr 1 0),(2,.own 22 0),(3,.own 35 0),(4,.nil)],[(1,some (.box (aR a0.cells))),(22,some (.rows 0 9 1 (cM cS r5))),(35,some (.rows 0 9 1 (cM cS r)))]⟩):=by
 have hh:=fun (w:Int × (List ByteArray))=>KM a0 r5 w.1 w.2
 have h:=fun ho=>aZ (T:=TT) (k:=k) (c:=rE) (step:=(fun (w:Int × (List ByteArray))=>i7 a0 r5 w.1 w.2)) _ _ ho hh (p6,p7)
 refine Eq.trans (h (fun r s e=>by have q:=congrArg Prod.fst e; rcases r with x <;> cases q)) ?_
 unfold uO
 exact aL _ fun x=>by rcases x with x <;> rfl
abbrev wQ (a0:aB) (r10 r5:(List ByteArray)) (p11:Int) (p12:List ByteArray):St:=⟨[(2,.own 22 0),(3,.own 35 0),(4,.own 48 0),(38,.d (.sl (cM aC.cells a0.Orders))),(39,dI (a0.Orders.length:Int)),(40,dI p11)],[(22,some (.rows 0 9 1 (cM cS r5))),(35,some (.rows 0 9 1 (cM cS r10))),(48,some (.rows 0 9 1 (cM cS p12)))]⟩
theorem LD (a0:aB) (r10 r5:(List ByteArray)) (p11:Int) (p12:List ByteArray):bP TT rL (wQ a0 r10 r5 p11 p12) (fun e s=>some (e,s)) = cU (fun (w:Int × (List ByteArray))=>wQ a0 r10 r5 w.1 w.2) (fun (r:(List ByteArray))=>(((.exit 4),⟨[(2,.own 22 0),(3,.own 35 0),(4,.own 48 0)],[(22,some (.rows 0 9 1 (cM cS r5))),(35,some (.rows 0 9 1 (cM cS r10))),(48,some (.rows 0 9 1 (cM cS r)))]⟩):Ex × St)) (jE a0 r10 r5 p11 p12):=by
 unfold rL jE
 exact CH
theorem LQ {β:Type} (a0:aB) (r10 r5:(List ByteArray)) (p11:Int) (p12:List ByteArray) (k:Ex->St->Option β):bP TT CP (wQ a0 r10 r5 p11 p12) k = (uT a0 r10 r5 p11 p12).bind (fun (r:(List ByteArray))=>k (.exit 4) ⟨[(2,.own 22 0),(3,.own 35 0),(4,.own 48 0)],[(22,some (.rows 0 9 1 (cM cS r5))),(35,some (.rows 0 9 1 (cM cS r10))),(48,some (.rows 0 9 1 (cM cS r)))]⟩):=by
 have hh:=fun (w:Int × (List ByteArray))=>LD a0 r10 r5 w.1 w.2
 have h:=fun ho=>aZ (T:=TT) (k:=k) (c:=rL) (step:=(fun (w:Int × (List ByteArray))=>jE a0 r10 r5 w.1 w.2)) _ _ ho hh (p11,p12)
 refine Eq.trans (h (fun r s e=>by have q:=congrArg Prod.fst e; rcases r with x <;> cases q)) ?_
 unfold uT
 exact aL _ fun x=>by rcases x with x <;> rfl
theorem O5 (a0:aB):Vm.call TT 28 [.agg a0.cells] = (sP a0).map fun (r:(List ByteArray) × (List ByteArray) × (List ByteArray))=>.tup [.sl (cM cS r.1),.sl (cM cS r.2.1),.sl (cM cS r.2.2)]:=by
 refine (bE (show TT 28 = some (.code ⟨1,53,[.tmp 2,.tmp 3,.tmp 4],aHL,false,false⟩) from rfl) _ rfl rfl).trans ?_
 show bP TT aHL ⟨[(0,jQ a0.cells)],[]⟩ _ = _
 unfold aHL sP
 have u:=aN @LE (aN @KH @LQ)
 exact nQ
theorem QW (a0:aB):KD TT 28 [.agg a0.cells] (sP a0) (fun (r:(List ByteArray) × (List ByteArray) × (List ByteArray))=>.tup [.d (.sl (cM cS r.1)),.d (.sl (cM cS r.2.1)),.d (.sl (cM cS r.2.2))]):=kD (O5 a0) (fun _=>rfl) (fun _=>rfl) (fun _=>rfl)
theorem JJ {β:Type} (a0:ByteArray) (p1 x2:Int) (p3:Bool) (k:Ex->St->Option β):bP TT vA ⟨[(3,dI p1),(4,.d (.int .u8 x2)),(5,dB p3),(14,.d (.sl (cM (cK .u8) (lM a0)))),(15,dI ((lM a0).length:Int)),(16,dI p1)],[]⟩ k = (eJ a0 p1 x2 p3).bind (fun (r:Unit ⊕ Unit)=>Sum.elim (fun (z:Unit)=>k .normal ⟨[(14,.d (.sl (cM (cK .u8) (lM a0)))),(15,dI ((lM a0).length:Int)),(16,dI p1)],[]⟩) (fun (z:Unit)=>k .ret ⟨[(2,dB false)],[]⟩) r):=by
 unfold vA eJ
 exact CH
abbrev vN (a0:ByteArray) (p1:Int):St:=⟨[(14,.d (.sl (cM (cK .u8) (lM a0)))),(15,dI ((lM a0).length:Int)),(16,dI p1)],[]⟩
theorem KA (a0:ByteArray) (p1:Int):bP TT qF (vN a0 p1) (fun e s=>some (e,s)) = cU (fun (w:Int)=>vN a0 w) (fun (r:Unit ⊕ Unit)=>Sum.elim (fun (z:Unit)=>(((.exit 0),⟨[],[]⟩):Ex × St)) (fun (z:Unit)=>((.ret,⟨[(2,dB false)],[]⟩):Ex × St)) r) (dS a0 p1):=by
 unfold qF dS
 have u:=@JJ
 exact nQ
theorem JL {β:Type} (a0:ByteArray) (p1:Int) (k:Ex->St->Option β):bP TT BM (vN a0 p1) k = (oP a0 p1).bind (fun (r:Unit ⊕ Unit)=>Sum.elim (fun (z:Unit)=>k (.exit 0) ⟨[],[]⟩) (fun (z:Unit)=>k .ret ⟨[(2,dB false)],[]⟩) r):=by
 have hh:=fun (w:Int)=>KA a0 w
 have h:=fun ho=>aZ (T:=TT) (k:=k) (c:=qF) (step:=(fun (w:Int)=>dS a0 w)) _ _ ho hh p1
 refine Eq.trans (h (fun r s e=>by have q:=congrArg Prod.fst e; rcases r with x | x <;> cases q)) ?_
 unfold oP
 exact aL _ fun x=>by rcases x with x | x <;> rfl
theorem OJ (a0:ByteArray):Vm.call TT 71 [.str a0] = (l9 a0).map fun (r:Bool)=>.bool r:=by
 refine (bE (show TT 71 = some (.code ⟨1,54,[.tmp 2],aJy,false,false⟩) from rfl) _ rfl rfl).trans ?_
 show bP TT aJy ⟨[(0,.d (.str a0))],[]⟩ _ = _
 unfold aJy l9
 have u:=@JL
 exact nQ
theorem OM (a0:ByteArray):KF TT 71 [.str a0] (l9 a0) (fun (r:Bool)=>dB r):=kF (OJ a0) (fun _=>rfl) (fun _=>rfl)
abbrev jG (a0:List ByteArray) (a1:ByteArray) (p1:Int):St:=⟨[(0,.d (.sl (cM cS a0))),(1,.d (.str a1)),(7,dI (a0.length:Int)),(8,dI p1)],[]⟩
theorem wR (a0:List ByteArray) (a1:ByteArray) (p1:Int):bP TT fW (jG a0 a1 p1) (fun e s=>some (e,s)) = cU (fun (w:Int)=>jG a0 a1 w) (fun (r:Unit ⊕ Int)=>Sum.elim (fun (z:Unit)=>(((.exit 0),⟨[],[]⟩):Ex × St)) (fun (z:Int)=>((.ret,⟨[(4,dI z)],[]⟩):Ex × St)) r) (aX a0 a1 p1):=by
 unfold fW aX
 exact CH
theorem wZ {β:Type} (a0:List ByteArray) (a1:ByteArray) (p1:Int) (k:Ex->St->Option β):bP TT nA (jG a0 a1 p1) k = (eI a0 a1 p1).bind (fun (r:Unit ⊕ Int)=>Sum.elim (fun (z:Unit)=>k (.exit 0) ⟨[],[]⟩) (fun (z:Int)=>k .ret ⟨[(4,dI z)],[]⟩) r):=by
 have hh:=fun (w:Int)=>wR a0 a1 w
 have h:=fun ho=>aZ (T:=TT) (k:=k) (c:=fW) (step:=(fun (w:Int)=>aX a0 a1 w)) _ _ ho hh p1
 refine Eq.trans (h (fun r s e=>by have q:=congrArg Prod.fst e; rcases r with x | x <;> cases q)) ?_
 unfold eI
 exact aL _ fun x=>by rcases x with x | x <;> rfl
theorem yZ (a0:List ByteArray) (a1:ByteArray):Vm.call TT 79 [.sl (cM cS a0),.str a1] = (bV a0 a1).map fun (r:Int)=>.int .i64 r:=by
 refine (bE (show TT 79 = some (.code ⟨2,19,[.tmp 4],aIR,false,false⟩) from rfl) _ rfl rfl).trans ?_
 show bP TT aIR ⟨[(0,.d (.sl (cM cS a0))),(1,.d (.str a1))],[]⟩ _ = _
 unfold aIR bV
 have u:=@wZ
 exact nQ
theorem yH (a0:List ByteArray) (a1:ByteArray):KF TT 79 [.sl (cM cS a0),.str a1] (bV a0 a1) (fun (r:Int)=>dI r):=kF (yZ a0 a1) (fun _=>rfl) (fun _=>rfl)
theorem xH (a0:List ByteArray) (a1:ByteArray):Vm.call TT 72 [.sl (cM cS a0),.str a1] = (bN a0 a1).map fun (r:Bool)=>.bool r:=by
 refine (bE (show TT 72 = some (.code ⟨2,9,[.tmp 4],aID,false,false⟩) from rfl) _ rfl rfl).trans ?_
 show bP TT aID ⟨[(0,.d (.sl (cM cS a0))),(1,.d (.str a1))],[]⟩ _ = _
 unfold aID bN
 have u:=@yH
 exact nQ
theorem wI (a0:List ByteArray) (a1:ByteArray):KF TT 72 [.sl (cM cS a0),.str a1] (bN a0 a1) (fun (r:Bool)=>dB r):=kF (xH a0 a1) (fun _=>rfl) (fun _=>rfl)
theorem QR (a0:List ByteArray) (a1:Int):Vm.call TT 57 [.sl (cM cS a0),.int .i64 a1] = (gO a0 a1).map fun (r:Int)=>.int .i64 r:=by
 refine (bE (show TT 57 = some (.code ⟨2,19,[.tmp 4],aJP,false,false⟩) from rfl) _ rfl rfl).trans ?_
 show bP TT aJP ⟨[(0,.d (.sl (cM cS a0))),(1,dI a1)],[]⟩ _ = _
 unfold aJP gO
 have u:=aN @OM @wI
 exact nQ
theorem wO (a0:List ByteArray) (a1:Int):KF TT 57 [.sl (cM cS a0),.int .i64 a1] (gO a0 a1) (fun (r:Int)=>dI r):=kF (QR a0 a1) (fun _=>rfl) (fun _=>rfl)
theorem M9 (a0:Int):Vm.call TT 30 [.int .i64 a0] = (oG a0).map fun (r:Bool)=>.bool r:=by
 refine (bE (show TT 30 = some (.code ⟨1,3,[.tmp 2],aHg,false,false⟩) from rfl) _ rfl rfl).trans ?_
 show bP TT aHg ⟨[(0,dI a0)],[]⟩ _ = _
 unfold aHg oG
 exact CH
theorem L8 (a0:Int):KF TT 30 [.int .i64 a0] (oG a0) (fun (r:Bool)=>dB r):=kF (M9 a0) (fun _=>rfl) (fun _=>rfl)
abbrev s9 (a0:List ByteArray) (p1:Int):St:=⟨[(0,.d (.sl (cM cS a0))),(2,.d (.fn 30 [])),(14,dI (a0.length:Int)),(15,dI p1)],[]⟩
theorem H9 (a0:List ByteArray) (p1:Int):bP TT cX (s9 a0 p1) (fun e s=>some (e,s)) = cU (fun (w:Int)=>s9 a0 w) (fun (r:Unit ⊕ Int)=>Sum.elim (fun (z:Unit)=>(((.exit 0),⟨[],[]⟩):Ex × St)) (fun (z:Int)=>((.ret,⟨[(6,dI z)],[]⟩):Ex × St)) r) (jP a0 p1):=by
 unfold cX jP
 have u:=aN @L8 @wO
 exact nQ
theorem HA {β:Type} (a0:List ByteArray) (p1:Int) (k:Ex->St->Option β):bP TT oL (s9 a0 p1) k = (wE a0 p1).bind (fun (r:Unit ⊕ Int)=>Sum.elim (fun (z:Unit)=>k (.exit 0) ⟨[],[]⟩) (fun (z:Int)=>k .ret ⟨[(6,dI z)],[]⟩) r):=by
 have hh:=fun (w:Int)=>H9 a0 w
 have h:=fun ho=>aZ (T:=TT) (k:=k) (c:=cX) (step:=(fun (w:Int)=>jP a0 w)) _ _ ho hh p1
 refine Eq.trans (h (fun r s e=>by have q:=congrArg Prod.fst e; rcases r with x | x <;> cases q)) ?_
 unfold wE
 exact aL _ fun x=>by rcases x with x | x <;> rfl
theorem MT (a0:List ByteArray) (a1:Int):Vm.call TT 29 [.sl (cM cS a0),.int .i64 a1,.fn 30 []] = (kK a0 a1).map fun (r:Int)=>.int .i64 r:=by
 refine (bE (show TT 29 = some (.code ⟨3,29,[.tmp 6],NH,false,false⟩) from rfl) _ rfl rfl).trans ?_
 show bP TT NH ⟨[(0,.d (.sl (cM cS a0))),(1,dI a1),(2,.d (.fn 30 []))],[]⟩ _ = _
 unfold NH kK
 have u:=@HA
 exact nQ
theorem NC (a0:List ByteArray) (a1:Int):KF TT 29 [.sl (cM cS a0),.int .i64 a1,.fn 30 []] (kK a0 a1) (fun (r:Int)=>dI r):=kF (MT a0 a1) (fun _=>rfl) (fun _=>rfl)
theorem W8 (a0 a1:Int):Vm.call TT 33 [.int .i64 a0,.int .i64 a1] = (gL a0 a1).map fun (r:Bool)=>.bool r:=by
 refine (bE (show TT 33 = some (.code ⟨2,12,[.tmp 4],aI6,false,false⟩) from rfl) _ rfl rfl).trans ?_
 show bP TT aI6 ⟨[(0,dI a0),(1,dI a1)],[]⟩ _ = _
 unfold aI6 gL
 exact CH
theorem sB (a0 a1:Int):KF TT 33 [.int .i64 a0,.int .i64 a1] (gL a0 a1) (fun (r:Bool)=>dB r):=kF (W8 a0 a1) (fun _=>rfl) (fun _=>rfl)
abbrev vJ (a0:List Int) (a1 a2 p1:Int):St:=⟨[(0,.d (.sl (cM cI a0))),(1,dI a1),(2,dI a2),(9,.d (.sl (cM cI a0))),(10,dI (a0.length:Int)),(11,dI p1)],[]⟩
theorem JX (a0:List Int) (a1 a2 p1:Int):bP TT qI (vJ a0 a1 a2 p1) (fun e s=>some (e,s)) = cU (fun (w:Int)=>vJ a0 a1 a2 w) (fun (r:Unit ⊕ Unit)=>Sum.elim (fun (z:Unit)=>(((.exit 0),⟨[],[]⟩):Ex × St)) (fun (z:Unit)=>((.ret,⟨[(6,dB false)],[]⟩):Ex × St)) r) (dQ a0 a1 a2 p1):=by
 unfold qI dQ
 exact CH
theorem JA {β:Type} (a0:List Int) (a1 a2 p1:Int) (k:Ex->St->Option β):bP TT BJ (vJ a0 a1 a2 p1) k = (oR a0 a1 a2 p1).bind (fun (r:Unit ⊕ Unit)=>Sum.elim (fun (z:Unit)=>k (.exit 0) ⟨[],[]⟩) (fun (z:Unit)=>k .ret ⟨[(6,dB false)],[]⟩) r):=by
 have hh:=fun (w:Int)=>JX a0 a1 a2 w
 have h:=fun ho=>aZ (T:=TT) (k:=k) (c:=qI) (step:=(fun (w:Int)=>dQ a0 a1 a2 w)) _ _ ho hh p1
 refine Eq.trans (h (fun r s e=>by have q:=congrArg Prod.fst e; rcases r with x | x <;> cases q)) ?_
 unfold oR
 exact aL _ fun x=>by rcases x with x | x <;> rfl
theorem OK (a0:List Int) (a1 a2:Int):Vm.call TT 58 [.sl (cM cI a0),.int .i64 a1,.int .i64 a2] = (gK a0 a1 a2).map fun (r:Bool)=>.bool r:=by
 refine (bE (show TT 58 = some (.code ⟨3,38,[.tmp 6],aIA,false,false⟩) from rfl) _ rfl rfl).trans ?_
 show bP TT aIA ⟨[(0,.d (.sl (cM cI a0))),(1,dI a1),(2,dI a2)],[]⟩ _ = _
 unfold aIA gK
 have u:=@JA
 exact nQ
theorem E9 (a0:List Int) (a1 a2:Int):KF TT 58 [.sl (cM cI a0),.int .i64 a1,.int .i64 a2] (gK a0 a1 a2) (fun (r:Bool)=>dB r):=kF (OK a0 a1 a2) (fun _=>rfl) (fun _=>rfl)
abbrev xQ (a0:aB) (a1:aW) (p1:Int):St:=⟨[(2,.ptr 2 0),(3,.ptr 3 0),(8,.d (.sl (cM cI a1.Feasts))),(9,dI (a1.Feasts.length:Int)),(10,dI p1)],[(2,some (.box (aR a0.cells))),(3,some (.box (aR a1.cells)))]⟩
theorem NF (a0:aB) (a1:aW) (p1:Int):bP TT sS (xQ a0 a1 p1) (fun e s=>some (e,s)) = cU (fun (w:Int)=>xQ a0 a1 w) (fun (r:Unit ⊕ Unit)=>Sum.elim (fun (z:Unit)=>(((.exit 0),⟨[(2,.ptr 2 0),(3,.ptr 3 0)],[(2,some (.box (aR a0.cells))),(3,some (.box (aR a1.cells)))]⟩):Ex × St)) (fun (z:Unit)=>((.ret,⟨[(4,dB false)],[]⟩):Ex × St)) r) (fN a0 a1 p1):=by
 unfold sS fN
 exact CH
theorem M2 {β:Type} (a0:aB) (a1:aW) (p1:Int) (k:Ex->St->Option β):bP TT DX (xQ a0 a1 p1) k = (sH a0 a1 p1).bind (fun (r:Unit ⊕ Unit)=>Sum.elim (fun (z:Unit)=>k (.exit 0) ⟨[(2,.ptr 2 0),(3,.ptr 3 0)],[(2,some (.box (aR a0.cells))),(3,some (.box (aR a1.cells)))]⟩) (fun (z:Unit)=>k .ret ⟨[(4,dB false)],[]⟩) r):=by
 have hh:=fun (w:Int)=>NF a0 a1 w
 have h:=fun ho=>aZ (T:=TT) (k:=k) (c:=sS) (step:=(fun (w:Int)=>fN a0 a1 w)) _ _ ho hh p1
 refine Eq.trans (h (fun r s e=>by have q:=congrArg Prod.fst e; rcases r with x | x <;> cases q)) ?_
 unfold sH
 exact aL _ fun x=>by rcases x with x | x <;> rfl
theorem RN (a0:aB) (a1:aW):Vm.call TT 32 [.agg a0.cells,.agg a1.cells] = (pK a0 a1).map fun (r:Bool)=>.bool r:=by
 refine (bE (show TT 32 = some (.code ⟨2,64,[.tmp 4],aI8,false,false⟩) from rfl) _ rfl rfl).trans ?_
 show bP TT aI8 ⟨[(0,jQ a0.cells),(1,jQ a1.cells)],[]⟩ _ = _
 unfold aI8 pK
 have u:=aN @M2 (aN @sB @E9)
 exact nQ
theorem RL (a0:aB) (a1:aW):KF TT 32 [.agg a0.cells,.agg a1.cells] (pK a0 a1) (fun (r:Bool)=>dB r):=kF (RN a0 a1) (fun _=>rfl) (fun _=>rfl)
end Go.Proofs.Ytjjcaapdaldedaa
