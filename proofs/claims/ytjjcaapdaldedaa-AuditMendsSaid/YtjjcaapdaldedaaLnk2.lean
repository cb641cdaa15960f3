/- The functions of the small machine compute the plain definitions. Printed by a program. -/
import Derived.Test.YtjjcaapdaldedaaLnk1
set_option linter.unusedVariables false
set_option linter.unusedSimpArgs false
namespace Go.Proofs.Ytjjcaapdaldedaa
open Vm
open Go.RowKit
set_option maxRecDepth 100000
set_option maxHeartbeats 4000000
attribute [local congr] yV A7 yK BL
theorem HQ (a0:Int) (a1:aB):Vm.call TT 31 [.int .i64 a0,.ptr a1.cells 0] = (hY a0 a1).map fun (r:Bool)=>.bool r:=by
 refine (bE (show TT 31 = some (.code ⟨2,11,[.tmp 3],aJA,false,false⟩) from rfl) _ rfl rfl).trans ?_
 show bP TT aJA ⟨[(0,dI a0),(1,.d (.ptr a1.cells 0))],[]⟩ _ = _
 unfold aJA hY
 have u:=@RL
 exact nQ
theorem HG (a0:Int) (a1:aB):KF TT 31 [.int .i64 a0,.ptr a1.cells 0] (hY a0 a1) (fun (r:Bool)=>dB r):=kF (HQ a0 a1) (fun _=>rfl) (fun _=>rfl)
abbrev sY (a0:List ByteArray) (a2:aB) (p1:Int):St:=⟨[(0,.d (.sl (cM cS a0))),(2,.d (.fn 31 [.ptr a2.cells 0])),(14,dI (a0.length:Int)),(15,dI p1)],[]⟩
theorem HD (a0:List ByteArray) (a2:aB) (p1:Int):bP TT cX (sY a0 a2 p1) (fun e s=>some (e,s)) = cU (fun (w:Int)=>sY a0 a2 w) (fun (r:Unit ⊕ Int)=>Sum.elim (fun (z:Unit)=>(((.exit 0),⟨[],[]⟩):Ex × St)) (fun (z:Int)=>((.ret,⟨[(6,dI z)],[]⟩):Ex × St)) r) (jM a0 a2 p1):=by
 unfold cX jM
 have u:=aN @HG @wO
 exact nQ
theorem HS {β:Type} (a0:List ByteArray) (a2:aB) (p1:Int) (k:Ex->St->Option β):bP TT oL (sY a0 a2 p1) k = (wK a0 a2 p1).bind (fun (r:Unit ⊕ Int)=>Sum.elim (fun (z:Unit)=>k (.exit 0) ⟨[],[]⟩) (fun (z:Int)=>k .ret ⟨[(6,dI z)],[]⟩) r):=by
 have hh:=fun (w:Int)=>HD a0 a2 w
 have h:=fun ho=>aZ (T:=TT) (k:=k) (c:=cX) (step:=(fun (w:Int)=>jM a0 a2 w)) _ _ ho hh p1
 refine Eq.trans (h (fun r s e=>by have q:=congrArg Prod.fst e; rcases r with x | x <;> cases q)) ?_
 unfold wK
 exact aL _ fun x=>by rcases x with x | x <;> rfl
theorem NN (a0:List ByteArray) (a1:Int) (a2:aB):Vm.call TT 29 [.sl (cM cS a0),.int .i64 a1,.fn 31 [.ptr a2.cells 0]] = (kG a0 a1 a2).map fun (r:Int)=>.int .i64 r:=by
 refine (bE (show TT 29 = some (.code ⟨3,29,[.tmp 6],NH,false,false⟩) from rfl) _ rfl rfl).trans ?_
 show bP TT NH ⟨[(0,.d (.sl (cM cS a0))),(1,dI a1),(2,.d (.fn 31 [.ptr a2.cells 0]))],[]⟩ _ = _
 unfold NH kG
 have u:=@HS
 exact nQ
theorem MR (a0:List ByteArray) (a1:Int) (a2:aB):KF TT 29 [.sl (cM cS a0),.int .i64 a1,.fn 31 [.ptr a2.cells 0]] (kG a0 a1 a2) (fun (r:Int)=>dI r):=kF (NN a0 a1 a2) (fun _=>rfl) (fun _=>rfl)
theorem ID (a0:Int) (a1:aB):Vm.call TT 34 [.int .i64 a0,.ptr a1.cells 0] = (fV a0 a1).map fun (r:Bool)=>.bool r:=by
 refine (bE (show TT 34 = some (.code ⟨2,26,[.tmp 3],aJH,false,false⟩) from rfl) _ rfl rfl).trans ?_
 show bP TT aJH ⟨[(0,dI a0),(1,.d (.ptr a1.cells 0))],[]⟩ _ = _
 unfold aJH fV
 have u:=@sB
 exact nQ
theorem HZ (a0:Int) (a1:aB):KF TT 34 [.int .i64 a0,.ptr a1.cells 0] (fV a0 a1) (fun (r:Bool)=>dB r):=kF (ID a0 a1) (fun _=>rfl) (fun _=>rfl)
abbrev tZ (a0:List ByteArray) (a2:aB) (p1:Int):St:=⟨[(0,.d (.sl (cM cS a0))),(2,.d (.fn 34 [.ptr a2.cells 0])),(14,dI (a0.length:Int)),(15,dI p1)],[]⟩
theorem IA (a0:List ByteArray) (a2:aB) (p1:Int):bP TT cX (tZ a0 a2 p1) (fun e s=>some (e,s)) = cU (fun (w:Int)=>tZ a0 a2 w) (fun (r:Unit ⊕ Int)=>Sum.elim (fun (z:Unit)=>(((.exit 0),⟨[],[]⟩):Ex × St)) (fun (z:Int)=>((.ret,⟨[(6,dI z)],[]⟩):Ex × St)) r) (jN a0 a2 p1):=by
 unfold cX jN
 have u:=aN @HZ @wO
 exact nQ
theorem IG {β:Type} (a0:List ByteArray) (a2:aB) (p1:Int) (k:Ex->St->Option β):bP TT oL (tZ a0 a2 p1) k = (xC a0 a2 p1).bind (fun (r:Unit ⊕ Int)=>Sum.elim (fun (z:Unit)=>k (.exit 0) ⟨[],[]⟩) (fun (z:Int)=>k .ret ⟨[(6,dI z)],[]⟩) r):=by
 have hh:=fun (w:Int)=>IA a0 a2 w
 have h:=fun ho=>aZ (T:=TT) (k:=k) (c:=cX) (step:=(fun (w:Int)=>jN a0 a2 w)) _ _ ho hh p1
 refine Eq.trans (h (fun r s e=>by have q:=congrArg Prod.fst e; rcases r with x | x <;> cases q)) ?_
 unfold xC
 exact aL _ fun x=>by rcases x with x | x <;> rfl
theorem MZ (a0:List ByteArray) (a1:Int) (a2:aB):Vm.call TT 29 [.sl (cM cS a0),.int .i64 a1,.fn 34 [.ptr a2.cells 0]] = (kN a0 a1 a2).map fun (r:Int)=>.int .i64 r:=by
 refine (bE (show TT 29 = some (.code ⟨3,29,[.tmp 6],NH,false,false⟩) from rfl) _ rfl rfl).trans ?_
 show bP TT NH ⟨[(0,.d (.sl (cM cS a0))),(1,dI a1),(2,.d (.fn 34 [.ptr a2.cells 0]))],[]⟩ _ = _
 unfold NH kN
 have u:=@IG
 exact nQ
theorem NJ (a0:List ByteArray) (a1:Int) (a2:aB):KF TT 29 [.sl (cM cS a0),.int .i64 a1,.fn 34 [.ptr a2.cells 0]] (kN a0 a1 a2) (fun (r:Int)=>dI r):=kF (MZ a0 a1 a2) (fun _=>rfl) (fun _=>rfl)
abbrev wU (a0:aC) (p1:Int) (p2:List Int):St:=⟨[(1,.ptr 1 0),(3,.own 20 0),(4,.nil),(10,.d (.sl (cM aK.cells a0.Choices))),(11,dI (a0.Choices.length:Int)),(12,dI p1)],[(1,some (.box (aR a0.cells))),(20,some (.rows 0 3 1 (cM cI p2)))]⟩
theorem KY (a0:aC) (p1:Int) (p2:List Int):bP TT rS (wU a0 p1 p2) (fun e s=>some (e,s)) = cU (fun (w:Int × (List Int))=>wU a0 w.1 w.2) (fun (r:((List Int)) ⊕ Unit)=>Sum.elim (fun (z:(List Int))=>(((.exit 0),⟨[(1,.ptr 1 0),(3,.own 20 0),(4,.nil)],[(1,some (.box (aR a0.cells))),(20,some (.rows 0 3 1 (cM cI z)))]⟩):Ex × St)) (fun (z:Unit)=>((.ret,⟨[(2,dB false)],[]⟩):Ex × St)) r) (eQ a0 p1 p2):=by
 unfold rS eQ
 have u:=@sB
 exact nQ
theorem K7 {β:Type} (a0:aC) (p1:Int) (p2:List Int) (k:Ex->St->Option β):bP TT CC (wU a0 p1 p2) k = (qQ a0 p1 p2).bind (fun (r:((List Int)) ⊕ Unit)=>Sum.elim (fun (z:(List Int))=>k (.exit 0) ⟨[(1,.ptr 1 0),(3,.own 20 0),(4,.nil)],[(1,some (.box (aR a0.cells))),(20,some (.rows 0 3 1 (cM cI z)))]⟩) (fun (z:Unit)=>k .ret ⟨[(2,dB false)],[]⟩) r):=by
 have hh:=fun (w:Int × (List Int))=>KY a0 w.1 w.2
 have h:=fun ho=>aZ (T:=TT) (k:=k) (c:=rS) (step:=(fun (w:Int × (List Int))=>eQ a0 w.1 w.2)) _ _ ho hh (p1,p2)
 refine Eq.trans (h (fun r s e=>by have q:=congrArg Prod.fst e; rcases r with x | x <;> cases q)) ?_
 unfold qQ
 exact aL _ fun x=>by rcases x with x | x <;> rfl
abbrev wN (a0:aC) (z7:(List Int)) (p9:Int) (p10:List Int):St:=⟨[(3,.own 20 0),(4,.own 37 0),(27,.d (.sl (cM aV.cells a0.Rules))),(28,dI (a0.Rules.length:Int)),(29,dI p9)],[(20,some (.rows 0 3 1 (cM cI z7))),(37,some (.rows 0 3 1 (cM cI p10)))]⟩
theorem LB (a0:aC) (z7:(List Int)) (p9:Int) (p10:List Int):bP TT rU (wN a0 z7 p9 p10) (fun e s=>some (e,s)) = cU (fun (w:Int × (List Int))=>wN a0 z7 w.1 w.2) (fun (r:(List Int))=>(((.exit 2),⟨[(3,.own 20 0),(4,.own 37 0)],[(20,some (.rows 0 3 1 (cM cI z7))),(37,some (.rows 0 3 1 (cM cI r)))]⟩):Ex × St)) (eS a0 z7 p9 p10):=by
 unfold rU eS
 exact CH
theorem KQ {β:Type} (a0:aC) (z7:(List Int)) (p9:Int) (p10:List Int) (k:Ex->St->Option β):bP TT CE (wN a0 z7 p9 p10) k = (qP a0 z7 p9 p10).bind (fun (r:(List Int))=>k (.exit 2) ⟨[(3,.own 20 0),(4,.own 37 0)],[(20,some (.rows 0 3 1 (cM cI z7))),(37,some (.rows 0 3 1 (cM cI r)))]⟩):=by
 have hh:=fun (w:Int × (List Int))=>LB a0 z7 w.1 w.2
 have h:=fun ho=>aZ (T:=TT) (k:=k) (c:=rU) (step:=(fun (w:Int × (List Int))=>eS a0 z7 w.1 w.2)) _ _ ho hh (p9,p10)
 refine Eq.trans (h (fun r s e=>by have q:=congrArg Prod.fst e; rcases r with x <;> cases q)) ?_
 unfold qP
 exact aL _ fun x=>by rcases x with x <;> rfl
theorem QA (a0:aC):Vm.call TT 36 [.agg a0.cells] = (nJ a0).map fun (r:Bool)=>.bool r:=by
 refine (bE (show TT 36 = some (.code ⟨1,45,[.tmp 2],aJb,false,false⟩) from rfl) _ rfl rfl).trans ?_
 show bP TT aJb ⟨[(0,jQ a0.cells)],[]⟩ _ = _
 unfold aJb nJ
 have u:=aN @K7 (aN @KQ @E9)
 exact nQ
theorem PZ (a0:aC):KF TT 36 [.agg a0.cells] (nJ a0) (fun (r:Bool)=>dB r):=kF (QA a0) (fun _=>rfl) (fun _=>rfl)
theorem HP (a0:Int) (a1:aB):Vm.call TT 35 [.int .i64 a0,.ptr a1.cells 0] = (hJ a0 a1).map fun (r:Bool)=>.bool r:=by
 refine (bE (show TT 35 = some (.code ⟨2,10,[.tmp 3],aHO,false,false⟩) from rfl) _ rfl rfl).trans ?_
 show bP TT aHO ⟨[(0,dI a0),(1,.d (.ptr a1.cells 0))],[]⟩ _ = _
 unfold aHO hJ
 have u:=@PZ
 exact nQ
theorem HO (a0:Int) (a1:aB):KF TT 35 [.int .i64 a0,.ptr a1.cells 0] (hJ a0 a1) (fun (r:Bool)=>dB r):=kF (HP a0 a1) (fun _=>rfl) (fun _=>rfl)
abbrev sX (a0:List ByteArray) (a2:aB) (p1:Int):St:=⟨[(0,.d (.sl (cM cS a0))),(2,.d (.fn 35 [.ptr a2.cells 0])),(14,dI (a0.length:Int)),(15,dI p1)],[]⟩
theorem GZ (a0:List ByteArray) (a2:aB) (p1:Int):bP TT cX (sX a0 a2 p1) (fun e s=>some (e,s)) = cU (fun (w:Int)=>sX a0 a2 w) (fun (r:Unit ⊕ Int)=>Sum.elim (fun (z:Unit)=>(((.exit 0),⟨[],[]⟩):Ex × St)) (fun (z:Int)=>((.ret,⟨[(6,dI z)],[]⟩):Ex × St)) r) (jL a0 a2 p1):=by
 unfold cX jL
 have u:=aN @HO @wO
 exact nQ
theorem G9 {β:Type} (a0:List ByteArray) (a2:aB) (p1:Int) (k:Ex->St->Option β):bP TT oL (sX a0 a2 p1) k = (xF a0 a2 p1).bind (fun (r:Unit ⊕ Int)=>Sum.elim (fun (z:Unit)=>k (.exit 0) ⟨[],[]⟩) (fun (z:Int)=>k .ret ⟨[(6,dI z)],[]⟩) r):=by
 have hh:=fun (w:Int)=>GZ a0 a2 w
 have h:=fun ho=>aZ (T:=TT) (k:=k) (c:=cX) (step:=(fun (w:Int)=>jL a0 a2 w)) _ _ ho hh p1
 refine Eq.trans (h (fun r s e=>by have q:=congrArg Prod.fst e; rcases r with x | x <;> cases q)) ?_
 unfold xF
 exact aL _ fun x=>by rcases x with x | x <;> rfl
theorem MJ (a0:List ByteArray) (a1:Int) (a2:aB):Vm.call TT 29 [.sl (cM cS a0),.int .i64 a1,.fn 35 [.ptr a2.cells 0]] = (kI a0 a1 a2).map fun (r:Int)=>.int .i64 r:=by
 refine (bE (show TT 29 = some (.code ⟨3,29,[.tmp 6],NH,false,false⟩) from rfl) _ rfl rfl).trans ?_
 show bP TT NH ⟨[(0,.d (.sl (cM cS a0))),(1,dI a1),(2,.d (.fn 35 [.ptr a2.cells 0]))],[]⟩ _ = _
 unfold NH kI
 have u:=@G9
 exact nQ
theorem NO (a0:List ByteArray) (a1:Int) (a2:aB):KF TT 29 [.sl (cM cS a0),.int .i64 a1,.fn 35 [.ptr a2.cells 0]] (kI a0 a1 a2) (fun (r:Int)=>dI r):=kF (MJ a0 a1 a2) (fun _=>rfl) (fun _=>rfl)
abbrev sZ (a0:aB) (p1:Int) (x2:aO) (p5:Int):St:=⟨[(1,.ptr 1 0),(4,.ptr 4 0),(12,.d (.sl (cM aO.cells a0.Usances))),(13,dI (a0.Usances.length:Int)),(14,dI p1),(48,.d (.sl (cM aO.cells (lZ a0.Usances 0 p1)))),(49,dI ((lZ a0.Usances 0 p1).length:Int)),(50,dI p5)],[(1,some (.box (aR a0.cells))),(4,some (.box (aR x2.cells)))]⟩
theorem H7 (a0:aB) (p1:Int) (x2:aO) (p5:Int):bP TT nS (sZ a0 p1 x2 p5) (fun e s=>some (e,s)) = cU (fun (w:Int)=>sZ a0 p1 x2 w) (fun (r:Unit ⊕ Unit)=>Sum.elim (fun (z:Unit)=>(((.exit 2),⟨[(1,.ptr 1 0),(12,.d (.sl (cM aO.cells a0.Usances))),(13,dI (a0.Usances.length:Int)),(14,dI p1)],[(1,some (.box (aR a0.cells)))]⟩):Ex × St)) (fun (z:Unit)=>((.ret,⟨[(2,dI 5)],[]⟩):Ex × St)) r) (dG a0 p1 x2 p5):=by
 unfold nS dG
 exact CH
theorem H0 {β:Type} (a0:aB) (p1:Int) (x2:aO) (p5:Int) (k:Ex->St->Option β):bP TT AO (sZ a0 p1 x2 p5) k = (mW a0 p1 x2 p5).bind (fun (r:Unit ⊕ Unit)=>Sum.elim (fun (z:Unit)=>k (.exit 2) ⟨[(1,.ptr 1 0),(12,.d (.sl (cM aO.cells a0.Usances))),(13,dI (a0.Usances.length:Int)),(14,dI p1)],[(1,some (.box (aR a0.cells)))]⟩) (fun (z:Unit)=>k .ret ⟨[(2,dI 5)],[]⟩) r):=by
 have hh:=fun (w:Int)=>H7 a0 p1 x2 w
 have h:=fun ho=>aZ (T:=TT) (k:=k) (c:=nS) (step:=(fun (w:Int)=>dG a0 p1 x2 w)) _ _ ho hh p5
 refine Eq.trans (h (fun r s e=>by have q:=congrArg Prod.fst e; rcases r with x | x <;> cases q)) ?_
 unfold mW
 exact aL _ fun x=>by rcases x with x | x <;> rfl
abbrev uA (a0:aB) (p1:Int):St:=⟨[(1,.ptr 1 0),(12,.d (.sl (cM aO.cells a0.Usances))),(13,dI (a0.Usances.length:Int)),(14,dI p1)],[(1,some (.box (aR a0.cells)))]⟩
theorem HU (a0:aB) (p1:Int):bP TT oE (uA a0 p1) (fun e s=>some (e,s)) = cU (fun (w:Int)=>uA a0 w) (fun (r:Unit ⊕ Int)=>Sum.elim (fun (z:Unit)=>(((.exit 0),⟨[],[]⟩):Ex × St)) (fun (z:Int)=>((.ret,⟨[(2,dI z)],[]⟩):Ex × St)) r) (dF a0 p1):=by
 unfold oE dF
 have u:=aN @H0 @sB
 exact nQ
theorem G8 {β:Type} (a0:aB) (p1:Int) (k:Ex->St->Option β):bP TT AK (uA a0 p1) k = (rZ a0 p1).bind (fun (r:Unit ⊕ Int)=>Sum.elim (fun (z:Unit)=>k (.exit 0) ⟨[],[]⟩) (fun (z:Int)=>k .ret ⟨[(2,dI z)],[]⟩) r):=by
 have hh:=fun (w:Int)=>HU a0 w
 have h:=fun ho=>aZ (T:=TT) (k:=k) (c:=oE) (step:=(fun (w:Int)=>dF a0 w)) _ _ ho hh p1
 refine Eq.trans (h (fun r s e=>by have q:=congrArg Prod.fst e; rcases r with x | x <;> cases q)) ?_
 unfold rZ
 exact aL _ fun x=>by rcases x with x | x <;> rfl
theorem ME (a0:aB):Vm.call TT 37 [.agg a0.cells] = (kM a0).map fun (r:Int)=>.int .i64 r:=by
 refine (bE (show TT 37 = some (.code ⟨1,68,[.tmp 2],aIx,false,false⟩) from rfl) _ rfl rfl).trans ?_
 show bP TT aIx ⟨[(0,jQ a0.cells)],[]⟩ _ = _
 unfold aIx kM
 have u:=@G8
 exact nQ
theorem MU (a0:aB):KF TT 37 [.agg a0.cells] (kM a0) (fun (r:Int)=>dI r):=kF (ME a0) (fun _=>rfl) (fun _=>rfl)
abbrev xR (a0:aB) (p1:Int):St:=⟨[(1,.ptr 1 0),(12,.d (.sl (cM bK.cells a0.Rates))),(13,dI (a0.Rates.length:Int)),(14,dI p1)],[(1,some (.box (aR a0.cells)))]⟩
theorem L6 (a0:aB) (p1:Int):bP TT sQ (xR a0 p1) (fun e s=>some (e,s)) = cU (fun (w:Int)=>xR a0 w) (fun (r:Unit ⊕ Unit)=>Sum.elim (fun (z:Unit)=>(((.exit 0),⟨[(1,.ptr 1 0)],[(1,some (.box (aR a0.cells)))]⟩):Ex × St)) (fun (z:Unit)=>((.ret,⟨[(2,dI 1)],[]⟩):Ex × St)) r) (fL a0 p1):=by
 unfold sQ fL
 have u:=@sB
 exact nQ
theorem NG {β:Type} (a0:aB) (p1:Int) (k:Ex->St->Option β):bP TT DF (xR a0 p1) k = (sD a0 p1).bind (fun (r:Unit ⊕ Unit)=>Sum.elim (fun (z:Unit)=>k (.exit 0) ⟨[(1,.ptr 1 0)],[(1,some (.box (aR a0.cells)))]⟩) (fun (z:Unit)=>k .ret ⟨[(2,dI 1)],[]⟩) r):=by
 have hh:=fun (w:Int)=>L6 a0 w
 have h:=fun ho=>aZ (T:=TT) (k:=k) (c:=sQ) (step:=(fun (w:Int)=>fL a0 w)) _ _ ho hh p1
 refine Eq.trans (h (fun r s e=>by have q:=congrArg Prod.fst e; rcases r with x | x <;> cases q)) ?_
 unfold sD
 exact aL _ fun x=>by rcases x with x | x <;> rfl
abbrev yB (a0:aB) (p11:Int):St:=⟨[(1,.ptr 1 0),(67,.d (.sl (cM bR.cells a0.Halts))),(68,dI (a0.Halts.length:Int)),(69,dI p11)],[(1,some (.box (aR a0.cells)))]⟩
theorem MV (a0:aB) (p11:Int):bP TT sM (yB a0 p11) (fun e s=>some (e,s)) = cU (fun (w:Int)=>yB a0 w) (fun (r:Unit ⊕ Unit)=>Sum.elim (fun (z:Unit)=>(((.exit 2),⟨[],[]⟩):Ex × St)) (fun (z:Unit)=>((.ret,⟨[(2,dI 1)],[]⟩):Ex × St)) r) (fM a0 p11):=by
 unfold sM fM
 have u:=@sB
 exact nQ
theorem M0 {β:Type} (a0:aB) (p11:Int) (k:Ex->St->Option β):bP TT DH (yB a0 p11) k = (sF a0 p11).bind (fun (r:Unit ⊕ Unit)=>Sum.elim (fun (z:Unit)=>k (.exit 2) ⟨[],[]⟩) (fun (z:Unit)=>k .ret ⟨[(2,dI 1)],[]⟩) r):=by
 have hh:=fun (w:Int)=>MV a0 w
 have h:=fun ho=>aZ (T:=TT) (k:=k) (c:=sM) (step:=(fun (w:Int)=>fM a0 w)) _ _ ho hh p11
 refine Eq.trans (h (fun r s e=>by have q:=congrArg Prod.fst e; rcases r with x | x <;> cases q)) ?_
 unfold sF
 exact aL _ fun x=>by rcases x with x | x <;> rfl
theorem RJ (a0:aB):Vm.call TT 38 [.agg a0.cells] = (pF a0).map fun (r:Int)=>.int .i64 r:=by
 refine (bE (show TT 38 = some (.code ⟨1,98,[.tmp 2],aHv,false,false⟩) from rfl) _ rfl rfl).trans ?_
 show bP TT aHv ⟨[(0,jQ a0.cells)],[]⟩ _ = _
 unfold aHv pF
 have u:=aN @NG @M0
 exact nQ
theorem RR (a0:aB):KF TT 38 [.agg a0.cells] (pF a0) (fun (r:Int)=>dI r):=kF (RJ a0) (fun _=>rfl) (fun _=>rfl)
abbrev xD (a0:aB) (r1:(List ByteArray) × (List ByteArray) × (List ByteArray)) (p4:Int):St:=⟨[(1,.d (.ptr a0.cells 0)),(4,.d (.sl (cM cS r1.2.1))),(5,.d (.sl (cM cS r1.2.2))),(36,.d (.sl (cM bI.cells a0.Groups))),(37,dI (a0.Groups.length:Int)),(38,dI p4)],[]⟩
theorem K6 (a0:aB) (r1:(List ByteArray) × (List ByteArray) × (List ByteArray)) (p4:Int):bP TT rF (xD a0 r1 p4) (fun e s=>some (e,s)) = cU (fun (w:Int)=>xD a0 r1 w) (fun (r:Unit ⊕ Unit)=>Sum.elim (fun (z:Unit)=>(((.exit 0),⟨[(1,.d (.ptr a0.cells 0)),(4,.d (.sl (cM cS r1.2.1))),(5,.d (.sl (cM cS r1.2.2)))],[]⟩):Ex × St)) (fun (z:Unit)=>((.ret,⟨[(2,dI 1)],[]⟩):Ex × St)) r) (eR a0 r1 p4):=by
 unfold rF eR
 have u:=@sB
 exact nQ
theorem KN {β:Type} (a0:aB) (r1:(List ByteArray) × (List ByteArray) × (List ByteArray)) (p4:Int) (k:Ex->St->Option β):bP TT CL (xD a0 r1 p4) k = (qT a0 r1 p4).bind (fun (r:Unit ⊕ Unit)=>Sum.elim (fun (z:Unit)=>k (.exit 0) ⟨[(1,.d (.ptr a0.cells 0)),(4,.d (.sl (cM cS r1.2.1))),(5,.d (.sl (cM cS r1.2.2)))],[]⟩) (fun (z:Unit)=>k .ret ⟨[(2,dI 1)],[]⟩) r):=by
 have hh:=fun (w:Int)=>K6 a0 r1 w
 have h:=fun ho=>aZ (T:=TT) (k:=k) (c:=rF) (step:=(fun (w:Int)=>eR a0 r1 w)) _ _ ho hh p4
 refine Eq.trans (h (fun r s e=>by have q:=congrArg Prod.fst e; rcases r with x | x <;> cases q)) ?_
 unfold qT
 exact aL _ fun x=>by rcases x with x | x <;> rfl
theorem PP (a0:aB):Vm.call TT 18 [.agg a0.cells] = (gN a0).map fun (r:Int)=>.int .i64 r:=by
 refine (bE (show TT 18 = some (.code ⟨1,66,[.tmp 2],aH4,false,false⟩) from rfl) _ rfl rfl).trans ?_
 show bP TT aH4 ⟨[(0,jQ a0.cells)],[]⟩ _ = _
 unfold aH4 gN
 have u:=aN (aN (aN @KN @QW) (aN @NC @MR)) (aN (aN @NJ @NO) (aN @MU @RR))
 exact nQ
theorem FN (a0:aB):KF TT 18 [.agg a0.cells] (gN a0) (fun (r:Int)=>dI r):=kF (PP a0) (fun _=>rfl) (fun _=>rfl)
abbrev vQ (a0:aC) (a1 p1:Int):St:=⟨[(1,dI a1),(9,.d (.sl (cM aK.cells a0.Choices))),(10,dI (a0.Choices.length:Int)),(11,dI p1)],[]⟩
theorem JD (a0:aC) (a1 p1:Int):bP TT qD (vQ a0 a1 p1) (fun e s=>some (e,s)) = cU (fun (w:Int)=>vQ a0 a1 w) (fun (r:Unit ⊕ (Int × Bool))=>Sum.elim (fun (z:Unit)=>(((.exit 0),⟨[],[]⟩):Ex × St)) (fun (z:Int × Bool)=>((.ret,⟨[(4,dI z.1),(5,dB z.2)],[]⟩):Ex × St)) r) (iJ a0 a1 p1):=by
 unfold qD iJ
 exact CH
theorem JY {β:Type} (a0:aC) (a1 p1:Int) (k:Ex->St->Option β):bP TT A5 (vQ a0 a1 p1) k = (sN a0 a1 p1).bind (fun (r:Unit ⊕ (Int × Bool))=>Sum.elim (fun (z:Unit)=>k (.exit 0) ⟨[],[]⟩) (fun (z:Int × Bool)=>k .ret ⟨[(4,dI z.1),(5,dB z.2)],[]⟩) r):=by
 have hh:=fun (w:Int)=>JD a0 a1 w
 have h:=fun ho=>aZ (T:=TT) (k:=k) (c:=qD) (step:=(fun (w:Int)=>iJ a0 a1 w)) _ _ ho hh p1
 refine Eq.trans (h (fun r s e=>by have q:=congrArg Prod.fst e; rcases r with x | x <;> cases q)) ?_
 unfold sN
 exact aL _ fun x=>by rcases x with x | x <;> rfl
theorem OR (a0:aC) (a1:Int):Vm.call TT 43 [.agg a0.cells,.int .i64 a1] = (mA a0 a1).map fun (r:Int × Bool)=>.tup [.int .i64 r.1,.bool r.2]:=by
 refine (bE (show TT 43 = some (.code ⟨2,29,[.tmp 4,.tmp 5],aHi,false,false⟩) from rfl) _ rfl rfl).trans ?_
 show bP TT aHi ⟨[(0,jQ a0.cells),(1,dI a1)],[]⟩ _ = _
 unfold aHi mA
 have u:=@JY
 exact nQ
theorem uP (a0:aC) (a1:Int):KF TT 43 [.agg a0.cells,.int .i64 a1] (mA a0 a1) (fun (r:Int × Bool)=>.tup [dI r.1,dB r.2]):=kF (OR a0 a1) (fun _=>rfl) (fun _=>rfl)
theorem aS (a0:List Int):Vm.call TT 40 [.sl (cM cI a0)] = (aE a0).map fun (r:(List Int))=>.own (.ref 0) [(3,1)] [cM cI r]:=by
 refine (aCl (show TT 40 = some (.told o40) from rfl) _ rfl).trans ?_
 have h1:sized 1 (cM cI a0) = true:=jD _ _ (fun x=>by rfl) a0
 have h2:LX (cM cI a0) = true:=aEJ _ _ (fun x=>rfl)
 have h3:(cM cI a0).length = a0.length:=List.length_map ..
 simp only [o40,TX,h1,h2,h3,true_and,aE]
 split <;> rfl
end Go.Proofs.Ytjjcaapdaldedaa
