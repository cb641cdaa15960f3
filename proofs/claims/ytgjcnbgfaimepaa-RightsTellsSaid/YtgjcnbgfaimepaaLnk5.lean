/- The functions of the small machine compute the plain definitions. Printed by a program. -/
import Derived.Test.YtgjcnbgfaimepaaLnk4
set_option linter.unusedVariables false
set_option linter.unusedSimpArgs false
namespace Go.Proofs.Ytgjcnbgfaimepaa
open Vm
open Go.RowKit
set_option maxRecDepth 100000
set_option maxHeartbeats 4000000
attribute [local congr] yF BK yB BI
abbrev wN (a0:List Int) (a1 p1:Int):St:=⟨[(0,.d (.sl (cM cI a0))),(1,dI a1),(5,dI p1)],[]⟩
theorem L7 (a0:List Int) (a1 p1:Int):bD TT qF (wN a0 a1 p1) (fun e s=>some (e,s)) = bP (fun (w:Int)=>wN a0 a1 w) (fun (r:Unit ⊕ Unit)=>Sum.elim (fun (z:Unit)=>(((.exit 0),⟨[],[]⟩):Ex × St)) (fun (z:Unit)=>((.ret,⟨[(4,dB true)],[]⟩):Ex × St)) r) (eQ a0 a1 p1):=by
 unfold qF eQ
 exact G7
theorem MD {β:Type} (a0:List Int) (a1 p1:Int) (k:Ex->St->Option β):bD TT CK (wN a0 a1 p1) k = (sG a0 a1 p1).bind (fun (r:Unit ⊕ Unit)=>Sum.elim (fun (z:Unit)=>k (.exit 0) ⟨[],[]⟩) (fun (z:Unit)=>k .ret ⟨[(4,dB true)],[]⟩) r):=by
 have hh:=fun (w:Int)=>L7 a0 a1 w
 have h:=fun ho=>aQ (T:=TT) (k:=k) (c:=qF) (step:=(fun (w:Int)=>eQ a0 a1 w)) _ _ ho hh p1
 refine Eq.trans (h (fun r s e=>by have q:=congrArg Prod.fst e; rcases r with x | x <;> cases q)) ?_
 unfold sG
 exact aK _ fun x=>by rcases x with x | x <;> rfl
theorem RA (a0:List Int) (a1:Int):Vm.call TT 29 [.sl (cM cI a0),.int .i64 a1] = (kE a0 a1).map fun (r:Bool)=>.bool r:=by
 refine (aV (show TT 29 = some (.code ⟨2,18,[.tmp 4],aPd,false,false⟩) from rfl) _ rfl rfl).trans ?_
 show bD TT aPd ⟨[(0,.d (.sl (cM cI a0))),(1,dI a1)],[]⟩ _ = _
 unfold aPd kE
 have u:=@MD
 exact mJ
theorem AF (a0:List Int) (a1:Int):KF TT 29 [.sl (cM cI a0),.int .i64 a1] (kE a0 a1) (fun (r:Bool)=>dB r):=kF (RA a0 a1) (fun _=>rfl) (fun _=>rfl)
theorem ME {β:Type} (a0:List Int) (a1 p3:Int) (p6:Bool) (p7:List Int) (k:Ex->St->Option β):bD TT vO ⟨[(0,.d (.sl (cM cI a0))),(1,dI a1),(5,.own 12 0),(6,dB p6),(7,dI p3)],[(12,some (.rows 0 3 1 (cM cI p7)))]⟩ k = (jG a0 a1 p3 p6 p7).bind (fun (r:(List Int))=>k .normal ⟨[(0,.d (.sl (cM cI a0))),(1,dI a1),(5,.own 12 0),(6,dB p6),(7,dI p3)],[(12,some (.rows 0 3 1 (cM cI r)))]⟩):=by
 unfold vO jG
 exact G7
abbrev wY (a0:List Int) (a1:Int) (p2:Bool) (p3:Int) (p4:List Int):St:=⟨[(0,.d (.sl (cM cI a0))),(1,dI a1),(5,.own 12 0),(6,dB p2),(7,dI p3)],[(12,some (.rows 0 3 1 (cM cI p4)))]⟩
theorem MH (a0:List Int) (a1:Int) (p2:Bool) (p3:Int) (p4:List Int):bD TT qB (wY a0 a1 p2 p3 p4) (fun e s=>some (e,s)) = bP (fun (w:Bool × Int × (List Int))=>wY a0 a1 w.1 w.2.1 w.2.2) (fun (r:Bool × (List Int))=>(((.exit 0),⟨[(1,dI a1),(5,.own 12 0),(6,dB r.1)],[(12,some (.rows 0 3 1 (cM cI r.2)))]⟩):Ex × St)) (bK a0 a1 p2 p3 p4):=by
 unfold qB bK
 have u:=@ME
 exact mJ
theorem NA {β:Type} (a0:List Int) (a1:Int) (p2:Bool) (p3:Int) (p4:List Int) (k:Ex->St->Option β):bD TT C9 (wY a0 a1 p2 p3 p4) k = (sK a0 a1 p2 p3 p4).bind (fun (r:Bool × (List Int))=>k (.exit 0) ⟨[(1,dI a1),(5,.own 12 0),(6,dB r.1)],[(12,some (.rows 0 3 1 (cM cI r.2)))]⟩):=by
 have hh:=fun (w:Bool × Int × (List Int))=>MH a0 a1 w.1 w.2.1 w.2.2
 have h:=fun ho=>aQ (T:=TT) (k:=k) (c:=qB) (step:=(fun (w:Bool × Int × (List Int))=>bK a0 a1 w.1 w.2.1 w.2.2)) _ _ ho hh (p2,p3,p4)
 refine Eq.trans (h (fun r s e=>by have q:=congrArg Prod.fst e; rcases r with x <;> cases q)) ?_
 unfold sK
 exact aK _ fun x=>by rcases x with x <;> rfl
theorem RB (a0:List Int) (a1:Int):Vm.call TT 59 [.sl (cM cI a0),.int .i64 a1] = (lT a0 a1).map fun (r:(List Int))=>.sl (cM cI r):=by
 refine (aV (show TT 59 = some (.code ⟨2,47,[.tmp 4],aNG,false,false⟩) from rfl) _ rfl rfl).trans ?_
 show bD TT aNG ⟨[(0,.d (.sl (cM cI a0))),(1,dI a1)],[]⟩ _ = _
 unfold aNG lT
 have u:=aN @NA @AF
 exact mJ
theorem FL (a0:List Int) (a1:Int):KD TT 59 [.sl (cM cI a0),.int .i64 a1] (lT a0 a1) (fun (r:(List Int))=>.d (.sl (cM cI r))):=kD (RB a0 a1) (fun _=>rfl) (fun _=>rfl) (fun _=>rfl)
abbrev rR (a0:List aF) (p2:Int) (p3:List Int) (p4:Int):St:=⟨[(0,.d (.sl (cM aF.cells a0))),(3,.d (.sl (cM cI p3))),(4,dI p2),(5,dI p4)],[(6,none)]⟩
theorem HO (a0:List aF) (p2:Int) (p3:List Int) (p4:Int):bD TT mP (rR a0 p2 p3 p4) (fun e s=>some (e,s)) = bP (fun (w:(List Int) × Int)=>rR a0 p2 w.1 w.2) (fun (r:(List Int))=>(((.exit 2),⟨[(0,.d (.sl (cM aF.cells a0))),(3,.d (.sl (cM cI r))),(4,dI p2)],[(6,none)]⟩):Ex × St)) (dH a0 p2 p3 p4):=by
 unfold mP dH
 have u:=@FL
 exact mJ
theorem HJ {β:Type} (a0:List aF) (p2:Int) (p3:List Int) (p4:Int) (k:Ex->St->Option β):bD TT yV (rR a0 p2 p3 p4) k = (kT a0 p2 p3 p4).bind (fun (r:(List Int))=>k (.exit 2) ⟨[(0,.d (.sl (cM aF.cells a0))),(3,.d (.sl (cM cI r))),(4,dI p2)],[(6,none)]⟩):=by
 have hh:=fun (w:(List Int) × Int)=>HO a0 p2 w.1 w.2
 have h:=fun ho=>aQ (T:=TT) (k:=k) (c:=mP) (step:=(fun (w:(List Int) × Int)=>dH a0 p2 w.1 w.2)) _ _ ho hh (p3,p4)
 refine Eq.trans (h (fun r s e=>by have q:=congrArg Prod.fst e; rcases r with x <;> cases q)) ?_
 unfold kT
 exact aK _ fun x=>by rcases x with x <;> rfl
abbrev rV (a0:List aF) (p1:List Int) (p2:Int):St:=⟨[(0,.d (.sl (cM aF.cells a0))),(3,.d (.sl (cM cI p1))),(4,dI p2)],[(6,none)]⟩
theorem HA (a0:List aF) (p1:List Int) (p2:Int):bD TT mQ (rV a0 p1 p2) (fun e s=>some (e,s)) = bP (fun (w:(List Int) × Int)=>rV a0 w.1 w.2) (fun (r:(List Int))=>(((.exit 0),⟨[(3,.d (.sl (cM cI r)))],[(6,none)]⟩):Ex × St)) (b8 a0 p1 p2):=by
 unfold mQ b8
 have u:=@HJ
 exact mJ
theorem HI {β:Type} (a0:List aF) (p1:List Int) (p2:Int) (k:Ex->St->Option β):bD TT yT (rV a0 p1 p2) k = (oV a0 p1 p2).bind (fun (r:(List Int))=>k (.exit 0) ⟨[(3,.d (.sl (cM cI r)))],[(6,none)]⟩):=by
 have hh:=fun (w:(List Int) × Int)=>HA a0 w.1 w.2
 have h:=fun ho=>aQ (T:=TT) (k:=k) (c:=mQ) (step:=(fun (w:(List Int) × Int)=>b8 a0 w.1 w.2)) _ _ ho hh (p1,p2)
 refine Eq.trans (h (fun r s e=>by have q:=congrArg Prod.fst e; rcases r with x <;> cases q)) ?_
 unfold oV
 exact aK _ fun x=>by rcases x with x <;> rfl
theorem M6 (a0:List aF):Vm.call TT 22 [.sl (cM aF.cells a0)] = (gP a0).map fun (r:(List Int))=>.sl (cM cI r):=by
 refine (aV (show TT 22 = some (.code ⟨1,35,[.tmp 2],aPc,false,false⟩) from rfl) _ rfl rfl).trans ?_
 show bD TT aPc ⟨[(0,.d (.sl (cM aF.cells a0)))],[]⟩ _ = _
 unfold aPc gP
 have u:=@HI
 exact mJ
theorem vN (a0:List aF):KD TT 22 [.sl (cM aF.cells a0)] (gP a0) (fun (r:(List Int))=>.d (.sl (cM cI r))):=kD (M6 a0) (fun _=>rfl) (fun _=>rfl) (fun _=>rfl)
abbrev vU (a0:Int) (a1:List aF) (p1:Int):St:=⟨[(0,dI a0),(1,.d (.sl (cM aF.cells a1))),(5,dI p1)],[]⟩
theorem MT (a0:Int) (a1:List aF) (p1:Int):bD TT pZ (vU a0 a1 p1) (fun e s=>some (e,s)) = bP (fun (w:Int)=>vU a0 a1 w) (fun (r:Unit ⊕ Unit)=>Sum.elim (fun (z:Unit)=>(((.exit 0),⟨[(0,dI a0),(1,.d (.sl (cM aF.cells a1)))],[]⟩):Ex × St)) (fun (z:Unit)=>((.ret,⟨[(4,dB false)],[]⟩):Ex × St)) r) (dV a0 a1 p1):=by
 unfold pZ dV
 exact G7
theorem MA {β:Type} (a0:Int) (a1:List aF) (p1:Int) (k:Ex->St->Option β):bD TT CL (vU a0 a1 p1) k = (sJ a0 a1 p1).bind (fun (r:Unit ⊕ Unit)=>Sum.elim (fun (z:Unit)=>k (.exit 0) ⟨[(0,dI a0),(1,.d (.sl (cM aF.cells a1)))],[]⟩) (fun (z:Unit)=>k .ret ⟨[(4,dB false)],[]⟩) r):=by
 have hh:=fun (w:Int)=>MT a0 a1 w
 have h:=fun ho=>aQ (T:=TT) (k:=k) (c:=pZ) (step:=(fun (w:Int)=>dV a0 a1 w)) _ _ ho hh p1
 refine Eq.trans (h (fun r s e=>by have q:=congrArg Prod.fst e; rcases r with x | x <;> cases q)) ?_
 unfold sJ
 exact aK _ fun x=>by rcases x with x | x <;> rfl
theorem Q8 (a0:Int) (a1:List aF):Vm.call TT 9 [.int .i64 a0,.sl (cM aF.cells a1)] = (oI a0 a1).map fun (r:Bool)=>.bool r:=by
 refine (aV (show TT 9 = some (.code ⟨2,34,[.tmp 4],bd9,false,false⟩) from rfl) _ rfl rfl).trans ?_
 show bD TT bd9 ⟨[(0,dI a0),(1,.d (.sl (cM aF.cells a1)))],[]⟩ _ = _
 unfold bd9 oI
 have u:=aN (aN @MA @vN) (aN @yC @Q0)
 exact mJ
theorem Q6 (a0:Int) (a1:List aF):KF TT 9 [.int .i64 a0,.sl (cM aF.cells a1)] (oI a0 a1) (fun (r:Bool)=>dB r):=kF (Q8 a0 a1) (fun _=>rfl) (fun _=>rfl)
abbrev s9 (a0:Int) (a1:List aI) (p1:Int):St:=⟨[(0,dI a0),(1,.d (.sl (cM aI.cells a1))),(5,dI p1)],[]⟩
theorem IA (a0:Int) (a1:List aI) (p1:Int):bD TT nW (s9 a0 a1 p1) (fun e s=>some (e,s)) = bP (fun (w:Int)=>s9 a0 a1 w) (fun (r:Unit ⊕ Unit)=>Sum.elim (fun (z:Unit)=>(((.exit 0),⟨[(0,dI a0),(1,.d (.sl (cM aI.cells a1)))],[]⟩):Ex × St)) (fun (z:Unit)=>((.ret,⟨[(4,dB false)],[]⟩):Ex × St)) r) (dY a0 a1 p1):=by
 unfold nW dY
 exact G7
theorem JU {β:Type} (a0:Int) (a1:List aI) (p1:Int) (k:Ex->St->Option β):bD TT A8 (s9 a0 a1 p1) k = (lX a0 a1 p1).bind (fun (r:Unit ⊕ Unit)=>Sum.elim (fun (z:Unit)=>k (.exit 0) ⟨[(0,dI a0),(1,.d (.sl (cM aI.cells a1)))],[]⟩) (fun (z:Unit)=>k .ret ⟨[(4,dB false)],[]⟩) r):=by
 have hh:=fun (w:Int)=>IA a0 a1 w
 have h:=fun ho=>aQ (T:=TT) (k:=k) (c:=nW) (step:=(fun (w:Int)=>dY a0 a1 w)) _ _ ho hh p1
 refine Eq.trans (h (fun r s e=>by have q:=congrArg Prod.fst e; rcases r with x | x <;> cases q)) ?_
 unfold lX
 exact aK _ fun x=>by rcases x with x | x <;> rfl
theorem NQ (a0:Int) (a1:List aI):Vm.call TT 56 [.int .i64 a0,.sl (cM aI.cells a1)] = (jY a0 a1).map fun (r:Bool)=>.bool r:=by
 refine (aV (show TT 56 = some (.code ⟨2,67,[.tmp 4],aNr,false,false⟩) from rfl) _ rfl rfl).trans ?_
 show bD TT aNr ⟨[(0,dI a0),(1,.d (.sl (cM aI.cells a1)))],[]⟩ _ = _
 unfold aNr jY
 have u:=@JU
 exact mJ
theorem DF (a0:Int) (a1:List aI):KF TT 56 [.int .i64 a0,.sl (cM aI.cells a1)] (jY a0 a1) (fun (r:Bool)=>dB r):=kF (NQ a0 a1) (fun _=>rfl) (fun _=>rfl)
abbrev tG (a1:List aF) (p3:Int) (x4:aF) (p5:Int):St:=⟨[(1,.d (.sl (cM aF.cells a1))),(5,dI p3),(6,.ptr 6 0),(7,dI p5)],[(6,some (.box (fL x4.cells)))]⟩
theorem H8 (a1:List aF) (p3:Int) (x4:aF) (p5:Int):bD TT nG (tG a1 p3 x4 p5) (fun e s=>some (e,s)) = bP (fun (w:Int)=>tG a1 p3 x4 w) (fun (r:Unit ⊕ Unit)=>Sum.elim (fun (z:Unit)=>(((.exit 2),⟨[(1,.d (.sl (cM aF.cells a1))),(5,dI p3)],[]⟩):Ex × St)) (fun (z:Unit)=>((.ret,⟨[(4,dI 1)],[]⟩):Ex × St)) r) (dR a1 p3 x4 p5):=by
 unfold nG dR
 exact G7
theorem JJ {β:Type} (a1:List aF) (p3:Int) (x4:aF) (p5:Int) (k:Ex->St->Option β):bD TT AZ (tG a1 p3 x4 p5) k = (lI a1 p3 x4 p5).bind (fun (r:Unit ⊕ Unit)=>Sum.elim (fun (z:Unit)=>k (.exit 2) ⟨[(1,.d (.sl (cM aF.cells a1))),(5,dI p3)],[]⟩) (fun (z:Unit)=>k .ret ⟨[(4,dI 1)],[]⟩) r):=by
 have hh:=fun (w:Int)=>H8 a1 p3 x4 w
 have h:=fun ho=>aQ (T:=TT) (k:=k) (c:=nG) (step:=(fun (w:Int)=>dR a1 p3 x4 w)) _ _ ho hh p5
 refine Eq.trans (h (fun r s e=>by have q:=congrArg Prod.fst e; rcases r with x | x <;> cases q)) ?_
 unfold lI
 exact aK _ fun x=>by rcases x with x | x <;> rfl
abbrev tZ (a1:List aF) (p3:Int):St:=⟨[(1,.d (.sl (cM aF.cells a1))),(5,dI p3)],[]⟩
theorem JO (a1:List aF) (p3:Int):bD TT nM (tZ a1 p3) (fun e s=>some (e,s)) = bP (fun (w:Int)=>tZ a1 w) (fun (r:Unit ⊕ Unit)=>Sum.elim (fun (z:Unit)=>(((.exit 0),⟨[],[]⟩):Ex × St)) (fun (z:Unit)=>((.ret,⟨[(4,dI 1)],[]⟩):Ex × St)) r) (dX a1 p3):=by
 unfold nM dX
 have u:=@JJ
 exact mJ
theorem JR {β:Type} (a1:List aF) (p3:Int) (k:Ex->St->Option β):bD TT AV (tZ a1 p3) k = (lP a1 p3).bind (fun (r:Unit ⊕ Unit)=>Sum.elim (fun (z:Unit)=>k (.exit 0) ⟨[],[]⟩) (fun (z:Unit)=>k .ret ⟨[(4,dI 1)],[]⟩) r):=by
 have hh:=fun (w:Int)=>JO a1 w
 have h:=fun ho=>aQ (T:=TT) (k:=k) (c:=nM) (step:=(fun (w:Int)=>dX a1 w)) _ _ ho hh p3
 refine Eq.trans (h (fun r s e=>by have q:=congrArg Prod.fst e; rcases r with x | x <;> cases q)) ?_
 unfold lP
 exact aK _ fun x=>by rcases x with x | x <;> rfl
theorem NR (a0:Int) (a1:List aF):Vm.call TT 20 [.int .i64 a0,.sl (cM aF.cells a1)] = (iL a0 a1).map fun (r:Int)=>.int .i64 r:=by
 refine (aV (show TT 20 = some (.code ⟨2,88,[.tmp 4],aPl,false,false⟩) from rfl) _ rfl rfl).trans ?_
 show bD TT aPl ⟨[(0,dI a0),(1,.d (.sl (cM aF.cells a1)))],[]⟩ _ = _
 unfold aPl iL
 have u:=aN @JR (aN @yC @DF)
 exact mJ
theorem xM (a0:Int) (a1:List aF):KF TT 20 [.int .i64 a0,.sl (cM aF.cells a1)] (iL a0 a1) (fun (r:Int)=>dI r):=kF (NR a0 a1) (fun _=>rfl) (fun _=>rfl)
abbrev tF (a0:List Int) (p1:Int):St:=⟨[(0,.d (.sl (cM cI a0))),(3,dI p1)],[]⟩
theorem JT (a0:List Int) (p1:Int):bD TT nZ (tF a0 p1) (fun e s=>some (e,s)) = bP (fun (w:Int)=>tF a0 w) (fun (r:Unit ⊕ Unit)=>Sum.elim (fun (z:Unit)=>(((.exit 0),⟨[],[]⟩):Ex × St)) (fun (z:Unit)=>((.ret,⟨[(2,dB false)],[]⟩):Ex × St)) r) (dZ a0 p1):=by
 unfold nZ dZ
 exact G7
theorem I4 {β:Type} (a0:List Int) (p1:Int) (k:Ex->St->Option β):bD TT A3 (tF a0 p1) k = (qH a0 p1).bind (fun (r:Unit ⊕ Unit)=>Sum.elim (fun (z:Unit)=>k (.exit 0) ⟨[],[]⟩) (fun (z:Unit)=>k .ret ⟨[(2,dB false)],[]⟩) r):=by
 have hh:=fun (w:Int)=>JT a0 w
 have h:=fun ho=>aQ (T:=TT) (k:=k) (c:=nZ) (step:=(fun (w:Int)=>dZ a0 w)) _ _ ho hh p1
 refine Eq.trans (h (fun r s e=>by have q:=congrArg Prod.fst e; rcases r with x | x <;> cases q)) ?_
 unfold qH
 exact aK _ fun x=>by rcases x with x | x <;> rfl
theorem N6 (a0:List Int):Vm.call TT 39 [.sl (cM cI a0)] = (j0 a0).map fun (r:Bool)=>.bool r:=by
 refine (aV (show TT 39 = some (.code ⟨1,38,[.tmp 2],aOA,false,false⟩) from rfl) _ rfl rfl).trans ?_
 show bD TT aOA ⟨[(0,.d (.sl (cM cI a0)))],[]⟩ _ = _
 unfold aOA j0
 have u:=@I4
 exact mJ
theorem DK (a0:List Int):KF TT 39 [.sl (cM cI a0)] (j0 a0) (fun (r:Bool)=>dB r):=kF (N6 a0) (fun _=>rfl) (fun _=>rfl)
abbrev uX (a0:aF) (a1:List Int) (p1:Int):St:=⟨[(1,.d (.sl (cM cI a1))),(2,.ptr 2 0),(5,dI p1)],[(2,some (.box (fL a0.cells)))]⟩
theorem KB (a0:aF) (a1:List Int) (p1:Int):bD TT oW (uX a0 a1 p1) (fun e s=>some (e,s)) = bP (fun (w:Int)=>uX a0 a1 w) (fun (r:Unit ⊕ Unit)=>Sum.elim (fun (z:Unit)=>(((.exit 0),⟨[],[]⟩):Ex × St)) (fun (z:Unit)=>((.ret,⟨[(4,dB false)],[]⟩):Ex × St)) r) (eJ a0 a1 p1):=by
 unfold oW eJ
 have u:=@AF
 exact mJ
theorem KS {β:Type} (a0:aF) (a1:List Int) (p1:Int) (k:Ex->St->Option β):bD TT B9 (uX a0 a1 p1) k = (rE a0 a1 p1).bind (fun (r:Unit ⊕ Unit)=>Sum.elim (fun (z:Unit)=>k (.exit 0) ⟨[],[]⟩) (fun (z:Unit)=>k .ret ⟨[(4,dB false)],[]⟩) r):=by
 have hh:=fun (w:Int)=>KB a0 a1 w
 have h:=fun ho=>aQ (T:=TT) (k:=k) (c:=oW) (step:=(fun (w:Int)=>eJ a0 a1 w)) _ _ ho hh p1
 refine Eq.trans (h (fun r s e=>by have q:=congrArg Prod.fst e; rcases r with x | x <;> cases q)) ?_
 unfold rE
 exact aK _ fun x=>by rcases x with x | x <;> rfl
theorem P5 (a0:aF) (a1:List Int):Vm.call TT 40 [.agg a0.cells,.sl (cM cI a1)] = (jD a0 a1).map fun (r:Bool)=>.bool r:=by
 refine (aV (show TT 40 = some (.code ⟨2,22,[.tmp 4],aP4,false,false⟩) from rfl) _ rfl rfl).trans ?_
 show bD TT aP4 ⟨[(0,zZ a0.cells),(1,.d (.sl (cM cI a1)))],[]⟩ _ = _
 unfold aP4 jD
 have u:=@KS
 exact mJ
theorem xW (a0:aF) (a1:List Int):KF TT 40 [.agg a0.cells,.sl (cM cI a1)] (jD a0 a1) (fun (r:Bool)=>dB r):=kF (P5 a0 a1) (fun _=>rfl) (fun _=>rfl)
theorem I2 {β:Type} (a0:List aI) (a1:List Int) (p1:Int) (x3:aI) (p5:List aD) (k:Ex->St->Option β):bD TT s7 ⟨[(0,.d (.sl (cM aI.cells a0))),(1,.d (.sl (cM cI a1))),(7,.own 36 0),(8,dI p1),(9,.ptr 9 0)],[(9,some (.box (fL x3.cells))),(36,some (.rows 0 128 4 (cM aD.cells p5)))]⟩ k = (jQ a0 a1 p1 x3 p5).bind (fun (r:(List aD))=>k .normal ⟨[(0,.d (.sl (cM aI.cells a0))),(1,.d (.sl (cM cI a1))),(7,.own 36 0),(8,dI p1)],[(36,some (.rows 0 128 4 (cM aD.cells r)))]⟩):=by
 unfold s7 jQ
 exact G7
abbrev tU (a0:List aI) (a1:List Int) (p1:Int) (p2:List aD):St:=⟨[(0,.d (.sl (cM aI.cells a0))),(1,.d (.sl (cM cI a1))),(7,.own 36 0),(8,dI p1)],[(36,some (.rows 0 128 4 (cM aD.cells p2)))]⟩
theorem JG (a0:List aI) (a1:List Int) (p1:Int) (p2:List aD):bD TT nX (tU a0 a1 p1 p2) (fun e s=>some (e,s)) = bP (fun (w:Int × (List aD))=>tU a0 a1 w.1 w.2) (fun (r:(List aD))=>(((.exit 0),⟨[(7,.own 36 0)],[(36,some (.rows 0 128 4 (cM aD.cells r)))]⟩):Ex × St)) (cP a0 a1 p1 p2):=by
 unfold nX cP
 have u:=@I2
 exact mJ
theorem IJ {β:Type} (a0:List aI) (a1:List Int) (p1:Int) (p2:List aD) (k:Ex->St->Option β):bD TT AN (tU a0 a1 p1 p2) k = (pU a0 a1 p1 p2).bind (fun (r:(List aD))=>k (.exit 0) ⟨[(7,.own 36 0)],[(36,some (.rows 0 128 4 (cM aD.cells r)))]⟩):=by
 have hh:=fun (w:Int × (List aD))=>JG a0 a1 w.1 w.2
 have h:=fun ho=>aQ (T:=TT) (k:=k) (c:=nX) (step:=(fun (w:Int × (List aD))=>cP a0 a1 w.1 w.2)) _ _ ho hh (p1,p2)
 refine Eq.trans (h (fun r s e=>by have q:=congrArg Prod.fst e; rcases r with x <;> cases q)) ?_
 unfold pU
 exact aK _ fun x=>by rcases x with x <;> rfl
theorem NP (a0:List aI) (a1:List Int) (a2:Int):Vm.call TT 91 [.sl (cM aI.cells a0),.sl (cM cI a1),.int .i64 a2] = (gH a0 a1 a2).map fun (r:(List aD))=>.sl (cM aD.cells r):=by
 refine (aV (show TT 91 = some (.code ⟨3,52,[.tmp 6],aPN,false,false⟩) from rfl) _ rfl rfl).trans ?_
 show bD TT aPN ⟨[(0,.d (.sl (cM aI.cells a0))),(1,.d (.sl (cM cI a1))),(2,dI a2)],[]⟩ _ = _
 unfold aPN gH
 have u:=@IJ
 exact mJ
theorem xL (a0:List aI) (a1:List Int) (a2:Int):KD TT 91 [.sl (cM aI.cells a0),.sl (cM cI a1),.int .i64 a2] (gH a0 a1 a2) (fun (r:(List aD))=>.d (.sl (cM aD.cells r))):=kD (NP a0 a1 a2) (fun _=>rfl) (fun _=>rfl) (fun _=>rfl)
abbrev vZ (a0:Int) (a1:List aD) (a2 a3 p1:Int) (p2:List Int):St:=⟨[(0,dI a0),(1,.d (.sl (cM aD.cells a1))),(2,dI a2),(3,dI a3),(10,.own 18 0),(11,.own 20 0),(12,dI p1)],[(18,some (.rows 0 3 1 (cM cI p2))),(20,some (.rows 0 23 1 (cM (cL cI) (List.replicate a0.toNat ([]:List Int)))))]⟩
theorem LR (a0:Int) (a1:List aD) (a2 a3 p1:Int) (p2:List Int):bD TT pV (vZ a0 a1 a2 a3 p1 p2) (fun e s=>some (e,s)) = bP (fun (w:Int × (List Int))=>vZ a0 a1 a2 a3 w.1 w.2) (fun (r:(List Int))=>(((.exit 0),⟨[(0,dI a0),(1,.d (.sl (cM aD.cells a1))),(2,dI a2),(3,dI a3),(10,.own 18 0),(11,.own 20 0)],[(18,some (.rows 0 3 1 (cM cI r))),(20,some (.rows 0 23 1 (cM (cL cI) (List.replicate a0.toNat ([]:List Int)))))]⟩):Ex × St)) (dP a0 a1 a2 a3 p1 p2):=by
 unfold pV dP
 exact G7
theorem LN {β:Type} (a0:Int) (a1:List aD) (a2 a3 p1:Int) (p2:List Int) (k:Ex->St->Option β):bD TT C7 (vZ a0 a1 a2 a3 p1 p2) k = (oD a0 a1 a2 a3 p1 p2).bind (fun (r:(List Int))=>k (.exit 0) ⟨[(0,dI a0),(1,.d (.sl (cM aD.cells a1))),(2,dI a2),(3,dI a3),(10,.own 18 0),(11,.own 20 0)],[(18,some (.rows 0 3 1 (cM cI r))),(20,some (.rows 0 23 1 (cM (cL cI) (List.replicate a0.toNat ([]:List Int)))))]⟩):=by
 have hh:=fun (w:Int × (List Int))=>LR a0 a1 a2 a3 w.1 w.2
 have h:=fun ho=>aQ (T:=TT) (k:=k) (c:=pV) (step:=(fun (w:Int × (List Int))=>dP a0 a1 a2 a3 w.1 w.2)) _ _ ho hh (p1,p2)
 refine Eq.trans (h (fun r s e=>by have q:=congrArg Prod.fst e; rcases r with x <;> cases q)) ?_
 unfold oD
 exact aK _ fun x=>by rcases x with x <;> rfl
theorem MC {β:Type} (a0:Int) (a1:List aD) (a3 p10:Int) (p11:List Int) (p12:List (List Int)) (p7 x14:Int) (x15:aD) (k:Ex->St->Option β):bD TT vW ⟨[(0,dI a0),(1,.d (.sl (cM aD.cells a1))),(3,dI a3),(10,.own 18 0),(11,.own 20 0),(13,dI p7),(14,dI p10),(15,dI (IntKind.wrap .i64 (x14 + x15.Cost)))],[(18,some (.rows 0 3 1 (cM cI p11))),(20,some (.rows 0 23 1 (cM (cL cI) p12)))]⟩ k = (kY a0 a1 a3 p10 p11 p12 p7 x14 x15).bind (fun (r:(List Int) × (List (List Int)))=>k .normal ⟨[(0,dI a0),(1,.d (.sl (cM aD.cells a1))),(3,dI a3),(10,.own 18 0),(11,.own 20 0),(13,dI p7),(14,dI p10)],[(18,some (.rows 0 3 1 (cM cI r.1))),(20,some (.rows 0 23 1 (cM (cL cI) r.2)))]⟩):=by
 unfold vW kY
 exact G7
theorem MM {β:Type} (a0:Int) (a1:List aD) (a3 p10:Int) (p11:List Int) (p12:List (List Int)) (p7 x14:Int) (x15:aD) (p22:Bool) (k:Ex->St->Option β):bD TT wZ ⟨[(0,dI a0),(1,.d (.sl (cM aD.cells a1))),(3,dI a3),(10,.own 18 0),(11,.own 20 0),(13,dI p7),(14,dI p10),(15,dI (IntKind.wrap .i64 (x14 + x15.Cost))),(16,dB p22)],[(18,some (.rows 0 3 1 (cM cI p11))),(20,some (.rows 0 23 1 (cM (cL cI) p12)))]⟩ k = (kW a0 a1 a3 p10 p11 p12 p7 x14 x15 p22).bind (fun (r:(List Int) × (List (List Int)))=>k .normal ⟨[(0,dI a0),(1,.d (.sl (cM aD.cells a1))),(3,dI a3),(10,.own 18 0),(11,.own 20 0),(13,dI p7),(14,dI p10)],[(18,some (.rows 0 3 1 (cM cI r.1))),(20,some (.rows 0 23 1 (cM (cL cI) r.2)))]⟩):=by
 unfold wZ kW
 have u:=@MC
 exact mJ
abbrev wG (a0:Int) (a1:List aD) (a3 p7 p10:Int) (p11:List Int) (p12:List (List Int)):St:=⟨[(0,dI a0),(1,.d (.sl (cM aD.cells a1))),(3,dI a3),(10,.own 18 0),(11,.own 20 0),(13,dI p7),(14,dI p10)],[(18,some (.rows 0 3 1 (cM cI p11))),(20,some (.rows 0 23 1 (cM (cL cI) p12)))]⟩
theorem MW (a0:Int) (a1:List aD) (a3 p7 p10:Int) (p11:List Int) (p12:List (List Int)):bD TT pY (wG a0 a1 a3 p7 p10 p11 p12) (fun e s=>some (e,s)) = bP (fun (w:Int × (List Int) × (List (List Int)))=>wG a0 a1 a3 p7 w.1 w.2.1 w.2.2) (fun (r:(List Int) × (List (List Int)))=>(((.exit 4),⟨[(0,dI a0),(1,.d (.sl (cM aD.cells a1))),(3,dI a3),(10,.own 18 0),(11,.own 20 0),(13,dI p7)],[(18,some (.rows 0 3 1 (cM cI r.1))),(20,some (.rows 0 23 1 (cM (cL cI) r.2)))]⟩):Ex × St)) (dO a0 a1 a3 p7 p10 p11 p12):=by
 unfold pY dO
 have u:=@MM
 exact mJ
theorem L2 {β:Type} (a0:Int) (a1:List aD) (a3 p7 p10:Int) (p11:List Int) (p12:List (List Int)) (k:Ex->St->Option β):bD TT C4 (wG a0 a1 a3 p7 p10 p11 p12) k = (oA a0 a1 a3 p7 p10 p11 p12).bind (fun (r:(List Int) × (List (List Int)))=>k (.exit 4) ⟨[(0,dI a0),(1,.d (.sl (cM aD.cells a1))),(3,dI a3),(10,.own 18 0),(11,.own 20 0),(13,dI p7)],[(18,some (.rows 0 3 1 (cM cI r.1))),(20,some (.rows 0 23 1 (cM (cL cI) r.2)))]⟩):=by
 have hh:=fun (w:Int × (List Int) × (List (List Int)))=>MW a0 a1 a3 p7 w.1 w.2.1 w.2.2
 have h:=fun ho=>aQ (T:=TT) (k:=k) (c:=pY) (step:=(fun (w:Int × (List Int) × (List (List Int)))=>dO a0 a1 a3 p7 w.1 w.2.1 w.2.2)) _ _ ho hh (p10,p11,p12)
 refine Eq.trans (h (fun r s e=>by have q:=congrArg Prod.fst e; rcases r with x <;> cases q)) ?_
 unfold oA
 exact aK _ fun x=>by rcases x with x <;> rfl
abbrev wI (a0:Int) (a1:List aD) (a3 p7:Int) (p8:List Int) (p9:List (List Int)):St:=⟨[(0,dI a0),(1,.d (.sl (cM aD.cells a1))),(3,dI a3),(10,.own 18 0),(11,.own 20 0),(13,dI p7)],[(18,some (.rows 0 3 1 (cM cI p8))),(20,some (.rows 0 23 1 (cM (cL cI) p9)))]⟩
theorem L3 (a0:Int) (a1:List aD) (a3 p7:Int) (p8:List Int) (p9:List (List Int)):bD TT qD (wI a0 a1 a3 p7 p8 p9) (fun e s=>some (e,s)) = bP (fun (w:Int × (List Int) × (List (List Int)))=>wI a0 a1 a3 w.1 w.2.1 w.2.2) (fun (r:(List Int) × (List (List Int)))=>(((.exit 2),⟨[(3,dI a3),(10,.own 18 0),(11,.own 20 0)],[(18,some (.rows 0 3 1 (cM cI r.1))),(20,some (.rows 0 23 1 (cM (cL cI) r.2)))]⟩):Ex × St)) (dW a0 a1 a3 p7 p8 p9):=by
 unfold qD dW
 have u:=@L2
 exact mJ
theorem M0 {β:Type} (a0:Int) (a1:List aD) (a3 p7:Int) (p8:List Int) (p9:List (List Int)) (k:Ex->St->Option β):bD TT C6 (wI a0 a1 a3 p7 p8 p9) k = (oE a0 a1 a3 p7 p8 p9).bind (fun (r:(List Int) × (List (List Int)))=>k (.exit 2) ⟨[(3,dI a3),(10,.own 18 0),(11,.own 20 0)],[(18,some (.rows 0 3 1 (cM cI r.1))),(20,some (.rows 0 23 1 (cM (cL cI) r.2)))]⟩):=by
 have hh:=fun (w:Int × (List Int) × (List (List Int)))=>L3 a0 a1 a3 w.1 w.2.1 w.2.2
 have h:=fun ho=>aQ (T:=TT) (k:=k) (c:=qD) (step:=(fun (w:Int × (List Int) × (List (List Int)))=>dW a0 a1 a3 w.1 w.2.1 w.2.2)) _ _ ho hh (p7,p8,p9)
 refine Eq.trans (h (fun r s e=>by have q:=congrArg Prod.fst e; rcases r with x <;> cases q)) ?_
 unfold oE
 exact aK _ fun x=>by rcases x with x <;> rfl
theorem Q1 (a0:Int) (a1:List aD) (a2 a3:Int):Vm.call TT 92 [.int .i64 a0,.sl (cM aD.cells a1),.int .i64 a2,.int .i64 a3] = (kG a0 a1 a2 a3).map fun (r:Int × (List Int))=>.tup [.int .i64 r.1,.sl (cM cI r.2)]:=by
 refine (aV (show TT 92 = some (.code ⟨4,149,[.tmp 8,.tmp 9],aP7,false,false⟩) from rfl) _ rfl rfl).trans ?_
 show bD TT aP7 ⟨[(0,dI a0),(1,.d (.sl (cM aD.cells a1))),(2,dI a2),(3,dI a3)],[]⟩ _ = _
 unfold aP7 kG
 have u:=aN @LN @M0
 exact mJ
theorem zV (a0:Int) (a1:List aD) (a2 a3:Int):KD TT 92 [.int .i64 a0,.sl (cM aD.cells a1),.int .i64 a2,.int .i64 a3] (kG a0 a1 a2 a3) (fun (r:Int × (List Int))=>.tup [dI r.1,.d (.sl (cM cI r.2))]):=kD (Q1 a0 a1 a2 a3) (fun _=>rfl) (fun _=>rfl) (fun _=>rfl)
abbrev uB (a0:List aI) (a1:List Int) (a2:List aD) (a3:List Int) (p1 p2:Int):St:=⟨[(0,.d (.sl (cM aI.cells a0))),(1,.d (.sl (cM cI a1))),(2,.d (.sl (cM aD.cells a2))),(3,.d (.sl (cM cI a3))),(4,dI p1),(11,dI p2)],[]⟩
theorem JL (a0:List aI) (a1:List Int) (a2:List aD) (a3:List Int) (p1 p2:Int):bD TT nR (uB a0 a1 a2 a3 p1 p2) (fun e s=>some (e,s)) = bP (fun (w:Int × Int)=>uB a0 a1 a2 a3 w.1 w.2) (fun (r:Int)=>(((.exit 0),⟨[(4,dI r)],[]⟩):Ex × St)) (cJ a0 a1 a2 a3 p1 p2):=by
 unfold nR cJ
 exact G7
theorem IC {β:Type} (a0:List aI) (a1:List Int) (a2:List aD) (a3:List Int) (p1 p2:Int) (k:Ex->St->Option β):bD TT AK (uB a0 a1 a2 a3 p1 p2) k = (qC a0 a1 a2 a3 p1 p2).bind (fun (r:Int)=>k (.exit 0) ⟨[(4,dI r)],[]⟩):=by
 have hh:=fun (w:Int × Int)=>JL a0 a1 a2 a3 w.1 w.2
 have h:=fun ho=>aQ (T:=TT) (k:=k) (c:=nR) (step:=(fun (w:Int × Int)=>cJ a0 a1 a2 a3 w.1 w.2)) _ _ ho hh (p1,p2)
 refine Eq.trans (h (fun r s e=>by have q:=congrArg Prod.fst e; rcases r with x <;> cases q)) ?_
 unfold qC
 exact aK _ fun x=>by rcases x with x <;> rfl
theorem NN (a0:List aI) (a1:List Int) (a2:List aD) (a3:List Int) (a4:Int):Vm.call TT 93 [.sl (cM aI.cells a0),.sl (cM cI a1),.sl (cM aD.cells a2),.sl (cM cI a3),.int .i64 a4] = (iM a0 a1 a2 a3 a4).map fun (r:Int)=>.int .i64 r:=by
 refine (aV (show TT 93 = some (.code ⟨5,51,[.tmp 10],aP6,false,false⟩) from rfl) _ rfl rfl).trans ?_
 show bD TT aP6 ⟨[(0,.d (.sl (cM aI.cells a0))),(1,.d (.sl (cM cI a1))),(2,.d (.sl (cM aD.cells a2))),(3,.d (.sl (cM cI a3))),(4,dI a4)],[]⟩ _ = _
 unfold aP6 iM
 have u:=@IC
 exact mJ
theorem DL (a0:List aI) (a1:List Int) (a2:List aD) (a3:List Int) (a4:Int):KF TT 93 [.sl (cM aI.cells a0),.sl (cM cI a1),.sl (cM aD.cells a2),.sl (cM cI a3),.int .i64 a4] (iM a0 a1 a2 a3 a4) (fun (r:Int)=>dI r):=kF (NN a0 a1 a2 a3 a4) (fun _=>rfl) (fun _=>rfl)
abbrev uY (a0:List aD) (a1:List Int) (a3 p1:Int) (p2:List Int):St:=⟨[(0,.d (.sl (cM aD.cells a0))),(1,.d (.sl (cM cI a1))),(3,dI a3),(9,.own 11 0),(10,dI p1)],[(11,some (.rows 0 3 1 (cM cI p2)))]⟩
theorem K4 (a0:List aD) (a1:List Int) (a3 p1:Int) (p2:List Int):bD TT oS (uY a0 a1 a3 p1 p2) (fun e s=>some (e,s)) = bP (fun (w:Int × (List Int))=>uY a0 a1 a3 w.1 w.2) (fun (r:(List Int))=>(((.exit 0),⟨[(9,.own 11 0)],[(11,some (.rows 0 3 1 (cM cI r)))]⟩):Ex × St)) (dF a0 a1 a3 p1 p2):=by
 unfold oS dF
 exact G7
theorem KI {β:Type} (a0:List aD) (a1:List Int) (a3 p1:Int) (p2:List Int) (k:Ex->St->Option β):bD TT B8 (uY a0 a1 a3 p1 p2) k = (rG a0 a1 a3 p1 p2).bind (fun (r:(List Int))=>k (.exit 0) ⟨[(9,.own 11 0)],[(11,some (.rows 0 3 1 (cM cI r)))]⟩):=by
 have hh:=fun (w:Int × (List Int))=>K4 a0 a1 a3 w.1 w.2
 have h:=fun ho=>aQ (T:=TT) (k:=k) (c:=oS) (step:=(fun (w:Int × (List Int))=>dF a0 a1 a3 w.1 w.2)) _ _ ho hh (p1,p2)
 refine Eq.trans (h (fun r s e=>by have q:=congrArg Prod.fst e; rcases r with x <;> cases q)) ?_
 unfold rG
 exact aK _ fun x=>by rcases x with x <;> rfl
theorem EC (a0:List aD) (a1 a2:List Int) (a3:Int):Vm.call TT 94 [.sl (cM aD.cells a0),.sl (cM cI a1),.sl (cM cI a2),.int .i64 a3] = (iA a0 a1 a2 a3).map fun (r:(List Int))=>.own (.ref 0) [(3,1)] [cM cI r]:=by
 refine (PA (show TT 94 = some (.code ⟨4,53,[.tmp 8],aPI,true,false⟩) from rfl) _ rfl rfl).trans ?_
 show bD TT aPI ⟨[(0,.d (.sl (cM aD.cells a0))),(1,.d (.sl (cM cI a1))),(2,.d (.sl (cM cI a2))),(3,dI a3)],[]⟩ _ = _
 unfold aPI iA
 have u:=@KI
 exact mJ
end Go.Proofs.Ytgjcnbgfaimepaa
