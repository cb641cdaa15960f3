/- The functions of the small machine compute the plain definitions. Printed by a program. -/
import Derived.Test.YtgjcnbgfaimepaaFn
set_option linter.unusedVariables false
set_option linter.unusedSimpArgs false
namespace Go.Proofs.Ytgjcnbgfaimepaa
open Vm
open Go.RowKit
set_option maxRecDepth 100000
set_option maxHeartbeats 4000000
attribute [local congr] yZ BS zP BP
theorem aTg {β:Type} (d:Nat) (bl:List (Nat × Option aJ)) (ds:List D) (fz:List (Nat × Option aJ)) (k:V->Option β) (kw:V->List (Nat × Option aJ)->Option β):tT TT d bl 67 ds fz k kw = none:=aAp rfl d bl ds fz k kw
theorem aSU {β:Type} (d:Nat) (bl:List (Nat × Option aJ)) (ds:List D) (fz:List (Nat × Option aJ)) (k:V->Option β) (kw:V->List (Nat × Option aJ)->Option β):tT TT d bl 68 ds fz k kw = none:=aAp rfl d bl ds fz k kw
theorem EA:Vm.call TT 35 [] = (mC).map fun (r:(List aE))=>.sl (cM aE.cells r):=by
 refine (bI (show TT 35 = some (.code ⟨0,10,[.tmp 0],aOp,false,false⟩) from rfl) _ rfl rfl).trans ?_
 show bU TT aOp ⟨[],[]⟩ _ = _
 unfold aOp mC
 exact IA
theorem EJ:KD TT 35 [] (mC) (fun (r:(List aE))=>.d (.sl (cM aE.cells r))):=kD (EA ) (fun _=>rfl) (fun _=>rfl) (fun _=>rfl)
theorem TH (a0:aE):Vm.call TT 53 [.agg a0.cells] = (vR a0).map fun (r:aI)=>.agg r.cells:=by
 refine (bI (show TT 53 = some (.code ⟨1,10,[.cell 2 3 true],aNg,false,false⟩) from rfl) _ rfl rfl).trans ?_
 show bU TT aNg ⟨[(0,iX a0.cells)],[]⟩ _ = _
 unfold aNg vR
 exact IA
theorem J7 (a0:aE):KF TT 53 [.agg a0.cells] (vR a0) (fun (r:aI)=>iX r.cells):=kF (TH a0) (fun _=>rfl) (fun _=>rfl)
theorem V6 (a0 a1:Int):Vm.call TT 54 [.int .i64 a0,.int .i64 a1] = (nM a0 a1).map fun (r:Bool)=>.bool r:=by
 refine (bI (show TT 54 = some (.code ⟨2,12,[.tmp 4],aOD,false,false⟩) from rfl) _ rfl rfl).trans ?_
 show bU TT aOD ⟨[(0,dI a0),(1,dI a1)],[]⟩ _ = _
 unfold aOD nM
 exact IA
theorem L4 (a0 a1:Int):KF TT 54 [.int .i64 a0,.int .i64 a1] (nM a0 a1) (fun (r:Bool)=>dB r):=kF (V6 a0 a1) (fun _=>rfl) (fun _=>rfl)
abbrev rW (a0:Int) (a1:List aI) (p1:Int):St:=⟨[(0,dI a0),(18,.d (.sl (cM aI.cells a1))),(19,dI (a1.length:Int)),(20,dI p1)],[]⟩
theorem HV (a0:Int) (a1:List aI) (p1:Int):bU TT m7 (rW a0 a1 p1) (fun e s=>some (e,s)) = cJ (fun (w:Int)=>rW a0 a1 w) (fun (r:Unit ⊕ Unit)=>Sum.elim (fun (z:Unit)=>(((.exit 0),⟨[],[]⟩):Ex × St)) (fun (z:Unit)=>((.ret,⟨[(4,dB false)],[]⟩):Ex × St)) r) (dL a0 a1 p1):=by
 unfold m7 dL
 exact IA
theorem G0 {β:Type} (a0:Int) (a1:List aI) (p1:Int) (k:Ex->St->Option β):bU TT yK (rW a0 a1 p1) k = (lV a0 a1 p1).bind (fun (r:Unit ⊕ Unit)=>Sum.elim (fun (z:Unit)=>k (.exit 0) ⟨[],[]⟩) (fun (z:Unit)=>k .ret ⟨[(4,dB false)],[]⟩) r):=by
 have hh:=fun (w:Int)=>HV a0 a1 w
 have h:=fun ho=>bA (T:=TT) (k:=k) (c:=m7) (step:=(fun (w:Int)=>dL a0 a1 w)) _ _ ho hh p1
 refine Eq.trans (h (fun r s e=>by have q:=congrArg Prod.fst e; rcases r with x | x <;> cases q)) ?_
 unfold lV
 exact aP _ fun x=>by rcases x with x | x <;> rfl
theorem L2 (a0:Int) (a1:List aI):Vm.call TT 55 [.int .i64 a0,.sl (cM aI.cells a1)] = (jA a0 a1).map fun (r:Bool)=>.bool r:=by
 refine (bI (show TT 55 = some (.code ⟨2,62,[.tmp 4],aNy,false,false⟩) from rfl) _ rfl rfl).trans ?_
 show bU TT aNy ⟨[(0,dI a0),(1,.d (.sl (cM aI.cells a1)))],[]⟩ _ = _
 unfold aNy jA
 have u:=@G0
 exact n8
theorem CM (a0:Int) (a1:List aI):KF TT 55 [.int .i64 a0,.sl (cM aI.cells a1)] (jA a0 a1) (fun (r:Bool)=>dB r):=kF (L2 a0 a1) (fun _=>rfl) (fun _=>rfl)
abbrev uR (a0:Int) (a1:List aE) (p1:Int) (p2:List aI) (r4:aI) (x3:aE) (p8:Int):St:=⟨[(0,dI a0),(5,.own 20 0),(10,.d (.sl (cM aE.cells a1))),(11,dI (a1.length:Int)),(12,dI p1),(44,.d (.sl (cM aK.cells x3.Rights))),(45,dI (x3.Rights.length:Int)),(46,dI p8)],[(20,some (.rows 0 54 3 (cM aI.cells (p2 ++ [r4]))))]⟩
theorem LP (a0:Int) (a1:List aE) (p1:Int) (p2:List aI) (r4:aI) (x3:aE) (p8:Int):bU TT pK (uR a0 a1 p1 p2 r4 x3 p8) (fun e s=>some (e,s)) = cJ (fun (w:Int)=>uR a0 a1 p1 p2 r4 x3 w) (fun (r:Unit ⊕ Unit)=>Sum.elim (fun (z:Unit)=>(((.exit 2),⟨[(0,dI a0),(5,.own 20 0),(10,.d (.sl (cM aE.cells a1))),(11,dI (a1.length:Int)),(12,dI p1)],[(20,some (.rows 0 54 3 (cM aI.cells (p2 ++ [r4]))))]⟩):Ex × St)) (fun (z:Unit)=>((.ret,⟨[(4,dI 1)],[]⟩):Ex × St)) r) (eO a0 a1 p1 p2 r4 x3 p8):=by
 unfold pK eO
 have u:=@L4
 exact n8
theorem LC {β:Type} (a0:Int) (a1:List aE) (p1:Int) (p2:List aI) (r4:aI) (x3:aE) (p8:Int) (k:Ex->St->Option β):bU TT BV (uR a0 a1 p1 p2 r4 x3 p8) k = (oT a0 a1 p1 p2 r4 x3 p8).bind (fun (r:Unit ⊕ Unit)=>Sum.elim (fun (z:Unit)=>k (.exit 2) ⟨[(0,dI a0),(5,.own 20 0),(10,.d (.sl (cM aE.cells a1))),(11,dI (a1.length:Int)),(12,dI p1)],[(20,some (.rows 0 54 3 (cM aI.cells (p2 ++ [r4]))))]⟩) (fun (z:Unit)=>k .ret ⟨[(4,dI 1)],[]⟩) r):=by
 have hh:=fun (w:Int)=>LP a0 a1 p1 p2 r4 x3 w
 have h:=fun ho=>bA (T:=TT) (k:=k) (c:=pK) (step:=(fun (w:Int)=>eO a0 a1 p1 p2 r4 x3 w)) _ _ ho hh p8
 refine Eq.trans (h (fun r s e=>by have q:=congrArg Prod.fst e; rcases r with x | x <;> cases q)) ?_
 unfold oT
 exact aP _ fun x=>by rcases x with x | x <;> rfl
abbrev u9 (a0:Int) (a1:List aE) (p1:Int) (p2:List aI):St:=⟨[(0,dI a0),(5,.own 20 0),(10,.d (.sl (cM aE.cells a1))),(11,dI (a1.length:Int)),(12,dI p1)],[(20,some (.rows 0 54 3 (cM aI.cells p2)))]⟩
theorem K9 (a0:Int) (a1:List aE) (p1:Int) (p2:List aI):bU TT pP (u9 a0 a1 p1 p2) (fun e s=>some (e,s)) = cJ (fun (w:Int × (List aI))=>u9 a0 a1 w.1 w.2) (fun (r:((List aI)) ⊕ Unit)=>Sum.elim (fun (z:(List aI))=>(((.exit 0),⟨[(0,dI a0),(5,.own 20 0)],[(20,some (.rows 0 54 3 (cM aI.cells z)))]⟩):Ex × St)) (fun (z:Unit)=>((.ret,⟨[(4,dI 1)],[]⟩):Ex × St)) r) (eN a0 a1 p1 p2):=by
 unfold pP eN
 have u:=aN @LC (aN @J7 @L4)
 exact n8
theorem KN {β:Type} (a0:Int) (a1:List aE) (p1:Int) (p2:List aI) (k:Ex->St->Option β):bU TT B1 (u9 a0 a1 p1 p2) k = (oK a0 a1 p1 p2).bind (fun (r:((List aI)) ⊕ Unit)=>Sum.elim (fun (z:(List aI))=>k (.exit 0) ⟨[(0,dI a0),(5,.own 20 0)],[(20,some (.rows 0 54 3 (cM aI.cells z)))]⟩) (fun (z:Unit)=>k .ret ⟨[(4,dI 1)],[]⟩) r):=by
 have hh:=fun (w:Int × (List aI))=>K9 a0 a1 w.1 w.2
 have h:=fun ho=>bA (T:=TT) (k:=k) (c:=pP) (step:=(fun (w:Int × (List aI))=>eN a0 a1 w.1 w.2)) _ _ ho hh (p1,p2)
 refine Eq.trans (h (fun r s e=>by have q:=congrArg Prod.fst e; rcases r with x | x <;> cases q)) ?_
 unfold oK
 exact aP _ fun x=>by rcases x with x | x <;> rfl
theorem PU (a0:Int) (a1:List aE):Vm.call TT 19 [.int .i64 a0,.sl (cM aE.cells a1)] = (jV a0 a1).map fun (r:Int)=>.int .i64 r:=by
 refine (bI (show TT 19 = some (.code ⟨2,66,[.tmp 4],aOn,false,false⟩) from rfl) _ rfl rfl).trans ?_
 show bU TT aOn ⟨[(0,dI a0),(1,.d (.sl (cM aE.cells a1)))],[]⟩ _ = _
 unfold aOn jV
 have u:=aN @KN @CM
 exact n8
theorem uI (a0:Int) (a1:List aE):KF TT 19 [.int .i64 a0,.sl (cM aE.cells a1)] (jV a0 a1) (fun (r:Int)=>dI r):=kF (PU a0 a1) (fun _=>rfl) (fun _=>rfl)
abbrev u7 (a0:List Int) (p1 p2:Int):St:=⟨[(3,dI p1),(6,.d (.sl (cM cI a0))),(7,dI (a0.length:Int)),(8,dI p2)],[]⟩
theorem KS (a0:List Int) (p1 p2:Int):bU TT qO (u7 a0 p1 p2) (fun e s=>some (e,s)) = cJ (fun (w:Int × Int)=>u7 a0 w.1 w.2) (fun (r:Unit ⊕ Unit)=>Sum.elim (fun (z:Unit)=>(((.exit 0),⟨[],[]⟩):Ex × St)) (fun (z:Unit)=>((.ret,⟨[(2,dB false)],[]⟩):Ex × St)) r) (eU a0 p1 p2):=by
 unfold qO eU
 exact IA
theorem K0 {β:Type} (a0:List Int) (p1 p2:Int) (k:Ex->St->Option β):bU TT BU (u7 a0 p1 p2) k = (sK a0 p1 p2).bind (fun (r:Unit ⊕ Unit)=>Sum.elim (fun (z:Unit)=>k (.exit 0) ⟨[],[]⟩) (fun (z:Unit)=>k .ret ⟨[(2,dB false)],[]⟩) r):=by
 have hh:=fun (w:Int × Int)=>KS a0 w.1 w.2
 have h:=fun ho=>bA (T:=TT) (k:=k) (c:=qO) (step:=(fun (w:Int × Int)=>eU a0 w.1 w.2)) _ _ ho hh (p1,p2)
 refine Eq.trans (h (fun r s e=>by have q:=congrArg Prod.fst e; rcases r with x | x <;> cases q)) ?_
 unfold sK
 exact aP _ fun x=>by rcases x with x | x <;> rfl
theorem PM (a0:List Int):Vm.call TT 37 [.sl (cM cI a0)] = (nQ a0).map fun (r:Bool)=>.bool r:=by
 refine (bI (show TT 37 = some (.code ⟨1,21,[.tmp 2],aNH,false,false⟩) from rfl) _ rfl rfl).trans ?_
 show bU TT aNH ⟨[(0,.d (.sl (cM cI a0)))],[]⟩ _ = _
 unfold aNH nQ
 have u:=@K0
 exact n8
theorem AC (a0:List Int):KF TT 37 [.sl (cM cI a0)] (nQ a0) (fun (r:Bool)=>dB r):=kF (PM a0) (fun _=>rfl) (fun _=>rfl)
abbrev lW (a0:List Int) (a1 p1:Int):St:=⟨[(0,.d (.sl (cM cI a0))),(1,dI a1),(7,dI (a0.length:Int)),(8,dI p1)],[]⟩
theorem A1 (a0:List Int) (a1 p1:Int):bU TT iZ (lW a0 a1 p1) (fun e s=>some (e,s)) = cJ (fun (w:Int)=>lW a0 a1 w) (fun (r:Unit ⊕ Int)=>Sum.elim (fun (z:Unit)=>(((.exit 0),⟨[],[]⟩):Ex × St)) (fun (z:Int)=>((.ret,⟨[(4,dI z)],[]⟩):Ex × St)) r) (bZ a0 a1 p1):=by
 unfold iZ bZ
 exact IA
theorem BM {β:Type} (a0:List Int) (a1 p1:Int) (k:Ex->St->Option β):bU TT sC (lW a0 a1 p1) k = (jU a0 a1 p1).bind (fun (r:Unit ⊕ Int)=>Sum.elim (fun (z:Unit)=>k (.exit 0) ⟨[],[]⟩) (fun (z:Int)=>k .ret ⟨[(4,dI z)],[]⟩) r):=by
 have hh:=fun (w:Int)=>A1 a0 a1 w
 have h:=fun ho=>bA (T:=TT) (k:=k) (c:=iZ) (step:=(fun (w:Int)=>bZ a0 a1 w)) _ _ ho hh p1
 refine Eq.trans (h (fun r s e=>by have q:=congrArg Prod.fst e; rcases r with x | x <;> cases q)) ?_
 unfold jU
 exact aP _ fun x=>by rcases x with x | x <;> rfl
theorem D7 (a0:List Int) (a1:Int):Vm.call TT 73 [.sl (cM cI a0),.int .i64 a1] = (gK a0 a1).map fun (r:Int)=>.int .i64 r:=by
 refine (bI (show TT 73 = some (.code ⟨2,19,[.tmp 4],aOV,false,false⟩) from rfl) _ rfl rfl).trans ?_
 show bU TT aOV ⟨[(0,.d (.sl (cM cI a0))),(1,dI a1)],[]⟩ _ = _
 unfold aOV gK
 have u:=@BM
 exact n8
theorem D2 (a0:List Int) (a1:Int):KF TT 73 [.sl (cM cI a0),.int .i64 a1] (gK a0 a1) (fun (r:Int)=>dI r):=kF (D7 a0 a1) (fun _=>rfl) (fun _=>rfl)
theorem BZ (a0:List Int) (a1:Int):Vm.call TT 44 [.sl (cM cI a0),.int .i64 a1] = (cZ a0 a1).map fun (r:Bool)=>.bool r:=by
 refine (bI (show TT 44 = some (.code ⟨2,9,[.tmp 4],aL5,false,false⟩) from rfl) _ rfl rfl).trans ?_
 show bU TT aL5 ⟨[(0,.d (.sl (cM cI a0))),(1,dI a1)],[]⟩ _ = _
 unfold aL5 cZ
 have u:=@D2
 exact n8
theorem mA (a0:List Int) (a1:Int):KF TT 44 [.sl (cM cI a0),.int .i64 a1] (cZ a0 a1) (fun (r:Bool)=>dB r):=kF (BZ a0 a1) (fun _=>rfl) (fun _=>rfl)
theorem JQ (a0:aK) (a1:List Int):Vm.call TT 82 [.agg a0.cells,.ptr [.sl (cM cI a1)] 0] = (nG a0 a1).map fun (r:Bool)=>.bool r:=by
 refine (bI (show TT 82 = some (.code ⟨2,9,[.tmp 3],aMY,false,false⟩) from rfl) _ rfl rfl).trans ?_
 show bU TT aMY ⟨[(0,iX a0.cells),(1,.d (.ptr [.sl (cM cI a1)] 0))],[]⟩ _ = _
 unfold aMY nG
 have u:=@mA
 exact n8
theorem JM (a0:aK) (a1:List Int):KF TT 82 [.agg a0.cells,.ptr [.sl (cM cI a1)] 0] (nG a0 a1) (fun (r:Bool)=>dB r):=kF (JQ a0 a1) (fun _=>rfl) (fun _=>rfl)
abbrev dV (a0:List aK) (a1:List Int) (p1:Int):St:=⟨[(0,.d (.sl (cM aK.cells a0))),(1,.d (.fn 82 [.ptr [.sl (cM cI a1)] 0])),(7,dI (a0.length:Int)),(8,dI p1)],[]⟩
theorem n7 (a0:List aK) (a1:List Int) (p1:Int):bU TT cV (dV a0 a1 p1) (fun e s=>some (e,s)) = cJ (fun (w:Int)=>dV a0 a1 w) (fun (r:Unit ⊕ Int)=>Sum.elim (fun (z:Unit)=>(((.exit 0),⟨[],[]⟩):Ex × St)) (fun (z:Int)=>((.ret,⟨[(4,dI z)],[]⟩):Ex × St)) r) (aT a0 a1 p1):=by
 unfold cV aT
 have u:=@JM
 exact n8
theorem nY {β:Type} (a0:List aK) (a1:List Int) (p1:Int) (k:Ex->St->Option β):bU TT i6 (dV a0 a1 p1) k = (cR a0 a1 p1).bind (fun (r:Unit ⊕ Int)=>Sum.elim (fun (z:Unit)=>k (.exit 0) ⟨[],[]⟩) (fun (z:Int)=>k .ret ⟨[(4,dI z)],[]⟩) r):=by
 have hh:=fun (w:Int)=>n7 a0 a1 w
 have h:=fun ho=>bA (T:=TT) (k:=k) (c:=cV) (step:=(fun (w:Int)=>aT a0 a1 w)) _ _ ho hh p1
 refine Eq.trans (h (fun r s e=>by have q:=congrArg Prod.fst e; rcases r with x | x <;> cases q)) ?_
 unfold cR
 exact aP _ fun x=>by rcases x with x | x <;> rfl
theorem pR (a0:List aK) (a1:List Int):Vm.call TT 105 [.sl (cM aK.cells a0),.fn 82 [.ptr [.sl (cM cI a1)] 0]] = (cC a0 a1).map fun (r:Int)=>.int .i64 r:=by
 refine (bI (show TT 105 = some (.code ⟨2,19,[.tmp 4],aEg,false,false⟩) from rfl) _ rfl rfl).trans ?_
 show bU TT aEg ⟨[(0,.d (.sl (cM aK.cells a0))),(1,.d (.fn 82 [.ptr [.sl (cM cI a1)] 0]))],[]⟩ _ = _
 unfold aEg cC
 have u:=@nY
 exact n8
theorem pZ (a0:List aK) (a1:List Int):KF TT 105 [.sl (cM aK.cells a0),.fn 82 [.ptr [.sl (cM cI a1)] 0]] (cC a0 a1) (fun (r:Int)=>dI r):=kF (pR a0 a1) (fun _=>rfl) (fun _=>rfl)
theorem nZ (a0:List aK) (a1:List Int):Vm.call TT 81 [.sl (cM aK.cells a0),.fn 82 [.ptr [.sl (cM cI a1)] 0]] = (bX a0 a1).map fun (r:Bool)=>.bool r:=by
 refine (bI (show TT 81 = some (.code ⟨2,9,[.tmp 4],aOK,false,false⟩) from rfl) _ rfl rfl).trans ?_
 show bU TT aOK ⟨[(0,.d (.sl (cM aK.cells a0))),(1,.d (.fn 82 [.ptr [.sl (cM cI a1)] 0]))],[]⟩ _ = _
 unfold aOK bX
 have u:=@pZ
 exact n8
theorem n6 (a0:List aK) (a1:List Int):KF TT 81 [.sl (cM aK.cells a0),.fn 82 [.ptr [.sl (cM cI a1)] 0]] (bX a0 a1) (fun (r:Bool)=>dB r):=kF (nZ a0 a1) (fun _=>rfl) (fun _=>rfl)
theorem QB (a0:aE) (a1:List Int):Vm.call TT 60 [.agg a0.cells,.sl (cM cI a1)] = (qN a0 a1).map fun (r:Bool)=>.bool r:=by
 refine (bI (show TT 60 = some (.code ⟨2,10,[.tmp 4],aPY,false,false⟩) from rfl) _ rfl rfl).trans ?_
 show bU TT aPY ⟨[(0,iX a0.cells),(1,.d (.sl (cM cI a1)))],[]⟩ _ = _
 unfold aPY qN
 have u:=@n6
 exact n8
theorem HC (a0:aE) (a1:List Int):KF TT 60 [.agg a0.cells,.sl (cM cI a1)] (qN a0 a1) (fun (r:Bool)=>dB r):=kF (QB a0 a1) (fun _=>rfl) (fun _=>rfl)
end Go.Proofs.Ytgjcnbgfaimepaa
