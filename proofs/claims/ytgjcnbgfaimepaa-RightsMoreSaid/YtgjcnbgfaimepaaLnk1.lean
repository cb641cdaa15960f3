/- The functions of the small machine compute the plain definitions. Printed by a program. -/
import Derived.Test.YtgjcnbgfaimepaaFn
set_option linter.unusedVariables false
set_option linter.unusedSimpArgs false
namespace Go.Proofs.Ytgjcnbgfaimepaa
open Vm
open Go.RowKit
set_option maxRecDepth 100000
set_option maxHeartbeats 4000000
attribute [local congr] xJ AH xO AD
theorem CV:Vm.call TT 35 [] = (lK).map fun (r:(List aE))=>.sl (cM aE.cells r):=by
 refine (bH (show TT 35 = some (.code ⟨0,10,[.tmp 0],aOk,false,false⟩) from rfl) _ rfl rfl).trans ?_
 show bR TT aOk ⟨[],[]⟩ _ = _
 unfold aOk lK
 exact IU
theorem CM:KD TT 35 [] (lK) (fun (r:(List aE))=>.d (.sl (cM aE.cells r))):=kD (CV ) (fun _=>rfl) (fun _=>rfl) (fun _=>rfl)
theorem RD (a0:aE):Vm.call TT 53 [.agg a0.cells] = (uJ a0).map fun (r:aF)=>.agg r.cells:=by
 refine (bH (show TT 53 = some (.code ⟨1,10,[.cell 2 3 true],aLl,false,false⟩) from rfl) _ rfl rfl).trans ?_
 show bR TT aLl ⟨[(0,kB a0.cells)],[]⟩ _ = _
 unfold aLl uJ
 exact IU
theorem IQ (a0:aE):KF TT 53 [.agg a0.cells] (uJ a0) (fun (r:aF)=>kB r.cells):=kF (RD a0) (fun _=>rfl) (fun _=>rfl)
theorem VJ (a0 a1:Int):Vm.call TT 54 [.int .i64 a0,.int .i64 a1] = (mZ a0 a1).map fun (r:Bool)=>.bool r:=by
 refine (bH (show TT 54 = some (.code ⟨2,12,[.tmp 4],aLX,false,false⟩) from rfl) _ rfl rfl).trans ?_
 show bR TT aLX ⟨[(0,dI a0),(1,dI a1)],[]⟩ _ = _
 unfold aLX mZ
 exact IU
theorem KQ (a0 a1:Int):KF TT 54 [.int .i64 a0,.int .i64 a1] (mZ a0 a1) (fun (r:Bool)=>dB r):=kF (VJ a0 a1) (fun _=>rfl) (fun _=>rfl)
abbrev qN (a0:Int) (a1:List aF) (p1:Int):St:=⟨[(0,dI a0),(18,.d (.sl (cM aF.cells a1))),(19,dI (a1.length:Int)),(20,dI p1)],[]⟩
theorem GU (a0:Int) (a1:List aF) (p1:Int):bR TT mW (qN a0 a1 p1) (fun e s=>some (e,s)) = cH (fun (w:Int)=>qN a0 a1 w) (fun (r:Unit ⊕ Unit)=>Sum.elim (fun (z:Unit)=>(((.exit 0),⟨[],[]⟩):Ex × St)) (fun (z:Unit)=>((.ret,⟨[(4,dB false)],[]⟩):Ex × St)) r) (dF a0 a1 p1):=by
 unfold mW dF
 exact IU
theorem F0 {β:Type} (a0:Int) (a1:List aF) (p1:Int) (k:Ex->St->Option β):bR TT yB (qN a0 a1 p1) k = (kZ a0 a1 p1).bind (fun (r:Unit ⊕ Unit)=>Sum.elim (fun (z:Unit)=>k (.exit 0) ⟨[],[]⟩) (fun (z:Unit)=>k .ret ⟨[(4,dB false)],[]⟩) r):=by
 have hh:=fun (w:Int)=>GU a0 a1 w
 have h:=fun ho=>aZ (T:=TT) (k:=k) (c:=mW) (step:=(fun (w:Int)=>dF a0 a1 w)) _ _ ho hh p1
 refine Eq.trans (h (fun r s e=>by have q:=congrArg Prod.fst e; rcases r with x | x <;> cases q)) ?_
 unfold kZ
 exact aL _ fun x=>by rcases x with x | x <;> rfl
theorem KM (a0:Int) (a1:List aF):Vm.call TT 55 [.int .i64 a0,.sl (cM aF.cells a1)] = (iR a0 a1).map fun (r:Bool)=>.bool r:=by
 refine (bH (show TT 55 = some (.code ⟨2,62,[.tmp 4],aM9,false,false⟩) from rfl) _ rfl rfl).trans ?_
 show bR TT aM9 ⟨[(0,dI a0),(1,.d (.sl (cM aF.cells a1)))],[]⟩ _ = _
 unfold aM9 iR
 have u:=@F0
 exact pX
theorem BB (a0:Int) (a1:List aF):KF TT 55 [.int .i64 a0,.sl (cM aF.cells a1)] (iR a0 a1) (fun (r:Bool)=>dB r):=kF (KM a0 a1) (fun _=>rfl) (fun _=>rfl)
abbrev tN (a0:Int) (a1:List aE) (p1:Int) (p2:List aF) (r4:aF) (x3:aE) (p8:Int):St:=⟨[(0,dI a0),(5,.own 20 0),(10,.d (.sl (cM aE.cells a1))),(11,dI (a1.length:Int)),(12,dI p1),(44,.d (.sl (cM aJ.cells x3.Rights))),(45,dI (x3.Rights.length:Int)),(46,dI p8)],[(20,some (.rows 0 54 3 (cM aF.cells (p2 ++ [r4]))))]⟩
theorem I0 (a0:Int) (a1:List aE) (p1:Int) (p2:List aF) (r4:aF) (x3:aE) (p8:Int):bR TT pG (tN a0 a1 p1 p2 r4 x3 p8) (fun e s=>some (e,s)) = cH (fun (w:Int)=>tN a0 a1 p1 p2 r4 x3 w) (fun (r:Unit ⊕ Unit)=>Sum.elim (fun (z:Unit)=>(((.exit 2),⟨[(0,dI a0),(5,.own 20 0),(10,.d (.sl (cM aE.cells a1))),(11,dI (a1.length:Int)),(12,dI p1)],[(20,some (.rows 0 54 3 (cM aF.cells (p2 ++ [r4]))))]⟩):Ex × St)) (fun (z:Unit)=>((.ret,⟨[(4,dI 1)],[]⟩):Ex × St)) r) (eH a0 a1 p1 p2 r4 x3 p8):=by
 unfold pG eH
 have u:=@KQ
 exact pX
theorem J2 {β:Type} (a0:Int) (a1:List aE) (p1:Int) (p2:List aF) (r4:aF) (x3:aE) (p8:Int) (k:Ex->St->Option β):bR TT zX (tN a0 a1 p1 p2 r4 x3 p8) k = (n7 a0 a1 p1 p2 r4 x3 p8).bind (fun (r:Unit ⊕ Unit)=>Sum.elim (fun (z:Unit)=>k (.exit 2) ⟨[(0,dI a0),(5,.own 20 0),(10,.d (.sl (cM aE.cells a1))),(11,dI (a1.length:Int)),(12,dI p1)],[(20,some (.rows 0 54 3 (cM aF.cells (p2 ++ [r4]))))]⟩) (fun (z:Unit)=>k .ret ⟨[(4,dI 1)],[]⟩) r):=by
 have hh:=fun (w:Int)=>I0 a0 a1 p1 p2 r4 x3 w
 have h:=fun ho=>aZ (T:=TT) (k:=k) (c:=pG) (step:=(fun (w:Int)=>eH a0 a1 p1 p2 r4 x3 w)) _ _ ho hh p8
 refine Eq.trans (h (fun r s e=>by have q:=congrArg Prod.fst e; rcases r with x | x <;> cases q)) ?_
 unfold n7
 exact aL _ fun x=>by rcases x with x | x <;> rfl
abbrev tM (a0:Int) (a1:List aE) (p1:Int) (p2:List aF):St:=⟨[(0,dI a0),(5,.own 20 0),(10,.d (.sl (cM aE.cells a1))),(11,dI (a1.length:Int)),(12,dI p1)],[(20,some (.rows 0 54 3 (cM aF.cells p2)))]⟩
theorem I6 (a0:Int) (a1:List aE) (p1:Int) (p2:List aF):bR TT pP (tM a0 a1 p1 p2) (fun e s=>some (e,s)) = cH (fun (w:Int × (List aF))=>tM a0 a1 w.1 w.2) (fun (r:((List aF)) ⊕ Unit)=>Sum.elim (fun (z:(List aF))=>(((.exit 0),⟨[(0,dI a0),(5,.own 20 0)],[(20,some (.rows 0 54 3 (cM aF.cells z)))]⟩):Ex × St)) (fun (z:Unit)=>((.ret,⟨[(4,dI 1)],[]⟩):Ex × St)) r) (eG a0 a1 p1 p2):=by
 unfold pP eG
 have u:=aN @J2 (aN @IQ @KQ)
 exact pX
theorem JT {β:Type} (a0:Int) (a1:List aE) (p1:Int) (p2:List aF) (k:Ex->St->Option β):bR TT zT (tM a0 a1 p1 p2) k = (nP a0 a1 p1 p2).bind (fun (r:((List aF)) ⊕ Unit)=>Sum.elim (fun (z:(List aF))=>k (.exit 0) ⟨[(0,dI a0),(5,.own 20 0)],[(20,some (.rows 0 54 3 (cM aF.cells z)))]⟩) (fun (z:Unit)=>k .ret ⟨[(4,dI 1)],[]⟩) r):=by
 have hh:=fun (w:Int × (List aF))=>I6 a0 a1 w.1 w.2
 have h:=fun ho=>aZ (T:=TT) (k:=k) (c:=pP) (step:=(fun (w:Int × (List aF))=>eG a0 a1 w.1 w.2)) _ _ ho hh (p1,p2)
 refine Eq.trans (h (fun r s e=>by have q:=congrArg Prod.fst e; rcases r with x | x <;> cases q)) ?_
 unfold nP
 exact aL _ fun x=>by rcases x with x | x <;> rfl
theorem N9 (a0:Int) (a1:List aE):Vm.call TT 19 [.int .i64 a0,.sl (cM aE.cells a1)] = (iD a0 a1).map fun (r:Int)=>.int .i64 r:=by
 refine (bH (show TT 19 = some (.code ⟨2,66,[.tmp 4],aOU,false,false⟩) from rfl) _ rfl rfl).trans ?_
 show bR TT aOU ⟨[(0,dI a0),(1,.d (.sl (cM aE.cells a1)))],[]⟩ _ = _
 unfold aOU iD
 have u:=aN @JT @BB
 exact pX
theorem pW (a0:Int) (a1:List aE):KF TT 19 [.int .i64 a0,.sl (cM aE.cells a1)] (iD a0 a1) (fun (r:Int)=>dI r):=kF (N9 a0 a1) (fun _=>rfl) (fun _=>rfl)
abbrev tX (a0:List Int) (p1 p2:Int):St:=⟨[(3,dI p1),(6,.d (.sl (cM cI a0))),(7,dI (a0.length:Int)),(8,dI p2)],[]⟩
theorem J6 (a0:List Int) (p1 p2:Int):bR TT pE (tX a0 p1 p2) (fun e s=>some (e,s)) = cH (fun (w:Int × Int)=>tX a0 w.1 w.2) (fun (r:Unit ⊕ Unit)=>Sum.elim (fun (z:Unit)=>(((.exit 0),⟨[],[]⟩):Ex × St)) (fun (z:Unit)=>((.ret,⟨[(2,dB false)],[]⟩):Ex × St)) r) (eJ a0 p1 p2):=by
 unfold pE eJ
 exact IU
theorem JM {β:Type} (a0:List Int) (p1 p2:Int) (k:Ex->St->Option β):bR TT AL (tX a0 p1 p2) k = (rF a0 p1 p2).bind (fun (r:Unit ⊕ Unit)=>Sum.elim (fun (z:Unit)=>k (.exit 0) ⟨[],[]⟩) (fun (z:Unit)=>k .ret ⟨[(2,dB false)],[]⟩) r):=by
 have hh:=fun (w:Int × Int)=>J6 a0 w.1 w.2
 have h:=fun ho=>aZ (T:=TT) (k:=k) (c:=pE) (step:=(fun (w:Int × Int)=>eJ a0 w.1 w.2)) _ _ ho hh (p1,p2)
 refine Eq.trans (h (fun r s e=>by have q:=congrArg Prod.fst e; rcases r with x | x <;> cases q)) ?_
 unfold rF
 exact aL _ fun x=>by rcases x with x | x <;> rfl
theorem OC (a0:List Int):Vm.call TT 37 [.sl (cM cI a0)] = (m9 a0).map fun (r:Bool)=>.bool r:=by
 refine (bH (show TT 37 = some (.code ⟨1,21,[.tmp 2],aOO,false,false⟩) from rfl) _ rfl rfl).trans ?_
 show bR TT aOO ⟨[(0,.d (.sl (cM cI a0)))],[]⟩ _ = _
 unfold aOO m9
 have u:=@JM
 exact pX
theorem yG (a0:List Int):KF TT 37 [.sl (cM cI a0)] (m9 a0) (fun (r:Bool)=>dB r):=kF (OC a0) (fun _=>rfl) (fun _=>rfl)
abbrev lB (a0:List Int) (a1 p1:Int):St:=⟨[(0,.d (.sl (cM cI a0))),(1,dI a1),(7,dI (a0.length:Int)),(8,dI p1)],[]⟩
theorem AC (a0:List Int) (a1 p1:Int):bR TT iG (lB a0 a1 p1) (fun e s=>some (e,s)) = cH (fun (w:Int)=>lB a0 a1 w) (fun (r:Unit ⊕ Int)=>Sum.elim (fun (z:Unit)=>(((.exit 0),⟨[],[]⟩):Ex × St)) (fun (z:Int)=>((.ret,⟨[(4,dI z)],[]⟩):Ex × St)) r) (bO a0 a1 p1):=by
 unfold iG bO
 exact IU
theorem yZ {β:Type} (a0:List Int) (a1 p1:Int) (k:Ex->St->Option β):bR TT qV (lB a0 a1 p1) k = (jH a0 a1 p1).bind (fun (r:Unit ⊕ Int)=>Sum.elim (fun (z:Unit)=>k (.exit 0) ⟨[],[]⟩) (fun (z:Int)=>k .ret ⟨[(4,dI z)],[]⟩) r):=by
 have hh:=fun (w:Int)=>AC a0 a1 w
 have h:=fun ho=>aZ (T:=TT) (k:=k) (c:=iG) (step:=(fun (w:Int)=>bO a0 a1 w)) _ _ ho hh p1
 refine Eq.trans (h (fun r s e=>by have q:=congrArg Prod.fst e; rcases r with x | x <;> cases q)) ?_
 unfold jH
 exact aL _ fun x=>by rcases x with x | x <;> rfl
theorem CX (a0:List Int) (a1:Int):Vm.call TT 73 [.sl (cM cI a0),.int .i64 a1] = (fZ a0 a1).map fun (r:Int)=>.int .i64 r:=by
 refine (bH (show TT 73 = some (.code ⟨2,19,[.tmp 4],aMH,false,false⟩) from rfl) _ rfl rfl).trans ?_
 show bR TT aMH ⟨[(0,.d (.sl (cM cI a0))),(1,dI a1)],[]⟩ _ = _
 unfold aMH fZ
 have u:=@yZ
 exact pX
theorem C0 (a0:List Int) (a1:Int):KF TT 73 [.sl (cM cI a0),.int .i64 a1] (fZ a0 a1) (fun (r:Int)=>dI r):=kF (CX a0 a1) (fun _=>rfl) (fun _=>rfl)
theorem y9 (a0:List Int) (a1:Int):Vm.call TT 44 [.sl (cM cI a0),.int .i64 a1] = (cP a0 a1).map fun (r:Bool)=>.bool r:=by
 refine (bH (show TT 44 = some (.code ⟨2,9,[.tmp 4],aN7,false,false⟩) from rfl) _ rfl rfl).trans ?_
 show bR TT aN7 ⟨[(0,.d (.sl (cM cI a0))),(1,dI a1)],[]⟩ _ = _
 unfold aN7 cP
 have u:=@C0
 exact pX
theorem k9 (a0:List Int) (a1:Int):KF TT 44 [.sl (cM cI a0),.int .i64 a1] (cP a0 a1) (fun (r:Bool)=>dB r):=kF (y9 a0 a1) (fun _=>rfl) (fun _=>rfl)
theorem H5 (a0:aJ) (a1:List Int):Vm.call TT 82 [.agg a0.cells,.ptr [.sl (cM cI a1)] 0] = (mO a0 a1).map fun (r:Bool)=>.bool r:=by
 refine (bH (show TT 82 = some (.code ⟨2,9,[.tmp 3],aM3,false,false⟩) from rfl) _ rfl rfl).trans ?_
 show bR TT aM3 ⟨[(0,kB a0.cells),(1,.d (.ptr [.sl (cM cI a1)] 0))],[]⟩ _ = _
 unfold aM3 mO
 have u:=@k9
 exact pX
theorem IE (a0:aJ) (a1:List Int):KF TT 82 [.agg a0.cells,.ptr [.sl (cM cI a1)] 0] (mO a0 a1) (fun (r:Bool)=>dB r):=kF (H5 a0 a1) (fun _=>rfl) (fun _=>rfl)
abbrev dM (a0:List aJ) (a1:List Int) (p1:Int):St:=⟨[(0,.d (.sl (cM aJ.cells a0))),(1,.d (.fn 82 [.ptr [.sl (cM cI a1)] 0])),(7,dI (a0.length:Int)),(8,dI p1)],[]⟩
theorem nI (a0:List aJ) (a1:List Int) (p1:Int):bR TT cN (dM a0 a1 p1) (fun e s=>some (e,s)) = cH (fun (w:Int)=>dM a0 a1 w) (fun (r:Unit ⊕ Int)=>Sum.elim (fun (z:Unit)=>(((.exit 0),⟨[],[]⟩):Ex × St)) (fun (z:Int)=>((.ret,⟨[(4,dI z)],[]⟩):Ex × St)) r) (aR a0 a1 p1):=by
 unfold cN aR
 have u:=@IE
 exact pX
theorem nE {β:Type} (a0:List aJ) (a1:List Int) (p1:Int) (k:Ex->St->Option β):bR TT iN (dM a0 a1 p1) k = (cG a0 a1 p1).bind (fun (r:Unit ⊕ Int)=>Sum.elim (fun (z:Unit)=>k (.exit 0) ⟨[],[]⟩) (fun (z:Int)=>k .ret ⟨[(4,dI z)],[]⟩) r):=by
 have hh:=fun (w:Int)=>nI a0 a1 w
 have h:=fun ho=>aZ (T:=TT) (k:=k) (c:=cN) (step:=(fun (w:Int)=>aR a0 a1 w)) _ _ ho hh p1
 refine Eq.trans (h (fun r s e=>by have q:=congrArg Prod.fst e; rcases r with x | x <;> cases q)) ?_
 unfold cG
 exact aL _ fun x=>by rcases x with x | x <;> rfl
theorem oS (a0:List aJ) (a1:List Int):Vm.call TT 105 [.sl (cM aJ.cells a0),.fn 82 [.ptr [.sl (cM cI a1)] 0]] = (bW a0 a1).map fun (r:Int)=>.int .i64 r:=by
 refine (bH (show TT 105 = some (.code ⟨2,19,[.tmp 4],aDf,false,false⟩) from rfl) _ rfl rfl).trans ?_
 show bR TT aDf ⟨[(0,.d (.sl (cM aJ.cells a0))),(1,.d (.fn 82 [.ptr [.sl (cM cI a1)] 0]))],[]⟩ _ = _
 unfold aDf bW
 have u:=@nE
 exact pX
theorem pN (a0:List aJ) (a1:List Int):KF TT 105 [.sl (cM aJ.cells a0),.fn 82 [.ptr [.sl (cM cI a1)] 0]] (bW a0 a1) (fun (r:Int)=>dI r):=kF (oS a0 a1) (fun _=>rfl) (fun _=>rfl)
theorem nG (a0:List aJ) (a1:List Int):Vm.call TT 81 [.sl (cM aJ.cells a0),.fn 82 [.ptr [.sl (cM cI a1)] 0]] = (bN a0 a1).map fun (r:Bool)=>.bool r:=by
 refine (bH (show TT 81 = some (.code ⟨2,9,[.tmp 4],aML,false,false⟩) from rfl) _ rfl rfl).trans ?_
 show bR TT aML ⟨[(0,.d (.sl (cM aJ.cells a0))),(1,.d (.fn 82 [.ptr [.sl (cM cI a1)] 0]))],[]⟩ _ = _
 unfold aML bN
 have u:=@pN
 exact pX
theorem nF (a0:List aJ) (a1:List Int):KF TT 81 [.sl (cM aJ.cells a0),.fn 82 [.ptr [.sl (cM cI a1)] 0]] (bN a0 a1) (fun (r:Bool)=>dB r):=kF (nG a0 a1) (fun _=>rfl) (fun _=>rfl)
theorem QN (a0:aE) (a1:List Int):Vm.call TT 60 [.agg a0.cells,.sl (cM cI a1)] = (oF a0 a1).map fun (r:Bool)=>.bool r:=by
 refine (bH (show TT 60 = some (.code ⟨2,10,[.tmp 4],aMh,false,false⟩) from rfl) _ rfl rfl).trans ?_
 show bR TT aMh ⟨[(0,kB a0.cells),(1,.d (.sl (cM cI a1)))],[]⟩ _ = _
 unfold aMh oF
 have u:=@nF
 exact pX
theorem F8 (a0:aE) (a1:List Int):KF TT 60 [.agg a0.cells,.sl (cM cI a1)] (oF a0 a1) (fun (r:Bool)=>dB r):=kF (QN a0 a1) (fun _=>rfl) (fun _=>rfl)
end Go.Proofs.Ytgjcnbgfaimepaa
