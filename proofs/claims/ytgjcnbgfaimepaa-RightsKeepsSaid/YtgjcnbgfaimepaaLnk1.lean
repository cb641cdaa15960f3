/- The functions of the small machine compute the plain definitions. Printed by a program. -/
import Derived.Test.YtgjcnbgfaimepaaFn
set_option linter.unusedVariables false
set_option linter.unusedSimpArgs false
namespace Go.Proofs.Ytgjcnbgfaimepaa
open Vm
open Go.RowKit
set_option maxRecDepth 100000
set_option maxHeartbeats 4000000
attribute [local congr] yL AK yS BG
theorem DE:Vm.call TT 35 [] = (lY).map fun (r:(List aE))=>.sl (cM aE.cells r):=by
 refine (bE (show TT 35 = some (.code ⟨0,10,[.tmp 0],aOp,false,false⟩) from rfl) _ rfl rfl).trans ?_
 show bP TT aOp ⟨[],[]⟩ _ = _
 unfold aOp lY
 exact HW
theorem DO:KD TT 35 [] (lY) (fun (r:(List aE))=>.d (.sl (cM aE.cells r))):=kD (DE ) (fun _=>rfl) (fun _=>rfl) (fun _=>rfl)
theorem SK (a0:aE):Vm.call TT 53 [.agg a0.cells] = (u7 a0).map fun (r:aF)=>.agg r.cells:=by
 refine (bE (show TT 53 = some (.code ⟨1,10,[.cell 2 3 true],aOo,false,false⟩) from rfl) _ rfl rfl).trans ?_
 show bP TT aOo ⟨[(0,kM a0.cells)],[]⟩ _ = _
 unfold aOo u7
 exact HW
theorem JU (a0:aE):KF TT 53 [.agg a0.cells] (u7 a0) (fun (r:aF)=>kM r.cells):=kF (SK a0) (fun _=>rfl) (fun _=>rfl)
theorem VX (a0 a1:Int):Vm.call TT 54 [.int .i64 a0,.int .i64 a1] = (nH a0 a1).map fun (r:Bool)=>.bool r:=by
 refine (bE (show TT 54 = some (.code ⟨2,12,[.tmp 4],aLR,false,false⟩) from rfl) _ rfl rfl).trans ?_
 show bP TT aLR ⟨[(0,dI a0),(1,dI a1)],[]⟩ _ = _
 unfold aLR nH
 exact HW
theorem LO (a0 a1:Int):KF TT 54 [.int .i64 a0,.int .i64 a1] (nH a0 a1) (fun (r:Bool)=>dB r):=kF (VX a0 a1) (fun _=>rfl) (fun _=>rfl)
abbrev rM (a0:Int) (a1:List aF) (p1:Int):St:=⟨[(0,dI a0),(18,.d (.sl (cM aF.cells a1))),(19,dI (a1.length:Int)),(20,dI p1)],[]⟩
theorem GH (a0:Int) (a1:List aF) (p1:Int):bP TT mT (rM a0 a1 p1) (fun e s=>some (e,s)) = cD (fun (w:Int)=>rM a0 a1 w) (fun (r:Unit ⊕ Unit)=>Sum.elim (fun (z:Unit)=>(((.exit 0),⟨[],[]⟩):Ex × St)) (fun (z:Unit)=>((.ret,⟨[(4,dB false)],[]⟩):Ex × St)) r) (dJ a0 a1 p1):=by
 unfold mT dJ
 exact HW
theorem GX {β:Type} (a0:Int) (a1:List aF) (p1:Int) (k:Ex->St->Option β):bP TT yK (rM a0 a1 p1) k = (lP a0 a1 p1).bind (fun (r:Unit ⊕ Unit)=>Sum.elim (fun (z:Unit)=>k (.exit 0) ⟨[],[]⟩) (fun (z:Unit)=>k .ret ⟨[(4,dB false)],[]⟩) r):=by
 have hh:=fun (w:Int)=>GH a0 a1 w
 have h:=fun ho=>aX (T:=TT) (k:=k) (c:=mT) (step:=(fun (w:Int)=>dJ a0 a1 w)) _ _ ho hh p1
 refine Eq.trans (h (fun r s e=>by have q:=congrArg Prod.fst e; rcases r with x | x <;> cases q)) ?_
 unfold lP
 exact aL _ fun x=>by rcases x with x | x <;> rfl
theorem MC (a0:Int) (a1:List aF):Vm.call TT 55 [.int .i64 a0,.sl (cM aF.cells a1)] = (gK a0 a1).map fun (r:Bool)=>.bool r:=by
 refine (bE (show TT 55 = some (.code ⟨2,62,[.tmp 4],aOc,false,false⟩) from rfl) _ rfl rfl).trans ?_
 show bP TT aOc ⟨[(0,dI a0),(1,.d (.sl (cM aF.cells a1)))],[]⟩ _ = _
 unfold aOc gK
 have u:=@GX
 exact oR
theorem wO (a0:Int) (a1:List aF):KF TT 55 [.int .i64 a0,.sl (cM aF.cells a1)] (gK a0 a1) (fun (r:Bool)=>dB r):=kF (MC a0 a1) (fun _=>rfl) (fun _=>rfl)
abbrev uX (a0:Int) (a1:List aE) (p1:Int) (p2:List aF) (r4:aF) (x3:aE) (p8:Int):St:=⟨[(0,dI a0),(5,.own 20 0),(10,.d (.sl (cM aE.cells a1))),(11,dI (a1.length:Int)),(12,dI p1),(44,.d (.sl (cM aJ.cells x3.Rights))),(45,dI (x3.Rights.length:Int)),(46,dI p8)],[(20,some (.rows 0 54 3 (cM aF.cells (p2 ++ [r4]))))]⟩
theorem KU (a0:Int) (a1:List aE) (p1:Int) (p2:List aF) (r4:aF) (x3:aE) (p8:Int):bP TT oW (uX a0 a1 p1 p2 r4 x3 p8) (fun e s=>some (e,s)) = cD (fun (w:Int)=>uX a0 a1 p1 p2 r4 x3 w) (fun (r:Unit ⊕ Unit)=>Sum.elim (fun (z:Unit)=>(((.exit 2),⟨[(0,dI a0),(5,.own 20 0),(10,.d (.sl (cM aE.cells a1))),(11,dI (a1.length:Int)),(12,dI p1)],[(20,some (.rows 0 54 3 (cM aF.cells (p2 ++ [r4]))))]⟩):Ex × St)) (fun (z:Unit)=>((.ret,⟨[(4,dI 1)],[]⟩):Ex × St)) r) (eJ a0 a1 p1 p2 r4 x3 p8):=by
 unfold oW eJ
 have u:=@LO
 exact oR
theorem KQ {β:Type} (a0:Int) (a1:List aE) (p1:Int) (p2:List aF) (r4:aF) (x3:aE) (p8:Int) (k:Ex->St->Option β):bP TT A6 (uX a0 a1 p1 p2 r4 x3 p8) k = (oH a0 a1 p1 p2 r4 x3 p8).bind (fun (r:Unit ⊕ Unit)=>Sum.elim (fun (z:Unit)=>k (.exit 2) ⟨[(0,dI a0),(5,.own 20 0),(10,.d (.sl (cM aE.cells a1))),(11,dI (a1.length:Int)),(12,dI p1)],[(20,some (.rows 0 54 3 (cM aF.cells (p2 ++ [r4]))))]⟩) (fun (z:Unit)=>k .ret ⟨[(4,dI 1)],[]⟩) r):=by
 have hh:=fun (w:Int)=>KU a0 a1 p1 p2 r4 x3 w
 have h:=fun ho=>aX (T:=TT) (k:=k) (c:=oW) (step:=(fun (w:Int)=>eJ a0 a1 p1 p2 r4 x3 w)) _ _ ho hh p8
 refine Eq.trans (h (fun r s e=>by have q:=congrArg Prod.fst e; rcases r with x | x <;> cases q)) ?_
 unfold oH
 exact aL _ fun x=>by rcases x with x | x <;> rfl
abbrev uG (a0:Int) (a1:List aE) (p1:Int) (p2:List aF):St:=⟨[(0,dI a0),(5,.own 20 0),(10,.d (.sl (cM aE.cells a1))),(11,dI (a1.length:Int)),(12,dI p1)],[(20,some (.rows 0 54 3 (cM aF.cells p2)))]⟩
theorem LE (a0:Int) (a1:List aE) (p1:Int) (p2:List aF):bP TT pW (uG a0 a1 p1 p2) (fun e s=>some (e,s)) = cD (fun (w:Int × (List aF))=>uG a0 a1 w.1 w.2) (fun (r:((List aF)) ⊕ Unit)=>Sum.elim (fun (z:(List aF))=>(((.exit 0),⟨[(0,dI a0),(5,.own 20 0)],[(20,some (.rows 0 54 3 (cM aF.cells z)))]⟩):Ex × St)) (fun (z:Unit)=>((.ret,⟨[(4,dI 1)],[]⟩):Ex × St)) r) (eG a0 a1 p1 p2):=by
 unfold pW eG
 have u:=aN @KQ (aN @JU @LO)
 exact oR
theorem LA {β:Type} (a0:Int) (a1:List aE) (p1:Int) (p2:List aF) (k:Ex->St->Option β):bP TT BF (uG a0 a1 p1 p2) k = (oD a0 a1 p1 p2).bind (fun (r:((List aF)) ⊕ Unit)=>Sum.elim (fun (z:(List aF))=>k (.exit 0) ⟨[(0,dI a0),(5,.own 20 0)],[(20,some (.rows 0 54 3 (cM aF.cells z)))]⟩) (fun (z:Unit)=>k .ret ⟨[(4,dI 1)],[]⟩) r):=by
 have hh:=fun (w:Int × (List aF))=>LE a0 a1 w.1 w.2
 have h:=fun ho=>aX (T:=TT) (k:=k) (c:=pW) (step:=(fun (w:Int × (List aF))=>eG a0 a1 w.1 w.2)) _ _ ho hh (p1,p2)
 refine Eq.trans (h (fun r s e=>by have q:=congrArg Prod.fst e; rcases r with x | x <;> cases q)) ?_
 unfold oD
 exact aL _ fun x=>by rcases x with x | x <;> rfl
theorem PG (a0:Int) (a1:List aE):Vm.call TT 19 [.int .i64 a0,.sl (cM aE.cells a1)] = (jK a0 a1).map fun (r:Int)=>.int .i64 r:=by
 refine (bE (show TT 19 = some (.code ⟨2,66,[.tmp 4],aLH,false,false⟩) from rfl) _ rfl rfl).trans ?_
 show bP TT aLH ⟨[(0,dI a0),(1,.d (.sl (cM aE.cells a1)))],[]⟩ _ = _
 unfold aLH jK
 have u:=aN @LA @wO
 exact oR
theorem uE (a0:Int) (a1:List aE):KF TT 19 [.int .i64 a0,.sl (cM aE.cells a1)] (jK a0 a1) (fun (r:Int)=>dI r):=kF (PG a0 a1) (fun _=>rfl) (fun _=>rfl)
abbrev uY (a0:List Int) (p1 p2:Int):St:=⟨[(3,dI p1),(6,.d (.sl (cM cI a0))),(7,dI (a0.length:Int)),(8,dI p2)],[]⟩
theorem KV (a0:List Int) (p1 p2:Int):bP TT pJ (uY a0 p1 p2) (fun e s=>some (e,s)) = cD (fun (w:Int × Int)=>uY a0 w.1 w.2) (fun (r:Unit ⊕ Unit)=>Sum.elim (fun (z:Unit)=>(((.exit 0),⟨[],[]⟩):Ex × St)) (fun (z:Unit)=>((.ret,⟨[(2,dB false)],[]⟩):Ex × St)) r) (eE a0 p1 p2):=by
 unfold pJ eE
 exact HW
theorem LF {β:Type} (a0:List Int) (p1 p2:Int) (k:Ex->St->Option β):bP TT AR (uY a0 p1 p2) k = (sE a0 p1 p2).bind (fun (r:Unit ⊕ Unit)=>Sum.elim (fun (z:Unit)=>k (.exit 0) ⟨[],[]⟩) (fun (z:Unit)=>k .ret ⟨[(2,dB false)],[]⟩) r):=by
 have hh:=fun (w:Int × Int)=>KV a0 w.1 w.2
 have h:=fun ho=>aX (T:=TT) (k:=k) (c:=pJ) (step:=(fun (w:Int × Int)=>eE a0 w.1 w.2)) _ _ ho hh (p1,p2)
 refine Eq.trans (h (fun r s e=>by have q:=congrArg Prod.fst e; rcases r with x | x <;> cases q)) ?_
 unfold sE
 exact aL _ fun x=>by rcases x with x | x <;> rfl
theorem O7 (a0:List Int):Vm.call TT 37 [.sl (cM cI a0)] = (nI a0).map fun (r:Bool)=>.bool r:=by
 refine (bE (show TT 37 = some (.code ⟨1,21,[.tmp 2],aLE,false,false⟩) from rfl) _ rfl rfl).trans ?_
 show bP TT aLE ⟨[(0,.d (.sl (cM cI a0)))],[]⟩ _ = _
 unfold aLE nI
 have u:=@LF
 exact oR
theorem zQ (a0:List Int):KF TT 37 [.sl (cM cI a0)] (nI a0) (fun (r:Bool)=>dB r):=kF (O7 a0) (fun _=>rfl) (fun _=>rfl)
abbrev lG (a0:List Int) (a1 p1:Int):St:=⟨[(0,.d (.sl (cM cI a0))),(1,dI a1),(7,dI (a0.length:Int)),(8,dI p1)],[]⟩
theorem AQ (a0:List Int) (a1 p1:Int):bP TT iH (lG a0 a1 p1) (fun e s=>some (e,s)) = cD (fun (w:Int)=>lG a0 a1 w) (fun (r:Unit ⊕ Int)=>Sum.elim (fun (z:Unit)=>(((.exit 0),⟨[],[]⟩):Ex × St)) (fun (z:Int)=>((.ret,⟨[(4,dI z)],[]⟩):Ex × St)) r) (bQ a0 a1 p1):=by
 unfold iH bQ
 exact HW
theorem AM {β:Type} (a0:List Int) (a1 p1:Int) (k:Ex->St->Option β):bP TT rU (lG a0 a1 p1) k = (jL a0 a1 p1).bind (fun (r:Unit ⊕ Int)=>Sum.elim (fun (z:Unit)=>k (.exit 0) ⟨[],[]⟩) (fun (z:Int)=>k .ret ⟨[(4,dI z)],[]⟩) r):=by
 have hh:=fun (w:Int)=>AQ a0 a1 w
 have h:=fun ho=>aX (T:=TT) (k:=k) (c:=iH) (step:=(fun (w:Int)=>bQ a0 a1 w)) _ _ ho hh p1
 refine Eq.trans (h (fun r s e=>by have q:=congrArg Prod.fst e; rcases r with x | x <;> cases q)) ?_
 unfold jL
 exact aL _ fun x=>by rcases x with x | x <;> rfl
theorem CY (a0:List Int) (a1:Int):Vm.call TT 73 [.sl (cM cI a0),.int .i64 a1] = (gD a0 a1).map fun (r:Int)=>.int .i64 r:=by
 refine (bE (show TT 73 = some (.code ⟨2,19,[.tmp 4],aOB,false,false⟩) from rfl) _ rfl rfl).trans ?_
 show bP TT aOB ⟨[(0,.d (.sl (cM cI a0))),(1,dI a1)],[]⟩ _ = _
 unfold aOB gD
 have u:=@AM
 exact oR
theorem DG (a0:List Int) (a1:Int):KF TT 73 [.sl (cM cI a0),.int .i64 a1] (gD a0 a1) (fun (r:Int)=>dI r):=kF (CY a0 a1) (fun _=>rfl) (fun _=>rfl)
theorem AW (a0:List Int) (a1:Int):Vm.call TT 44 [.sl (cM cI a0),.int .i64 a1] = (cX a0 a1).map fun (r:Bool)=>.bool r:=by
 refine (bE (show TT 44 = some (.code ⟨2,9,[.tmp 4],aMC,false,false⟩) from rfl) _ rfl rfl).trans ?_
 show bP TT aMC ⟨[(0,.d (.sl (cM cI a0))),(1,dI a1)],[]⟩ _ = _
 unfold aMC cX
 have u:=@DG
 exact oR
theorem lM (a0:List Int) (a1:Int):KF TT 44 [.sl (cM cI a0),.int .i64 a1] (cX a0 a1) (fun (r:Bool)=>dB r):=kF (AW a0 a1) (fun _=>rfl) (fun _=>rfl)
theorem JL (a0:aJ) (a1:List Int):Vm.call TT 82 [.agg a0.cells,.ptr [.sl (cM cI a1)] 0] = (nD a0 a1).map fun (r:Bool)=>.bool r:=by
 refine (bE (show TT 82 = some (.code ⟨2,9,[.tmp 3],aN5,false,false⟩) from rfl) _ rfl rfl).trans ?_
 show bP TT aN5 ⟨[(0,kM a0.cells),(1,.d (.ptr [.sl (cM cI a1)] 0))],[]⟩ _ = _
 unfold aN5 nD
 have u:=@lM
 exact oR
theorem JQ (a0:aJ) (a1:List Int):KF TT 82 [.agg a0.cells,.ptr [.sl (cM cI a1)] 0] (nD a0 a1) (fun (r:Bool)=>dB r):=kF (JL a0 a1) (fun _=>rfl) (fun _=>rfl)
abbrev dO (a0:List aJ) (a1:List Int) (p1:Int):St:=⟨[(0,.d (.sl (cM aJ.cells a0))),(1,.d (.fn 82 [.ptr [.sl (cM cI a1)] 0])),(7,dI (a0.length:Int)),(8,dI p1)],[]⟩
theorem nO (a0:List aJ) (a1:List Int) (p1:Int):bP TT cQ (dO a0 a1 p1) (fun e s=>some (e,s)) = cD (fun (w:Int)=>dO a0 a1 w) (fun (r:Unit ⊕ Int)=>Sum.elim (fun (z:Unit)=>(((.exit 0),⟨[],[]⟩):Ex × St)) (fun (z:Int)=>((.ret,⟨[(4,dI z)],[]⟩):Ex × St)) r) (aR a0 a1 p1):=by
 unfold cQ aR
 have u:=@JQ
 exact oR
theorem nP {β:Type} (a0:List aJ) (a1:List Int) (p1:Int) (k:Ex->St->Option β):bP TT iI (dO a0 a1 p1) k = (cH a0 a1 p1).bind (fun (r:Unit ⊕ Int)=>Sum.elim (fun (z:Unit)=>k (.exit 0) ⟨[],[]⟩) (fun (z:Int)=>k .ret ⟨[(4,dI z)],[]⟩) r):=by
 have hh:=fun (w:Int)=>nO a0 a1 w
 have h:=fun ho=>aX (T:=TT) (k:=k) (c:=cQ) (step:=(fun (w:Int)=>aR a0 a1 w)) _ _ ho hh p1
 refine Eq.trans (h (fun r s e=>by have q:=congrArg Prod.fst e; rcases r with x | x <;> cases q)) ?_
 unfold cH
 exact aL _ fun x=>by rcases x with x | x <;> rfl
theorem pK (a0:List aJ) (a1:List Int):Vm.call TT 105 [.sl (cM aJ.cells a0),.fn 82 [.ptr [.sl (cM cI a1)] 0]] = (b5 a0 a1).map fun (r:Int)=>.int .i64 r:=by
 refine (bE (show TT 105 = some (.code ⟨2,19,[.tmp 4],aDc,false,false⟩) from rfl) _ rfl rfl).trans ?_
 show bP TT aDc ⟨[(0,.d (.sl (cM aJ.cells a0))),(1,.d (.fn 82 [.ptr [.sl (cM cI a1)] 0]))],[]⟩ _ = _
 unfold aDc b5
 have u:=@nP
 exact oR
theorem pO (a0:List aJ) (a1:List Int):KF TT 105 [.sl (cM aJ.cells a0),.fn 82 [.ptr [.sl (cM cI a1)] 0]] (b5 a0 a1) (fun (r:Int)=>dI r):=kF (pK a0 a1) (fun _=>rfl) (fun _=>rfl)
theorem nR (a0:List aJ) (a1:List Int):Vm.call TT 81 [.sl (cM aJ.cells a0),.fn 82 [.ptr [.sl (cM cI a1)] 0]] = (bO a0 a1).map fun (r:Bool)=>.bool r:=by
 refine (bE (show TT 81 = some (.code ⟨2,9,[.tmp 4],aO3,false,false⟩) from rfl) _ rfl rfl).trans ?_
 show bP TT aO3 ⟨[(0,.d (.sl (cM aJ.cells a0))),(1,.d (.fn 82 [.ptr [.sl (cM cI a1)] 0]))],[]⟩ _ = _
 unfold aO3 bO
 have u:=@pO
 exact oR
theorem nQ (a0:List aJ) (a1:List Int):KF TT 81 [.sl (cM aJ.cells a0),.fn 82 [.ptr [.sl (cM cI a1)] 0]] (bO a0 a1) (fun (r:Bool)=>dB r):=kF (nR a0 a1) (fun _=>rfl) (fun _=>rfl)
theorem PZ (a0:aE) (a1:List Int):Vm.call TT 60 [.agg a0.cells,.sl (cM cI a1)] = (qB a0 a1).map fun (r:Bool)=>.bool r:=by
 refine (bE (show TT 60 = some (.code ⟨2,10,[.tmp 4],aLF,false,false⟩) from rfl) _ rfl rfl).trans ?_
 show bP TT aLF ⟨[(0,kM a0.cells),(1,.d (.sl (cM cI a1)))],[]⟩ _ = _
 unfold aLF qB
 have u:=@nQ
 exact oR
theorem H6 (a0:aE) (a1:List Int):KF TT 60 [.agg a0.cells,.sl (cM cI a1)] (qB a0 a1) (fun (r:Bool)=>dB r):=kF (PZ a0 a1) (fun _=>rfl) (fun _=>rfl)
end Go.Proofs.Ytgjcnbgfaimepaa
