/- Code and answers agree. -/
import Derived.Test.YtoefdnkjcfoccaaDoorLnk5
set_option linter.unusedVariables false
set_option linter.unusedSimpArgs false
namespace Go.Proofs.YtoefdnkjcfoccaaDoor
open Vm
open Go.RowKit
set_option maxRecDepth 100000
set_option maxHeartbeats 4000000
attribute [local congr] qD s6 qG s9
theorem UX (a0:aF):Vm.call TT 51 [.agg a0.cells] = (sY a0).map fun (r:Int × Int)=>.tup [.int .i64 r.1,.int .i64 r.2]:=by
 refine (aW (show TT 51 = some (.code ⟨1,11,[.tmp 2,.tmp 3],aQM,false,false⟩) from rfl) _ rfl rfl).trans ?_
 show bM TT aQM ⟨[(0,b9 a0.cells)],[]⟩ _ = _
 unfold aQM sY
 have u:=aN @RR @VB
 exact iV
theorem LM (a0:aF):KF TT 51 [.agg a0.cells] (sY a0) (fun (r:Int × Int)=>.tup [dI r.1,dI r.2]):=kF (UX a0) (fun _=>rfl) (fun _=>rfl)
theorem VE (a0:aJ) (a1:Int):Vm.call TT 22 [.agg a0.cells,.int .i64 a1] = (yA a0 a1).map fun (r:aF × Int)=>.tup [.agg (aF.cells r.1),.int .i64 r.2]:=by
 refine (aW (show TT 22 = some (.code ⟨2,47,[.cell 4 3 true,.tmp 5],aPk,false,false⟩) from rfl) _ rfl rfl).trans ?_
 show bM TT aPk ⟨[(0,b9 a0.cells),(1,dI a1)],[]⟩ _ = _
 unfold aPk yA
 have u:=aN @LK (aN @sC @LM)
 exact iV
theorem UU (a0:aJ) (a1:Int):KD TT 22 [.agg a0.cells,.int .i64 a1] (yA a0 a1) (fun (r:aF × Int)=>.tup [b9 (aF.cells r.1),dI r.2]):=kD (VE a0 a1) (fun _=>rfl) (fun _=>rfl) (fun _=>rfl)
theorem I6 (a0:Bool):Vm.call TT 70 [.bool a0] = (lD a0).map fun (r:aH)=>.agg r.cells:=by
 refine (aW (show TT 70 = some (.code ⟨1,6,[.cell 2 2 true],aC9,false,false⟩) from rfl) _ rfl rfl).trans ?_
 show bM TT aC9 ⟨[(0,dB a0)],[]⟩ _ = _
 unfold aC9 lD
 exact yM
theorem kU (a0:Bool):KF TT 70 [.bool a0] (lD a0) (fun (r:aH)=>b9 r.cells):=kF (I6 a0) (fun _=>rfl) (fun _=>rfl)
theorem rD (a0:aC) (a1:Int):Vm.call TT 61 [.agg a0.cells,.int .i64 a1] = (dO a0 a1).map fun (r:aH)=>.agg r.cells:=by
 refine (aW (show TT 61 = some (.code ⟨2,45,[.cell 4 2 true],aEg,false,false⟩) from rfl) _ rfl rfl).trans ?_
 show bM TT aEg ⟨[(0,b9 a0.cells),(1,dI a1)],[]⟩ _ = _
 unfold aEg dO
 have u:=aN @nJ (aN @kU @qE)
 exact iV
theorem AL (a0:aC) (a1:Int):KF TT 61 [.agg a0.cells,.int .i64 a1] (dO a0 a1) (fun (r:aH)=>b9 r.cells):=kF (rD a0 a1) (fun _=>rfl) (fun _=>rfl)
theorem wU (a0 a1:Int):Vm.call TT 77 [.int .u64 a0,.int .u64 a1] = (iL a0 a1).map fun (r:Int × Int)=>.tup [.int .u64 r.1,.int .u64 r.2]:=by
 refine (aW (show TT 77 = some (.code ⟨2,51,[.tmp 4,.tmp 5],aDs,false,false⟩) from rfl) _ rfl rfl).trans ?_
 show bM TT aDs ⟨[(0,.d (.int .u64 a0)),(1,.d (.int .u64 a1))],[]⟩ _ = _
 unfold aDs iL
 exact yM
theorem wQ (a0 a1:Int):KF TT 77 [.int .u64 a0,.int .u64 a1] (iL a0 a1) (fun (r:Int × Int)=>.tup [.d (.int .u64 r.1),.d (.int .u64 r.2)]):=kF (wU a0 a1) (fun _=>rfl) (fun _=>rfl)
theorem wM {β:Type} (a0 a1 p2:Int) (k:Ex->St->Option β):bM TT mL ⟨[(0,dI a0),(1,dI a1),(7,dI p2)],[]⟩ k = (gB a0 a1 p2).bind (fun (r:Int)=>k .ret ⟨[(4,dI r)],[]⟩):=by
 unfold mL gB
 exact yM
theorem B8 (a0 a1:Int):Vm.call TT 76 [.int .i64 a0,.int .i64 a1] = (kN a0 a1).map fun (r:Int)=>.int .i64 r:=by
 refine (aW (show TT 76 = some (.code ⟨2,38,[.tmp 4],aDL,false,false⟩) from rfl) _ rfl rfl).trans ?_
 show bM TT aDL ⟨[(0,dI a0),(1,dI a1)],[]⟩ _ = _
 unfold aDL kN
 have u:=aN @wM @wQ
 exact iV
theorem B6 (a0 a1:Int):KF TT 76 [.int .i64 a0,.int .i64 a1] (kN a0 a1) (fun (r:Int)=>dI r):=kF (B8 a0 a1) (fun _=>rfl) (fun _=>rfl)
theorem wW (a0 a1 a2:Int):Vm.call TT 72 [.int .i64 a0,.int .i64 a1,.int .i64 a2] = (fH a0 a1 a2).map fun (r:Int)=>.int .i64 r:=by
 refine (aW (show TT 72 = some (.code ⟨3,33,[.tmp 6],aB1,false,false⟩) from rfl) _ rfl rfl).trans ?_
 show bM TT aB1 ⟨[(0,dI a0),(1,dI a1),(2,dI a2)],[]⟩ _ = _
 unfold aB1 fH
 have u:=aN @qE @B6
 exact iV
theorem wP (a0 a1 a2:Int):KF TT 72 [.int .i64 a0,.int .i64 a1,.int .i64 a2] (fH a0 a1 a2) (fun (r:Int)=>dI r):=kF (wW a0 a1 a2) (fun _=>rfl) (fun _=>rfl)
theorem wY {β:Type} (a0:Int) (a1:List aH) (k:Ex->St->Option β):bM TT m5 ⟨[(0,dI a0),(1,.d (.sl (cM aH.cells a1))),(4,.ptr 4 0)],[(4,some (.box [dB false,dI 0]))]⟩ k = (gD a0 a1).bind (fun (r:Unit ⊕ aH)=>Sum.elim (fun (z:Unit)=>k .normal ⟨[(0,dI a0),(1,.d (.sl (cM aH.cells a1))),(4,.ptr 4 0)],[(4,some (.box [dB false,dI 0]))]⟩) (fun (z:aH)=>k .ret ⟨[(4,.ptr 4 0)],[(4,some (.box (aE z.cells)))]⟩) r):=by
 unfold m5 gD
 have u:=@kU
 exact iV
theorem xC {β:Type} (a0:Int) (a1:List aH) (k:Ex->St->Option β):bM TT mP ⟨[(0,dI a0),(1,.d (.sl (cM aH.cells a1))),(4,.ptr 4 0),(8,dI a0)],[(4,some (.box [dB false,dI 0]))]⟩ k = (fF a0 a1).bind (fun (r:Unit ⊕ aH)=>Sum.elim (fun (z:Unit)=>k .normal ⟨[(0,dI a0),(1,.d (.sl (cM aH.cells a1))),(4,.ptr 4 0)],[(4,some (.box [dB false,dI 0]))]⟩) (fun (z:aH)=>k .ret ⟨[(4,.ptr 4 0)],[(4,some (.box (aE z.cells)))]⟩) r):=by
 unfold mP fF
 exact yM
theorem wZ {β:Type} (a0:Int) (x27 x28:aH) (k:Ex->St->Option β):bM TT mM ⟨[(0,dI a0),(4,.ptr 4 0),(6,dI x27.N),(7,dI x28.N),(81,dI a0),(88,dB (a0 == 7))],[(4,some (.box [dB false,dI 0]))]⟩ k = (gJ a0 x27 x28).bind (fun (r:Unit ⊕ aH)=>Sum.elim (fun (z:Unit)=>k .normal ⟨[(0,dI a0),(4,.ptr 4 0),(6,dI x27.N),(7,dI x28.N)],[(4,some (.box [dB false,dI 0]))]⟩) (fun (z:aH)=>k .ret ⟨[(4,.ptr 4 0)],[(4,some (.box (aE z.cells)))]⟩) r):=by
 unfold mM gJ
 have u:=@kU
 exact iV
theorem wN {β:Type} (a0:Int) (a1:List aH) (k:Ex->St->Option β):bM TT mT ⟨[(0,dI a0),(1,.d (.sl (cM aH.cells a1))),(4,.ptr 4 0)],[(4,some (.box [dB false,dI 0]))]⟩ k = (fC a0 a1).bind (fun (r:aH)=>k .ret ⟨[(4,.ptr 4 0)],[(4,some (.box (aE r.cells)))]⟩):=by
 unfold mT fC
 have u:=aN @wZ (aN @kU @wP)
 exact iV
theorem B0 (a0:Int) (a1:List aH):Vm.call TT 62 [.int .i64 a0,.sl (cM aH.cells a1)] = (iB a0 a1).map fun (r:aH)=>.agg r.cells:=by
 refine (aW (show TT 62 = some (.code ⟨2,105,[.cell 4 2 true],aB2,false,false⟩) from rfl) _ rfl rfl).trans ?_
 show bM TT aB2 ⟨[(0,dI a0),(1,.d (.sl (cM aH.cells a1)))],[]⟩ _ = _
 unfold aB2 iB
 have u:=aN (aN @wY @xC) (aN @wN @kU)
 exact iV
theorem HS (a0:Int) (a1:List aH):KF TT 62 [.int .i64 a0,.sl (cM aH.cells a1)] (iB a0 a1) (fun (r:aH)=>b9 r.cells):=kF (B0 a0 a1) (fun _=>rfl) (fun _=>rfl)
theorem oD (a0:List (List Int)):Vm.call TT 63 [.sl (cM (cL cI) a0)] = (eN a0).map fun (r:(List Int))=>.sl (cM cI r) :=
 (uF (show TT 63 = some (.told o63) from rfl) _ rfl).trans (aFe a0)
theorem vW (a0:List (List Int)):KD TT 63 [.sl (cM (cL cI) a0)] (eN a0) (fun (r:(List Int))=>.d (.sl (cM cI r))):=kD (oD a0) (fun _=>rfl) (fun _=>rfl) (fun _=>rfl)
theorem RZ (a0:aF) (a1:List aH):KD TT 52 [.agg [.sl (cM aH.cells a1)],.agg a0.cells] (m0 (aC.mk a1) a0) (fun (r:aH × (List Int))=>.tup [b9 (aH.cells r.1),.d (.sl (cM cI r.2))]):=kD (BE (aC.mk a1) a0) (fun _=>rfl) (fun _=>rfl) (fun _=>rfl)
theorem Y7 (a0:aF) (a1:List aH):Vm.call TT 23 [.agg a0.cells,.sl (cM aH.cells a1)] = (AU a0 a1).map fun (r:aH)=>.agg r.cells:=by
 refine (aW (show TT 23 = some (.code ⟨2,25,[.cell 4 2 true],aP5,false,false⟩) from rfl) _ rfl rfl).trans ?_
 show bM TT aP5 ⟨[(0,b9 a0.cells),(1,.d (.sl (cM aH.cells a1)))],[]⟩ _ = _
 unfold aP5 AU
 have u:=aN @LM (aN @I7 @RZ)
 exact iV
theorem YR (a0:aF) (a1:List aH):KF TT 23 [.agg a0.cells,.sl (cM aH.cells a1)] (AU a0 a1) (fun (r:aH)=>b9 r.cells):=kF (Y7 a0 a1) (fun _=>rfl) (fun _=>rfl)
theorem HN (a0:aJ) (a1:Int) (a2:List aH):Vm.call TT 9 [.agg a0.cells,.int .i64 a1,.sl (cM aH.cells a2)] = (oH a0 a1 a2).map fun (r:aH × Int)=>.tup [.agg (aH.cells r.1),.int .i64 r.2]:=by
 refine (aW (show TT 9 = some (.code ⟨3,43,[.cell 6 2 true,.tmp 7],bd9,false,false⟩) from rfl) _ rfl rfl).trans ?_
 show bM TT bd9 ⟨[(0,b9 a0.cells),(1,dI a1),(2,.d (.sl (cM aH.cells a2)))],[]⟩ _ = _
 unfold bd9 oH
 have u:=aN @UU (aN @YR @LK)
 exact iV
theorem R6 (a0:aJ) (a1:Int) (a2:List aH):KF TT 9 [.agg a0.cells,.int .i64 a1,.sl (cM aH.cells a2)] (oH a0 a1 a2) (fun (r:aH × Int)=>.tup [b9 (aH.cells r.1),dI r.2]):=kF (HN a0 a1 a2) (fun _=>rfl) (fun _=>rfl)
end Go.Proofs.YtoefdnkjcfoccaaDoor
