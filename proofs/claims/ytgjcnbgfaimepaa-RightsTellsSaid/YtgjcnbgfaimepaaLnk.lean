/- The functions of the small machine compute the plain definitions. Printed by a program. -/
import Derived.Test.YtgjcnbgfaimepaaLnk6
set_option linter.unusedVariables false
set_option linter.unusedSimpArgs false
namespace Go.Proofs.Ytgjcnbgfaimepaa
open Vm
open Go.RowKit
set_option maxRecDepth 100000
set_option maxHeartbeats 4000000
attribute [local congr] yF BK yB BI
abbrev sZ (a0:List aF) (a1 a2:List Int) (p1:Int):St:=⟨[(0,.d (.sl (cM aF.cells a0))),(1,.d (.sl (cM cI a1))),(2,.d (.sl (cM cI a2))),(7,dI p1)],[]⟩
theorem H7 (a0:List aF) (a1 a2:List Int) (p1:Int):bD TT nQ (sZ a0 a1 a2 p1) (fun e s=>some (e,s)) = bP (fun (w:Int)=>sZ a0 a1 a2 w) (fun (r:Unit ⊕ Unit)=>Sum.elim (fun (z:Unit)=>(((.exit 0),⟨[(0,.d (.sl (cM aF.cells a0))),(1,.d (.sl (cM cI a1)))],[]⟩):Ex × St)) (fun (z:Unit)=>((.ret,⟨[(6,dB false)],[]⟩):Ex × St)) r) (dQ a0 a1 a2 p1):=by
 unfold nQ dQ
 have u:=@xW
 exact mJ
theorem H6 {β:Type} (a0:List aF) (a1 a2:List Int) (p1:Int) (k:Ex->St->Option β):bD TT A2 (sZ a0 a1 a2 p1) k = (lV a0 a1 a2 p1).bind (fun (r:Unit ⊕ Unit)=>Sum.elim (fun (z:Unit)=>k (.exit 0) ⟨[(0,.d (.sl (cM aF.cells a0))),(1,.d (.sl (cM cI a1)))],[]⟩) (fun (z:Unit)=>k .ret ⟨[(6,dB false)],[]⟩) r):=by
 have hh:=fun (w:Int)=>H7 a0 a1 a2 w
 have h:=fun ho=>aQ (T:=TT) (k:=k) (c:=nQ) (step:=(fun (w:Int)=>dQ a0 a1 a2 w)) _ _ ho hh p1
 refine Eq.trans (h (fun r s e=>by have q:=congrArg Prod.fst e; rcases r with x | x <;> cases q)) ?_
 unfold lV
 exact aK _ fun x=>by rcases x with x | x <;> rfl
theorem NW (a0:List aF) (a1 a2:List Int):Vm.call TT 24 [.sl (cM aF.cells a0),.sl (cM cI a1),.sl (cM cI a2)] = (mE a0 a1 a2).map fun (r:Bool)=>.bool r:=by
 refine (aV (show TT 24 = some (.code ⟨3,39,[.tmp 6],aOL,false,false⟩) from rfl) _ rfl rfl).trans ?_
 show bD TT aOL ⟨[(0,.d (.sl (cM aF.cells a0))),(1,.d (.sl (cM cI a1))),(2,.d (.sl (cM cI a2)))],[]⟩ _ = _
 unfold aOL mE
 have u:=@H6
 exact mJ
theorem N1 (a0:List aF) (a1 a2:List Int):KF TT 24 [.sl (cM aF.cells a0),.sl (cM cI a1),.sl (cM cI a2)] (mE a0 a1 a2) (fun (r:Bool)=>dB r):=kF (NW a0 a1 a2) (fun _=>rfl) (fun _=>rfl)
theorem D3 {β:Type} (a1:List aF) (bl fz:List (Nat × Option aL)) (k:V->Option β) (kw:V->List (Nat × Option aL)->Option β):B0 TT 136 bl 21 [.sl (cM aF.cells a1)] fz k kw = (kM a1).bind fun (r:(List Int))=>cG bl 100136 fun b=>jX b (kw (.own 100136 0) ((100136,some (.rows 0 3 1 (cM cI r))) :: fz)):=D0 (DM a1) fz
theorem FM (a0:Int) (a1:List aF) (a2 a3:List Int) (a4:Int):Vm.call TT 3 [.int .i64 a0,.sl (cM aF.cells a1),.sl (cM cI a2),.sl (cM cI a3),.int .i64 a4] = (jW a0 a1 a2 a3 a4).map fun (r:Bool)=>.bool r:=by
 refine (aV (show TT 3 = some (.code ⟨5,152,[.tmp 10],bd3,false,false⟩) from rfl) _ rfl rfl).trans ?_
 show bD TT bd3 ⟨[(0,dI a0),(1,.d (.sl (cM aF.cells a1))),(2,.d (.sl (cM cI a2))),(3,.d (.sl (cM cI a3))),(4,dI a4)],[]⟩ _ = _
 unfold bd3 jW
 have u:=aN (aN (aN (aN @NM @Q6) (aN @NB @DG)) (aN (aN @NH @NL) (aN @GF @IK))) (aN (aN (aN @yK @y9) (aN @IR @xD)) (aN (aN @xM @vN) (aN @NI (aN @N1 @D3))))
 exact mJ
end Go.Proofs.Ytgjcnbgfaimepaa
