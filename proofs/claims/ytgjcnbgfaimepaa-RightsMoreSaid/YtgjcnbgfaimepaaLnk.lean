/- The functions of the small machine compute the plain definitions. Printed by a program. -/
import Derived.Test.YtgjcnbgfaimepaaLnk4
set_option linter.unusedVariables false
set_option linter.unusedSimpArgs false
namespace Go.Proofs.Ytgjcnbgfaimepaa
open Vm
open Go.RowKit
set_option maxRecDepth 100000
set_option maxHeartbeats 4000000
attribute [local congr] xJ AH xO AD
abbrev oZ (a0:List Int) (a1 p1:Int):St:=⟨[(0,.d (.sl (cM cI a0))),(1,dI a1),(5,dI p1)],[]⟩
theorem DE (a0:List Int) (a1 p1:Int):bR TT kS (oZ a0 a1 p1) (fun e s=>some (e,s)) = cH (fun (w:Int)=>oZ a0 a1 w) (fun (r:Unit ⊕ Unit)=>Sum.elim (fun (z:Unit)=>(((.exit 0),⟨[],[]⟩):Ex × St)) (fun (z:Unit)=>((.ret,⟨[(4,dB true)],[]⟩):Ex × St)) r) (cJ a0 a1 p1):=by
 unfold kS cJ
 exact IU
theorem DB {β:Type} (a0:List Int) (a1 p1:Int) (k:Ex->St->Option β):bR TT vM (oZ a0 a1 p1) k = (mS a0 a1 p1).bind (fun (r:Unit ⊕ Unit)=>Sum.elim (fun (z:Unit)=>k (.exit 0) ⟨[],[]⟩) (fun (z:Unit)=>k .ret ⟨[(4,dB true)],[]⟩) r):=by
 have hh:=fun (w:Int)=>DE a0 a1 w
 have h:=fun ho=>aZ (T:=TT) (k:=k) (c:=kS) (step:=(fun (w:Int)=>cJ a0 a1 w)) _ _ ho hh p1
 refine Eq.trans (h (fun r s e=>by have q:=congrArg Prod.fst e; rcases r with x | x <;> cases q)) ?_
 unfold mS
 exact aL _ fun x=>by rcases x with x | x <;> rfl
theorem H7 (a0:List Int) (a1:Int):Vm.call TT 29 [.sl (cM cI a0),.int .i64 a1] = (jY a0 a1).map fun (r:Bool)=>.bool r:=by
 refine (bH (show TT 29 = some (.code ⟨2,18,[.tmp 4],aLq,false,false⟩) from rfl) _ rfl rfl).trans ?_
 show bR TT aLq ⟨[(0,.d (.sl (cM cI a0))),(1,dI a1)],[]⟩ _ = _
 unfold aLq jY
 have u:=@DB
 exact pX
theorem H0 (a0:List Int) (a1:Int):KF TT 29 [.sl (cM cI a0),.int .i64 a1] (jY a0 a1) (fun (r:Bool)=>dB r):=kF (H7 a0 a1) (fun _=>rfl) (fun _=>rfl)
theorem EW {β:Type} (a0:List Int) (a1 p3:Int) (p6:Bool) (p7:List Int) (k:Ex->St->Option β):bR TT oW ⟨[(0,.d (.sl (cM cI a0))),(1,dI a1),(5,.own 12 0),(6,dB p6),(7,dI p3)],[(12,some (.rows 0 3 1 (cM cI p7)))]⟩ k = (fD a0 a1 p3 p6 p7).bind (fun (r:(List Int))=>k .normal ⟨[(0,.d (.sl (cM cI a0))),(1,dI a1),(5,.own 12 0),(6,dB p6),(7,dI p3)],[(12,some (.rows 0 3 1 (cM cI r)))]⟩):=by
 unfold oW fD
 exact IU
abbrev pB (a0:List Int) (a1:Int) (p2:Bool) (p3:Int) (p4:List Int):St:=⟨[(0,.d (.sl (cM cI a0))),(1,dI a1),(5,.own 12 0),(6,dB p2),(7,dI p3)],[(12,some (.rows 0 3 1 (cM cI p4)))]⟩
theorem D7 (a0:List Int) (a1:Int) (p2:Bool) (p3:Int) (p4:List Int):bR TT kL (pB a0 a1 p2 p3 p4) (fun e s=>some (e,s)) = cH (fun (w:Bool × Int × (List Int))=>pB a0 a1 w.1 w.2.1 w.2.2) (fun (r:Bool × (List Int))=>(((.exit 0),⟨[(1,dI a1),(5,.own 12 0),(6,dB r.1)],[(12,some (.rows 0 3 1 (cM cI r.2)))]⟩):Ex × St)) (bA a0 a1 p2 p3 p4):=by
 unfold kL bA
 have u:=@EW
 exact pX
theorem D2 {β:Type} (a0:List Int) (a1:Int) (p2:Bool) (p3:Int) (p4:List Int) (k:Ex->St->Option β):bR TT vH (pB a0 a1 p2 p3 p4) k = (mC a0 a1 p2 p3 p4).bind (fun (r:Bool × (List Int))=>k (.exit 0) ⟨[(1,dI a1),(5,.own 12 0),(6,dB r.1)],[(12,some (.rows 0 3 1 (cM cI r.2)))]⟩):=by
 have hh:=fun (w:Bool × Int × (List Int))=>D7 a0 a1 w.1 w.2.1 w.2.2
 have h:=fun ho=>aZ (T:=TT) (k:=k) (c:=kL) (step:=(fun (w:Bool × Int × (List Int))=>bA a0 a1 w.1 w.2.1 w.2.2)) _ _ ho hh (p2,p3,p4)
 refine Eq.trans (h (fun r s e=>by have q:=congrArg Prod.fst e; rcases r with x <;> cases q)) ?_
 unfold mC
 exact aL _ fun x=>by rcases x with x <;> rfl
theorem IC (a0:List Int) (a1:Int):Vm.call TT 59 [.sl (cM cI a0),.int .i64 a1] = (jX a0 a1).map fun (r:(List Int))=>.sl (cM cI r):=by
 refine (bH (show TT 59 = some (.code ⟨2,47,[.tmp 4],aNc,false,false⟩) from rfl) _ rfl rfl).trans ?_
 show bR TT aNc ⟨[(0,.d (.sl (cM cI a0))),(1,dI a1)],[]⟩ _ = _
 unfold aNc jX
 have u:=aN @D2 @H0
 exact pX
theorem H3 (a0:List Int) (a1:Int):KD TT 59 [.sl (cM cI a0),.int .i64 a1] (jX a0 a1) (fun (r:(List Int))=>.d (.sl (cM cI r))):=kD (IC a0 a1) (fun _=>rfl) (fun _=>rfl) (fun _=>rfl)
abbrev lW (a0:List aE) (p2:Int) (p3:List Int) (p4:Int):St:=⟨[(0,.d (.sl (cM aE.cells a0))),(3,.d (.sl (cM cI p3))),(4,dI p2),(5,dI p4)],[(6,none)]⟩
theorem A0 (a0:List aE) (p2:Int) (p3:List Int) (p4:Int):bR TT i6 (lW a0 p2 p3 p4) (fun e s=>some (e,s)) = cH (fun (w:(List Int) × Int)=>lW a0 p2 w.1 w.2) (fun (r:(List Int))=>(((.exit 2),⟨[(0,.d (.sl (cM aE.cells a0))),(3,.d (.sl (cM cI r))),(4,dI p2)],[(6,none)]⟩):Ex × St)) (bV a0 p2 p3 p4):=by
 unfold i6 bV
 have u:=@H3
 exact pX
theorem A8 {β:Type} (a0:List aE) (p2:Int) (p3:List Int) (p4:Int) (k:Ex->St->Option β):bR TT rU (lW a0 p2 p3 p4) k = (gV a0 p2 p3 p4).bind (fun (r:(List Int))=>k (.exit 2) ⟨[(0,.d (.sl (cM aE.cells a0))),(3,.d (.sl (cM cI r))),(4,dI p2)],[(6,none)]⟩):=by
 have hh:=fun (w:(List Int) × Int)=>A0 a0 p2 w.1 w.2
 have h:=fun ho=>aZ (T:=TT) (k:=k) (c:=i6) (step:=(fun (w:(List Int) × Int)=>bV a0 p2 w.1 w.2)) _ _ ho hh (p3,p4)
 refine Eq.trans (h (fun r s e=>by have q:=congrArg Prod.fst e; rcases r with x <;> cases q)) ?_
 unfold gV
 exact aL _ fun x=>by rcases x with x <;> rfl
abbrev lV (a0:List aE) (p1:List Int) (p2:Int):St:=⟨[(0,.d (.sl (cM aE.cells a0))),(3,.d (.sl (cM cI p1))),(4,dI p2)],[(6,none)]⟩
theorem A7 (a0:List aE) (p1:List Int) (p2:Int):bR TT iZ (lV a0 p1 p2) (fun e s=>some (e,s)) = cH (fun (w:(List Int) × Int)=>lV a0 w.1 w.2) (fun (r:(List Int))=>(((.exit 0),⟨[(3,.d (.sl (cM cI r)))],[(6,none)]⟩):Ex × St)) (bK a0 p1 p2):=by
 unfold iZ bK
 have u:=@A8
 exact pX
theorem AZ {β:Type} (a0:List aE) (p1:List Int) (p2:Int) (k:Ex->St->Option β):bR TT rX (lV a0 p1 p2) k = (jP a0 p1 p2).bind (fun (r:(List Int))=>k (.exit 0) ⟨[(3,.d (.sl (cM cI r)))],[(6,none)]⟩):=by
 have hh:=fun (w:(List Int) × Int)=>A7 a0 w.1 w.2
 have h:=fun ho=>aZ (T:=TT) (k:=k) (c:=iZ) (step:=(fun (w:(List Int) × Int)=>bK a0 w.1 w.2)) _ _ ho hh (p1,p2)
 refine Eq.trans (h (fun r s e=>by have q:=congrArg Prod.fst e; rcases r with x <;> cases q)) ?_
 unfold jP
 exact aL _ fun x=>by rcases x with x <;> rfl
theorem EV (a0:List aE):Vm.call TT 22 [.sl (cM aE.cells a0)] = (gU a0).map fun (r:(List Int))=>.sl (cM cI r):=by
 refine (bH (show TT 22 = some (.code ⟨1,35,[.tmp 2],aOq,false,false⟩) from rfl) _ rfl rfl).trans ?_
 show bR TT aOq ⟨[(0,.d (.sl (cM aE.cells a0)))],[]⟩ _ = _
 unfold aOq gU
 have u:=@AZ
 exact pX
theorem ER (a0:List aE):KD TT 22 [.sl (cM aE.cells a0)] (gU a0) (fun (r:(List Int))=>.d (.sl (cM cI r))):=kD (EV a0) (fun _=>rfl) (fun _=>rfl) (fun _=>rfl)
abbrev pA (a0:Int) (a1:List aE) (p1:Int):St:=⟨[(0,dI a0),(1,.d (.sl (cM aE.cells a1))),(5,dI p1)],[]⟩
theorem EP (a0:Int) (a1:List aE) (p1:Int):bR TT kK (pA a0 a1 p1) (fun e s=>some (e,s)) = cH (fun (w:Int)=>pA a0 a1 w) (fun (r:Unit ⊕ Unit)=>Sum.elim (fun (z:Unit)=>(((.exit 0),⟨[(0,dI a0),(1,.d (.sl (cM aE.cells a1)))],[]⟩):Ex × St)) (fun (z:Unit)=>((.ret,⟨[(4,dB false)],[]⟩):Ex × St)) r) (bY a0 a1 p1):=by
 unfold kK bY
 exact IU
theorem EM {β:Type} (a0:Int) (a1:List aE) (p1:Int) (k:Ex->St->Option β):bR TT vE (pA a0 a1 p1) k = (mV a0 a1 p1).bind (fun (r:Unit ⊕ Unit)=>Sum.elim (fun (z:Unit)=>k (.exit 0) ⟨[(0,dI a0),(1,.d (.sl (cM aE.cells a1)))],[]⟩) (fun (z:Unit)=>k .ret ⟨[(4,dB false)],[]⟩) r):=by
 have hh:=fun (w:Int)=>EP a0 a1 w
 have h:=fun ho=>aZ (T:=TT) (k:=k) (c:=kK) (step:=(fun (w:Int)=>bY a0 a1 w)) _ _ ho hh p1
 refine Eq.trans (h (fun r s e=>by have q:=congrArg Prod.fst e; rcases r with x | x <;> cases q)) ?_
 unfold mV
 exact aL _ fun x=>by rcases x with x | x <;> rfl
theorem H9 (a0:Int) (a1:List aE):Vm.call TT 9 [.int .i64 a0,.sl (cM aE.cells a1)] = (j5 a0 a1).map fun (r:Bool)=>.bool r:=by
 refine (bH (show TT 9 = some (.code ⟨2,34,[.tmp 4],bd9,false,false⟩) from rfl) _ rfl rfl).trans ?_
 show bR TT bd9 ⟨[(0,dI a0),(1,.d (.sl (cM aE.cells a1)))],[]⟩ _ = _
 unfold bd9 j5
 have u:=aN (aN @EM @ER) (aN @xM @H4)
 exact pX
theorem IA (a0:Int) (a1:List aE):KF TT 9 [.int .i64 a0,.sl (cM aE.cells a1)] (j5 a0 a1) (fun (r:Bool)=>dB r):=kF (H9 a0 a1) (fun _=>rfl) (fun _=>rfl)
theorem xR (a0:Int) (a1:List aE):KD TT 10 [.int .i64 a0,.sl (cM aE.cells a1),.sl []] (dK a0 a1 []) (fun (r:(List Int) × (List Int) × Int)=>.tup [.d (.sl (cM cI r.1)),.d (.sl (cM cI r.2.1)),dI r.2.2]):=kD (yH a0 a1 []) (fun _=>rfl) (fun _=>rfl) (fun _=>rfl)
theorem xG {β:Type} (a1:List aE) (bl fz:List (Nat × Option aI)) (k:V->Option β) (kw:V->List (Nat × Option aI)->Option β):wC TT 39 bl 21 [.sl (cM aE.cells a1)] fz k kw = (gD a1).bind fun (r:(List Int))=>aY bl 100039 fun b=>fK b (kw (.own 100039 0) ((100039,some (.rows 0 3 1 (cM cI r))) :: fz)):=C5 (wT a1) fz
abbrev jM (a0:Int) (a1:List aE) (a2:Int) (r1:Bool) (r4:(List Int)) (r8:(List Int) × (List Int) × Int) (p11:Int):St:=⟨[(0,dI a0),(1,.d (.sl (cM aE.cells a1))),(2,.d (.int .u8 a2)),(7,dB r1),(8,.d (.sl (cM cI r4))),(15,.d (.sl (cM cI r8.1))),(18,dI p11)],[]⟩
theorem xU (a0:Int) (a1:List aE) (a2:Int) (r1:Bool) (r4:(List Int)) (r8:(List Int) × (List Int) × Int) (p11:Int):bR TT fY (jM a0 a1 a2 r1 r4 r8 p11) (fun e s=>some (e,s)) = cH (fun (w:Int)=>jM a0 a1 a2 r1 r4 r8 w) (fun (r:Unit ⊕ Unit)=>Sum.elim (fun (z:Unit)=>(((.exit 0),⟨[(0,dI a0),(1,.d (.sl (cM aE.cells a1))),(2,.d (.int .u8 a2)),(7,dB r1),(8,.d (.sl (cM cI r4))),(15,.d (.sl (cM cI r8.1)))],[]⟩):Ex × St)) (fun (z:Unit)=>((.ret,⟨[(6,dB false)],[]⟩):Ex × St)) r) (bG a0 a1 a2 r1 r4 r8 p11):=by
 unfold fY bG
 exact IU
theorem xX {β:Type} (a0:Int) (a1:List aE) (a2:Int) (r1:Bool) (r4:(List Int)) (r8:(List Int) × (List Int) × Int) (p11:Int) (k:Ex->St->Option β):bR TT oA (jM a0 a1 a2 r1 r4 r8 p11) k = (gY a0 a1 a2 r1 r4 r8 p11).bind (fun (r:Unit ⊕ Unit)=>Sum.elim (fun (z:Unit)=>k (.exit 0) ⟨[(0,dI a0),(1,.d (.sl (cM aE.cells a1))),(2,.d (.int .u8 a2)),(7,dB r1),(8,.d (.sl (cM cI r4))),(15,.d (.sl (cM cI r8.1)))],[]⟩) (fun (z:Unit)=>k .ret ⟨[(6,dB false)],[]⟩) r):=by
 have hh:=fun (w:Int)=>xU a0 a1 a2 r1 r4 r8 w
 have h:=fun ho=>aZ (T:=TT) (k:=k) (c:=fY) (step:=(fun (w:Int)=>bG a0 a1 a2 r1 r4 r8 w)) _ _ ho hh p11
 refine Eq.trans (h (fun r s e=>by have q:=congrArg Prod.fst e; rcases r with x | x <;> cases q)) ?_
 unfold gY
 exact aL _ fun x=>by rcases x with x | x <;> rfl
theorem AG (a0:Int) (a1:List aE) (a2:Int):Vm.call TT 4 [.int .i64 a0,.sl (cM aE.cells a1),.int .u8 a2] = (gB a0 a1 a2).map fun (r:Bool)=>.bool r:=by
 refine (bH (show TT 4 = some (.code ⟨3,164,[.tmp 6],bd4,false,false⟩) from rfl) _ rfl rfl).trans ?_
 show bR TT bd4 ⟨[(0,dI a0),(1,.d (.sl (cM aE.cells a1))),(2,.d (.int .u8 a2))],[]⟩ _ = _
 unfold bd4 gB
 have u:=aN (aN (aN @xX @FI) (aN @IA (aN @FB @pW))) (aN (aN @BC @xM) (aN @qG (aN @xR @xG)))
 exact pX
end Go.Proofs.Ytgjcnbgfaimepaa
