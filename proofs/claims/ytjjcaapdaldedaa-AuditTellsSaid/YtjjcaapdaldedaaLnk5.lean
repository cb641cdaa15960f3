/- The functions of the small machine compute the plain definitions. Printed by a program. -/
import Derived.Test.YtjjcaapdaldedaaLnk4
set_option linter.unusedVariables false
set_option linter.unusedSimpArgs false
namespace Go.Proofs.Ytjjcaapdaldedaa
open Vm
open Go.RowKit
set_option maxRecDepth 100000
set_option maxHeartbeats 4000000
attribute [local congr] u9 yL vJ yM
theorem GM (r1:aA) (x3:aB):KF TT 11 [.agg r1.cells,.agg [.int .i64 x3.Kind,.int .i64 x3.Forum,.int .i64 x3.Ask,.sl (cM cI [0,1,1,1,1]),.sl (cM cI x3.Path)]] (fX r1 (aB.mk x3.Kind x3.Forum x3.Ask [0,1,1,1,1] x3.Path)) (fun (r:Bool)=>dB r):=kF (EX r1 (aB.mk x3.Kind x3.Forum x3.Ask [0,1,1,1,1] x3.Path)) (fun _=>rfl) (fun _=>rfl)
theorem GT (r1:aA) (x4:aB):KF TT 11 [.agg r1.cells,.agg [.int .i64 1,.int .i64 x4.Forum,.int .i64 x4.Ask,.sl (cM cI x4.Places),.sl (cM cI x4.Path)]] (fX r1 (aB.mk 1 x4.Forum x4.Ask x4.Places x4.Path)) (fun (r:Bool)=>dB r):=kF (EX r1 (aB.mk 1 x4.Forum x4.Ask x4.Places x4.Path)) (fun _=>rfl) (fun _=>rfl)
theorem GO:KF TT 13 [.agg [.sl [],.sl [],.sl [],.sl [],.sl [],.sl [],.sl [],.sl []]] (oA (aA.mk [] [] [] [] [] [] [] [])) (fun (r:Bool)=>dB r):=kF (LD (aA.mk [] [] [] [] [] [] [] [])) (fun _=>rfl) (fun _=>rfl)
theorem BE:Vm.call TT 6 [] = (iV).map fun (r:Bool)=>.bool r:=by
 refine (aR (show TT 6 = some (.code ⟨0,81,[.tmp 0],bd6,false,false⟩) from rfl) _ rfl rfl).trans ?_
 show bD TT bd6 ⟨[],[]⟩ _ = _
 unfold bd6 iV
 have u:=aN (aN (aN @EB @y9) (aN @LB @K2)) (aN (aN @HO @GM) (aN @GT @GO))
 exact i9
theorem J2:KF TT 6 [] (iV) (fun (r:Bool)=>dB r):=kF (BE ) (fun _=>rfl) (fun _=>rfl)
abbrev sV (a0:aA) (p1:Int):St:=⟨[(1,.ptr 1 0),(3,dI p1)],[(1,some (.box (aK a0.cells)))]⟩
theorem JP (a0:aA) (p1:Int):bD TT oC (sV a0 p1) (fun e s=>some (e,s)) = bH (fun (w:Int)=>sV a0 w) (fun (r:Unit ⊕ Unit)=>Sum.elim (fun (z:Unit)=>(((.exit 0),⟨[(1,.ptr 1 0)],[(1,some (.box (aK a0.cells)))]⟩):Ex × St)) (fun (z:Unit)=>((.ret,⟨[(2,dB false)],[]⟩):Ex × St)) r) (fY a0 p1):=by
 unfold oC fY
 exact DF
theorem JA {β:Type} (a0:aA) (p1:Int) (k:Ex->St->Option β):bD TT AL (sV a0 p1) k = (qC a0 p1).bind (fun (r:Unit ⊕ Unit)=>Sum.elim (fun (z:Unit)=>k (.exit 0) ⟨[(1,.ptr 1 0)],[(1,some (.box (aK a0.cells)))]⟩) (fun (z:Unit)=>k .ret ⟨[(2,dB false)],[]⟩) r):=by
 have hh:=fun (w:Int)=>JP a0 w
 have h:=fun ho=>aU (T:=TT) (k:=k) (c:=oC) (step:=(fun (w:Int)=>fY a0 w)) _ _ ho hh p1
 refine Eq.trans (h (fun r s e=>by have q:=congrArg Prod.fst e; rcases r with x | x <;> cases q)) ?_
 unfold qC
 exact aH _ fun x=>by rcases x with x | x <;> rfl
abbrev tF (a0:aA) (p8:Int):St:=⟨[(1,.ptr 1 0),(4,dI p8)],[(1,some (.box (aK a0.cells)))]⟩
theorem I0 (a0:aA) (p8:Int):bD TT n8 (tF a0 p8) (fun e s=>some (e,s)) = bH (fun (w:Int)=>tF a0 w) (fun (r:Unit ⊕ Unit)=>Sum.elim (fun (z:Unit)=>(((.exit 2),⟨[(1,.ptr 1 0)],[(1,some (.box (aK a0.cells)))]⟩):Ex × St)) (fun (z:Unit)=>((.ret,⟨[(2,dB false)],[]⟩):Ex × St)) r) (fZ a0 p8):=by
 unfold n8 fZ
 exact DF
theorem JS {β:Type} (a0:aA) (p8:Int) (k:Ex->St->Option β):bD TT AQ (tF a0 p8) k = (pQ a0 p8).bind (fun (r:Unit ⊕ Unit)=>Sum.elim (fun (z:Unit)=>k (.exit 2) ⟨[(1,.ptr 1 0)],[(1,some (.box (aK a0.cells)))]⟩) (fun (z:Unit)=>k .ret ⟨[(2,dB false)],[]⟩) r):=by
 have hh:=fun (w:Int)=>I0 a0 w
 have h:=fun ho=>aU (T:=TT) (k:=k) (c:=n8) (step:=(fun (w:Int)=>fZ a0 w)) _ _ ho hh p8
 refine Eq.trans (h (fun r s e=>by have q:=congrArg Prod.fst e; rcases r with x | x <;> cases q)) ?_
 unfold pQ
 exact aH _ fun x=>by rcases x with x | x <;> rfl
theorem NL (a0:aA):Vm.call TT 17 [.agg a0.cells] = (m7 a0).map fun (r:Bool)=>.bool r:=by
 refine (aR (show TT 17 = some (.code ⟨1,119,[.tmp 2],aMe,false,false⟩) from rfl) _ rfl rfl).trans ?_
 show bD TT aMe ⟨[(0,fL a0.cells)],[]⟩ _ = _
 unfold aMe m7
 have u:=aN @JA @JS
 exact i9
theorem MJ (a0:aA):KF TT 17 [.agg a0.cells] (m7 a0) (fun (r:Bool)=>dB r):=kF (NL a0) (fun _=>rfl) (fun _=>rfl)
theorem MU (a0:aA):Vm.call TT 7 [.agg a0.cells] = (nE a0).map fun (r:Bool)=>.bool r:=by
 refine (aR (show TT 7 = some (.code ⟨1,11,[.tmp 2],bd7,false,false⟩) from rfl) _ rfl rfl).trans ?_
 show bD TT bd7 ⟨[(0,fL a0.cells)],[]⟩ _ = _
 unfold bd7 nE
 have u:=@MJ
 exact i9
theorem MH (a0:aA):KF TT 7 [.agg a0.cells] (nE a0) (fun (r:Bool)=>dB r):=kF (MU a0) (fun _=>rfl) (fun _=>rfl)
theorem I7 (a0:Int):Vm.call TT 81 [.int .u8 a0] = (jU a0).map fun (r:Bool)=>.bool r:=by
 refine (aR (show TT 81 = some (.code ⟨1,17,[.tmp 2],aLb,false,false⟩) from rfl) _ rfl rfl).trans ?_
 show bD TT aLb ⟨[(0,.d (.int .u8 a0))],[]⟩ _ = _
 unfold aLb jU
 exact DF
theorem IA (a0:Int):KF TT 81 [.int .u8 a0] (jU a0) (fun (r:Bool)=>dB r):=kF (I7 a0) (fun _=>rfl) (fun _=>rfl)
theorem G3 {β:Type} (a0:ByteArray) (p1:Int) (p5:Bool) (k:Ex->St->Option β):bD TT sB ⟨[(0,.d (.str a0)),(3,dI p1),(4,dB p5)],[]⟩ k = (gU a0 p1 p5).bind (fun (r:Unit ⊕ Unit)=>Sum.elim (fun (z:Unit)=>k .normal ⟨[(0,.d (.str a0)),(3,dI p1)],[]⟩) (fun (z:Unit)=>k .ret ⟨[(2,dB false)],[]⟩) r):=by
 unfold sB gU
 have u:=@IA
 exact i9
abbrev rN (a0:ByteArray) (p1:Int):St:=⟨[(0,.d (.str a0)),(3,dI p1)],[]⟩
theorem H3 (a0:ByteArray) (p1:Int):bD TT nA (rN a0 p1) (fun e s=>some (e,s)) = bH (fun (w:Int)=>rN a0 w) (fun (r:Unit ⊕ Unit)=>Sum.elim (fun (z:Unit)=>(((.exit 0),⟨[],[]⟩):Ex × St)) (fun (z:Unit)=>((.ret,⟨[(2,dB false)],[]⟩):Ex × St)) r) (fE a0 p1):=by
 unfold nA fE
 have u:=@G3
 exact i9
theorem HY {β:Type} (a0:ByteArray) (p1:Int) (k:Ex->St->Option β):bD TT yZ (rN a0 p1) k = (o9 a0 p1).bind (fun (r:Unit ⊕ Unit)=>Sum.elim (fun (z:Unit)=>k (.exit 0) ⟨[],[]⟩) (fun (z:Unit)=>k .ret ⟨[(2,dB false)],[]⟩) r):=by
 have hh:=fun (w:Int)=>H3 a0 w
 have h:=fun ho=>aU (T:=TT) (k:=k) (c:=nA) (step:=(fun (w:Int)=>fE a0 w)) _ _ ho hh p1
 refine Eq.trans (h (fun r s e=>by have q:=congrArg Prod.fst e; rcases r with x | x <;> cases q)) ?_
 unfold o9
 exact aH _ fun x=>by rcases x with x | x <;> rfl
theorem LJ (a0:ByteArray):Vm.call TT 74 [.str a0] = (mB a0).map fun (r:Bool)=>.bool r:=by
 refine (aR (show TT 74 = some (.code ⟨1,48,[.tmp 2],aMM,false,false⟩) from rfl) _ rfl rfl).trans ?_
 show bD TT aMM ⟨[(0,.d (.str a0))],[]⟩ _ = _
 unfold aMM mB
 have u:=@HY
 exact i9
theorem LH (a0:ByteArray):KF TT 74 [.str a0] (mB a0) (fun (r:Bool)=>dB r):=kF (LJ a0) (fun _=>rfl) (fun _=>rfl)
abbrev pL (a0:List ByteArray) (a1:Int) (a2:ByteArray) (p1:Int):St:=⟨[(0,.d (.sl (cM cS a0))),(1,dI a1),(2,.d (.str a2)),(7,dI p1)],[]⟩
theorem E5 (a0:List ByteArray) (a1:Int) (a2:ByteArray) (p1:Int):bD TT lO (pL a0 a1 a2 p1) (fun e s=>some (e,s)) = bH (fun (w:Int)=>pL a0 a1 a2 w) (fun (r:Unit ⊕ Unit)=>Sum.elim (fun (z:Unit)=>(((.exit 0),⟨[],[]⟩):Ex × St)) (fun (z:Unit)=>((.ret,⟨[(6,dB true)],[]⟩):Ex × St)) r) (d9 a0 a1 a2 p1):=by
 unfold lO d9
 exact DF
theorem FI {β:Type} (a0:List ByteArray) (a1:Int) (a2:ByteArray) (p1:Int) (k:Ex->St->Option β):bD TT wE (pL a0 a1 a2 p1) k = (m0 a0 a1 a2 p1).bind (fun (r:Unit ⊕ Unit)=>Sum.elim (fun (z:Unit)=>k (.exit 0) ⟨[],[]⟩) (fun (z:Unit)=>k .ret ⟨[(6,dB true)],[]⟩) r):=by
 have hh:=fun (w:Int)=>E5 a0 a1 a2 w
 have h:=fun ho=>aU (T:=TT) (k:=k) (c:=lO) (step:=(fun (w:Int)=>d9 a0 a1 a2 w)) _ _ ho hh p1
 refine Eq.trans (h (fun r s e=>by have q:=congrArg Prod.fst e; rcases r with x | x <;> cases q)) ?_
 unfold m0
 exact aH _ fun x=>by rcases x with x | x <;> rfl
theorem IG (a0:List ByteArray) (a1:Int) (a2:ByteArray):Vm.call TT 75 [.sl (cM cS a0),.int .i64 a1,.str a2] = (jQ a0 a1 a2).map fun (r:Bool)=>.bool r:=by
 refine (aR (show TT 75 = some (.code ⟨3,25,[.tmp 6],aKZ,false,false⟩) from rfl) _ rfl rfl).trans ?_
 show bD TT aKZ ⟨[(0,.d (.sl (cM cS a0))),(1,dI a1),(2,.d (.str a2))],[]⟩ _ = _
 unfold aKZ jQ
 have u:=@FI
 exact i9
theorem IW (a0:List ByteArray) (a1:Int) (a2:ByteArray):KF TT 75 [.sl (cM cS a0),.int .i64 a1,.str a2] (jQ a0 a1 a2) (fun (r:Bool)=>dB r):=kF (IG a0 a1 a2) (fun _=>rfl) (fun _=>rfl)
theorem KH (a0:List ByteArray) (a1:Int):Vm.call TT 61 [.sl (cM cS a0),.int .i64 a1] = (cZ a0 a1).map fun (r:Int)=>.int .i64 r:=by
 refine (aR (show TT 61 = some (.code ⟨2,18,[.tmp 4],aLy,false,false⟩) from rfl) _ rfl rfl).trans ?_
 show bD TT aLy ⟨[(0,.d (.sl (cM cS a0))),(1,dI a1)],[]⟩ _ = _
 unfold aLy cZ
 have u:=aN @LH @IW
 exact i9
theorem pA (a0:List ByteArray) (a1:Int):KF TT 61 [.sl (cM cS a0),.int .i64 a1] (cZ a0 a1) (fun (r:Int)=>dI r):=kF (KH a0 a1) (fun _=>rfl) (fun _=>rfl)
theorem H9 (a0 a1 a2:Int):Vm.call TT 63 [.int .i64 a0,.int .i64 a1,.int .i64 a2] = (aL a0 a1 a2).map fun (r:Bool)=>.bool r:=by
 refine (aR (show TT 63 = some (.code ⟨3,15,[.tmp 6],aMK,false,false⟩) from rfl) _ rfl rfl).trans ?_
 show bD TT aMK ⟨[(0,dI a0),(1,dI a1),(2,dI a2)],[]⟩ _ = _
 unfold aMK aL
 exact DF
theorem bJ (a0 a1 a2:Int):KF TT 63 [.int .i64 a0,.int .i64 a1,.int .i64 a2] (aL a0 a1 a2) (fun (r:Bool)=>dB r):=kF (H9 a0 a1 a2) (fun _=>rfl) (fun _=>rfl)
abbrev pK (a0:List Int) (a1 a2 p1:Int):St:=⟨[(0,.d (.sl (cM cI a0))),(1,dI a1),(2,dI a2),(7,dI p1)],[]⟩
theorem FM (a0:List Int) (a1 a2 p1:Int):bD TT lT (pK a0 a1 a2 p1) (fun e s=>some (e,s)) = bH (fun (w:Int)=>pK a0 a1 a2 w) (fun (r:Unit ⊕ Unit)=>Sum.elim (fun (z:Unit)=>(((.exit 0),⟨[],[]⟩):Ex × St)) (fun (z:Unit)=>((.ret,⟨[(6,dB false)],[]⟩):Ex × St)) r) (eA a0 a1 a2 p1):=by
 unfold lT eA
 have u:=@bJ
 exact i9
theorem FL {β:Type} (a0:List Int) (a1 a2 p1:Int) (k:Ex->St->Option β):bD TT vX (pK a0 a1 a2 p1) k = (nO a0 a1 a2 p1).bind (fun (r:Unit ⊕ Unit)=>Sum.elim (fun (z:Unit)=>k (.exit 0) ⟨[],[]⟩) (fun (z:Unit)=>k .ret ⟨[(6,dB false)],[]⟩) r):=by
 have hh:=fun (w:Int)=>FM a0 a1 a2 w
 have h:=fun ho=>aU (T:=TT) (k:=k) (c:=lT) (step:=(fun (w:Int)=>eA a0 a1 a2 w)) _ _ ho hh p1
 refine Eq.trans (h (fun r s e=>by have q:=congrArg Prod.fst e; rcases r with x | x <;> cases q)) ?_
 unfold nO
 exact aH _ fun x=>by rcases x with x | x <;> rfl
theorem I4 (a0:List Int) (a1 a2:Int):Vm.call TT 76 [.sl (cM cI a0),.int .i64 a1,.int .i64 a2] = (fT a0 a1 a2).map fun (r:Bool)=>.bool r:=by
 refine (aR (show TT 76 = some (.code ⟨3,36,[.tmp 6],aMh,false,false⟩) from rfl) _ rfl rfl).trans ?_
 show bD TT aMh ⟨[(0,.d (.sl (cM cI a0))),(1,dI a1),(2,dI a2)],[]⟩ _ = _
 unfold aMh fT
 have u:=@FL
 exact i9
theorem JE (a0:List Int) (a1 a2:Int):KF TT 76 [.sl (cM cI a0),.int .i64 a1,.int .i64 a2] (fT a0 a1 a2) (fun (r:Bool)=>dB r):=kF (I4 a0 a1 a2) (fun _=>rfl) (fun _=>rfl)
abbrev nS (a1:a7) (p3:Int):St:=⟨[(3,.ptr 3 0),(5,dI p3)],[(3,some (.box (aK a1.cells)))]⟩
theorem CX (a1:a7) (p3:Int):bD TT jI (nS a1 p3) (fun e s=>some (e,s)) = bH (fun (w:Int)=>nS a1 w) (fun (r:Unit ⊕ Unit)=>Sum.elim (fun (z:Unit)=>(((.exit 0),⟨[(3,.ptr 3 0)],[(3,some (.box (aK a1.cells)))]⟩):Ex × St)) (fun (z:Unit)=>((.ret,⟨[(4,dB false)],[]⟩):Ex × St)) r) (cU a1 p3):=by
 unfold jI cU
 have u:=@bJ
 exact i9
theorem CW {β:Type} (a1:a7) (p3:Int) (k:Ex->St->Option β):bD TT tS (nS a1 p3) k = (kT a1 p3).bind (fun (r:Unit ⊕ Unit)=>Sum.elim (fun (z:Unit)=>k (.exit 0) ⟨[(3,.ptr 3 0)],[(3,some (.box (aK a1.cells)))]⟩) (fun (z:Unit)=>k .ret ⟨[(4,dB false)],[]⟩) r):=by
 have hh:=fun (w:Int)=>CX a1 w
 have h:=fun ho=>aU (T:=TT) (k:=k) (c:=jI) (step:=(fun (w:Int)=>cU a1 w)) _ _ ho hh p3
 refine Eq.trans (h (fun r s e=>by have q:=congrArg Prod.fst e; rcases r with x | x <;> cases q)) ?_
 unfold kT
 exact aH _ fun x=>by rcases x with x | x <;> rfl
theorem FH (a0:aA) (a1:a7):Vm.call TT 62 [.agg a0.cells,.agg a1.cells] = (hY a0 a1).map fun (r:Bool)=>.bool r:=by
 refine (aR (show TT 62 = some (.code ⟨2,74,[.tmp 4],aNp,false,false⟩) from rfl) _ rfl rfl).trans ?_
 show bD TT aNp ⟨[(0,fL a0.cells),(1,fL a1.cells)],[]⟩ _ = _
 unfold aNp hY
 have u:=aN @CW (aN @bJ @JE)
 exact i9
theorem FK (a0:aA) (a1:a7):KF TT 62 [.agg a0.cells,.agg a1.cells] (hY a0 a1) (fun (r:Bool)=>dB r):=kF (FH a0 a1) (fun _=>rfl) (fun _=>rfl)
abbrev pI (a0:aA) (p1:Int):St:=⟨[(1,.ptr 1 0),(3,dI p1)],[(1,some (.box (aK a0.cells)))]⟩
theorem E8 (a0:aA) (p1:Int):bD TT lP (pI a0 p1) (fun e s=>some (e,s)) = bH (fun (w:Int)=>pI a0 w) (fun (r:Unit ⊕ Int)=>Sum.elim (fun (z:Unit)=>(((.exit 0),⟨[(1,.ptr 1 0)],[(1,some (.box (aK a0.cells)))]⟩):Ex × St)) (fun (z:Int)=>((.ret,⟨[(2,dI z)],[]⟩):Ex × St)) r) (dZ a0 p1):=by
 unfold lP dZ
 have u:=@pA
 exact i9
theorem E9 {β:Type} (a0:aA) (p1:Int) (k:Ex->St->Option β):bD TT wA (pI a0 p1) k = (nC a0 p1).bind (fun (r:Unit ⊕ Int)=>Sum.elim (fun (z:Unit)=>k (.exit 0) ⟨[(1,.ptr 1 0)],[(1,some (.box (aK a0.cells)))]⟩) (fun (z:Int)=>k .ret ⟨[(2,dI z)],[]⟩) r):=by
 have hh:=fun (w:Int)=>E8 a0 w
 have h:=fun ho=>aU (T:=TT) (k:=k) (c:=lP) (step:=(fun (w:Int)=>dZ a0 w)) _ _ ho hh p1
 refine Eq.trans (h (fun r s e=>by have q:=congrArg Prod.fst e; rcases r with x | x <;> cases q)) ?_
 unfold nC
 exact aH _ fun x=>by rcases x with x | x <;> rfl
abbrev pC (a0:aA) (p7:Int) (p8:List ByteArray):St:=⟨[(1,.ptr 1 0),(5,.own 45 0),(6,dI p7)],[(1,some (.box (aK a0.cells))),(45,some (.rows 0 9 1 (cM cS p8)))]⟩
theorem FN (a0:aA) (p7:Int) (p8:List ByteArray):bD TT lU (pC a0 p7 p8) (fun e s=>some (e,s)) = bH (fun (w:Int × (List ByteArray))=>pC a0 w.1 w.2) (fun (r:Unit ⊕ Int)=>Sum.elim (fun (z:Unit)=>(((.exit 2),⟨[],[]⟩):Ex × St)) (fun (z:Int)=>((.ret,⟨[(2,dI z)],[]⟩):Ex × St)) r) (dW a0 p7 p8):=by
 unfold lU dW
 have u:=aN @pA @FK
 exact i9
theorem E4 {β:Type} (a0:aA) (p7:Int) (p8:List ByteArray) (k:Ex->St->Option β):bD TT v9 (pC a0 p7 p8) k = (mZ a0 p7 p8).bind (fun (r:Unit ⊕ Int)=>Sum.elim (fun (z:Unit)=>k (.exit 2) ⟨[],[]⟩) (fun (z:Int)=>k .ret ⟨[(2,dI z)],[]⟩) r):=by
 have hh:=fun (w:Int × (List ByteArray))=>FN a0 w.1 w.2
 have h:=fun ho=>aU (T:=TT) (k:=k) (c:=lU) (step:=(fun (w:Int × (List ByteArray))=>dW a0 w.1 w.2)) _ _ ho hh (p7,p8)
 refine Eq.trans (h (fun r s e=>by have q:=congrArg Prod.fst e; rcases r with x | x <;> cases q)) ?_
 unfold mZ
 exact aH _ fun x=>by rcases x with x | x <;> rfl
theorem JD (a0:aA):Vm.call TT 45 [.agg a0.cells] = (jP a0).map fun (r:Int)=>.int .i64 r:=by
 refine (aR (show TT 45 = some (.code ⟨1,60,[.tmp 2],aNv,false,false⟩) from rfl) _ rfl rfl).trans ?_
 show bD TT aNv ⟨[(0,fL a0.cells)],[]⟩ _ = _
 unfold aNv jP
 have u:=aN @E9 @E4
 exact i9
theorem I5 (a0:aA):KF TT 45 [.agg a0.cells] (jP a0) (fun (r:Int)=>dI r):=kF (JD a0) (fun _=>rfl) (fun _=>rfl)
abbrev qL (a0:aA) (p1:Int):St:=⟨[(1,.ptr 1 0),(3,dI p1)],[(1,some (.box (aK a0.cells)))]⟩
theorem F7 (a0:aA) (p1:Int):bD TT mL (qL a0 p1) (fun e s=>some (e,s)) = bH (fun (w:Int)=>qL a0 w) (fun (r:Unit ⊕ Unit)=>Sum.elim (fun (z:Unit)=>(((.exit 0),⟨[(1,.ptr 1 0)],[(1,some (.box (aK a0.cells)))]⟩):Ex × St)) (fun (z:Unit)=>((.ret,⟨[(2,dI 1)],[]⟩):Ex × St)) r) (eL a0 p1):=by
 unfold mL eL
 have u:=@bJ
 exact i9
theorem GA {β:Type} (a0:aA) (p1:Int) (k:Ex->St->Option β):bD TT xR (qL a0 p1) k = (oB a0 p1).bind (fun (r:Unit ⊕ Unit)=>Sum.elim (fun (z:Unit)=>k (.exit 0) ⟨[(1,.ptr 1 0)],[(1,some (.box (aK a0.cells)))]⟩) (fun (z:Unit)=>k .ret ⟨[(2,dI 1)],[]⟩) r):=by
 have hh:=fun (w:Int)=>F7 a0 w
 have h:=fun ho=>aU (T:=TT) (k:=k) (c:=mL) (step:=(fun (w:Int)=>eL a0 w)) _ _ ho hh p1
 refine Eq.trans (h (fun r s e=>by have q:=congrArg Prod.fst e; rcases r with x | x <;> cases q)) ?_
 unfold oB
 exact aH _ fun x=>by rcases x with x | x <;> rfl
abbrev qM (a0:aA) (p7:Int) (p8:List ByteArray):St:=⟨[(1,.ptr 1 0),(4,.own 45 0),(5,dI p7)],[(1,some (.box (aK a0.cells))),(45,some (.rows 0 9 1 (cM cS p8)))]⟩
theorem GY (a0:aA) (p7:Int) (p8:List ByteArray):bD TT mK (qM a0 p7 p8) (fun e s=>some (e,s)) = bH (fun (w:Int × (List ByteArray))=>qM a0 w.1 w.2) (fun (r:Unit ⊕ Int)=>Sum.elim (fun (z:Unit)=>(((.exit 2),⟨[],[]⟩):Ex × St)) (fun (z:Int)=>((.ret,⟨[(2,dI z)],[]⟩):Ex × St)) r) (eD a0 p7 p8):=by
 unfold mK eD
 have u:=aN @pA @bJ
 exact i9
theorem GV {β:Type} (a0:aA) (p7:Int) (p8:List ByteArray) (k:Ex->St->Option β):bD TT xO (qM a0 p7 p8) k = (n9 a0 p7 p8).bind (fun (r:Unit ⊕ Int)=>Sum.elim (fun (z:Unit)=>k (.exit 2) ⟨[],[]⟩) (fun (z:Int)=>k .ret ⟨[(2,dI z)],[]⟩) r):=by
 have hh:=fun (w:Int × (List ByteArray))=>GY a0 w.1 w.2
 have h:=fun ho=>aU (T:=TT) (k:=k) (c:=mK) (step:=(fun (w:Int × (List ByteArray))=>eD a0 w.1 w.2)) _ _ ho hh (p7,p8)
 refine Eq.trans (h (fun r s e=>by have q:=congrArg Prod.fst e; rcases r with x | x <;> cases q)) ?_
 unfold n9
 exact aH _ fun x=>by rcases x with x | x <;> rfl
theorem J1 (a0:aA):Vm.call TT 46 [.agg a0.cells] = (lE a0).map fun (r:Int)=>.int .i64 r:=by
 refine (aR (show TT 46 = some (.code ⟨1,78,[.tmp 2],aNo,false,false⟩) from rfl) _ rfl rfl).trans ?_
 show bD TT aNo ⟨[(0,fL a0.cells)],[]⟩ _ = _
 unfold aNo lE
 have u:=aN @GA @GV
 exact i9
theorem KB (a0:aA):KF TT 46 [.agg a0.cells] (lE a0) (fun (r:Int)=>dI r):=kF (J1 a0) (fun _=>rfl) (fun _=>rfl)
end Go.Proofs.Ytjjcaapdaldedaa
