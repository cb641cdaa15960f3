/- The functions of the small machine compute the plain definitions. Printed by a program. -/
import Derived.Test.YtjjcaapdaldedaaLnk5
set_option linter.unusedVariables false
set_option linter.unusedSimpArgs false
namespace Go.Proofs.Ytjjcaapdaldedaa
open Vm
open Go.RowKit
set_option maxRecDepth 100000
set_option maxHeartbeats 4000000
attribute [local congr] u9 yL vJ yM
abbrev mV (a0:aG) (p1:Int):St:=⟨[(1,.ptr 1 0),(3,dI p1)],[(1,some (.box (aK a0.cells)))]⟩
theorem CP (a0:aG) (p1:Int):bD TT i6 (mV a0 p1) (fun e s=>some (e,s)) = bH (fun (w:Int)=>mV a0 w) (fun (r:Unit ⊕ Unit)=>Sum.elim (fun (z:Unit)=>(((.exit 0),⟨[(1,.ptr 1 0)],[(1,some (.box (aK a0.cells)))]⟩):Ex × St)) (fun (z:Unit)=>((.ret,⟨[(2,dB false)],[]⟩):Ex × St)) r) (cE a0 p1):=by
 unfold i6 cE
 have u:=@bJ
 exact i9
theorem CH {β:Type} (a0:aG) (p1:Int) (k:Ex->St->Option β):bD TT sJ (mV a0 p1) k = (jW a0 p1).bind (fun (r:Unit ⊕ Unit)=>Sum.elim (fun (z:Unit)=>k (.exit 0) ⟨[(1,.ptr 1 0)],[(1,some (.box (aK a0.cells)))]⟩) (fun (z:Unit)=>k .ret ⟨[(2,dB false)],[]⟩) r):=by
 have hh:=fun (w:Int)=>CP a0 w
 have h:=fun ho=>aU (T:=TT) (k:=k) (c:=i6) (step:=(fun (w:Int)=>cE a0 w)) _ _ ho hh p1
 refine Eq.trans (h (fun r s e=>by have q:=congrArg Prod.fst e; rcases r with x | x <;> cases q)) ?_
 unfold jW
 exact aH _ fun x=>by rcases x with x | x <;> rfl
abbrev mW (a0:aG) (p11:Int):St:=⟨[(1,.ptr 1 0),(4,dI p11)],[(1,some (.box (aK a0.cells)))]⟩
theorem CM (a0:aG) (p11:Int):bD TT i8 (mW a0 p11) (fun e s=>some (e,s)) = bH (fun (w:Int)=>mW a0 w) (fun (r:Unit ⊕ Unit)=>Sum.elim (fun (z:Unit)=>(((.exit 2),⟨[],[]⟩):Ex × St)) (fun (z:Unit)=>((.ret,⟨[(2,dB false)],[]⟩):Ex × St)) r) (cC a0 p11):=by
 unfold i8 cC
 have u:=@bJ
 exact i9
theorem CN {β:Type} (a0:aG) (p11:Int) (k:Ex->St->Option β):bD TT sM (mW a0 p11) k = (jY a0 p11).bind (fun (r:Unit ⊕ Unit)=>Sum.elim (fun (z:Unit)=>k (.exit 2) ⟨[],[]⟩) (fun (z:Unit)=>k .ret ⟨[(2,dB false)],[]⟩) r):=by
 have hh:=fun (w:Int)=>CM a0 w
 have h:=fun ho=>aU (T:=TT) (k:=k) (c:=i8) (step:=(fun (w:Int)=>cC a0 w)) _ _ ho hh p11
 refine Eq.trans (h (fun r s e=>by have q:=congrArg Prod.fst e; rcases r with x | x <;> cases q)) ?_
 unfold jY
 exact aH _ fun x=>by rcases x with x | x <;> rfl
theorem ED (a0:aG):Vm.call TT 64 [.agg a0.cells] = (gP a0).map fun (r:Bool)=>.bool r:=by
 refine (aR (show TT 64 = some (.code ⟨1,81,[.tmp 2],aL9,false,false⟩) from rfl) _ rfl rfl).trans ?_
 show bD TT aL9 ⟨[(0,fL a0.cells)],[]⟩ _ = _
 unfold aL9 gP
 have u:=aN @CH @CN
 exact i9
theorem EL (a0:aG):KF TT 64 [.agg a0.cells] (gP a0) (fun (r:Bool)=>dB r):=kF (ED a0) (fun _=>rfl) (fun _=>rfl)
abbrev pG (a0:aA) (p1:Int) (p2:List ByteArray):St:=⟨[(1,.ptr 1 0),(3,.own 25 0),(4,dI p1)],[(1,some (.box (aK a0.cells))),(25,some (.rows 0 9 1 (cM cS p2)))]⟩
theorem E7 (a0:aA) (p1:Int) (p2:List ByteArray):bD TT lR (pG a0 p1 p2) (fun e s=>some (e,s)) = bH (fun (w:Int × (List ByteArray))=>pG a0 w.1 w.2) (fun (r:Unit ⊕ Int)=>Sum.elim (fun (z:Unit)=>(((.exit 0),⟨[],[]⟩):Ex × St)) (fun (z:Int)=>((.ret,⟨[(2,dI z)],[]⟩):Ex × St)) r) (dV a0 p1 p2):=by
 unfold lR dV
 have u:=aN @pA @EL
 exact i9
theorem E6 {β:Type} (a0:aA) (p1:Int) (p2:List ByteArray) (k:Ex->St->Option β):bD TT vY (pG a0 p1 p2) k = (nF a0 p1 p2).bind (fun (r:Unit ⊕ Int)=>Sum.elim (fun (z:Unit)=>k (.exit 0) ⟨[],[]⟩) (fun (z:Int)=>k .ret ⟨[(2,dI z)],[]⟩) r):=by
 have hh:=fun (w:Int × (List ByteArray))=>E7 a0 w.1 w.2
 have h:=fun ho=>aU (T:=TT) (k:=k) (c:=lR) (step:=(fun (w:Int × (List ByteArray))=>dV a0 w.1 w.2)) _ _ ho hh (p1,p2)
 refine Eq.trans (h (fun r s e=>by have q:=congrArg Prod.fst e; rcases r with x | x <;> cases q)) ?_
 unfold nF
 exact aH _ fun x=>by rcases x with x | x <;> rfl
theorem JQ (a0:aA):Vm.call TT 47 [.agg a0.cells] = (jV a0).map fun (r:Int)=>.int .i64 r:=by
 refine (aR (show TT 47 = some (.code ⟨1,39,[.tmp 2],aMi,false,false⟩) from rfl) _ rfl rfl).trans ?_
 show bD TT aMi ⟨[(0,fL a0.cells)],[]⟩ _ = _
 unfold aMi jV
 have u:=@E6
 exact i9
theorem IK (a0:aA):KF TT 47 [.agg a0.cells] (jV a0) (fun (r:Int)=>dI r):=kF (JQ a0) (fun _=>rfl) (fun _=>rfl)
abbrev oZ (a0:aA) (p1:Int) (x2:aW) (p6:Int):St:=⟨[(1,.ptr 1 0),(3,dI p1),(4,.ptr 4 0),(5,dI p6)],[(1,some (.box (aK a0.cells))),(4,some (.box (aK x2.cells)))]⟩
theorem EE (a0:aA) (p1:Int) (x2:aW) (p6:Int):bD TT kE (oZ a0 p1 x2 p6) (fun e s=>some (e,s)) = bH (fun (w:Int)=>oZ a0 p1 x2 w) (fun (r:Unit ⊕ Unit)=>Sum.elim (fun (z:Unit)=>(((.exit 2),⟨[(1,.ptr 1 0),(3,dI p1)],[(1,some (.box (aK a0.cells)))]⟩):Ex × St)) (fun (z:Unit)=>((.ret,⟨[(2,dI 5)],[]⟩):Ex × St)) r) (dJ a0 p1 x2 p6):=by
 unfold kE dJ
 exact DF
theorem D2 {β:Type} (a0:aA) (p1:Int) (x2:aW) (p6:Int) (k:Ex->St->Option β):bD TT vL (oZ a0 p1 x2 p6) k = (mJ a0 p1 x2 p6).bind (fun (r:Unit ⊕ Unit)=>Sum.elim (fun (z:Unit)=>k (.exit 2) ⟨[(1,.ptr 1 0),(3,dI p1)],[(1,some (.box (aK a0.cells)))]⟩) (fun (z:Unit)=>k .ret ⟨[(2,dI 5)],[]⟩) r):=by
 have hh:=fun (w:Int)=>EE a0 p1 x2 w
 have h:=fun ho=>aU (T:=TT) (k:=k) (c:=kE) (step:=(fun (w:Int)=>dJ a0 p1 x2 w)) _ _ ho hh p6
 refine Eq.trans (h (fun r s e=>by have q:=congrArg Prod.fst e; rcases r with x | x <;> cases q)) ?_
 unfold mJ
 exact aH _ fun x=>by rcases x with x | x <;> rfl
abbrev oW (a0:aA) (p1:Int):St:=⟨[(1,.ptr 1 0),(3,dI p1)],[(1,some (.box (aK a0.cells)))]⟩
theorem EO (a0:aA) (p1:Int):bD TT kI (oW a0 p1) (fun e s=>some (e,s)) = bH (fun (w:Int)=>oW a0 w) (fun (r:Unit ⊕ Int)=>Sum.elim (fun (z:Unit)=>(((.exit 0),⟨[],[]⟩):Ex × St)) (fun (z:Int)=>((.ret,⟨[(2,dI z)],[]⟩):Ex × St)) r) (dN a0 p1):=by
 unfold kI dN
 have u:=aN @D2 @bJ
 exact i9
theorem DZ {β:Type} (a0:aA) (p1:Int) (k:Ex->St->Option β):bD TT vD (oW a0 p1) k = (qJ a0 p1).bind (fun (r:Unit ⊕ Int)=>Sum.elim (fun (z:Unit)=>k (.exit 0) ⟨[],[]⟩) (fun (z:Int)=>k .ret ⟨[(2,dI z)],[]⟩) r):=by
 have hh:=fun (w:Int)=>EO a0 w
 have h:=fun ho=>aU (T:=TT) (k:=k) (c:=kI) (step:=(fun (w:Int)=>dN a0 w)) _ _ ho hh p1
 refine Eq.trans (h (fun r s e=>by have q:=congrArg Prod.fst e; rcases r with x | x <;> cases q)) ?_
 unfold qJ
 exact aH _ fun x=>by rcases x with x | x <;> rfl
theorem HC (a0:aA):Vm.call TT 48 [.agg a0.cells] = (jB a0).map fun (r:Int)=>.int .i64 r:=by
 refine (aR (show TT 48 = some (.code ⟨1,71,[.tmp 2],aMG,false,false⟩) from rfl) _ rfl rfl).trans ?_
 show bD TT aMG ⟨[(0,fL a0.cells)],[]⟩ _ = _
 unfold aMG jB
 have u:=@DZ
 exact i9
theorem G4 (a0:aA):KF TT 48 [.agg a0.cells] (jB a0) (fun (r:Int)=>dI r):=kF (HC a0) (fun _=>rfl) (fun _=>rfl)
abbrev pH (a0:aA) (p1:Int):St:=⟨[(1,.ptr 1 0),(3,dI p1)],[(1,some (.box (aK a0.cells)))]⟩
theorem FC (a0:aA) (p1:Int):bD TT lL (pH a0 p1) (fun e s=>some (e,s)) = bH (fun (w:Int)=>pH a0 w) (fun (r:Unit ⊕ Unit)=>Sum.elim (fun (z:Unit)=>(((.exit 0),⟨[(1,.ptr 1 0)],[(1,some (.box (aK a0.cells)))]⟩):Ex × St)) (fun (z:Unit)=>((.ret,⟨[(2,dI 1)],[]⟩):Ex × St)) r) (dY a0 p1):=by
 unfold lL dY
 have u:=@bJ
 exact i9
theorem FD {β:Type} (a0:aA) (p1:Int) (k:Ex->St->Option β):bD TT wC (pH a0 p1) k = (nH a0 p1).bind (fun (r:Unit ⊕ Unit)=>Sum.elim (fun (z:Unit)=>k (.exit 0) ⟨[(1,.ptr 1 0)],[(1,some (.box (aK a0.cells)))]⟩) (fun (z:Unit)=>k .ret ⟨[(2,dI 1)],[]⟩) r):=by
 have hh:=fun (w:Int)=>FC a0 w
 have h:=fun ho=>aU (T:=TT) (k:=k) (c:=lL) (step:=(fun (w:Int)=>dY a0 w)) _ _ ho hh p1
 refine Eq.trans (h (fun r s e=>by have q:=congrArg Prod.fst e; rcases r with x | x <;> cases q)) ?_
 unfold nH
 exact aH _ fun x=>by rcases x with x | x <;> rfl
abbrev pD (a0:aA) (p11:Int):St:=⟨[(1,.ptr 1 0),(5,dI p11)],[(1,some (.box (aK a0.cells)))]⟩
theorem FJ (a0:aA) (p11:Int):bD TT lM (pD a0 p11) (fun e s=>some (e,s)) = bH (fun (w:Int)=>pD a0 w) (fun (r:Unit ⊕ Unit)=>Sum.elim (fun (z:Unit)=>(((.exit 2),⟨[],[]⟩):Ex × St)) (fun (z:Unit)=>((.ret,⟨[(2,dI 1)],[]⟩):Ex × St)) r) (d8 a0 p11):=by
 unfold lM d8
 have u:=@bJ
 exact i9
theorem FO {β:Type} (a0:aA) (p11:Int) (k:Ex->St->Option β):bD TT vZ (pD a0 p11) k = (nD a0 p11).bind (fun (r:Unit ⊕ Unit)=>Sum.elim (fun (z:Unit)=>k (.exit 2) ⟨[],[]⟩) (fun (z:Unit)=>k .ret ⟨[(2,dI 1)],[]⟩) r):=by
 have hh:=fun (w:Int)=>FJ a0 w
 have h:=fun ho=>aU (T:=TT) (k:=k) (c:=lM) (step:=(fun (w:Int)=>d8 a0 w)) _ _ ho hh p11
 refine Eq.trans (h (fun r s e=>by have q:=congrArg Prod.fst e; rcases r with x | x <;> cases q)) ?_
 unfold nD
 exact aH _ fun x=>by rcases x with x | x <;> rfl
theorem IY (a0:aA):Vm.call TT 49 [.agg a0.cells] = (jT a0).map fun (r:Int)=>.int .i64 r:=by
 refine (aR (show TT 49 = some (.code ⟨1,101,[.tmp 2],aL1,false,false⟩) from rfl) _ rfl rfl).trans ?_
 show bD TT aL1 ⟨[(0,fL a0.cells)],[]⟩ _ = _
 unfold aL1 jT
 have u:=aN @FD @FO
 exact i9
theorem IR (a0:aA):KF TT 49 [.agg a0.cells] (jT a0) (fun (r:Int)=>dI r):=kF (IY a0) (fun _=>rfl) (fun _=>rfl)
theorem GN {β:Type} (a0:aA) (p7:Int) (k:Ex->St->Option β):bD TT qN ⟨[(1,.ptr 1 0),(3,dI p7)],[(1,some (.box (aK a0.cells)))]⟩ k = (k6 a0 p7).bind (fun (r:Int)=>k .ret ⟨[(2,dI r)],[]⟩):=by
 unfold qN k6
 have u:=@IR
 exact i9
theorem GD {β:Type} (a0:aA) (p5:Int) (k:Ex->St->Option β):bD TT qI ⟨[(1,.ptr 1 0),(3,dI p5)],[(1,some (.box (aK a0.cells)))]⟩ k = (kQ a0 p5).bind (fun (r:Int)=>k .ret ⟨[(2,dI r)],[]⟩):=by
 unfold qI kQ
 have u:=aN @GN @G4
 exact i9
theorem F8 {β:Type} (a0:aA) (p3:Int) (k:Ex->St->Option β):bD TT qP ⟨[(1,.ptr 1 0),(3,dI p3)],[(1,some (.box (aK a0.cells)))]⟩ k = (kJ a0 p3).bind (fun (r:Int)=>k .ret ⟨[(2,dI r)],[]⟩):=by
 unfold qP kJ
 have u:=aN @GD @IK
 exact i9
theorem KI (a0:aA):Vm.call TT 20 [.agg a0.cells] = (dS a0).map fun (r:Int)=>.int .i64 r:=by
 refine (aR (show TT 20 = some (.code ⟨1,23,[.tmp 2],aKq,false,false⟩) from rfl) _ rfl rfl).trans ?_
 show bD TT aKq ⟨[(0,fL a0.cells)],[]⟩ _ = _
 unfold aKq dS
 have u:=aN @F8 (aN @I5 @KB)
 exact i9
theorem BH (a0:aA):KF TT 20 [.agg a0.cells] (dS a0) (fun (r:Int)=>dI r):=kF (KI a0) (fun _=>rfl) (fun _=>rfl)
abbrev pF (a0:aA) (a1:List Int) (p1:Int):St:=⟨[(1,.d (.sl (cM cI a1))),(2,.ptr 2 0),(5,dI p1)],[(2,some (.box (aK a0.cells)))]⟩
theorem FG (a0:aA) (a1:List Int) (p1:Int):bD TT lN (pF a0 a1 p1) (fun e s=>some (e,s)) = bH (fun (w:Int)=>pF a0 a1 w) (fun (r:Unit ⊕ Unit)=>Sum.elim (fun (z:Unit)=>(((.exit 0),⟨[(1,.d (.sl (cM cI a1)))],[]⟩):Ex × St)) (fun (z:Unit)=>((.ret,⟨[(4,dB false)],[]⟩):Ex × St)) r) (dX a0 a1 p1):=by
 unfold lN dX
 have u:=@bJ
 exact i9
theorem FE {β:Type} (a0:aA) (a1:List Int) (p1:Int) (k:Ex->St->Option β):bD TT wD (pF a0 a1 p1) k = (nL a0 a1 p1).bind (fun (r:Unit ⊕ Unit)=>Sum.elim (fun (z:Unit)=>k (.exit 0) ⟨[(1,.d (.sl (cM cI a1)))],[]⟩) (fun (z:Unit)=>k .ret ⟨[(4,dB false)],[]⟩) r):=by
 have hh:=fun (w:Int)=>FG a0 a1 w
 have h:=fun ho=>aU (T:=TT) (k:=k) (c:=lN) (step:=(fun (w:Int)=>dX a0 a1 w)) _ _ ho hh p1
 refine Eq.trans (h (fun r s e=>by have q:=congrArg Prod.fst e; rcases r with x | x <;> cases q)) ?_
 unfold nL
 exact aH _ fun x=>by rcases x with x | x <;> rfl
theorem JN (a0:aA) (a1:List Int):Vm.call TT 69 [.agg a0.cells,.sl (cM cI a1)] = (iD a0 a1).map fun (r:Bool)=>.bool r:=by
 refine (aR (show TT 69 = some (.code ⟨2,25,[.tmp 4],aLV,false,false⟩) from rfl) _ rfl rfl).trans ?_
 show bD TT aLV ⟨[(0,fL a0.cells),(1,.d (.sl (cM cI a1)))],[]⟩ _ = _
 unfold aLV iD
 have u:=@FE
 exact i9
theorem BA (a0:aA) (a1:List Int):KF TT 69 [.agg a0.cells,.sl (cM cI a1)] (iD a0 a1) (fun (r:Bool)=>dB r):=kF (JN a0 a1) (fun _=>rfl) (fun _=>rfl)
abbrev pE (a0:aG) (a1 p1:Int):St:=⟨[(1,dI a1),(2,.ptr 2 0),(4,.ptr 4 0),(5,dI p1)],[(2,some (.box (aK a0.cells))),(4,some (.box [dI 0,dI 0,dB false]))]⟩
theorem E3 (a0:aG) (a1 p1:Int):bD TT lQ (pE a0 a1 p1) (fun e s=>some (e,s)) = bH (fun (w:Int)=>pE a0 a1 w) (fun (r:Unit ⊕ aM)=>Sum.elim (fun (z:Unit)=>(((.exit 0),⟨[(1,dI a1),(4,.ptr 4 0)],[(4,some (.box [dI 0,dI 0,dB false]))]⟩):Ex × St)) (fun (z:aM)=>((.ret,⟨[(4,.ptr 4 0)],[(4,some (.box (aK z.cells)))]⟩):Ex × St)) r) (dU a0 a1 p1):=by
 unfold lQ dU
 exact DF
theorem FB {β:Type} (a0:aG) (a1 p1:Int) (k:Ex->St->Option β):bD TT wB (pE a0 a1 p1) k = (m4 a0 a1 p1).bind (fun (r:Unit ⊕ aM)=>Sum.elim (fun (z:Unit)=>k (.exit 0) ⟨[(1,dI a1),(4,.ptr 4 0)],[(4,some (.box [dI 0,dI 0,dB false]))]⟩) (fun (z:aM)=>k .ret ⟨[(4,.ptr 4 0)],[(4,some (.box (aK z.cells)))]⟩) r):=by
 have hh:=fun (w:Int)=>E3 a0 a1 w
 have h:=fun ho=>aU (T:=TT) (k:=k) (c:=lQ) (step:=(fun (w:Int)=>dU a0 a1 w)) _ _ ho hh p1
 refine Eq.trans (h (fun r s e=>by have q:=congrArg Prod.fst e; rcases r with x | x <;> cases q)) ?_
 unfold m4
 exact aH _ fun x=>by rcases x with x | x <;> rfl
theorem JL (a0:aG) (a1:Int):Vm.call TT 78 [.agg a0.cells,.int .i64 a1] = (jR a0 a1).map fun (r:aM)=>.agg r.cells:=by
 refine (aR (show TT 78 = some (.code ⟨2,28,[.cell 4 3 true],aNc,false,false⟩) from rfl) _ rfl rfl).trans ?_
 show bD TT aNc ⟨[(0,fL a0.cells),(1,dI a1)],[]⟩ _ = _
 unfold aNc jR
 have u:=@FB
 exact i9
theorem H8 (a0:aG) (a1:Int):KF TT 78 [.agg a0.cells,.int .i64 a1] (jR a0 a1) (fun (r:aM)=>fL r.cells):=kF (JL a0 a1) (fun _=>rfl) (fun _=>rfl)
theorem KA (a0:aA) (a1 a2:Int) (a3:List Int):Vm.call TT 70 [.agg a0.cells,.int .i64 a1,.int .i64 a2,.sl (cM cI a3)] = (k8 a0 a1 a2 a3).map fun (r:Int × Bool)=>.tup [.int .i64 r.1,.bool r.2]:=by
 refine (aR (show TT 70 = some (.code ⟨4,47,[.tmp 8,.tmp 9],aLS,false,false⟩) from rfl) _ rfl rfl).trans ?_
 show bD TT aLS ⟨[(0,fL a0.cells),(1,dI a1),(2,dI a2),(3,.d (.sl (cM cI a3)))],[]⟩ _ = _
 unfold aLS k8
 have u:=aN @bJ (aN @BA @H8)
 exact i9
theorem J8 (a0:aA) (a1 a2:Int) (a3:List Int):KF TT 70 [.agg a0.cells,.int .i64 a1,.int .i64 a2,.sl (cM cI a3)] (k8 a0 a1 a2 a3) (fun (r:Int × Bool)=>.tup [dI r.1,dB r.2]):=kF (KA a0 a1 a2 a3) (fun _=>rfl) (fun _=>rfl)
theorem H6 {β:Type} (a0:aA) (a2:Int) (a3:List Int) (p6:Int) (p7:List Bool) (p8:List Int) (r10:Int × Bool) (k:Ex->St->Option β):bD TT s7 ⟨[(2,dI a2),(3,.d (.sl (cM cI a3))),(4,.ptr 4 0),(10,.own 41 0),(11,.own 43 0),(12,dI p6),(13,dI r10.1)],[(4,some (.box (aK a0.cells))),(41,some (.rows 0 4 1 (cM cB p7))),(43,some (.rows 0 3 1 (cM cI (p8 ++ [r10.1]))))]⟩ k = (jS a0 a2 a3 p6 p7 p8 r10).bind (fun (r:Unit ⊕ Unit)=>Sum.elim (fun (z:Unit)=>k .normal ⟨[(2,dI a2),(3,.d (.sl (cM cI a3))),(4,.ptr 4 0),(10,.own 41 0),(11,.own 43 0),(12,dI p6)],[(4,some (.box (aK a0.cells))),(41,some (.rows 0 4 1 (cM cB (p7.set r10.1.toNat true)))),(43,some (.rows 0 3 1 (cM cI (p8 ++ [r10.1]))))]⟩) (fun (z:Unit)=>k .ret ⟨[(8,.own 43 0),(9,dI 12)],[(43,some (.rows 0 3 1 (cM cI (p8 ++ [r10.1]))))]⟩) r):=by
 unfold s7 jS
 exact DF
abbrev tC (a0:aA) (a2:Int) (a3:List Int) (p6:Int) (p7:List Bool) (p8:List Int):St:=⟨[(2,dI a2),(3,.d (.sl (cM cI a3))),(4,.ptr 4 0),(10,.own 41 0),(11,.own 43 0),(12,dI p6)],[(4,some (.box (aK a0.cells))),(41,some (.rows 0 4 1 (cM cB p7))),(43,some (.rows 0 3 1 (cM cI p8)))]⟩
theorem JJ (a0:aA) (a2:Int) (a3:List Int) (p6:Int) (p7:List Bool) (p8:List Int):bD TT oE (tC a0 a2 a3 p6 p7 p8) (fun e s=>some (e,s)) = bH (fun (w:Int × (List Bool) × (List Int))=>tC a0 a2 a3 w.1 w.2.1 w.2.2) (fun (r:((List Int)) ⊕ (Int × (List Int)))=>Sum.elim (fun (z:(List Int))=>(((.exit 0),⟨[(11,.own 43 0)],[(43,some (.rows 0 3 1 (cM cI z)))]⟩):Ex × St)) (fun (z:Int × (List Int))=>((.ret,⟨[(8,.own 43 0),(9,dI z.1)],[(43,some (.rows 0 3 1 (cM cI z.2)))]⟩):Ex × St)) r) (iQ a0 a2 a3 p6 p7 p8):=by
 unfold oE iQ
 have u:=aN @H6 @J8
 exact i9
theorem I9 {β:Type} (a0:aA) (a2:Int) (a3:List Int) (p6:Int) (p7:List Bool) (p8:List Int) (k:Ex->St->Option β):bD TT A0 (tC a0 a2 a3 p6 p7 p8) k = (mT a0 a2 a3 p6 p7 p8).bind (fun (r:((List Int)) ⊕ (Int × (List Int)))=>Sum.elim (fun (z:(List Int))=>k (.exit 0) ⟨[(11,.own 43 0)],[(43,some (.rows 0 3 1 (cM cI z)))]⟩) (fun (z:Int × (List Int))=>k .ret ⟨[(8,.own 43 0),(9,dI z.1)],[(43,some (.rows 0 3 1 (cM cI z.2)))]⟩) r):=by
 have hh:=fun (w:Int × (List Bool) × (List Int))=>JJ a0 a2 a3 w.1 w.2.1 w.2.2
 have h:=fun ho=>aU (T:=TT) (k:=k) (c:=oE) (step:=(fun (w:Int × (List Bool) × (List Int))=>iQ a0 a2 a3 w.1 w.2.1 w.2.2)) _ _ ho hh (p6,p7,p8)
 refine Eq.trans (h (fun r s e=>by have q:=congrArg Prod.fst e; rcases r with x | x <;> cases q)) ?_
 unfold mT
 exact aH _ fun x=>by rcases x with x | x <;> rfl
theorem L8 (a0:aA) (a1 a2:Int) (a3:List Int):Vm.call TT 55 [.agg a0.cells,.int .i64 a1,.int .i64 a2,.sl (cM cI a3)] = (iZ a0 a1 a2 a3).map fun (r:(List Int) × Int)=>.tup [.sl (cM cI r.1),.int .i64 r.2]:=by
 refine (aR (show TT 55 = some (.code ⟨4,105,[.tmp 8,.tmp 9],aM7,false,false⟩) from rfl) _ rfl rfl).trans ?_
 show bD TT aM7 ⟨[(0,fL a0.cells),(1,dI a1),(2,dI a2),(3,.d (.sl (cM cI a3)))],[]⟩ _ = _
 unfold aM7 iZ
 have u:=aN @I9 (aN @bJ @BA)
 exact i9
theorem NF (a0:aA) (a1 a2:Int) (a3:List Int):KD TT 55 [.agg a0.cells,.int .i64 a1,.int .i64 a2,.sl (cM cI a3)] (iZ a0 a1 a2 a3) (fun (r:(List Int) × Int)=>.tup [.d (.sl (cM cI r.1)),dI r.2]):=kD (L8 a0 a1 a2 a3) (fun _=>rfl) (fun _=>rfl) (fun _=>rfl)
abbrev rP (a0:aG) (a1 p1:Int):St:=⟨[(1,dI a1),(2,.ptr 2 0),(5,dI p1)],[(2,some (.box (aK a0.cells)))]⟩
theorem G7 (a0:aG) (a1 p1:Int):bD TT nM (rP a0 a1 p1) (fun e s=>some (e,s)) = bH (fun (w:Int)=>rP a0 a1 w) (fun (r:Unit ⊕ Int)=>Sum.elim (fun (z:Unit)=>(((.exit 0),⟨[],[]⟩):Ex × St)) (fun (z:Int)=>((.ret,⟨[(4,dI z)],[]⟩):Ex × St)) r) (fF a0 a1 p1):=by
 unfold nM fF
 exact DF
theorem HS {β:Type} (a0:aG) (a1 p1:Int) (k:Ex->St->Option β):bD TT zQ (rP a0 a1 p1) k = (o8 a0 a1 p1).bind (fun (r:Unit ⊕ Int)=>Sum.elim (fun (z:Unit)=>k (.exit 0) ⟨[],[]⟩) (fun (z:Int)=>k .ret ⟨[(4,dI z)],[]⟩) r):=by
 have hh:=fun (w:Int)=>G7 a0 a1 w
 have h:=fun ho=>aU (T:=TT) (k:=k) (c:=nM) (step:=(fun (w:Int)=>fF a0 a1 w)) _ _ ho hh p1
 refine Eq.trans (h (fun r s e=>by have q:=congrArg Prod.fst e; rcases r with x | x <;> cases q)) ?_
 unfold o8
 exact aH _ fun x=>by rcases x with x | x <;> rfl
theorem LQ (a0:aG) (a1:Int):Vm.call TT 56 [.agg a0.cells,.int .i64 a1] = (mA a0 a1).map fun (r:Int)=>.int .i64 r:=by
 refine (aR (show TT 56 = some (.code ⟨2,22,[.tmp 4],aKw,false,false⟩) from rfl) _ rfl rfl).trans ?_
 show bD TT aKw ⟨[(0,fL a0.cells),(1,dI a1)],[]⟩ _ = _
 unfold aKw mA
 have u:=@HS
 exact i9
theorem KO (a0:aG) (a1:Int):KF TT 56 [.agg a0.cells,.int .i64 a1] (mA a0 a1) (fun (r:Int)=>dI r):=kF (LQ a0 a1) (fun _=>rfl) (fun _=>rfl)
theorem KU (a0:aA) (a1 a2:Int) (a3:List Int):Vm.call TT 26 [.agg a0.cells,.int .i64 a1,.int .i64 a2,.sl (cM cI a3)] = (dL a0 a1 a2 a3).map fun (r:Int × (List Int))=>.tup [.int .i64 r.1,.sl (cM cI r.2)]:=by
 refine (aR (show TT 26 = some (.code ⟨4,46,[.tmp 8,.tmp 9],aMj,false,false⟩) from rfl) _ rfl rfl).trans ?_
 show bD TT aMj ⟨[(0,fL a0.cells),(1,dI a1),(2,dI a2),(3,.d (.sl (cM cI a3)))],[]⟩ _ = _
 unfold aMj dL
 have u:=aN @NF @KO
 exact i9
theorem uW (a0:aA) (a1 a2:Int) (a3:List Int):KD TT 26 [.agg a0.cells,.int .i64 a1,.int .i64 a2,.sl (cM cI a3)] (dL a0 a1 a2 a3) (fun (r:Int × (List Int))=>.tup [dI r.1,.d (.sl (cM cI r.2))]):=kD (KU a0 a1 a2 a3) (fun _=>rfl) (fun _=>rfl) (fun _=>rfl)
abbrev rY (a0 a1:List Int) (p1:Int):St:=⟨[(0,.d (.sl (cM cI a0))),(1,.d (.sl (cM cI a1))),(5,dI p1)],[]⟩
theorem G6 (a0 a1:List Int) (p1:Int):bD TT m6 (rY a0 a1 p1) (fun e s=>some (e,s)) = bH (fun (w:Int)=>rY a0 a1 w) (fun (r:Unit ⊕ Bool)=>Sum.elim (fun (z:Unit)=>(((.exit 0),⟨[(0,.d (.sl (cM cI a0))),(1,.d (.sl (cM cI a1)))],[]⟩):Ex × St)) (fun (z:Bool)=>((.ret,⟨[(4,dB z)],[]⟩):Ex × St)) r) (cH a0 a1 p1):=by
 unfold m6 cH
 exact DF
theorem HZ {β:Type} (a0 a1:List Int) (p1:Int) (k:Ex->St->Option β):bD TT zO (rY a0 a1 p1) k = (o7 a0 a1 p1).bind (fun (r:Unit ⊕ Bool)=>Sum.elim (fun (z:Unit)=>k (.exit 0) ⟨[(0,.d (.sl (cM cI a0))),(1,.d (.sl (cM cI a1)))],[]⟩) (fun (z:Bool)=>k .ret ⟨[(4,dB z)],[]⟩) r):=by
 have hh:=fun (w:Int)=>G6 a0 a1 w
 have h:=fun ho=>aU (T:=TT) (k:=k) (c:=m6) (step:=(fun (w:Int)=>cH a0 a1 w)) _ _ ho hh p1
 refine Eq.trans (h (fun r s e=>by have q:=congrArg Prod.fst e; rcases r with x | x <;> cases q)) ?_
 unfold o7
 exact aH _ fun x=>by rcases x with x | x <;> rfl
theorem K4 (a0 a1:List Int):Vm.call TT 65 [.sl (cM cI a0),.sl (cM cI a1)] = (eO a0 a1).map fun (r:Bool)=>.bool r:=by
 refine (aR (show TT 65 = some (.code ⟨2,41,[.tmp 4],aMs,false,false⟩) from rfl) _ rfl rfl).trans ?_
 show bD TT aMs ⟨[(0,.d (.sl (cM cI a0))),(1,.d (.sl (cM cI a1)))],[]⟩ _ = _
 unfold aMs eO
 have u:=@HZ
 exact i9
theorem LL (a0 a1:List Int):KF TT 65 [.sl (cM cI a0),.sl (cM cI a1)] (eO a0 a1) (fun (r:Bool)=>dB r):=kF (K4 a0 a1) (fun _=>rfl) (fun _=>rfl)
end Go.Proofs.Ytjjcaapdaldedaa
