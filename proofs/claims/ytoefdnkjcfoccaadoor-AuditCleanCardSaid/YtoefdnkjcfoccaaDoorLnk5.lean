/- Code and answers agree. -/
import Derived.Test.YtoefdnkjcfoccaaDoorLnk4
set_option linter.unusedVariables false
set_option linter.unusedSimpArgs false
namespace Go.Proofs.YtoefdnkjcfoccaaDoor
open Vm
open Go.RowKit
set_option maxRecDepth 100000
set_option maxHeartbeats 4000000
attribute [local congr] qD s6 qG s9
theorem E1 (r1:aB) (x3:aA):KF TT 12 [.agg r1.cells,.agg [.int .i64 x3.Kind,.int .i64 x3.Forum,.int .i64 x3.Ask,.sl (cM cI [0,1,1,1,1]),.sl (cM cI x3.Path)]] (n6 r1 (aA.mk x3.Kind x3.Forum x3.Ask [0,1,1,1,1] x3.Path)) (fun (r:Bool)=>dB r):=kF (CY r1 (aA.mk x3.Kind x3.Forum x3.Ask [0,1,1,1,1] x3.Path)) (fun _=>rfl) (fun _=>rfl)
theorem FA (r1:aB) (x4:aA):KF TT 12 [.agg r1.cells,.agg [.int .i64 1,.int .i64 x4.Forum,.int .i64 x4.Ask,.sl (cM cI x4.Places),.sl (cM cI x4.Path)]] (n6 r1 (aA.mk 1 x4.Forum x4.Ask x4.Places x4.Path)) (fun (r:Bool)=>dB r):=kF (CY r1 (aA.mk 1 x4.Forum x4.Ask x4.Places x4.Path)) (fun _=>rfl) (fun _=>rfl)
theorem E9:KF TT 13 [.agg [.sl [],.sl [],.sl [],.sl [],.sl [],.sl [],.sl [],.sl []]] (mD (aB.mk [] [] [] [] [] [] [] [])) (fun (r:Bool)=>dB r):=kF (IA (aB.mk [] [] [] [] [] [] [] [])) (fun _=>rfl) (fun _=>rfl)
theorem AO:Vm.call TT 5 [] = (gS).map fun (r:Bool)=>.bool r:=by
 refine (aW (show TT 5 = some (.code ⟨0,81,[.tmp 0],bd5,false,false⟩) from rfl) _ rfl rfl).trans ?_
 show bM TT bd5 ⟨[],[]⟩ _ = _
 unfold bd5 gS
 have u:=aN (aN (aN @IY @S4) (aN @IZ @FJ)) (aN (aN @FM @E1) (aN @FA @E9))
 exact iV
theorem H7:KF TT 5 [] (gS) (fun (r:Bool)=>dB r):=kF (AO ) (fun _=>rfl) (fun _=>rfl)
abbrev qI (a0:aB) (p1:Int):St:=⟨[(1,.ptr 1 0),(3,dI p1)],[(1,some (.box (aE a0.cells)))]⟩
theorem GZ (a0:aB) (p1:Int):bM TT mA (qI a0 p1) (fun e s=>some (e,s)) = cO (fun (w:Int)=>qI a0 w) (fun (r:Unit ⊕ Unit)=>Sum.elim (fun (z:Unit)=>(((.exit 0),⟨[(1,.ptr 1 0)],[(1,some (.box (aE a0.cells)))]⟩):Ex × St)) (fun (z:Unit)=>((.ret,⟨[(2,dB false)],[]⟩):Ex × St)) r) (e8 a0 p1):=by
 unfold mA e8
 exact yM
theorem HE {β:Type} (a0:aB) (p1:Int) (k:Ex->St->Option β):bM TT yZ (qI a0 p1) k = (nR a0 p1).bind (fun (r:Unit ⊕ Unit)=>Sum.elim (fun (z:Unit)=>k (.exit 0) ⟨[(1,.ptr 1 0)],[(1,some (.box (aE a0.cells)))]⟩) (fun (z:Unit)=>k .ret ⟨[(2,dB false)],[]⟩) r):=by
 have hh:=fun (w:Int)=>GZ a0 w
 have h:=fun ho=>bE (T:=TT) (k:=k) (c:=mA) (step:=(fun (w:Int)=>e8 a0 w)) _ _ ho hh p1
 refine Eq.trans (h (fun r s e=>by have q:=congrArg Prod.fst e; rcases r with x | x <;> cases q)) ?_
 unfold nR
 exact aV _ fun x=>by rcases x with x | x <;> rfl
abbrev qR (a0:aB) (p8:Int):St:=⟨[(1,.ptr 1 0),(4,dI p8)],[(1,some (.box (aE a0.cells)))]⟩
theorem G6 (a0:aB) (p8:Int):bM TT lY (qR a0 p8) (fun e s=>some (e,s)) = cO (fun (w:Int)=>qR a0 w) (fun (r:Unit ⊕ Unit)=>Sum.elim (fun (z:Unit)=>(((.exit 2),⟨[(1,.ptr 1 0)],[(1,some (.box (aE a0.cells)))]⟩):Ex × St)) (fun (z:Unit)=>((.ret,⟨[(2,dB false)],[]⟩):Ex × St)) r) (eR a0 p8):=by
 unfold lY eR
 exact yM
theorem GW {β:Type} (a0:aB) (p8:Int) (k:Ex->St->Option β):bM TT zT (qR a0 p8) k = (nY a0 p8).bind (fun (r:Unit ⊕ Unit)=>Sum.elim (fun (z:Unit)=>k (.exit 2) ⟨[(1,.ptr 1 0)],[(1,some (.box (aE a0.cells)))]⟩) (fun (z:Unit)=>k .ret ⟨[(2,dB false)],[]⟩) r):=by
 have hh:=fun (w:Int)=>G6 a0 w
 have h:=fun ho=>bE (T:=TT) (k:=k) (c:=lY) (step:=(fun (w:Int)=>eR a0 w)) _ _ ho hh p8
 refine Eq.trans (h (fun r s e=>by have q:=congrArg Prod.fst e; rcases r with x | x <;> cases q)) ?_
 unfold nY
 exact aV _ fun x=>by rcases x with x | x <;> rfl
theorem J0 (a0:aB):Vm.call TT 16 [.agg a0.cells] = (lE a0).map fun (r:Bool)=>.bool r:=by
 refine (aW (show TT 16 = some (.code ⟨1,119,[.tmp 2],aOI,false,false⟩) from rfl) _ rfl rfl).trans ?_
 show bM TT aOI ⟨[(0,b9 a0.cells)],[]⟩ _ = _
 unfold aOI lE
 have u:=aN @HE @GW
 exact iV
theorem JS (a0:aB):KF TT 16 [.agg a0.cells] (lE a0) (fun (r:Bool)=>dB r):=kF (J0 a0) (fun _=>rfl) (fun _=>rfl)
theorem KR (a0:aB):Vm.call TT 6 [.agg a0.cells] = (lA a0).map fun (r:Bool)=>.bool r:=by
 refine (aW (show TT 6 = some (.code ⟨1,11,[.tmp 2],bd6,false,false⟩) from rfl) _ rfl rfl).trans ?_
 show bM TT bd6 ⟨[(0,b9 a0.cells)],[]⟩ _ = _
 unfold bd6 lA
 have u:=@JS
 exact iV
theorem KC (a0:aB):KF TT 6 [.agg a0.cells] (lA a0) (fun (r:Bool)=>dB r):=kF (KR a0) (fun _=>rfl) (fun _=>rfl)
theorem U4 (a0:Int):Vm.call TT 24 [.int .i64 a0] = (tF a0).map fun (r:Int × Bool)=>.tup [.int .i64 r.1,.bool r.2]:=by
 refine (aW (show TT 24 = some (.code ⟨1,15,[.tmp 2,.tmp 3],aO7,false,false⟩) from rfl) _ rfl rfl).trans ?_
 show bM TT aO7 ⟨[(0,dI a0)],[]⟩ _ = _
 unfold aO7 tF
 have u:=@fX
 exact iV
theorem LK (a0:Int):KF TT 24 [.int .i64 a0] (tF a0) (fun (r:Int × Bool)=>.tup [dI r.1,dB r.2]):=kF (U4 a0) (fun _=>rfl) (fun _=>rfl)
theorem M7 (a0:aS) (a1:Int):Vm.call TT 50 [.agg a0.cells,.ptr [.int .i64 a1] 0] = (pR a0 a1).map fun (r:Bool)=>.bool r:=by
 refine (aW (show TT 50 = some (.code ⟨2,8,[.tmp 3],aNu,false,false⟩) from rfl) _ rfl rfl).trans ?_
 show bM TT aNu ⟨[(0,b9 a0.cells),(1,.d (.ptr [.int .i64 a1] 0))],[]⟩ _ = _
 unfold aNu pR
 exact yM
theorem L4 (a0:aS) (a1:Int):KF TT 50 [.agg a0.cells,.ptr [.int .i64 a1] 0] (pR a0 a1) (fun (r:Bool)=>dB r):=kF (M7 a0 a1) (fun _=>rfl) (fun _=>rfl)
abbrev eI (a0:List aS) (a1 p1:Int):St:=⟨[(0,.d (.sl (cM aS.cells a0))),(1,.d (.fn 50 [.ptr [.int .i64 a1] 0])),(7,dI (a0.length:Int)),(8,dI p1)],[]⟩
theorem pW (a0:List aS) (a1 p1:Int):bM TT bK (eI a0 a1 p1) (fun e s=>some (e,s)) = cO (fun (w:Int)=>eI a0 a1 w) (fun (r:Unit ⊕ Int)=>Sum.elim (fun (z:Unit)=>(((.exit 0),⟨[],[]⟩):Ex × St)) (fun (z:Int)=>((.ret,⟨[(4,dI z)],[]⟩):Ex × St)) r) (bF a0 a1 p1):=by
 unfold bK bF
 have u:=@L4
 exact iV
theorem qA {β:Type} (a0:List aS) (a1 p1:Int) (k:Ex->St->Option β):bM TT fJ (eI a0 a1 p1) k = (dE a0 a1 p1).bind (fun (r:Unit ⊕ Int)=>Sum.elim (fun (z:Unit)=>k (.exit 0) ⟨[],[]⟩) (fun (z:Int)=>k .ret ⟨[(4,dI z)],[]⟩) r):=by
 have hh:=fun (w:Int)=>pW a0 a1 w
 have h:=fun ho=>bE (T:=TT) (k:=k) (c:=bK) (step:=(fun (w:Int)=>bF a0 a1 w)) _ _ ho hh p1
 refine Eq.trans (h (fun r s e=>by have q:=congrArg Prod.fst e; rcases r with x | x <;> cases q)) ?_
 unfold dE
 exact aV _ fun x=>by rcases x with x | x <;> rfl
theorem rZ (a0:List aS) (a1:Int):Vm.call TT 49 [.sl (cM aS.cells a0),.fn 50 [.ptr [.int .i64 a1] 0]] = (bX a0 a1).map fun (r:Int)=>.int .i64 r:=by
 refine (aW (show TT 49 = some (.code ⟨2,19,[.tmp 4],aDt,false,false⟩) from rfl) _ rfl rfl).trans ?_
 show bM TT aDt ⟨[(0,.d (.sl (cM aS.cells a0))),(1,.d (.fn 50 [.ptr [.int .i64 a1] 0]))],[]⟩ _ = _
 unfold aDt bX
 have u:=@qA
 exact iV
theorem sC (a0:List aS) (a1:Int):KF TT 49 [.sl (cM aS.cells a0),.fn 50 [.ptr [.int .i64 a1] 0]] (bX a0 a1) (fun (r:Int)=>dI r):=kF (rZ a0 a1) (fun _=>rfl) (fun _=>rfl)
theorem BT (a0:Int):Vm.call TT 71 [.int .i64 a0] = (jX a0).map fun (r:Int)=>.int .i64 r:=by
 refine (aW (show TT 71 = some (.code ⟨1,6,[.tmp 2],VQ,false,false⟩) from rfl) _ rfl rfl).trans ?_
 show bM TT VQ ⟨[(0,dI a0)],[]⟩ _ = _
 unfold VQ jX
 exact yM
theorem qE (a0:Int):KF TT 71 [.int .i64 a0] (jX a0) (fun (r:Int)=>dI r):=kF (BT a0) (fun _=>rfl) (fun _=>rfl)
theorem rS (a0:Int):Vm.call TT 69 [.int .i64 a0] = (fD a0).map fun (r:Int × Bool)=>.tup [.int .i64 r.1,.bool r.2]:=by
 refine (aW (show TT 69 = some (.code ⟨1,14,[.tmp 2,.tmp 3],UT,false,false⟩) from rfl) _ rfl rfl).trans ?_
 show bM TT UT ⟨[(0,dI a0)],[]⟩ _ = _
 unfold UT fD
 exact yM
theorem nJ (a0:Int):KF TT 69 [.int .i64 a0] (fD a0) (fun (r:Int × Bool)=>.tup [dI r.1,dB r.2]):=kF (rS a0) (fun _=>rfl) (fun _=>rfl)
theorem GH (a0:aF):Vm.call TT 67 [.agg a0.cells] = (mR a0).map fun (r:Int × Int)=>.tup [.int .i64 r.1,.int .i64 r.2]:=by
 refine (aW (show TT 67 = some (.code ⟨1,39,[.tmp 2,.tmp 3],aD8,false,false⟩) from rfl) _ rfl rfl).trans ?_
 show bM TT aD8 ⟨[(0,b9 a0.cells)],[]⟩ _ = _
 unfold aD8 mR
 have u:=aN @nJ @qE
 exact iV
theorem N3 (a0:aF):KF TT 67 [.agg a0.cells] (mR a0) (fun (r:Int × Int)=>.tup [dI r.1,dI r.2]):=kF (GH a0) (fun _=>rfl) (fun _=>rfl)
theorem xA {β:Type} (a0:Int) (k:Ex->St->Option β):bM TT m4 ⟨[(2,.ptr 2 0),(3,dI a0)],[(2,some (.box [.nil,dI 0]))]⟩ k = (mK a0).bind (fun (r:Unit ⊕ ((List Int) × Int))=>Sum.elim (fun (z:Unit)=>k .normal ⟨[(2,.ptr 2 0)],[(2,some (.box [.nil,dI 0]))]⟩) (fun (z:(List Int) × Int)=>k .ret ⟨[(2,.ptr 2 0)],[(2,some (.box [.d (.sl (cM cI z.1)),dI z.2])),(6,none),(11,none),(15,none),(19,none),(23,none)]⟩) r):=by
 unfold m4 mK
 exact yM
theorem B5 (a0:Int):Vm.call TT 68 [.int .i64 a0] = (mG a0).map fun (r:aI)=>.agg r.cells:=by
 refine (aW (show TT 68 = some (.code ⟨1,27,[.cell 2 2 true],aB8,false,false⟩) from rfl) _ rfl rfl).trans ?_
 show bM TT aB8 ⟨[(0,dI a0)],[]⟩ _ = _
 unfold aB8 mG
 have u:=@xA
 exact iV
theorem HW (a0:Int):KD TT 68 [.int .i64 a0] (mG a0) (fun (r:aI)=>b9 r.cells):=kD (B5 a0) (fun _=>rfl) (fun _=>rfl) (fun _=>rfl)
end Go.Proofs.YtoefdnkjcfoccaaDoor
