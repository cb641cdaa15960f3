/- The functions of the small machine compute the plain definitions. Printed by a program. -/
import Derived.Test.YtjjcaapdaldedaaLnk4
set_option linter.unusedVariables false
set_option linter.unusedSimpArgs false
namespace Go.Proofs.Ytjjcaapdaldedaa
open Vm
open Go.RowKit
set_option maxRecDepth 100000
set_option maxHeartbeats 4000000
attribute [local congr] yV A7 yK BL
theorem CT (r1:aB) (x3:aA):KF TT 11 [.agg r1.cells,.agg [.int .i64 x3.Kind,.int .i64 x3.Forum,.int .i64 x3.Ask,.sl (cM cI [0,1,1,1,1]),.sl (cM cI x3.Path)]] (m7 r1 (aA.mk x3.Kind x3.Forum x3.Ask [0,1,1,1,1] x3.Path)) (fun (r:Bool)=>dB r):=kF (BP r1 (aA.mk x3.Kind x3.Forum x3.Ask [0,1,1,1,1] x3.Path)) (fun _=>rfl) (fun _=>rfl)
theorem C5 (r1:aB) (x4:aA):KF TT 11 [.agg r1.cells,.agg [.int .i64 1,.int .i64 x4.Forum,.int .i64 x4.Ask,.sl (cM cI x4.Places),.sl (cM cI x4.Path)]] (m7 r1 (aA.mk 1 x4.Forum x4.Ask x4.Places x4.Path)) (fun (r:Bool)=>dB r):=kF (BP r1 (aA.mk 1 x4.Forum x4.Ask x4.Places x4.Path)) (fun _=>rfl) (fun _=>rfl)
theorem C3:KF TT 13 [.agg [.sl [],.sl [],.sl [],.sl [],.sl [],.sl [],.sl [],.sl []]] (iX (aB.mk [] [] [] [] [] [] [] [])) (fun (r:Bool)=>dB r):=kF (A0 (aB.mk [] [] [] [] [] [] [] [])) (fun _=>rfl) (fun _=>rfl)
theorem xK:Vm.call TT 6 [] = (gR).map fun (r:Bool)=>.bool r:=by
 refine (bE (show TT 6 = some (.code ⟨0,81,[.tmp 0],bd6,false,false⟩) from rfl) _ rfl rfl).trans ?_
 show bP TT bd6 ⟨[],[]⟩ _ = _
 unfold bd6 gR
 have u:=aN (aN (aN @BG @DG) (aN @P8 @FT)) (aN (aN @DO @CT) (aN @C5 @C3))
 exact nQ
theorem FK:KF TT 6 [] (gR) (fun (r:Bool)=>dB r):=kF (xK ) (fun _=>rfl) (fun _=>rfl)
abbrev pT (a0:aB) (p1:Int):St:=⟨[(1,.ptr 1 0),(3,dI p1)],[(1,some (.box (aR a0.cells)))]⟩
theorem EK (a0:aB) (p1:Int):bP TT lX (pT a0 p1) (fun e s=>some (e,s)) = cU (fun (w:Int)=>pT a0 w) (fun (r:Unit ⊕ Unit)=>Sum.elim (fun (z:Unit)=>(((.exit 0),⟨[(1,.ptr 1 0)],[(1,some (.box (aR a0.cells)))]⟩):Ex × St)) (fun (z:Unit)=>((.ret,⟨[(2,dB false)],[]⟩):Ex × St)) r) (eU a0 p1):=by
 unfold lX eU
 exact CH
theorem EW {β:Type} (a0:aB) (p1:Int) (k:Ex->St->Option β):bP TT xE (pT a0 p1) k = (nH a0 p1).bind (fun (r:Unit ⊕ Unit)=>Sum.elim (fun (z:Unit)=>k (.exit 0) ⟨[(1,.ptr 1 0)],[(1,some (.box (aR a0.cells)))]⟩) (fun (z:Unit)=>k .ret ⟨[(2,dB false)],[]⟩) r):=by
 have hh:=fun (w:Int)=>EK a0 w
 have h:=fun ho=>aZ (T:=TT) (k:=k) (c:=lX) (step:=(fun (w:Int)=>eU a0 w)) _ _ ho hh p1
 refine Eq.trans (h (fun r s e=>by have q:=congrArg Prod.fst e; rcases r with x | x <;> cases q)) ?_
 unfold nH
 exact aL _ fun x=>by rcases x with x | x <;> rfl
abbrev qG (a0:aB) (p8:Int):St:=⟨[(1,.ptr 1 0),(4,dI p8)],[(1,some (.box (aR a0.cells)))]⟩
theorem EQ (a0:aB) (p8:Int):bP TT lY (qG a0 p8) (fun e s=>some (e,s)) = cU (fun (w:Int)=>qG a0 w) (fun (r:Unit ⊕ Unit)=>Sum.elim (fun (z:Unit)=>(((.exit 2),⟨[(1,.ptr 1 0)],[(1,some (.box (aR a0.cells)))]⟩):Ex × St)) (fun (z:Unit)=>((.ret,⟨[(2,dB false)],[]⟩):Ex × St)) r) (e8 a0 p8):=by
 unfold lY e8
 exact CH
theorem EO {β:Type} (a0:aB) (p8:Int) (k:Ex->St->Option β):bP TT wL (qG a0 p8) k = (mY a0 p8).bind (fun (r:Unit ⊕ Unit)=>Sum.elim (fun (z:Unit)=>k (.exit 2) ⟨[(1,.ptr 1 0)],[(1,some (.box (aR a0.cells)))]⟩) (fun (z:Unit)=>k .ret ⟨[(2,dB false)],[]⟩) r):=by
 have hh:=fun (w:Int)=>EQ a0 w
 have h:=fun ho=>aZ (T:=TT) (k:=k) (c:=lY) (step:=(fun (w:Int)=>e8 a0 w)) _ _ ho hh p8
 refine Eq.trans (h (fun r s e=>by have q:=congrArg Prod.fst e; rcases r with x | x <;> cases q)) ?_
 unfold mY
 exact aL _ fun x=>by rcases x with x | x <;> rfl
theorem HH (a0:aB):Vm.call TT 17 [.agg a0.cells] = (k9 a0).map fun (r:Bool)=>.bool r:=by
 refine (bE (show TT 17 = some (.code ⟨1,119,[.tmp 2],aHW,false,false⟩) from rfl) _ rfl rfl).trans ?_
 show bP TT aHW ⟨[(0,jQ a0.cells)],[]⟩ _ = _
 unfold aHW k9
 have u:=aN @EW @EO
 exact nQ
theorem HK (a0:aB):KF TT 17 [.agg a0.cells] (k9 a0) (fun (r:Bool)=>dB r):=kF (HH a0) (fun _=>rfl) (fun _=>rfl)
theorem H5 (a0:aB):Vm.call TT 7 [.agg a0.cells] = (lF a0).map fun (r:Bool)=>.bool r:=by
 refine (bE (show TT 7 = some (.code ⟨1,11,[.tmp 2],bd7,false,false⟩) from rfl) _ rfl rfl).trans ?_
 show bP TT bd7 ⟨[(0,jQ a0.cells)],[]⟩ _ = _
 unfold bd7 lF
 have u:=@HK
 exact nQ
theorem G4 (a0:aB):KF TT 7 [.agg a0.cells] (lF a0) (fun (r:Bool)=>dB r):=kF (H5 a0) (fun _=>rfl) (fun _=>rfl)
theorem yL (a0:aB) (r17:(List aC) × (List aC) × (List aC)):KD TT 8 [.agg [.sl (cM cS a0.Currencies),.sl (cM aW.cells a0.Cities),.sl (cM bI.cells a0.Groups),.sl (cM bO.cells a0.Firms),.sl (cM aC.cells r17.1),.sl (cM aO.cells a0.Usances),.sl (cM bK.cells a0.Rates),.sl (cM bR.cells a0.Halts)]] (fB (aB.mk a0.Currencies a0.Cities a0.Groups a0.Firms r17.1 a0.Usances a0.Rates a0.Halts)) (fun (r:(List aA) × Int)=>.tup [.d (.sl (cM aA.cells r.1)),dI r.2]):=kD (BA (aB.mk a0.Currencies a0.Cities a0.Groups a0.Firms r17.1 a0.Usances a0.Rates a0.Halts)) (fun _=>rfl) (fun _=>rfl) (fun _=>rfl)
theorem yP (a0:aB) (r17:(List aC) × (List aC) × (List aC)):KD TT 8 [.agg [.sl (cM cS a0.Currencies),.sl (cM aW.cells a0.Cities),.sl (cM bI.cells a0.Groups),.sl (cM bO.cells a0.Firms),.sl (cM aC.cells r17.2.2),.sl (cM aO.cells a0.Usances),.sl (cM bK.cells a0.Rates),.sl (cM bR.cells a0.Halts)]] (fB (aB.mk a0.Currencies a0.Cities a0.Groups a0.Firms r17.2.2 a0.Usances a0.Rates a0.Halts)) (fun (r:(List aA) × Int)=>.tup [.d (.sl (cM aA.cells r.1)),dI r.2]):=kD (BA (aB.mk a0.Currencies a0.Cities a0.Groups a0.Firms r17.2.2 a0.Usances a0.Rates a0.Halts)) (fun _=>rfl) (fun _=>rfl) (fun _=>rfl)
theorem zQ (a0:aB) (r17:(List aC) × (List aC) × (List aC)):KF TT 13 [.agg [.sl (cM cS a0.Currencies),.sl (cM aW.cells a0.Cities),.sl (cM bI.cells a0.Groups),.sl (cM bO.cells a0.Firms),.sl (cM aC.cells r17.2.1),.sl (cM aO.cells a0.Usances),.sl (cM bK.cells a0.Rates),.sl (cM bR.cells a0.Halts)]] (iX (aB.mk a0.Currencies a0.Cities a0.Groups a0.Firms r17.2.1 a0.Usances a0.Rates a0.Halts)) (fun (r:Bool)=>dB r):=kF (A0 (aB.mk a0.Currencies a0.Cities a0.Groups a0.Firms r17.2.1 a0.Usances a0.Rates a0.Halts)) (fun _=>rfl) (fun _=>rfl)
abbrev kH (a0:aB) (r1:Bool) (r3:(List aA) × Int) (p4:Int) (p5 p6 p7:List aC):St:=⟨[(1,.ptr 1 0),(3,dB r1),(4,.d (.sl (cM aA.cells r3.1))),(6,.ptr 6 0),(7,.ptr 7 0),(8,.ptr 8 0),(9,dI p4)],[(1,some (.box (aR a0.cells))),(6,some (.box [.d (.sl (cM cS a0.Currencies)),.d (.sl (cM aW.cells a0.Cities)),.d (.sl (cM bI.cells a0.Groups)),.d (.sl (cM bO.cells a0.Firms)),.own 33 0,.d (.sl (cM aO.cells a0.Usances)),.d (.sl (cM bK.cells a0.Rates)),.d (.sl (cM bR.cells a0.Halts))])),(7,some (.box [.d (.sl (cM cS a0.Currencies)),.d (.sl (cM aW.cells a0.Cities)),.d (.sl (cM bI.cells a0.Groups)),.d (.sl (cM bO.cells a0.Firms)),.own 39 0,.d (.sl (cM aO.cells a0.Usances)),.d (.sl (cM bK.cells a0.Rates)),.d (.sl (cM bR.cells a0.Halts))])),(8,some (.box [.d (.sl (cM cS a0.Currencies)),.d (.sl (cM aW.cells a0.Cities)),.d (.sl (cM bI.cells a0.Groups)),.d (.sl (cM bO.cells a0.Firms)),.own 45 0,.d (.sl (cM aO.cells a0.Usances)),.d (.sl (cM bK.cells a0.Rates)),.d (.sl (cM bR.cells a0.Halts))])),(33,some (.rows 0 47 4 (cM aC.cells p5))),(39,some (.rows 0 47 4 (cM aC.cells p6))),(45,some (.rows 0 47 4 (cM aC.cells p7)))]⟩
theorem zP (a0:aB) (r1:Bool) (r3:(List aA) × Int) (p4:Int) (p5 p6 p7:List aC):bP TT hZ (kH a0 r1 r3 p4 p5 p6 p7) (fun e s=>some (e,s)) = cU (fun (w:Int × (List aC) × (List aC) × (List aC))=>kH a0 r1 r3 w.1 w.2.1 w.2.2.1 w.2.2.2) (fun (r:(List aC) × (List aC) × (List aC))=>(((.exit 0),⟨[(3,dB r1),(4,.d (.sl (cM aA.cells r3.1))),(6,.ptr 6 0),(7,.ptr 7 0),(8,.ptr 8 0)],[(6,some (.box [.d (.sl (cM cS a0.Currencies)),.d (.sl (cM aW.cells a0.Cities)),.d (.sl (cM bI.cells a0.Groups)),.d (.sl (cM bO.cells a0.Firms)),.own 33 0,.d (.sl (cM aO.cells a0.Usances)),.d (.sl (cM bK.cells a0.Rates)),.d (.sl (cM bR.cells a0.Halts))])),(7,some (.box [.d (.sl (cM cS a0.Currencies)),.d (.sl (cM aW.cells a0.Cities)),.d (.sl (cM bI.cells a0.Groups)),.d (.sl (cM bO.cells a0.Firms)),.own 39 0,.d (.sl (cM aO.cells a0.Usances)),.d (.sl (cM bK.cells a0.Rates)),.d (.sl (cM bR.cells a0.Halts))])),(8,some (.box [.d (.sl (cM cS a0.Currencies)),.d (.sl (cM aW.cells a0.Cities)),.d (.sl (cM bI.cells a0.Groups)),.d (.sl (cM bO.cells a0.Firms)),.own 45 0,.d (.sl (cM aO.cells a0.Usances)),.d (.sl (cM bK.cells a0.Rates)),.d (.sl (cM bR.cells a0.Halts))])),(33,some (.rows 0 47 4 (cM aC.cells r.1))),(39,some (.rows 0 47 4 (cM aC.cells r.2.1))),(45,some (.rows 0 47 4 (cM aC.cells r.2.2)))]⟩):Ex × St)) (cA a0 r1 r3 p4 p5 p6 p7):=by
 unfold hZ cA
 have u:=@xM
 exact nQ
theorem zO {β:Type} (a0:aB) (r1:Bool) (r3:(List aA) × Int) (p4:Int) (p5 p6 p7:List aC) (k:Ex->St->Option β):bP TT pG (kH a0 r1 r3 p4 p5 p6 p7) k = (fZ a0 r1 r3 p4 p5 p6 p7).bind (fun (r:(List aC) × (List aC) × (List aC))=>k (.exit 0) ⟨[(3,dB r1),(4,.d (.sl (cM aA.cells r3.1))),(6,.ptr 6 0),(7,.ptr 7 0),(8,.ptr 8 0)],[(6,some (.box [.d (.sl (cM cS a0.Currencies)),.d (.sl (cM aW.cells a0.Cities)),.d (.sl (cM bI.cells a0.Groups)),.d (.sl (cM bO.cells a0.Firms)),.own 33 0,.d (.sl (cM aO.cells a0.Usances)),.d (.sl (cM bK.cells a0.Rates)),.d (.sl (cM bR.cells a0.Halts))])),(7,some (.box [.d (.sl (cM cS a0.Currencies)),.d (.sl (cM aW.cells a0.Cities)),.d (.sl (cM bI.cells a0.Groups)),.d (.sl (cM bO.cells a0.Firms)),.own 39 0,.d (.sl (cM aO.cells a0.Usances)),.d (.sl (cM bK.cells a0.Rates)),.d (.sl (cM bR.cells a0.Halts))])),(8,some (.box [.d (.sl (cM cS a0.Currencies)),.d (.sl (cM aW.cells a0.Cities)),.d (.sl (cM bI.cells a0.Groups)),.d (.sl (cM bO.cells a0.Firms)),.own 45 0,.d (.sl (cM aO.cells a0.Usances)),.d (.sl (cM bK.cells a0.Rates)),.d (.sl (cM bR.cells a0.Halts))])),(33,some (.rows 0 47 4 (cM aC.cells r.1))),(39,some (.rows 0 47 4 (cM aC.cells r.2.1))),(45,some (.rows 0 47 4 (cM aC.cells r.2.2)))]⟩):=by
 have hh:=fun (w:Int × (List aC) × (List aC) × (List aC))=>zP a0 r1 r3 w.1 w.2.1 w.2.2.1 w.2.2.2
 have h:=fun ho=>aZ (T:=TT) (k:=k) (c:=hZ) (step:=(fun (w:Int × (List aC) × (List aC) × (List aC))=>cA a0 r1 r3 w.1 w.2.1 w.2.2.1 w.2.2.2)) _ _ ho hh (p4,p5,p6,p7)
 refine Eq.trans (h (fun r s e=>by have q:=congrArg Prod.fst e; rcases r with x <;> cases q)) ?_
 unfold fZ
 exact aL _ fun x=>by rcases x with x <;> rfl
abbrev kJ (r1:Bool) (r18 r19 r3:(List aA) × Int) (p21 p22:Int):St:=⟨[(3,dB r1),(4,.d (.sl (cM aA.cells r3.1))),(11,.d (.sl (cM aA.cells r18.1))),(13,.d (.sl (cM aA.cells r19.1))),(15,dI p21),(16,dI p22)],[]⟩
theorem y8 (r1:Bool) (r18 r19 r3:(List aA) × Int) (p21 p22:Int):bP TT hH (kJ r1 r18 r19 r3 p21 p22) (fun e s=>some (e,s)) = cU (fun (w:Int × Int)=>kJ r1 r18 r19 r3 w.1 w.2) (fun (r:Int)=>(((.exit 4),⟨[(3,dB r1),(11,.d (.sl (cM aA.cells r18.1))),(13,.d (.sl (cM aA.cells r19.1))),(15,dI r)],[]⟩):Ex × St)) (cC r1 r18 r19 r3 p21 p22):=by
 unfold hH cC
 exact CH
theorem y9 {β:Type} (r1:Bool) (r18 r19 r3:(List aA) × Int) (p21 p22:Int) (k:Ex->St->Option β):bP TT pI (kJ r1 r18 r19 r3 p21 p22) k = (gA r1 r18 r19 r3 p21 p22).bind (fun (r:Int)=>k (.exit 4) ⟨[(3,dB r1),(11,.d (.sl (cM aA.cells r18.1))),(13,.d (.sl (cM aA.cells r19.1))),(15,dI r)],[]⟩):=by
 have hh:=fun (w:Int × Int)=>y8 r1 r18 r19 r3 w.1 w.2
 have h:=fun ho=>aZ (T:=TT) (k:=k) (c:=hH) (step:=(fun (w:Int × Int)=>cC r1 r18 r19 r3 w.1 w.2)) _ _ ho hh (p21,p22)
 refine Eq.trans (h (fun r s e=>by have q:=congrArg Prod.fst e; rcases r with x <;> cases q)) ?_
 unfold gA
 exact aL _ fun x=>by rcases x with x <;> rfl
abbrev kL (r1:Bool) (r18 r19:(List aA) × Int) (r25 p26:Int):St:=⟨[(3,dB r1),(11,.d (.sl (cM aA.cells r18.1))),(13,.d (.sl (cM aA.cells r19.1))),(15,dI r25),(17,dI p26)],[]⟩
theorem yJ (r1:Bool) (r18 r19:(List aA) × Int) (r25 p26:Int):bP TT hU (kL r1 r18 r19 r25 p26) (fun e s=>some (e,s)) = cU (fun (w:Int)=>kL r1 r18 r19 r25 w) (fun (r:Unit ⊕ Unit)=>Sum.elim (fun (z:Unit)=>(((.exit 6),⟨[(3,dB r1),(11,.d (.sl (cM aA.cells r18.1))),(13,.d (.sl (cM aA.cells r19.1))),(15,dI r25)],[]⟩):Ex × St)) (fun (z:Unit)=>((.ret,⟨[(2,dB false)],[]⟩):Ex × St)) r) (b9 r1 r18 r19 r25 p26):=by
 unfold hU b9
 exact CH
theorem yY {β:Type} (r1:Bool) (r18 r19:(List aA) × Int) (r25 p26:Int) (k:Ex->St->Option β):bP TT pH (kL r1 r18 r19 r25 p26) k = (fT r1 r18 r19 r25 p26).bind (fun (r:Unit ⊕ Unit)=>Sum.elim (fun (z:Unit)=>k (.exit 6) ⟨[(3,dB r1),(11,.d (.sl (cM aA.cells r18.1))),(13,.d (.sl (cM aA.cells r19.1))),(15,dI r25)],[]⟩) (fun (z:Unit)=>k .ret ⟨[(2,dB false)],[]⟩) r):=by
 have hh:=fun (w:Int)=>yJ r1 r18 r19 r25 w
 have h:=fun ho=>aZ (T:=TT) (k:=k) (c:=hU) (step:=(fun (w:Int)=>b9 r1 r18 r19 r25 w)) _ _ ho hh p26
 refine Eq.trans (h (fun r s e=>by have q:=congrArg Prod.fst e; rcases r with x | x <;> cases q)) ?_
 unfold fT
 exact aL _ fun x=>by rcases x with x | x <;> rfl
abbrev kE (r1:Bool) (r18 r19:(List aA) × Int) (r25 p31:Int):St:=⟨[(3,dB r1),(11,.d (.sl (cM aA.cells r18.1))),(13,.d (.sl (cM aA.cells r19.1))),(15,dI r25),(18,dI p31)],[]⟩
theorem yT (r1:Bool) (r18 r19:(List aA) × Int) (r25 p31:Int):bP TT gY (kE r1 r18 r19 r25 p31) (fun e s=>some (e,s)) = cU (fun (w:Int)=>kE r1 r18 r19 r25 w) (fun (r:Unit ⊕ Unit)=>Sum.elim (fun (z:Unit)=>(((.exit 8),⟨[(3,dB r1),(11,.d (.sl (cM aA.cells r18.1))),(15,dI r25)],[]⟩):Ex × St)) (fun (z:Unit)=>((.ret,⟨[(2,dB false)],[]⟩):Ex × St)) r) (cE r1 r18 r19 r25 p31):=by
 unfold gY cE
 exact CH
theorem yU {β:Type} (r1:Bool) (r18 r19:(List aA) × Int) (r25 p31:Int) (k:Ex->St->Option β):bP TT pJ (kE r1 r18 r19 r25 p31) k = (fU r1 r18 r19 r25 p31).bind (fun (r:Unit ⊕ Unit)=>Sum.elim (fun (z:Unit)=>k (.exit 8) ⟨[(3,dB r1),(11,.d (.sl (cM aA.cells r18.1))),(15,dI r25)],[]⟩) (fun (z:Unit)=>k .ret ⟨[(2,dB false)],[]⟩) r):=by
 have hh:=fun (w:Int)=>yT r1 r18 r19 r25 w
 have h:=fun ho=>aZ (T:=TT) (k:=k) (c:=gY) (step:=(fun (w:Int)=>cE r1 r18 r19 r25 w)) _ _ ho hh p31
 refine Eq.trans (h (fun r s e=>by have q:=congrArg Prod.fst e; rcases r with x | x <;> cases q)) ?_
 unfold fU
 exact aL _ fun x=>by rcases x with x | x <;> rfl
theorem BU (a0:aB):Vm.call TT 5 [.agg a0.cells] = (iF a0).map fun (r:Bool)=>.bool r:=by
 refine (bE (show TT 5 = some (.code ⟨1,173,[.tmp 2],bd5,false,false⟩) from rfl) _ rfl rfl).trans ?_
 show bP TT bd5 ⟨[(0,jQ a0.cells)],[]⟩ _ = _
 unfold bd5 iF
 have u:=aN (aN (aN @zO @y9) (aN @yY (aN @yU @FK))) (aN (aN @G4 (aN @BG @FT)) (aN @yL (aN @yP @zQ)))
 exact nQ
end Go.Proofs.Ytjjcaapdaldedaa
