/- The functions of the small machine compute the plain definitions. Printed by a program. -/
import Derived.Test.YtjjcaapdaldedaaLnk6
set_option linter.unusedVariables false
set_option linter.unusedSimpArgs false
namespace Go.Proofs.Ytjjcaapdaldedaa
open Vm
open Go.RowKit
set_option maxRecDepth 100000
set_option maxHeartbeats 4000000
attribute [local congr] u9 yL vJ yM
theorem z0 (a0 a1:aB):Vm.call TT 50 [.agg a0.cells,.agg a1.cells] = (fS a0 a1).map fun (r:Bool)=>.bool r:=by
 refine (aR (show TT 50 = some (.code ⟨2,41,[.tmp 4],aKI,false,false⟩) from rfl) _ rfl rfl).trans ?_
 show bD TT aKI ⟨[(0,fL a0.cells),(1,fL a1.cells)],[]⟩ _ = _
 unfold aKI fS
 have u:=@LL
 exact i9
theorem AV (a0 a1:aB):KF TT 50 [.agg a0.cells,.agg a1.cells] (fS a0 a1) (fun (r:Bool)=>dB r):=kF (z0 a0 a1) (fun _=>rfl) (fun _=>rfl)
theorem xV (a0:aA) (a1 a2 a3:Int) (p10 p11:List Int) (p9:Int) (r12:Int × (List Int)):KF TT 50 [.agg [.int .i64 a3,.int .i64 a1,.int .i64 a2,.sl (cM cI [a1,p9.tmod (a0.Orders.length:Int),(IntKind.wrap .i64 (p9.tdiv (a0.Orders.length:Int))).tmod (a0.Orders.length:Int),(IntKind.wrap .i64 (p9.tdiv (IntKind.wrap .i64 ((a0.Orders.length:Int) * (a0.Orders.length:Int))))).tmod (a0.Orders.length:Int),IntKind.wrap .i64 (p9.tdiv (IntKind.wrap .i64 ((IntKind.wrap .i64 ((a0.Orders.length:Int) * (a0.Orders.length:Int))) * (a0.Orders.length:Int))))]),.sl (cM cI r12.2)],.agg [.int .i64 a3,.int .i64 a1,.int .i64 a2,.sl (cM cI p10),.sl (cM cI p11)]] (fS (aB.mk a3 a1 a2 [a1,p9.tmod (a0.Orders.length:Int),(IntKind.wrap .i64 (p9.tdiv (a0.Orders.length:Int))).tmod (a0.Orders.length:Int),(IntKind.wrap .i64 (p9.tdiv (IntKind.wrap .i64 ((a0.Orders.length:Int) * (a0.Orders.length:Int))))).tmod (a0.Orders.length:Int),IntKind.wrap .i64 (p9.tdiv (IntKind.wrap .i64 ((IntKind.wrap .i64 ((a0.Orders.length:Int) * (a0.Orders.length:Int))) * (a0.Orders.length:Int))))] r12.2) (aB.mk a3 a1 a2 p10 p11)) (fun (r:Bool)=>dB r):=kF (z0 (aB.mk a3 a1 a2 [a1,p9.tmod (a0.Orders.length:Int),(IntKind.wrap .i64 (p9.tdiv (a0.Orders.length:Int))).tmod (a0.Orders.length:Int),(IntKind.wrap .i64 (p9.tdiv (IntKind.wrap .i64 ((a0.Orders.length:Int) * (a0.Orders.length:Int))))).tmod (a0.Orders.length:Int),IntKind.wrap .i64 (p9.tdiv (IntKind.wrap .i64 ((IntKind.wrap .i64 ((a0.Orders.length:Int) * (a0.Orders.length:Int))) * (a0.Orders.length:Int))))] r12.2) (aB.mk a3 a1 a2 p10 p11)) (fun _=>rfl) (fun _=>rfl)
abbrev qK (a0:aA) (a1 a2 a3 p1:Int):St:=⟨[(1,dI a1),(2,dI a2),(3,dI a3),(4,.ptr 4 0),(8,.ptr 8 0),(10,.ptr 10 0),(11,dB false),(12,dI (a0.Orders.length:Int)),(13,dI p1)],[(4,some (.box (aK a0.cells))),(8,some (.box [dI 0,dI 0,dI 0,.nil,.nil])),(10,some (.box [dI 0,dI 0,dI 0,.nil,.nil]))]⟩
theorem GP (a0:aA) (a1 a2 a3 p1:Int):bD TT eI (qK a0 a1 a2 a3 p1) (fun e s=>some (e,s)) = bH (fun (w:Int)=>qK a0 a1 a2 a3 w) (fun (r:(Int × (List Int) × (List Int)) ⊕ Unit)=>Sum.elim (fun (z:Int × (List Int) × (List Int))=>((.normal,⟨[(1,dI a1),(2,dI a2),(3,dI a3),(4,.ptr 4 0),(8,.ptr 8 0),(10,.ptr 10 0),(11,dB true),(12,dI (a0.Orders.length:Int)),(13,dI z.1)],[(4,some (.box (aK a0.cells))),(8,some (.box [dI 0,dI 0,dI 0,.nil,.nil])),(10,some (.box [dI a3,dI a1,dI a2,.d (.sl (cM cI z.2.1)),.d (.sl (cM cI z.2.2))]))]⟩):Ex × St)) (fun (z:Unit)=>(((.exit 0),⟨[(8,.ptr 8 0),(10,.ptr 10 0),(11,dB false)],[(8,some (.box [dI 0,dI 0,dI 0,.nil,.nil])),(10,some (.box [dI 0,dI 0,dI 0,.nil,.nil]))]⟩):Ex × St)) r) (dD a0 a1 a2 a3 p1):=by
 unfold eI dD
 have u:=aN @uW (aN @AV @xV)
 exact i9
theorem GE {β:Type} (a0:aA) (a1 a2 a3 p1:Int) (k:Ex->St->Option β):bD TT mH (qK a0 a1 a2 a3 p1) k = (oH a0 a1 a2 a3 p1).bind (fun (r:(Int × (List Int) × (List Int)) ⊕ Unit)=>Sum.elim (fun (z:Int × (List Int) × (List Int))=>bD TT mH ⟨[(1,dI a1),(2,dI a2),(3,dI a3),(4,.ptr 4 0),(8,.ptr 8 0),(10,.ptr 10 0),(11,dB true),(12,dI (a0.Orders.length:Int)),(13,dI z.1)],[(4,some (.box (aK a0.cells))),(8,some (.box [dI 0,dI 0,dI 0,.nil,.nil])),(10,some (.box [dI a3,dI a1,dI a2,.d (.sl (cM cI z.2.1)),.d (.sl (cM cI z.2.2))]))]⟩ k) (fun (z:Unit)=>k (.exit 0) ⟨[(8,.ptr 8 0),(10,.ptr 10 0),(11,dB false)],[(8,some (.box [dI 0,dI 0,dI 0,.nil,.nil])),(10,some (.box [dI 0,dI 0,dI 0,.nil,.nil]))]⟩) r):=by
 have hh:=fun (w:Int)=>GP a0 a1 a2 a3 w
 have h:=aGG (T:=TT) (k:=k) (c:=eI) (step:=(fun (w:Int)=>dD a0 a1 a2 a3 w)) _ _ hh p1
 refine Eq.trans h ?_
 unfold oH
 exact aH _ fun x=>by rcases x with x | x <;> rfl
abbrev qU (a0:aA) (a1 a2 a3 p9:Int) (p10 p11:List Int):St:=⟨[(1,dI a1),(2,dI a2),(3,dI a3),(4,.ptr 4 0),(8,.ptr 8 0),(10,.ptr 10 0),(11,dB true),(12,dI (a0.Orders.length:Int)),(13,dI p9)],[(4,some (.box (aK a0.cells))),(8,some (.box [dI 0,dI 0,dI 0,.nil,.nil])),(10,some (.box [dI a3,dI a1,dI a2,.d (.sl (cM cI p10)),.d (.sl (cM cI p11))]))]⟩
theorem GS (a0:aA) (a1 a2 a3 p9:Int) (p10 p11:List Int):bD TT eI (qU a0 a1 a2 a3 p9 p10 p11) (fun e s=>some (e,s)) = bH (fun (w:Int × (List Int) × (List Int))=>qU a0 a1 a2 a3 w.1 w.2.1 w.2.2) (fun (r:(List Int) × (List Int))=>(((.exit 0),⟨[(8,.ptr 8 0),(10,.ptr 10 0),(11,dB true)],[(8,some (.box [dI 0,dI 0,dI 0,.nil,.nil])),(10,some (.box [dI a3,dI a1,dI a2,.d (.sl (cM cI r.1)),.d (.sl (cM cI r.2))]))]⟩):Ex × St)) (dC a0 a1 a2 a3 p9 p10 p11):=by
 unfold eI dC
 have u:=aN @uW (aN @AV @xV)
 exact i9
theorem G0 {β:Type} (a0:aA) (a1 a2 a3 p9:Int) (p10 p11:List Int) (k:Ex->St->Option β):bD TT mH (qU a0 a1 a2 a3 p9 p10 p11) k = (n6 a0 a1 a2 a3 p9 p10 p11).bind (fun (r:(List Int) × (List Int))=>k (.exit 0) ⟨[(8,.ptr 8 0),(10,.ptr 10 0),(11,dB true)],[(8,some (.box [dI 0,dI 0,dI 0,.nil,.nil])),(10,some (.box [dI a3,dI a1,dI a2,.d (.sl (cM cI r.1)),.d (.sl (cM cI r.2))]))]⟩):=by
 have hh:=fun (w:Int × (List Int) × (List Int))=>GS a0 a1 a2 a3 w.1 w.2.1 w.2.2
 have h:=fun ho=>aU (T:=TT) (k:=k) (c:=eI) (step:=(fun (w:Int × (List Int) × (List Int))=>dC a0 a1 a2 a3 w.1 w.2.1 w.2.2)) _ _ ho hh (p9,p10,p11)
 refine Eq.trans (h (fun r s e=>by have q:=congrArg Prod.fst e; rcases r with x <;> cases q)) ?_
 unfold n6
 exact aH _ fun x=>by rcases x with x <;> rfl
theorem KL (a0:aA) (a1 a2 a3:Int):Vm.call TT 21 [.agg a0.cells,.int .i64 a1,.int .i64 a2,.int .i64 a3] = (eY a0 a1 a2 a3).map fun (r:aB × Bool)=>.tup [.agg (aB.cells r.1),.bool r.2]:=by
 refine (aR (show TT 21 = some (.code ⟨4,86,[.cell 8 5 true,.tmp 9],aLR,false,false⟩) from rfl) _ rfl rfl).trans ?_
 show bD TT aLR ⟨[(0,fL a0.cells),(1,dI a1),(2,dI a2),(3,dI a3)],[]⟩ _ = _
 unfold aLR eY
 have u:=aN @GE @G0
 exact i9
theorem KK (a0:aA) (a1 a2 a3:Int):KD TT 21 [.agg a0.cells,.int .i64 a1,.int .i64 a2,.int .i64 a3] (eY a0 a1 a2 a3) (fun (r:aB × Bool)=>.tup [fL (aB.cells r.1),dB r.2]):=kD (KL a0 a1 a2 a3) (fun _=>rfl) (fun _=>rfl) (fun _=>rfl)
abbrev qQ (a0:aA) (p2 p4 p6:Int) (p7:List aB):St:=⟨[(1,.ptr 1 0),(5,.own 16 0),(6,dI p2),(7,dI p4),(8,dI p6)],[(1,some (.box (aK a0.cells))),(16,some (.rows 0 34 5 (cM aB.cells p7)))]⟩
theorem GB (a0:aA) (p2 p4 p6:Int) (p7:List aB):bD TT mN (qQ a0 p2 p4 p6 p7) (fun e s=>some (e,s)) = bH (fun (w:Int × (List aB))=>qQ a0 p2 p4 w.1 w.2) (fun (r:(List aB))=>(((.exit 4),⟨[(1,.ptr 1 0),(5,.own 16 0),(6,dI p2),(7,dI p4)],[(1,some (.box (aK a0.cells))),(16,some (.rows 0 34 5 (cM aB.cells r)))]⟩):Ex × St)) (eN a0 p2 p4 p6 p7):=by
 unfold mN eN
 have u:=@KK
 exact i9
theorem GU {β:Type} (a0:aA) (p2 p4 p6:Int) (p7:List aB) (k:Ex->St->Option β):bD TT xL (qQ a0 p2 p4 p6 p7) k = (kN a0 p2 p4 p6 p7).bind (fun (r:(List aB))=>k (.exit 4) ⟨[(1,.ptr 1 0),(5,.own 16 0),(6,dI p2),(7,dI p4)],[(1,some (.box (aK a0.cells))),(16,some (.rows 0 34 5 (cM aB.cells r)))]⟩):=by
 have hh:=fun (w:Int × (List aB))=>GB a0 p2 p4 w.1 w.2
 have h:=fun ho=>aU (T:=TT) (k:=k) (c:=mN) (step:=(fun (w:Int × (List aB))=>eN a0 p2 p4 w.1 w.2)) _ _ ho hh (p6,p7)
 refine Eq.trans (h (fun r s e=>by have q:=congrArg Prod.fst e; rcases r with x <;> cases q)) ?_
 unfold kN
 exact aH _ fun x=>by rcases x with x <;> rfl
abbrev qH (a0:aA) (p2 p4:Int) (p5:List aB):St:=⟨[(1,.ptr 1 0),(5,.own 16 0),(6,dI p2),(7,dI p4)],[(1,some (.box (aK a0.cells))),(16,some (.rows 0 34 5 (cM aB.cells p5)))]⟩
theorem GH (a0:aA) (p2 p4:Int) (p5:List aB):bD TT mE (qH a0 p2 p4 p5) (fun e s=>some (e,s)) = bH (fun (w:Int × (List aB))=>qH a0 p2 w.1 w.2) (fun (r:(List aB))=>(((.exit 2),⟨[(1,.ptr 1 0),(5,.own 16 0),(6,dI p2)],[(1,some (.box (aK a0.cells))),(16,some (.rows 0 34 5 (cM aB.cells r)))]⟩):Ex × St)) (eJ a0 p2 p4 p5):=by
 unfold mE eJ
 have u:=@GU
 exact i9
theorem GG {β:Type} (a0:aA) (p2 p4:Int) (p5:List aB) (k:Ex->St->Option β):bD TT xK (qH a0 p2 p4 p5) k = (kA a0 p2 p4 p5).bind (fun (r:(List aB))=>k (.exit 2) ⟨[(1,.ptr 1 0),(5,.own 16 0),(6,dI p2)],[(1,some (.box (aK a0.cells))),(16,some (.rows 0 34 5 (cM aB.cells r)))]⟩):=by
 have hh:=fun (w:Int × (List aB))=>GH a0 p2 w.1 w.2
 have h:=fun ho=>aU (T:=TT) (k:=k) (c:=mE) (step:=(fun (w:Int × (List aB))=>eJ a0 p2 w.1 w.2)) _ _ ho hh (p4,p5)
 refine Eq.trans (h (fun r s e=>by have q:=congrArg Prod.fst e; rcases r with x <;> cases q)) ?_
 unfold kA
 exact aH _ fun x=>by rcases x with x <;> rfl
abbrev qO (a0:aA) (p2:Int) (p3:List aB):St:=⟨[(1,.ptr 1 0),(5,.own 16 0),(6,dI p2)],[(1,some (.box (aK a0.cells))),(16,some (.rows 0 34 5 (cM aB.cells p3)))]⟩
theorem GI (a0:aA) (p2:Int) (p3:List aB):bD TT mI (qO a0 p2 p3) (fun e s=>some (e,s)) = bH (fun (w:Int × (List aB))=>qO a0 w.1 w.2) (fun (r:(List aB))=>(((.exit 0),⟨[(5,.own 16 0)],[(16,some (.rows 0 34 5 (cM aB.cells r)))]⟩):Ex × St)) (eH a0 p2 p3):=by
 unfold mI eH
 have u:=@GG
 exact i9
theorem GL {β:Type} (a0:aA) (p2:Int) (p3:List aB) (k:Ex->St->Option β):bD TT xU (qO a0 p2 p3) k = (oD a0 p2 p3).bind (fun (r:(List aB))=>k (.exit 0) ⟨[(5,.own 16 0)],[(16,some (.rows 0 34 5 (cM aB.cells r)))]⟩):=by
 have hh:=fun (w:Int × (List aB))=>GI a0 w.1 w.2
 have h:=fun ho=>aU (T:=TT) (k:=k) (c:=mI) (step:=(fun (w:Int × (List aB))=>eH a0 w.1 w.2)) _ _ ho hh (p2,p3)
 refine Eq.trans (h (fun r s e=>by have q:=congrArg Prod.fst e; rcases r with x <;> cases q)) ?_
 unfold oD
 exact aH _ fun x=>by rcases x with x <;> rfl
theorem KC (a0:aA):Vm.call TT 9 [.agg a0.cells] = (e8 a0).map fun (r:(List aB) × Int)=>.tup [.sl (cM aB.cells r.1),.int .i64 r.2]:=by
 refine (aR (show TT 9 = some (.code ⟨1,46,[.tmp 2,.tmp 3],bd9,false,false⟩) from rfl) _ rfl rfl).trans ?_
 show bD TT bd9 ⟨[(0,fL a0.cells)],[]⟩ _ = _
 unfold bd9 e8
 have u:=aN @GL @BH
 exact i9
theorem BI (a0:aA):KD TT 9 [.agg a0.cells] (e8 a0) (fun (r:(List aB) × Int)=>.tup [.d (.sl (cM aB.cells r.1)),dI r.2]):=kD (KC a0) (fun _=>rfl) (fun _=>rfl) (fun _=>rfl)
theorem J0 (a0:aA) (a1:aB):Vm.call TT 12 [.agg a0.cells,.agg a1.cells] = (eS a0 a1).map fun (r:Bool)=>.bool r:=by
 refine (aR (show TT 12 = some (.code ⟨2,35,[.tmp 4],aKQ,false,false⟩) from rfl) _ rfl rfl).trans ?_
 show bD TT aKQ ⟨[(0,fL a0.cells),(1,fL a1.cells)],[]⟩ _ = _
 unfold aKQ eS
 have u:=aN @BH (aN @uW @xW)
 exact i9
theorem KJ (a0:aA) (a1:aB):KF TT 12 [.agg a0.cells,.agg a1.cells] (eS a0 a1) (fun (r:Bool)=>dB r):=kF (J0 a0 a1) (fun _=>rfl) (fun _=>rfl)
theorem KM (a0:aA):Vm.call TT 14 [.agg a0.cells] = (gS a0).map fun (r:Bool)=>.bool r:=by
 refine (aR (show TT 14 = some (.code ⟨1,17,[.tmp 2],aMp,false,false⟩) from rfl) _ rfl rfl).trans ?_
 show bD TT aMp ⟨[(0,fL a0.cells)],[]⟩ _ = _
 unfold aMp gS
 have u:=@BI
 exact i9
theorem J3 (a0:aA):KF TT 14 [.agg a0.cells] (gS a0) (fun (r:Bool)=>dB r):=kF (KM a0) (fun _=>rfl) (fun _=>rfl)
theorem D5 (a0:aA) (a1:aB):Vm.call TT 3 [.agg a0.cells,.agg a1.cells] = (jC a0 a1).map fun (r:Bool)=>.bool r:=by
 refine (aR (show TT 3 = some (.code ⟨2,64,[.tmp 4],bd3,false,false⟩) from rfl) _ rfl rfl).trans ?_
 show bD TT bd3 ⟨[(0,fL a0.cells),(1,fL a1.cells)],[]⟩ _ = _
 unfold bd3 jC
 have u:=aN (aN (aN @J2 @MH) (aN @EB @BI)) (aN (aN @y9 @LB) (aN @KJ (aN @K2 @J3)))
 exact i9
end Go.Proofs.Ytjjcaapdaldedaa
