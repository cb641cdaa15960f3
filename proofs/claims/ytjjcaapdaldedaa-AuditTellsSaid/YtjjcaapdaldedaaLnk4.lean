/- The functions of the small machine compute the plain definitions. Printed by a program. -/
import Derived.Test.YtjjcaapdaldedaaLnk3
set_option linter.unusedVariables false
set_option linter.unusedSimpArgs false
namespace Go.Proofs.Ytjjcaapdaldedaa
open Vm
open Go.RowKit
set_option maxRecDepth 100000
set_option maxHeartbeats 4000000
attribute [local congr] u9 yL vJ yM
abbrev oG (a0 a1:List Int) (p1:Int):St:=⟨[(0,.d (.sl (cM cI a0))),(1,.d (.sl (cM cI a1))),(5,dI p1)],[]⟩
theorem DJ (a0 a1:List Int) (p1:Int):bD TT jZ (oG a0 a1 p1) (fun e s=>some (e,s)) = bH (fun (w:Int)=>oG a0 a1 w) (fun (r:Unit ⊕ Unit)=>Sum.elim (fun (z:Unit)=>(((.exit 0),⟨[],[]⟩):Ex × St)) (fun (z:Unit)=>((.ret,⟨[(4,dB false)],[]⟩):Ex × St)) r) (dA a0 a1 p1):=by
 unfold jZ dA
 exact DF
theorem DG {β:Type} (a0 a1:List Int) (p1:Int) (k:Ex->St->Option β):bD TT uH (oG a0 a1 p1) k = (lS a0 a1 p1).bind (fun (r:Unit ⊕ Unit)=>Sum.elim (fun (z:Unit)=>k (.exit 0) ⟨[],[]⟩) (fun (z:Unit)=>k .ret ⟨[(4,dB false)],[]⟩) r):=by
 have hh:=fun (w:Int)=>DJ a0 a1 w
 have h:=fun ho=>aU (T:=TT) (k:=k) (c:=jZ) (step:=(fun (w:Int)=>dA a0 a1 w)) _ _ ho hh p1
 refine Eq.trans (h (fun r s e=>by have q:=congrArg Prod.fst e; rcases r with x | x <;> cases q)) ?_
 unfold lS
 exact aH _ fun x=>by rcases x with x | x <;> rfl
theorem GZ (a0 a1:List Int):Vm.call TT 27 [.sl (cM cI a0),.sl (cM cI a1)] = (eB a0 a1).map fun (r:Bool)=>.bool r:=by
 refine (aR (show TT 27 = some (.code ⟨2,26,[.tmp 4],aNb,false,false⟩) from rfl) _ rfl rfl).trans ?_
 show bD TT aNb ⟨[(0,.d (.sl (cM cI a0))),(1,.d (.sl (cM cI a1)))],[]⟩ _ = _
 unfold aNb eB
 have u:=@DG
 exact i9
theorem xW (a0 a1:List Int):KF TT 27 [.sl (cM cI a0),.sl (cM cI a1)] (eB a0 a1) (fun (r:Bool)=>dB r):=kF (GZ a0 a1) (fun _=>rfl) (fun _=>rfl)
theorem LE (a0 a1:aB):Vm.call TT 22 [.agg a0.cells,.agg a1.cells] = (mC a0 a1).map fun (r:Bool)=>.bool r:=by
 refine (aR (show TT 22 = some (.code ⟨2,38,[.tmp 4],aKz,false,false⟩) from rfl) _ rfl rfl).trans ?_
 show bD TT aKz ⟨[(0,fL a0.cells),(1,fL a1.cells)],[]⟩ _ = _
 unfold aKz mC
 have u:=@xW
 exact i9
theorem KW (a0 a1:aB):KF TT 22 [.agg a0.cells,.agg a1.cells] (mC a0 a1) (fun (r:Bool)=>dB r):=kF (LE a0 a1) (fun _=>rfl) (fun _=>rfl)
abbrev oU (a0 a1:List aB) (p1:Int):St:=⟨[(0,.d (.sl (cM aB.cells a0))),(1,.d (.sl (cM aB.cells a1))),(5,dI p1)],[]⟩
theorem EQ (a0 a1:List aB) (p1:Int):bD TT k7 (oU a0 a1 p1) (fun e s=>some (e,s)) = bH (fun (w:Int)=>oU a0 a1 w) (fun (r:Unit ⊕ Unit)=>Sum.elim (fun (z:Unit)=>(((.exit 0),⟨[],[]⟩):Ex × St)) (fun (z:Unit)=>((.ret,⟨[(4,dB false)],[]⟩):Ex × St)) r) (dK a0 a1 p1):=by
 unfold k7 dK
 have u:=@KW
 exact i9
theorem EP {β:Type} (a0 a1:List aB) (p1:Int) (k:Ex->St->Option β):bD TT uY (oU a0 a1 p1) k = (mF a0 a1 p1).bind (fun (r:Unit ⊕ Unit)=>Sum.elim (fun (z:Unit)=>k (.exit 0) ⟨[],[]⟩) (fun (z:Unit)=>k .ret ⟨[(4,dB false)],[]⟩) r):=by
 have hh:=fun (w:Int)=>EQ a0 a1 w
 have h:=fun ho=>aU (T:=TT) (k:=k) (c:=k7) (step:=(fun (w:Int)=>dK a0 a1 w)) _ _ ho hh p1
 refine Eq.trans (h (fun r s e=>by have q:=congrArg Prod.fst e; rcases r with x | x <;> cases q)) ?_
 unfold mF
 exact aH _ fun x=>by rcases x with x | x <;> rfl
theorem HK (a0 a1:List aB):Vm.call TT 10 [.sl (cM aB.cells a0),.sl (cM aB.cells a1)] = (gT a0 a1).map fun (r:Bool)=>.bool r:=by
 refine (aR (show TT 10 = some (.code ⟨2,27,[.tmp 4],aL3,false,false⟩) from rfl) _ rfl rfl).trans ?_
 show bD TT aL3 ⟨[(0,.d (.sl (cM aB.cells a0))),(1,.d (.sl (cM aB.cells a1)))],[]⟩ _ = _
 unfold aL3 gT
 have u:=@EP
 exact i9
theorem y9 (a0 a1:List aB):KF TT 10 [.sl (cM aB.cells a0),.sl (cM aB.cells a1)] (gT a0 a1) (fun (r:Bool)=>dB r):=kF (HK a0 a1) (fun _=>rfl) (fun _=>rfl)
theorem J4 (a0 a1:Int):Vm.call TT 67 [.int .i64 a0,.ptr [.int .i64 a1] 0] = (nV a0 a1).map fun (r:Bool)=>.bool r:=by
 refine (aR (show TT 67 = some (.code ⟨2,11,[.tmp 3],aKW,false,false⟩) from rfl) _ rfl rfl).trans ?_
 show bD TT aKW ⟨[(0,dI a0),(1,.d (.ptr [.int .i64 a1] 0))],[]⟩ _ = _
 unfold aKW nV
 exact DF
theorem J6 (a0 a1:Int):KF TT 67 [.int .i64 a0,.ptr [.int .i64 a1] 0] (nV a0 a1) (fun (r:Bool)=>dB r):=kF (J4 a0 a1) (fun _=>rfl) (fun _=>rfl)
abbrev j5 (a0:List Int) (a1 p1:Int):St:=⟨[(0,.d (.sl (cM cI a0))),(1,.d (.fn 67 [.ptr [.int .i64 a1] 0])),(7,dI (a0.length:Int)),(8,dI p1)],[]⟩
theorem zV (a0:List Int) (a1 p1:Int):bD TT iP (j5 a0 a1 p1) (fun e s=>some (e,s)) = bH (fun (w:Int)=>j5 a0 a1 w) (fun (r:Unit ⊕ Int)=>Sum.elim (fun (z:Unit)=>(((.exit 0),⟨[],[]⟩):Ex × St)) (fun (z:Int)=>((.ret,⟨[(4,dI z)],[]⟩):Ex × St)) r) (bR a0 a1 p1):=by
 unfold iP bR
 have u:=@J6
 exact i9
theorem zX {β:Type} (a0:List Int) (a1 p1:Int) (k:Ex->St->Option β):bD TT rX (j5 a0 a1 p1) k = (iB a0 a1 p1).bind (fun (r:Unit ⊕ Int)=>Sum.elim (fun (z:Unit)=>k (.exit 0) ⟨[],[]⟩) (fun (z:Int)=>k .ret ⟨[(4,dI z)],[]⟩) r):=by
 have hh:=fun (w:Int)=>zV a0 a1 w
 have h:=fun ho=>aU (T:=TT) (k:=k) (c:=iP) (step:=(fun (w:Int)=>bR a0 a1 w)) _ _ ho hh p1
 refine Eq.trans (h (fun r s e=>by have q:=congrArg Prod.fst e; rcases r with x | x <;> cases q)) ?_
 unfold iB
 exact aH _ fun x=>by rcases x with x | x <;> rfl
theorem BL (a0:List Int) (a1:Int):Vm.call TT 77 [.sl (cM cI a0),.fn 67 [.ptr [.int .i64 a1] 0]] = (gJ a0 a1).map fun (r:Int)=>.int .i64 r:=by
 refine (aR (show TT 77 = some (.code ⟨2,19,[.tmp 4],aNw,false,false⟩) from rfl) _ rfl rfl).trans ?_
 show bD TT aNw ⟨[(0,.d (.sl (cM cI a0))),(1,.d (.fn 67 [.ptr [.int .i64 a1] 0]))],[]⟩ _ = _
 unfold aNw gJ
 have u:=@zX
 exact i9
theorem B4 (a0:List Int) (a1:Int):KF TT 77 [.sl (cM cI a0),.fn 67 [.ptr [.int .i64 a1] 0]] (gJ a0 a1) (fun (r:Int)=>dI r):=kF (BL a0 a1) (fun _=>rfl) (fun _=>rfl)
theorem zW (a0:List Int) (a1:Int):Vm.call TT 66 [.sl (cM cI a0),.fn 67 [.ptr [.int .i64 a1] 0]] = (c8 a0 a1).map fun (r:Bool)=>.bool r:=by
 refine (aR (show TT 66 = some (.code ⟨2,9,[.tmp 4],aKs,false,false⟩) from rfl) _ rfl rfl).trans ?_
 show bD TT aKs ⟨[(0,.d (.sl (cM cI a0))),(1,.d (.fn 67 [.ptr [.int .i64 a1] 0]))],[]⟩ _ = _
 unfold aKs c8
 have u:=@B4
 exact i9
theorem zY (a0:List Int) (a1:Int):KF TT 66 [.sl (cM cI a0),.fn 67 [.ptr [.int .i64 a1] 0]] (c8 a0 a1) (fun (r:Bool)=>dB r):=kF (zW a0 a1) (fun _=>rfl) (fun _=>rfl)
theorem RZ (a0:aA) (a1 a2:Int) (a3:List Int):Vm.call TT 51 [.agg a0.cells,.int .i64 a1,.int .i64 a2,.sl (cM cI a3)] = (oV a0 a1 a2 a3).map fun (r:Bool)=>.bool r:=by
 refine (aR (show TT 51 = some (.code ⟨4,37,[.tmp 8],aLp,false,false⟩) from rfl) _ rfl rfl).trans ?_
 show bD TT aLp ⟨[(0,fL a0.cells),(1,dI a1),(2,dI a2),(3,.d (.sl (cM cI a3)))],[]⟩ _ = _
 unfold aLp oV
 have u:=@zY
 exact i9
theorem HU (a0:aA) (a1 a2:Int) (a3:List Int):KF TT 51 [.agg a0.cells,.int .i64 a1,.int .i64 a2,.sl (cM cI a3)] (oV a0 a1 a2 a3) (fun (r:Bool)=>dB r):=kF (RZ a0 a1 a2 a3) (fun _=>rfl) (fun _=>rfl)
abbrev vF (a1 a2:Int) (a3:List Int) (x2:aG) (p3:Int):St:=⟨[(1,dI a1),(2,dI a2),(3,.d (.sl (cM cI a3))),(23,.d (.sl (cM aM.cells x2.Choices))),(24,dI (x2.Choices.length:Int)),(25,dI p3)],[]⟩
theorem KX (a1 a2:Int) (a3:List Int) (x2:aG) (p3:Int):bD TT qG (vF a1 a2 a3 x2 p3) (fun e s=>some (e,s)) = bH (fun (w:Int)=>vF a1 a2 a3 x2 w) (fun (r:Unit ⊕ (Int × Bool))=>Sum.elim (fun (z:Unit)=>(((.exit 0),⟨[(1,dI a1)],[]⟩):Ex × St)) (fun (z:Int × Bool)=>((.ret,⟨[(8,dI z.1),(9,dB z.2)],[]⟩):Ex × St)) r) (iE a1 a2 a3 x2 p3):=by
 unfold qG iE
 exact DF
theorem LN {β:Type} (a1 a2:Int) (a3:List Int) (x2:aG) (p3:Int) (k:Ex->St->Option β):bD TT CI (vF a1 a2 a3 x2 p3) k = (sU a1 a2 a3 x2 p3).bind (fun (r:Unit ⊕ (Int × Bool))=>Sum.elim (fun (z:Unit)=>k (.exit 0) ⟨[(1,dI a1)],[]⟩) (fun (z:Int × Bool)=>k .ret ⟨[(8,dI z.1),(9,dB z.2)],[]⟩) r):=by
 have hh:=fun (w:Int)=>KX a1 a2 a3 x2 w
 have h:=fun ho=>aU (T:=TT) (k:=k) (c:=qG) (step:=(fun (w:Int)=>iE a1 a2 a3 x2 w)) _ _ ho hh p3
 refine Eq.trans (h (fun r s e=>by have q:=congrArg Prod.fst e; rcases r with x | x <;> cases q)) ?_
 unfold sU
 exact aH _ fun x=>by rcases x with x | x <;> rfl
theorem PY (a0:aA) (a1 a2:Int) (a3:List Int):Vm.call TT 52 [.agg a0.cells,.int .i64 a1,.int .i64 a2,.sl (cM cI a3)] = (pN a0 a1 a2 a3).map fun (r:Int × Bool)=>.tup [.int .i64 r.1,.bool r.2]:=by
 refine (aR (show TT 52 = some (.code ⟨4,47,[.tmp 8,.tmp 9],aMX,false,false⟩) from rfl) _ rfl rfl).trans ?_
 show bD TT aMX ⟨[(0,fL a0.cells),(1,dI a1),(2,dI a2),(3,.d (.sl (cM cI a3)))],[]⟩ _ = _
 unfold aMX pN
 have u:=aN @LN @HU
 exact i9
theorem Q2 (a0:aA) (a1 a2:Int) (a3:List Int):KF TT 52 [.agg a0.cells,.int .i64 a1,.int .i64 a2,.sl (cM cI a3)] (pN a0 a1 a2 a3) (fun (r:Int × Bool)=>.tup [dI r.1,dB r.2]):=kF (PY a0 a1 a2 a3) (fun _=>rfl) (fun _=>rfl)
abbrev yW (a0:aA) (a2:Int) (a3 p3:List Int):St:=⟨[(2,dI a2),(3,.d (.sl (cM cI a3))),(4,.ptr 4 0),(10,.own 29 0)],[(4,some (.box (aK a0.cells))),(29,some (.rows 0 3 1 (cM cI p3)))]⟩
theorem OS (a0:aA) (a2:Int) (a3 p3:List Int):bD TT tE (yW a0 a2 a3 p3) (fun e s=>some (e,s)) = bH (fun (w:(List Int))=>yW a0 a2 a3 w) (fun (r:Int × (List Int))=>((.ret,⟨[(8,.own 29 0),(9,dI r.1)],[(29,some (.rows 0 3 1 (cM cI r.2)))]⟩):Ex × St)) (mD a0 a2 a3 p3):=by
 unfold tE mD
 have u:=aN @kU @Q2
 exact i9
theorem OA {β:Type} (a0:aA) (a2:Int) (a3 p3:List Int) (k:Ex->St->Option β):bD TT DY (yW a0 a2 a3 p3) k = (vV a0 a2 a3 p3).bind (fun (r:Int × (List Int))=>k .ret ⟨[(8,.own 29 0),(9,dI r.1)],[(29,some (.rows 0 3 1 (cM cI r.2)))]⟩):=by
 have hh:=fun (w:(List Int))=>OS a0 a2 a3 w
 have h:=fun ho=>aU (T:=TT) (k:=k) (c:=tE) (step:=(fun (w:(List Int))=>mD a0 a2 a3 w)) _ _ ho hh p3
 refine Eq.trans (h (fun r s e=>by have q:=congrArg Prod.fst e; rcases r with x <;> cases q)) ?_
 unfold vV
 exact aH _ fun x=>by rcases x with x <;> rfl
theorem TN (a0:aA) (a1 a2:Int) (a3:List Int):Vm.call TT 23 [.agg a0.cells,.int .i64 a1,.int .i64 a2,.sl (cM cI a3)] = (oL a0 a1 a2 a3).map fun (r:(List Int) × Int)=>.tup [.sl (cM cI r.1),.int .i64 r.2]:=by
 refine (aR (show TT 23 = some (.code ⟨4,73,[.tmp 8,.tmp 9],aLt,false,false⟩) from rfl) _ rfl rfl).trans ?_
 show bD TT aLt ⟨[(0,fL a0.cells),(1,dI a1),(2,dI a2),(3,.d (.sl (cM cI a3)))],[]⟩ _ = _
 unfold aLt oL
 have u:=aN @OA @HU
 exact i9
theorem TQ (a0:aA) (a1 a2:Int) (a3:List Int):KD TT 23 [.agg a0.cells,.int .i64 a1,.int .i64 a2,.sl (cM cI a3)] (oL a0 a1 a2 a3) (fun (r:(List Int) × Int)=>.tup [.d (.sl (cM cI r.1)),dI r.2]):=kD (TN a0 a1 a2 a3) (fun _=>rfl) (fun _=>rfl) (fun _=>rfl)
abbrev oY (a0 a1:List Int) (p1:Int):St:=⟨[(0,.d (.sl (cM cI a0))),(1,.d (.sl (cM cI a1))),(12,dI (a0.length:Int)),(13,dI p1)],[]⟩
theorem EN (a0 a1:List Int) (p1:Int):bD TT kR (oY a0 a1 p1) (fun e s=>some (e,s)) = bH (fun (w:Int)=>oY a0 a1 w) (fun (r:Unit ⊕ Unit)=>Sum.elim (fun (z:Unit)=>(((.exit 0),⟨[],[]⟩):Ex × St)) (fun (z:Unit)=>((.ret,⟨[(4,dB false)],[]⟩):Ex × St)) r) (dM a0 a1 p1):=by
 unfold kR dM
 exact DF
theorem ES {β:Type} (a0 a1:List Int) (p1:Int) (k:Ex->St->Option β):bD TT vC (oY a0 a1 p1) k = (mG a0 a1 p1).bind (fun (r:Unit ⊕ Unit)=>Sum.elim (fun (z:Unit)=>k (.exit 0) ⟨[],[]⟩) (fun (z:Unit)=>k .ret ⟨[(4,dB false)],[]⟩) r):=by
 have hh:=fun (w:Int)=>EN a0 a1 w
 have h:=fun ho=>aU (T:=TT) (k:=k) (c:=kR) (step:=(fun (w:Int)=>dM a0 a1 w)) _ _ ho hh p1
 refine Eq.trans (h (fun r s e=>by have q:=congrArg Prod.fst e; rcases r with x | x <;> cases q)) ?_
 unfold mG
 exact aH _ fun x=>by rcases x with x | x <;> rfl
theorem HE (a0 a1:List Int):Vm.call TT 24 [.sl (cM cI a0),.sl (cM cI a1)] = (gW a0 a1).map fun (r:Bool)=>.bool r:=by
 refine (aR (show TT 24 = some (.code ⟨2,26,[.tmp 4],aMY,false,false⟩) from rfl) _ rfl rfl).trans ?_
 show bD TT aMY ⟨[(0,.d (.sl (cM cI a0))),(1,.d (.sl (cM cI a1)))],[]⟩ _ = _
 unfold aMY gW
 have u:=@ES
 exact i9
theorem HI (a0 a1:List Int):KF TT 24 [.sl (cM cI a0),.sl (cM cI a1)] (gW a0 a1) (fun (r:Bool)=>dB r):=kF (HE a0 a1) (fun _=>rfl) (fun _=>rfl)
theorem PN {β:Type} (a0:aA) (a1:aB) (r2:(List Int) × Int) (k:Ex->St->Option β):bD TT A7 ⟨[(2,.ptr 2 0),(3,.ptr 3 0),(5,.d (.sl (cM cI r2.1))),(6,dI r2.2)],[(2,some (.box (aK a0.cells))),(3,some (.box (aK a1.cells)))]⟩ k = (pO a0 a1 r2).bind (fun (r:Bool)=>k .ret ⟨[(4,dB r)],[]⟩):=by
 unfold A7 pO
 have u:=@jE
 exact i9
theorem EX (a0:aA) (a1:aB):Vm.call TT 11 [.agg a0.cells,.agg a1.cells] = (fX a0 a1).map fun (r:Bool)=>.bool r:=by
 refine (aR (show TT 11 = some (.code ⟨2,58,[.tmp 4],aKT,false,false⟩) from rfl) _ rfl rfl).trans ?_
 show bD TT aKT ⟨[(0,fL a0.cells),(1,fL a1.cells)],[]⟩ _ = _
 unfold aKT fX
 have u:=aN (aN @PN @K0) (aN @TQ @HI)
 exact i9
theorem LB (a0:aA) (a1:aB):KF TT 11 [.agg a0.cells,.agg a1.cells] (fX a0 a1) (fun (r:Bool)=>dB r):=kF (EX a0 a1) (fun _=>rfl) (fun _=>rfl)
theorem LD (a0:aA):Vm.call TT 13 [.agg a0.cells] = (oA a0).map fun (r:Bool)=>.bool r:=by
 refine (aR (show TT 13 = some (.code ⟨1,17,[.tmp 2],aL2,false,false⟩) from rfl) _ rfl rfl).trans ?_
 show bD TT aL2 ⟨[(0,fL a0.cells)],[]⟩ _ = _
 unfold aL2 oA
 have u:=@EB
 exact i9
theorem K2 (a0:aA):KF TT 13 [.agg a0.cells] (oA a0) (fun (r:Bool)=>dB r):=kF (LD a0) (fun _=>rfl) (fun _=>rfl)
end Go.Proofs.Ytjjcaapdaldedaa
