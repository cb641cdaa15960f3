/- The functions of the small machine compute the plain definitions. Printed by a program. -/
import Derived.Test.YtjjcaapdaldedaaLnk3
set_option linter.unusedVariables false
set_option linter.unusedSimpArgs false
namespace Go.Proofs.Ytjjcaapdaldedaa
open Vm
open Go.RowKit
set_option maxRecDepth 100000
set_option maxHeartbeats 4000000
attribute [local congr] yV A7 yK BL
abbrev lW (a0 a1:List Int) (p1:Int):St:=⟨[(0,.d (.sl (cM cI a0))),(1,.d (.sl (cM cI a1))),(5,dI p1)],[]⟩
theorem AQ (a0 a1:List Int) (p1:Int):bP TT iN (lW a0 a1 p1) (fun e s=>some (e,s)) = cU (fun (w:Int)=>lW a0 a1 w) (fun (r:Unit ⊕ Unit)=>Sum.elim (fun (z:Unit)=>(((.exit 0),⟨[],[]⟩):Ex × St)) (fun (z:Unit)=>((.ret,⟨[(4,dB false)],[]⟩):Ex × St)) r) (iM a0 a1 p1):=by
 unfold iN iM
 exact CH
theorem AR {β:Type} (a0 a1:List Int) (p1:Int) (k:Ex->St->Option β):bP TT rG (lW a0 a1 p1) k = (mT a0 a1 p1).bind (fun (r:Unit ⊕ Unit)=>Sum.elim (fun (z:Unit)=>k (.exit 0) ⟨[],[]⟩) (fun (z:Unit)=>k .ret ⟨[(4,dB false)],[]⟩) r):=by
 have hh:=fun (w:Int)=>AQ a0 a1 w
 have h:=fun ho=>aZ (T:=TT) (k:=k) (c:=iN) (step:=(fun (w:Int)=>iM a0 a1 w)) _ _ ho hh p1
 refine Eq.trans (h (fun r s e=>by have q:=congrArg Prod.fst e; rcases r with x | x <;> cases q)) ?_
 unfold mT
 exact aL _ fun x=>by rcases x with x | x <;> rfl
theorem C4 (a0 a1:List Int):Vm.call TT 27 [.sl (cM cI a0),.sl (cM cI a1)] = (iV a0 a1).map fun (r:Bool)=>.bool r:=by
 refine (bE (show TT 27 = some (.code ⟨2,26,[.tmp 4],aJw,false,false⟩) from rfl) _ rfl rfl).trans ?_
 show bP TT aJw ⟨[(0,.d (.sl (cM cI a0))),(1,.d (.sl (cM cI a1)))],[]⟩ _ = _
 unfold aJw iV
 have u:=@AR
 exact nQ
theorem CZ (a0 a1:List Int):KF TT 27 [.sl (cM cI a0),.sl (cM cI a1)] (iV a0 a1) (fun (r:Bool)=>dB r):=kF (C4 a0 a1) (fun _=>rfl) (fun _=>rfl)
theorem FY (a0 a1:aA):Vm.call TT 22 [.agg a0.cells,.agg a1.cells] = (pS a0 a1).map fun (r:Bool)=>.bool r:=by
 refine (bE (show TT 22 = some (.code ⟨2,38,[.tmp 4],aHF,false,false⟩) from rfl) _ rfl rfl).trans ?_
 show bP TT aHF ⟨[(0,jQ a0.cells),(1,jQ a1.cells)],[]⟩ _ = _
 unfold aHF pS
 have u:=@CZ
 exact nQ
theorem F1 (a0 a1:aA):KF TT 22 [.agg a0.cells,.agg a1.cells] (pS a0 a1) (fun (r:Bool)=>dB r):=kF (FY a0 a1) (fun _=>rfl) (fun _=>rfl)
abbrev mK (a0 a1:List aA) (p1:Int):St:=⟨[(0,.d (.sl (cM aA.cells a0))),(1,.d (.sl (cM aA.cells a1))),(5,dI p1)],[]⟩
theorem BH (a0 a1:List aA) (p1:Int):bP TT jF (mK a0 a1 p1) (fun e s=>some (e,s)) = cU (fun (w:Int)=>mK a0 a1 w) (fun (r:Unit ⊕ Unit)=>Sum.elim (fun (z:Unit)=>(((.exit 0),⟨[],[]⟩):Ex × St)) (fun (z:Unit)=>((.ret,⟨[(4,dB false)],[]⟩):Ex × St)) r) (i5 a0 a1 p1):=by
 unfold jF i5
 have u:=@F1
 exact nQ
theorem BQ {β:Type} (a0 a1:List aA) (p1:Int) (k:Ex->St->Option β):bP TT sK (mK a0 a1 p1) k = (nK a0 a1 p1).bind (fun (r:Unit ⊕ Unit)=>Sum.elim (fun (z:Unit)=>k (.exit 0) ⟨[],[]⟩) (fun (z:Unit)=>k .ret ⟨[(4,dB false)],[]⟩) r):=by
 have hh:=fun (w:Int)=>BH a0 a1 w
 have h:=fun ho=>aZ (T:=TT) (k:=k) (c:=jF) (step:=(fun (w:Int)=>i5 a0 a1 w)) _ _ ho hh p1
 refine Eq.trans (h (fun r s e=>by have q:=congrArg Prod.fst e; rcases r with x | x <;> cases q)) ?_
 unfold nK
 exact aL _ fun x=>by rcases x with x | x <;> rfl
theorem DB (a0 a1:List aA):Vm.call TT 10 [.sl (cM aA.cells a0),.sl (cM aA.cells a1)] = (mQ a0 a1).map fun (r:Bool)=>.bool r:=by
 refine (bE (show TT 10 = some (.code ⟨2,27,[.tmp 4],aHx,false,false⟩) from rfl) _ rfl rfl).trans ?_
 show bP TT aHx ⟨[(0,.d (.sl (cM aA.cells a0))),(1,.d (.sl (cM aA.cells a1)))],[]⟩ _ = _
 unfold aHx mQ
 have u:=@BQ
 exact nQ
theorem DG (a0 a1:List aA):KF TT 10 [.sl (cM aA.cells a0),.sl (cM aA.cells a1)] (mQ a0 a1) (fun (r:Bool)=>dB r):=kF (DB a0 a1) (fun _=>rfl) (fun _=>rfl)
theorem FC (a0 a1:Int):Vm.call TT 67 [.int .i64 a0,.ptr [.int .i64 a1] 0] = (nY a0 a1).map fun (r:Bool)=>.bool r:=by
 refine (bE (show TT 67 = some (.code ⟨2,11,[.tmp 3],aHR,false,false⟩) from rfl) _ rfl rfl).trans ?_
 show bP TT aHR ⟨[(0,dI a0),(1,.d (.ptr [.int .i64 a1] 0))],[]⟩ _ = _
 unfold aHR nY
 exact CH
theorem FF (a0 a1:Int):KF TT 67 [.int .i64 a0,.ptr [.int .i64 a1] 0] (nY a0 a1) (fun (r:Bool)=>dB r):=kF (FC a0 a1) (fun _=>rfl) (fun _=>rfl)
abbrev iR (a0:List Int) (a1 p1:Int):St:=⟨[(0,.d (.sl (cM cI a0))),(1,.d (.fn 67 [.ptr [.int .i64 a1] 0])),(7,dI (a0.length:Int)),(8,dI p1)],[]⟩
theorem wB (a0:List Int) (a1 p1:Int):bP TT gM (iR a0 a1 p1) (fun e s=>some (e,s)) = cU (fun (w:Int)=>iR a0 a1 w) (fun (r:Unit ⊕ Int)=>Sum.elim (fun (z:Unit)=>(((.exit 0),⟨[],[]⟩):Ex × St)) (fun (z:Int)=>((.ret,⟨[(4,dI z)],[]⟩):Ex × St)) r) (fJ a0 a1 p1):=by
 unfold gM fJ
 have u:=@FF
 exact nQ
theorem wA {β:Type} (a0:List Int) (a1 p1:Int) (k:Ex->St->Option β):bP TT oQ (iR a0 a1 p1) k = (jV a0 a1 p1).bind (fun (r:Unit ⊕ Int)=>Sum.elim (fun (z:Unit)=>k (.exit 0) ⟨[],[]⟩) (fun (z:Int)=>k .ret ⟨[(4,dI z)],[]⟩) r):=by
 have hh:=fun (w:Int)=>wB a0 a1 w
 have h:=fun ho=>aZ (T:=TT) (k:=k) (c:=gM) (step:=(fun (w:Int)=>fJ a0 a1 w)) _ _ ho hh p1
 refine Eq.trans (h (fun r s e=>by have q:=congrArg Prod.fst e; rcases r with x | x <;> cases q)) ?_
 unfold jV
 exact aL _ fun x=>by rcases x with x | x <;> rfl
theorem xX (a0:List Int) (a1:Int):Vm.call TT 77 [.sl (cM cI a0),.fn 67 [.ptr [.int .i64 a1] 0]] = (iG a0 a1).map fun (r:Int)=>.int .i64 r:=by
 refine (bE (show TT 77 = some (.code ⟨2,19,[.tmp 4],aHj,false,false⟩) from rfl) _ rfl rfl).trans ?_
 show bP TT aHj ⟨[(0,.d (.sl (cM cI a0))),(1,.d (.fn 67 [.ptr [.int .i64 a1] 0]))],[]⟩ _ = _
 unfold aHj iG
 have u:=@wA
 exact nQ
theorem xU (a0:List Int) (a1:Int):KF TT 77 [.sl (cM cI a0),.fn 67 [.ptr [.int .i64 a1] 0]] (iG a0 a1) (fun (r:Int)=>dI r):=kF (xX a0 a1) (fun _=>rfl) (fun _=>rfl)
theorem wC (a0:List Int) (a1:Int):Vm.call TT 66 [.sl (cM cI a0),.fn 67 [.ptr [.int .i64 a1] 0]] = (gF a0 a1).map fun (r:Bool)=>.bool r:=by
 refine (bE (show TT 66 = some (.code ⟨2,9,[.tmp 4],aIh,false,false⟩) from rfl) _ rfl rfl).trans ?_
 show bP TT aIh ⟨[(0,.d (.sl (cM cI a0))),(1,.d (.fn 67 [.ptr [.int .i64 a1] 0]))],[]⟩ _ = _
 unfold aIh gF
 have u:=@xU
 exact nQ
theorem v9 (a0:List Int) (a1:Int):KF TT 66 [.sl (cM cI a0),.fn 67 [.ptr [.int .i64 a1] 0]] (gF a0 a1) (fun (r:Bool)=>dB r):=kF (wC a0 a1) (fun _=>rfl) (fun _=>rfl)
theorem MA (a0:aB) (a1 a2:Int) (a3:List Int):Vm.call TT 51 [.agg a0.cells,.int .i64 a1,.int .i64 a2,.sl (cM cI a3)] = (sI a0 a1 a2 a3).map fun (r:Bool)=>.bool r:=by
 refine (bE (show TT 51 = some (.code ⟨4,37,[.tmp 8],aH8,false,false⟩) from rfl) _ rfl rfl).trans ?_
 show bP TT aH8 ⟨[(0,jQ a0.cells),(1,dI a1),(2,dI a2),(3,.d (.sl (cM cI a3)))],[]⟩ _ = _
 unfold aH8 sI
 have u:=@v9
 exact nQ
theorem DE (a0:aB) (a1 a2:Int) (a3:List Int):KF TT 51 [.agg a0.cells,.int .i64 a1,.int .i64 a2,.sl (cM cI a3)] (sI a0 a1 a2 a3) (fun (r:Bool)=>dB r):=kF (MA a0 a1 a2 a3) (fun _=>rfl) (fun _=>rfl)
abbrev sG (a1 a2:Int) (a3:List Int) (x2:aC) (p3:Int):St:=⟨[(1,dI a1),(2,dI a2),(3,.d (.sl (cM cI a3))),(23,.d (.sl (cM aK.cells x2.Choices))),(24,dI (x2.Choices.length:Int)),(25,dI p3)],[]⟩
theorem GB (a1 a2:Int) (a3:List Int) (x2:aC) (p3:Int):bP TT m8 (sG a1 a2 a3 x2 p3) (fun e s=>some (e,s)) = cU (fun (w:Int)=>sG a1 a2 a3 x2 w) (fun (r:Unit ⊕ (Int × Bool))=>Sum.elim (fun (z:Unit)=>(((.exit 0),⟨[(1,dI a1)],[]⟩):Ex × St)) (fun (z:Int × Bool)=>((.ret,⟨[(8,dI z.1),(9,dB z.2)],[]⟩):Ex × St)) r) (m6 a1 a2 a3 x2 p3):=by
 unfold m8 m6
 exact CH
theorem F5 {β:Type} (a1 a2:Int) (a3:List Int) (x2:aC) (p3:Int) (k:Ex->St->Option β):bP TT yG (sG a1 a2 a3 x2 p3) k = (vK a1 a2 a3 x2 p3).bind (fun (r:Unit ⊕ (Int × Bool))=>Sum.elim (fun (z:Unit)=>k (.exit 0) ⟨[(1,dI a1)],[]⟩) (fun (z:Int × Bool)=>k .ret ⟨[(8,dI z.1),(9,dB z.2)],[]⟩) r):=by
 have hh:=fun (w:Int)=>GB a1 a2 a3 x2 w
 have h:=fun ho=>aZ (T:=TT) (k:=k) (c:=m8) (step:=(fun (w:Int)=>m6 a1 a2 a3 x2 w)) _ _ ho hh p3
 refine Eq.trans (h (fun r s e=>by have q:=congrArg Prod.fst e; rcases r with x | x <;> cases q)) ?_
 unfold vK
 exact aL _ fun x=>by rcases x with x | x <;> rfl
theorem LA (a0:aB) (a1 a2:Int) (a3:List Int):Vm.call TT 52 [.agg a0.cells,.int .i64 a1,.int .i64 a2,.sl (cM cI a3)] = (uV a0 a1 a2 a3).map fun (r:Int × Bool)=>.tup [.int .i64 r.1,.bool r.2]:=by
 refine (bE (show TT 52 = some (.code ⟨4,47,[.tmp 8,.tmp 9],aHr,false,false⟩) from rfl) _ rfl rfl).trans ?_
 show bP TT aHr ⟨[(0,jQ a0.cells),(1,dI a1),(2,dI a2),(3,.d (.sl (cM cI a3)))],[]⟩ _ = _
 unfold aHr uV
 have u:=aN @F5 @DE
 exact nQ
theorem LS (a0:aB) (a1 a2:Int) (a3:List Int):KF TT 52 [.agg a0.cells,.int .i64 a1,.int .i64 a2,.sl (cM cI a3)] (uV a0 a1 a2 a3) (fun (r:Int × Bool)=>.tup [dI r.1,dB r.2]):=kF (LA a0 a1 a2 a3) (fun _=>rfl) (fun _=>rfl)
abbrev vL (a0:aB) (a2:Int) (a3 p3:List Int):St:=⟨[(2,dI a2),(3,.d (.sl (cM cI a3))),(4,.ptr 4 0),(10,.own 29 0)],[(4,some (.box (aR a0.cells))),(29,some (.rows 0 3 1 (cM cI p3)))]⟩
theorem JN (a0:aB) (a2:Int) (a3 p3:List Int):bP TT pY (vL a0 a2 a3 p3) (fun e s=>some (e,s)) = cU (fun (w:(List Int))=>vL a0 a2 a3 w) (fun (r:Int × (List Int))=>((.ret,⟨[(8,.own 29 0),(9,dI r.1)],[(29,some (.rows 0 3 1 (cM cI r.2)))]⟩):Ex × St)) (pX a0 a2 a3 p3):=by
 unfold pY pX
 have u:=aN @iU @LS
 exact nQ
theorem I0 {β:Type} (a0:aB) (a2:Int) (a3 p3:List Int) (k:Ex->St->Option β):bP TT A9 (vL a0 a2 a3 p3) k = (xZ a0 a2 a3 p3).bind (fun (r:Int × (List Int))=>k .ret ⟨[(8,.own 29 0),(9,dI r.1)],[(29,some (.rows 0 3 1 (cM cI r.2)))]⟩):=by
 have hh:=fun (w:(List Int))=>JN a0 a2 a3 w
 have h:=fun ho=>aZ (T:=TT) (k:=k) (c:=pY) (step:=(fun (w:(List Int))=>pX a0 a2 a3 w)) _ _ ho hh p3
 refine Eq.trans (h (fun r s e=>by have q:=congrArg Prod.fst e; rcases r with x <;> cases q)) ?_
 unfold xZ
 exact aL _ fun x=>by rcases x with x <;> rfl
theorem OT (a0:aB) (a1 a2:Int) (a3:List Int):Vm.call TT 23 [.agg a0.cells,.int .i64 a1,.int .i64 a2,.sl (cM cI a3)] = (yE a0 a1 a2 a3).map fun (r:(List Int) × Int)=>.tup [.sl (cM cI r.1),.int .i64 r.2]:=by
 refine (bE (show TT 23 = some (.code ⟨4,73,[.tmp 8,.tmp 9],aHy,false,false⟩) from rfl) _ rfl rfl).trans ?_
 show bP TT aHy ⟨[(0,jQ a0.cells),(1,dI a1),(2,dI a2),(3,.d (.sl (cM cI a3)))],[]⟩ _ = _
 unfold aHy yE
 have u:=aN @I0 @DE
 exact nQ
theorem OL (a0:aB) (a1 a2:Int) (a3:List Int):KD TT 23 [.agg a0.cells,.int .i64 a1,.int .i64 a2,.sl (cM cI a3)] (yE a0 a1 a2 a3) (fun (r:(List Int) × Int)=>.tup [.d (.sl (cM cI r.1)),dI r.2]):=kD (OT a0 a1 a2 a3) (fun _=>rfl) (fun _=>rfl) (fun _=>rfl)
abbrev mI (a0 a1:List Int) (p1:Int):St:=⟨[(0,.d (.sl (cM cI a0))),(1,.d (.sl (cM cI a1))),(12,dI (a0.length:Int)),(13,dI p1)],[]⟩
theorem BW (a0 a1:List Int) (p1:Int):bP TT i9 (mI a0 a1 p1) (fun e s=>some (e,s)) = cU (fun (w:Int)=>mI a0 a1 w) (fun (r:Unit ⊕ Unit)=>Sum.elim (fun (z:Unit)=>(((.exit 0),⟨[],[]⟩):Ex × St)) (fun (z:Unit)=>((.ret,⟨[(4,dB false)],[]⟩):Ex × St)) r) (i8 a0 a1 p1):=by
 unfold i9 i8
 exact CH
theorem AZ {β:Type} (a0 a1:List Int) (p1:Int) (k:Ex->St->Option β):bP TT sE (mI a0 a1 p1) k = (nP a0 a1 p1).bind (fun (r:Unit ⊕ Unit)=>Sum.elim (fun (z:Unit)=>k (.exit 0) ⟨[],[]⟩) (fun (z:Unit)=>k .ret ⟨[(4,dB false)],[]⟩) r):=by
 have hh:=fun (w:Int)=>BW a0 a1 w
 have h:=fun ho=>aZ (T:=TT) (k:=k) (c:=i9) (step:=(fun (w:Int)=>i8 a0 a1 w)) _ _ ho hh p1
 refine Eq.trans (h (fun r s e=>by have q:=congrArg Prod.fst e; rcases r with x | x <;> cases q)) ?_
 unfold nP
 exact aL _ fun x=>by rcases x with x | x <;> rfl
theorem C7 (a0 a1:List Int):Vm.call TT 24 [.sl (cM cI a0),.sl (cM cI a1)] = (j0 a0 a1).map fun (r:Bool)=>.bool r:=by
 refine (bE (show TT 24 = some (.code ⟨2,26,[.tmp 4],aIe,false,false⟩) from rfl) _ rfl rfl).trans ?_
 show bP TT aIe ⟨[(0,.d (.sl (cM cI a0))),(1,.d (.sl (cM cI a1)))],[]⟩ _ = _
 unfold aIe j0
 have u:=@AZ
 exact nQ
theorem DK (a0 a1:List Int):KF TT 24 [.sl (cM cI a0),.sl (cM cI a1)] (j0 a0 a1) (fun (r:Bool)=>dB r):=kF (C7 a0 a1) (fun _=>rfl) (fun _=>rfl)
theorem LG {β:Type} (a0:aB) (a1:aA) (r2:(List Int) × Int) (k:Ex->St->Option β):bP TT xG ⟨[(2,.ptr 2 0),(3,.ptr 3 0),(5,.d (.sl (cM cI r2.1))),(6,dI r2.2)],[(2,some (.box (aR a0.cells))),(3,some (.box (aR a1.cells)))]⟩ k = (uN a0 a1 r2).bind (fun (r:Bool)=>k .ret ⟨[(4,dB r)],[]⟩):=by
 unfold xG uN
 have u:=@iB
 exact nQ
theorem BP (a0:aB) (a1:aA):Vm.call TT 11 [.agg a0.cells,.agg a1.cells] = (m7 a0 a1).map fun (r:Bool)=>.bool r:=by
 refine (bE (show TT 11 = some (.code ⟨2,58,[.tmp 4],aJR,false,false⟩) from rfl) _ rfl rfl).trans ?_
 show bP TT aJR ⟨[(0,jQ a0.cells),(1,jQ a1.cells)],[]⟩ _ = _
 unfold aJR m7
 have u:=aN (aN @LG @FN) (aN @OL @DK)
 exact nQ
theorem P8 (a0:aB) (a1:aA):KF TT 11 [.agg a0.cells,.agg a1.cells] (m7 a0 a1) (fun (r:Bool)=>dB r):=kF (BP a0 a1) (fun _=>rfl) (fun _=>rfl)
theorem A0 (a0:aB):Vm.call TT 13 [.agg a0.cells] = (iX a0).map fun (r:Bool)=>.bool r:=by
 refine (bE (show TT 13 = some (.code ⟨1,17,[.tmp 2],aH0,false,false⟩) from rfl) _ rfl rfl).trans ?_
 show bP TT aH0 ⟨[(0,jQ a0.cells)],[]⟩ _ = _
 unfold aH0 iX
 have u:=@BG
 exact nQ
theorem FT (a0:aB):KF TT 13 [.agg a0.cells] (iX a0) (fun (r:Bool)=>dB r):=kF (A0 a0) (fun _=>rfl) (fun _=>rfl)
end Go.Proofs.Ytjjcaapdaldedaa
