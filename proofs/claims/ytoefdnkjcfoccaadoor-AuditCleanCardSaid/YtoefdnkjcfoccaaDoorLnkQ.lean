/- Code and answers agree. -/
import Derived.Test.YtoefdnkjcfoccaaDoorFn
namespace Go.Proofs.YtoefdnkjcfoccaaDoor
open Vm
open Go.RowKit
set_option maxRecDepth 100000
set_option maxHeartbeats 4000000
attribute [local congr] qD s6 qG s9
class RecO59 [RecF59] where
 o:List D->Option D
 ok:∀ (a0:aF) (a1:Int),o [.agg a0.cells,.int .i64 a1] = (RecF59.run a0 a1).map fun (r:Int)=>.int .i64 r
noncomputable def OO [RecF59] [RecO59]:wF:=TQ (aOu RecO59.o)
namespace Q59
section
variable [RecF59] [RecO59]
theorem c_RecF59.run (a0:aF) (a1:Int):Vm.call OO 59 [.agg a0.cells,.int .i64 a1] = (RecF59.run a0 a1).map fun (r:Int)=>.int .i64 r:=(uF (show OO 59 = some (.told RecO59.o) from rfl) _ rfl).trans (RecO59.ok a0 a1)
theorem k_RecF59.run (a0:aF) (a1:Int):KF OO 59 [.agg a0.cells,.int .i64 a1] (RecF59.run a0 a1) (fun (r:Int)=>dI r):=kF (c_RecF59.run a0 a1) (fun _=>rfl) (fun _=>rfl)
abbrev vC (a0:aF) (a1 p1 p2:Int):St:=⟨[(1,dI a1),(5,dI p1),(11,.d (.sl (cM aF.row a0.Args))),(12,dI (a0.Args.length:Int)),(13,dI p2)],[]⟩
theorem K2 (a0:aF) (a1 p1 p2:Int):bM OO rC (vC a0 a1 p1 p2) (fun e s=>some (e,s)) = cO (fun (w:Int × Int)=>vC a0 a1 w.1 w.2) (fun (r:Int)=>(((.exit 0),⟨[(5,dI r)],[]⟩):Ex × St)) (fI a0 a1 p1 p2):=by
 unfold rC fI
 have u:=@k_RecF59.run
 exact iV
theorem JU {β:Type} (a0:aF) (a1 p1 p2:Int) (k:Ex->St->Option β):bM OO DF (vC a0 a1 p1 p2) k = (sW a0 a1 p1 p2).bind (fun (r:Int)=>k (.exit 0) ⟨[(5,dI r)],[]⟩):=by
 have hh:=fun (w:Int × Int)=>K2 a0 a1 w.1 w.2
 have h:=fun ho=>bE (T:=OO) (k:=k) (c:=rC) (step:=(fun (w:Int × Int)=>fI a0 a1 w.1 w.2)) _ _ ho hh (p1,p2)
 refine Eq.trans (h (fun r s e=>by have q:=ă Prod.fst e; rcases r with x <;> cases q)) ?_
 unfold sW
 exact aV _ fun x=>by rcases x with x <;> rfl
theorem c_mterm_measureB (a0:aF) (a1:Int):U5 OO aRS [.agg a0.cells,.int .i64 a1] = (s7 a0 a1).map fun (r:Int)=>.int .i64 r:=by
 refine (X9 (T:=OO) (np:=2) (nt:=27) (res:=[.tmp 4]) (body:=aPh) _ rfl rfl).trans ?_
 show bM OO aPh ⟨[(0,b9 a0.cells),(1,dI a1)],[]⟩ _ = _
 unfold aPh s7
 have u:=@JU
 exact iV
end
end Q59
theorem XA:∀ (n:Nat) (a0:aF) (a1:Int),P3 n [.agg a0.cells,.int .i64 a1] = (MS n a0 a1).map fun (r:Int)=>.int .i64 r
 | 0,_,_=>rfl
 | n + 1,a0,a1=>@Q59.c_mterm_measureB ⟨MS n⟩ (@RecO59.mk ⟨MS n⟩ (P3 n) (XA n)) a0 a1
theorem R8 (a0:aF) (a1:Int):Vm.call TT 59 [.agg a0.cells,.int .i64 a1] = (BB a0 a1).map fun (r:Int)=>.int .i64 r:=(uF (show TT 59 = some (.told aUr) from rfl) _ rfl).trans (XA 1000 a0 a1)
theorem RR (a0:aF) (a1:Int):KF TT 59 [.agg a0.cells,.int .i64 a1] (BB a0 a1) (fun (r:Int)=>dI r):=kF (R8 a0 a1) (fun _=>rfl) (fun _=>rfl)
class RecO60 [RecF60] where
 o:List D->Option D
 ok:∀ (a0:aF),o [.agg a0.cells] = (RecF60.run a0).map fun (r:Int × Int)=>.tup [.int .i64 r.1,.int .i64 r.2]
noncomputable def mH [RecF60] [RecO60]:wF:=TQ (aPV RecO60.o)
namespace Q60
section
variable [RecF60] [RecO60]
theorem c_RecF60.run (a0:aF):Vm.call mH 60 [.agg a0.cells] = (RecF60.run a0).map fun (r:Int × Int)=>.tup [.int .i64 r.1,.int .i64 r.2]:=(uF (show mH 60 = some (.told RecO60.o) from rfl) _ rfl).trans (RecO60.ok a0)
theorem k_RecF60.run (a0:aF):KF mH 60 [.agg a0.cells] (RecF60.run a0) (fun (r:Int × Int)=>.tup [dI r.1,dI r.2]):=kF (c_RecF60.run a0) (fun _=>rfl) (fun _=>rfl)
theorem BT (a0:Int):Vm.call mH 71 [.int .i64 a0] = (jX a0).map fun (r:Int)=>.int .i64 r:=by
 refine (aW (show mH 71 = some (.code ⟨1,6,[.tmp 2],VQ,false,false⟩) from rfl) _ rfl rfl).trans ?_
 show bM mH VQ ⟨[(0,dI a0)],[]⟩ _ = _
 unfold VQ jX
 exact yM
theorem qE (a0:Int):KF mH 71 [.int .i64 a0] (jX a0) (fun (r:Int)=>dI r):=kF (BT a0) (fun _=>rfl) (fun _=>rfl)
theorem rS (a0:Int):Vm.call mH 69 [.int .i64 a0] = (fD a0).map fun (r:Int × Bool)=>.tup [.int .i64 r.1,.bool r.2]:=by
 refine (aW (show mH 69 = some (.code ⟨1,14,[.tmp 2,.tmp 3],UT,false,false⟩) from rfl) _ rfl rfl).trans ?_
 show bM mH UT ⟨[(0,dI a0)],[]⟩ _ = _
 unfold UT fD
 exact yM
theorem nJ (a0:Int):KF mH 69 [.int .i64 a0] (fD a0) (fun (r:Int × Bool)=>.tup [dI r.1,dB r.2]):=kF (rS a0) (fun _=>rfl) (fun _=>rfl)
theorem GH (a0:aF):Vm.call mH 67 [.agg a0.cells] = (mR a0).map fun (r:Int × Int)=>.tup [.int .i64 r.1,.int .i64 r.2]:=by
 refine (aW (show mH 67 = some (.code ⟨1,39,[.tmp 2,.tmp 3],aD8,false,false⟩) from rfl) _ rfl rfl).trans ?_
 show bM mH aD8 ⟨[(0,b9 a0.cells)],[]⟩ _ = _
 unfold aD8 mR
 have u:=And.intro (@nJ) (@qE)
 exact iV
theorem N3 (a0:aF):KF mH 67 [.agg a0.cells] (mR a0) (fun (r:Int × Int)=>.tup [dI r.1,dI r.2]):=kF (GH a0) (fun _=>rfl) (fun _=>rfl)
theorem xA {β:Type} (a0:Int) (k:Ex->St->Option β):bM mH m4 ⟨[(2,.ptr 2 0),(3,dI a0)],[(2,some (.box [.nil,dI 0]))]⟩ k = (mK a0).bind (fun (r:Unit ⊕ ((List Int) × Int))=>Sum.elim (fun (z:Unit)=>k .normal ⟨[(2,.ptr 2 0)],[(2,some (.box [.nil,dI 0]))]⟩) (fun (z:(List Int) × Int)=>k .ret ⟨[(2,.ptr 2 0)],[(2,some (.box [.d (.sl (cM cI z.1)),dI z.2])),(6,none),(11,none),(15,none),(19,none),(23,none)]⟩) r):=by
 unfold m4 mK
 exact yM
theorem B5 (a0:Int):Vm.call mH 68 [.int .i64 a0] = (mG a0).map fun (r:aI)=>.agg r.cells:=by
 refine (aW (show mH 68 = some (.code ⟨1,27,[.cell 2 2 true],aB8,false,false⟩) from rfl) _ rfl rfl).trans ?_
 show bM mH aB8 ⟨[(0,dI a0)],[]⟩ _ = _
 unfold aB8 mG
 have u:=@xA
 exact iV
theorem HW (a0:Int):KD mH 68 [.int .i64 a0] (mG a0) (fun (r:aI)=>b9 r.cells):=kD (B5 a0) (fun _=>rfl) (fun _=>rfl) (fun _=>rfl)
abbrev yR (a0:aF) (p1:Int) (p2:List Int):St:=⟨[(1,.ptr 1 0),(4,.own 16 0),(18,.d (.sl (cM aF.row a0.Args))),(19,dI (a0.Args.length:Int)),(20,dI p1)],[(1,some (.box (aE a0.cells))),(16,some (.rows 0 3 1 (cM cI p2)))]⟩
theorem NH (a0:aF) (p1:Int) (p2:List Int):bM mH uE (yR a0 p1 p2) (fun e s=>some (e,s)) = cO (fun (w:Int × (List Int))=>yR a0 w.1 w.2) (fun (r:((List Int)) ⊕ Int)=>Sum.elim (fun (z:(List Int))=>(((.exit 0),⟨[(1,.ptr 1 0),(4,.own 16 0)],[(1,some (.box (aE a0.cells))),(16,some (.rows 0 3 1 (cM cI z)))]⟩):Ex × St)) (fun (z:Int)=>((.ret,⟨[(2,dI 0),(3,dI z)],[]⟩):Ex × St)) r) (jB a0 p1 p2):=by
 unfold uE jB
 have u:=@k_RecF60.run
 exact iV
theorem O6 {β:Type} (a0:aF) (p1:Int) (p2:List Int) (k:Ex->St->Option β):bM mH F5 (yR a0 p1 p2) k = (wH a0 p1 p2).bind (fun (r:((List Int)) ⊕ Int)=>Sum.elim (fun (z:(List Int))=>k (.exit 0) ⟨[(1,.ptr 1 0),(4,.own 16 0)],[(1,some (.box (aE a0.cells))),(16,some (.rows 0 3 1 (cM cI z)))]⟩) (fun (z:Int)=>k .ret ⟨[(2,dI 0),(3,dI z)],[]⟩) r):=by
 have hh:=fun (w:Int × (List Int))=>NH a0 w.1 w.2
 have h:=fun ho=>bE (T:=mH) (k:=k) (c:=uE) (step:=(fun (w:Int × (List Int))=>jB a0 w.1 w.2)) _ _ ho hh (p1,p2)
 refine Eq.trans (h (fun r s e=>by have q:=ă Prod.fst e; rcases r with x | x <;> cases q)) ?_
 unfold wH
 exact aV _ fun x=>by rcases x with x | x <;> rfl
theorem O0 {β:Type} (a0:aF) (z9:(List Int)) (k:Ex->St->Option β):bM mH A8 ⟨[(1,.ptr 1 0),(4,.own 16 0)],[(1,some (.box (aE a0.cells))),(16,some (.rows 0 3 1 (cM cI z9)))]⟩ k = (lL a0 z9).bind (fun (r:Unit ⊕ (Int × Int))=>Sum.elim (fun (z:Unit)=>k .normal ⟨[(1,.ptr 1 0),(4,.own 16 0)],[(1,some (.box (aE a0.cells))),(16,some (.rows 0 3 1 (cM cI z9)))]⟩) (fun (z:Int × Int)=>k .ret ⟨[(2,dI z.1),(3,dI z.2)],[]⟩) r):=by
 unfold A8 lL
 have u:=@N3
 exact iV
theorem N1 {β:Type} (p21 p24:Int) (r19:aI) (z9:(List Int)) (p25:Int) (k:Ex->St->Option β):bM mH AX ⟨[(4,.own 16 0),(9,.ptr 9 0),(10,dI p24),(11,dI p21),(12,dI p25),(80,.d (.sl (cM cI r19.args))),(81,dI (r19.args.length:Int)),(82,dI p21)],[(9,some (.box (aE r19.cells))),(16,some (.rows 0 3 1 (cM cI z9)))]⟩ k = (rQ p21 p24 r19 z9 p25).bind (fun (r:Unit ⊕ Unit)=>Sum.elim (fun (z:Unit)=>k .normal ⟨[(4,.own 16 0),(9,.ptr 9 0),(10,dI p24),(80,.d (.sl (cM cI r19.args))),(81,dI (r19.args.length:Int)),(82,dI p21)],[(9,some (.box (aE r19.cells))),(16,some (.rows 0 3 1 (cM cI z9)))]⟩) (fun (z:Unit)=>k .ret ⟨[(2,dI 0),(3,dI 11)],[]⟩) r):=by
 unfold AX rQ
 exact yM
theorem NU {β:Type} (p21:Int) (r19:aI) (x22:Int) (z9:(List Int)) (p24:Int) (k:Ex->St->Option β):bM mH A4 ⟨[(4,.own 16 0),(9,.ptr 9 0),(10,dI p24),(11,dI p21),(12,dI x22),(80,.d (.sl (cM cI r19.args))),(81,dI (r19.args.length:Int)),(82,dI p21)],[(9,some (.box (aE r19.cells))),(16,some (.rows 0 3 1 (cM cI z9)))]⟩ k = (nM p21 r19 x22 z9 p24).bind (fun (r:Unit ⊕ Unit)=>Sum.elim (fun (z:Unit)=>k .normal ⟨[(4,.own 16 0),(9,.ptr 9 0),(10,dI p24),(80,.d (.sl (cM cI r19.args))),(81,dI (r19.args.length:Int)),(82,dI p21)],[(9,some (.box (aE r19.cells))),(16,some (.rows 0 3 1 (cM cI z9)))]⟩) (fun (z:Unit)=>k .ret ⟨[(2,dI 0),(3,dI 11)],[]⟩) r):=by
 unfold A4 nM
 have u:=@N1
 exact iV
abbrev yX (r19:aI) (z9:(List Int)) (p20 p21:Int):St:=⟨[(4,.own 16 0),(9,.ptr 9 0),(10,dI p20),(80,.d (.sl (cM cI r19.args))),(81,dI (r19.args.length:Int)),(82,dI p21)],[(9,some (.box (aE r19.cells))),(16,some (.rows 0 3 1 (cM cI z9)))]⟩
theorem NL (r19:aI) (z9:(List Int)) (p20 p21:Int):bM mH tZ (yX r19 z9 p20 p21) (fun e s=>some (e,s)) = cO (fun (w:Int × Int)=>yX r19 z9 w.1 w.2) (fun (r:Int ⊕ Unit)=>Sum.elim (fun (z:Int)=>(((.exit 3),⟨[(9,.ptr 9 0),(10,dI z)],[(9,some (.box (aE r19.cells)))]⟩):Ex × St)) (fun (z:Unit)=>((.ret,⟨[(2,dI 0),(3,dI 11)],[]⟩):Ex × St)) r) (jG r19 z9 p20 p21):=by
 unfold tZ jG
 have u:=@NU
 exact iV
theorem NZ {β:Type} (r19:aI) (z9:(List Int)) (p20 p21:Int) (k:Ex->St->Option β):bM mH FZ (yX r19 z9 p20 p21) k = (wE r19 z9 p20 p21).bind (fun (r:Int ⊕ Unit)=>Sum.elim (fun (z:Int)=>k (.exit 3) ⟨[(9,.ptr 9 0),(10,dI z)],[(9,some (.box (aE r19.cells)))]⟩) (fun (z:Unit)=>k .ret ⟨[(2,dI 0),(3,dI 11)],[]⟩) r):=by
 have hh:=fun (w:Int × Int)=>NL r19 z9 w.1 w.2
 have h:=fun ho=>bE (T:=mH) (k:=k) (c:=tZ) (step:=(fun (w:Int × Int)=>jG r19 z9 w.1 w.2)) _ _ ho hh (p20,p21)
 refine Eq.trans (h (fun r s e=>by have q:=ă Prod.fst e; rcases r with x | x <;> cases q)) ?_
 unfold wE
 exact aV _ fun x=>by rcases x with x | x <;> rfl
theorem c_mterm_checkB (a0:aF):U5 mH aSp [.agg a0.cells] = (yT a0).map fun (r:Int × Int)=>.tup [.int .i64 r.1,.int .i64 r.2]:=by
 refine (X9 (T:=mH) (np:=1) (nt:=113) (res:=[.tmp 2,.tmp 3]) (body:=aQG) _ rfl rfl).trans ?_
 show bM mH aQG ⟨[(0,b9 a0.cells)],[]⟩ _ = _
 unfold aQG yT
 have u:=And.intro (And.intro (@O6) (@O0)) (And.intro (@NZ) (@HW))
 exact iV
end
end Q60
theorem W0:∀ (n:Nat) (a0:aF),PO n [.agg a0.cells] = (L1 n a0).map fun (r:Int × Int)=>.tup [.int .i64 r.1,.int .i64 r.2]
 | 0,_=>rfl
 | n + 1,a0=>@Q60.c_mterm_checkB ⟨L1 n⟩ (@RecO60.mk ⟨L1 n⟩ (PO n) (W0 n)) a0
theorem VH (a0:aF):Vm.call TT 60 [.agg a0.cells] = (EC a0).map fun (r:Int × Int)=>.tup [.int .i64 r.1,.int .i64 r.2]:=(uF (show TT 60 = some (.told aTm) from rfl) _ rfl).trans (W0 1000 a0)
theorem VB (a0:aF):KF TT 60 [.agg a0.cells] (EC a0) (fun (r:Int × Int)=>.tup [dI r.1,dI r.2]):=kF (VH a0) (fun _=>rfl) (fun _=>rfl)
class RecO52 [RecF52] where
 o:List D->Option D
 ok:∀ (a0:aC) (a1:aF),o [.agg a0.cells,.agg a1.cells] = (RecF52.run a0 a1).map fun (r:aH × (List Int))=>.tup [.agg (aH.cells r.1),.sl (cM cI r.2)]
noncomputable def eL [RecF52] [RecO52]:wF:=TQ (aPc RecO52.o)
namespace Q52
section
variable [RecF52] [RecO52]
theorem c_RecF52.run (a0:aC) (a1:aF):Vm.call eL 52 [.agg a0.cells,.agg a1.cells] = (RecF52.run a0 a1).map fun (r:aH × (List Int))=>.tup [.agg (aH.cells r.1),.sl (cM cI r.2)]:=(uF (show eL 52 = some (.told RecO52.o) from rfl) _ rfl).trans (RecO52.ok a0 a1)
theorem k_RecF52.run (a0:aC) (a1:aF):KD eL 52 [.agg a0.cells,.agg a1.cells] (RecF52.run a0 a1) (fun (r:aH × (List Int))=>.tup [b9 (aH.cells r.1),.d (.sl (cM cI r.2))]):=kD (c_RecF52.run a0 a1) (fun _=>rfl) (fun _=>rfl) (fun _=>rfl)
theorem BT (a0:Int):Vm.call eL 71 [.int .i64 a0] = (jX a0).map fun (r:Int)=>.int .i64 r:=by
 refine (aW (show eL 71 = some (.code ⟨1,6,[.tmp 2],VQ,false,false⟩) from rfl) _ rfl rfl).trans ?_
 show bM eL VQ ⟨[(0,dI a0)],[]⟩ _ = _
 unfold VQ jX
 exact yM
theorem qE (a0:Int):KF eL 71 [.int .i64 a0] (jX a0) (fun (r:Int)=>dI r):=kF (BT a0) (fun _=>rfl) (fun _=>rfl)
theorem rS (a0:Int):Vm.call eL 69 [.int .i64 a0] = (fD a0).map fun (r:Int × Bool)=>.tup [.int .i64 r.1,.bool r.2]:=by
 refine (aW (show eL 69 = some (.code ⟨1,14,[.tmp 2,.tmp 3],UT,false,false⟩) from rfl) _ rfl rfl).trans ?_
 show bM eL UT ⟨[(0,dI a0)],[]⟩ _ = _
 unfold UT fD
 exact yM
theorem nJ (a0:Int):KF eL 69 [.int .i64 a0] (fD a0) (fun (r:Int × Bool)=>.tup [dI r.1,dB r.2]):=kF (rS a0) (fun _=>rfl) (fun _=>rfl)
theorem I6 (a0:Bool):Vm.call eL 70 [.bool a0] = (lD a0).map fun (r:aH)=>.agg r.cells:=by
 refine (aW (show eL 70 = some (.code ⟨1,6,[.cell 2 2 true],aC9,false,false⟩) from rfl) _ rfl rfl).trans ?_
 show bM eL aC9 ⟨[(0,dB a0)],[]⟩ _ = _
 unfold aC9 lD
 exact yM
theorem kU (a0:Bool):KF eL 70 [.bool a0] (lD a0) (fun (r:aH)=>b9 r.cells):=kF (I6 a0) (fun _=>rfl) (fun _=>rfl)
theorem rD (a0:aC) (a1:Int):Vm.call eL 61 [.agg a0.cells,.int .i64 a1] = (dO a0 a1).map fun (r:aH)=>.agg r.cells:=by
 refine (aW (show eL 61 = some (.code ⟨2,45,[.cell 4 2 true],aEg,false,false⟩) from rfl) _ rfl rfl).trans ?_
 show bM eL aEg ⟨[(0,b9 a0.cells),(1,dI a1)],[]⟩ _ = _
 unfold aEg dO
 have u:=And.intro (@nJ) (And.intro (@kU) (@qE))
 exact iV
theorem AL (a0:aC) (a1:Int):KF eL 61 [.agg a0.cells,.int .i64 a1] (dO a0 a1) (fun (r:aH)=>b9 r.cells):=kF (rD a0 a1) (fun _=>rfl) (fun _=>rfl)
theorem wU (a0 a1:Int):Vm.call eL 77 [.int .u64 a0,.int .u64 a1] = (iL a0 a1).map fun (r:Int × Int)=>.tup [.int .u64 r.1,.int .u64 r.2]:=by
 refine (aW (show eL 77 = some (.code ⟨2,51,[.tmp 4,.tmp 5],aDs,false,false⟩) from rfl) _ rfl rfl).trans ?_
 show bM eL aDs ⟨[(0,.d (.int .u64 a0)),(1,.d (.int .u64 a1))],[]⟩ _ = _
 unfold aDs iL
 exact yM
theorem wQ (a0 a1:Int):KF eL 77 [.int .u64 a0,.int .u64 a1] (iL a0 a1) (fun (r:Int × Int)=>.tup [.d (.int .u64 r.1),.d (.int .u64 r.2)]):=kF (wU a0 a1) (fun _=>rfl) (fun _=>rfl)
theorem wM {β:Type} (a0 a1 p2:Int) (k:Ex->St->Option β):bM eL mL ⟨[(0,dI a0),(1,dI a1),(7,dI p2)],[]⟩ k = (gB a0 a1 p2).bind (fun (r:Int)=>k .ret ⟨[(4,dI r)],[]⟩):=by
 unfold mL gB
 exact yM
theorem B8 (a0 a1:Int):Vm.call eL 76 [.int .i64 a0,.int .i64 a1] = (kN a0 a1).map fun (r:Int)=>.int .i64 r:=by
 refine (aW (show eL 76 = some (.code ⟨2,38,[.tmp 4],aDL,false,false⟩) from rfl) _ rfl rfl).trans ?_
 show bM eL aDL ⟨[(0,dI a0),(1,dI a1)],[]⟩ _ = _
 unfold aDL kN
 have u:=And.intro (@wM) (@wQ)
 exact iV
theorem B6 (a0 a1:Int):KF eL 76 [.int .i64 a0,.int .i64 a1] (kN a0 a1) (fun (r:Int)=>dI r):=kF (B8 a0 a1) (fun _=>rfl) (fun _=>rfl)
theorem wW (a0 a1 a2:Int):Vm.call eL 72 [.int .i64 a0,.int .i64 a1,.int .i64 a2] = (fH a0 a1 a2).map fun (r:Int)=>.int .i64 r:=by
 refine (aW (show eL 72 = some (.code ⟨3,33,[.tmp 6],aB1,false,false⟩) from rfl) _ rfl rfl).trans ?_
 show bM eL aB1 ⟨[(0,dI a0),(1,dI a1),(2,dI a2)],[]⟩ _ = _
 unfold aB1 fH
 have u:=And.intro (@qE) (@B6)
 exact iV
theorem wP (a0 a1 a2:Int):KF eL 72 [.int .i64 a0,.int .i64 a1,.int .i64 a2] (fH a0 a1 a2) (fun (r:Int)=>dI r):=kF (wW a0 a1 a2) (fun _=>rfl) (fun _=>rfl)
theorem wY {β:Type} (a0:Int) (a1:List aH) (k:Ex->St->Option β):bM eL m5 ⟨[(0,dI a0),(1,.d (.sl (cM aH.cells a1))),(4,.ptr 4 0)],[(4,some (.box [dB false,dI 0]))]⟩ k = (gD a0 a1).bind (fun (r:Unit ⊕ aH)=>Sum.elim (fun (z:Unit)=>k .normal ⟨[(0,dI a0),(1,.d (.sl (cM aH.cells a1))),(4,.ptr 4 0)],[(4,some (.box [dB false,dI 0]))]⟩) (fun (z:aH)=>k .ret ⟨[(4,.ptr 4 0)],[(4,some (.box (aE z.cells)))]⟩) r):=by
 unfold m5 gD
 have u:=@kU
 exact iV
theorem xC {β:Type} (a0:Int) (a1:List aH) (k:Ex->St->Option β):bM eL mP ⟨[(0,dI a0),(1,.d (.sl (cM aH.cells a1))),(4,.ptr 4 0),(8,dI a0)],[(4,some (.box [dB false,dI 0]))]⟩ k = (fF a0 a1).bind (fun (r:Unit ⊕ aH)=>Sum.elim (fun (z:Unit)=>k .normal ⟨[(0,dI a0),(1,.d (.sl (cM aH.cells a1))),(4,.ptr 4 0)],[(4,some (.box [dB false,dI 0]))]⟩) (fun (z:aH)=>k .ret ⟨[(4,.ptr 4 0)],[(4,some (.box (aE z.cells)))]⟩) r):=by
 unfold mP fF
 exact yM
theorem wZ {β:Type} (a0:Int) (x27 x28:aH) (k:Ex->St->Option β):bM eL mM ⟨[(0,dI a0),(4,.ptr 4 0),(6,dI x27.N),(7,dI x28.N),(81,dI a0),(88,dB (a0 == 7))],[(4,some (.box [dB false,dI 0]))]⟩ k = (gJ a0 x27 x28).bind (fun (r:Unit ⊕ aH)=>Sum.elim (fun (z:Unit)=>k .normal ⟨[(0,dI a0),(4,.ptr 4 0),(6,dI x27.N),(7,dI x28.N)],[(4,some (.box [dB false,dI 0]))]⟩) (fun (z:aH)=>k .ret ⟨[(4,.ptr 4 0)],[(4,some (.box (aE z.cells)))]⟩) r):=by
 unfold mM gJ
 have u:=@kU
 exact iV
theorem wN {β:Type} (a0:Int) (a1:List aH) (k:Ex->St->Option β):bM eL mT ⟨[(0,dI a0),(1,.d (.sl (cM aH.cells a1))),(4,.ptr 4 0)],[(4,some (.box [dB false,dI 0]))]⟩ k = (fC a0 a1).bind (fun (r:aH)=>k .ret ⟨[(4,.ptr 4 0)],[(4,some (.box (aE r.cells)))]⟩):=by
 unfold mT fC
 have u:=And.intro (@wZ) (And.intro (@kU) (@wP))
 exact iV
theorem B0 (a0:Int) (a1:List aH):Vm.call eL 62 [.int .i64 a0,.sl (cM aH.cells a1)] = (iB a0 a1).map fun (r:aH)=>.agg r.cells:=by
 refine (aW (show eL 62 = some (.code ⟨2,105,[.cell 4 2 true],aB2,false,false⟩) from rfl) _ rfl rfl).trans ?_
 show bM eL aB2 ⟨[(0,dI a0),(1,.d (.sl (cM aH.cells a1)))],[]⟩ _ = _
 unfold aB2 iB
 have u:=And.intro (And.intro (@wY) (@xC)) (And.intro (@wN) (@kU))
 exact iV
theorem HS (a0:Int) (a1:List aH):KF eL 62 [.int .i64 a0,.sl (cM aH.cells a1)] (iB a0 a1) (fun (r:aH)=>b9 r.cells):=kF (B0 a0 a1) (fun _=>rfl) (fun _=>rfl)
theorem oD (a0:List (List Int)):Vm.call eL 63 [.sl (cM (cL cI) a0)] = (eN a0).map fun (r:(List Int))=>.sl (cM cI r) :=
 (uF (show eL 63 = some (.told o63) from rfl) _ rfl).trans (aFe a0)
theorem vW (a0:List (List Int)):KD eL 63 [.sl (cM (cL cI) a0)] (eN a0) (fun (r:(List Int))=>.d (.sl (cM cI r))):=kD (oD a0) (fun _=>rfl) (fun _=>rfl) (fun _=>rfl)
theorem E7 {β:Type} (a0:aC) (a1:aF) (k:Ex->St->Option β):bM eL pO ⟨[(2,.ptr 2 0),(3,.ptr 3 0),(4,.ptr 4 0),(14,dI a1.Op)],[(2,some (.box (aE a0.cells))),(3,some (.box (aE a1.cells))),(4,some (.box [dB false,dI 0]))]⟩ k = (dN a0 a1).bind (fun (r:Unit ⊕ ((List Int) × aH))=>Sum.elim (fun (z:Unit)=>k .normal ⟨[(2,.ptr 2 0),(3,.ptr 3 0),(4,.ptr 4 0)],[(2,some (.box (aE a0.cells))),(3,some (.box (aE a1.cells))),(4,some (.box [dB false,dI 0]))]⟩) (fun (z:(List Int) × aH)=>k .ret ⟨[(4,.ptr 4 0),(5,.d (.sl (cM cI z.1)))],[(4,some (.box (aE (aH.cells z.2)))),(33,none)]⟩) r):=by
 unfold pO dN
 have u:=@AL
 exact iV
abbrev oG (a0:aC) (a1:aF) (p10:Int) (p11:List aH) (p12:List (List Int)):St:=⟨[(2,.ptr 2 0),(3,.ptr 3 0),(4,.ptr 4 0),(7,.own 37 0),(8,.own 41 0),(43,.d (.sl (cM aF.row a1.Args))),(44,dI (a1.Args.length:Int)),(45,dI p10)],[(2,some (.box (aE a0.cells))),(3,some (.box (aE a1.cells))),(4,some (.box [dB false,dI 0])),(37,some (.rows 0 42 2 (cM aH.cells p11))),(41,some (.rows 0 32 1 (cM (cL cI) p12)))]⟩
theorem ES (a0:aC) (a1:aF) (p10:Int) (p11:List aH) (p12:List (List Int)):bM eL kX (oG a0 a1 p10 p11 p12) (fun e s=>some (e,s)) = cO (fun (w:Int × (List aH) × (List (List Int)))=>oG a0 a1 w.1 w.2.1 w.2.2) (fun (r:(List aH) × (List (List Int)))=>(((.exit 1),⟨[(3,.ptr 3 0),(4,.ptr 4 0),(7,.own 37 0),(8,.own 41 0)],[(3,some (.box (aE a1.cells))),(4,some (.box [dB false,dI 0])),(37,some (.rows 0 42 2 (cM aH.cells r.1))),(41,some (.rows 0 32 1 (cM (cL cI) r.2)))]⟩):Ex × St)) (dR a0 a1 p10 p11 p12):=by
 unfold kX dR
 have u:=@k_RecF52.run
 exact iV
theorem EO {β:Type} (a0:aC) (a1:aF) (p10:Int) (p11:List aH) (p12:List (List Int)) (k:Ex->St->Option β):bM eL yC (oG a0 a1 p10 p11 p12) k = (mE a0 a1 p10 p11 p12).bind (fun (r:(List aH) × (List (List Int)))=>k (.exit 1) ⟨[(3,.ptr 3 0),(4,.ptr 4 0),(7,.own 37 0),(8,.own 41 0)],[(3,some (.box (aE a1.cells))),(4,some (.box [dB false,dI 0])),(37,some (.rows 0 42 2 (cM aH.cells r.1))),(41,some (.rows 0 32 1 (cM (cL cI) r.2)))]⟩):=by
 have hh:=fun (w:Int × (List aH) × (List (List Int)))=>ES a0 a1 w.1 w.2.1 w.2.2
 have h:=fun ho=>bE (T:=eL) (k:=k) (c:=kX) (step:=(fun (w:Int × (List aH) × (List (List Int)))=>dR a0 a1 w.1 w.2.1 w.2.2)) _ _ ho hh (p10,p11,p12)
 refine Eq.trans (h (fun r s e=>by have q:=ă Prod.fst e; rcases r with x <;> cases q)) ?_
 unfold mE
 exact aV _ fun x=>by rcases x with x <;> rfl
theorem FE {β:Type} (r19:(List aH) × (List (List Int))) (x21:aH) (k:Ex->St->Option β):bM eL pN ⟨[(4,.ptr 4 0),(7,.own 37 0),(8,.own 41 0),(11,dI (IntKind.wrap .i64 (2 - x21.N)))],[(4,some (.box [dB false,dI 0])),(37,some (.rows 0 42 2 (cM aH.cells r19.1))),(41,some (.rows 0 32 1 (cM (cL cI) r19.2)))]⟩ k = (jD r19 x21).bind (fun (r:(List Int) × aH)=>k .ret ⟨[(4,.ptr 4 0),(5,.d (.sl (cM cI r.1)))],[(4,some (.box (aE (aH.cells r.2)))),(33,none)]⟩):=by
 unfold pN jD
 exact yM
theorem EQ {β:Type} (a1:aF) (r19:(List aH) × (List (List Int))) (k:Ex->St->Option β):bM eL pF ⟨[(3,.ptr 3 0),(4,.ptr 4 0),(7,.own 37 0),(8,.own 41 0)],[(3,some (.box (aE a1.cells))),(4,some (.box [dB false,dI 0])),(37,some (.rows 0 42 2 (cM aH.cells r19.1))),(41,some (.rows 0 32 1 (cM (cL cI) r19.2)))]⟩ k = (gL a1 r19).bind (fun (r:(List Int) × aH)=>k .ret ⟨[(4,.ptr 4 0),(5,.d (.sl (cM cI r.1)))],[(4,some (.box (aE (aH.cells r.2)))),(33,none)]⟩):=by
 unfold pF gL
 have u:=And.intro (@HS) (@vW)
 exact iV
theorem E5 {β:Type} (a0:aC) (a1:aF) (k:Ex->St->Option β):bM eL pQ ⟨[(2,.ptr 2 0),(3,.ptr 3 0),(4,.ptr 4 0)],[(2,some (.box (aE a0.cells))),(3,some (.box (aE a1.cells))),(4,some (.box [dB false,dI 0]))]⟩ k = (gC a0 a1).bind (fun (r:(List Int) × aH)=>k .ret ⟨[(4,.ptr 4 0),(5,.d (.sl (cM cI r.1)))],[(4,some (.box (aE (aH.cells r.2)))),(33,none)]⟩):=by
 unfold pQ gC
 have u:=And.intro (@EO) (And.intro (@FE) (@EQ))
 exact iV
theorem c_m_term_machine_runB (a0:aC) (a1:aF):U5 eL aS1 [.agg a0.cells,.agg a1.cells] = (lO a0 a1).map fun (r:aH × (List Int))=>.tup [.agg (aH.cells r.1),.sl (cM cI r.2)]:=by
 refine (X9 (T:=eL) (np:=2) (nt:=95) (res:=[.cell 4 2 true,.tmp 5]) (body:=aPO) _ rfl rfl).trans ?_
 show bM eL aPO ⟨[(0,b9 a0.cells),(1,b9 a1.cells)],[]⟩ _ = _
 unfold aPO lO
 have u:=And.intro (@E7) (@E5)
 exact iV
end
end Q52
theorem WK:∀ (n:Nat) (a0:aC) (a1:aF),PR n [.agg a0.cells,.agg a1.cells] = (MD n a0 a1).map fun (r:aH × (List Int))=>.tup [.agg (aH.cells r.1),.sl (cM cI r.2)]
 | 0,_,_=>rfl
 | n + 1,a0,a1=>@Q52.c_m_term_machine_runB ⟨MD n⟩ (@RecO52.mk ⟨MD n⟩ (PR n) (WK n)) a0 a1
theorem BE (a0:aC) (a1:aF):Vm.call TT 52 [.agg a0.cells,.agg a1.cells] = (m0 a0 a1).map fun (r:aH × (List Int))=>.tup [.agg (aH.cells r.1),.sl (cM cI r.2)]:=(uF (show TT 52 = some (.told aT5) from rfl) _ rfl).trans (WK 1000 a0 a1)
theorem I7 (a0:aC) (a1:aF):KD TT 52 [.agg a0.cells,.agg a1.cells] (m0 a0 a1) (fun (r:aH × (List Int))=>.tup [b9 (aH.cells r.1),.d (.sl (cM cI r.2))]):=kD (BE a0 a1) (fun _=>rfl) (fun _=>rfl) (fun _=>rfl)
end Go.Proofs.YtoefdnkjcfoccaaDoor
