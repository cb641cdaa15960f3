/- The table. Printed by a program. -/
import Derived.Test.YtiimibimkpimbaaVmH
import Derived.Test.YtiimibimkpimbaaRepD
import Derived.Test.YtiimibimkpimbaaSortD
import Derived.Test.YtiimibimkpimbaaCode1
import Derived.Test.YtiimibimkpimbaaCode2
set_option linter.unusedVariables false
set_option linter.unusedSimpArgs false
namespace Go.Proofs.Ytiimibimkpimbaa
open Vm
open Go.RowKit
def o31:List D→Option D:=UZ 32
def o66:List D→Option D:=aIv 3
def TL:List (Nat × Option Def):=[(19,some (.code aKQ)),(38,some (.code aK8)),(21,some (.code aLJ)),(20,some (.code aLI)),(42,some (.code aK3)),(40,some (.code aK6)),(26,some (.code aLr)),(30,some (.code aKI)),(28,some (.code aLH)),(41,some (.code aKW)),(29,some (.code aLv)),(27,some (.code aLg)),(25,some (.code aKO)),(14,some (.code aLu)),(67,some (.code aLz)),(69,some (.code aKS)),(33,some (.code aLf)),(37,some (.code aK2)),(63,some (.code aLG)),(46,some (.code aKR)),(45,some (.code aKF)),(47,some (.code aK0)),(34,some (.code aLT)),(48,some (.code aLj)),(65,some (.code aKM)),(49,some (.code aLQ)),(35,some (.code aKK)),(36,some (.code aLo)),(16,some (.code aKZ)),(70,some (.code aLN)),(10,some (.code aLB)),(12,some (.code aLi)),(13,some (.code aKP)),(8,some (.code sf8)),(9,some (.code sf9)),(11,some (.code aLA)),(15,some (.code aLc)),(4,some (.code sf4)),(31,some (.toldL o31)),(66,some (.told o66))]
def TT:vT:=fun f=>lk TL none f
structure aA where
 Kind:Int
 Room:Int
 Day:Int
 No:Int
 From:Int
 To:Int
 Currency:Int
 Due:Int
 Sum:Int
 deriving Inhabited
def aA.cells (x:aA):List D:=[.int .i64 x.Kind,.int .i64 x.Room,.int .i64 x.Day,.int .i64 x.No,.int .i64 x.From,.int .i64 x.To,.int .i64 x.Currency,.int .i64 x.Due,.int .i64 x.Sum]
theorem aA.sized (xs:List aA):sized 9 (cM aA.cells xs) = true:=qT _ _ (fun x=>by rfl) xs
theorem aA.len (x:aA):x.cells.length = 9:=rfl
theorem aA.size {β:Type} (x:aA) (y:Option β):tJ x.cells 9 y = y:=rfl
theorem aA.eq1 {β:Type} (x:aA) (ks:List Nat) (ys:List V) (k:Bool→Option β):yA ks (bM x.cells) ys k = yA ks [.d (.int .i64 x.Kind),.d (.int .i64 x.Room),.d (.int .i64 x.Day),.d (.int .i64 x.No),.d (.int .i64 x.From),.d (.int .i64 x.To),.d (.int .i64 x.Currency),.d (.int .i64 x.Due),.d (.int .i64 x.Sum)] ys k:=rfl
theorem aA.eq2 {β:Type} (x:aA) (ks:List Nat) (ys:List V) (k:Bool→Option β):yA ks ys (bM x.cells) k = yA ks ys [.d (.int .i64 x.Kind),.d (.int .i64 x.Room),.d (.int .i64 x.Day),.d (.int .i64 x.No),.d (.int .i64 x.From),.d (.int .i64 x.To),.d (.int .i64 x.Currency),.d (.int .i64 x.Due),.d (.int .i64 x.Sum)] k:=rfl
theorem aA.put {β:Type} (x:aA) (id:Nat) (cs:List V) (hc:cs.length = 9) (kw:V→List (Nat × Option aL)→Option β):oQ 9 0 id (oJ x.cells) (some (.box cs)) kw = kw .any [(id,some (.box (bM x.cells)))]:=pC 9 id _ rfl cs hc
theorem aA.rset {β:Type} (x:aA) (off:Nat) (d:D) (ds:List D) (n:Nat) (k:List D→Option β):kD x.cells off (d :: ds) n k = kD [.int .i64 x.Kind,.int .i64 x.Room,.int .i64 x.Day,.int .i64 x.No,.int .i64 x.From,.int .i64 x.To,.int .i64 x.Currency,.int .i64 x.Due,.int .i64 x.Sum] off (d :: ds) n k:=rfl
theorem aA.rfull {β:Type} (x y:aA) (k:List D→Option β):kD x.cells 0 y.cells 9 k = k y.cells:=by unfold kD; exact (if_pos ⟨rfl,Nat.le_refl _⟩).trans rfl
theorem aA.get0 {β:Type} (x:aA) (k:D→Option β):iI x.cells 0 k = k (.int .i64 x.Kind):=rfl
theorem aA.get1 {β:Type} (x:aA) (k:D→Option β):iI x.cells 1 k = k (.int .i64 x.Room):=rfl
theorem aA.get2 {β:Type} (x:aA) (k:D→Option β):iI x.cells 2 k = k (.int .i64 x.Day):=rfl
theorem aA.get3 {β:Type} (x:aA) (k:D→Option β):iI x.cells 3 k = k (.int .i64 x.No):=rfl
theorem aA.get4 {β:Type} (x:aA) (k:D→Option β):iI x.cells 4 k = k (.int .i64 x.From):=rfl
theorem aA.get5 {β:Type} (x:aA) (k:D→Option β):iI x.cells 5 k = k (.int .i64 x.To):=rfl
theorem aA.get6 {β:Type} (x:aA) (k:D→Option β):iI x.cells 6 k = k (.int .i64 x.Currency):=rfl
theorem aA.get7 {β:Type} (x:aA) (k:D→Option β):iI x.cells 7 k = k (.int .i64 x.Due):=rfl
theorem aA.get8 {β:Type} (x:aA) (k:D→Option β):iI x.cells 8 k = k (.int .i64 x.Sum):=rfl
theorem aA.sub0_9 {β:Type} (x:aA) (k:List D→Option β):wB x.cells 0 9 k = k x.cells:=rfl
theorem aA.cells_mk (f0:Int) (f1:Int) (f2:Int) (f3:Int) (f4:Int) (f5:Int) (f6:Int) (f7:Int) (f8:Int):aA.cells (aA.mk f0 f1 f2 f3 f4 f5 f6 f7 f8) = [.int .i64 f0,.int .i64 f1,.int .i64 f2,.int .i64 f3,.int .i64 f4,.int .i64 f5,.int .i64 f6,.int .i64 f7,.int .i64 f8]:=rfl
structure aC where
 Kind:Int
 Room:Int
 No:Int
 Sum:Int
 deriving Inhabited
def aC.cells (x:aC):List D:=[.int .i64 x.Kind,.int .i64 x.Room,.int .i64 x.No,.int .i64 x.Sum]
theorem aC.sized (xs:List aC):sized 4 (cM aC.cells xs) = true:=qT _ _ (fun x=>by rfl) xs
theorem aC.len (x:aC):x.cells.length = 4:=rfl
theorem aC.size {β:Type} (x:aC) (y:Option β):tJ x.cells 4 y = y:=rfl
theorem aC.eq1 {β:Type} (x:aC) (ks:List Nat) (ys:List V) (k:Bool→Option β):yA ks (bM x.cells) ys k = yA ks [.d (.int .i64 x.Kind),.d (.int .i64 x.Room),.d (.int .i64 x.No),.d (.int .i64 x.Sum)] ys k:=rfl
theorem aC.eq2 {β:Type} (x:aC) (ks:List Nat) (ys:List V) (k:Bool→Option β):yA ks ys (bM x.cells) k = yA ks ys [.d (.int .i64 x.Kind),.d (.int .i64 x.Room),.d (.int .i64 x.No),.d (.int .i64 x.Sum)] k:=rfl
theorem aC.put {β:Type} (x:aC) (id:Nat) (cs:List V) (hc:cs.length = 4) (kw:V→List (Nat × Option aL)→Option β):oQ 4 0 id (oJ x.cells) (some (.box cs)) kw = kw .any [(id,some (.box (bM x.cells)))]:=pC 4 id _ rfl cs hc
theorem aC.get0 {β:Type} (x:aC) (k:D→Option β):iI x.cells 0 k = k (.int .i64 x.Kind):=rfl
theorem aC.get1 {β:Type} (x:aC) (k:D→Option β):iI x.cells 1 k = k (.int .i64 x.Room):=rfl
theorem aC.get2 {β:Type} (x:aC) (k:D→Option β):iI x.cells 2 k = k (.int .i64 x.No):=rfl
theorem aC.get3 {β:Type} (x:aC) (k:D→Option β):iI x.cells 3 k = k (.int .i64 x.Sum):=rfl
theorem aC.sub0_4 {β:Type} (x:aC) (k:List D→Option β):wB x.cells 0 4 k = k x.cells:=rfl
theorem aC.cells_mk (f0:Int) (f1:Int) (f2:Int) (f3:Int):aC.cells (aC.mk f0 f1 f2 f3) = [.int .i64 f0,.int .i64 f1,.int .i64 f2,.int .i64 f3]:=rfl
structure aE where
 currency:Int
 due:Int
 deriving Inhabited
def aE.cells (x:aE):List D:=[.int .i64 x.currency,.int .i64 x.due]
theorem aE.sized (xs:List aE):sized 2 (cM aE.cells xs) = true:=qT _ _ (fun x=>by rfl) xs
theorem aE.len (x:aE):x.cells.length = 2:=rfl
theorem aE.size {β:Type} (x:aE) (y:Option β):tJ x.cells 2 y = y:=rfl
theorem aE.eq1 {β:Type} (x:aE) (ks:List Nat) (ys:List V) (k:Bool→Option β):yA ks (bM x.cells) ys k = yA ks [.d (.int .i64 x.currency),.d (.int .i64 x.due)] ys k:=rfl
theorem aE.eq2 {β:Type} (x:aE) (ks:List Nat) (ys:List V) (k:Bool→Option β):yA ks ys (bM x.cells) k = yA ks ys [.d (.int .i64 x.currency),.d (.int .i64 x.due)] k:=rfl
theorem aE.put {β:Type} (x:aE) (id:Nat) (cs:List V) (hc:cs.length = 2) (kw:V→List (Nat × Option aL)→Option β):oQ 2 0 id (oJ x.cells) (some (.box cs)) kw = kw .any [(id,some (.box (bM x.cells)))]:=pC 2 id _ rfl cs hc
theorem aE.get0 {β:Type} (x:aE) (k:D→Option β):iI x.cells 0 k = k (.int .i64 x.currency):=rfl
theorem aE.get1 {β:Type} (x:aE) (k:D→Option β):iI x.cells 1 k = k (.int .i64 x.due):=rfl
theorem aE.sub0_2 {β:Type} (x:aE) (k:List D→Option β):wB x.cells 0 2 k = k x.cells:=rfl
theorem aE.cells_mk (f0:Int) (f1:Int):aE.cells (aE.mk f0 f1) = [.int .i64 f0,.int .i64 f1]:=rfl
structure aS where
 From:Int
 To:Int
 Sum:Int
 deriving Inhabited
def aS.cells (x:aS):List D:=[.int .i64 x.From,.int .i64 x.To,.int .i64 x.Sum]
theorem aS.sized (xs:List aS):sized 3 (cM aS.cells xs) = true:=qT _ _ (fun x=>by rfl) xs
theorem aS.len (x:aS):x.cells.length = 3:=rfl
theorem aS.size {β:Type} (x:aS) (y:Option β):tJ x.cells 3 y = y:=rfl
theorem aS.put {β:Type} (x:aS) (id:Nat) (cs:List V) (hc:cs.length = 3) (kw:V→List (Nat × Option aL)→Option β):oQ 3 0 id (oJ x.cells) (some (.box cs)) kw = kw .any [(id,some (.box (bM x.cells)))]:=pC 3 id _ rfl cs hc
theorem aS.get0 {β:Type} (x:aS) (k:D→Option β):iI x.cells 0 k = k (.int .i64 x.From):=rfl
theorem aS.get1 {β:Type} (x:aS) (k:D→Option β):iI x.cells 1 k = k (.int .i64 x.To):=rfl
theorem aS.get2 {β:Type} (x:aS) (k:D→Option β):iI x.cells 2 k = k (.int .i64 x.Sum):=rfl
theorem aS.sub0_3 {β:Type} (x:aS) (k:List D→Option β):wB x.cells 0 3 k = k x.cells:=rfl
theorem aS.cells_mk (f0:Int) (f1:Int) (f2:Int):aS.cells (aS.mk f0 f1 f2) = [.int .i64 f0,.int .i64 f1,.int .i64 f2]:=rfl
structure aB where
 due:Int
 from_:Int
 to:Int
 cost:Int
 most:Int
 back:Bool
 deriving Inhabited
def aB.cells (x:aB):List D:=[.int .i64 x.due,.int .i64 x.from_,.int .i64 x.to,.int .i64 x.cost,.int .i64 x.most,.bool x.back]
theorem aB.sized (xs:List aB):sized 6 (cM aB.cells xs) = true:=qT _ _ (fun x=>by rfl) xs
theorem aB.len (x:aB):x.cells.length = 6:=rfl
theorem aB.size {β:Type} (x:aB) (y:Option β):tJ x.cells 6 y = y:=rfl
theorem aB.put {β:Type} (x:aB) (id:Nat) (cs:List V) (hc:cs.length = 6) (kw:V→List (Nat × Option aL)→Option β):oQ 6 0 id (oJ x.cells) (some (.box cs)) kw = kw .any [(id,some (.box (bM x.cells)))]:=pC 6 id _ rfl cs hc
theorem aB.rset {β:Type} (x:aB) (off:Nat) (d:D) (ds:List D) (n:Nat) (k:List D→Option β):kD x.cells off (d :: ds) n k = kD [.int .i64 x.due,.int .i64 x.from_,.int .i64 x.to,.int .i64 x.cost,.int .i64 x.most,.bool x.back] off (d :: ds) n k:=rfl
theorem aB.get0 {β:Type} (x:aB) (k:D→Option β):iI x.cells 0 k = k (.int .i64 x.due):=rfl
theorem aB.get1 {β:Type} (x:aB) (k:D→Option β):iI x.cells 1 k = k (.int .i64 x.from_):=rfl
theorem aB.get2 {β:Type} (x:aB) (k:D→Option β):iI x.cells 2 k = k (.int .i64 x.to):=rfl
theorem aB.get3 {β:Type} (x:aB) (k:D→Option β):iI x.cells 3 k = k (.int .i64 x.cost):=rfl
theorem aB.get4 {β:Type} (x:aB) (k:D→Option β):iI x.cells 4 k = k (.int .i64 x.most):=rfl
theorem aB.get5 {β:Type} (x:aB) (k:D→Option β):iI x.cells 5 k = k (.bool x.back):=rfl
theorem aB.sub0_6 {β:Type} (x:aB) (k:List D→Option β):wB x.cells 0 6 k = k x.cells:=rfl
theorem aB.cells_mk (f0:Int) (f1:Int) (f2:Int) (f3:Int) (f4:Int) (f5:Bool):aB.cells (aB.mk f0 f1 f2 f3 f4 f5) = [.int .i64 f0,.int .i64 f1,.int .i64 f2,.int .i64 f3,.int .i64 f4,.bool f5]:=rfl
structure aD where
 c:Int
 steps:Int
 fine:Bool
 deriving Inhabited
def aD.cells (x:aD):List D:=[.int .i64 x.c,.int .i64 x.steps,.bool x.fine]
theorem aD.sized (xs:List aD):sized 3 (cM aD.cells xs) = true:=qT _ _ (fun x=>by rfl) xs
theorem aD.len (x:aD):x.cells.length = 3:=rfl
theorem aD.put {β:Type} (x:aD) (id:Nat) (cs:List V) (hc:cs.length = 3) (kw:V→List (Nat × Option aL)→Option β):oQ 3 0 id (oJ x.cells) (some (.box cs)) kw = kw .any [(id,some (.box (bM x.cells)))]:=pC 3 id _ rfl cs hc
theorem aD.rset {β:Type} (x:aD) (off:Nat) (d:D) (ds:List D) (n:Nat) (k:List D→Option β):kD x.cells off (d :: ds) n k = kD [.int .i64 x.c,.int .i64 x.steps,.bool x.fine] off (d :: ds) n k:=rfl
theorem aD.rfull {β:Type} (x y:aD) (k:List D→Option β):kD x.cells 0 y.cells 3 k = k y.cells:=by unfold kD; exact (if_pos ⟨rfl,Nat.le_refl _⟩).trans rfl
theorem aD.get0 {β:Type} (x:aD) (k:D→Option β):iI x.cells 0 k = k (.int .i64 x.c):=rfl
theorem aD.get1 {β:Type} (x:aD) (k:D→Option β):iI x.cells 1 k = k (.int .i64 x.steps):=rfl
theorem aD.get2 {β:Type} (x:aD) (k:D→Option β):iI x.cells 2 k = k (.bool x.fine):=rfl
theorem aD.sub0_3 {β:Type} (x:aD) (k:List D→Option β):wB x.cells 0 3 k = k x.cells:=rfl
theorem aD.cells_mk (f0:Int) (f1:Int) (f2:Bool):aD.cells (aD.mk f0 f1 f2) = [.int .i64 f0,.int .i64 f1,.bool f2]:=rfl
theorem aJH {β:Type} (x:Int) (k:D→Option β):iI (cI x) 0 k = k (.int .i64 x):=rfl
theorem aIh {β:Type} (x:Int) (off:Nat) (d:D) (ds:List D) (n:Nat) (k:List D→Option β):kD (cI x) off (d :: ds) n k = kD [.int .i64 x] off (d :: ds) n k:=rfl
theorem aFS {β:Type} (x:Int) (y:Option β):tJ (cI x) 1 y = y:=rfl
theorem aFW {β:Type} (x0:D) (y:Option β):tJ [x0] 1 y = y:=rfl
theorem aGF {β:Type} (x0 x1 x2:D) (y:Option β):tJ [x0,x1,x2] 3 y = y:=rfl
theorem aHd {β:Type} (x0 x1 x2 x3:D) (y:Option β):tJ [x0,x1,x2,x3] 4 y = y:=rfl
theorem aHl {β:Type} (x0 x1 x2 x3 x4 x5:D) (y:Option β):tJ [x0,x1,x2,x3,x4,x5] 6 y = y:=rfl
theorem aHB {β:Type} (x0 x1 x2 x3 x4 x5 x6 x7 x8:D) (y:Option β):tJ [x0,x1,x2,x3,x4,x5,x6,x7,x8] 9 y = y:=rfl
theorem aJ8 {β:Type} (i:IntKind) (x:Int) (k:D→Option β):iI (cK i x) 0 k = k (.int i x):=rfl
theorem aHH {β:Type} (i:IntKind) (x:Int) (y:Option β):tJ (cK i x) 1 y = y:=rfl
theorem MH {β:Type} {bl:List (Nat × Option aL)} {kw:V→List (Nat × Option aL)→Option β} (bytes d:Nat) (x:V):M8 37 4 bytes d x .nil bl kw = PY 37 4 bytes d x aC.cells [] bl kw:=PX _ _ _ _ _ _ _ _ (fun _=>rfl) rfl
theorem W2 {β:Type} {T:vT} {d:Nat} {fr:List (Nat × V)} {bl:List (Nat × Option aL)} {k:V→Option β} {kw:V→List (Nat × Option aL)→Option β} (l cp:dL):uH T d (.makeSlice 3 1 8 [.int .i64 0] l cp) fr bl k kw = dK bl d fun b=>jR b (d9 fr l fun a=>d9 fr cp fun b=>aHo 8 a b fun n=>kw (.own d 0) [(d,some (.rows 0 3 1 (cM cI (List.replicate n 0))))]):=aI2 3 1 8 [.int .i64 0] cI (0:Int) rfl l cp
theorem U3 {β:Type} {T:vT} {d:Nat} {fr:List (Nat × V)} {bl:List (Nat × Option aL)} {k:V→Option β} {kw:V→List (Nat × Option aL)→Option β} (l cp:dL):uH T d (.makeSlice 89 3 24 [.int .i64 0,.int .i64 0,.bool false] l cp) fr bl k kw = dK bl d fun b=>jR b (d9 fr l fun a=>d9 fr cp fun b=>aHo 24 a b fun n=>kw (.own d 0) [(d,some (.rows 0 89 3 (cM aD.cells (List.replicate n (aD.mk 0 0 false)))))]):=aI2 89 3 24 [.int .i64 0,.int .i64 0,.bool false] aD.cells ((aD.mk 0 0 false):aD) rfl l cp
theorem S9 {β:Type} (k:List (List D)→Option β):PQ 3 [] k = k (cM cI ([]:List Int)):=rfl
theorem QP {β:Type} (a0:Int) (k:List (List D)→Option β):PQ 3 [[.int .i64 a0]] k = k (cM cI ([a0]:List Int)):=rfl
theorem QR {β:Type} (k:List (List D)→Option β):PQ 32 [] k = k (cM aA.cells ([]:List aA)):=rfl
theorem IE {β:Type} (a0_0:Int) (a0_1:Int) (a0_2:Int) (a0_3:Int) (a0_4:Int) (a0_5:Int) (a0_6:Int) (a0_7:Int) (a0_8:Int) (a1_0:Int) (a1_1:Int) (a1_2:Int) (a1_3:Int) (a1_4:Int) (a1_5:Int) (a1_6:Int) (a1_7:Int) (a1_8:Int) (a2_0:Int) (a2_1:Int) (a2_2:Int) (a2_3:Int) (a2_4:Int) (a2_5:Int) (a2_6:Int) (a2_7:Int) (a2_8:Int) (a3_0:Int) (a3_1:Int) (a3_2:Int) (a3_3:Int) (a3_4:Int) (a3_5:Int) (a3_6:Int) (a3_7:Int) (a3_8:Int) (k:List (List D)→Option β):PQ 32 [[.int .i64 a0_0,.int .i64 a0_1,.int .i64 a0_2,.int .i64 a0_3,.int .i64 a0_4,.int .i64 a0_5,.int .i64 a0_6,.int .i64 a0_7,.int .i64 a0_8],[.int .i64 a1_0,.int .i64 a1_1,.int .i64 a1_2,.int .i64 a1_3,.int .i64 a1_4,.int .i64 a1_5,.int .i64 a1_6,.int .i64 a1_7,.int .i64 a1_8],[.int .i64 a2_0,.int .i64 a2_1,.int .i64 a2_2,.int .i64 a2_3,.int .i64 a2_4,.int .i64 a2_5,.int .i64 a2_6,.int .i64 a2_7,.int .i64 a2_8],[.int .i64 a3_0,.int .i64 a3_1,.int .i64 a3_2,.int .i64 a3_3,.int .i64 a3_4,.int .i64 a3_5,.int .i64 a3_6,.int .i64 a3_7,.int .i64 a3_8]] k = k (cM aA.cells ([(aA.mk a0_0 a0_1 a0_2 a0_3 a0_4 a0_5 a0_6 a0_7 a0_8),(aA.mk a1_0 a1_1 a1_2 a1_3 a1_4 a1_5 a1_6 a1_7 a1_8),(aA.mk a2_0 a2_1 a2_2 a2_3 a2_4 a2_5 a2_6 a2_7 a2_8),(aA.mk a3_0 a3_1 a3_2 a3_3 a3_4 a3_5 a3_6 a3_7 a3_8)]:List aA)):=rfl
theorem N1 {β:Type} (a0_0:Int) (a0_1:Int) (a0_2:Int) (a0_3:Int) (a0_4:Int) (a0_5:Int) (a0_6:Int) (a0_7:Int) (a0_8:Int) (k:List (List D)→Option β):PQ 32 [[.int .i64 a0_0,.int .i64 a0_1,.int .i64 a0_2,.int .i64 a0_3,.int .i64 a0_4,.int .i64 a0_5,.int .i64 a0_6,.int .i64 a0_7,.int .i64 a0_8]] k = k (cM aA.cells ([(aA.mk a0_0 a0_1 a0_2 a0_3 a0_4 a0_5 a0_6 a0_7 a0_8)]:List aA)):=rfl
theorem NK {β:Type} (a0:aA) (k:List (List D)→Option β):PQ 32 [aA.cells a0] k = k (cM aA.cells ([a0]:List aA)):=rfl
theorem Q6 {β:Type} (k:List (List D)→Option β):PQ 37 [] k = k (cM aC.cells ([]:List aC)):=rfl
theorem JY {β:Type} (a0_0:Int) (a0_1:Int) (a0_2:Int) (a0_3:Int) (a1_0:Int) (a1_1:Int) (a1_2:Int) (a1_3:Int) (a2_0:Int) (a2_1:Int) (a2_2:Int) (a2_3:Int) (k:List (List D)→Option β):PQ 37 [[.int .i64 a0_0,.int .i64 a0_1,.int .i64 a0_2,.int .i64 a0_3],[.int .i64 a1_0,.int .i64 a1_1,.int .i64 a1_2,.int .i64 a1_3],[.int .i64 a2_0,.int .i64 a2_1,.int .i64 a2_2,.int .i64 a2_3]] k = k (cM aC.cells ([(aC.mk a0_0 a0_1 a0_2 a0_3),(aC.mk a1_0 a1_1 a1_2 a1_3),(aC.mk a2_0 a2_1 a2_2 a2_3)]:List aC)):=rfl
theorem NO {β:Type} (a0_0:Int) (a0_1:Int) (a0_2:Int) (a0_3:Int) (k:List (List D)→Option β):PQ 37 [[.int .i64 a0_0,.int .i64 a0_1,.int .i64 a0_2,.int .i64 a0_3]] k = k (cM aC.cells ([(aC.mk a0_0 a0_1 a0_2 a0_3)]:List aC)):=rfl
theorem Q8 {β:Type} (k:List (List D)→Option β):PQ 43 [] k = k (cM cI ([]:List Int)):=rfl
theorem NR {β:Type} (a0:Int) (k:List (List D)→Option β):PQ 43 [[.int .i64 a0]] k = k (cM cI ([a0]:List Int)):=rfl
theorem QY {β:Type} (k:List (List D)→Option β):PQ 46 [] k = k (cM aS.cells ([]:List aS)):=rfl
theorem NL {β:Type} (a0_0:Int) (a0_1:Int) (a0_2:Int) (k:List (List D)→Option β):PQ 46 [[.int .i64 a0_0,.int .i64 a0_1,.int .i64 a0_2]] k = k (cM aS.cells ([(aS.mk a0_0 a0_1 a0_2)]:List aS)):=rfl
theorem Q9 {β:Type} (k:List (List D)→Option β):PQ 73 [] k = k (cM aB.cells ([]:List aB)):=rfl
theorem NG {β:Type} (a0_0:Int) (a0_1:Int) (a0_2:Int) (a0_3:Int) (a0_4:Int) (a0_5:Bool) (k:List (List D)→Option β):PQ 73 [[.int .i64 a0_0,.int .i64 a0_1,.int .i64 a0_2,.int .i64 a0_3,.int .i64 a0_4,.bool a0_5]] k = k (cM aB.cells ([(aB.mk a0_0 a0_1 a0_2 a0_3 a0_4 a0_5)]:List aB)):=rfl
theorem NE {β:Type} (a0:aB) (k:List (List D)→Option β):PQ 73 [aB.cells a0] k = k (cM aB.cells ([a0]:List aB)):=rfl
theorem YE {β:Type} (xs:List Int) (i:Nat) (a:Int) (k:List (List D)→Option β):xK 3 (cM cI xs) i [.int .i64 a] k = k (cM cI (xs.set i a)):=BB 3 cI xs i a k
theorem S3 {β:Type} (xs:List aB) (i:Nat) (a_0:Int) (a_1:Int) (a_2:Int) (a_3:Int) (a_4:Int) (a_5:Bool) (k:List (List D)→Option β):xK 73 (cM aB.cells xs) i [.int .i64 a_0,.int .i64 a_1,.int .i64 a_2,.int .i64 a_3,.int .i64 a_4,.bool a_5] k = k (cM aB.cells (xs.set i (aB.mk a_0 a_1 a_2 a_3 a_4 a_5))):=BB 73 aB.cells xs i (aB.mk a_0 a_1 a_2 a_3 a_4 a_5) k
theorem U4 {β:Type} (xs:List aD) (i:Nat) (a_0:Int) (a_1:Int) (a_2:Bool) (k:List (List D)→Option β):xK 89 (cM aD.cells xs) i [.int .i64 a_0,.int .i64 a_1,.bool a_2] k = k (cM aD.cells (xs.set i (aD.mk a_0 a_1 a_2))):=BB 89 aD.cells xs i (aD.mk a_0 a_1 a_2) k
/- all rules as one -/
set_option linter.defProp false
def DN:=aN (aN (aN (aN (aN (aN (aN (aN @aKy @aEa) (aN @aC5 (aN @aGw @aHC))) (aN (aN @aFU @WI) (aN @aDO (aN @aDm @VA)))) (aN (aN (aN @TO @aAM) (aN @SH (aN @aAk @aGX))) (aN (aN @aJ5 @aCM) (aN @aFk (aN @aAl @WG))))) (aN (aN (aN (aN @aFK @aG1) (aN @aB2 (aN @aBb @WJ))) (aN (aN @aDn @aAv) (aN @aAJ (aN @aD9 @QE)))) (aN (aN (aN @NF @aBA) (aN @NN (aN @aAT @XY))) (aN (aN @WZ (aN @UR @aEi)) (aN @aAh (aN @VW @R4)))))) (aN (aN (aN (aN (aN @aB0 @aIC) (aN @aEW (aN @aCA @MT))) (aN (aN @aHc @aG8) (aN @aKD (aN @TP @aCN)))) (aN (aN (aN @aBv @V9) (aN @aBx (aN @aFH @aB1))) (aN (aN @YF @aHV) (aN @aHR (aN @WY @U8))))) (aN (aN (aN (aN @aDx @WD) (aN @aAV (aN @aAc @aHa))) (aN (aN @SY @aAS) (aN @aGU (aN @aEA @aE9)))) (aN (aN (aN @aIx @aE0) (aN @aJl (aN @aKh @aJI))) (aN (aN @aED (aN @aET @aDq)) (aN @aHF (aN @aHG @aHn))))))) (aN (aN (aN (aN (aN (aN @aBR @W4) (aN @WP (aN @aFN @aFG))) (aN (aN @VK @aC9) (aN @aBO (aN @aDr @aAx)))) (aN (aN (aN @aFz @aGk) (aN @aG9 (aN @aGl @aJU))) (aN (aN @aKc @aFi) (aN @aAW (aN @aG3 @aBo))))) (aN (aN (aN (aN @UB @aBd) (aN @PZ (aN @aHx @aGb))) (aN (aN @aCT @aDl) (aN @aDQ (aN @aH0 @aJN)))) (aN (aN (aN @aIo @aIk) (aN @aDe (aN @aBG @aC7))) (aN (aN @aAY (aN @aKB @aFB)) (aN @aHm (aN @aG7 @aIw)))))) (aN (aN (aN (aN (aN @NZ @N4) (aN @aBI (aN @V2 @NC))) (aN (aN @aEu @TE) (aN @aHr (aN @aFF @V0)))) (aN (aN (aN @SJ @W7) (aN @aAX (aN @XH @VF))) (aN (aN @UJ (aN @aA1 @WM)) (aN @aGO (aN @aGy @aIg))))) (aN (aN (aN (aN @aBc @aAr) (aN @aDA (aN @aEt @aF2))) (aN (aN @aDa @aCF) (aN @aFb (aN @R6 @aGY)))) (aN (aN (aN @aHh @RP) (aN @XM (aN @YB @aEw))) (aN (aN @aE4 (aN @aCe @UE)) (aN @aFT (aN @aIs @SU)))))))) (aN (aN (aN (aN (aN (aN (aN @aIb @aHO) (aN @aLb (aN @aIJ @Q1))) (aN (aN @TC @ST) (aN @BB (aN @aJM @aGA)))) (aN (aN (aN @aLO @aKY) (aN @aK9 (aN @aCz @aFE))) (aN (aN @aEQ @aFx) (aN @aEp (aN @aDR @aFl))))) (aN (aN (aN (aN @aDP @aFp) (aN @aF6 (aN @aGs @aHW))) (aN (aN @aEP @aBz) (aN @OR (aN @IU @aIG)))) (aN (aN (aN @aEx @VH) (aN @aJX (aN @aKg @aA6))) (aN (aN @aAU (aN @Y8 @aDy)) (aN @YH (aN @aAq @V6)))))) (aN (aN (aN (aN (aN @aHq @aDw) (aN @aDS (aN @aBw @aGj))) (aN (aN @aJP @aFy) (aN @aEe (aN @RY @aBM)))) (aN (aN (aN @aJg @UP) (aN @aBF (aN @aJW @aKt))) (aN (aN @aID (aN @aEk @aBm)) (aN @X5 (aN @aIy @aKm))))) (aN (aN (aN (aN @aJL @aJe) (aN @aAP (aN @XF @aB7))) (aN (aN @YL @aHP) (aN @aF5 (aN @aJn @aDc)))) (aN (aN (aN @NY @MQ) (aN @aIr (aN @aA2 @Z1))) (aN (aN @VY (aN @aCg @UM)) (aN @SG (aN @XC @aDF))))))) (aN (aN (aN (aN (aN (aN @aDN @XO) (aN @S6 (aN @VN @NP))) (aN (aN @SZ @aJG) (aN @aD7 (aN @aFC @aAI)))) (aN (aN (aN @aFZ @aIt) (aN @aKq (aN @Z8 @aEz))) (aN (aN @aKr @aJT) (aN @aJC (aN @aA9 @RX))))) (aN (aN (aN (aN @aCl @aB5) (aN @VR (aN @S5 @aJd))) (aN (aN @aKd @VO) (aN @aDT (aN @aF7 @aDp)))) (aN (aN (aN @aEh @aJ9) (aN @aKa (aN @aEg @aA5))) (aN (aN @aBV (aN @aAe @aGQ)) (aN @aHp (aN @W0 @aFA)))))) (aN (aN (aN (aN (aN @XP @VJ) (aN @aD2 (aN @aIE @aJA))) (aN (aN @VZ @SA) (aN @aBl (aN @VB @aE8)))) (aN (aN (aN @aFt @aHQ) (aN @aEv (aN @aCx @aKf))) (aN (aN @aBJ (aN @aAC @aBr)) (aN @aE1 (aN @Z5 @P1))))) (aN (aN (aN (aN @W8 @R5) (aN @WT (aN @aAu @aBi))) (aN (aN @aCa @aAO) (aN @aCf (aN @aBQ @aDj)))) (aN (aN (aN @aAo @X1) (aN @aCE (aN @aFL @VQ))) (aN (aN @XQ (aN @aAH @WF)) (aN @aAb (aN @RW @aDu))))))))
def DR:=aN (aN (aN (aN (aN (aN @aA.size @aA.eq1) (aN @aA.eq2 (aN @aA.put @aA.rset))) (aN (aN @aA.rfull @aA.get0) (aN @aA.get1 (aN @aA.get2 @aA.get3)))) (aN (aN (aN @aA.get4 @aA.get5) (aN @aA.get6 (aN @aA.get7 @aA.get8))) (aN (aN @aA.sub0_9 (aN @aC.size @aC.eq1)) (aN @aC.eq2 (aN @aC.put @aC.get0))))) (aN (aN (aN (aN @aC.get1 @aC.get2) (aN @aC.get3 (aN @aC.sub0_4 @aE.size))) (aN (aN @aE.eq1 (aN @aE.eq2 @aE.put)) (aN @aE.get0 (aN @aE.get1 @aE.sub0_2)))) (aN (aN (aN @aS.size @aS.put) (aN @aS.get0 (aN @aS.get1 @aS.get2))) (aN (aN @aS.sub0_3 (aN @aB.size @aB.put)) (aN @aB.rset (aN @aB.get0 @aB.get1)))))) (aN (aN (aN (aN (aN @aB.get2 @aB.get3) (aN @aB.get4 (aN @aB.get5 @aB.sub0_6))) (aN (aN @aD.put (aN @aD.rset @aD.rfull)) (aN @aD.get0 (aN @aD.get1 @aD.get2)))) (aN (aN (aN @aD.sub0_3 @aJH) (aN @aIh (aN @aFS @aFW))) (aN (aN @aGF (aN @aHd @aHl)) (aN @aHB (aN @aJ8 @aHH))))) (aN (aN (aN (aN @MH @W2) (aN @U3 (aN @S9 @QP))) (aN (aN @QR (aN @IE @N1)) (aN @NK (aN @Q6 @JY)))) (aN (aN (aN @NO @Q8) (aN @NR (aN @QY @NL))) (aN (aN @Q9 (aN @NG @NE)) (aN @YE (aN @S3 @U4))))))
def DQ:=aN (aN (aN (aN @aA.len @aC.len) (aN @aE.len @aS.len)) (aN (aN @aB.len @aD.len) (aN @aA.cells_mk (aN @aC.cells_mk @aE.cells_mk)))) (aN (aN (aN @aS.cells_mk @aB.cells_mk) (aN @aD.cells_mk @aA.sized)) (aN (aN @aC.sized @aE.sized) (aN @aS.sized (aN @aB.sized @aD.sized))))
def DP:=aN @Option.some.injEq (aN @Bool.and_true @List.cons_ne_nil)
end Go.Proofs.Ytiimibimkpimbaa
