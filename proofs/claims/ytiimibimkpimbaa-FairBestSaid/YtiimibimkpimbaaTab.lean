/- The table. Printed by a program. -/
import Derived.Test.YtiimibimkpimbaaVmH
import Derived.Test.YtiimibimkpimbaaRepD
import Derived.Test.YtiimibimkpimbaaSortD
import Derived.Test.YtiimibimkpimbaaCode1
import Derived.Test.YtiimibimkpimbaaCode2
set_option linter.unusedVariables false
set_option linter.unusedSimpArgs false
namespace Go.Proofs.Ytiimibimkpimbaa
open Vm
open Go.RowKit
def o31:List D→Option D:=RL 32
def o66:List D→Option D:=aG1 3
def TL:List (Nat × Option Def):=[(19,some (.code aLc)),(38,some (.code aKR)),(21,some (.code aLd)),(20,some (.code aKH)),(42,some (.code aLk)),(40,some (.code aKq)),(26,some (.code aKo)),(30,some (.code aK9)),(28,some (.code aK3)),(41,some (.code aKI)),(29,some (.code aKL)),(27,some (.code aKV)),(25,some (.code aLm)),(14,some (.code aKK)),(67,some (.code aKM)),(69,some (.code aKO)),(33,some (.code aLz)),(37,some (.code aKu)),(63,some (.code aK5)),(46,some (.code aLg)),(45,some (.code aLv)),(47,some (.code aLl)),(34,some (.code aKD)),(48,some (.code aK6)),(65,some (.code aKw)),(49,some (.code aKJ)),(35,some (.code aKU)),(36,some (.code aKP)),(16,some (.code aKG)),(70,some (.code aKX)),(10,some (.code aKy)),(12,some (.code aKA)),(13,some (.code aLs)),(8,some (.code sf8)),(9,some (.code sf9)),(11,some (.code aLx)),(15,some (.code aKt)),(18,some (.code aKs)),(7,some (.code sf7)),(31,some (.toldL o31)),(66,some (.told o66))]
def TT:vT:=fun f=>lk TL none f
structure aA where
 Kind:Int
 Room:Int
 Day:Int
 No:Int
 From:Int
 To:Int
 Currency:Int
 Due:Int
 Sum:Int
 deriving Inhabited
def aA.cells (x:aA):List D:=[.int .i64 x.Kind,.int .i64 x.Room,.int .i64 x.Day,.int .i64 x.No,.int .i64 x.From,.int .i64 x.To,.int .i64 x.Currency,.int .i64 x.Due,.int .i64 x.Sum]
theorem aA.sized (xs:List aA):sized 9 (cM aA.cells xs) = true:=qX _ _ (fun x=>by rfl) xs
theorem aA.len (x:aA):x.cells.length = 9:=rfl
theorem aA.size {β:Type} (x:aA) (y:Option β):tT x.cells 9 y = y:=rfl
theorem aA.eq1 {β:Type} (x:aA) (ks:List Nat) (ys:List V) (k:Bool→Option β):xP ks (bQ x.cells) ys k = xP ks [.d (.int .i64 x.Kind),.d (.int .i64 x.Room),.d (.int .i64 x.Day),.d (.int .i64 x.No),.d (.int .i64 x.From),.d (.int .i64 x.To),.d (.int .i64 x.Currency),.d (.int .i64 x.Due),.d (.int .i64 x.Sum)] ys k:=rfl
theorem aA.eq2 {β:Type} (x:aA) (ks:List Nat) (ys:List V) (k:Bool→Option β):xP ks ys (bQ x.cells) k = xP ks ys [.d (.int .i64 x.Kind),.d (.int .i64 x.Room),.d (.int .i64 x.Day),.d (.int .i64 x.No),.d (.int .i64 x.From),.d (.int .i64 x.To),.d (.int .i64 x.Currency),.d (.int .i64 x.Due),.d (.int .i64 x.Sum)] k:=rfl
theorem aA.put {β:Type} (x:aA) (id:Nat) (cs:List V) (hc:cs.length = 9) (kw:V→List (Nat × Option aS)→Option β):oT 9 0 id (oK x.cells) (some (.box cs)) kw = kw .any [(id,some (.box (bQ x.cells)))]:=o7 9 id _ rfl cs hc
theorem aA.rset {β:Type} (x:aA) (off:Nat) (d:D) (ds:List D) (n:Nat) (k:List D→Option β):jY x.cells off (d :: ds) n k = jY [.int .i64 x.Kind,.int .i64 x.Room,.int .i64 x.Day,.int .i64 x.No,.int .i64 x.From,.int .i64 x.To,.int .i64 x.Currency,.int .i64 x.Due,.int .i64 x.Sum] off (d :: ds) n k:=rfl
theorem aA.rfull {β:Type} (x y:aA) (k:List D→Option β):jY x.cells 0 y.cells 9 k = k y.cells:=by unfold jY; exact (if_pos ⟨rfl,Nat.le_refl _⟩).trans rfl
theorem aA.get0 {β:Type} (x:aA) (k:D→Option β):iC x.cells 0 k = k (.int .i64 x.Kind):=rfl
theorem aA.get1 {β:Type} (x:aA) (k:D→Option β):iC x.cells 1 k = k (.int .i64 x.Room):=rfl
theorem aA.get2 {β:Type} (x:aA) (k:D→Option β):iC x.cells 2 k = k (.int .i64 x.Day):=rfl
theorem aA.get3 {β:Type} (x:aA) (k:D→Option β):iC x.cells 3 k = k (.int .i64 x.No):=rfl
theorem aA.get4 {β:Type} (x:aA) (k:D→Option β):iC x.cells 4 k = k (.int .i64 x.From):=rfl
theorem aA.get5 {β:Type} (x:aA) (k:D→Option β):iC x.cells 5 k = k (.int .i64 x.To):=rfl
theorem aA.get6 {β:Type} (x:aA) (k:D→Option β):iC x.cells 6 k = k (.int .i64 x.Currency):=rfl
theorem aA.get7 {β:Type} (x:aA) (k:D→Option β):iC x.cells 7 k = k (.int .i64 x.Due):=rfl
theorem aA.get8 {β:Type} (x:aA) (k:D→Option β):iC x.cells 8 k = k (.int .i64 x.Sum):=rfl
theorem aA.sub0_9 {β:Type} (x:aA) (k:List D→Option β):wB x.cells 0 9 k = k x.cells:=rfl
theorem aA.cells_mk (f0:Int) (f1:Int) (f2:Int) (f3:Int) (f4:Int) (f5:Int) (f6:Int) (f7:Int) (f8:Int):aA.cells (aA.mk f0 f1 f2 f3 f4 f5 f6 f7 f8) = [.int .i64 f0,.int .i64 f1,.int .i64 f2,.int .i64 f3,.int .i64 f4,.int .i64 f5,.int .i64 f6,.int .i64 f7,.int .i64 f8]:=rfl
structure aC where
 Kind:Int
 Room:Int
 No:Int
 Sum:Int
 deriving Inhabited
def aC.cells (x:aC):List D:=[.int .i64 x.Kind,.int .i64 x.Room,.int .i64 x.No,.int .i64 x.Sum]
theorem aC.sized (xs:List aC):sized 4 (cM aC.cells xs) = true:=qX _ _ (fun x=>by rfl) xs
theorem aC.len (x:aC):x.cells.length = 4:=rfl
theorem aC.size {β:Type} (x:aC) (y:Option β):tT x.cells 4 y = y:=rfl
theorem aC.eq1 {β:Type} (x:aC) (ks:List Nat) (ys:List V) (k:Bool→Option β):xP ks (bQ x.cells) ys k = xP ks [.d (.int .i64 x.Kind),.d (.int .i64 x.Room),.d (.int .i64 x.No),.d (.int .i64 x.Sum)] ys k:=rfl
theorem aC.eq2 {β:Type} (x:aC) (ks:List Nat) (ys:List V) (k:Bool→Option β):xP ks ys (bQ x.cells) k = xP ks ys [.d (.int .i64 x.Kind),.d (.int .i64 x.Room),.d (.int .i64 x.No),.d (.int .i64 x.Sum)] k:=rfl
theorem aC.put {β:Type} (x:aC) (id:Nat) (cs:List V) (hc:cs.length = 4) (kw:V→List (Nat × Option aS)→Option β):oT 4 0 id (oK x.cells) (some (.box cs)) kw = kw .any [(id,some (.box (bQ x.cells)))]:=o7 4 id _ rfl cs hc
theorem aC.get0 {β:Type} (x:aC) (k:D→Option β):iC x.cells 0 k = k (.int .i64 x.Kind):=rfl
theorem aC.get1 {β:Type} (x:aC) (k:D→Option β):iC x.cells 1 k = k (.int .i64 x.Room):=rfl
theorem aC.get2 {β:Type} (x:aC) (k:D→Option β):iC x.cells 2 k = k (.int .i64 x.No):=rfl
theorem aC.get3 {β:Type} (x:aC) (k:D→Option β):iC x.cells 3 k = k (.int .i64 x.Sum):=rfl
theorem aC.sub0_4 {β:Type} (x:aC) (k:List D→Option β):wB x.cells 0 4 k = k x.cells:=rfl
theorem aC.cells_mk (f0:Int) (f1:Int) (f2:Int) (f3:Int):aC.cells (aC.mk f0 f1 f2 f3) = [.int .i64 f0,.int .i64 f1,.int .i64 f2,.int .i64 f3]:=rfl
structure aE where
 currency:Int
 due:Int
 deriving Inhabited
def aE.cells (x:aE):List D:=[.int .i64 x.currency,.int .i64 x.due]
theorem aE.sized (xs:List aE):sized 2 (cM aE.cells xs) = true:=qX _ _ (fun x=>by rfl) xs
theorem aE.len (x:aE):x.cells.length = 2:=rfl
theorem aE.size {β:Type} (x:aE) (y:Option β):tT x.cells 2 y = y:=rfl
theorem aE.eq1 {β:Type} (x:aE) (ks:List Nat) (ys:List V) (k:Bool→Option β):xP ks (bQ x.cells) ys k = xP ks [.d (.int .i64 x.currency),.d (.int .i64 x.due)] ys k:=rfl
theorem aE.eq2 {β:Type} (x:aE) (ks:List Nat) (ys:List V) (k:Bool→Option β):xP ks ys (bQ x.cells) k = xP ks ys [.d (.int .i64 x.currency),.d (.int .i64 x.due)] k:=rfl
theorem aE.put {β:Type} (x:aE) (id:Nat) (cs:List V) (hc:cs.length = 2) (kw:V→List (Nat × Option aS)→Option β):oT 2 0 id (oK x.cells) (some (.box cs)) kw = kw .any [(id,some (.box (bQ x.cells)))]:=o7 2 id _ rfl cs hc
theorem aE.get0 {β:Type} (x:aE) (k:D→Option β):iC x.cells 0 k = k (.int .i64 x.currency):=rfl
theorem aE.get1 {β:Type} (x:aE) (k:D→Option β):iC x.cells 1 k = k (.int .i64 x.due):=rfl
theorem aE.sub0_2 {β:Type} (x:aE) (k:List D→Option β):wB x.cells 0 2 k = k x.cells:=rfl
theorem aE.cells_mk (f0:Int) (f1:Int):aE.cells (aE.mk f0 f1) = [.int .i64 f0,.int .i64 f1]:=rfl
structure aG where
 From:Int
 To:Int
 Sum:Int
 deriving Inhabited
def aG.cells (x:aG):List D:=[.int .i64 x.From,.int .i64 x.To,.int .i64 x.Sum]
theorem aG.sized (xs:List aG):sized 3 (cM aG.cells xs) = true:=qX _ _ (fun x=>by rfl) xs
theorem aG.len (x:aG):x.cells.length = 3:=rfl
theorem aG.size {β:Type} (x:aG) (y:Option β):tT x.cells 3 y = y:=rfl
theorem aG.put {β:Type} (x:aG) (id:Nat) (cs:List V) (hc:cs.length = 3) (kw:V→List (Nat × Option aS)→Option β):oT 3 0 id (oK x.cells) (some (.box cs)) kw = kw .any [(id,some (.box (bQ x.cells)))]:=o7 3 id _ rfl cs hc
theorem aG.get0 {β:Type} (x:aG) (k:D→Option β):iC x.cells 0 k = k (.int .i64 x.From):=rfl
theorem aG.get1 {β:Type} (x:aG) (k:D→Option β):iC x.cells 1 k = k (.int .i64 x.To):=rfl
theorem aG.get2 {β:Type} (x:aG) (k:D→Option β):iC x.cells 2 k = k (.int .i64 x.Sum):=rfl
theorem aG.sub0_3 {β:Type} (x:aG) (k:List D→Option β):wB x.cells 0 3 k = k x.cells:=rfl
theorem aG.cells_mk (f0:Int) (f1:Int) (f2:Int):aG.cells (aG.mk f0 f1 f2) = [.int .i64 f0,.int .i64 f1,.int .i64 f2]:=rfl
structure aB where
 due:Int
 from_:Int
 to:Int
 cost:Int
 most:Int
 back:Bool
 deriving Inhabited
def aB.cells (x:aB):List D:=[.int .i64 x.due,.int .i64 x.from_,.int .i64 x.to,.int .i64 x.cost,.int .i64 x.most,.bool x.back]
theorem aB.sized (xs:List aB):sized 6 (cM aB.cells xs) = true:=qX _ _ (fun x=>by rfl) xs
theorem aB.len (x:aB):x.cells.length = 6:=rfl
theorem aB.size {β:Type} (x:aB) (y:Option β):tT x.cells 6 y = y:=rfl
theorem aB.put {β:Type} (x:aB) (id:Nat) (cs:List V) (hc:cs.length = 6) (kw:V→List (Nat × Option aS)→Option β):oT 6 0 id (oK x.cells) (some (.box cs)) kw = kw .any [(id,some (.box (bQ x.cells)))]:=o7 6 id _ rfl cs hc
theorem aB.rset {β:Type} (x:aB) (off:Nat) (d:D) (ds:List D) (n:Nat) (k:List D→Option β):jY x.cells off (d :: ds) n k = jY [.int .i64 x.due,.int .i64 x.from_,.int .i64 x.to,.int .i64 x.cost,.int .i64 x.most,.bool x.back] off (d :: ds) n k:=rfl
theorem aB.get0 {β:Type} (x:aB) (k:D→Option β):iC x.cells 0 k = k (.int .i64 x.due):=rfl
theorem aB.get1 {β:Type} (x:aB) (k:D→Option β):iC x.cells 1 k = k (.int .i64 x.from_):=rfl
theorem aB.get2 {β:Type} (x:aB) (k:D→Option β):iC x.cells 2 k = k (.int .i64 x.to):=rfl
theorem aB.get3 {β:Type} (x:aB) (k:D→Option β):iC x.cells 3 k = k (.int .i64 x.cost):=rfl
theorem aB.get4 {β:Type} (x:aB) (k:D→Option β):iC x.cells 4 k = k (.int .i64 x.most):=rfl
theorem aB.get5 {β:Type} (x:aB) (k:D→Option β):iC x.cells 5 k = k (.bool x.back):=rfl
theorem aB.sub0_6 {β:Type} (x:aB) (k:List D→Option β):wB x.cells 0 6 k = k x.cells:=rfl
theorem aB.cells_mk (f0:Int) (f1:Int) (f2:Int) (f3:Int) (f4:Int) (f5:Bool):aB.cells (aB.mk f0 f1 f2 f3 f4 f5) = [.int .i64 f0,.int .i64 f1,.int .i64 f2,.int .i64 f3,.int .i64 f4,.bool f5]:=rfl
structure aD where
 c:Int
 steps:Int
 fine:Bool
 deriving Inhabited
def aD.cells (x:aD):List D:=[.int .i64 x.c,.int .i64 x.steps,.bool x.fine]
theorem aD.sized (xs:List aD):sized 3 (cM aD.cells xs) = true:=qX _ _ (fun x=>by rfl) xs
theorem aD.len (x:aD):x.cells.length = 3:=rfl
theorem aD.put {β:Type} (x:aD) (id:Nat) (cs:List V) (hc:cs.length = 3) (kw:V→List (Nat × Option aS)→Option β):oT 3 0 id (oK x.cells) (some (.box cs)) kw = kw .any [(id,some (.box (bQ x.cells)))]:=o7 3 id _ rfl cs hc
theorem aD.rset {β:Type} (x:aD) (off:Nat) (d:D) (ds:List D) (n:Nat) (k:List D→Option β):jY x.cells off (d :: ds) n k = jY [.int .i64 x.c,.int .i64 x.steps,.bool x.fine] off (d :: ds) n k:=rfl
theorem aD.rfull {β:Type} (x y:aD) (k:List D→Option β):jY x.cells 0 y.cells 3 k = k y.cells:=by unfold jY; exact (if_pos ⟨rfl,Nat.le_refl _⟩).trans rfl
theorem aD.get0 {β:Type} (x:aD) (k:D→Option β):iC x.cells 0 k = k (.int .i64 x.c):=rfl
theorem aD.get1 {β:Type} (x:aD) (k:D→Option β):iC x.cells 1 k = k (.int .i64 x.steps):=rfl
theorem aD.get2 {β:Type} (x:aD) (k:D→Option β):iC x.cells 2 k = k (.bool x.fine):=rfl
theorem aD.sub0_3 {β:Type} (x:aD) (k:List D→Option β):wB x.cells 0 3 k = k x.cells:=rfl
theorem aD.cells_mk (f0:Int) (f1:Int) (f2:Bool):aD.cells (aD.mk f0 f1 f2) = [.int .i64 f0,.int .i64 f1,.bool f2]:=rfl
theorem aJV {β:Type} (x:Int) (k:D→Option β):iC (cI x) 0 k = k (.int .i64 x):=rfl
theorem aGa {β:Type} (x:Int) (off:Nat) (d:D) (ds:List D) (n:Nat) (k:List D→Option β):jY (cI x) off (d :: ds) n k = jY [.int .i64 x] off (d :: ds) n k:=rfl
theorem aFz {β:Type} (x:Int) (y:Option β):tT (cI x) 1 y = y:=rfl
theorem aGv {β:Type} (x0:D) (y:Option β):tT [x0] 1 y = y:=rfl
theorem aGV {β:Type} (x0 x1 x2:D) (y:Option β):tT [x0,x1,x2] 3 y = y:=rfl
theorem aFZ {β:Type} (x0 x1 x2 x3:D) (y:Option β):tT [x0,x1,x2,x3] 4 y = y:=rfl
theorem aGA {β:Type} (x0 x1 x2 x3 x4 x5:D) (y:Option β):tT [x0,x1,x2,x3,x4,x5] 6 y = y:=rfl
theorem aGM {β:Type} (x0 x1 x2 x3 x4 x5 x6 x7 x8:D) (y:Option β):tT [x0,x1,x2,x3,x4,x5,x6,x7,x8] 9 y = y:=rfl
theorem aKa {β:Type} (i:IntKind) (x:Int) (k:D→Option β):iC (cK i x) 0 k = k (.int i x):=rfl
theorem aHs {β:Type} (i:IntKind) (x:Int) (y:Option β):tT (cK i x) 1 y = y:=rfl
theorem L7 {β:Type} {bl:List (Nat × Option aS)} {kw:V→List (Nat × Option aS)→Option β} (bytes d:Nat) (x:V):K6 37 4 bytes d x .nil bl kw = OX 37 4 bytes d x aC.cells [] bl kw:=OV _ _ _ _ _ _ _ _ (fun _=>rfl) rfl
theorem XQ {β:Type} {T:vT} {d:Nat} {fr:List (Nat × V)} {bl:List (Nat × Option aS)} {k:V→Option β} {kw:V→List (Nat × Option aS)→Option β} (l cp:dH):uE T d (.makeSlice 3 1 8 [.int .i64 0] l cp) fr bl k kw = dG bl d fun b=>iU b (dV fr l fun a=>dV fr cp fun b=>aFJ 8 a b fun n=>kw (.own d 0) [(d,some (.rows 0 3 1 (cM cI (List.replicate n 0))))]):=aIx 3 1 8 [.int .i64 0] cI (0:Int) rfl l cp
theorem UH {β:Type} {T:vT} {d:Nat} {fr:List (Nat × V)} {bl:List (Nat × Option aS)} {k:V→Option β} {kw:V→List (Nat × Option aS)→Option β} (l cp:dH):uE T d (.makeSlice 89 3 24 [.int .i64 0,.int .i64 0,.bool false] l cp) fr bl k kw = dG bl d fun b=>iU b (dV fr l fun a=>dV fr cp fun b=>aFJ 24 a b fun n=>kw (.own d 0) [(d,some (.rows 0 89 3 (cM aD.cells (List.replicate n (aD.mk 0 0 false)))))]):=aIx 89 3 24 [.int .i64 0,.int .i64 0,.bool false] aD.cells ((aD.mk 0 0 false):aD) rfl l cp
theorem TG {β:Type} (k:List (List D)→Option β):PN 3 [] k = k (cM cI ([]:List Int)):=rfl
theorem QO {β:Type} (a0:Int) (k:List (List D)→Option β):PN 3 [[.int .i64 a0]] k = k (cM cI ([a0]:List Int)):=rfl
theorem QV {β:Type} (k:List (List D)→Option β):PN 32 [] k = k (cM aA.cells ([]:List aA)):=rfl
theorem H5 {β:Type} (a0_0:Int) (a0_1:Int) (a0_2:Int) (a0_3:Int) (a0_4:Int) (a0_5:Int) (a0_6:Int) (a0_7:Int) (a0_8:Int) (a1_0:Int) (a1_1:Int) (a1_2:Int) (a1_3:Int) (a1_4:Int) (a1_5:Int) (a1_6:Int) (a1_7:Int) (a1_8:Int) (a2_0:Int) (a2_1:Int) (a2_2:Int) (a2_3:Int) (a2_4:Int) (a2_5:Int) (a2_6:Int) (a2_7:Int) (a2_8:Int) (a3_0:Int) (a3_1:Int) (a3_2:Int) (a3_3:Int) (a3_4:Int) (a3_5:Int) (a3_6:Int) (a3_7:Int) (a3_8:Int) (k:List (List D)→Option β):PN 32 [[.int .i64 a0_0,.int .i64 a0_1,.int .i64 a0_2,.int .i64 a0_3,.int .i64 a0_4,.int .i64 a0_5,.int .i64 a0_6,.int .i64 a0_7,.int .i64 a0_8],[.int .i64 a1_0,.int .i64 a1_1,.int .i64 a1_2,.int .i64 a1_3,.int .i64 a1_4,.int .i64 a1_5,.int .i64 a1_6,.int .i64 a1_7,.int .i64 a1_8],[.int .i64 a2_0,.int .i64 a2_1,.int .i64 a2_2,.int .i64 a2_3,.int .i64 a2_4,.int .i64 a2_5,.int .i64 a2_6,.int .i64 a2_7,.int .i64 a2_8],[.int .i64 a3_0,.int .i64 a3_1,.int .i64 a3_2,.int .i64 a3_3,.int .i64 a3_4,.int .i64 a3_5,.int .i64 a3_6,.int .i64 a3_7,.int .i64 a3_8]] k = k (cM aA.cells ([(aA.mk a0_0 a0_1 a0_2 a0_3 a0_4 a0_5 a0_6 a0_7 a0_8),(aA.mk a1_0 a1_1 a1_2 a1_3 a1_4 a1_5 a1_6 a1_7 a1_8),(aA.mk a2_0 a2_1 a2_2 a2_3 a2_4 a2_5 a2_6 a2_7 a2_8),(aA.mk a3_0 a3_1 a3_2 a3_3 a3_4 a3_5 a3_6 a3_7 a3_8)]:List aA)):=rfl
theorem NL {β:Type} (a0_0:Int) (a0_1:Int) (a0_2:Int) (a0_3:Int) (a0_4:Int) (a0_5:Int) (a0_6:Int) (a0_7:Int) (a0_8:Int) (k:List (List D)→Option β):PN 32 [[.int .i64 a0_0,.int .i64 a0_1,.int .i64 a0_2,.int .i64 a0_3,.int .i64 a0_4,.int .i64 a0_5,.int .i64 a0_6,.int .i64 a0_7,.int .i64 a0_8]] k = k (cM aA.cells ([(aA.mk a0_0 a0_1 a0_2 a0_3 a0_4 a0_5 a0_6 a0_7 a0_8)]:List aA)):=rfl
theorem NN {β:Type} (a0:aA) (k:List (List D)→Option β):PN 32 [aA.cells a0] k = k (cM aA.cells ([a0]:List aA)):=rfl
theorem P8 {β:Type} (k:List (List D)→Option β):PN 37 [] k = k (cM aC.cells ([]:List aC)):=rfl
theorem J1 {β:Type} (a0_0:Int) (a0_1:Int) (a0_2:Int) (a0_3:Int) (a1_0:Int) (a1_1:Int) (a1_2:Int) (a1_3:Int) (a2_0:Int) (a2_1:Int) (a2_2:Int) (a2_3:Int) (k:List (List D)→Option β):PN 37 [[.int .i64 a0_0,.int .i64 a0_1,.int .i64 a0_2,.int .i64 a0_3],[.int .i64 a1_0,.int .i64 a1_1,.int .i64 a1_2,.int .i64 a1_3],[.int .i64 a2_0,.int .i64 a2_1,.int .i64 a2_2,.int .i64 a2_3]] k = k (cM aC.cells ([(aC.mk a0_0 a0_1 a0_2 a0_3),(aC.mk a1_0 a1_1 a1_2 a1_3),(aC.mk a2_0 a2_1 a2_2 a2_3)]:List aC)):=rfl
theorem NU {β:Type} (a0_0:Int) (a0_1:Int) (a0_2:Int) (a0_3:Int) (k:List (List D)→Option β):PN 37 [[.int .i64 a0_0,.int .i64 a0_1,.int .i64 a0_2,.int .i64 a0_3]] k = k (cM aC.cells ([(aC.mk a0_0 a0_1 a0_2 a0_3)]:List aC)):=rfl
theorem QP {β:Type} (k:List (List D)→Option β):PN 43 [] k = k (cM cI ([]:List Int)):=rfl
theorem NJ {β:Type} (a0:Int) (k:List (List D)→Option β):PN 43 [[.int .i64 a0]] k = k (cM cI ([a0]:List Int)):=rfl
theorem QG {β:Type} (k:List (List D)→Option β):PN 46 [] k = k (cM aG.cells ([]:List aG)):=rfl
theorem NF {β:Type} (a0_0:Int) (a0_1:Int) (a0_2:Int) (k:List (List D)→Option β):PN 46 [[.int .i64 a0_0,.int .i64 a0_1,.int .i64 a0_2]] k = k (cM aG.cells ([(aG.mk a0_0 a0_1 a0_2)]:List aG)):=rfl
theorem Q3 {β:Type} (k:List (List D)→Option β):PN 73 [] k = k (cM aB.cells ([]:List aB)):=rfl
theorem NS {β:Type} (a0_0:Int) (a0_1:Int) (a0_2:Int) (a0_3:Int) (a0_4:Int) (a0_5:Bool) (k:List (List D)→Option β):PN 73 [[.int .i64 a0_0,.int .i64 a0_1,.int .i64 a0_2,.int .i64 a0_3,.int .i64 a0_4,.bool a0_5]] k = k (cM aB.cells ([(aB.mk a0_0 a0_1 a0_2 a0_3 a0_4 a0_5)]:List aB)):=rfl
theorem N0 {β:Type} (a0:aB) (k:List (List D)→Option β):PN 73 [aB.cells a0] k = k (cM aB.cells ([a0]:List aB)):=rfl
theorem U9 {β:Type} (xs:List Int) (i:Nat) (a:Int) (k:List (List D)→Option β):xE 3 (cM cI xs) i [.int .i64 a] k = k (cM cI (xs.set i a)):=BV 3 cI xs i a k
theorem TH {β:Type} (xs:List aB) (i:Nat) (a_0:Int) (a_1:Int) (a_2:Int) (a_3:Int) (a_4:Int) (a_5:Bool) (k:List (List D)→Option β):xE 73 (cM aB.cells xs) i [.int .i64 a_0,.int .i64 a_1,.int .i64 a_2,.int .i64 a_3,.int .i64 a_4,.bool a_5] k = k (cM aB.cells (xs.set i (aB.mk a_0 a_1 a_2 a_3 a_4 a_5))):=BV 73 aB.cells xs i (aB.mk a_0 a_1 a_2 a_3 a_4 a_5) k
theorem RT {β:Type} (xs:List aD) (i:Nat) (a_0:Int) (a_1:Int) (a_2:Bool) (k:List (List D)→Option β):xE 89 (cM aD.cells xs) i [.int .i64 a_0,.int .i64 a_1,.bool a_2] k = k (cM aD.cells (xs.set i (aD.mk a_0 a_1 a_2))):=BV 89 aD.cells xs i (aD.mk a_0 a_1 a_2) k
/- all rules as one -/
set_option linter.defProp false
def DN:=aN (aN (aN (aN (aN (aN (aN (aN @aJE @aC8) (aN @aEq (aN @aGe @aHn))) (aN (aN @aH6 @XP) (aN @aCt (aN @aCs @V3)))) (aN (aN (aN @S6 @aA1) (aN @UF (aN @aAP @aGH))) (aN (aN @aJv @aEQ) (aN @aD5 (aN @aAs @X7))))) (aN (aN (aN (aN @aD3 @aF7) (aN @aB0 (aN @aBg @U6))) (aN (aN @aCX @aBf) (aN @aAd (aN @aCI @PU)))) (aN (aN (aN @NT @aBT) (aN @NG (aN @aBD @VV))) (aN (aN @W6 (aN @UU @aCE)) (aN @aBo (aN @VY @TZ)))))) (aN (aN (aN (aN (aN @aBP @aFG) (aN @aDG (aN @aD0 @LE))) (aN (aN @aGn @aF1) (aN @aJJ (aN @UW @aEl)))) (aN (aN (aN @aAf @WG) (aN @aB2 (aN @aEy @aAl))) (aN (aN @VN @aHI) (aN @aFH (aN @XL @U0))))) (aN (aN (aN (aN @aCn @XC) (aN @aAp (aN @aAt @aGu))) (aN (aN @SR @aBa) (aN @aHB (aN @aCY @aCd)))) (aN (aN (aN @aHA @aDX) (aN @aIV (aN @aI8 @aJS))) (aN (aN @aDE (aN @aEr @aC0)) (aN @aGi (aN @aGC @aGN))))))) (aN (aN (aN (aN (aN (aN @aBO @XU) (aN @U4 (aN @aCM @aFd))) (aN (aN @XK @aDK) (aN @ZM (aN @aDg @Z3)))) (aN (aN (aN @aE4 @aHY) (aN @aIb (aN @aIk @aJK))) (aN (aN @aJD @aEF) (aN @aBu (aN @aGt @ZN))))) (aN (aN (aN (aN @SL @ZO) (aN @QM (aN @aHQ @aHo))) (aN (aN @aEi @aEX) (aN @aFe (aN @aIr @aIZ)))) (aN (aN (aN @aFW @aG2) (aN @aCO (aN @aBE @aDb))) (aN (aN @aBh (aN @aJH @aEj)) (aN @aHR (aN @aHD @aFP)))))) (aN (aN (aN (aN (aN @NQ @NW) (aN @aBp (aN @WZ @M9))) (aN (aN @aC9 @UB) (aN @aGJ (aN @aDi @WQ)))) (aN (aN (aN @T5 @V2) (aN @aAz (aN @WD @X2))) (aN (aN @RK (aN @aBk @W1)) (aN @aH4 (aN @aFB @aIp))))) (aN (aN (aN (aN @aBn @aAO) (aN @aFk (aN @aDy @aGs))) (aN (aN @aCw @aEO) (aN @aCN (aN @S0 @aGo)))) (aN (aN (aN @aIn @R6) (aN @VQ (aN @U1 @aDW))) (aN (aN @aDI (aN @aA7 @T9)) (aN @aG5 (aN @aF2 @R9)))))))) (aN (aN (aN (aN (aN (aN (aN @aG0 @aH8) (aN @aLf (aN @aHS @P7))) (aN (aN @S1 @S4) (aN @BV (aN @aI0 @aFS)))) (aN (aN (aN @aLt @aKz) (aN @aLr (aN @aFo @aEg))) (aN (aN @aCF @aDp) (aN @aDf (aN @aC1 @aDB))))) (aN (aN (aN (aN @aCx @aEt) (aN @aGh (aN @aGE @aHt))) (aN (aN @aE7 @Z4) (aN @PL (aN @JC @aGF)))) (aN (aN (aN @aEz @VD) (aN @aJX (aN @aKd @aBW))) (aN (aN @aAJ (aN @ZI @aCV)) (aN @X1 (aN @aB8 @VK)))))) (aN (aN (aN (aN (aN @aHT @aCg) (aN @aET (aN @aAG @aHu))) (aN (aN @aJ8 @aDt) (aN @aES (aN @T1 @ZW)))) (aN (aN (aN @aJZ @S2) (aN @aBz (aN @aI9 @aJc))) (aN (aN @aF6 (aN @aEf @aBv)) (aN @WP (aN @aIf @aJF))))) (aN (aN (aN (aN @aIU @aJA) (aN @aBt (aN @XI @aBV))) (aN (aN @VE @aIo) (aN @aIc (aN @aJ9 @aCp)))) (aN (aN (aN @N1 @K9) (aN @aIl (aN @ZR @aAZ))) (aN (aN @XO (aN @aAu @SS)) (aN @SG (aN @XH @aEv))))))) (aN (aN (aN (aN (aN (aN @aDk @XJ) (aN @UK (aN @VG @ND))) (aN (aN @UI @aJs) (aN @aEs (aN @aEE @aBy)))) (aN (aN (aN @aFT @aHN) (aN @aJg (aN @aAH @aE0))) (aN (aN @aJj @aJM) (aN @aKh (aN @aB7 @SH))))) (aN (aN (aN (aN @aB5 @aAn) (aN @WR (aN @TM @aJq))) (aN (aN @aJR @W8) (aN @aFc (aN @aHy @aCJ)))) (aN (aN (aN @aEx @aJe) (aN @aIT (aN @aEV @aA2))) (aN (aN @aAv (aN @aAW @aHx)) (aN @aHv (aN @XD @aCz)))))) (aN (aN (aN (aN (aN @XB @WE) (aN @aDJ (aN @aHK @aIR))) (aN (aN @VS @TP) (aN @aAS (aN @VZ @aFs)))) (aN (aN (aN @aCh @aG6) (aN @aEC (aN @aCe @aJP))) (aN (aN @aAI (aN @aBH @aBw)) (aN @aEZ (aN @aAy @QN))))) (aN (aN (aN (aN @WX @TS) (aN @X3 (aN @aAM @aBL))) (aN (aN @aAg @aBr) (aN @aBj (aN @aAU @aDH)))) (aN (aN (aN @aBF @WW) (aN @aEc (aN @aCu @XY))) (aN (aN @WH (aN @Z7 @U8)) (aN @aBU (aN @SP @aCr))))))))
def DR:=aN (aN (aN (aN (aN (aN @aA.size @aA.eq1) (aN @aA.eq2 (aN @aA.put @aA.rset))) (aN (aN @aA.rfull @aA.get0) (aN @aA.get1 (aN @aA.get2 @aA.get3)))) (aN (aN (aN @aA.get4 @aA.get5) (aN @aA.get6 (aN @aA.get7 @aA.get8))) (aN (aN @aA.sub0_9 (aN @aC.size @aC.eq1)) (aN @aC.eq2 (aN @aC.put @aC.get0))))) (aN (aN (aN (aN @aC.get1 @aC.get2) (aN @aC.get3 (aN @aC.sub0_4 @aE.size))) (aN (aN @aE.eq1 (aN @aE.eq2 @aE.put)) (aN @aE.get0 (aN @aE.get1 @aE.sub0_2)))) (aN (aN (aN @aG.size @aG.put) (aN @aG.get0 (aN @aG.get1 @aG.get2))) (aN (aN @aG.sub0_3 (aN @aB.size @aB.put)) (aN @aB.rset (aN @aB.get0 @aB.get1)))))) (aN (aN (aN (aN (aN @aB.get2 @aB.get3) (aN @aB.get4 (aN @aB.get5 @aB.sub0_6))) (aN (aN @aD.put (aN @aD.rset @aD.rfull)) (aN @aD.get0 (aN @aD.get1 @aD.get2)))) (aN (aN (aN @aD.sub0_3 @aJV) (aN @aGa (aN @aFz @aGv))) (aN (aN @aGV (aN @aFZ @aGA)) (aN @aGM (aN @aKa @aHs))))) (aN (aN (aN (aN @L7 @XQ) (aN @UH (aN @TG @QO))) (aN (aN @QV (aN @H5 @NL)) (aN @NN (aN @P8 @J1)))) (aN (aN (aN @NU @QP) (aN @NJ (aN @QG @NF))) (aN (aN @Q3 (aN @NS @N0)) (aN @U9 (aN @TH @RT))))))
def DQ:=aN (aN (aN (aN @aA.len @aC.len) (aN @aE.len @aG.len)) (aN (aN @aB.len @aD.len) (aN @aA.cells_mk (aN @aC.cells_mk @aE.cells_mk)))) (aN (aN (aN @aG.cells_mk @aB.cells_mk) (aN @aD.cells_mk @aA.sized)) (aN (aN @aC.sized @aE.sized) (aN @aG.sized (aN @aB.sized @aD.sized))))
def DP:=aN @Option.some.injEq (aN @Bool.and_true @List.cons_ne_nil)
end Go.Proofs.Ytiimibimkpimbaa
