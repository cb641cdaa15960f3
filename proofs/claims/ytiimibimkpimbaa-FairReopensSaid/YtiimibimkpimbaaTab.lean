/- The table. Printed by a program. -/
import Derived.Test.YtiimibimkpimbaaVmH
import Derived.Test.YtiimibimkpimbaaRepD
import Derived.Test.YtiimibimkpimbaaSortD
import Derived.Test.YtiimibimkpimbaaCode1
import Derived.Test.YtiimibimkpimbaaCode2
set_option linter.unusedVariables false
set_option linter.unusedSimpArgs false
namespace Go.Proofs.Ytiimibimkpimbaa
open Vm
open Go.RowKit
def o31:List D->Option D:=SZ 32
def o66:List D->Option D:=aGu 3
def TL:List (Nat × Option Def):=[(19,some (.code aKs)),(38,some (.code aLF)),(21,some (.code aK7)),(20,some (.code aKB)),(42,some (.code aLJ)),(40,some (.code aLc)),(26,some (.code aKR)),(30,some (.code aKN)),(28,some (.code aLm)),(41,some (.code aLH)),(29,some (.code aKw)),(27,some (.code aK8)),(25,some (.code aK3)),(14,some (.code aKJ)),(67,some (.code aKS)),(69,some (.code aLI)),(33,some (.code aLh)),(37,some (.code aLw)),(63,some (.code aKX)),(46,some (.code aKD)),(45,some (.code aLe)),(47,some (.code aKv)),(34,some (.code aLb)),(48,some (.code aKE)),(65,some (.code aKt)),(49,some (.code aKA)),(35,some (.code aKy)),(36,some (.code aKG)),(16,some (.code aLl)),(70,some (.code aK0)),(10,some (.code aLo)),(12,some (.code aKu)),(13,some (.code aLt)),(8,some (.code sf8)),(9,some (.code sf9)),(11,some (.code aLr)),(15,some (.code aLB)),(17,some (.code aK5)),(6,some (.code sf6)),(31,some (.toldL o31)),(66,some (.told o66))]
def TT:vW:=fun f=>lk TL none f
structure aA where
 Kind:Int
 Room:Int
 Day:Int
 No:Int
 From:Int
 To:Int
 Currency:Int
 Due:Int
 Sum:Int
 deriving Inhabited
def aA.cells (x:aA):List D:=[.int .i64 x.Kind,.int .i64 x.Room,.int .i64 x.Day,.int .i64 x.No,.int .i64 x.From,.int .i64 x.To,.int .i64 x.Currency,.int .i64 x.Due,.int .i64 x.Sum]
theorem aA.sized (xs:List aA):sized 9 (cM aA.cells xs) = true:=qG _ _ (fun x=>by rfl) xs
theorem aA.len (x:aA):x.cells.length = 9:=rfl
theorem aA.size {β:Type} (x:aA) (y:Option β):tZ x.cells 9 y = y:=rfl
theorem aA.eq1 {β:Type} (x:aA) (ks:List Nat) (ys:List V) (k:Bool->Option β):xR ks (bQ x.cells) ys k = xR ks [.d (.int .i64 x.Kind),.d (.int .i64 x.Room),.d (.int .i64 x.Day),.d (.int .i64 x.No),.d (.int .i64 x.From),.d (.int .i64 x.To),.d (.int .i64 x.Currency),.d (.int .i64 x.Due),.d (.int .i64 x.Sum)] ys k:=rfl
theorem aA.eq2 {β:Type} (x:aA) (ks:List Nat) (ys:List V) (k:Bool->Option β):xR ks ys (bQ x.cells) k = xR ks ys [.d (.int .i64 x.Kind),.d (.int .i64 x.Room),.d (.int .i64 x.Day),.d (.int .i64 x.No),.d (.int .i64 x.From),.d (.int .i64 x.To),.d (.int .i64 x.Currency),.d (.int .i64 x.Due),.d (.int .i64 x.Sum)] k:=rfl
theorem aA.put {β:Type} (x:aA) (id:Nat) (cs:List V) (hc:cs.length = 9) (kw:V->List (Nat × Option aM)->Option β):oR 9 0 id (oC x.cells) (some (.box cs)) kw = kw .any [(id,some (.box (bQ x.cells)))]:=pD 9 id _ rfl cs hc
theorem aA.rset {β:Type} (x:aA) (off:Nat) (d:D) (ds:List D) (n:Nat) (k:List D->Option β):j7 x.cells off (d :: ds) n k = j7 [.int .i64 x.Kind,.int .i64 x.Room,.int .i64 x.Day,.int .i64 x.No,.int .i64 x.From,.int .i64 x.To,.int .i64 x.Currency,.int .i64 x.Due,.int .i64 x.Sum] off (d :: ds) n k:=rfl
theorem aA.rfull {β:Type} (x y:aA) (k:List D->Option β):j7 x.cells 0 y.cells 9 k = k y.cells:=by unfold j7; exact (if_pos ⟨rfl,Nat.le_refl _⟩).trans rfl
theorem aA.get0 {β:Type} (x:aA) (k:D->Option β):iL x.cells 0 k = k (.int .i64 x.Kind):=rfl
theorem aA.get1 {β:Type} (x:aA) (k:D->Option β):iL x.cells 1 k = k (.int .i64 x.Room):=rfl
theorem aA.get2 {β:Type} (x:aA) (k:D->Option β):iL x.cells 2 k = k (.int .i64 x.Day):=rfl
theorem aA.get3 {β:Type} (x:aA) (k:D->Option β):iL x.cells 3 k = k (.int .i64 x.No):=rfl
theorem aA.get4 {β:Type} (x:aA) (k:D->Option β):iL x.cells 4 k = k (.int .i64 x.From):=rfl
theorem aA.get5 {β:Type} (x:aA) (k:D->Option β):iL x.cells 5 k = k (.int .i64 x.To):=rfl
theorem aA.get6 {β:Type} (x:aA) (k:D->Option β):iL x.cells 6 k = k (.int .i64 x.Currency):=rfl
theorem aA.get7 {β:Type} (x:aA) (k:D->Option β):iL x.cells 7 k = k (.int .i64 x.Due):=rfl
theorem aA.get8 {β:Type} (x:aA) (k:D->Option β):iL x.cells 8 k = k (.int .i64 x.Sum):=rfl
theorem aA.sub0_9 {β:Type} (x:aA) (k:List D->Option β):wD x.cells 0 9 k = k x.cells:=rfl
theorem aA.cells_mk (f0 f1 f2 f3 f4 f5 f6 f7 f8:Int):aA.cells (aA.mk f0 f1 f2 f3 f4 f5 f6 f7 f8) = [.int .i64 f0,.int .i64 f1,.int .i64 f2,.int .i64 f3,.int .i64 f4,.int .i64 f5,.int .i64 f6,.int .i64 f7,.int .i64 f8]:=rfl
structure aC where
 Kind:Int
 Room:Int
 No:Int
 Sum:Int
 deriving Inhabited
def aC.cells (x:aC):List D:=[.int .i64 x.Kind,.int .i64 x.Room,.int .i64 x.No,.int .i64 x.Sum]
theorem aC.sized (xs:List aC):sized 4 (cM aC.cells xs) = true:=qG _ _ (fun x=>by rfl) xs
theorem aC.len (x:aC):x.cells.length = 4:=rfl
theorem aC.size {β:Type} (x:aC) (y:Option β):tZ x.cells 4 y = y:=rfl
theorem aC.eq1 {β:Type} (x:aC) (ks:List Nat) (ys:List V) (k:Bool->Option β):xR ks (bQ x.cells) ys k = xR ks [.d (.int .i64 x.Kind),.d (.int .i64 x.Room),.d (.int .i64 x.No),.d (.int .i64 x.Sum)] ys k:=rfl
theorem aC.eq2 {β:Type} (x:aC) (ks:List Nat) (ys:List V) (k:Bool->Option β):xR ks ys (bQ x.cells) k = xR ks ys [.d (.int .i64 x.Kind),.d (.int .i64 x.Room),.d (.int .i64 x.No),.d (.int .i64 x.Sum)] k:=rfl
theorem aC.put {β:Type} (x:aC) (id:Nat) (cs:List V) (hc:cs.length = 4) (kw:V->List (Nat × Option aM)->Option β):oR 4 0 id (oC x.cells) (some (.box cs)) kw = kw .any [(id,some (.box (bQ x.cells)))]:=pD 4 id _ rfl cs hc
theorem aC.get0 {β:Type} (x:aC) (k:D->Option β):iL x.cells 0 k = k (.int .i64 x.Kind):=rfl
theorem aC.get1 {β:Type} (x:aC) (k:D->Option β):iL x.cells 1 k = k (.int .i64 x.Room):=rfl
theorem aC.get2 {β:Type} (x:aC) (k:D->Option β):iL x.cells 2 k = k (.int .i64 x.No):=rfl
theorem aC.get3 {β:Type} (x:aC) (k:D->Option β):iL x.cells 3 k = k (.int .i64 x.Sum):=rfl
theorem aC.sub0_4 {β:Type} (x:aC) (k:List D->Option β):wD x.cells 0 4 k = k x.cells:=rfl
theorem aC.cells_mk (f0 f1 f2 f3:Int):aC.cells (aC.mk f0 f1 f2 f3) = [.int .i64 f0,.int .i64 f1,.int .i64 f2,.int .i64 f3]:=rfl
structure aE where
 currency:Int
 due:Int
 deriving Inhabited
def aE.cells (x:aE):List D:=[.int .i64 x.currency,.int .i64 x.due]
theorem aE.sized (xs:List aE):sized 2 (cM aE.cells xs) = true:=qG _ _ (fun x=>by rfl) xs
theorem aE.len (x:aE):x.cells.length = 2:=rfl
theorem aE.size {β:Type} (x:aE) (y:Option β):tZ x.cells 2 y = y:=rfl
theorem aE.eq1 {β:Type} (x:aE) (ks:List Nat) (ys:List V) (k:Bool->Option β):xR ks (bQ x.cells) ys k = xR ks [.d (.int .i64 x.currency),.d (.int .i64 x.due)] ys k:=rfl
theorem aE.eq2 {β:Type} (x:aE) (ks:List Nat) (ys:List V) (k:Bool->Option β):xR ks ys (bQ x.cells) k = xR ks ys [.d (.int .i64 x.currency),.d (.int .i64 x.due)] k:=rfl
theorem aE.put {β:Type} (x:aE) (id:Nat) (cs:List V) (hc:cs.length = 2) (kw:V->List (Nat × Option aM)->Option β):oR 2 0 id (oC x.cells) (some (.box cs)) kw = kw .any [(id,some (.box (bQ x.cells)))]:=pD 2 id _ rfl cs hc
theorem aE.get0 {β:Type} (x:aE) (k:D->Option β):iL x.cells 0 k = k (.int .i64 x.currency):=rfl
theorem aE.get1 {β:Type} (x:aE) (k:D->Option β):iL x.cells 1 k = k (.int .i64 x.due):=rfl
theorem aE.sub0_2 {β:Type} (x:aE) (k:List D->Option β):wD x.cells 0 2 k = k x.cells:=rfl
theorem aE.cells_mk (f0 f1:Int):aE.cells (aE.mk f0 f1) = [.int .i64 f0,.int .i64 f1]:=rfl
structure aK where
 From:Int
 To:Int
 Sum:Int
 deriving Inhabited
def aK.cells (x:aK):List D:=[.int .i64 x.From,.int .i64 x.To,.int .i64 x.Sum]
theorem aK.sized (xs:List aK):sized 3 (cM aK.cells xs) = true:=qG _ _ (fun x=>by rfl) xs
theorem aK.len (x:aK):x.cells.length = 3:=rfl
theorem aK.size {β:Type} (x:aK) (y:Option β):tZ x.cells 3 y = y:=rfl
theorem aK.put {β:Type} (x:aK) (id:Nat) (cs:List V) (hc:cs.length = 3) (kw:V->List (Nat × Option aM)->Option β):oR 3 0 id (oC x.cells) (some (.box cs)) kw = kw .any [(id,some (.box (bQ x.cells)))]:=pD 3 id _ rfl cs hc
theorem aK.get0 {β:Type} (x:aK) (k:D->Option β):iL x.cells 0 k = k (.int .i64 x.From):=rfl
theorem aK.get1 {β:Type} (x:aK) (k:D->Option β):iL x.cells 1 k = k (.int .i64 x.To):=rfl
theorem aK.get2 {β:Type} (x:aK) (k:D->Option β):iL x.cells 2 k = k (.int .i64 x.Sum):=rfl
theorem aK.sub0_3 {β:Type} (x:aK) (k:List D->Option β):wD x.cells 0 3 k = k x.cells:=rfl
theorem aK.cells_mk (f0 f1 f2:Int):aK.cells (aK.mk f0 f1 f2) = [.int .i64 f0,.int .i64 f1,.int .i64 f2]:=rfl
structure aB where
 due:Int
 from_:Int
 to:Int
 cost:Int
 most:Int
 back:Bool
 deriving Inhabited
def aB.cells (x:aB):List D:=[.int .i64 x.due,.int .i64 x.from_,.int .i64 x.to,.int .i64 x.cost,.int .i64 x.most,.bool x.back]
theorem aB.sized (xs:List aB):sized 6 (cM aB.cells xs) = true:=qG _ _ (fun x=>by rfl) xs
theorem aB.len (x:aB):x.cells.length = 6:=rfl
theorem aB.size {β:Type} (x:aB) (y:Option β):tZ x.cells 6 y = y:=rfl
theorem aB.put {β:Type} (x:aB) (id:Nat) (cs:List V) (hc:cs.length = 6) (kw:V->List (Nat × Option aM)->Option β):oR 6 0 id (oC x.cells) (some (.box cs)) kw = kw .any [(id,some (.box (bQ x.cells)))]:=pD 6 id _ rfl cs hc
theorem aB.rset {β:Type} (x:aB) (off:Nat) (d:D) (ds:List D) (n:Nat) (k:List D->Option β):j7 x.cells off (d :: ds) n k = j7 [.int .i64 x.due,.int .i64 x.from_,.int .i64 x.to,.int .i64 x.cost,.int .i64 x.most,.bool x.back] off (d :: ds) n k:=rfl
theorem aB.get0 {β:Type} (x:aB) (k:D->Option β):iL x.cells 0 k = k (.int .i64 x.due):=rfl
theorem aB.get1 {β:Type} (x:aB) (k:D->Option β):iL x.cells 1 k = k (.int .i64 x.from_):=rfl
theorem aB.get2 {β:Type} (x:aB) (k:D->Option β):iL x.cells 2 k = k (.int .i64 x.to):=rfl
theorem aB.get3 {β:Type} (x:aB) (k:D->Option β):iL x.cells 3 k = k (.int .i64 x.cost):=rfl
theorem aB.get4 {β:Type} (x:aB) (k:D->Option β):iL x.cells 4 k = k (.int .i64 x.most):=rfl
theorem aB.get5 {β:Type} (x:aB) (k:D->Option β):iL x.cells 5 k = k (.bool x.back):=rfl
theorem aB.sub0_6 {β:Type} (x:aB) (k:List D->Option β):wD x.cells 0 6 k = k x.cells:=rfl
theorem aB.cells_mk (f0 f1 f2 f3 f4:Int) (f5:Bool):aB.cells (aB.mk f0 f1 f2 f3 f4 f5) = [.int .i64 f0,.int .i64 f1,.int .i64 f2,.int .i64 f3,.int .i64 f4,.bool f5]:=rfl
structure aD where
 c:Int
 steps:Int
 fine:Bool
 deriving Inhabited
def aD.cells (x:aD):List D:=[.int .i64 x.c,.int .i64 x.steps,.bool x.fine]
theorem aD.sized (xs:List aD):sized 3 (cM aD.cells xs) = true:=qG _ _ (fun x=>by rfl) xs
theorem aD.len (x:aD):x.cells.length = 3:=rfl
theorem aD.put {β:Type} (x:aD) (id:Nat) (cs:List V) (hc:cs.length = 3) (kw:V->List (Nat × Option aM)->Option β):oR 3 0 id (oC x.cells) (some (.box cs)) kw = kw .any [(id,some (.box (bQ x.cells)))]:=pD 3 id _ rfl cs hc
theorem aD.rset {β:Type} (x:aD) (off:Nat) (d:D) (ds:List D) (n:Nat) (k:List D->Option β):j7 x.cells off (d :: ds) n k = j7 [.int .i64 x.c,.int .i64 x.steps,.bool x.fine] off (d :: ds) n k:=rfl
theorem aD.rfull {β:Type} (x y:aD) (k:List D->Option β):j7 x.cells 0 y.cells 3 k = k y.cells:=by unfold j7; exact (if_pos ⟨rfl,Nat.le_refl _⟩).trans rfl
theorem aD.get0 {β:Type} (x:aD) (k:D->Option β):iL x.cells 0 k = k (.int .i64 x.c):=rfl
theorem aD.get1 {β:Type} (x:aD) (k:D->Option β):iL x.cells 1 k = k (.int .i64 x.steps):=rfl
theorem aD.get2 {β:Type} (x:aD) (k:D->Option β):iL x.cells 2 k = k (.bool x.fine):=rfl
theorem aD.sub0_3 {β:Type} (x:aD) (k:List D->Option β):wD x.cells 0 3 k = k x.cells:=rfl
theorem aD.cells_mk (f0 f1:Int) (f2:Bool):aD.cells (aD.mk f0 f1 f2) = [.int .i64 f0,.int .i64 f1,.bool f2]:=rfl
theorem aJp {β:Type} (x:Int) (k:D->Option β):iL (cI x) 0 k = k (.int .i64 x):=rfl
theorem aFP {β:Type} (x:Int) (off:Nat) (d:D) (ds:List D) (n:Nat) (k:List D->Option β):j7 (cI x) off (d :: ds) n k = j7 [.int .i64 x] off (d :: ds) n k:=rfl
theorem aH5 {β:Type} (x:Int) (y:Option β):tZ (cI x) 1 y = y:=rfl
theorem aGK {β:Type} (x0:D) (y:Option β):tZ [x0] 1 y = y:=rfl
theorem aFW {β:Type} (x0 x1 x2:D) (y:Option β):tZ [x0,x1,x2] 3 y = y:=rfl
theorem aGb {β:Type} (x0 x1 x2 x3:D) (y:Option β):tZ [x0,x1,x2,x3] 4 y = y:=rfl
theorem aGN {β:Type} (x0 x1 x2 x3 x4 x5:D) (y:Option β):tZ [x0,x1,x2,x3,x4,x5] 6 y = y:=rfl
theorem aFM {β:Type} (x0 x1 x2 x3 x4 x5 x6 x7 x8:D) (y:Option β):tZ [x0,x1,x2,x3,x4,x5,x6,x7,x8] 9 y = y:=rfl
theorem aJ7 {β:Type} (i:IntKind) (x:Int) (k:D->Option β):iL (cK i x) 0 k = k (.int i x):=rfl
theorem aH6 {β:Type} (i:IntKind) (x:Int) (y:Option β):tZ (cK i x) 1 y = y:=rfl
theorem LJ {β:Type} {bl:List (Nat × Option aM)} {kw:V->List (Nat × Option aM)->Option β} (bytes d:Nat) (x:V):K0 37 4 bytes d x .nil bl kw = O1 37 4 bytes d x aC.cells [] bl kw:=PB _ _ _ _ _ _ _ _ (fun _=>rfl) rfl
theorem VB {β:Type} {T:vW} {d:Nat} {fr:List (Nat × V)} {bl:List (Nat × Option aM)} {k:V->Option β} {kw:V->List (Nat × Option aM)->Option β} (l cp:dG):uG T d (.makeSlice 3 1 8 [.int .i64 0] l cp) fr bl k kw = dF bl d fun b=>jH b (dX fr l fun a=>dX fr cp fun b=>aIk 8 a b fun n=>kw (.own d 0) [(d,some (.rows 0 3 1 (cM cI (List.replicate n 0))))]):=aIS 3 1 8 [.int .i64 0] cI (0:Int) rfl l cp
theorem S8 {β:Type} {T:vW} {d:Nat} {fr:List (Nat × V)} {bl:List (Nat × Option aM)} {k:V->Option β} {kw:V->List (Nat × Option aM)->Option β} (l cp:dG):uG T d (.makeSlice 89 3 24 [.int .i64 0,.int .i64 0,.bool false] l cp) fr bl k kw = dF bl d fun b=>jH b (dX fr l fun a=>dX fr cp fun b=>aIk 24 a b fun n=>kw (.own d 0) [(d,some (.rows 0 89 3 (cM aD.cells (List.replicate n (aD.mk 0 0 false)))))]):=aIS 89 3 24 [.int .i64 0,.int .i64 0,.bool false] aD.cells ((aD.mk 0 0 false):aD) rfl l cp
theorem TA {β:Type} (k:List (List D)->Option β):ON 3 [] k = k (cM cI ([]:List Int)):=rfl
theorem PZ {β:Type} (a0:Int) (k:List (List D)->Option β):ON 3 [[.int .i64 a0]] k = k (cM cI ([a0]:List Int)):=rfl
theorem P7 {β:Type} (k:List (List D)->Option β):ON 32 [] k = k (cM aA.cells ([]:List aA)):=rfl
theorem HW {β:Type} (a0_0 a0_1 a0_2 a0_3 a0_4 a0_5 a0_6 a0_7 a0_8 a1_0 a1_1 a1_2 a1_3 a1_4 a1_5 a1_6 a1_7 a1_8 a2_0 a2_1 a2_2 a2_3 a2_4 a2_5 a2_6 a2_7 a2_8 a3_0 a3_1 a3_2 a3_3 a3_4 a3_5 a3_6 a3_7 a3_8:Int) (k:List (List D)->Option β):ON 32 [[.int .i64 a0_0,.int .i64 a0_1,.int .i64 a0_2,.int .i64 a0_3,.int .i64 a0_4,.int .i64 a0_5,.int .i64 a0_6,.int .i64 a0_7,.int .i64 a0_8],[.int .i64 a1_0,.int .i64 a1_1,.int .i64 a1_2,.int .i64 a1_3,.int .i64 a1_4,.int .i64 a1_5,.int .i64 a1_6,.int .i64 a1_7,.int .i64 a1_8],[.int .i64 a2_0,.int .i64 a2_1,.int .i64 a2_2,.int .i64 a2_3,.int .i64 a2_4,.int .i64 a2_5,.int .i64 a2_6,.int .i64 a2_7,.int .i64 a2_8],[.int .i64 a3_0,.int .i64 a3_1,.int .i64 a3_2,.int .i64 a3_3,.int .i64 a3_4,.int .i64 a3_5,.int .i64 a3_6,.int .i64 a3_7,.int .i64 a3_8]] k = k (cM aA.cells ([(aA.mk a0_0 a0_1 a0_2 a0_3 a0_4 a0_5 a0_6 a0_7 a0_8),(aA.mk a1_0 a1_1 a1_2 a1_3 a1_4 a1_5 a1_6 a1_7 a1_8),(aA.mk a2_0 a2_1 a2_2 a2_3 a2_4 a2_5 a2_6 a2_7 a2_8),(aA.mk a3_0 a3_1 a3_2 a3_3 a3_4 a3_5 a3_6 a3_7 a3_8)]:List aA)):=rfl
theorem NY {β:Type} (a0_0 a0_1 a0_2 a0_3 a0_4 a0_5 a0_6 a0_7 a0_8:Int) (k:List (List D)->Option β):ON 32 [[.int .i64 a0_0,.int .i64 a0_1,.int .i64 a0_2,.int .i64 a0_3,.int .i64 a0_4,.int .i64 a0_5,.int .i64 a0_6,.int .i64 a0_7,.int .i64 a0_8]] k = k (cM aA.cells ([(aA.mk a0_0 a0_1 a0_2 a0_3 a0_4 a0_5 a0_6 a0_7 a0_8)]:List aA)):=rfl
theorem N2 {β:Type} (a0:aA) (k:List (List D)->Option β):ON 32 [aA.cells a0] k = k (cM aA.cells ([a0]:List aA)):=rfl
theorem PX {β:Type} (k:List (List D)->Option β):ON 37 [] k = k (cM aC.cells ([]:List aC)):=rfl
theorem J3 {β:Type} (a0_0 a0_1 a0_2 a0_3 a1_0 a1_1 a1_2 a1_3 a2_0 a2_1 a2_2 a2_3:Int) (k:List (List D)->Option β):ON 37 [[.int .i64 a0_0,.int .i64 a0_1,.int .i64 a0_2,.int .i64 a0_3],[.int .i64 a1_0,.int .i64 a1_1,.int .i64 a1_2,.int .i64 a1_3],[.int .i64 a2_0,.int .i64 a2_1,.int .i64 a2_2,.int .i64 a2_3]] k = k (cM aC.cells ([(aC.mk a0_0 a0_1 a0_2 a0_3),(aC.mk a1_0 a1_1 a1_2 a1_3),(aC.mk a2_0 a2_1 a2_2 a2_3)]:List aC)):=rfl
theorem NU {β:Type} (a0_0 a0_1 a0_2 a0_3:Int) (k:List (List D)->Option β):ON 37 [[.int .i64 a0_0,.int .i64 a0_1,.int .i64 a0_2,.int .i64 a0_3]] k = k (cM aC.cells ([(aC.mk a0_0 a0_1 a0_2 a0_3)]:List aC)):=rfl
theorem QL {β:Type} (k:List (List D)->Option β):ON 43 [] k = k (cM cI ([]:List Int)):=rfl
theorem NH {β:Type} (a0:Int) (k:List (List D)->Option β):ON 43 [[.int .i64 a0]] k = k (cM cI ([a0]:List Int)):=rfl
theorem P8 {β:Type} (k:List (List D)->Option β):ON 46 [] k = k (cM aK.cells ([]:List aK)):=rfl
theorem NG {β:Type} (a0_0 a0_1 a0_2:Int) (k:List (List D)->Option β):ON 46 [[.int .i64 a0_0,.int .i64 a0_1,.int .i64 a0_2]] k = k (cM aK.cells ([(aK.mk a0_0 a0_1 a0_2)]:List aK)):=rfl
theorem QB {β:Type} (k:List (List D)->Option β):ON 73 [] k = k (cM aB.cells ([]:List aB)):=rfl
theorem N1 {β:Type} (a0_0 a0_1 a0_2 a0_3 a0_4:Int) (a0_5:Bool) (k:List (List D)->Option β):ON 73 [[.int .i64 a0_0,.int .i64 a0_1,.int .i64 a0_2,.int .i64 a0_3,.int .i64 a0_4,.bool a0_5]] k = k (cM aB.cells ([(aB.mk a0_0 a0_1 a0_2 a0_3 a0_4 a0_5)]:List aB)):=rfl
theorem NJ {β:Type} (a0:aB) (k:List (List D)->Option β):ON 73 [aB.cells a0] k = k (cM aB.cells ([a0]:List aB)):=rfl
theorem V2 {β:Type} (xs:List Int) (i:Nat) (a:Int) (k:List (List D)->Option β):xI 3 (cM cI xs) i [.int .i64 a] k = k (cM cI (xs.set i a)):=BC 3 cI xs i a k
theorem R5 {β:Type} (xs:List aB) (i:Nat) (a_0 a_1 a_2 a_3 a_4:Int) (a_5:Bool) (k:List (List D)->Option β):xI 73 (cM aB.cells xs) i [.int .i64 a_0,.int .i64 a_1,.int .i64 a_2,.int .i64 a_3,.int .i64 a_4,.bool a_5] k = k (cM aB.cells (xs.set i (aB.mk a_0 a_1 a_2 a_3 a_4 a_5))):=BC 73 aB.cells xs i (aB.mk a_0 a_1 a_2 a_3 a_4 a_5) k
theorem TG {β:Type} (xs:List aD) (i:Nat) (a_0 a_1:Int) (a_2:Bool) (k:List (List D)->Option β):xI 89 (cM aD.cells xs) i [.int .i64 a_0,.int .i64 a_1,.bool a_2] k = k (cM aD.cells (xs.set i (aD.mk a_0 a_1 a_2))):=BC 89 aD.cells xs i (aD.mk a_0 a_1 a_2) k
/- all rules as one -/
set_option linter.defProp false
def DN:=aN (aN (aN (aN (aN (aN (aN (aN @aJr @aDx) (aN @aEL (aN @aGD @aHa))) (aN (aN @aHg @W2) (aN @aEz (aN @aCy @X4)))) (aN (aN (aN @T4 @aB6) (aN @SV (aN @aBj @aGy))) (aN (aN @aJO @aEB) (aN @aCk (aN @aAv @XR))))) (aN (aN (aN (aN @aFb @aFR) (aN @aAc (aN @aAZ @XK))) (aN (aN @aDf @aAG) (aN @aAC (aN @aES @Q1)))) (aN (aN (aN @NZ @aBR) (aN @NT (aN @aAN @VZ))) (aN (aN @XU (aN @UB @aCx)) (aN @aBS (aN @U2 @TI)))))) (aN (aN (aN (aN (aN @aAL @aF4) (aN @aE0 (aN @aFo @LS))) (aN (aN @aF6 @aIp) (aN @aKk (aN @SC @aCG)))) (aN (aN (aN @aBd @X7) (aN @aAU (aN @aC8 @aA1))) (aN (aN @W6 @aG6) (aN @aGR (aN @U1 @XB))))) (aN (aN (aN (aN @aFw @V4) (aN @aA8 (aN @aBh @aFQ))) (aN (aN @TE @aBv) (aN @aHH (aN @aEJ @aFk)))) (aN (aN (aN @aHM @aFq) (aN @aIX (aN @aJt @aJf))) (aN (aN @aEI (aN @aC0 @aCh)) (aN @aHE (aN @aIl @aH3))))))) (aN (aN (aN (aN (aN (aN @aAQ @XA) (aN @WO (aN @aDz @aCM))) (aN (aN @U4 @aFj) (aN @aB3 (aN @aCK @aBA)))) (aN (aN (aN @aDI @aIo) (aN @aGj (aN @aF3 @aKq))) (aN (aN @aI1 @aEV) (aN @aB8 (aN @aIj @aA7))))) (aN (aN (aN (aN @UN @ZW) (aN @Q8 (aN @aHt @aHJ))) (aN (aN @aEQ @aDT) (aN @aFz (aN @aHo @aJN)))) (aN (aN (aN @aFD @aGU) (aN @aD9 (aN @ZV @aEx))) (aN (aN @ZU (aN @aKh @aCB)) (aN @aH7 (aN @aF7 @aIu)))))) (aN (aN (aN (aN (aN @NI @NV) (aN @aAD (aN @YC @MP))) (aN (aN @aC6 @SF) (aN @aF1 (aN @aEd @XZ)))) (aN (aN (aN @T3 @V3) (aN @Z5 (aN @WC @XE))) (aN (aN @UK (aN @aBm @VU)) (aN @aHv (aN @aFN @aGn))))) (aN (aN (aN (aN @aAt @aAJ) (aN @aEX (aN @aFv @aHp))) (aN (aN @aFl @aD5) (aN @aDC (aN @S1 @aF9)))) (aN (aN (aN @aH2 @SI) (aN @WT (aN @XS @aC2))) (aN (aN @aE3 (aN @aBJ @SK)) (aN @aFH (aN @aH9 @SM)))))))) (aN (aN (aN (aN (aN (aN (aN @aGZ @aHf) (aN @aKW (aN @aHc @Q5))) (aN (aN @UM @TZ) (aN @BC (aN @aJ3 @aHm)))) (aN (aN (aN @aLD @aLv) (aN @aKO (aN @aDb @aEM))) (aN (aN @aEq @aEE) (aN @aCr (aN @aDj @aCm))))) (aN (aN (aN (aN @aEA @aEv) (aN @aFS (aN @aHT @aGM))) (aN (aN @aCE @aBK) (aN @PO (aN @IX @aG7)))) (aN (aN (aN @aDW @WB) (aN @aJX (aN @aJW @Z1))) (aN (aN @aBy (aN @ZO @aFp)) (aN @WV (aN @aAH @VV)))))) (aN (aN (aN (aN (aN @aFU @aD2) (aN @aFm (aN @aBT @aHU))) (aN (aN @aJZ @aDr) (aN @aDS (aN @T9 @aBo)))) (aN (aN (aN @aKp @UX) (aN @aA5 (aN @aJw @aJA))) (aN (aN @aFO (aN @aEn @Z4)) (aN @U9 (aN @aGH @aJG))))) (aN (aN (aN (aN @aJY @aKo) (aN @aBU (aN @V0 @Z0))) (aN (aN @XI @aGt) (aN @aGF (aN @aJ2 @aDH)))) (aN (aN (aN @NP @KO) (aN @aGI (aN @aBY @aAl))) (aN (aN @X8 (aN @aB7 @RV)) (aN @S9 (aN @X9 @aCQ))))))) (aN (aN (aN (aN (aN (aN @aDp @W9) (aN @TQ (aN @VY @NR))) (aN (aN @SQ @aIW) (aN @aCZ (aN @aDG @aBD)))) (aN (aN (aN @aHw @aFJ) (aN @aI2 (aN @aAR @aED))) (aN (aN @aJc @aJM) (aN @aJ0 (aN @aB0 @SE))))) (aN (aN (aN (aN @aAu @ZX) (aN @XJ (aN @SN @aI9))) (aN (aN @aI4 @WR) (aN @aCp (aN @aFC @aDm)))) (aN (aN (aN @aDD @aJq) (aN @aJn (aN @aFa @ZS))) (aN (aN @aAB (aN @aAd @aHV)) (aN @aHC (aN @WD @aFc)))))) (aN (aN (aN (aN (aN @XX @V9) (aN @aCX (aN @aGe @aJF))) (aN (aN @WL @RM) (aN @ZY (aN @U7 @aFe)))) (aN (aN (aN @aCT @aGT) (aN @aEe (aN @aDd @aJ1))) (aN (aN @aAS (aN @aBu @aBq)) (aN @aFh (aN @aBc @QE))))) (aN (aN (aN (aN @YB @US) (aN @WW (aN @aBw @aAn))) (aN (aN @aB4 @aBV) (aN @aAi (aN @aBC @aE1)))) (aN (aN (aN @Z3 @V6) (aN @aDZ (aN @aD4 @VW))) (aN (aN @VG (aN @aBt @WZ)) (aN @aBO (aN @RZ @aEf))))))))
def DR:=aN (aN (aN (aN (aN (aN @aA.size @aA.eq1) (aN @aA.eq2 (aN @aA.put @aA.rset))) (aN (aN @aA.rfull @aA.get0) (aN @aA.get1 (aN @aA.get2 @aA.get3)))) (aN (aN (aN @aA.get4 @aA.get5) (aN @aA.get6 (aN @aA.get7 @aA.get8))) (aN (aN @aA.sub0_9 (aN @aC.size @aC.eq1)) (aN @aC.eq2 (aN @aC.put @aC.get0))))) (aN (aN (aN (aN @aC.get1 @aC.get2) (aN @aC.get3 (aN @aC.sub0_4 @aE.size))) (aN (aN @aE.eq1 (aN @aE.eq2 @aE.put)) (aN @aE.get0 (aN @aE.get1 @aE.sub0_2)))) (aN (aN (aN @aK.size @aK.put) (aN @aK.get0 (aN @aK.get1 @aK.get2))) (aN (aN @aK.sub0_3 (aN @aB.size @aB.put)) (aN @aB.rset (aN @aB.get0 @aB.get1)))))) (aN (aN (aN (aN (aN @aB.get2 @aB.get3) (aN @aB.get4 (aN @aB.get5 @aB.sub0_6))) (aN (aN @aD.put (aN @aD.rset @aD.rfull)) (aN @aD.get0 (aN @aD.get1 @aD.get2)))) (aN (aN (aN @aD.sub0_3 @aJp) (aN @aFP (aN @aH5 @aGK))) (aN (aN @aFW (aN @aGb @aGN)) (aN @aFM (aN @aJ7 @aH6))))) (aN (aN (aN (aN @LJ @VB) (aN @S8 (aN @TA @PZ))) (aN (aN @P7 (aN @HW @NY)) (aN @N2 (aN @PX @J3)))) (aN (aN (aN @NU @QL) (aN @NH (aN @P8 @NG))) (aN (aN @QB (aN @N1 @NJ)) (aN @V2 (aN @R5 @TG))))))
def DQ:=aN (aN (aN (aN @aA.len @aC.len) (aN @aE.len @aK.len)) (aN (aN @aB.len @aD.len) (aN @aA.cells_mk (aN @aC.cells_mk @aE.cells_mk)))) (aN (aN (aN @aK.cells_mk @aB.cells_mk) (aN @aD.cells_mk @aA.sized)) (aN (aN @aC.sized @aE.sized) (aN @aK.sized (aN @aB.sized @aD.sized))))
def DP:=aN @Option.some.injEq (aN @Bool.and_true @List.cons_ne_nil)
end Go.Proofs.Ytiimibimkpimbaa
