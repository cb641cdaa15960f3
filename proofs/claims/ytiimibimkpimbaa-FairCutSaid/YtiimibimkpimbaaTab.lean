/- The table. Printed by a program. -/
import Derived.Test.YtiimibimkpimbaaVmH
import Derived.Test.YtiimibimkpimbaaRepD
import Derived.Test.YtiimibimkpimbaaSortD
import Derived.Test.YtiimibimkpimbaaCode1
import Derived.Test.YtiimibimkpimbaaCode2
set_option linter.unusedVariables false
set_option linter.unusedSimpArgs false
namespace Go.Proofs.Ytiimibimkpimbaa
open Vm
open Go.RowKit
def o31:List D→Option D:=RE 32
def o66:List D→Option D:=aGr 3
def TL:List (Nat × Option Def):=[(19,some (.code aKL)),(38,some (.code aKM)),(21,some (.code aJV)),(20,some (.code aKF)),(42,some (.code aJ1)),(40,some (.code aJS)),(26,some (.code aK1)),(30,some (.code aJ9)),(28,some (.code aKR)),(41,some (.code aKh)),(29,some (.code aJP)),(27,some (.code aJ8)),(25,some (.code aKb)),(14,some (.code aK3)),(67,some (.code aKV)),(69,some (.code aKs)),(33,some (.code aKG)),(37,some (.code aKf)),(63,some (.code aKw)),(46,some (.code aJT)),(45,some (.code aKx)),(47,some (.code aJQ)),(34,some (.code aKv)),(48,some (.code aKu)),(65,some (.code aKW)),(49,some (.code aKo)),(35,some (.code aJ3)),(36,some (.code aKd)),(16,some (.code aJZ)),(70,some (.code aKr)),(10,some (.code aKq)),(12,some (.code aJX)),(13,some (.code aKZ)),(8,some (.code sf8)),(9,some (.code sf9)),(5,some (.code sf5)),(31,some (.toldL o31)),(66,some (.told o66))]
def TT:vF:=fun f=>lk TL none f
structure aA where
 Kind:Int
 Room:Int
 Day:Int
 No:Int
 From:Int
 To:Int
 Currency:Int
 Due:Int
 Sum:Int
 deriving Inhabited
def aA.cells (x:aA):List D:=[.int .i64 x.Kind,.int .i64 x.Room,.int .i64 x.Day,.int .i64 x.No,.int .i64 x.From,.int .i64 x.To,.int .i64 x.Currency,.int .i64 x.Due,.int .i64 x.Sum]
theorem aA.sized (xs:List aA):sized 9 (cM aA.cells xs) = true:=pM _ _ (fun x=>by rfl) xs
theorem aA.len (x:aA):x.cells.length = 9:=rfl
theorem aA.size {β:Type} (x:aA) (y:Option β):tL x.cells 9 y = y:=rfl
theorem aA.eq1 {β:Type} (x:aA) (ks:List Nat) (ys:List V) (k:Bool→Option β):xC ks (bQ x.cells) ys k = xC ks [.d (.int .i64 x.Kind),.d (.int .i64 x.Room),.d (.int .i64 x.Day),.d (.int .i64 x.No),.d (.int .i64 x.From),.d (.int .i64 x.To),.d (.int .i64 x.Currency),.d (.int .i64 x.Due),.d (.int .i64 x.Sum)] ys k:=rfl
theorem aA.eq2 {β:Type} (x:aA) (ks:List Nat) (ys:List V) (k:Bool→Option β):xC ks ys (bQ x.cells) k = xC ks ys [.d (.int .i64 x.Kind),.d (.int .i64 x.Room),.d (.int .i64 x.Day),.d (.int .i64 x.No),.d (.int .i64 x.From),.d (.int .i64 x.To),.d (.int .i64 x.Currency),.d (.int .i64 x.Due),.d (.int .i64 x.Sum)] k:=rfl
theorem aA.put {β:Type} (x:aA) (id:Nat) (cs:List V) (hc:cs.length = 9) (kw:V→List (Nat × Option aL)→Option β):oJ 9 0 id (n9 x.cells) (some (.box cs)) kw = kw .any [(id,some (.box (bQ x.cells)))]:=oS 9 id _ rfl cs hc
theorem aA.rset {β:Type} (x:aA) (off:Nat) (d:D) (ds:List D) (n:Nat) (k:List D→Option β):j7 x.cells off (d :: ds) n k = j7 [.int .i64 x.Kind,.int .i64 x.Room,.int .i64 x.Day,.int .i64 x.No,.int .i64 x.From,.int .i64 x.To,.int .i64 x.Currency,.int .i64 x.Due,.int .i64 x.Sum] off (d :: ds) n k:=rfl
theorem aA.rfull {β:Type} (x y:aA) (k:List D→Option β):j7 x.cells 0 y.cells 9 k = k y.cells:=by unfold j7; exact (if_pos ⟨rfl,Nat.le_refl _⟩).trans rfl
theorem aA.get0 {β:Type} (x:aA) (k:D→Option β):iF x.cells 0 k = k (.int .i64 x.Kind):=rfl
theorem aA.get1 {β:Type} (x:aA) (k:D→Option β):iF x.cells 1 k = k (.int .i64 x.Room):=rfl
theorem aA.get2 {β:Type} (x:aA) (k:D→Option β):iF x.cells 2 k = k (.int .i64 x.Day):=rfl
theorem aA.get3 {β:Type} (x:aA) (k:D→Option β):iF x.cells 3 k = k (.int .i64 x.No):=rfl
theorem aA.get4 {β:Type} (x:aA) (k:D→Option β):iF x.cells 4 k = k (.int .i64 x.From):=rfl
theorem aA.get5 {β:Type} (x:aA) (k:D→Option β):iF x.cells 5 k = k (.int .i64 x.To):=rfl
theorem aA.get6 {β:Type} (x:aA) (k:D→Option β):iF x.cells 6 k = k (.int .i64 x.Currency):=rfl
theorem aA.get7 {β:Type} (x:aA) (k:D→Option β):iF x.cells 7 k = k (.int .i64 x.Due):=rfl
theorem aA.get8 {β:Type} (x:aA) (k:D→Option β):iF x.cells 8 k = k (.int .i64 x.Sum):=rfl
theorem aA.sub0_9 {β:Type} (x:aA) (k:List D→Option β):vR x.cells 0 9 k = k x.cells:=rfl
theorem aA.cells_mk (f0:Int) (f1:Int) (f2:Int) (f3:Int) (f4:Int) (f5:Int) (f6:Int) (f7:Int) (f8:Int):aA.cells (aA.mk f0 f1 f2 f3 f4 f5 f6 f7 f8) = [.int .i64 f0,.int .i64 f1,.int .i64 f2,.int .i64 f3,.int .i64 f4,.int .i64 f5,.int .i64 f6,.int .i64 f7,.int .i64 f8]:=rfl
structure aC where
 Kind:Int
 Room:Int
 No:Int
 Sum:Int
 deriving Inhabited
def aC.cells (x:aC):List D:=[.int .i64 x.Kind,.int .i64 x.Room,.int .i64 x.No,.int .i64 x.Sum]
theorem aC.sized (xs:List aC):sized 4 (cM aC.cells xs) = true:=pM _ _ (fun x=>by rfl) xs
theorem aC.len (x:aC):x.cells.length = 4:=rfl
theorem aC.size {β:Type} (x:aC) (y:Option β):tL x.cells 4 y = y:=rfl
theorem aC.eq1 {β:Type} (x:aC) (ks:List Nat) (ys:List V) (k:Bool→Option β):xC ks (bQ x.cells) ys k = xC ks [.d (.int .i64 x.Kind),.d (.int .i64 x.Room),.d (.int .i64 x.No),.d (.int .i64 x.Sum)] ys k:=rfl
theorem aC.eq2 {β:Type} (x:aC) (ks:List Nat) (ys:List V) (k:Bool→Option β):xC ks ys (bQ x.cells) k = xC ks ys [.d (.int .i64 x.Kind),.d (.int .i64 x.Room),.d (.int .i64 x.No),.d (.int .i64 x.Sum)] k:=rfl
theorem aC.put {β:Type} (x:aC) (id:Nat) (cs:List V) (hc:cs.length = 4) (kw:V→List (Nat × Option aL)→Option β):oJ 4 0 id (n9 x.cells) (some (.box cs)) kw = kw .any [(id,some (.box (bQ x.cells)))]:=oS 4 id _ rfl cs hc
theorem aC.get0 {β:Type} (x:aC) (k:D→Option β):iF x.cells 0 k = k (.int .i64 x.Kind):=rfl
theorem aC.get1 {β:Type} (x:aC) (k:D→Option β):iF x.cells 1 k = k (.int .i64 x.Room):=rfl
theorem aC.get2 {β:Type} (x:aC) (k:D→Option β):iF x.cells 2 k = k (.int .i64 x.No):=rfl
theorem aC.get3 {β:Type} (x:aC) (k:D→Option β):iF x.cells 3 k = k (.int .i64 x.Sum):=rfl
theorem aC.sub0_4 {β:Type} (x:aC) (k:List D→Option β):vR x.cells 0 4 k = k x.cells:=rfl
theorem aC.cells_mk (f0:Int) (f1:Int) (f2:Int) (f3:Int):aC.cells (aC.mk f0 f1 f2 f3) = [.int .i64 f0,.int .i64 f1,.int .i64 f2,.int .i64 f3]:=rfl
structure aE where
 currency:Int
 due:Int
 deriving Inhabited
def aE.cells (x:aE):List D:=[.int .i64 x.currency,.int .i64 x.due]
theorem aE.sized (xs:List aE):sized 2 (cM aE.cells xs) = true:=pM _ _ (fun x=>by rfl) xs
theorem aE.len (x:aE):x.cells.length = 2:=rfl
theorem aE.size {β:Type} (x:aE) (y:Option β):tL x.cells 2 y = y:=rfl
theorem aE.eq1 {β:Type} (x:aE) (ks:List Nat) (ys:List V) (k:Bool→Option β):xC ks (bQ x.cells) ys k = xC ks [.d (.int .i64 x.currency),.d (.int .i64 x.due)] ys k:=rfl
theorem aE.eq2 {β:Type} (x:aE) (ks:List Nat) (ys:List V) (k:Bool→Option β):xC ks ys (bQ x.cells) k = xC ks ys [.d (.int .i64 x.currency),.d (.int .i64 x.due)] k:=rfl
theorem aE.put {β:Type} (x:aE) (id:Nat) (cs:List V) (hc:cs.length = 2) (kw:V→List (Nat × Option aL)→Option β):oJ 2 0 id (n9 x.cells) (some (.box cs)) kw = kw .any [(id,some (.box (bQ x.cells)))]:=oS 2 id _ rfl cs hc
theorem aE.get0 {β:Type} (x:aE) (k:D→Option β):iF x.cells 0 k = k (.int .i64 x.currency):=rfl
theorem aE.get1 {β:Type} (x:aE) (k:D→Option β):iF x.cells 1 k = k (.int .i64 x.due):=rfl
theorem aE.sub0_2 {β:Type} (x:aE) (k:List D→Option β):vR x.cells 0 2 k = k x.cells:=rfl
theorem aE.cells_mk (f0:Int) (f1:Int):aE.cells (aE.mk f0 f1) = [.int .i64 f0,.int .i64 f1]:=rfl
structure aM where
 From:Int
 To:Int
 Sum:Int
 deriving Inhabited
def aM.cells (x:aM):List D:=[.int .i64 x.From,.int .i64 x.To,.int .i64 x.Sum]
theorem aM.sized (xs:List aM):sized 3 (cM aM.cells xs) = true:=pM _ _ (fun x=>by rfl) xs
theorem aM.len (x:aM):x.cells.length = 3:=rfl
theorem aM.size {β:Type} (x:aM) (y:Option β):tL x.cells 3 y = y:=rfl
theorem aM.put {β:Type} (x:aM) (id:Nat) (cs:List V) (hc:cs.length = 3) (kw:V→List (Nat × Option aL)→Option β):oJ 3 0 id (n9 x.cells) (some (.box cs)) kw = kw .any [(id,some (.box (bQ x.cells)))]:=oS 3 id _ rfl cs hc
theorem aM.get0 {β:Type} (x:aM) (k:D→Option β):iF x.cells 0 k = k (.int .i64 x.From):=rfl
theorem aM.get1 {β:Type} (x:aM) (k:D→Option β):iF x.cells 1 k = k (.int .i64 x.To):=rfl
theorem aM.get2 {β:Type} (x:aM) (k:D→Option β):iF x.cells 2 k = k (.int .i64 x.Sum):=rfl
theorem aM.sub0_3 {β:Type} (x:aM) (k:List D→Option β):vR x.cells 0 3 k = k x.cells:=rfl
theorem aM.cells_mk (f0:Int) (f1:Int) (f2:Int):aM.cells (aM.mk f0 f1 f2) = [.int .i64 f0,.int .i64 f1,.int .i64 f2]:=rfl
structure aB where
 due:Int
 from_:Int
 to:Int
 cost:Int
 most:Int
 back:Bool
 deriving Inhabited
def aB.cells (x:aB):List D:=[.int .i64 x.due,.int .i64 x.from_,.int .i64 x.to,.int .i64 x.cost,.int .i64 x.most,.bool x.back]
theorem aB.sized (xs:List aB):sized 6 (cM aB.cells xs) = true:=pM _ _ (fun x=>by rfl) xs
theorem aB.len (x:aB):x.cells.length = 6:=rfl
theorem aB.size {β:Type} (x:aB) (y:Option β):tL x.cells 6 y = y:=rfl
theorem aB.put {β:Type} (x:aB) (id:Nat) (cs:List V) (hc:cs.length = 6) (kw:V→List (Nat × Option aL)→Option β):oJ 6 0 id (n9 x.cells) (some (.box cs)) kw = kw .any [(id,some (.box (bQ x.cells)))]:=oS 6 id _ rfl cs hc
theorem aB.rset {β:Type} (x:aB) (off:Nat) (d:D) (ds:List D) (n:Nat) (k:List D→Option β):j7 x.cells off (d :: ds) n k = j7 [.int .i64 x.due,.int .i64 x.from_,.int .i64 x.to,.int .i64 x.cost,.int .i64 x.most,.bool x.back] off (d :: ds) n k:=rfl
theorem aB.get0 {β:Type} (x:aB) (k:D→Option β):iF x.cells 0 k = k (.int .i64 x.due):=rfl
theorem aB.get1 {β:Type} (x:aB) (k:D→Option β):iF x.cells 1 k = k (.int .i64 x.from_):=rfl
theorem aB.get2 {β:Type} (x:aB) (k:D→Option β):iF x.cells 2 k = k (.int .i64 x.to):=rfl
theorem aB.get3 {β:Type} (x:aB) (k:D→Option β):iF x.cells 3 k = k (.int .i64 x.cost):=rfl
theorem aB.get4 {β:Type} (x:aB) (k:D→Option β):iF x.cells 4 k = k (.int .i64 x.most):=rfl
theorem aB.get5 {β:Type} (x:aB) (k:D→Option β):iF x.cells 5 k = k (.bool x.back):=rfl
theorem aB.sub0_6 {β:Type} (x:aB) (k:List D→Option β):vR x.cells 0 6 k = k x.cells:=rfl
theorem aB.cells_mk (f0:Int) (f1:Int) (f2:Int) (f3:Int) (f4:Int) (f5:Bool):aB.cells (aB.mk f0 f1 f2 f3 f4 f5) = [.int .i64 f0,.int .i64 f1,.int .i64 f2,.int .i64 f3,.int .i64 f4,.bool f5]:=rfl
structure aD where
 c:Int
 steps:Int
 fine:Bool
 deriving Inhabited
def aD.cells (x:aD):List D:=[.int .i64 x.c,.int .i64 x.steps,.bool x.fine]
theorem aD.sized (xs:List aD):sized 3 (cM aD.cells xs) = true:=pM _ _ (fun x=>by rfl) xs
theorem aD.len (x:aD):x.cells.length = 3:=rfl
theorem aD.put {β:Type} (x:aD) (id:Nat) (cs:List V) (hc:cs.length = 3) (kw:V→List (Nat × Option aL)→Option β):oJ 3 0 id (n9 x.cells) (some (.box cs)) kw = kw .any [(id,some (.box (bQ x.cells)))]:=oS 3 id _ rfl cs hc
theorem aD.rset {β:Type} (x:aD) (off:Nat) (d:D) (ds:List D) (n:Nat) (k:List D→Option β):j7 x.cells off (d :: ds) n k = j7 [.int .i64 x.c,.int .i64 x.steps,.bool x.fine] off (d :: ds) n k:=rfl
theorem aD.rfull {β:Type} (x y:aD) (k:List D→Option β):j7 x.cells 0 y.cells 3 k = k y.cells:=by unfold j7; exact (if_pos ⟨rfl,Nat.le_refl _⟩).trans rfl
theorem aD.get0 {β:Type} (x:aD) (k:D→Option β):iF x.cells 0 k = k (.int .i64 x.c):=rfl
theorem aD.get1 {β:Type} (x:aD) (k:D→Option β):iF x.cells 1 k = k (.int .i64 x.steps):=rfl
theorem aD.get2 {β:Type} (x:aD) (k:D→Option β):iF x.cells 2 k = k (.bool x.fine):=rfl
theorem aD.sub0_3 {β:Type} (x:aD) (k:List D→Option β):vR x.cells 0 3 k = k x.cells:=rfl
theorem aD.cells_mk (f0:Int) (f1:Int) (f2:Bool):aD.cells (aD.mk f0 f1 f2) = [.int .i64 f0,.int .i64 f1,.bool f2]:=rfl
theorem aI7 {β:Type} (x:Int) (k:D→Option β):iF (cI x) 0 k = k (.int .i64 x):=rfl
theorem aFZ {β:Type} (x:Int) (off:Nat) (d:D) (ds:List D) (n:Nat) (k:List D→Option β):j7 (cI x) off (d :: ds) n k = j7 [.int .i64 x] off (d :: ds) n k:=rfl
theorem aFw {β:Type} (x:Int) (y:Option β):tL (cI x) 1 y = y:=rfl
theorem aF3 {β:Type} (x0:D) (y:Option β):tL [x0] 1 y = y:=rfl
theorem aFb {β:Type} (x0 x1 x2:D) (y:Option β):tL [x0,x1,x2] 3 y = y:=rfl
theorem aGQ {β:Type} (x0 x1 x2 x3:D) (y:Option β):tL [x0,x1,x2,x3] 4 y = y:=rfl
theorem aFN {β:Type} (x0 x1 x2 x3 x4 x5:D) (y:Option β):tL [x0,x1,x2,x3,x4,x5] 6 y = y:=rfl
theorem aGu {β:Type} (x0 x1 x2 x3 x4 x5 x6 x7 x8:D) (y:Option β):tL [x0,x1,x2,x3,x4,x5,x6,x7,x8] 9 y = y:=rfl
theorem aIF {β:Type} (i:IntKind) (x:Int) (k:D→Option β):iF (cK i x) 0 k = k (.int i x):=rfl
theorem aHv {β:Type} (i:IntKind) (x:Int) (y:Option β):tL (cK i x) 1 y = y:=rfl
theorem J3 {β:Type} {bl:List (Nat × Option aL)} {kw:V→List (Nat × Option aL)→Option β} (bytes d:Nat) (x:V):JS 37 4 bytes d x .nil bl kw = OU 37 4 bytes d x aC.cells [] bl kw:=N4 _ _ _ _ _ _ _ _ (fun _=>rfl) rfl
theorem UX {β:Type} {T:vF} {d:Nat} {fr:List (Nat × V)} {bl:List (Nat × Option aL)} {k:V→Option β} {kw:V→List (Nat × Option aL)→Option β} (l cp:dL):tT T d (.makeSlice 3 1 8 [.int .i64 0] l cp) fr bl k kw = dK bl d fun b=>jC b (dX fr l fun a=>dX fr cp fun b=>aG9 8 a b fun n=>kw (.own d 0) [(d,some (.rows 0 3 1 (cM cI (List.replicate n 0))))]):=aIi 3 1 8 [.int .i64 0] cI (0:Int) rfl l cp
theorem T8 {β:Type} {T:vF} {d:Nat} {fr:List (Nat × V)} {bl:List (Nat × Option aL)} {k:V→Option β} {kw:V→List (Nat × Option aL)→Option β} (l cp:dL):tT T d (.makeSlice 89 3 24 [.int .i64 0,.int .i64 0,.bool false] l cp) fr bl k kw = dK bl d fun b=>jC b (dX fr l fun a=>dX fr cp fun b=>aG9 24 a b fun n=>kw (.own d 0) [(d,some (.rows 0 89 3 (cM aD.cells (List.replicate n (aD.mk 0 0 false)))))]):=aIi 89 3 24 [.int .i64 0,.int .i64 0,.bool false] aD.cells ((aD.mk 0 0 false):aD) rfl l cp
theorem TC {β:Type} (k:List (List D)→Option β):NR 3 [] k = k (cM cI ([]:List Int)):=rfl
theorem QN {β:Type} (a0:Int) (k:List (List D)→Option β):NR 3 [[.int .i64 a0]] k = k (cM cI ([a0]:List Int)):=rfl
theorem PW {β:Type} (k:List (List D)→Option β):NR 32 [] k = k (cM aA.cells ([]:List aA)):=rfl
theorem GR {β:Type} (a0_0:Int) (a0_1:Int) (a0_2:Int) (a0_3:Int) (a0_4:Int) (a0_5:Int) (a0_6:Int) (a0_7:Int) (a0_8:Int) (a1_0:Int) (a1_1:Int) (a1_2:Int) (a1_3:Int) (a1_4:Int) (a1_5:Int) (a1_6:Int) (a1_7:Int) (a1_8:Int) (a2_0:Int) (a2_1:Int) (a2_2:Int) (a2_3:Int) (a2_4:Int) (a2_5:Int) (a2_6:Int) (a2_7:Int) (a2_8:Int) (a3_0:Int) (a3_1:Int) (a3_2:Int) (a3_3:Int) (a3_4:Int) (a3_5:Int) (a3_6:Int) (a3_7:Int) (a3_8:Int) (k:List (List D)→Option β):NR 32 [[.int .i64 a0_0,.int .i64 a0_1,.int .i64 a0_2,.int .i64 a0_3,.int .i64 a0_4,.int .i64 a0_5,.int .i64 a0_6,.int .i64 a0_7,.int .i64 a0_8],[.int .i64 a1_0,.int .i64 a1_1,.int .i64 a1_2,.int .i64 a1_3,.int .i64 a1_4,.int .i64 a1_5,.int .i64 a1_6,.int .i64 a1_7,.int .i64 a1_8],[.int .i64 a2_0,.int .i64 a2_1,.int .i64 a2_2,.int .i64 a2_3,.int .i64 a2_4,.int .i64 a2_5,.int .i64 a2_6,.int .i64 a2_7,.int .i64 a2_8],[.int .i64 a3_0,.int .i64 a3_1,.int .i64 a3_2,.int .i64 a3_3,.int .i64 a3_4,.int .i64 a3_5,.int .i64 a3_6,.int .i64 a3_7,.int .i64 a3_8]] k = k (cM aA.cells ([(aA.mk a0_0 a0_1 a0_2 a0_3 a0_4 a0_5 a0_6 a0_7 a0_8),(aA.mk a1_0 a1_1 a1_2 a1_3 a1_4 a1_5 a1_6 a1_7 a1_8),(aA.mk a2_0 a2_1 a2_2 a2_3 a2_4 a2_5 a2_6 a2_7 a2_8),(aA.mk a3_0 a3_1 a3_2 a3_3 a3_4 a3_5 a3_6 a3_7 a3_8)]:List aA)):=rfl
theorem M6 {β:Type} (a0_0:Int) (a0_1:Int) (a0_2:Int) (a0_3:Int) (a0_4:Int) (a0_5:Int) (a0_6:Int) (a0_7:Int) (a0_8:Int) (k:List (List D)→Option β):NR 32 [[.int .i64 a0_0,.int .i64 a0_1,.int .i64 a0_2,.int .i64 a0_3,.int .i64 a0_4,.int .i64 a0_5,.int .i64 a0_6,.int .i64 a0_7,.int .i64 a0_8]] k = k (cM aA.cells ([(aA.mk a0_0 a0_1 a0_2 a0_3 a0_4 a0_5 a0_6 a0_7 a0_8)]:List aA)):=rfl
theorem MQ {β:Type} (a0:aA) (k:List (List D)→Option β):NR 32 [aA.cells a0] k = k (cM aA.cells ([a0]:List aA)):=rfl
theorem P1 {β:Type} (k:List (List D)→Option β):NR 37 [] k = k (cM aC.cells ([]:List aC)):=rfl
theorem JE {β:Type} (a0_0:Int) (a0_1:Int) (a0_2:Int) (a0_3:Int) (a1_0:Int) (a1_1:Int) (a1_2:Int) (a1_3:Int) (a2_0:Int) (a2_1:Int) (a2_2:Int) (a2_3:Int) (k:List (List D)→Option β):NR 37 [[.int .i64 a0_0,.int .i64 a0_1,.int .i64 a0_2,.int .i64 a0_3],[.int .i64 a1_0,.int .i64 a1_1,.int .i64 a1_2,.int .i64 a1_3],[.int .i64 a2_0,.int .i64 a2_1,.int .i64 a2_2,.int .i64 a2_3]] k = k (cM aC.cells ([(aC.mk a0_0 a0_1 a0_2 a0_3),(aC.mk a1_0 a1_1 a1_2 a1_3),(aC.mk a2_0 a2_1 a2_2 a2_3)]:List aC)):=rfl
theorem MP {β:Type} (a0_0:Int) (a0_1:Int) (a0_2:Int) (a0_3:Int) (k:List (List D)→Option β):NR 37 [[.int .i64 a0_0,.int .i64 a0_1,.int .i64 a0_2,.int .i64 a0_3]] k = k (cM aC.cells ([(aC.mk a0_0 a0_1 a0_2 a0_3)]:List aC)):=rfl
theorem O9 {β:Type} (k:List (List D)→Option β):NR 43 [] k = k (cM cI ([]:List Int)):=rfl
theorem MT {β:Type} (a0:Int) (k:List (List D)→Option β):NR 43 [[.int .i64 a0]] k = k (cM cI ([a0]:List Int)):=rfl
theorem PL {β:Type} (k:List (List D)→Option β):NR 46 [] k = k (cM aM.cells ([]:List aM)):=rfl
theorem M5 {β:Type} (a0_0:Int) (a0_1:Int) (a0_2:Int) (k:List (List D)→Option β):NR 46 [[.int .i64 a0_0,.int .i64 a0_1,.int .i64 a0_2]] k = k (cM aM.cells ([(aM.mk a0_0 a0_1 a0_2)]:List aM)):=rfl
theorem P5 {β:Type} (k:List (List D)→Option β):NR 73 [] k = k (cM aB.cells ([]:List aB)):=rfl
theorem M0 {β:Type} (a0_0:Int) (a0_1:Int) (a0_2:Int) (a0_3:Int) (a0_4:Int) (a0_5:Bool) (k:List (List D)→Option β):NR 73 [[.int .i64 a0_0,.int .i64 a0_1,.int .i64 a0_2,.int .i64 a0_3,.int .i64 a0_4,.bool a0_5]] k = k (cM aB.cells ([(aB.mk a0_0 a0_1 a0_2 a0_3 a0_4 a0_5)]:List aB)):=rfl
theorem MK {β:Type} (a0:aB) (k:List (List D)→Option β):NR 73 [aB.cells a0] k = k (cM aB.cells ([a0]:List aB)):=rfl
theorem UI {β:Type} (xs:List Int) (i:Nat) (a:Int) (k:List (List D)→Option β):wR 3 (cM cI xs) i [.int .i64 a] k = k (cM cI (xs.set i a)):=AX 3 cI xs i a k
theorem QX {β:Type} (xs:List aB) (i:Nat) (a_0:Int) (a_1:Int) (a_2:Int) (a_3:Int) (a_4:Int) (a_5:Bool) (k:List (List D)→Option β):wR 73 (cM aB.cells xs) i [.int .i64 a_0,.int .i64 a_1,.int .i64 a_2,.int .i64 a_3,.int .i64 a_4,.bool a_5] k = k (cM aB.cells (xs.set i (aB.mk a_0 a_1 a_2 a_3 a_4 a_5))):=AX 73 aB.cells xs i (aB.mk a_0 a_1 a_2 a_3 a_4 a_5) k
theorem SX {β:Type} (xs:List aD) (i:Nat) (a_0:Int) (a_1:Int) (a_2:Bool) (k:List (List D)→Option β):wR 89 (cM aD.cells xs) i [.int .i64 a_0,.int .i64 a_1,.bool a_2] k = k (cM aD.cells (xs.set i (aD.mk a_0 a_1 a_2))):=AX 89 aD.cells xs i (aD.mk a_0 a_1 a_2) k
/- all rules as one -/
set_option linter.defProp false
def DN:=aN (aN (aN (aN (aN (aN (aN (aN @aJv @aCu) (aN @aCl (aN @aFi @aHg))) (aN (aN @aF7 @WL) (aN @aEh (aN @aD1 @XK)))) (aN (aN (aN @RZ @Z0) (aN @Q8 (aN @ZZ @aFa))) (aN (aN @aIJ @aEg) (aN @aCz (aN @aAZ @VN))))) (aN (aN (aN (aN @aEa @aHG) (aN @ZU (aN @ZM @V1))) (aN (aN @aEm @aAc) (aN @aAp (aN @aCY @PU)))) (aN (aN (aN @MM @aAu) (aN @MU (aN @aAG @XN))) (aN (aN @WD (aN @SA @aCN)) (aN @aAM (aN @U3 @Q5)))))) (aN (aN (aN (aN (aN @aAd @aF5) (aN @aEz (aN @aD4 @KL))) (aN (aN @aGi @aGW) (aN @aI9 (aN @SI @aEX)))) (aN (aN (aN @aBB @VE) (aN @aBo (aN @aB2 @aBv))) (aN (aN @VY @aFy) (aN @aFI (aN @UN @WH))))) (aN (aN (aN (aN @aEV @UU) (aN @aBI (aN @Y5 @aGC))) (aN (aN @RG @aAI) (aN @aHy (aN @aDk @aDx)))) (aN (aN (aN @aHK @aCB) (aN @aIs (aN @aJg @aIH))) (aN (aN @aB8 (aN @aCC @aE6)) (aN @aGN (aN @aFX @aHm))))))) (aN (aN (aN (aN (aN (aN @ZB @V9) (aN @VZ (aN @aEr @aDL))) (aN (aN @W4 @aDv) (aN @aAS (aN @aEN @ZI)))) (aN (aN (aN @aEM @aHw) (aN @aFF (aN @aHU @aIu))) (aN (aN @aIR @aCo) (aN @aAU (aN @aGJ @aBg))))) (aN (aN (aN (aN @R4 @aBm) (aN @QJ (aN @aFU @aG0))) (aN (aN @aDl @aB9) (aN @aEv (aN @aHB @aJn)))) (aN (aN (aN @aHk @aHc) (aN @aEp (aN @aBu @aDK))) (aN (aN @aBJ (aN @aIy @aDd)) (aN @aFE (aN @aFC @aHz)))))) (aN (aN (aN (aN (aN @M4 @MZ) (aN @aAa (aN @WS @JT))) (aN (aN @aC5 @RF) (aN @aFL (aN @aCQ @W7)))) (aN (aN (aN @Q0 @XQ) (aN @aA4 (aN @WG @U7))) (aN (aN @R9 (aN @aBk @U1)) (aN @aHs (aN @aGV @aF0))))) (aN (aN (aN (aN @aAw @ZC) (aN @aCc (aN @aD7 @aHh))) (aN (aN @aC9 @aDH) (aN @aCy (aN @Q6 @aFA)))) (aN (aN (aN @aGs @T6) (aN @WE (aN @XE @aDV))) (aN (aN @aEI (aN @ZA @QV)) (aN @aGg (aN @aFo @R6)))))))) (aN (aN (aN (aN (aN (aN (aN @aGy @aHJ) (aN @aKl (aN @aHn @P8))) (aN (aN @TO @S6) (aN @AX (aN @aJy @aHb)))) (aN (aN (aN @aKN @aKU) (aN @aKz (aN @aDz @aCh))) (aN (aN @aCe @aDG) (aN @aCm (aN @aBZ @aCR))))) (aN (aN (aN (aN @aCi @aDe) (aN @aGt (aN @aGL @aGX))) (aN (aN @aDI @ZJ) (aN @OI (aN @H0 @aGm)))) (aN (aN (aN @aC7 @XD) (aN @aJE (aN @aJq @aAv))) (aN (aN @aAj (aN @Y1 @aEk)) (aN @XM (aN @aAL @VQ)))))) (aN (aN (aN (aN (aN @aGK @aEG) (aN @aDt (aN @aAg @aFt))) (aN (aN @aIZ @aEH) (aN @aEt (aN @Q9 @aAR)))) (aN (aN (aN @aIl @S4) (aN @aBw (aN @aJd @aJw))) (aN (aN @aG1 (aN @aCp @aAK)) (aN @UZ (aN @aFJ @aJD))))) (aN (aN (aN (aN @aJs @aIP) (aN @ZT (aN @VI @ZX))) (aN (aN @XS @aGk) (aN @aFH (aN @aJI @aDy)))) (aN (aN (aN @M2 @L8) (aN @aFf (aN @ZG @ZL))) (aN (aN @VD (aN @aA9 @S1)) (aN @RW (aN @U8 @aEP))))))) (aN (aN (aN (aN (aN (aN @aDc @WO) (aN @SJ (aN @VF @MO))) (aN (aN @TM @aJj) (aN @aC8 (aN @aER @Y6)))) (aN (aN (aN @aHl @aHV) (aN @aJJ (aN @aA1 @aBT))) (aN (aN @aIv @aIw) (aN @aI3 (aN @ZP @TJ))))) (aN (aN (aN (aN @aAE @aAV) (aN @V3 (aN @SF @aIG))) (aN (aN @aIU @XT) (aN @aBY (aN @aHo @aDD)))) (aN (aN (aN @aEf @aJo) (aN @aJt (aN @aB6 @Z6))) (aN (aN @aA7 (aN @aAX @aGj)) (aN @aFD (aN @V0 @aEF)))))) (aN (aN (aN (aN (aN @VC @VM) (aN @aCZ (aN @aFj @aIB))) (aN (aN @W0 @T7) (aN @Z7 (aN @WV @aDJ)))) (aN (aN (aN @aEw @aGE) (aN @aEZ (aN @aE1 @aJf))) (aN (aN @aBc (aN @aBE @aBi)) (aN @aEC (aN @ZR @P3))))) (aN (aN (aN (aN @VW @SP) (aN @XP (aN @aBy @Z5))) (aN (aN @aBd @aA2) (aN @aAT (aN @ZN @aBW)))) (aN (aN (aN @aAC @V8) (aN @aD0 (aN @aCP @U4))) (aN (aN @XJ (aN @aAi @WX)) (aN @aBp (aN @T2 @aDr))))))))
def DR:=aN (aN (aN (aN (aN (aN @aA.size @aA.eq1) (aN @aA.eq2 (aN @aA.put @aA.rset))) (aN (aN @aA.rfull @aA.get0) (aN @aA.get1 (aN @aA.get2 @aA.get3)))) (aN (aN (aN @aA.get4 @aA.get5) (aN @aA.get6 (aN @aA.get7 @aA.get8))) (aN (aN @aA.sub0_9 (aN @aC.size @aC.eq1)) (aN @aC.eq2 (aN @aC.put @aC.get0))))) (aN (aN (aN (aN @aC.get1 @aC.get2) (aN @aC.get3 (aN @aC.sub0_4 @aE.size))) (aN (aN @aE.eq1 (aN @aE.eq2 @aE.put)) (aN @aE.get0 (aN @aE.get1 @aE.sub0_2)))) (aN (aN (aN @aM.size @aM.put) (aN @aM.get0 (aN @aM.get1 @aM.get2))) (aN (aN @aM.sub0_3 (aN @aB.size @aB.put)) (aN @aB.rset (aN @aB.get0 @aB.get1)))))) (aN (aN (aN (aN (aN @aB.get2 @aB.get3) (aN @aB.get4 (aN @aB.get5 @aB.sub0_6))) (aN (aN @aD.put (aN @aD.rset @aD.rfull)) (aN @aD.get0 (aN @aD.get1 @aD.get2)))) (aN (aN (aN @aD.sub0_3 @aI7) (aN @aFZ (aN @aFw @aF3))) (aN (aN @aFb (aN @aGQ @aFN)) (aN @aGu (aN @aIF @aHv))))) (aN (aN (aN (aN @J3 @UX) (aN @T8 (aN @TC @QN))) (aN (aN @PW (aN @GR @M6)) (aN @MQ (aN @P1 @JE)))) (aN (aN (aN @MP @O9) (aN @MT (aN @PL @M5))) (aN (aN @P5 (aN @M0 @MK)) (aN @UI (aN @QX @SX))))))
def DQ:=aN (aN (aN (aN @aA.len @aC.len) (aN @aE.len @aM.len)) (aN (aN @aB.len @aD.len) (aN @aA.cells_mk (aN @aC.cells_mk @aE.cells_mk)))) (aN (aN (aN @aM.cells_mk @aB.cells_mk) (aN @aD.cells_mk @aA.sized)) (aN (aN @aC.sized @aE.sized) (aN @aM.sized (aN @aB.sized @aD.sized))))
def DP:=aN @Option.some.injEq (aN @Bool.and_true @List.cons_ne_nil)
end Go.Proofs.Ytiimibimkpimbaa
