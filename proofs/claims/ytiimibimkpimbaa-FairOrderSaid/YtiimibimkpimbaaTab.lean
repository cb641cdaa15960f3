/- The table. Printed by a program. -/
import Derived.Test.YtiimibimkpimbaaVmH
import Derived.Test.YtiimibimkpimbaaRepD
import Derived.Test.YtiimibimkpimbaaSortD
import Derived.Test.YtiimibimkpimbaaCode1
import Derived.Test.YtiimibimkpimbaaCode2
set_option linter.unusedVariables false
set_option linter.unusedSimpArgs false
namespace Go.Proofs.Ytiimibimkpimbaa
open Vm
open Go.RowKit
def o31:List D→Option D:=SW 32
def o66:List D→Option D:=aFp 3
def TL:List (Nat × Option Def):=[(19,some (.code aK1)),(38,some (.code aKJ)),(21,some (.code aKy)),(20,some (.code aKi)),(42,some (.code aKO)),(40,some (.code aKC)),(26,some (.code aJ7)),(30,some (.code aK5)),(28,some (.code aKh)),(41,some (.code aKA)),(29,some (.code aKP)),(27,some (.code aKk)),(25,some (.code aKo)),(14,some (.code aKE)),(67,some (.code aJ4)),(69,some (.code aK6)),(33,some (.code aK9)),(37,some (.code aKK)),(63,some (.code aKT)),(46,some (.code aKq)),(45,some (.code aJ8)),(47,some (.code aKX)),(34,some (.code aKV)),(48,some (.code aKn)),(65,some (.code aKv)),(49,some (.code aKm)),(35,some (.code aJ0)),(36,some (.code aK2)),(16,some (.code aJ5)),(70,some (.code aKN)),(10,some (.code aKH)),(12,some (.code aKe)),(13,some (.code aJ1)),(8,some (.code sf8)),(9,some (.code sf9)),(11,some (.code aKR)),(3,some (.code sf3)),(31,some (.toldL o31)),(66,some (.told o66))]
def TT:u5:=fun f=>lk TL none f
structure aA where
 Kind:Int
 Room:Int
 Day:Int
 No:Int
 From:Int
 To:Int
 Currency:Int
 Due:Int
 Sum:Int
 deriving Inhabited
def aA.cells (x:aA):List D:=[.int .i64 x.Kind,.int .i64 x.Room,.int .i64 x.Day,.int .i64 x.No,.int .i64 x.From,.int .i64 x.To,.int .i64 x.Currency,.int .i64 x.Due,.int .i64 x.Sum]
theorem aA.sized (xs:List aA):sized 9 (cM aA.cells xs) = true:=pT _ _ (fun x=>by rfl) xs
theorem aA.len (x:aA):x.cells.length = 9:=rfl
theorem aA.size {β:Type} (x:aA) (y:Option β):sL x.cells 9 y = y:=rfl
theorem aA.eq1 {β:Type} (x:aA) (ks:List Nat) (ys:List V) (k:Bool→Option β):w8 ks (bQ x.cells) ys k = w8 ks [.d (.int .i64 x.Kind),.d (.int .i64 x.Room),.d (.int .i64 x.Day),.d (.int .i64 x.No),.d (.int .i64 x.From),.d (.int .i64 x.To),.d (.int .i64 x.Currency),.d (.int .i64 x.Due),.d (.int .i64 x.Sum)] ys k:=rfl
theorem aA.eq2 {β:Type} (x:aA) (ks:List Nat) (ys:List V) (k:Bool→Option β):w8 ks ys (bQ x.cells) k = w8 ks ys [.d (.int .i64 x.Kind),.d (.int .i64 x.Room),.d (.int .i64 x.Day),.d (.int .i64 x.No),.d (.int .i64 x.From),.d (.int .i64 x.To),.d (.int .i64 x.Currency),.d (.int .i64 x.Due),.d (.int .i64 x.Sum)] k:=rfl
theorem aA.put {β:Type} (x:aA) (id:Nat) (cs:List V) (hc:cs.length = 9) (kw:V→List (Nat × Option aK)→Option β):n8 9 0 id (nS x.cells) (some (.box cs)) kw = kw .any [(id,some (.box (bQ x.cells)))]:=oH 9 id _ rfl cs hc
theorem aA.rset {β:Type} (x:aA) (off:Nat) (d:D) (ds:List D) (n:Nat) (k:List D→Option β):jO x.cells off (d :: ds) n k = jO [.int .i64 x.Kind,.int .i64 x.Room,.int .i64 x.Day,.int .i64 x.No,.int .i64 x.From,.int .i64 x.To,.int .i64 x.Currency,.int .i64 x.Due,.int .i64 x.Sum] off (d :: ds) n k:=rfl
theorem aA.rfull {β:Type} (x y:aA) (k:List D→Option β):jO x.cells 0 y.cells 9 k = k y.cells:=by unfold jO; exact (if_pos ⟨rfl,Nat.le_refl _⟩).trans rfl
theorem aA.get0 {β:Type} (x:aA) (k:D→Option β):hU x.cells 0 k = k (.int .i64 x.Kind):=rfl
theorem aA.get1 {β:Type} (x:aA) (k:D→Option β):hU x.cells 1 k = k (.int .i64 x.Room):=rfl
theorem aA.get2 {β:Type} (x:aA) (k:D→Option β):hU x.cells 2 k = k (.int .i64 x.Day):=rfl
theorem aA.get3 {β:Type} (x:aA) (k:D→Option β):hU x.cells 3 k = k (.int .i64 x.No):=rfl
theorem aA.get4 {β:Type} (x:aA) (k:D→Option β):hU x.cells 4 k = k (.int .i64 x.From):=rfl
theorem aA.get5 {β:Type} (x:aA) (k:D→Option β):hU x.cells 5 k = k (.int .i64 x.To):=rfl
theorem aA.get6 {β:Type} (x:aA) (k:D→Option β):hU x.cells 6 k = k (.int .i64 x.Currency):=rfl
theorem aA.get7 {β:Type} (x:aA) (k:D→Option β):hU x.cells 7 k = k (.int .i64 x.Due):=rfl
theorem aA.get8 {β:Type} (x:aA) (k:D→Option β):hU x.cells 8 k = k (.int .i64 x.Sum):=rfl
theorem aA.sub0_9 {β:Type} (x:aA) (k:List D→Option β):vP x.cells 0 9 k = k x.cells:=rfl
theorem aA.cells_mk (f0:Int) (f1:Int) (f2:Int) (f3:Int) (f4:Int) (f5:Int) (f6:Int) (f7:Int) (f8:Int):aA.cells (aA.mk f0 f1 f2 f3 f4 f5 f6 f7 f8) = [.int .i64 f0,.int .i64 f1,.int .i64 f2,.int .i64 f3,.int .i64 f4,.int .i64 f5,.int .i64 f6,.int .i64 f7,.int .i64 f8]:=rfl
structure aC where
 Kind:Int
 Room:Int
 No:Int
 Sum:Int
 deriving Inhabited
def aC.cells (x:aC):List D:=[.int .i64 x.Kind,.int .i64 x.Room,.int .i64 x.No,.int .i64 x.Sum]
theorem aC.sized (xs:List aC):sized 4 (cM aC.cells xs) = true:=pT _ _ (fun x=>by rfl) xs
theorem aC.len (x:aC):x.cells.length = 4:=rfl
theorem aC.size {β:Type} (x:aC) (y:Option β):sL x.cells 4 y = y:=rfl
theorem aC.eq1 {β:Type} (x:aC) (ks:List Nat) (ys:List V) (k:Bool→Option β):w8 ks (bQ x.cells) ys k = w8 ks [.d (.int .i64 x.Kind),.d (.int .i64 x.Room),.d (.int .i64 x.No),.d (.int .i64 x.Sum)] ys k:=rfl
theorem aC.eq2 {β:Type} (x:aC) (ks:List Nat) (ys:List V) (k:Bool→Option β):w8 ks ys (bQ x.cells) k = w8 ks ys [.d (.int .i64 x.Kind),.d (.int .i64 x.Room),.d (.int .i64 x.No),.d (.int .i64 x.Sum)] k:=rfl
theorem aC.put {β:Type} (x:aC) (id:Nat) (cs:List V) (hc:cs.length = 4) (kw:V→List (Nat × Option aK)→Option β):n8 4 0 id (nS x.cells) (some (.box cs)) kw = kw .any [(id,some (.box (bQ x.cells)))]:=oH 4 id _ rfl cs hc
theorem aC.get0 {β:Type} (x:aC) (k:D→Option β):hU x.cells 0 k = k (.int .i64 x.Kind):=rfl
theorem aC.get1 {β:Type} (x:aC) (k:D→Option β):hU x.cells 1 k = k (.int .i64 x.Room):=rfl
theorem aC.get2 {β:Type} (x:aC) (k:D→Option β):hU x.cells 2 k = k (.int .i64 x.No):=rfl
theorem aC.get3 {β:Type} (x:aC) (k:D→Option β):hU x.cells 3 k = k (.int .i64 x.Sum):=rfl
theorem aC.sub0_4 {β:Type} (x:aC) (k:List D→Option β):vP x.cells 0 4 k = k x.cells:=rfl
theorem aC.cells_mk (f0:Int) (f1:Int) (f2:Int) (f3:Int):aC.cells (aC.mk f0 f1 f2 f3) = [.int .i64 f0,.int .i64 f1,.int .i64 f2,.int .i64 f3]:=rfl
structure aE where
 currency:Int
 due:Int
 deriving Inhabited
def aE.cells (x:aE):List D:=[.int .i64 x.currency,.int .i64 x.due]
theorem aE.sized (xs:List aE):sized 2 (cM aE.cells xs) = true:=pT _ _ (fun x=>by rfl) xs
theorem aE.len (x:aE):x.cells.length = 2:=rfl
theorem aE.size {β:Type} (x:aE) (y:Option β):sL x.cells 2 y = y:=rfl
theorem aE.eq1 {β:Type} (x:aE) (ks:List Nat) (ys:List V) (k:Bool→Option β):w8 ks (bQ x.cells) ys k = w8 ks [.d (.int .i64 x.currency),.d (.int .i64 x.due)] ys k:=rfl
theorem aE.eq2 {β:Type} (x:aE) (ks:List Nat) (ys:List V) (k:Bool→Option β):w8 ks ys (bQ x.cells) k = w8 ks ys [.d (.int .i64 x.currency),.d (.int .i64 x.due)] k:=rfl
theorem aE.put {β:Type} (x:aE) (id:Nat) (cs:List V) (hc:cs.length = 2) (kw:V→List (Nat × Option aK)→Option β):n8 2 0 id (nS x.cells) (some (.box cs)) kw = kw .any [(id,some (.box (bQ x.cells)))]:=oH 2 id _ rfl cs hc
theorem aE.get0 {β:Type} (x:aE) (k:D→Option β):hU x.cells 0 k = k (.int .i64 x.currency):=rfl
theorem aE.get1 {β:Type} (x:aE) (k:D→Option β):hU x.cells 1 k = k (.int .i64 x.due):=rfl
theorem aE.sub0_2 {β:Type} (x:aE) (k:List D→Option β):vP x.cells 0 2 k = k x.cells:=rfl
theorem aE.cells_mk (f0:Int) (f1:Int):aE.cells (aE.mk f0 f1) = [.int .i64 f0,.int .i64 f1]:=rfl
structure aM where
 From:Int
 To:Int
 Sum:Int
 deriving Inhabited
def aM.cells (x:aM):List D:=[.int .i64 x.From,.int .i64 x.To,.int .i64 x.Sum]
theorem aM.sized (xs:List aM):sized 3 (cM aM.cells xs) = true:=pT _ _ (fun x=>by rfl) xs
theorem aM.len (x:aM):x.cells.length = 3:=rfl
theorem aM.size {β:Type} (x:aM) (y:Option β):sL x.cells 3 y = y:=rfl
theorem aM.put {β:Type} (x:aM) (id:Nat) (cs:List V) (hc:cs.length = 3) (kw:V→List (Nat × Option aK)→Option β):n8 3 0 id (nS x.cells) (some (.box cs)) kw = kw .any [(id,some (.box (bQ x.cells)))]:=oH 3 id _ rfl cs hc
theorem aM.get0 {β:Type} (x:aM) (k:D→Option β):hU x.cells 0 k = k (.int .i64 x.From):=rfl
theorem aM.get1 {β:Type} (x:aM) (k:D→Option β):hU x.cells 1 k = k (.int .i64 x.To):=rfl
theorem aM.get2 {β:Type} (x:aM) (k:D→Option β):hU x.cells 2 k = k (.int .i64 x.Sum):=rfl
theorem aM.sub0_3 {β:Type} (x:aM) (k:List D→Option β):vP x.cells 0 3 k = k x.cells:=rfl
theorem aM.cells_mk (f0:Int) (f1:Int) (f2:Int):aM.cells (aM.mk f0 f1 f2) = [.int .i64 f0,.int .i64 f1,.int .i64 f2]:=rfl
structure aB where
 due:Int
 from_:Int
 to:Int
 cost:Int
 most:Int
 back:Bool
 deriving Inhabited
def aB.cells (x:aB):List D:=[.int .i64 x.due,.int .i64 x.from_,.int .i64 x.to,.int .i64 x.cost,.int .i64 x.most,.bool x.back]
theorem aB.sized (xs:List aB):sized 6 (cM aB.cells xs) = true:=pT _ _ (fun x=>by rfl) xs
theorem aB.len (x:aB):x.cells.length = 6:=rfl
theorem aB.size {β:Type} (x:aB) (y:Option β):sL x.cells 6 y = y:=rfl
theorem aB.put {β:Type} (x:aB) (id:Nat) (cs:List V) (hc:cs.length = 6) (kw:V→List (Nat × Option aK)→Option β):n8 6 0 id (nS x.cells) (some (.box cs)) kw = kw .any [(id,some (.box (bQ x.cells)))]:=oH 6 id _ rfl cs hc
theorem aB.rset {β:Type} (x:aB) (off:Nat) (d:D) (ds:List D) (n:Nat) (k:List D→Option β):jO x.cells off (d :: ds) n k = jO [.int .i64 x.due,.int .i64 x.from_,.int .i64 x.to,.int .i64 x.cost,.int .i64 x.most,.bool x.back] off (d :: ds) n k:=rfl
theorem aB.get0 {β:Type} (x:aB) (k:D→Option β):hU x.cells 0 k = k (.int .i64 x.due):=rfl
theorem aB.get1 {β:Type} (x:aB) (k:D→Option β):hU x.cells 1 k = k (.int .i64 x.from_):=rfl
theorem aB.get2 {β:Type} (x:aB) (k:D→Option β):hU x.cells 2 k = k (.int .i64 x.to):=rfl
theorem aB.get3 {β:Type} (x:aB) (k:D→Option β):hU x.cells 3 k = k (.int .i64 x.cost):=rfl
theorem aB.get4 {β:Type} (x:aB) (k:D→Option β):hU x.cells 4 k = k (.int .i64 x.most):=rfl
theorem aB.get5 {β:Type} (x:aB) (k:D→Option β):hU x.cells 5 k = k (.bool x.back):=rfl
theorem aB.sub0_6 {β:Type} (x:aB) (k:List D→Option β):vP x.cells 0 6 k = k x.cells:=rfl
theorem aB.cells_mk (f0:Int) (f1:Int) (f2:Int) (f3:Int) (f4:Int) (f5:Bool):aB.cells (aB.mk f0 f1 f2 f3 f4 f5) = [.int .i64 f0,.int .i64 f1,.int .i64 f2,.int .i64 f3,.int .i64 f4,.bool f5]:=rfl
structure aD where
 c:Int
 steps:Int
 fine:Bool
 deriving Inhabited
def aD.cells (x:aD):List D:=[.int .i64 x.c,.int .i64 x.steps,.bool x.fine]
theorem aD.sized (xs:List aD):sized 3 (cM aD.cells xs) = true:=pT _ _ (fun x=>by rfl) xs
theorem aD.len (x:aD):x.cells.length = 3:=rfl
theorem aD.put {β:Type} (x:aD) (id:Nat) (cs:List V) (hc:cs.length = 3) (kw:V→List (Nat × Option aK)→Option β):n8 3 0 id (nS x.cells) (some (.box cs)) kw = kw .any [(id,some (.box (bQ x.cells)))]:=oH 3 id _ rfl cs hc
theorem aD.rset {β:Type} (x:aD) (off:Nat) (d:D) (ds:List D) (n:Nat) (k:List D→Option β):jO x.cells off (d :: ds) n k = jO [.int .i64 x.c,.int .i64 x.steps,.bool x.fine] off (d :: ds) n k:=rfl
theorem aD.rfull {β:Type} (x y:aD) (k:List D→Option β):jO x.cells 0 y.cells 3 k = k y.cells:=by unfold jO; exact (if_pos ⟨rfl,Nat.le_refl _⟩).trans rfl
theorem aD.get0 {β:Type} (x:aD) (k:D→Option β):hU x.cells 0 k = k (.int .i64 x.c):=rfl
theorem aD.get1 {β:Type} (x:aD) (k:D→Option β):hU x.cells 1 k = k (.int .i64 x.steps):=rfl
theorem aD.get2 {β:Type} (x:aD) (k:D→Option β):hU x.cells 2 k = k (.bool x.fine):=rfl
theorem aD.sub0_3 {β:Type} (x:aD) (k:List D→Option β):vP x.cells 0 3 k = k x.cells:=rfl
theorem aD.cells_mk (f0:Int) (f1:Int) (f2:Bool):aD.cells (aD.mk f0 f1 f2) = [.int .i64 f0,.int .i64 f1,.bool f2]:=rfl
theorem aIG {β:Type} (x:Int) (k:D→Option β):hU (cI x) 0 k = k (.int .i64 x):=rfl
theorem aHi {β:Type} (x:Int) (off:Nat) (d:D) (ds:List D) (n:Nat) (k:List D→Option β):jO (cI x) off (d :: ds) n k = jO [.int .i64 x] off (d :: ds) n k:=rfl
theorem aGR {β:Type} (x:Int) (y:Option β):sL (cI x) 1 y = y:=rfl
theorem aGq {β:Type} (x0:D) (y:Option β):sL [x0] 1 y = y:=rfl
theorem aFz {β:Type} (x0 x1 x2:D) (y:Option β):sL [x0,x1,x2] 3 y = y:=rfl
theorem aHG {β:Type} (x0 x1 x2 x3:D) (y:Option β):sL [x0,x1,x2,x3] 4 y = y:=rfl
theorem aFX {β:Type} (x0 x1 x2 x3 x4 x5:D) (y:Option β):sL [x0,x1,x2,x3,x4,x5] 6 y = y:=rfl
theorem aHt {β:Type} (x0 x1 x2 x3 x4 x5 x6 x7 x8:D) (y:Option β):sL [x0,x1,x2,x3,x4,x5,x6,x7,x8] 9 y = y:=rfl
theorem aII {β:Type} (i:IntKind) (x:Int) (k:D→Option β):hU (cK i x) 0 k = k (.int i x):=rfl
theorem aF0 {β:Type} (i:IntKind) (x:Int) (y:Option β):sL (cK i x) 1 y = y:=rfl
theorem LC {β:Type} {bl:List (Nat × Option aK)} {kw:V→List (Nat × Option aK)→Option β} (bytes d:Nat) (x:V):KU 37 4 bytes d x .nil bl kw = OT 37 4 bytes d x aC.cells [] bl kw:=NK _ _ _ _ _ _ _ _ (fun _=>rfl) rfl
theorem VW {β:Type} {T:u5} {d:Nat} {fr:List (Nat × V)} {bl:List (Nat × Option aK)} {k:V→Option β} {kw:V→List (Nat × Option aK)→Option β} (l cp:dH):tK T d (.makeSlice 3 1 8 [.int .i64 0] l cp) fr bl k kw = dG bl d fun b=>i8 b (dW fr l fun a=>dW fr cp fun b=>aFg 8 a b fun n=>kw (.own d 0) [(d,some (.rows 0 3 1 (cM cI (List.replicate n 0))))]):=aIf 3 1 8 [.int .i64 0] cI (0:Int) rfl l cp
theorem T2 {β:Type} {T:u5} {d:Nat} {fr:List (Nat × V)} {bl:List (Nat × Option aK)} {k:V→Option β} {kw:V→List (Nat × Option aK)→Option β} (l cp:dH):tK T d (.makeSlice 89 3 24 [.int .i64 0,.int .i64 0,.bool false] l cp) fr bl k kw = dG bl d fun b=>i8 b (dW fr l fun a=>dW fr cp fun b=>aFg 24 a b fun n=>kw (.own d 0) [(d,some (.rows 0 89 3 (cM aD.cells (List.replicate n (aD.mk 0 0 false)))))]):=aIf 89 3 24 [.int .i64 0,.int .i64 0,.bool false] aD.cells ((aD.mk 0 0 false):aD) rfl l cp
theorem T0 {β:Type} (k:List (List D)→Option β):NJ 3 [] k = k (cM cI ([]:List Int)):=rfl
theorem P1 {β:Type} (a0:Int) (k:List (List D)→Option β):NJ 3 [[.int .i64 a0]] k = k (cM cI ([a0]:List Int)):=rfl
theorem PK {β:Type} (k:List (List D)→Option β):NJ 32 [] k = k (cM aA.cells ([]:List aA)):=rfl
theorem GM {β:Type} (a0_0:Int) (a0_1:Int) (a0_2:Int) (a0_3:Int) (a0_4:Int) (a0_5:Int) (a0_6:Int) (a0_7:Int) (a0_8:Int) (a1_0:Int) (a1_1:Int) (a1_2:Int) (a1_3:Int) (a1_4:Int) (a1_5:Int) (a1_6:Int) (a1_7:Int) (a1_8:Int) (a2_0:Int) (a2_1:Int) (a2_2:Int) (a2_3:Int) (a2_4:Int) (a2_5:Int) (a2_6:Int) (a2_7:Int) (a2_8:Int) (a3_0:Int) (a3_1:Int) (a3_2:Int) (a3_3:Int) (a3_4:Int) (a3_5:Int) (a3_6:Int) (a3_7:Int) (a3_8:Int) (k:List (List D)→Option β):NJ 32 [[.int .i64 a0_0,.int .i64 a0_1,.int .i64 a0_2,.int .i64 a0_3,.int .i64 a0_4,.int .i64 a0_5,.int .i64 a0_6,.int .i64 a0_7,.int .i64 a0_8],[.int .i64 a1_0,.int .i64 a1_1,.int .i64 a1_2,.int .i64 a1_3,.int .i64 a1_4,.int .i64 a1_5,.int .i64 a1_6,.int .i64 a1_7,.int .i64 a1_8],[.int .i64 a2_0,.int .i64 a2_1,.int .i64 a2_2,.int .i64 a2_3,.int .i64 a2_4,.int .i64 a2_5,.int .i64 a2_6,.int .i64 a2_7,.int .i64 a2_8],[.int .i64 a3_0,.int .i64 a3_1,.int .i64 a3_2,.int .i64 a3_3,.int .i64 a3_4,.int .i64 a3_5,.int .i64 a3_6,.int .i64 a3_7,.int .i64 a3_8]] k = k (cM aA.cells ([(aA.mk a0_0 a0_1 a0_2 a0_3 a0_4 a0_5 a0_6 a0_7 a0_8),(aA.mk a1_0 a1_1 a1_2 a1_3 a1_4 a1_5 a1_6 a1_7 a1_8),(aA.mk a2_0 a2_1 a2_2 a2_3 a2_4 a2_5 a2_6 a2_7 a2_8),(aA.mk a3_0 a3_1 a3_2 a3_3 a3_4 a3_5 a3_6 a3_7 a3_8)]:List aA)):=rfl
theorem MT {β:Type} (a0_0:Int) (a0_1:Int) (a0_2:Int) (a0_3:Int) (a0_4:Int) (a0_5:Int) (a0_6:Int) (a0_7:Int) (a0_8:Int) (k:List (List D)→Option β):NJ 32 [[.int .i64 a0_0,.int .i64 a0_1,.int .i64 a0_2,.int .i64 a0_3,.int .i64 a0_4,.int .i64 a0_5,.int .i64 a0_6,.int .i64 a0_7,.int .i64 a0_8]] k = k (cM aA.cells ([(aA.mk a0_0 a0_1 a0_2 a0_3 a0_4 a0_5 a0_6 a0_7 a0_8)]:List aA)):=rfl
theorem MP {β:Type} (a0:aA) (k:List (List D)→Option β):NJ 32 [aA.cells a0] k = k (cM aA.cells ([a0]:List aA)):=rfl
theorem QM {β:Type} (k:List (List D)→Option β):NJ 37 [] k = k (cM aC.cells ([]:List aC)):=rfl
theorem I8 {β:Type} (a0_0:Int) (a0_1:Int) (a0_2:Int) (a0_3:Int) (a1_0:Int) (a1_1:Int) (a1_2:Int) (a1_3:Int) (a2_0:Int) (a2_1:Int) (a2_2:Int) (a2_3:Int) (k:List (List D)→Option β):NJ 37 [[.int .i64 a0_0,.int .i64 a0_1,.int .i64 a0_2,.int .i64 a0_3],[.int .i64 a1_0,.int .i64 a1_1,.int .i64 a1_2,.int .i64 a1_3],[.int .i64 a2_0,.int .i64 a2_1,.int .i64 a2_2,.int .i64 a2_3]] k = k (cM aC.cells ([(aC.mk a0_0 a0_1 a0_2 a0_3),(aC.mk a1_0 a1_1 a1_2 a1_3),(aC.mk a2_0 a2_1 a2_2 a2_3)]:List aC)):=rfl
theorem MY {β:Type} (a0_0:Int) (a0_1:Int) (a0_2:Int) (a0_3:Int) (k:List (List D)→Option β):NJ 37 [[.int .i64 a0_0,.int .i64 a0_1,.int .i64 a0_2,.int .i64 a0_3]] k = k (cM aC.cells ([(aC.mk a0_0 a0_1 a0_2 a0_3)]:List aC)):=rfl
theorem PS {β:Type} (k:List (List D)→Option β):NJ 43 [] k = k (cM cI ([]:List Int)):=rfl
theorem MG {β:Type} (a0:Int) (k:List (List D)→Option β):NJ 43 [[.int .i64 a0]] k = k (cM cI ([a0]:List Int)):=rfl
theorem PL {β:Type} (k:List (List D)→Option β):NJ 46 [] k = k (cM aM.cells ([]:List aM)):=rfl
theorem MN {β:Type} (a0_0:Int) (a0_1:Int) (a0_2:Int) (k:List (List D)→Option β):NJ 46 [[.int .i64 a0_0,.int .i64 a0_1,.int .i64 a0_2]] k = k (cM aM.cells ([(aM.mk a0_0 a0_1 a0_2)]:List aM)):=rfl
theorem QC {β:Type} (k:List (List D)→Option β):NJ 73 [] k = k (cM aB.cells ([]:List aB)):=rfl
theorem ME {β:Type} (a0_0:Int) (a0_1:Int) (a0_2:Int) (a0_3:Int) (a0_4:Int) (a0_5:Bool) (k:List (List D)→Option β):NJ 73 [[.int .i64 a0_0,.int .i64 a0_1,.int .i64 a0_2,.int .i64 a0_3,.int .i64 a0_4,.bool a0_5]] k = k (cM aB.cells ([(aB.mk a0_0 a0_1 a0_2 a0_3 a0_4 a0_5)]:List aB)):=rfl
theorem MS {β:Type} (a0:aB) (k:List (List D)→Option β):NJ 73 [aB.cells a0] k = k (cM aB.cells ([a0]:List aB)):=rfl
theorem UG {β:Type} (xs:List Int) (i:Nat) (a:Int) (k:List (List D)→Option β):uV 3 (cM cI xs) i [.int .i64 a] k = k (cM cI (xs.set i a)):=wO 3 cI xs i a k
theorem SV {β:Type} (xs:List aA) (i:Nat) (a_0:Int) (a_1:Int) (a_2:Int) (a_3:Int) (a_4:Int) (a_5:Int) (a_6:Int) (a_7:Int) (a_8:Int) (k:List (List D)→Option β):uV 32 (cM aA.cells xs) i [.int .i64 a_0,.int .i64 a_1,.int .i64 a_2,.int .i64 a_3,.int .i64 a_4,.int .i64 a_5,.int .i64 a_6,.int .i64 a_7,.int .i64 a_8] k = k (cM aA.cells (xs.set i (aA.mk a_0 a_1 a_2 a_3 a_4 a_5 a_6 a_7 a_8))):=wO 32 aA.cells xs i (aA.mk a_0 a_1 a_2 a_3 a_4 a_5 a_6 a_7 a_8) k
theorem SI {β:Type} (xs:List aB) (i:Nat) (a_0:Int) (a_1:Int) (a_2:Int) (a_3:Int) (a_4:Int) (a_5:Bool) (k:List (List D)→Option β):uV 73 (cM aB.cells xs) i [.int .i64 a_0,.int .i64 a_1,.int .i64 a_2,.int .i64 a_3,.int .i64 a_4,.bool a_5] k = k (cM aB.cells (xs.set i (aB.mk a_0 a_1 a_2 a_3 a_4 a_5))):=wO 73 aB.cells xs i (aB.mk a_0 a_1 a_2 a_3 a_4 a_5) k
theorem QX {β:Type} (xs:List aD) (i:Nat) (a_0:Int) (a_1:Int) (a_2:Bool) (k:List (List D)→Option β):uV 89 (cM aD.cells xs) i [.int .i64 a_0,.int .i64 a_1,.bool a_2] k = k (cM aD.cells (xs.set i (aD.mk a_0 a_1 a_2))):=wO 89 aD.cells xs i (aD.mk a_0 a_1 a_2) k
/- all rules as one -/
set_option linter.defProp false
def DN:=aN (aN (aN (aN (aN (aN (aN (aN @aJq @aC1) (aN @aC3 (aN @aFw @aHy))) (aN (aN @aFC @W6) (aN @aDf (aN @aCu @VO)))) (aN (aN (aN @SM @aBD) (aN @S3 (aN @ZY @aHm))) (aN (aN @aJz @aDy) (aN @aDw (aN @aBu @VE))))) (aN (aN (aN (aN @aCU @aGM) (aN @ZP (aN @aAj @V9))) (aN (aN @aBT @aBC) (aN @aAC (aN @aDA @QK)))) (aN (aN (aN @M5 @aBa) (aN @MV (aN @aAB @WE))) (aN (aN @U9 (aN @RK @aCm)) (aN @Z1 (aN @VZ @Q0)))))) (aN (aN (aN (aN (aN @aAy @aFK) (aN @aEK (aN @aEi @LM))) (aN (aN @aHV @aHx) (aN @aJd (aN @TA @aCW)))) (aN (aN (aN @aAS @WF) (aN @aBm (aN @aEj @Y2))) (aN (aN @WD @aFy) (aN @aHX (aN @W1 @VQ))))) (aN (aN (aN (aN @aEb @UV) (aN @aBv (aN @ZU @aHF))) (aN (aN @S0 @aBz) (aN @aFa (aN @aEJ @aE1)))) (aN (aN (aN @aFH @aC7) (aN @aJQ (aN @aIN @aJy))) (aN (aN @aE3 (aN @aEC @aEz)) (aN @aHa (aN @aGg @aGJ))))))) (aN (aN (aN (aN (aN (aN @aAw @XH) (aN @WQ (aN @aEN @aDd))) (aN (aN @WZ @aDL) (aN @aAZ (aN @aBU @Y1)))) (aN (aN (aN @aCf @aFc) (aN @aHz (aN @aHP @aIV))) (aN (aN @aJr @aCV) (aN @ZQ (aN @aFY @Z8))))) (aN (aN (aN (aN @TS @aBh) (aN @PH (aN @aGF @aGD))) (aN (aN @aCY @aB0) (aN @aDp (aN @aFv @aIq)))) (aN (aN (aN @aG1 @aFx) (aN @aEq (aN @aAV @aDJ))) (aN (aN @aAp (aN @aIA @aCL)) (aN @aF2 (aN @aHO @aHr)))))) (aN (aN (aN (aN (aN @MJ @M2) (aN @Z7 (aN @UM @J3))) (aN (aN @aDi @TJ) (aN @aGe (aN @aCC @UQ)))) (aN (aN (aN @S8 @U2) (aN @ZL (aN @VB @US))) (aN (aN @SE (aN @aAt @WR)) (aN @aGO (aN @aHe @aHE))))) (aN (aN (aN (aN @aBc @aBb) (aN @aEu (aN @aEL @aHl))) (aN (aN @aB7 @aB9) (aN @aD8 (aN @QY @aFS)))) (aN (aN (aN @aFU @SH) (aN @WS (aN @VF @aCr))) (aN (aN @aDM (aN @aBp @QQ)) (aN @aHD (aN @aGd @S5)))))))) (aN (aN (aN (aN (aN (aN (aN @aG7 @aGN) (aN @aKw (aN @aHn @QL))) (aN (aN @TQ @Q5) (aN @wO (aN @aJG @aGb)))) (aN (aN (aN @aKc @aKa) (aN @aKS (aN @aB1 @aBX))) (aN (aN @aEr @aDE) (aN @aCE (aN @aEP @aCF))))) (aN (aN (aN (aN @aCI @aCj) (aN @aFd (aN @aFB @aHR))) (aN (aN @aDF @Y7) (aN @M9 (aN @HS @aHI)))) (aN (aN (aN @aEB @UL) (aN @aIt (aN @aJN @aBg))) (aN (aN @aAf (aN @YH @aDU)) (aN @XO (aN @ZD @W2)))))) (aN (aN (aN (aN (aN @aGw @aDg) (aN @aED (aN @ZO @aGA))) (aN (aN @aI3 @aDK) (aN @aCT (aN @RA @aBe)))) (aN (aN (aN @aIB @SG) (aN @aAa (aN @aIJ @aI4))) (aN (aN @aFW (aN @aD2 @aAr)) (aN @VR (aN @aFs @aJt))))) (aN (aN (aN (aN @aJp @aIr) (aN @ZW (aN @VD @aBw))) (aN (aN @U7 @aGx) (aN @aHT (aN @aID @aER)))) (aN (aN (aN @M0 @LY) (aN @aE9 (aN @aA4 @aAT))) (aN (aN @W9 (aN @Y9 @RV)) (aN @Q4 (aN @UP @aEH))))))) (aN (aN (aN (aN (aN (aN @aDs @UZ) (aN @SB (aN @U0 @MM))) (aN (aN @Q9 @aIR) (aN @aEW (aN @aD6 @aAY)))) (aN (aN (aN @aGy @aFi) (aN @aIx (aN @ZS @aCX))) (aN (aN @aI0 @aJf) (aN @aJg (aN @aA3 @R6))))) (aN (aN (aN (aN @aAd @aAQ) (aN @XP (aN @TC @aIQ))) (aN (aN @aJb @VU) (aN @aDD (aN @aGK @aDb)))) (aN (aN (aN @aB5 @aJM) (aN @aIw (aN @aC6 @aAu))) (aN (aN @aBk (aN @aBK @aGh)) (aN @aHf (aN @UF @aBV)))))) (aN (aN (aN (aN (aN @VA @V2) (aN @aDW (aN @aGE @aJI))) (aN (aN @W4 @SS) (aN @aAF (aN @W5 @aDX)))) (aN (aN (aN @aBZ @aF7) (aN @aCz (aN @aCG @aJk))) (aN (aN @aAc (aN @aAq @aAz)) (aN @aDq (aN @aBj @PI))))) (aN (aN (aN (aN @V5 @SZ) (aN @WU (aN @aAv @ZT))) (aN (aN @aAb @aBt) (aN @aBA (aN @aAe @aDI)))) (aN (aN (aN @aBl @V8) (aN @aEG (aN @aCd @XF))) (aN (aN @XN (aN @aA8 @XM)) (aN @aAL (aN @T5 @aEA))))))))
def DR:=aN (aN (aN (aN (aN (aN @aA.size @aA.eq1) (aN @aA.eq2 (aN @aA.put @aA.rset))) (aN (aN @aA.rfull (aN @aA.get0 @aA.get1)) (aN @aA.get2 (aN @aA.get3 @aA.get4)))) (aN (aN (aN @aA.get5 @aA.get6) (aN @aA.get7 (aN @aA.get8 @aA.sub0_9))) (aN (aN @aC.size (aN @aC.eq1 @aC.eq2)) (aN @aC.put (aN @aC.get0 @aC.get1))))) (aN (aN (aN (aN @aC.get2 @aC.get3) (aN @aC.sub0_4 (aN @aE.size @aE.eq1))) (aN (aN @aE.eq2 (aN @aE.put @aE.get0)) (aN @aE.get1 (aN @aE.sub0_2 @aM.size)))) (aN (aN (aN @aM.put @aM.get0) (aN @aM.get1 (aN @aM.get2 @aM.sub0_3))) (aN (aN @aB.size (aN @aB.put @aB.rset)) (aN @aB.get0 (aN @aB.get1 @aB.get2)))))) (aN (aN (aN (aN (aN @aB.get3 @aB.get4) (aN @aB.get5 (aN @aB.sub0_6 @aD.put))) (aN (aN @aD.rset (aN @aD.rfull @aD.get0)) (aN @aD.get1 (aN @aD.get2 @aD.sub0_3)))) (aN (aN (aN @aIG @aHi) (aN @aGR (aN @aGq @aFz))) (aN (aN @aHG (aN @aFX @aHt)) (aN @aII (aN @aF0 @LC))))) (aN (aN (aN (aN @VW @T2) (aN @T0 (aN @P1 @PK))) (aN (aN @GM (aN @MT @MP)) (aN @QM (aN @I8 @MY)))) (aN (aN (aN @PS @MG) (aN @PL (aN @MN @QC))) (aN (aN @ME (aN @MS @UG)) (aN @SV (aN @SI @QX))))))
def DQ:=aN (aN (aN (aN @aA.len @aC.len) (aN @aE.len @aM.len)) (aN (aN @aB.len @aD.len) (aN @aA.cells_mk (aN @aC.cells_mk @aE.cells_mk)))) (aN (aN (aN @aM.cells_mk @aB.cells_mk) (aN @aD.cells_mk @aA.sized)) (aN (aN @aC.sized @aE.sized) (aN @aM.sized (aN @aB.sized @aD.sized))))
def DP:=aN @Option.some.injEq (aN @Bool.and_true @List.cons_ne_nil)
end Go.Proofs.Ytiimibimkpimbaa
