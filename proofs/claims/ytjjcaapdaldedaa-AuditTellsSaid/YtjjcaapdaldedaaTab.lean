/- The table. Printed by a program. -/
import Derived.Test.YtjjcaapdaldedaaVmH
import Derived.Test.YtjjcaapdaldedaaVmF
import Derived.Test.YtjjcaapdaldedaaVmT
import Derived.Test.YtjjcaapdaldedaaCode1
import Derived.Test.YtjjcaapdaldedaaCode2
set_option linter.unusedVariables false
set_option linter.unusedSimpArgs false
namespace Go.Proofs.Ytjjcaapdaldedaa
open Vm
open Go.RowKit
def o40:List D->Option D:=Y3 3 1 8
def TL:List (Nat × Option Def):=[(15,some (.code aQe)),(16,some (.code aPC)),(28,some (.code aPD)),(71,some (.code aPs)),(79,some (.code aPE)),(72,some (.code aP2)),(57,some (.code aQr)),(30,some (.code aP0)),(29,some (.code aQz)),(33,some (.code aPS)),(58,some (.code aPx)),(32,some (.code aPK)),(31,some (.code aPX)),(34,some (.code aQX)),(36,some (.code aPL)),(35,some (.code aQh)),(37,some (.code aQc)),(38,some (.code aQx)),(18,some (.code aPT)),(43,some (.code aPp)),(54,some (.code aQL)),(68,some (.code aQj)),(53,some (.code aQE)),(25,some (.code aQl)),(60,some (.code aQO)),(44,some (.code aQM)),(80,some (.code aPu)),(73,some (.code aQT)),(59,some (.code aQZ)),(41,some (.code aQi)),(19,some (.code aPF)),(8,some (.code sf8)),(27,some (.code aQy)),(22,some (.code aQD)),(10,some (.code aQS)),(67,some (.code aPv)),(77,some (.code aQK)),(66,some (.code aQQ)),(51,some (.code aPt)),(52,some (.code aQu)),(23,some (.code aQC)),(24,some (.code aPI)),(11,some (.code aQG)),(13,some (.code aQw)),(6,some (.code sf6)),(17,some (.code aP4)),(7,some (.code sf7)),(81,some (.code aPB)),(74,some (.code aPA)),(75,some (.code aPU)),(61,some (.code aQt)),(63,some (.code aQB)),(76,some (.code aP6)),(62,some (.code aQW)),(45,some (.code aQU)),(46,some (.code aQv)),(64,some (.code aQY)),(47,some (.code aPR)),(48,some (.code aQm)),(49,some (.code aQa)),(20,some (.code aQP)),(69,some (.code aPG)),(78,some (.code aP7)),(70,some (.code aPP)),(55,some (.code aP3)),(56,some (.code aPY)),(26,some (.code aPy)),(65,some (.code aP9)),(50,some (.code aQJ)),(21,some (.code aPQ)),(9,some (.code sf9)),(12,some (.code aPJ)),(14,some (.code aP8)),(3,some (.code sf3)),(40,some (.told o40))]
def TT:CO:=fun f=>lk TL none f
structure a7 where
 Name:ByteArray
 Order:Int
 Currency:Int
 Rest:List Int
 Feasts:List Int
 Shut:List Int
 deriving Inhabited
def a7.cells (x:a7):List D:=[.str x.Name,.int .i64 x.Order,.int .i64 x.Currency,.sl (cM cI x.Rest),.sl (cM cI x.Feasts),.sl (cM cI x.Shut)]
theorem a7.sized (xs:List a7):sized 6 (cM a7.cells xs) = true:=kG _ _ (fun x=>by rfl) xs
theorem a7.len (x:a7):x.cells.length = 6:=rfl
theorem a7.size {β:Type} (x:a7) (y:Option β):uQ x.cells 6 y = y:=rfl
theorem a7.put {β:Type} (x:a7) (id:Nat) (cs:List V) (hc:cs.length = 6) (kw:V->List (Nat × Option aI)->Option β):gK 6 0 id (fL x.cells) (some (.box cs)) kw = kw .any [(id,some (.box (aK x.cells)))]:=iC 6 id _ rfl cs hc
theorem a7.get0 {β:Type} (x:a7) (k:D->Option β):dT x.cells 0 k = k (.str x.Name):=rfl
theorem a7.get1 {β:Type} (x:a7) (k:D->Option β):dT x.cells 1 k = k (.int .i64 x.Order):=rfl
theorem a7.get2 {β:Type} (x:a7) (k:D->Option β):dT x.cells 2 k = k (.int .i64 x.Currency):=rfl
theorem a7.get3 {β:Type} (x:a7) (k:D->Option β):dT x.cells 3 k = k (.sl (cM cI x.Rest)):=rfl
theorem a7.get4 {β:Type} (x:a7) (k:D->Option β):dT x.cells 4 k = k (.sl (cM cI x.Feasts)):=rfl
theorem a7.get5 {β:Type} (x:a7) (k:D->Option β):dT x.cells 5 k = k (.sl (cM cI x.Shut)):=rfl
theorem a7.sub0_6 {β:Type} (x:a7) (k:List D->Option β):zT x.cells 0 6 k = k x.cells:=rfl
theorem a7.cells_mk (f0:ByteArray) (f1 f2:Int) (f3 f4 f5:List Int):a7.cells (a7.mk f0 f1 f2 f3 f4 f5) = [.str f0,.int .i64 f1,.int .i64 f2,.sl (cM cI f3),.sl (cM cI f4),.sl (cM cI f5)]:=rfl
structure bU where
 Grade:Int
 deriving Inhabited
def bU.cells (x:bU):List D:=[.int .i64 x.Grade]
theorem bU.sized (xs:List bU):sized 1 (cM bU.cells xs) = true:=kG _ _ (fun x=>by rfl) xs
theorem bU.len (x:bU):x.cells.length = 1:=rfl
theorem bU.size {β:Type} (x:bU) (y:Option β):uQ x.cells 1 y = y:=rfl
theorem bU.put {β:Type} (x:bU) (id:Nat) (cs:List V) (hc:cs.length = 1) (kw:V->List (Nat × Option aI)->Option β):gK 1 0 id (fL x.cells) (some (.box cs)) kw = kw .any [(id,some (.box (aK x.cells)))]:=iC 1 id _ rfl cs hc
theorem bU.get0 {β:Type} (x:bU) (k:D->Option β):dT x.cells 0 k = k (.int .i64 x.Grade):=rfl
theorem bU.sub0_1 {β:Type} (x:bU) (k:List D->Option β):zT x.cells 0 1 k = k x.cells:=rfl
theorem bU.cells_mk (f0:Int):bU.cells (bU.mk f0) = [.int .i64 f0]:=rfl
structure cF where
 Name:ByteArray
 City:Int
 Group:Int
 deriving Inhabited
def cF.cells (x:cF):List D:=[.str x.Name,.int .i64 x.City,.int .i64 x.Group]
theorem cF.sized (xs:List cF):sized 3 (cM cF.cells xs) = true:=kG _ _ (fun x=>by rfl) xs
theorem cF.len (x:cF):x.cells.length = 3:=rfl
theorem cF.size {β:Type} (x:cF) (y:Option β):uQ x.cells 3 y = y:=rfl
theorem cF.put {β:Type} (x:cF) (id:Nat) (cs:List V) (hc:cs.length = 3) (kw:V->List (Nat × Option aI)->Option β):gK 3 0 id (fL x.cells) (some (.box cs)) kw = kw .any [(id,some (.box (aK x.cells)))]:=iC 3 id _ rfl cs hc
theorem cF.get0 {β:Type} (x:cF) (k:D->Option β):dT x.cells 0 k = k (.str x.Name):=rfl
theorem cF.get1 {β:Type} (x:cF) (k:D->Option β):dT x.cells 1 k = k (.int .i64 x.City):=rfl
theorem cF.get2 {β:Type} (x:cF) (k:D->Option β):dT x.cells 2 k = k (.int .i64 x.Group):=rfl
theorem cF.sub0_3 {β:Type} (x:cF) (k:List D->Option β):zT x.cells 0 3 k = k x.cells:=rfl
theorem cF.cells_mk (f0:ByteArray) (f1 f2:Int):cF.cells (cF.mk f0 f1 f2) = [.str f0,.int .i64 f1,.int .i64 f2]:=rfl
structure aM where
 Ask:Int
 By:Int
 Whole:Bool
 deriving Inhabited
def aM.cells (x:aM):List D:=[.int .i64 x.Ask,.int .i64 x.By,.bool x.Whole]
theorem aM.sized (xs:List aM):sized 3 (cM aM.cells xs) = true:=kG _ _ (fun x=>by rfl) xs
theorem aM.len (x:aM):x.cells.length = 3:=rfl
theorem aM.size {β:Type} (x:aM) (y:Option β):uQ x.cells 3 y = y:=rfl
theorem aM.put {β:Type} (x:aM) (id:Nat) (cs:List V) (hc:cs.length = 3) (kw:V->List (Nat × Option aI)->Option β):gK 3 0 id (fL x.cells) (some (.box cs)) kw = kw .any [(id,some (.box (aK x.cells)))]:=iC 3 id _ rfl cs hc
theorem aM.get0 {β:Type} (x:aM) (k:D->Option β):dT x.cells 0 k = k (.int .i64 x.Ask):=rfl
theorem aM.get1 {β:Type} (x:aM) (k:D->Option β):dT x.cells 1 k = k (.int .i64 x.By):=rfl
theorem aM.get2 {β:Type} (x:aM) (k:D->Option β):dT x.cells 2 k = k (.bool x.Whole):=rfl
theorem aM.sub0_3 {β:Type} (x:aM) (k:List D->Option β):zT x.cells 0 3 k = k x.cells:=rfl
theorem aM.cells_mk (f0 f1:Int) (f2:Bool):aM.cells (aM.mk f0 f1 f2) = [.int .i64 f0,.int .i64 f1,.bool f2]:=rfl
structure nW where
 Op:Int
 N:Int
 Args:List (List D)
 deriving Inhabited
def nW.cells (x:nW):List D:=[.int .i64 x.Op,.int .i64 x.N,.sl (cM cD x.Args)]
theorem nW.sized (xs:List nW):sized 3 (cM nW.cells xs) = true:=kG _ _ (fun x=>by rfl) xs
theorem nW.len (x:nW):x.cells.length = 3:=rfl
theorem nW.cells_mk (f0 f1:Int) (f2:List (List D)):nW.cells (nW.mk f0 f1 f2) = [.int .i64 f0,.int .i64 f1,.sl (cM cD f2)]:=rfl
structure a8 where
 Ask:Int
 Term:nW
 deriving Inhabited
def a8.cells (x:a8):List D:=[.int .i64 x.Ask,.int .i64 x.Term.Op,.int .i64 x.Term.N,.sl (cM cD x.Term.Args)]
theorem a8.sized (xs:List a8):sized 4 (cM a8.cells xs) = true:=kG _ _ (fun x=>by rfl) xs
theorem a8.len (x:a8):x.cells.length = 4:=rfl
theorem a8.size {β:Type} (x:a8) (y:Option β):uQ x.cells 4 y = y:=rfl
theorem a8.put {β:Type} (x:a8) (id:Nat) (cs:List V) (hc:cs.length = 4) (kw:V->List (Nat × Option aI)->Option β):gK 4 0 id (fL x.cells) (some (.box cs)) kw = kw .any [(id,some (.box (aK x.cells)))]:=iC 4 id _ rfl cs hc
theorem a8.get0 {β:Type} (x:a8) (k:D->Option β):dT x.cells 0 k = k (.int .i64 x.Ask):=rfl
theorem a8.sub0_4 {β:Type} (x:a8) (k:List D->Option β):zT x.cells 0 4 k = k x.cells:=rfl
theorem a8.cells_mk (f0:Int) (f1:nW):a8.cells (a8.mk f0 f1) = [.int .i64 f0,.int .i64 f1.Op,.int .i64 f1.N,.sl (cM cD f1.Args)]:=rfl
structure aG where
 Name:ByteArray
 Accepts:Bool
 Choices:List aM
 Rules:List a8
 deriving Inhabited
def aG.cells (x:aG):List D:=[.str x.Name,.bool x.Accepts,.sl (cM aM.cells x.Choices),.sl (cM a8.cells x.Rules)]
theorem aG.sized (xs:List aG):sized 4 (cM aG.cells xs) = true:=kG _ _ (fun x=>by rfl) xs
theorem aG.len (x:aG):x.cells.length = 4:=rfl
theorem aG.size {β:Type} (x:aG) (y:Option β):uQ x.cells 4 y = y:=rfl
theorem aG.st_own {β:Type} (x:aG) (i v sz off id:Nat) (kw:V->List (Nat × Option aI)->Option β):gK sz off id (.own i v) (some (.box (aK x.cells))) kw = gK sz off id (.own i v) (some (.box [.d (.str x.Name),.d (.bool x.Accepts),.d (.sl (cM aM.cells x.Choices)),.d (.sl (cM a8.cells x.Rules))])) kw:=rfl
theorem aG.put {β:Type} (x:aG) (id:Nat) (cs:List V) (hc:cs.length = 4) (kw:V->List (Nat × Option aI)->Option β):gK 4 0 id (fL x.cells) (some (.box cs)) kw = kw .any [(id,some (.box (aK x.cells)))]:=iC 4 id _ rfl cs hc
theorem aG.rset {β:Type} (x:aG) (off:Nat) (d:D) (ds:List D) (n:Nat) (k:List D->Option β):qZ x.cells off (d :: ds) n k = qZ [.str x.Name,.bool x.Accepts,.sl (cM aM.cells x.Choices),.sl (cM a8.cells x.Rules)] off (d :: ds) n k:=rfl
theorem aG.get0 {β:Type} (x:aG) (k:D->Option β):dT x.cells 0 k = k (.str x.Name):=rfl
theorem aG.get1 {β:Type} (x:aG) (k:D->Option β):dT x.cells 1 k = k (.bool x.Accepts):=rfl
theorem aG.get2 {β:Type} (x:aG) (k:D->Option β):dT x.cells 2 k = k (.sl (cM aM.cells x.Choices)):=rfl
theorem aG.get3 {β:Type} (x:aG) (k:D->Option β):dT x.cells 3 k = k (.sl (cM a8.cells x.Rules)):=rfl
theorem aG.sub0_4 {β:Type} (x:aG) (k:List D->Option β):zT x.cells 0 4 k = k x.cells:=rfl
theorem aG.cells_mk (f0:ByteArray) (f1:Bool) (f2:List aM) (f3:List a8):aG.cells (aG.mk f0 f1 f2 f3) = [.str f0,.bool f1,.sl (cM aM.cells f2),.sl (cM a8.cells f3)]:=rfl
structure aW where
 From:Int
 To:Int
 Days:Int
 deriving Inhabited
def aW.cells (x:aW):List D:=[.int .i64 x.From,.int .i64 x.To,.int .i64 x.Days]
theorem aW.sized (xs:List aW):sized 3 (cM aW.cells xs) = true:=kG _ _ (fun x=>by rfl) xs
theorem aW.len (x:aW):x.cells.length = 3:=rfl
theorem aW.size {β:Type} (x:aW) (y:Option β):uQ x.cells 3 y = y:=rfl
theorem aW.put {β:Type} (x:aW) (id:Nat) (cs:List V) (hc:cs.length = 3) (kw:V->List (Nat × Option aI)->Option β):gK 3 0 id (fL x.cells) (some (.box cs)) kw = kw .any [(id,some (.box (aK x.cells)))]:=iC 3 id _ rfl cs hc
theorem aW.get0 {β:Type} (x:aW) (k:D->Option β):dT x.cells 0 k = k (.int .i64 x.From):=rfl
theorem aW.get1 {β:Type} (x:aW) (k:D->Option β):dT x.cells 1 k = k (.int .i64 x.To):=rfl
theorem aW.get2 {β:Type} (x:aW) (k:D->Option β):dT x.cells 2 k = k (.int .i64 x.Days):=rfl
theorem aW.sub0_3 {β:Type} (x:aW) (k:List D->Option β):zT x.cells 0 3 k = k x.cells:=rfl
theorem aW.cells_mk (f0 f1 f2:Int):aW.cells (aW.mk f0 f1 f2) = [.int .i64 f0,.int .i64 f1,.int .i64 f2]:=rfl
structure bV where
 From:Int
 To:Int
 Num:Int
 Den:Int
 Since:Int
 deriving Inhabited
def bV.cells (x:bV):List D:=[.int .i64 x.From,.int .i64 x.To,.int .i64 x.Num,.int .i64 x.Den,.int .i64 x.Since]
theorem bV.sized (xs:List bV):sized 5 (cM bV.cells xs) = true:=kG _ _ (fun x=>by rfl) xs
theorem bV.len (x:bV):x.cells.length = 5:=rfl
theorem bV.size {β:Type} (x:bV) (y:Option β):uQ x.cells 5 y = y:=rfl
theorem bV.put {β:Type} (x:bV) (id:Nat) (cs:List V) (hc:cs.length = 5) (kw:V->List (Nat × Option aI)->Option β):gK 5 0 id (fL x.cells) (some (.box cs)) kw = kw .any [(id,some (.box (aK x.cells)))]:=iC 5 id _ rfl cs hc
theorem bV.get0 {β:Type} (x:bV) (k:D->Option β):dT x.cells 0 k = k (.int .i64 x.From):=rfl
theorem bV.get1 {β:Type} (x:bV) (k:D->Option β):dT x.cells 1 k = k (.int .i64 x.To):=rfl
theorem bV.get2 {β:Type} (x:bV) (k:D->Option β):dT x.cells 2 k = k (.int .i64 x.Num):=rfl
theorem bV.get3 {β:Type} (x:bV) (k:D->Option β):dT x.cells 3 k = k (.int .i64 x.Den):=rfl
theorem bV.get4 {β:Type} (x:bV) (k:D->Option β):dT x.cells 4 k = k (.int .i64 x.Since):=rfl
theorem bV.sub0_5 {β:Type} (x:bV) (k:List D->Option β):zT x.cells 0 5 k = k x.cells:=rfl
theorem bV.cells_mk (f0 f1 f2 f3 f4:Int):bV.cells (bV.mk f0 f1 f2 f3 f4) = [.int .i64 f0,.int .i64 f1,.int .i64 f2,.int .i64 f3,.int .i64 f4]:=rfl
structure c9 where
 Order:Int
 From:Int
 To:Int
 deriving Inhabited
def c9.cells (x:c9):List D:=[.int .i64 x.Order,.int .i64 x.From,.int .i64 x.To]
theorem c9.sized (xs:List c9):sized 3 (cM c9.cells xs) = true:=kG _ _ (fun x=>by rfl) xs
theorem c9.len (x:c9):x.cells.length = 3:=rfl
theorem c9.size {β:Type} (x:c9) (y:Option β):uQ x.cells 3 y = y:=rfl
theorem c9.put {β:Type} (x:c9) (id:Nat) (cs:List V) (hc:cs.length = 3) (kw:V->List (Nat × Option aI)->Option β):gK 3 0 id (fL x.cells) (some (.box cs)) kw = kw .any [(id,some (.box (aK x.cells)))]:=iC 3 id _ rfl cs hc
theorem c9.get0 {β:Type} (x:c9) (k:D->Option β):dT x.cells 0 k = k (.int .i64 x.Order):=rfl
theorem c9.get1 {β:Type} (x:c9) (k:D->Option β):dT x.cells 1 k = k (.int .i64 x.From):=rfl
theorem c9.get2 {β:Type} (x:c9) (k:D->Option β):dT x.cells 2 k = k (.int .i64 x.To):=rfl
theorem c9.sub0_3 {β:Type} (x:c9) (k:List D->Option β):zT x.cells 0 3 k = k x.cells:=rfl
theorem c9.cells_mk (f0 f1 f2:Int):c9.cells (c9.mk f0 f1 f2) = [.int .i64 f0,.int .i64 f1,.int .i64 f2]:=rfl
structure aA where
 Currencies:List ByteArray
 Cities:List a7
 Groups:List bU
 Firms:List cF
 Orders:List aG
 Usances:List aW
 Rates:List bV
 Halts:List c9
 deriving Inhabited
def aA.cells (x:aA):List D:=[.sl (cM cS x.Currencies),.sl (cM a7.cells x.Cities),.sl (cM bU.cells x.Groups),.sl (cM cF.cells x.Firms),.sl (cM aG.cells x.Orders),.sl (cM aW.cells x.Usances),.sl (cM bV.cells x.Rates),.sl (cM c9.cells x.Halts)]
theorem aA.sized (xs:List aA):sized 8 (cM aA.cells xs) = true:=kG _ _ (fun x=>by rfl) xs
theorem aA.len (x:aA):x.cells.length = 8:=rfl
theorem aA.st_own {β:Type} (x:aA) (i v sz off id:Nat) (kw:V->List (Nat × Option aI)->Option β):gK sz off id (.own i v) (some (.box (aK x.cells))) kw = gK sz off id (.own i v) (some (.box [.d (.sl (cM cS x.Currencies)),.d (.sl (cM a7.cells x.Cities)),.d (.sl (cM bU.cells x.Groups)),.d (.sl (cM cF.cells x.Firms)),.d (.sl (cM aG.cells x.Orders)),.d (.sl (cM aW.cells x.Usances)),.d (.sl (cM bV.cells x.Rates)),.d (.sl (cM c9.cells x.Halts))])) kw:=rfl
theorem aA.put {β:Type} (x:aA) (id:Nat) (cs:List V) (hc:cs.length = 8) (kw:V->List (Nat × Option aI)->Option β):gK 8 0 id (fL x.cells) (some (.box cs)) kw = kw .any [(id,some (.box (aK x.cells)))]:=iC 8 id _ rfl cs hc
theorem aA.get0 {β:Type} (x:aA) (k:D->Option β):dT x.cells 0 k = k (.sl (cM cS x.Currencies)):=rfl
theorem aA.get1 {β:Type} (x:aA) (k:D->Option β):dT x.cells 1 k = k (.sl (cM a7.cells x.Cities)):=rfl
theorem aA.get2 {β:Type} (x:aA) (k:D->Option β):dT x.cells 2 k = k (.sl (cM bU.cells x.Groups)):=rfl
theorem aA.get3 {β:Type} (x:aA) (k:D->Option β):dT x.cells 3 k = k (.sl (cM cF.cells x.Firms)):=rfl
theorem aA.get4 {β:Type} (x:aA) (k:D->Option β):dT x.cells 4 k = k (.sl (cM aG.cells x.Orders)):=rfl
theorem aA.get5 {β:Type} (x:aA) (k:D->Option β):dT x.cells 5 k = k (.sl (cM aW.cells x.Usances)):=rfl
theorem aA.get6 {β:Type} (x:aA) (k:D->Option β):dT x.cells 6 k = k (.sl (cM bV.cells x.Rates)):=rfl
theorem aA.get7 {β:Type} (x:aA) (k:D->Option β):dT x.cells 7 k = k (.sl (cM c9.cells x.Halts)):=rfl
theorem aA.sub0_8 {β:Type} (x:aA) (k:List D->Option β):zT x.cells 0 8 k = k x.cells:=rfl
theorem aA.cells_mk (f0:List ByteArray) (f1:List a7) (f2:List bU) (f3:List cF) (f4:List aG) (f5:List aW) (f6:List bV) (f7:List c9):aA.cells (aA.mk f0 f1 f2 f3 f4 f5 f6 f7) = [.sl (cM cS f0),.sl (cM a7.cells f1),.sl (cM bU.cells f2),.sl (cM cF.cells f3),.sl (cM aG.cells f4),.sl (cM aW.cells f5),.sl (cM bV.cells f6),.sl (cM c9.cells f7)]:=rfl
structure aB where
 Kind:Int
 Forum:Int
 Ask:Int
 Places:List Int
 Path:List Int
 deriving Inhabited
def aB.cells (x:aB):List D:=[.int .i64 x.Kind,.int .i64 x.Forum,.int .i64 x.Ask,.sl (cM cI x.Places),.sl (cM cI x.Path)]
theorem aB.sized (xs:List aB):sized 5 (cM aB.cells xs) = true:=kG _ _ (fun x=>by rfl) xs
theorem aB.len (x:aB):x.cells.length = 5:=rfl
theorem aB.size {β:Type} (x:aB) (y:Option β):uQ x.cells 5 y = y:=rfl
theorem aB.st_d {β:Type} (x:aB) (y:D) (sz off id:Nat) (kw:V->List (Nat × Option aI)->Option β):gK sz off id (.d y) (some (.box (aK x.cells))) kw = gK sz off id (.d y) (some (.box [.d (.int .i64 x.Kind),.d (.int .i64 x.Forum),.d (.int .i64 x.Ask),.d (.sl (cM cI x.Places)),.d (.sl (cM cI x.Path))])) kw:=rfl
theorem aB.st_own {β:Type} (x:aB) (i v sz off id:Nat) (kw:V->List (Nat × Option aI)->Option β):gK sz off id (.own i v) (some (.box (aK x.cells))) kw = gK sz off id (.own i v) (some (.box [.d (.int .i64 x.Kind),.d (.int .i64 x.Forum),.d (.int .i64 x.Ask),.d (.sl (cM cI x.Places)),.d (.sl (cM cI x.Path))])) kw:=rfl
theorem aB.put {β:Type} (x:aB) (id:Nat) (cs:List V) (hc:cs.length = 5) (kw:V->List (Nat × Option aI)->Option β):gK 5 0 id (fL x.cells) (some (.box cs)) kw = kw .any [(id,some (.box (aK x.cells)))]:=iC 5 id _ rfl cs hc
theorem aB.get0 {β:Type} (x:aB) (k:D->Option β):dT x.cells 0 k = k (.int .i64 x.Kind):=rfl
theorem aB.get1 {β:Type} (x:aB) (k:D->Option β):dT x.cells 1 k = k (.int .i64 x.Forum):=rfl
theorem aB.get2 {β:Type} (x:aB) (k:D->Option β):dT x.cells 2 k = k (.int .i64 x.Ask):=rfl
theorem aB.get3 {β:Type} (x:aB) (k:D->Option β):dT x.cells 3 k = k (.sl (cM cI x.Places)):=rfl
theorem aB.get4 {β:Type} (x:aB) (k:D->Option β):dT x.cells 4 k = k (.sl (cM cI x.Path)):=rfl
theorem aB.sub0_5 {β:Type} (x:aB) (k:List D->Option β):zT x.cells 0 5 k = k x.cells:=rfl
theorem aB.cells_mk (f0 f1 f2:Int) (f3 f4:List Int):aB.cells (aB.mk f0 f1 f2 f3 f4) = [.int .i64 f0,.int .i64 f1,.int .i64 f2,.sl (cM cI f3),.sl (cM cI f4)]:=rfl
structure aO where
 e0:Option aB
 e1:Option aB
 deriving Inhabited
def aO.cells (x:aO):List D:=[WO aB.cells x.e0,WO aB.cells x.e1]
theorem aO.sized (xs:List aO):sized 2 (cM aO.cells xs) = true:=kG _ _ (fun x=>by rfl) xs
theorem aO.len (x:aO):x.cells.length = 2:=rfl
theorem aO.size {β:Type} (x:aO) (y:Option β):uQ x.cells 2 y = y:=rfl
theorem aO.get0 {β:Type} (x:aO) (k:D->Option β):dT x.cells 0 k = k (WO aB.cells x.e0):=rfl
theorem aO.get1 {β:Type} (x:aO) (k:D->Option β):dT x.cells 1 k = k (WO aB.cells x.e1):=rfl
theorem aO.cells_mk (f0 f1:Option aB):aO.cells (aO.mk f0 f1) = [WO aB.cells f0,WO aB.cells f1]:=rfl
theorem aOF {β:Type} (x:Int) (k:D->Option β):dT (cI x) 0 k = k (.int .i64 x):=rfl
theorem aMZ {β:Type} (x:Int) (off:Nat) (d:D) (ds:List D) (n:Nat) (k:List D->Option β):qZ (cI x) off (d :: ds) n k = qZ [.int .i64 x] off (d :: ds) n k:=rfl
theorem aLd {β:Type} (x:Int) (y:Option β):uQ (cI x) 1 y = y:=rfl
theorem aNX {β:Type} (x:Bool) (k:D->Option β):dT (cB x) 0 k = k (.bool x):=rfl
theorem aLx {β:Type} (x:Bool) (off:Nat) (d:D) (ds:List D) (n:Nat) (k:List D->Option β):qZ (cB x) off (d :: ds) n k = qZ [.bool x] off (d :: ds) n k:=rfl
theorem aN3 {β:Type} (x:ByteArray) (k:D->Option β):dT (cS x) 0 k = k (.str x):=rfl
theorem aLe {β:Type} (x:ByteArray) (y:Option β):uQ (cS x) 1 y = y:=rfl
theorem aLA {β:Type} (x0:D) (y:Option β):uQ [x0] 1 y = y:=rfl
theorem aNf {β:Type} (x0 x1 x2:D) (y:Option β):uQ [x0,x1,x2] 3 y = y:=rfl
theorem aMc {β:Type} (x0 x1 x2 x3:D) (y:Option β):uQ [x0,x1,x2,x3] 4 y = y:=rfl
theorem aKy {β:Type} (x0 x1 x2 x3 x4:D) (y:Option β):uQ [x0,x1,x2,x3,x4] 5 y = y:=rfl
theorem aOq {β:Type} (i:IntKind) (x:Int) (k:D->Option β):dT (cK i x) 0 k = k (.int i x):=rfl
theorem aKx {β:Type} (i:IntKind) (x:Int) (y:Option β):uQ (cK i x) 1 y = y:=rfl
theorem aDb {β:Type} {T:CO} {d:Nat} {fr:List (Nat × V)} {bl:List (Nat × Option aI)} {k:V->Option β} {kw:V->List (Nat × Option aI)->Option β} (l cp:bS):AC T d (.makeSlice 4 1 1 [.bool false] l cp) fr bl k kw = cY bl d fun b=>lW b (cJ fr l fun a=>cJ fr cp fun b=>aN9 1 a b fun n=>kw (.own d 0) [(d,some (.rows 0 4 1 (cM cB (List.replicate n false))))]):=aPM 4 1 1 [.bool false] cB (false:Bool) rfl l cp
theorem aBy {β:Type} (k:List (List D)->Option β):WQ 3 [] k = k (cM cI ([]:List Int)):=rfl
theorem W5 {β:Type} (a0 a1:Int) (k:List (List D)->Option β):WQ 3 [[.int .i64 a0],[.int .i64 a1]] k = k (cM cI ([a0,a1]:List Int)):=rfl
theorem V4 {β:Type} (a0 a1 a2:Int) (k:List (List D)->Option β):WQ 3 [[.int .i64 a0],[.int .i64 a1],[.int .i64 a2]] k = k (cM cI ([a0,a1,a2]:List Int)):=rfl
theorem RW {β:Type} (a0 a1 a2 a3 a4:Int) (k:List (List D)->Option β):WQ 3 [[.int .i64 a0],[.int .i64 a1],[.int .i64 a2],[.int .i64 a3],[.int .i64 a4]] k = k (cM cI ([a0,a1,a2,a3,a4]:List Int)):=rfl
theorem Z3 {β:Type} (a0:Int) (k:List (List D)->Option β):WQ 3 [[.int .i64 a0]] k = k (cM cI ([a0]:List Int)):=rfl
theorem ZV {β:Type} (k:List (List D)->Option β):WQ 34 [] k = k (cM aB.cells ([]:List aB)):=rfl
theorem W6 {β:Type} (a0_0 a0_1 a0_2:Int) (a0_3 a0_4:List Int) (k:List (List D)->Option β):WQ 34 [[.int .i64 a0_0,.int .i64 a0_1,.int .i64 a0_2,.sl (cM cI a0_3),.sl (cM cI a0_4)]] k = k (cM aB.cells ([(aB.mk a0_0 a0_1 a0_2 a0_3 a0_4)]:List aB)):=rfl
theorem XD {β:Type} (a0:aB) (k:List (List D)->Option β):WQ 34 [aB.cells a0] k = k (cM aB.cells ([a0]:List aB)):=rfl
theorem UJ {β:Type} (a0_0:ByteArray) (a0_1:Bool) (a0_2:List aM) (a0_3:List a8) (a1_0:ByteArray) (a1_1:Bool) (a1_2:List aM) (a1_3:List a8) (k:List (List D)->Option β):WQ 47 [[.str a0_0,.bool a0_1,.sl (cM aM.cells a0_2),.sl (cM a8.cells a0_3)],[.str a1_0,.bool a1_1,.sl (cM aM.cells a1_2),.sl (cM a8.cells a1_3)]] k = k (cM aG.cells ([(aG.mk a0_0 a0_1 a0_2 a0_3),(aG.mk a1_0 a1_1 a1_2 a1_3)]:List aG)):=rfl
theorem UT {β:Type} (a0_0 a0_1:Int) (a0_2:Bool) (a1_0 a1_1:Int) (a1_2:Bool) (k:List (List D)->Option β):WQ 50 [[.int .i64 a0_0,.int .i64 a0_1,.bool a0_2],[.int .i64 a1_0,.int .i64 a1_1,.bool a1_2]] k = k (cM aM.cells ([(aM.mk a0_0 a0_1 a0_2),(aM.mk a1_0 a1_1 a1_2)]:List aM)):=rfl
theorem XA {β:Type} (a0_0 a0_1:Int) (a0_2:Bool) (k:List (List D)->Option β):WQ 50 [[.int .i64 a0_0,.int .i64 a0_1,.bool a0_2]] k = k (cM aM.cells ([(aM.mk a0_0 a0_1 a0_2)]:List aM)):=rfl
theorem Z9 {β:Type} (k:List (List D)->Option β):WQ 69 [] k = k (cM a8.cells ([]:List a8)):=rfl
theorem WI {β:Type} (a0_0 a0_1_0 a0_1_1:Int) (k:List (List D)->Option β):WQ 69 [[.int .i64 a0_0,.int .i64 a0_1_0,.int .i64 a0_1_1,.sl []]] k = k (cM a8.cells ([(a8.mk a0_0 (nW.mk a0_1_0 a0_1_1 []))]:List a8)):=rfl
theorem aBQ {β:Type} (k:List (List D)->Option β):WQ 9 [] k = k (cM cS ([]:List ByteArray)):=rfl
theorem ZC {β:Type} (a0:ByteArray) (k:List (List D)->Option β):WQ 9 [[.str a0]] k = k (cM cS ([a0]:List ByteArray)):=rfl
theorem aDh {β:Type} (xs:List Int) (i:Nat) (a:Int) (k:List (List D)->Option β):G9 3 (cM cI xs) i [.int .i64 a] k = k (cM cI (xs.set i a)):=VX 3 cI xs i a k
theorem aCO {β:Type} (xs:List Bool) (i:Nat) (a:Bool) (k:List (List D)->Option β):G9 4 (cM cB xs) i [.bool a] k = k (cM cB (xs.set i a)):=VX 4 cB xs i a k
abbrev kB (a0:aA) (a1 a2:Int) (x y:Option aB) (l:List (Nat × Option aI)):List (Nat × Option aI):=(3,some (.box (aK a0.cells))) :: (4,some (.box [.d (.int .i64 a1)])) :: (5,some (.box [.d (.int .i64 a2)])) :: (6,some (.box [.d .np,.d .np])) :: (7,some (.box [.d (WO aB.cells x),.d (WO aB.cells y)])) :: (8,some (.box [.own 13 0])) :: (9,some (.box [.own 15 0])) :: (10,some (.box [.fn 39 [.ptr 4 0,.ptr 5 0,.ptr 8 0,.ptr 9 0,.ptr 3 0,.ptr 7 0]])) :: (11,some (.box [.fn 42 [.ptr 9 0,.ptr 3 0,.ptr 5 0,.ptr 10 0,.ptr 8 0,.ptr 11 0]])) :: l
abbrev kO (x:Int) (r:Int × Bool) (y:Int) (a0:aA) (p:Int):Option aI:=some (.outer [.ptr 9 0,.ptr 3 0,.ptr 10 0,.ptr 8 0,.ptr 11 0,.d (.int .i64 x),.d (.int .i64 r.1),.d (.bool r.2),.d (.bool (y == (-1))),.d (.int .i64 (a0.Orders.length:Int)),.d (.int .i64 p)])
/- all rules as one -/
set_option linter.defProp false
def DN:=aN (aN (aN (aN (aN (aN (aN (aN @aND @aB1) (aN @aHH (aN @aHi @aB8))) (aN (aN @aAT @aGJ) (aN @aAq (aN @aET @aLT)))) (aN (aN (aN @aOU @aH7) (aN @aHM (aN @aFW @aCo))) (aN (aN @aIV @aJ8) (aN @aCf (aN @aNr @aFH))))) (aN (aN (aN (aN @aFS @aCR) (aN @aKa (aN @aFe @aGx))) (aN (aN @aHf @Z2) (aN @WL (aN @aLB @aE7)))) (aN (aN (aN @W0 @aFx) (aN @aDJ (aN @aCW @aBJ))) (aN (aN @aIl @aDN) (aN @aAe (aN @aGa @aMS)))))) (aN (aN (aN (aN (aN @aIq @aHY) (aN @UR (aN @aMz @aPa))) (aN (aN @aFt @aKp) (aN @aBG (aN @aG7 @aF1)))) (aN (aN (aN @aDu @aGf) (aN @aJE (aN @aFC @aDf))) (aN (aN @aMN @aK5) (aN @aDC (aN @aDx @aH5))))) (aN (aN (aN (aN @aFR @aMa) (aN @aAl (aN @aFV @aJJ))) (aN (aN @aKX @aJu) (aN @aJZ (aN @aFD @aK6)))) (aN (aN (aN @aH6 @aJx) (aN @aM1 (aN @aKg @aOT))) (aN (aN @aO5 @aO6) (aN @aI2 (aN @aJz @aIm))))))) (aN (aN (aN (aN (aN (aN @aMd @aKG) (aN @aK7 (aN @aE5 @aDy))) (aN (aN @aCl @aJr) (aN @aJB (aN @aB6 @aIp)))) (aN (aN (aN @aEG @aJ2) (aN @aFh (aN @aG4 @aKS))) (aN (aN @aMU @aL0) (aN @aOS (aN @aPg @aH2))))) (aN (aN (aN (aN @aF5 @aK0) (aN @aEZ (aN @aBx @aGY))) (aN (aN @ZO @aK9) (aN @aNq (aN @aLD @aIO)))) (aN (aN (aN @aFs @aHc) (aN @aOG (aN @aH0 @aLf))) (aN (aN @aLX @aJo) (aN @W8 (aN @aF6 @XF)))))) (aN (aN (aN (aN (aN @aFX @aEN) (aN @aDE (aN @VP @aIJ))) (aN (aN @aAf @aLG) (aN @aID (aN @aCu @aBu)))) (aN (aN (aN @aDO @aF2) (aN @aDz (aN @aCP @aBo))) (aN (aN @aE3 @aC1) (aN @aMx (aN @aLa @aEk))))) (aN (aN (aN (aN @aGT @aE1) (aN @aG5 (aN @aJI @aMv))) (aN (aN @aKc @aKm) (aN @aIY (aN @aAX @aNm)))) (aN (aN (aN @aMm @aBe) (aN @aCq (aN @aDr @aJS))) (aN (aN @aJR (aN @aE8 @aBS)) (aN @aAQ (aN @aLK @aKO)))))))) (aN (aN (aN (aN (aN (aN (aN @aAx @aLW) (aN @aN1 (aN @aKH @aP1))) (aN (aN @Z4 @aBc) (aN @aAb (aN @aKP @aQF)))) (aN (aN (aN @aPO @aQs) (aN @aHx (aN @aIQ @aI9))) (aN (aN @aHR @aIj) (aN @aH8 (aN @aIP @aJp))))) (aN (aN (aN (aN @aJd @aHD) (aN @aIx (aN @aEP @aFM))) (aN (aN @aLi @aMl) (aN @aJX (aN @YL @TA)))) (aN (aN (aN @aLU @aFw) (aN @aME (aN @aIt @aCy))) (aN (aN @aMk @aOK) (aN @aPh (aN @aES @aCX)))))) (aN (aN (aN (aN (aN @aCb @aEE) (aN @aHQ (aN @aCV @aGM))) (aN (aN @aCB @aQV) (aN @aNl (aN @aJf @aFG)))) (aN (aN (aN @aMD @aNF) (aN @aGs (aN @aOX @aHZ))) (aN (aN @aIR @aAB) (aN @aGF (aN @aOz @aAC))))) (aN (aN (aN (aN @aFI @aKl) (aN @aOg (aN @aOY @aMO))) (aN (aN @aHu @aE6) (aN @aCN (aN @aNy @aOe)))) (aN (aN (aN @aPc @aPm) (aN @aEY (aN @aDM @aGb))) (aN (aN @aCJ @aLO) (aN @aLz (aN @aKr @aOC))))))) (aN (aN (aN (aN (aN (aN @aHd @WJ) (aN @T8 (aN @aK2 @aE4))) (aN (aN @aFJ @aDI) (aN @aFv (aN @aBU @aBV)))) (aN (aN (aN @aB4 @aJm) (aN @aHm (aN @aDo @aCe))) (aN (aN @aAI @aCw) (aN @W3 (aN @aBF @aO8))))) (aN (aN (aN (aN @aJc @aI8) (aN @aEF (aN @aM5 @aNa))) (aN (aN @aO4 @aHb) (aN @aOQ (aN @aOD @aFF)))) (aN (aN (aN @aGw @aCG) (aN @aBp (aN @aGL @aC2))) (aN (aN @aJY @aG9) (aN @aM8 (aN @aJs @aIB)))))) (aN (aN (aN (aN (aN @aEU @aGD) (aN @aIX (aN @aFd @ZH))) (aN (aN @aCC @aAg) (aN @aFa (aN @aCQ @SR)))) (aN (aN (aN @aHV @aEK) (aN @aJg (aN @aNx @aEc))) (aN (aN @aJP @aGI) (aN @aHS (aN @aD2 @aFY))))) (aN (aN (aN (aN @aHy @aJi) (aN @aJn (aN @aKi @aPi))) (aN (aN @YW @aPk) (aN @aOn (aN @aIZ @aOP)))) (aN (aN (aN @aH3 @Y1) (aN @aF0 (aN @aIw @aFq))) (aN (aN @aNA (aN @aF7 @aDg)) (aN @aC8 (aN @aJW @aJv))))))))
def DR:=aN (aN (aN (aN (aN (aN @a7.size (aN @a7.put @a7.get0)) (aN (aN @a7.get1 @a7.get2) (aN @a7.get3 @a7.get4))) (aN (aN @a7.get5 (aN @a7.sub0_6 @bU.size)) (aN (aN @bU.put @bU.get0) (aN @bU.sub0_1 @cF.size)))) (aN (aN (aN @cF.put (aN @cF.get0 @cF.get1)) (aN (aN @cF.get2 @cF.sub0_3) (aN @aM.size @aM.put))) (aN (aN @aM.get0 (aN @aM.get1 @aM.get2)) (aN (aN @aM.sub0_3 @a8.size) (aN @a8.put @a8.get0))))) (aN (aN (aN (aN @a8.sub0_4 (aN @aG.size @aG.st_own)) (aN (aN @aG.put @aG.rset) (aN @aG.get0 @aG.get1))) (aN (aN @aG.get2 (aN @aG.get3 @aG.sub0_4)) (aN (aN @aW.size @aW.put) (aN @aW.get0 @aW.get1)))) (aN (aN (aN @aW.get2 (aN @aW.sub0_3 @bV.size)) (aN (aN @bV.put @bV.get0) (aN @bV.get1 @bV.get2))) (aN (aN @bV.get3 (aN @bV.get4 @bV.sub0_5)) (aN (aN @c9.size @c9.put) (aN @c9.get0 @c9.get1)))))) (aN (aN (aN (aN (aN @c9.get2 (aN @c9.sub0_3 @aA.st_own)) (aN (aN @aA.put @aA.get0) (aN @aA.get1 @aA.get2))) (aN (aN @aA.get3 (aN @aA.get4 @aA.get5)) (aN (aN @aA.get6 @aA.get7) (aN @aA.sub0_8 @aB.size)))) (aN (aN (aN @aB.st_d (aN @aB.st_own @aB.put)) (aN (aN @aB.get0 @aB.get1) (aN @aB.get2 @aB.get3))) (aN (aN @aB.get4 (aN @aB.sub0_5 @aO.size)) (aN (aN @aO.get0 @aO.get1) (aN @aOF @aMZ))))) (aN (aN (aN (aN @aLd (aN @aNX @aLx)) (aN (aN @aN3 @aLe) (aN @aLA @aNf))) (aN (aN @aMc (aN @aKy @aOq)) (aN (aN @aKx @aDb) (aN @aBy @W5)))) (aN (aN (aN @V4 (aN @RW @Z3)) (aN (aN @ZV @W6) (aN @XD @UJ))) (aN (aN (aN @UT @XA) (aN @Z9 @WI)) (aN (aN @aBQ @ZC) (aN @aDh @aCO))))))
def DQ:=aN (aN (aN (aN (aN @a7.len @bU.len) (aN @cF.len @aM.len)) (aN (aN @nW.len @a8.len) (aN @aG.len (aN @aW.len @bV.len)))) (aN (aN (aN @c9.len @aA.len) (aN @aB.len (aN @aO.len @a7.cells_mk))) (aN (aN @bU.cells_mk @cF.cells_mk) (aN @aM.cells_mk (aN @nW.cells_mk @a8.cells_mk))))) (aN (aN (aN (aN @aG.cells_mk @aW.cells_mk) (aN @bV.cells_mk (aN @c9.cells_mk @aA.cells_mk))) (aN (aN @aB.cells_mk @aO.cells_mk) (aN @a7.sized (aN @bU.sized @cF.sized)))) (aN (aN (aN @aM.sized @nW.sized) (aN @a8.sized (aN @aG.sized @aW.sized))) (aN (aN @bV.sized @c9.sized) (aN @aA.sized (aN @aB.sized @aO.sized)))))
def DP:=aN @Option.some.injEq (aN @Bool.and_true @List.cons_ne_nil)
theorem bLc {α:Type} (a:α) (l:List α):(a :: l).length = l.length + 1:=rfl
theorem bLn {α:Type}:([]:List α).length = 0:=rfl
theorem bIt {α:Type} {d:Decidable True} (a b:α):@ite α True d a b = a:=if_pos trivial
theorem bIf {α:Type} {d:Decidable False} (a b:α):@ite α False d a b = b:=if_neg id
theorem bRs {α:Type} (n:Nat) (a:α):List.replicate (n + 1) a = a :: List.replicate n a:=rfl
theorem bRz {α:Type} (a:α):List.replicate 0 a = []:=rfl
theorem bBs {α γ:Type} (a:α) (f:α->Option γ):(some a).bind f = f a:=rfl
theorem bMs {α γ:Type} (a:α) (f:α->γ):(some a).map f = some (f a):=rfl
theorem bMn {α γ:Type} (f:α->γ):(none:Option α).map f = none:=rfl
theorem bEl {α γ δ:Type} (f:α->δ) (g:γ->δ) (x:α):Sum.elim f g (.inl x) = f x:=rfl
theorem bEr {α γ δ:Type} (f:α->δ) (g:γ->δ) (x:γ):Sum.elim f g (.inr x) = g x:=rfl
theorem bBb {α γ δ:Type} (o:Option α) (f:α->Option γ) (g:γ->Option δ):(o.bind f).bind g = o.bind fun x=>(f x).bind g:=by cases o <;> rfl
def DS:=aN (aN (aN (aN (aN @bLc @bLn) (aN @HF @Bool.not_true)) (aN (aN @Bool.not_false @bIt) (aN @bIf @bRs))) (aN (aN (aN @bRz @VG) (aN @bBs @aEQ)) (aN (aN @bMs @bMn) (aN @bEl @bEr)))) (aN (aN (aN (aN @aHA @aHB) (aN @aIF @aJK)) (aN (aN @aHC @aCH) (aN @aFm @aFO))) (aN (aN (aN @aDv @aF4) (aN @aDP @aIG)) (aN (aN @aLg @Vm.bind_map) (aN @aF8 (aN @aJ9 @bBb)))))
abbrev KF (T:CO) (f:Nat) (ds:List D) {α:Type} (o:Option α) (v:α->V):Prop:=∀ {β:Type} (d:Nat) (bl fz:List (Nat × Option aI)) (k:V->Option β) (kw:V->List (Nat × Option aI)->Option β),LM T d bl f ds fz k kw = o.bind fun r=>k (v r)
abbrev KD (T:CO) (f:Nat) (ds:List D) {α:Type} (o:Option α) (v:α->V):Prop:=∀ {β:Type} (d:Nat) (bl fz:List (Nat × Option aI)) (k:V->Option β) (kw:V->List (Nat × Option aI)->Option β),LM T d bl f ds fz k kw = o.bind fun r=>fzK fz (v r) k kw
theorem kF {T:CO} {α:Type} {f:Nat} {ds:List D} {o:Option α} {enc:α->D} {v:α->V} (h:Vm.call T f ds = o.map enc) (hf:∀ x,PL (enc x) = true) (hv:∀ x,toV (enc x) = v x):KF T f ds o v:=fun d bl fz k kw=>by
 rw [aBY h hf fz]
 exact congrArg _ (funext fun x=>congrArg k (hv x))
theorem kD {T:CO} {α:Type} {f:Nat} {ds:List D} {o:Option α} {enc:α->D} {v:α->V} (h:Vm.call T f ds = o.map enc) (hf:∀ x,PL (enc x) = false) (hc:∀ x,(enc x).calm = true) (hv:∀ x,toV (enc x) = v x):KD T f ds o v:=fun d bl fz k kw=>by
 rw [aDK h hf hc fz]
 exact congrArg _ (funext fun x=>congrArg (fun y=>fzK fz y k kw) (hv x))
theorem DF {p:Prop} (h:p:=by
  simp -implicitDefEqProofs (decide:=true) (maxSteps:=2000000) only [↓DN,↓DR,DQ,DP,↓reduceIte,Int.reduceToNat,Nat.reduceBEq,Nat.reduceAdd,Nat.reduceLT,Nat.reduceLeDiff,Nat.reduceEqDiff,Int.reduceEq,ne_eq,not_false_eq_true,reduceCtorEq,D7,QO,QX,beq_self_eq_true,DS]
  all_goals try simp only [aHW]
  all_goals try rfl):p:=h
theorem i9 {p:Prop} (h:p:=by
  simp -implicitDefEqProofs (decide:=true) (maxSteps:=2000000) only [↓u,↓DN,↓DR,DQ,DP,↓reduceIte,Int.reduceToNat,Nat.reduceBEq,Nat.reduceAdd,Nat.reduceLT,Nat.reduceLeDiff,Nat.reduceEqDiff,Int.reduceEq,ne_eq,not_false_eq_true,reduceCtorEq,D7,QO,QX,beq_self_eq_true,DS]
  all_goals try simp only [aHW]
  all_goals try rfl):p:=h
end Go.Proofs.Ytjjcaapdaldedaa
