/- The table. Printed by a program. -/
import Derived.Test.YtjjcaapdaldedaaVmH
import Derived.Test.YtjjcaapdaldedaaVmF
import Derived.Test.YtjjcaapdaldedaaVmT
import Derived.Test.YtjjcaapdaldedaaCode1
import Derived.Test.YtjjcaapdaldedaaCode2
set_option linter.unusedVariables false
set_option linter.unusedSimpArgs false
namespace Go.Proofs.Ytjjcaapdaldedaa
open Vm
open Go.RowKit
def o40:List D->Option D:=NG 3 1 8
def TL:List (Nat × Option Def):=[(15,some (.code aHA)),(16,some (.code aHy)),(28,some (.code aH8)),(71,some (.code aHK)),(79,some (.code aHM)),(72,some (.code aG0)),(57,some (.code aGY)),(30,some (.code aHJ)),(29,some (.code aHY)),(33,some (.code aHu)),(58,some (.code aHN)),(32,some (.code aHh)),(31,some (.code aGZ)),(34,some (.code aHG)),(36,some (.code aH2)),(35,some (.code aG5)),(37,some (.code aHU)),(38,some (.code aH3)),(18,some (.code aHI)),(43,some (.code aHv)),(54,some (.code aG2)),(68,some (.code aG4)),(53,some (.code aH4)),(25,some (.code aHj)),(60,some (.code aHF)),(44,some (.code aHb)),(80,some (.code aH7)),(73,some (.code aHx)),(59,some (.code aHg)),(41,some (.code aHp)),(19,some (.code aH6)),(8,some (.code sf8)),(27,some (.code aHL)),(22,some (.code aG1)),(10,some (.code aHT)),(67,some (.code aG6)),(77,some (.code aHB)),(66,some (.code aHf)),(51,some (.code aHi)),(52,some (.code aHa)),(23,some (.code aG3)),(24,some (.code aHV)),(11,some (.code aHS)),(13,some (.code aHr)),(6,some (.code sf6)),(17,some (.code aG9)),(7,some (.code sf7)),(4,some (.code sf4)),(40,some (.told o40))]
def TT:xU:=fun f=>lk TL none f
structure dT where
 Name:ByteArray
 Order:Int
 Currency:Int
 Rest:List Int
 Feasts:List Int
 Shut:List Int
 deriving Inhabited
def dT.cells (x:dT):List D:=[.str x.Name,.int .i64 x.Order,.int .i64 x.Currency,.sl (cM cI x.Rest),.sl (cM cI x.Feasts),.sl (cM cI x.Shut)]
theorem dT.sized (xs:List dT):sized 6 (cM dT.cells xs) = true:=i6 _ _ (fun x=>by rfl) xs
theorem dT.len (x:dT):x.cells.length = 6:=rfl
theorem dT.size {β:Type} (x:dT) (y:Option β):qE x.cells 6 y = y:=rfl
theorem dT.put {β:Type} (x:dT) (id:Nat) (cs:List V) (hc:cs.length = 6) (kw:V->List (Nat × Option aR)->Option β):gD 6 0 id (iS x.cells) (some (.box cs)) kw = kw .any [(id,some (.box (aD x.cells)))]:=gR 6 id _ rfl cs hc
theorem dT.get0 {β:Type} (x:dT) (k:D->Option β):fK x.cells 0 k = k (.str x.Name):=rfl
theorem dT.get1 {β:Type} (x:dT) (k:D->Option β):fK x.cells 1 k = k (.int .i64 x.Order):=rfl
theorem dT.get2 {β:Type} (x:dT) (k:D->Option β):fK x.cells 2 k = k (.int .i64 x.Currency):=rfl
theorem dT.get3 {β:Type} (x:dT) (k:D->Option β):fK x.cells 3 k = k (.sl (cM cI x.Rest)):=rfl
theorem dT.get4 {β:Type} (x:dT) (k:D->Option β):fK x.cells 4 k = k (.sl (cM cI x.Feasts)):=rfl
theorem dT.get5 {β:Type} (x:dT) (k:D->Option β):fK x.cells 5 k = k (.sl (cM cI x.Shut)):=rfl
theorem dT.sub0_6 {β:Type} (x:dT) (k:List D->Option β):sN x.cells 0 6 k = k x.cells:=rfl
theorem dT.cells_mk (f0:ByteArray) (f1 f2:Int) (f3 f4 f5:List Int):dT.cells (dT.mk f0 f1 f2 f3 f4 f5) = [.str f0,.int .i64 f1,.int .i64 f2,.sl (cM cI f3),.sl (cM cI f4),.sl (cM cI f5)]:=rfl
structure eH where
 Grade:Int
 deriving Inhabited
def eH.cells (x:eH):List D:=[.int .i64 x.Grade]
theorem eH.sized (xs:List eH):sized 1 (cM eH.cells xs) = true:=i6 _ _ (fun x=>by rfl) xs
theorem eH.len (x:eH):x.cells.length = 1:=rfl
theorem eH.size {β:Type} (x:eH) (y:Option β):qE x.cells 1 y = y:=rfl
theorem eH.put {β:Type} (x:eH) (id:Nat) (cs:List V) (hc:cs.length = 1) (kw:V->List (Nat × Option aR)->Option β):gD 1 0 id (iS x.cells) (some (.box cs)) kw = kw .any [(id,some (.box (aD x.cells)))]:=gR 1 id _ rfl cs hc
theorem eH.get0 {β:Type} (x:eH) (k:D->Option β):fK x.cells 0 k = k (.int .i64 x.Grade):=rfl
theorem eH.sub0_1 {β:Type} (x:eH) (k:List D->Option β):sN x.cells 0 1 k = k x.cells:=rfl
theorem eH.cells_mk (f0:Int):eH.cells (eH.mk f0) = [.int .i64 f0]:=rfl
structure eV where
 Name:ByteArray
 City:Int
 Group:Int
 deriving Inhabited
def eV.cells (x:eV):List D:=[.str x.Name,.int .i64 x.City,.int .i64 x.Group]
theorem eV.sized (xs:List eV):sized 3 (cM eV.cells xs) = true:=i6 _ _ (fun x=>by rfl) xs
theorem eV.len (x:eV):x.cells.length = 3:=rfl
theorem eV.size {β:Type} (x:eV) (y:Option β):qE x.cells 3 y = y:=rfl
theorem eV.put {β:Type} (x:eV) (id:Nat) (cs:List V) (hc:cs.length = 3) (kw:V->List (Nat × Option aR)->Option β):gD 3 0 id (iS x.cells) (some (.box cs)) kw = kw .any [(id,some (.box (aD x.cells)))]:=gR 3 id _ rfl cs hc
theorem eV.get0 {β:Type} (x:eV) (k:D->Option β):fK x.cells 0 k = k (.str x.Name):=rfl
theorem eV.get1 {β:Type} (x:eV) (k:D->Option β):fK x.cells 1 k = k (.int .i64 x.City):=rfl
theorem eV.get2 {β:Type} (x:eV) (k:D->Option β):fK x.cells 2 k = k (.int .i64 x.Group):=rfl
theorem eV.sub0_3 {β:Type} (x:eV) (k:List D->Option β):sN x.cells 0 3 k = k x.cells:=rfl
theorem eV.cells_mk (f0:ByteArray) (f1 f2:Int):eV.cells (eV.mk f0 f1 f2) = [.str f0,.int .i64 f1,.int .i64 f2]:=rfl
structure cW where
 Ask:Int
 By:Int
 Whole:Bool
 deriving Inhabited
def cW.cells (x:cW):List D:=[.int .i64 x.Ask,.int .i64 x.By,.bool x.Whole]
theorem cW.sized (xs:List cW):sized 3 (cM cW.cells xs) = true:=i6 _ _ (fun x=>by rfl) xs
theorem cW.len (x:cW):x.cells.length = 3:=rfl
theorem cW.size {β:Type} (x:cW) (y:Option β):qE x.cells 3 y = y:=rfl
theorem cW.put {β:Type} (x:cW) (id:Nat) (cs:List V) (hc:cs.length = 3) (kw:V->List (Nat × Option aR)->Option β):gD 3 0 id (iS x.cells) (some (.box cs)) kw = kw .any [(id,some (.box (aD x.cells)))]:=gR 3 id _ rfl cs hc
theorem cW.get0 {β:Type} (x:cW) (k:D->Option β):fK x.cells 0 k = k (.int .i64 x.Ask):=rfl
theorem cW.get1 {β:Type} (x:cW) (k:D->Option β):fK x.cells 1 k = k (.int .i64 x.By):=rfl
theorem cW.get2 {β:Type} (x:cW) (k:D->Option β):fK x.cells 2 k = k (.bool x.Whole):=rfl
theorem cW.sub0_3 {β:Type} (x:cW) (k:List D->Option β):sN x.cells 0 3 k = k x.cells:=rfl
theorem cW.cells_mk (f0 f1:Int) (f2:Bool):cW.cells (cW.mk f0 f1 f2) = [.int .i64 f0,.int .i64 f1,.bool f2]:=rfl
structure k6 where
 Op:Int
 N:Int
 Args:List (List D)
 deriving Inhabited
def k6.cells (x:k6):List D:=[.int .i64 x.Op,.int .i64 x.N,.sl (cM cD x.Args)]
theorem k6.sized (xs:List k6):sized 3 (cM k6.cells xs) = true:=i6 _ _ (fun x=>by rfl) xs
theorem k6.len (x:k6):x.cells.length = 3:=rfl
theorem k6.cells_mk (f0 f1:Int) (f2:List (List D)):k6.cells (k6.mk f0 f1 f2) = [.int .i64 f0,.int .i64 f1,.sl (cM cD f2)]:=rfl
structure dL where
 Ask:Int
 Term:k6
 deriving Inhabited
def dL.cells (x:dL):List D:=[.int .i64 x.Ask,.int .i64 x.Term.Op,.int .i64 x.Term.N,.sl (cM cD x.Term.Args)]
theorem dL.sized (xs:List dL):sized 4 (cM dL.cells xs) = true:=i6 _ _ (fun x=>by rfl) xs
theorem dL.len (x:dL):x.cells.length = 4:=rfl
theorem dL.size {β:Type} (x:dL) (y:Option β):qE x.cells 4 y = y:=rfl
theorem dL.put {β:Type} (x:dL) (id:Nat) (cs:List V) (hc:cs.length = 4) (kw:V->List (Nat × Option aR)->Option β):gD 4 0 id (iS x.cells) (some (.box cs)) kw = kw .any [(id,some (.box (aD x.cells)))]:=gR 4 id _ rfl cs hc
theorem dL.get0 {β:Type} (x:dL) (k:D->Option β):fK x.cells 0 k = k (.int .i64 x.Ask):=rfl
theorem dL.sub0_4 {β:Type} (x:dL) (k:List D->Option β):sN x.cells 0 4 k = k x.cells:=rfl
theorem dL.cells_mk (f0:Int) (f1:k6):dL.cells (dL.mk f0 f1) = [.int .i64 f0,.int .i64 f1.Op,.int .i64 f1.N,.sl (cM cD f1.Args)]:=rfl
structure b4 where
 Name:ByteArray
 Accepts:Bool
 Choices:List cW
 Rules:List dL
 deriving Inhabited
def b4.cells (x:b4):List D:=[.str x.Name,.bool x.Accepts,.sl (cM cW.cells x.Choices),.sl (cM dL.cells x.Rules)]
theorem b4.sized (xs:List b4):sized 4 (cM b4.cells xs) = true:=i6 _ _ (fun x=>by rfl) xs
theorem b4.len (x:b4):x.cells.length = 4:=rfl
theorem b4.size {β:Type} (x:b4) (y:Option β):qE x.cells 4 y = y:=rfl
theorem b4.st_own {β:Type} (x:b4) (i v sz off id:Nat) (kw:V->List (Nat × Option aR)->Option β):gD sz off id (.own i v) (some (.box (aD x.cells))) kw = gD sz off id (.own i v) (some (.box [.d (.str x.Name),.d (.bool x.Accepts),.d (.sl (cM cW.cells x.Choices)),.d (.sl (cM dL.cells x.Rules))])) kw:=rfl
theorem b4.put {β:Type} (x:b4) (id:Nat) (cs:List V) (hc:cs.length = 4) (kw:V->List (Nat × Option aR)->Option β):gD 4 0 id (iS x.cells) (some (.box cs)) kw = kw .any [(id,some (.box (aD x.cells)))]:=gR 4 id _ rfl cs hc
theorem b4.rset {β:Type} (x:b4) (off:Nat) (d:D) (ds:List D) (n:Nat) (k:List D->Option β):nB x.cells off (d :: ds) n k = nB [.str x.Name,.bool x.Accepts,.sl (cM cW.cells x.Choices),.sl (cM dL.cells x.Rules)] off (d :: ds) n k:=rfl
theorem b4.get0 {β:Type} (x:b4) (k:D->Option β):fK x.cells 0 k = k (.str x.Name):=rfl
theorem b4.get1 {β:Type} (x:b4) (k:D->Option β):fK x.cells 1 k = k (.bool x.Accepts):=rfl
theorem b4.get2 {β:Type} (x:b4) (k:D->Option β):fK x.cells 2 k = k (.sl (cM cW.cells x.Choices)):=rfl
theorem b4.get3 {β:Type} (x:b4) (k:D->Option β):fK x.cells 3 k = k (.sl (cM dL.cells x.Rules)):=rfl
theorem b4.sub0_4 {β:Type} (x:b4) (k:List D->Option β):sN x.cells 0 4 k = k x.cells:=rfl
theorem b4.cells_mk (f0:ByteArray) (f1:Bool) (f2:List cW) (f3:List dL):b4.cells (b4.mk f0 f1 f2 f3) = [.str f0,.bool f1,.sl (cM cW.cells f2),.sl (cM dL.cells f3)]:=rfl
structure dB where
 From:Int
 To:Int
 Days:Int
 deriving Inhabited
def dB.cells (x:dB):List D:=[.int .i64 x.From,.int .i64 x.To,.int .i64 x.Days]
theorem dB.sized (xs:List dB):sized 3 (cM dB.cells xs) = true:=i6 _ _ (fun x=>by rfl) xs
theorem dB.len (x:dB):x.cells.length = 3:=rfl
theorem dB.size {β:Type} (x:dB) (y:Option β):qE x.cells 3 y = y:=rfl
theorem dB.put {β:Type} (x:dB) (id:Nat) (cs:List V) (hc:cs.length = 3) (kw:V->List (Nat × Option aR)->Option β):gD 3 0 id (iS x.cells) (some (.box cs)) kw = kw .any [(id,some (.box (aD x.cells)))]:=gR 3 id _ rfl cs hc
theorem dB.get0 {β:Type} (x:dB) (k:D->Option β):fK x.cells 0 k = k (.int .i64 x.From):=rfl
theorem dB.get1 {β:Type} (x:dB) (k:D->Option β):fK x.cells 1 k = k (.int .i64 x.To):=rfl
theorem dB.get2 {β:Type} (x:dB) (k:D->Option β):fK x.cells 2 k = k (.int .i64 x.Days):=rfl
theorem dB.sub0_3 {β:Type} (x:dB) (k:List D->Option β):sN x.cells 0 3 k = k x.cells:=rfl
theorem dB.cells_mk (f0 f1 f2:Int):dB.cells (dB.mk f0 f1 f2) = [.int .i64 f0,.int .i64 f1,.int .i64 f2]:=rfl
structure eN where
 From:Int
 To:Int
 Num:Int
 Den:Int
 Since:Int
 deriving Inhabited
def eN.cells (x:eN):List D:=[.int .i64 x.From,.int .i64 x.To,.int .i64 x.Num,.int .i64 x.Den,.int .i64 x.Since]
theorem eN.sized (xs:List eN):sized 5 (cM eN.cells xs) = true:=i6 _ _ (fun x=>by rfl) xs
theorem eN.len (x:eN):x.cells.length = 5:=rfl
theorem eN.size {β:Type} (x:eN) (y:Option β):qE x.cells 5 y = y:=rfl
theorem eN.put {β:Type} (x:eN) (id:Nat) (cs:List V) (hc:cs.length = 5) (kw:V->List (Nat × Option aR)->Option β):gD 5 0 id (iS x.cells) (some (.box cs)) kw = kw .any [(id,some (.box (aD x.cells)))]:=gR 5 id _ rfl cs hc
theorem eN.get0 {β:Type} (x:eN) (k:D->Option β):fK x.cells 0 k = k (.int .i64 x.From):=rfl
theorem eN.get1 {β:Type} (x:eN) (k:D->Option β):fK x.cells 1 k = k (.int .i64 x.To):=rfl
theorem eN.get2 {β:Type} (x:eN) (k:D->Option β):fK x.cells 2 k = k (.int .i64 x.Num):=rfl
theorem eN.get3 {β:Type} (x:eN) (k:D->Option β):fK x.cells 3 k = k (.int .i64 x.Den):=rfl
theorem eN.get4 {β:Type} (x:eN) (k:D->Option β):fK x.cells 4 k = k (.int .i64 x.Since):=rfl
theorem eN.sub0_5 {β:Type} (x:eN) (k:List D->Option β):sN x.cells 0 5 k = k x.cells:=rfl
theorem eN.cells_mk (f0 f1 f2 f3 f4:Int):eN.cells (eN.mk f0 f1 f2 f3 f4) = [.int .i64 f0,.int .i64 f1,.int .i64 f2,.int .i64 f3,.int .i64 f4]:=rfl
structure eY where
 Order:Int
 From:Int
 To:Int
 deriving Inhabited
def eY.cells (x:eY):List D:=[.int .i64 x.Order,.int .i64 x.From,.int .i64 x.To]
theorem eY.sized (xs:List eY):sized 3 (cM eY.cells xs) = true:=i6 _ _ (fun x=>by rfl) xs
theorem eY.len (x:eY):x.cells.length = 3:=rfl
theorem eY.size {β:Type} (x:eY) (y:Option β):qE x.cells 3 y = y:=rfl
theorem eY.put {β:Type} (x:eY) (id:Nat) (cs:List V) (hc:cs.length = 3) (kw:V->List (Nat × Option aR)->Option β):gD 3 0 id (iS x.cells) (some (.box cs)) kw = kw .any [(id,some (.box (aD x.cells)))]:=gR 3 id _ rfl cs hc
theorem eY.get0 {β:Type} (x:eY) (k:D->Option β):fK x.cells 0 k = k (.int .i64 x.Order):=rfl
theorem eY.get1 {β:Type} (x:eY) (k:D->Option β):fK x.cells 1 k = k (.int .i64 x.From):=rfl
theorem eY.get2 {β:Type} (x:eY) (k:D->Option β):fK x.cells 2 k = k (.int .i64 x.To):=rfl
theorem eY.sub0_3 {β:Type} (x:eY) (k:List D->Option β):sN x.cells 0 3 k = k x.cells:=rfl
theorem eY.cells_mk (f0 f1 f2:Int):eY.cells (eY.mk f0 f1 f2) = [.int .i64 f0,.int .i64 f1,.int .i64 f2]:=rfl
structure aB where
 Currencies:List ByteArray
 Cities:List dT
 Groups:List eH
 Firms:List eV
 Orders:List b4
 Usances:List dB
 Rates:List eN
 Halts:List eY
 deriving Inhabited
def aB.cells (x:aB):List D:=[.sl (cM cS x.Currencies),.sl (cM dT.cells x.Cities),.sl (cM eH.cells x.Groups),.sl (cM eV.cells x.Firms),.sl (cM b4.cells x.Orders),.sl (cM dB.cells x.Usances),.sl (cM eN.cells x.Rates),.sl (cM eY.cells x.Halts)]
theorem aB.sized (xs:List aB):sized 8 (cM aB.cells xs) = true:=i6 _ _ (fun x=>by rfl) xs
theorem aB.len (x:aB):x.cells.length = 8:=rfl
theorem aB.st_own {β:Type} (x:aB) (i v sz off id:Nat) (kw:V->List (Nat × Option aR)->Option β):gD sz off id (.own i v) (some (.box (aD x.cells))) kw = gD sz off id (.own i v) (some (.box [.d (.sl (cM cS x.Currencies)),.d (.sl (cM dT.cells x.Cities)),.d (.sl (cM eH.cells x.Groups)),.d (.sl (cM eV.cells x.Firms)),.d (.sl (cM b4.cells x.Orders)),.d (.sl (cM dB.cells x.Usances)),.d (.sl (cM eN.cells x.Rates)),.d (.sl (cM eY.cells x.Halts))])) kw:=rfl
theorem aB.put {β:Type} (x:aB) (id:Nat) (cs:List V) (hc:cs.length = 8) (kw:V->List (Nat × Option aR)->Option β):gD 8 0 id (iS x.cells) (some (.box cs)) kw = kw .any [(id,some (.box (aD x.cells)))]:=gR 8 id _ rfl cs hc
theorem aB.get0 {β:Type} (x:aB) (k:D->Option β):fK x.cells 0 k = k (.sl (cM cS x.Currencies)):=rfl
theorem aB.get1 {β:Type} (x:aB) (k:D->Option β):fK x.cells 1 k = k (.sl (cM dT.cells x.Cities)):=rfl
theorem aB.get2 {β:Type} (x:aB) (k:D->Option β):fK x.cells 2 k = k (.sl (cM eH.cells x.Groups)):=rfl
theorem aB.get3 {β:Type} (x:aB) (k:D->Option β):fK x.cells 3 k = k (.sl (cM eV.cells x.Firms)):=rfl
theorem aB.get4 {β:Type} (x:aB) (k:D->Option β):fK x.cells 4 k = k (.sl (cM b4.cells x.Orders)):=rfl
theorem aB.get5 {β:Type} (x:aB) (k:D->Option β):fK x.cells 5 k = k (.sl (cM dB.cells x.Usances)):=rfl
theorem aB.get6 {β:Type} (x:aB) (k:D->Option β):fK x.cells 6 k = k (.sl (cM eN.cells x.Rates)):=rfl
theorem aB.get7 {β:Type} (x:aB) (k:D->Option β):fK x.cells 7 k = k (.sl (cM eY.cells x.Halts)):=rfl
theorem aB.sub0_8 {β:Type} (x:aB) (k:List D->Option β):sN x.cells 0 8 k = k x.cells:=rfl
theorem aB.cells_mk (f0:List ByteArray) (f1:List dT) (f2:List eH) (f3:List eV) (f4:List b4) (f5:List dB) (f6:List eN) (f7:List eY):aB.cells (aB.mk f0 f1 f2 f3 f4 f5 f6 f7) = [.sl (cM cS f0),.sl (cM dT.cells f1),.sl (cM eH.cells f2),.sl (cM eV.cells f3),.sl (cM b4.cells f4),.sl (cM dB.cells f5),.sl (cM eN.cells f6),.sl (cM eY.cells f7)]:=rfl
structure aA where
 Kind:Int
 Forum:Int
 Ask:Int
 Places:List Int
 Path:List Int
 deriving Inhabited
def aA.cells (x:aA):List D:=[.int .i64 x.Kind,.int .i64 x.Forum,.int .i64 x.Ask,.sl (cM cI x.Places),.sl (cM cI x.Path)]
theorem aA.sized (xs:List aA):sized 5 (cM aA.cells xs) = true:=i6 _ _ (fun x=>by rfl) xs
theorem aA.len (x:aA):x.cells.length = 5:=rfl
theorem aA.size {β:Type} (x:aA) (y:Option β):qE x.cells 5 y = y:=rfl
theorem aA.st_d {β:Type} (x:aA) (y:D) (sz off id:Nat) (kw:V->List (Nat × Option aR)->Option β):gD sz off id (.d y) (some (.box (aD x.cells))) kw = gD sz off id (.d y) (some (.box [.d (.int .i64 x.Kind),.d (.int .i64 x.Forum),.d (.int .i64 x.Ask),.d (.sl (cM cI x.Places)),.d (.sl (cM cI x.Path))])) kw:=rfl
theorem aA.st_own {β:Type} (x:aA) (i v sz off id:Nat) (kw:V->List (Nat × Option aR)->Option β):gD sz off id (.own i v) (some (.box (aD x.cells))) kw = gD sz off id (.own i v) (some (.box [.d (.int .i64 x.Kind),.d (.int .i64 x.Forum),.d (.int .i64 x.Ask),.d (.sl (cM cI x.Places)),.d (.sl (cM cI x.Path))])) kw:=rfl
theorem aA.put {β:Type} (x:aA) (id:Nat) (cs:List V) (hc:cs.length = 5) (kw:V->List (Nat × Option aR)->Option β):gD 5 0 id (iS x.cells) (some (.box cs)) kw = kw .any [(id,some (.box (aD x.cells)))]:=gR 5 id _ rfl cs hc
theorem aA.get0 {β:Type} (x:aA) (k:D->Option β):fK x.cells 0 k = k (.int .i64 x.Kind):=rfl
theorem aA.get1 {β:Type} (x:aA) (k:D->Option β):fK x.cells 1 k = k (.int .i64 x.Forum):=rfl
theorem aA.get2 {β:Type} (x:aA) (k:D->Option β):fK x.cells 2 k = k (.int .i64 x.Ask):=rfl
theorem aA.get3 {β:Type} (x:aA) (k:D->Option β):fK x.cells 3 k = k (.sl (cM cI x.Places)):=rfl
theorem aA.get4 {β:Type} (x:aA) (k:D->Option β):fK x.cells 4 k = k (.sl (cM cI x.Path)):=rfl
theorem aA.sub0_5 {β:Type} (x:aA) (k:List D->Option β):sN x.cells 0 5 k = k x.cells:=rfl
theorem aA.cells_mk (f0 f1 f2:Int) (f3 f4:List Int):aA.cells (aA.mk f0 f1 f2 f3 f4) = [.int .i64 f0,.int .i64 f1,.int .i64 f2,.sl (cM cI f3),.sl (cM cI f4)]:=rfl
structure b9 where
 e0:Option aA
 e1:Option aA
 deriving Inhabited
def b9.cells (x:b9):List D:=[eB aA.cells x.e0,eB aA.cells x.e1]
theorem b9.sized (xs:List b9):sized 2 (cM b9.cells xs) = true:=i6 _ _ (fun x=>by rfl) xs
theorem b9.len (x:b9):x.cells.length = 2:=rfl
theorem b9.size {β:Type} (x:b9) (y:Option β):qE x.cells 2 y = y:=rfl
theorem b9.get0 {β:Type} (x:b9) (k:D->Option β):fK x.cells 0 k = k (eB aA.cells x.e0):=rfl
theorem b9.get1 {β:Type} (x:b9) (k:D->Option β):fK x.cells 1 k = k (eB aA.cells x.e1):=rfl
theorem b9.cells_mk (f0 f1:Option aA):b9.cells (b9.mk f0 f1) = [eB aA.cells f0,eB aA.cells f1]:=rfl
theorem aGh {β:Type} (x:Int) (k:D->Option β):fK (cI x) 0 k = k (.int .i64 x):=rfl
theorem aDU {β:Type} (x:Int) (off:Nat) (d:D) (ds:List D) (n:Nat) (k:List D->Option β):nB (cI x) off (d :: ds) n k = nB [.int .i64 x] off (d :: ds) n k:=rfl
theorem aDN {β:Type} (x:Int) (y:Option β):qE (cI x) 1 y = y:=rfl
theorem aFL {β:Type} (x:Bool) (k:D->Option β):fK (cB x) 0 k = k (.bool x):=rfl
theorem aFe {β:Type} (x:Bool) (off:Nat) (d:D) (ds:List D) (n:Nat) (k:List D->Option β):nB (cB x) off (d :: ds) n k = nB [.bool x] off (d :: ds) n k:=rfl
theorem aFT {β:Type} (x:ByteArray) (k:D->Option β):fK (cS x) 0 k = k (.str x):=rfl
theorem aCR {β:Type} (x:ByteArray) (y:Option β):qE (cS x) 1 y = y:=rfl
theorem aDg {β:Type} (x0:D) (y:Option β):qE [x0] 1 y = y:=rfl
theorem aC9 {β:Type} (x0 x1 x2:D) (y:Option β):qE [x0,x1,x2] 3 y = y:=rfl
theorem aEo {β:Type} (x0 x1 x2 x3:D) (y:Option β):qE [x0,x1,x2,x3] 4 y = y:=rfl
theorem aD2 {β:Type} (x0 x1 x2 x3 x4:D) (y:Option β):qE [x0,x1,x2,x3,x4] 5 y = y:=rfl
theorem aFN {β:Type} (i:IntKind) (x:Int) (k:D->Option β):fK (cK i x) 0 k = k (.int i x):=rfl
theorem aEA {β:Type} (i:IntKind) (x:Int) (y:Option β):qE (cK i x) 1 y = y:=rfl
theorem QX {β:Type} (k:List (List D)->Option β):LN 3 [] k = k (cM cI ([]:List Int)):=rfl
theorem LH {β:Type} (a0 a1:Int) (k:List (List D)->Option β):LN 3 [[.int .i64 a0],[.int .i64 a1]] k = k (cM cI ([a0,a1]:List Int)):=rfl
theorem JS {β:Type} (a0 a1 a2:Int) (k:List (List D)->Option β):LN 3 [[.int .i64 a0],[.int .i64 a1],[.int .i64 a2]] k = k (cM cI ([a0,a1,a2]:List Int)):=rfl
theorem HK {β:Type} (a0 a1 a2 a3 a4:Int) (k:List (List D)->Option β):LN 3 [[.int .i64 a0],[.int .i64 a1],[.int .i64 a2],[.int .i64 a3],[.int .i64 a4]] k = k (cM cI ([a0,a1,a2,a3,a4]:List Int)):=rfl
theorem M2 {β:Type} (a0:Int) (k:List (List D)->Option β):LN 3 [[.int .i64 a0]] k = k (cM cI ([a0]:List Int)):=rfl
theorem N5 {β:Type} (k:List (List D)->Option β):LN 34 [] k = k (cM aA.cells ([]:List aA)):=rfl
theorem LK {β:Type} (a0_0 a0_1 a0_2:Int) (a0_3 a0_4:List Int) (k:List (List D)->Option β):LN 34 [[.int .i64 a0_0,.int .i64 a0_1,.int .i64 a0_2,.sl (cM cI a0_3),.sl (cM cI a0_4)]] k = k (cM aA.cells ([(aA.mk a0_0 a0_1 a0_2 a0_3 a0_4)]:List aA)):=rfl
theorem LF {β:Type} (a0:aA) (k:List (List D)->Option β):LN 34 [aA.cells a0] k = k (cM aA.cells ([a0]:List aA)):=rfl
theorem KK {β:Type} (a0_0:ByteArray) (a0_1:Bool) (a0_2:List cW) (a0_3:List dL) (a1_0:ByteArray) (a1_1:Bool) (a1_2:List cW) (a1_3:List dL) (k:List (List D)->Option β):LN 47 [[.str a0_0,.bool a0_1,.sl (cM cW.cells a0_2),.sl (cM dL.cells a0_3)],[.str a1_0,.bool a1_1,.sl (cM cW.cells a1_2),.sl (cM dL.cells a1_3)]] k = k (cM b4.cells ([(b4.mk a0_0 a0_1 a0_2 a0_3),(b4.mk a1_0 a1_1 a1_2 a1_3)]:List b4)):=rfl
theorem JW {β:Type} (a0_0 a0_1:Int) (a0_2:Bool) (a1_0 a1_1:Int) (a1_2:Bool) (k:List (List D)->Option β):LN 50 [[.int .i64 a0_0,.int .i64 a0_1,.bool a0_2],[.int .i64 a1_0,.int .i64 a1_1,.bool a1_2]] k = k (cM cW.cells ([(cW.mk a0_0 a0_1 a0_2),(cW.mk a1_0 a1_1 a1_2)]:List cW)):=rfl
theorem LA {β:Type} (a0_0 a0_1:Int) (a0_2:Bool) (k:List (List D)->Option β):LN 50 [[.int .i64 a0_0,.int .i64 a0_1,.bool a0_2]] k = k (cM cW.cells ([(cW.mk a0_0 a0_1 a0_2)]:List cW)):=rfl
theorem M5 {β:Type} (k:List (List D)->Option β):LN 69 [] k = k (cM dL.cells ([]:List dL)):=rfl
theorem JM {β:Type} (a0_0 a0_1_0 a0_1_1:Int) (k:List (List D)->Option β):LN 69 [[.int .i64 a0_0,.int .i64 a0_1_0,.int .i64 a0_1_1,.sl []]] k = k (cM dL.cells ([(dL.mk a0_0 (k6.mk a0_1_0 a0_1_1 []))]:List dL)):=rfl
theorem OD {β:Type} (k:List (List D)->Option β):LN 9 [] k = k (cM cS ([]:List ByteArray)):=rfl
theorem M4 {β:Type} (a0:ByteArray) (k:List (List D)->Option β):LN 9 [[.str a0]] k = k (cM cS ([a0]:List ByteArray)):=rfl
theorem SQ {β:Type} (xs:List Int) (i:Nat) (a:Int) (k:List (List D)->Option β):CL 3 (cM cI xs) i [.int .i64 a] k = k (cM cI (xs.set i a)):=R6 3 cI xs i a k
set_option linter.defProp false
def DN:=aN (aN (aN (aN (aN (aN (aN (aN @aDR @Q9) (aN @ZI (aN @aAG @T3))) (aN (aN @PY @XA) (aN @Q8 (aN @YC @aCX)))) (aN (aN (aN @aGw @aB7) (aN @ZJ (aN @WV @SE))) (aN (aN @ZE @aAS) (aN @TM (aN @aFd @YX))))) (aN (aN (aN (aN @YV @T2) (aN @ZR (aN @XT @XL))) (aN (aN @ZD @N2) (aN @LL (aN @aDq @VP)))) (aN (aN (aN @K7 @V2) (aN @R9 (aN @RR @QP))) (aN (aN @aBz @SC) (aN @QV (aN @WW @aEE)))))) (aN (aN (aN (aN (aN @aBt @aBn) (aN @KA (aN @aEZ @aFP))) (aN (aN @YL @aCV) (aN @O1 (aN @aA6 @XS)))) (aN (aN (aN @RY @XK) (aN @ZP (aN @YO @R0))) (aN (aN @aE0 @aCZ) (aN @TE (aN @SI @aBp))))) (aN (aN (aN (aN @YT @aDY) (aN @PW (aN @WR @aAJ))) (aN (aN @aCS @aAx) (aN @aBi (aN @V8 @aEG)))) (aN (aN (aN @aAp @aAK) (aN @aD9 (aN @aCz @aF0))) (aN (aN @aFB @aGt) (aN @aAs (aN @aCw @aBS))))))) (aN (aN (aN (aN (aN (aN @aCK @aCQ) (aN @aEF (aN @WS @RK))) (aN (aN @TC @aBO) (aN @ZG (aN @RQ @aAm)))) (aN (aN (aN @WA @ZV) (aN @X6 (aN @aBf @aD8))) (aN (aN @aCJ @aDx) (aN @aGx (aN @aGT @ZN))))) (aN (aN (aN (aN @W7 @aDe) (aN @Y0 (aN @QY @XY))) (aN (aN @N8 @aCF) (aN @aDa (aN @aC0 @aCy)))) (aN (aN (aN @XM @ZM) (aN @aFR (aN @aAt @aDi))) (aN (aN @aE7 @aAq) (aN @LP (aN @X9 @K9)))))) (aN (aN (aN (aN (aN @WM @WU) (aN @SX (aN @J6 @aAw))) (aN (aN @PS @aFj) (aN @ZZ (aN @S2 @QI)))) (aN (aN (aN @TX @W6) (aN @TP (aN @R8 @PO))) (aN (aN @WI @ST) (aN @aDC (aN @aDB @U2))))) (aN (aN (aN (aN @WE @V0) (aN @aAc (aN @aA2 @aDO))) (aN (aN @ZH @aB2) (aN @Y8 (aN @PV @aCG)))) (aN (aN (aN @aE4 @QO) (aN @RD (aN @RG @aAb))) (aN (aN @aAu (aN @VX @PZ)) (aN @OW (aN @aEB @aDA)))))))) (aN (aN (aN (aN (aN (aN (aN @PQ @aDX) (aN @aGE (aN @aEl @aHw))) (aN (aN @N6 @O3) (aN @Q0 (aN @aDV @aG8)))) (aN (aN (aN @aH1 @aHs) (aN @aBC (aN @aBL @aAL))) (aN (aN @aAz @Z3) (aN @aBU (aN @aBT @aBx))))) (aN (aN (aN (aN @ZF @ZY) (aN @aCe (aN @X5 @WZ))) (aN (aN @aD3 @aDK) (aN @aBm (aN @MK @H4)))) (aN (aN (aN @aEY @V7) (aN @aCH (aN @aCu @SA))) (aN (aN @aFf @aFX) (aN @aGU (aN @X7 @RH)))))) (aN (aN (aN (aN (aN @SB @UV) (aN @aCb (aN @S6 @X1))) (aN (aN @SZ @aHz) (aN @aCW (aN @aBI @W1)))) (aN (aN (aN @aDr @aE9) (aN @V4 (aN @aGB @aBQ))) (aN (aN @aBY @QK) (aN @WP (aN @aGc @PN))))) (aN (aN (aN (aN @XD @aBo) (aN @aGS (aN @aGb @aES))) (aN (aN @aA7 @YF) (aN @TU (aN @aCL @aGG)))) (aN (aN (aN @aGk @aFW) (aN @WH (aN @R7 @WN))) (aN (aN @TO @aEI) (aN @aEa (aN @aC3 @aGu))))))) (aN (aN (aN (aN (aN (aN @ZW @LE) (aN @KU (aN @aDy @XZ))) (aN (aN @YA @TD) (aN @YH (aN @PB @PU)))) (aN (aN (aN @SL @aAQ) (aN @aAC (aN @TF @RZ))) (aN (aN @QG @RF) (aN @LR (aN @PF @aFU))))) (aN (aN (aN (aN @aBa @ZS) (aN @W0 (aN @aEQ @aDc))) (aN (aN @aF3 @ZK) (aN @aGl (aN @aF8 @X0)))) (aN (aN (aN @WG @SH) (aN @P8 (aN @Y6 @RO))) (aN (aN @aCd @aBd) (aN @aCN (aN @aAX @aB1)))))) (aN (aN (aN (aN (aN @XG @W2) (aN @Z9 (aN @WO @M7))) (aN (aN @T5 @Q5) (aN @VW (aN @SW @IL)))) (aN (aN (aN @aCo @YR) (aN @aBF (aN @aDs @UL))) (aN (aN @Z2 @XN) (aN @aAD (aN @UA @WC))))) (aN (aN (aN (aN @aCs @aAI) (aN @aB3 (aN @aCl @aGL))) (aN (aN @NB @aGO) (aN @aGH (aN @aAo @aGy)))) (aN (aN (aN @aAj @M6) (aN @WQ (aN @Z6 @YN))) (aN (aN @aDT (aN @YW @S7)) (aN @TY (aN @ZB @aAN))))))))
def DR:=aN (aN (aN (aN (aN (aN @dT.size (aN @dT.put @dT.get0)) (aN @dT.get1 (aN @dT.get2 @dT.get3))) (aN (aN @dT.get4 (aN @dT.get5 @dT.sub0_6)) (aN (aN @eH.size @eH.put) (aN @eH.get0 @eH.sub0_1)))) (aN (aN (aN @eV.size (aN @eV.put @eV.get0)) (aN (aN @eV.get1 @eV.get2) (aN @eV.sub0_3 @cW.size))) (aN (aN @cW.put (aN @cW.get0 @cW.get1)) (aN (aN @cW.get2 @cW.sub0_3) (aN @dL.size @dL.put))))) (aN (aN (aN (aN @dL.get0 (aN @dL.sub0_4 @b4.size)) (aN (aN @b4.st_own @b4.put) (aN @b4.rset @b4.get0))) (aN (aN @b4.get1 (aN @b4.get2 @b4.get3)) (aN (aN @b4.sub0_4 @dB.size) (aN @dB.put @dB.get0)))) (aN (aN (aN @dB.get1 (aN @dB.get2 @dB.sub0_3)) (aN (aN @eN.size @eN.put) (aN @eN.get0 @eN.get1))) (aN (aN @eN.get2 (aN @eN.get3 @eN.get4)) (aN (aN @eN.sub0_5 @eY.size) (aN @eY.put @eY.get0)))))) (aN (aN (aN (aN (aN @eY.get1 (aN @eY.get2 @eY.sub0_3)) (aN (aN @aB.st_own @aB.put) (aN @aB.get0 @aB.get1))) (aN (aN @aB.get2 (aN @aB.get3 @aB.get4)) (aN (aN @aB.get5 @aB.get6) (aN @aB.get7 @aB.sub0_8)))) (aN (aN (aN @aA.size (aN @aA.st_d @aA.st_own)) (aN (aN @aA.put @aA.get0) (aN @aA.get1 @aA.get2))) (aN (aN @aA.get3 (aN @aA.get4 @aA.sub0_5)) (aN (aN @b9.size @b9.get0) (aN @b9.get1 @aGh))))) (aN (aN (aN (aN @aDU (aN @aDN @aFL)) (aN (aN @aFe @aFT) (aN @aCR @aDg))) (aN (aN @aC9 (aN @aEo @aD2)) (aN (aN @aFN @aEA) (aN @QX @LH)))) (aN (aN (aN @JS (aN @HK @M2)) (aN (aN @N5 @LK) (aN @LF @KK))) (aN (aN @JW (aN @LA @M5)) (aN (aN @JM @OD) (aN @M4 @SQ))))))
def DQ:=aN (aN (aN (aN (aN @dT.len @eH.len) (aN @eV.len @cW.len)) (aN (aN @k6.len @dL.len) (aN @b4.len (aN @dB.len @eN.len)))) (aN (aN (aN @eY.len @aB.len) (aN @aA.len (aN @b9.len @dT.cells_mk))) (aN (aN @eH.cells_mk @eV.cells_mk) (aN @cW.cells_mk (aN @k6.cells_mk @dL.cells_mk))))) (aN (aN (aN (aN @b4.cells_mk @dB.cells_mk) (aN @eN.cells_mk (aN @eY.cells_mk @aB.cells_mk))) (aN (aN @aA.cells_mk @b9.cells_mk) (aN @dT.sized (aN @eH.sized @eV.sized)))) (aN (aN (aN @cW.sized @k6.sized) (aN @dL.sized (aN @b4.sized @dB.sized))) (aN (aN @eN.sized @eY.sized) (aN @aB.sized (aN @aA.sized @b9.sized)))))
def DP:=aN @Option.some.injEq (aN @Bool.and_true @List.cons_ne_nil)
end Go.Proofs.Ytjjcaapdaldedaa
