/- The table. Printed by a program. -/
import Derived.Test.YtjjcaapdaldedaaVmH
import Derived.Test.YtjjcaapdaldedaaVmF
import Derived.Test.YtjjcaapdaldedaaVmT
import Derived.Test.YtjjcaapdaldedaaCode1
import Derived.Test.YtjjcaapdaldedaaCode2
set_option linter.unusedVariables false
set_option linter.unusedSimpArgs false
namespace Go.Proofs.Ytjjcaapdaldedaa
open Vm
open Go.RowKit
def o40:List D->Option D:=TX 3 1 8
def TL:List (Nat × Option Def):=[(15,some (.code aMl)),(16,some (.code aMU)),(28,some (.code aMq)),(71,some (.code aMk)),(79,some (.code aMK)),(72,some (.code aMs)),(57,some (.code aMT)),(30,some (.code aMw)),(29,some (.code aMO)),(33,some (.code aL6)),(58,some (.code aL4)),(32,some (.code aMM)),(31,some (.code aMa)),(34,some (.code aLN)),(36,some (.code aMQ)),(35,some (.code aMb)),(37,some (.code aLV)),(38,some (.code aLY)),(18,some (.code aL2)),(43,some (.code aLM)),(54,some (.code aLJ)),(68,some (.code aLO)),(53,some (.code aMJ)),(25,some (.code aL3)),(60,some (.code aMA)),(44,some (.code aMS)),(80,some (.code aL5)),(73,some (.code aLK)),(59,some (.code aMP)),(41,some (.code aMf)),(19,some (.code aLL)),(8,some (.code sf8)),(27,some (.code aMu)),(22,some (.code aL1)),(10,some (.code aMp)),(67,some (.code aL8)),(77,some (.code aMR)),(66,some (.code aMi)),(51,some (.code aMD)),(52,some (.code aLT)),(23,some (.code aMe)),(24,some (.code aMd)),(11,some (.code aLP)),(13,some (.code aMy)),(6,some (.code sf6)),(17,some (.code aLZ)),(7,some (.code sf7)),(5,some (.code sf5)),(40,some (.told o40))]
def TT:zS:=fun f=>lk TL none f
structure aW where
 Name:ByteArray
 Order:Int
 Currency:Int
 Rest:List Int
 Feasts:List Int
 Shut:List Int
 deriving Inhabited
def aW.cells (x:aW):List D:=[.str x.Name,.int .i64 x.Order,.int .i64 x.Currency,.sl (cM cI x.Rest),.sl (cM cI x.Feasts),.sl (cM cI x.Shut)]
theorem aW.sized (xs:List aW):sized 6 (cM aW.cells xs) = true:=jD _ _ (fun x=>by rfl) xs
theorem aW.len (x:aW):x.cells.length = 6:=rfl
theorem aW.size {β:Type} (x:aW) (y:Option β):rH x.cells 6 y = y:=rfl
theorem aW.put {β:Type} (x:aW) (id:Nat) (cs:List V) (hc:cs.length = 6) (kw:V->List (Nat × Option aH)->Option β):fK 6 0 id (jQ x.cells) (some (.box cs)) kw = kw .any [(id,some (.box (aR x.cells)))]:=gJ 6 id _ rfl cs hc
theorem aW.get0 {β:Type} (x:aW) (k:D->Option β):dM x.cells 0 k = k (.str x.Name):=rfl
theorem aW.get1 {β:Type} (x:aW) (k:D->Option β):dM x.cells 1 k = k (.int .i64 x.Order):=rfl
theorem aW.get2 {β:Type} (x:aW) (k:D->Option β):dM x.cells 2 k = k (.int .i64 x.Currency):=rfl
theorem aW.get3 {β:Type} (x:aW) (k:D->Option β):dM x.cells 3 k = k (.sl (cM cI x.Rest)):=rfl
theorem aW.get4 {β:Type} (x:aW) (k:D->Option β):dM x.cells 4 k = k (.sl (cM cI x.Feasts)):=rfl
theorem aW.get5 {β:Type} (x:aW) (k:D->Option β):dM x.cells 5 k = k (.sl (cM cI x.Shut)):=rfl
theorem aW.sub0_6 {β:Type} (x:aW) (k:List D->Option β):vT x.cells 0 6 k = k x.cells:=rfl
theorem aW.cells_mk (f0:ByteArray) (f1 f2:Int) (f3 f4 f5:List Int):aW.cells (aW.mk f0 f1 f2 f3 f4 f5) = [.str f0,.int .i64 f1,.int .i64 f2,.sl (cM cI f3),.sl (cM cI f4),.sl (cM cI f5)]:=rfl
structure bI where
 Grade:Int
 deriving Inhabited
def bI.cells (x:bI):List D:=[.int .i64 x.Grade]
theorem bI.sized (xs:List bI):sized 1 (cM bI.cells xs) = true:=jD _ _ (fun x=>by rfl) xs
theorem bI.len (x:bI):x.cells.length = 1:=rfl
theorem bI.size {β:Type} (x:bI) (y:Option β):rH x.cells 1 y = y:=rfl
theorem bI.put {β:Type} (x:bI) (id:Nat) (cs:List V) (hc:cs.length = 1) (kw:V->List (Nat × Option aH)->Option β):fK 1 0 id (jQ x.cells) (some (.box cs)) kw = kw .any [(id,some (.box (aR x.cells)))]:=gJ 1 id _ rfl cs hc
theorem bI.get0 {β:Type} (x:bI) (k:D->Option β):dM x.cells 0 k = k (.int .i64 x.Grade):=rfl
theorem bI.sub0_1 {β:Type} (x:bI) (k:List D->Option β):vT x.cells 0 1 k = k x.cells:=rfl
theorem bI.cells_mk (f0:Int):bI.cells (bI.mk f0) = [.int .i64 f0]:=rfl
structure bO where
 Name:ByteArray
 City:Int
 Group:Int
 deriving Inhabited
def bO.cells (x:bO):List D:=[.str x.Name,.int .i64 x.City,.int .i64 x.Group]
theorem bO.sized (xs:List bO):sized 3 (cM bO.cells xs) = true:=jD _ _ (fun x=>by rfl) xs
theorem bO.len (x:bO):x.cells.length = 3:=rfl
theorem bO.size {β:Type} (x:bO) (y:Option β):rH x.cells 3 y = y:=rfl
theorem bO.put {β:Type} (x:bO) (id:Nat) (cs:List V) (hc:cs.length = 3) (kw:V->List (Nat × Option aH)->Option β):fK 3 0 id (jQ x.cells) (some (.box cs)) kw = kw .any [(id,some (.box (aR x.cells)))]:=gJ 3 id _ rfl cs hc
theorem bO.get0 {β:Type} (x:bO) (k:D->Option β):dM x.cells 0 k = k (.str x.Name):=rfl
theorem bO.get1 {β:Type} (x:bO) (k:D->Option β):dM x.cells 1 k = k (.int .i64 x.City):=rfl
theorem bO.get2 {β:Type} (x:bO) (k:D->Option β):dM x.cells 2 k = k (.int .i64 x.Group):=rfl
theorem bO.sub0_3 {β:Type} (x:bO) (k:List D->Option β):vT x.cells 0 3 k = k x.cells:=rfl
theorem bO.cells_mk (f0:ByteArray) (f1 f2:Int):bO.cells (bO.mk f0 f1 f2) = [.str f0,.int .i64 f1,.int .i64 f2]:=rfl
structure aK where
 Ask:Int
 By:Int
 Whole:Bool
 deriving Inhabited
def aK.cells (x:aK):List D:=[.int .i64 x.Ask,.int .i64 x.By,.bool x.Whole]
theorem aK.sized (xs:List aK):sized 3 (cM aK.cells xs) = true:=jD _ _ (fun x=>by rfl) xs
theorem aK.len (x:aK):x.cells.length = 3:=rfl
theorem aK.size {β:Type} (x:aK) (y:Option β):rH x.cells 3 y = y:=rfl
theorem aK.put {β:Type} (x:aK) (id:Nat) (cs:List V) (hc:cs.length = 3) (kw:V->List (Nat × Option aH)->Option β):fK 3 0 id (jQ x.cells) (some (.box cs)) kw = kw .any [(id,some (.box (aR x.cells)))]:=gJ 3 id _ rfl cs hc
theorem aK.get0 {β:Type} (x:aK) (k:D->Option β):dM x.cells 0 k = k (.int .i64 x.Ask):=rfl
theorem aK.get1 {β:Type} (x:aK) (k:D->Option β):dM x.cells 1 k = k (.int .i64 x.By):=rfl
theorem aK.get2 {β:Type} (x:aK) (k:D->Option β):dM x.cells 2 k = k (.bool x.Whole):=rfl
theorem aK.sub0_3 {β:Type} (x:aK) (k:List D->Option β):vT x.cells 0 3 k = k x.cells:=rfl
theorem aK.cells_mk (f0 f1:Int) (f2:Bool):aK.cells (aK.mk f0 f1 f2) = [.int .i64 f0,.int .i64 f1,.bool f2]:=rfl
structure lB where
 Op:Int
 N:Int
 Args:List (List D)
 deriving Inhabited
def lB.cells (x:lB):List D:=[.int .i64 x.Op,.int .i64 x.N,.sl (cM cD x.Args)]
theorem lB.sized (xs:List lB):sized 3 (cM lB.cells xs) = true:=jD _ _ (fun x=>by rfl) xs
theorem lB.len (x:lB):x.cells.length = 3:=rfl
theorem lB.cells_mk (f0 f1:Int) (f2:List (List D)):lB.cells (lB.mk f0 f1 f2) = [.int .i64 f0,.int .i64 f1,.sl (cM cD f2)]:=rfl
structure aV where
 Ask:Int
 Term:lB
 deriving Inhabited
def aV.cells (x:aV):List D:=[.int .i64 x.Ask,.int .i64 x.Term.Op,.int .i64 x.Term.N,.sl (cM cD x.Term.Args)]
theorem aV.sized (xs:List aV):sized 4 (cM aV.cells xs) = true:=jD _ _ (fun x=>by rfl) xs
theorem aV.len (x:aV):x.cells.length = 4:=rfl
theorem aV.size {β:Type} (x:aV) (y:Option β):rH x.cells 4 y = y:=rfl
theorem aV.put {β:Type} (x:aV) (id:Nat) (cs:List V) (hc:cs.length = 4) (kw:V->List (Nat × Option aH)->Option β):fK 4 0 id (jQ x.cells) (some (.box cs)) kw = kw .any [(id,some (.box (aR x.cells)))]:=gJ 4 id _ rfl cs hc
theorem aV.get0 {β:Type} (x:aV) (k:D->Option β):dM x.cells 0 k = k (.int .i64 x.Ask):=rfl
theorem aV.sub0_4 {β:Type} (x:aV) (k:List D->Option β):vT x.cells 0 4 k = k x.cells:=rfl
theorem aV.cells_mk (f0:Int) (f1:lB):aV.cells (aV.mk f0 f1) = [.int .i64 f0,.int .i64 f1.Op,.int .i64 f1.N,.sl (cM cD f1.Args)]:=rfl
structure aC where
 Name:ByteArray
 Accepts:Bool
 Choices:List aK
 Rules:List aV
 deriving Inhabited
def aC.cells (x:aC):List D:=[.str x.Name,.bool x.Accepts,.sl (cM aK.cells x.Choices),.sl (cM aV.cells x.Rules)]
theorem aC.sized (xs:List aC):sized 4 (cM aC.cells xs) = true:=jD _ _ (fun x=>by rfl) xs
theorem aC.len (x:aC):x.cells.length = 4:=rfl
theorem aC.size {β:Type} (x:aC) (y:Option β):rH x.cells 4 y = y:=rfl
theorem aC.st_own {β:Type} (x:aC) (i v sz off id:Nat) (kw:V->List (Nat × Option aH)->Option β):fK sz off id (.own i v) (some (.box (aR x.cells))) kw = fK sz off id (.own i v) (some (.box [.d (.str x.Name),.d (.bool x.Accepts),.d (.sl (cM aK.cells x.Choices)),.d (.sl (cM aV.cells x.Rules))])) kw:=rfl
theorem aC.put {β:Type} (x:aC) (id:Nat) (cs:List V) (hc:cs.length = 4) (kw:V->List (Nat × Option aH)->Option β):fK 4 0 id (jQ x.cells) (some (.box cs)) kw = kw .any [(id,some (.box (aR x.cells)))]:=gJ 4 id _ rfl cs hc
theorem aC.rset {β:Type} (x:aC) (off:Nat) (d:D) (ds:List D) (n:Nat) (k:List D->Option β):rN x.cells off (d :: ds) n k = rN [.str x.Name,.bool x.Accepts,.sl (cM aK.cells x.Choices),.sl (cM aV.cells x.Rules)] off (d :: ds) n k:=rfl
theorem aC.get0 {β:Type} (x:aC) (k:D->Option β):dM x.cells 0 k = k (.str x.Name):=rfl
theorem aC.get1 {β:Type} (x:aC) (k:D->Option β):dM x.cells 1 k = k (.bool x.Accepts):=rfl
theorem aC.get2 {β:Type} (x:aC) (k:D->Option β):dM x.cells 2 k = k (.sl (cM aK.cells x.Choices)):=rfl
theorem aC.get3 {β:Type} (x:aC) (k:D->Option β):dM x.cells 3 k = k (.sl (cM aV.cells x.Rules)):=rfl
theorem aC.sub0_4 {β:Type} (x:aC) (k:List D->Option β):vT x.cells 0 4 k = k x.cells:=rfl
theorem aC.cells_mk (f0:ByteArray) (f1:Bool) (f2:List aK) (f3:List aV):aC.cells (aC.mk f0 f1 f2 f3) = [.str f0,.bool f1,.sl (cM aK.cells f2),.sl (cM aV.cells f3)]:=rfl
structure aO where
 From:Int
 To:Int
 Days:Int
 deriving Inhabited
def aO.cells (x:aO):List D:=[.int .i64 x.From,.int .i64 x.To,.int .i64 x.Days]
theorem aO.sized (xs:List aO):sized 3 (cM aO.cells xs) = true:=jD _ _ (fun x=>by rfl) xs
theorem aO.len (x:aO):x.cells.length = 3:=rfl
theorem aO.size {β:Type} (x:aO) (y:Option β):rH x.cells 3 y = y:=rfl
theorem aO.put {β:Type} (x:aO) (id:Nat) (cs:List V) (hc:cs.length = 3) (kw:V->List (Nat × Option aH)->Option β):fK 3 0 id (jQ x.cells) (some (.box cs)) kw = kw .any [(id,some (.box (aR x.cells)))]:=gJ 3 id _ rfl cs hc
theorem aO.get0 {β:Type} (x:aO) (k:D->Option β):dM x.cells 0 k = k (.int .i64 x.From):=rfl
theorem aO.get1 {β:Type} (x:aO) (k:D->Option β):dM x.cells 1 k = k (.int .i64 x.To):=rfl
theorem aO.get2 {β:Type} (x:aO) (k:D->Option β):dM x.cells 2 k = k (.int .i64 x.Days):=rfl
theorem aO.sub0_3 {β:Type} (x:aO) (k:List D->Option β):vT x.cells 0 3 k = k x.cells:=rfl
theorem aO.cells_mk (f0 f1 f2:Int):aO.cells (aO.mk f0 f1 f2) = [.int .i64 f0,.int .i64 f1,.int .i64 f2]:=rfl
structure bK where
 From:Int
 To:Int
 Num:Int
 Den:Int
 Since:Int
 deriving Inhabited
def bK.cells (x:bK):List D:=[.int .i64 x.From,.int .i64 x.To,.int .i64 x.Num,.int .i64 x.Den,.int .i64 x.Since]
theorem bK.sized (xs:List bK):sized 5 (cM bK.cells xs) = true:=jD _ _ (fun x=>by rfl) xs
theorem bK.len (x:bK):x.cells.length = 5:=rfl
theorem bK.size {β:Type} (x:bK) (y:Option β):rH x.cells 5 y = y:=rfl
theorem bK.put {β:Type} (x:bK) (id:Nat) (cs:List V) (hc:cs.length = 5) (kw:V->List (Nat × Option aH)->Option β):fK 5 0 id (jQ x.cells) (some (.box cs)) kw = kw .any [(id,some (.box (aR x.cells)))]:=gJ 5 id _ rfl cs hc
theorem bK.get0 {β:Type} (x:bK) (k:D->Option β):dM x.cells 0 k = k (.int .i64 x.From):=rfl
theorem bK.get1 {β:Type} (x:bK) (k:D->Option β):dM x.cells 1 k = k (.int .i64 x.To):=rfl
theorem bK.get2 {β:Type} (x:bK) (k:D->Option β):dM x.cells 2 k = k (.int .i64 x.Num):=rfl
theorem bK.get3 {β:Type} (x:bK) (k:D->Option β):dM x.cells 3 k = k (.int .i64 x.Den):=rfl
theorem bK.get4 {β:Type} (x:bK) (k:D->Option β):dM x.cells 4 k = k (.int .i64 x.Since):=rfl
theorem bK.sub0_5 {β:Type} (x:bK) (k:List D->Option β):vT x.cells 0 5 k = k x.cells:=rfl
theorem bK.cells_mk (f0 f1 f2 f3 f4:Int):bK.cells (bK.mk f0 f1 f2 f3 f4) = [.int .i64 f0,.int .i64 f1,.int .i64 f2,.int .i64 f3,.int .i64 f4]:=rfl
structure bR where
 Order:Int
 From:Int
 To:Int
 deriving Inhabited
def bR.cells (x:bR):List D:=[.int .i64 x.Order,.int .i64 x.From,.int .i64 x.To]
theorem bR.sized (xs:List bR):sized 3 (cM bR.cells xs) = true:=jD _ _ (fun x=>by rfl) xs
theorem bR.len (x:bR):x.cells.length = 3:=rfl
theorem bR.size {β:Type} (x:bR) (y:Option β):rH x.cells 3 y = y:=rfl
theorem bR.put {β:Type} (x:bR) (id:Nat) (cs:List V) (hc:cs.length = 3) (kw:V->List (Nat × Option aH)->Option β):fK 3 0 id (jQ x.cells) (some (.box cs)) kw = kw .any [(id,some (.box (aR x.cells)))]:=gJ 3 id _ rfl cs hc
theorem bR.get0 {β:Type} (x:bR) (k:D->Option β):dM x.cells 0 k = k (.int .i64 x.Order):=rfl
theorem bR.get1 {β:Type} (x:bR) (k:D->Option β):dM x.cells 1 k = k (.int .i64 x.From):=rfl
theorem bR.get2 {β:Type} (x:bR) (k:D->Option β):dM x.cells 2 k = k (.int .i64 x.To):=rfl
theorem bR.sub0_3 {β:Type} (x:bR) (k:List D->Option β):vT x.cells 0 3 k = k x.cells:=rfl
theorem bR.cells_mk (f0 f1 f2:Int):bR.cells (bR.mk f0 f1 f2) = [.int .i64 f0,.int .i64 f1,.int .i64 f2]:=rfl
structure aB where
 Currencies:List ByteArray
 Cities:List aW
 Groups:List bI
 Firms:List bO
 Orders:List aC
 Usances:List aO
 Rates:List bK
 Halts:List bR
 deriving Inhabited
def aB.cells (x:aB):List D:=[.sl (cM cS x.Currencies),.sl (cM aW.cells x.Cities),.sl (cM bI.cells x.Groups),.sl (cM bO.cells x.Firms),.sl (cM aC.cells x.Orders),.sl (cM aO.cells x.Usances),.sl (cM bK.cells x.Rates),.sl (cM bR.cells x.Halts)]
theorem aB.sized (xs:List aB):sized 8 (cM aB.cells xs) = true:=jD _ _ (fun x=>by rfl) xs
theorem aB.len (x:aB):x.cells.length = 8:=rfl
theorem aB.st_own {β:Type} (x:aB) (i v sz off id:Nat) (kw:V->List (Nat × Option aH)->Option β):fK sz off id (.own i v) (some (.box (aR x.cells))) kw = fK sz off id (.own i v) (some (.box [.d (.sl (cM cS x.Currencies)),.d (.sl (cM aW.cells x.Cities)),.d (.sl (cM bI.cells x.Groups)),.d (.sl (cM bO.cells x.Firms)),.d (.sl (cM aC.cells x.Orders)),.d (.sl (cM aO.cells x.Usances)),.d (.sl (cM bK.cells x.Rates)),.d (.sl (cM bR.cells x.Halts))])) kw:=rfl
theorem aB.put {β:Type} (x:aB) (id:Nat) (cs:List V) (hc:cs.length = 8) (kw:V->List (Nat × Option aH)->Option β):fK 8 0 id (jQ x.cells) (some (.box cs)) kw = kw .any [(id,some (.box (aR x.cells)))]:=gJ 8 id _ rfl cs hc
theorem aB.get0 {β:Type} (x:aB) (k:D->Option β):dM x.cells 0 k = k (.sl (cM cS x.Currencies)):=rfl
theorem aB.get1 {β:Type} (x:aB) (k:D->Option β):dM x.cells 1 k = k (.sl (cM aW.cells x.Cities)):=rfl
theorem aB.get2 {β:Type} (x:aB) (k:D->Option β):dM x.cells 2 k = k (.sl (cM bI.cells x.Groups)):=rfl
theorem aB.get3 {β:Type} (x:aB) (k:D->Option β):dM x.cells 3 k = k (.sl (cM bO.cells x.Firms)):=rfl
theorem aB.get4 {β:Type} (x:aB) (k:D->Option β):dM x.cells 4 k = k (.sl (cM aC.cells x.Orders)):=rfl
theorem aB.get5 {β:Type} (x:aB) (k:D->Option β):dM x.cells 5 k = k (.sl (cM aO.cells x.Usances)):=rfl
theorem aB.get6 {β:Type} (x:aB) (k:D->Option β):dM x.cells 6 k = k (.sl (cM bK.cells x.Rates)):=rfl
theorem aB.get7 {β:Type} (x:aB) (k:D->Option β):dM x.cells 7 k = k (.sl (cM bR.cells x.Halts)):=rfl
theorem aB.sub0_8 {β:Type} (x:aB) (k:List D->Option β):vT x.cells 0 8 k = k x.cells:=rfl
theorem aB.cells_mk (f0:List ByteArray) (f1:List aW) (f2:List bI) (f3:List bO) (f4:List aC) (f5:List aO) (f6:List bK) (f7:List bR):aB.cells (aB.mk f0 f1 f2 f3 f4 f5 f6 f7) = [.sl (cM cS f0),.sl (cM aW.cells f1),.sl (cM bI.cells f2),.sl (cM bO.cells f3),.sl (cM aC.cells f4),.sl (cM aO.cells f5),.sl (cM bK.cells f6),.sl (cM bR.cells f7)]:=rfl
structure aA where
 Kind:Int
 Forum:Int
 Ask:Int
 Places:List Int
 Path:List Int
 deriving Inhabited
def aA.cells (x:aA):List D:=[.int .i64 x.Kind,.int .i64 x.Forum,.int .i64 x.Ask,.sl (cM cI x.Places),.sl (cM cI x.Path)]
theorem aA.sized (xs:List aA):sized 5 (cM aA.cells xs) = true:=jD _ _ (fun x=>by rfl) xs
theorem aA.len (x:aA):x.cells.length = 5:=rfl
theorem aA.size {β:Type} (x:aA) (y:Option β):rH x.cells 5 y = y:=rfl
theorem aA.st_d {β:Type} (x:aA) (y:D) (sz off id:Nat) (kw:V->List (Nat × Option aH)->Option β):fK sz off id (.d y) (some (.box (aR x.cells))) kw = fK sz off id (.d y) (some (.box [.d (.int .i64 x.Kind),.d (.int .i64 x.Forum),.d (.int .i64 x.Ask),.d (.sl (cM cI x.Places)),.d (.sl (cM cI x.Path))])) kw:=rfl
theorem aA.st_own {β:Type} (x:aA) (i v sz off id:Nat) (kw:V->List (Nat × Option aH)->Option β):fK sz off id (.own i v) (some (.box (aR x.cells))) kw = fK sz off id (.own i v) (some (.box [.d (.int .i64 x.Kind),.d (.int .i64 x.Forum),.d (.int .i64 x.Ask),.d (.sl (cM cI x.Places)),.d (.sl (cM cI x.Path))])) kw:=rfl
theorem aA.put {β:Type} (x:aA) (id:Nat) (cs:List V) (hc:cs.length = 5) (kw:V->List (Nat × Option aH)->Option β):fK 5 0 id (jQ x.cells) (some (.box cs)) kw = kw .any [(id,some (.box (aR x.cells)))]:=gJ 5 id _ rfl cs hc
theorem aA.get0 {β:Type} (x:aA) (k:D->Option β):dM x.cells 0 k = k (.int .i64 x.Kind):=rfl
theorem aA.get1 {β:Type} (x:aA) (k:D->Option β):dM x.cells 1 k = k (.int .i64 x.Forum):=rfl
theorem aA.get2 {β:Type} (x:aA) (k:D->Option β):dM x.cells 2 k = k (.int .i64 x.Ask):=rfl
theorem aA.get3 {β:Type} (x:aA) (k:D->Option β):dM x.cells 3 k = k (.sl (cM cI x.Places)):=rfl
theorem aA.get4 {β:Type} (x:aA) (k:D->Option β):dM x.cells 4 k = k (.sl (cM cI x.Path)):=rfl
theorem aA.sub0_5 {β:Type} (x:aA) (k:List D->Option β):vT x.cells 0 5 k = k x.cells:=rfl
theorem aA.cells_mk (f0 f1 f2:Int) (f3 f4:List Int):aA.cells (aA.mk f0 f1 f2 f3 f4) = [.int .i64 f0,.int .i64 f1,.int .i64 f2,.sl (cM cI f3),.sl (cM cI f4)]:=rfl
structure aI where
 e0:Option aA
 e1:Option aA
 deriving Inhabited
def aI.cells (x:aI):List D:=[RQ aA.cells x.e0,RQ aA.cells x.e1]
theorem aI.sized (xs:List aI):sized 2 (cM aI.cells xs) = true:=jD _ _ (fun x=>by rfl) xs
theorem aI.len (x:aI):x.cells.length = 2:=rfl
theorem aI.size {β:Type} (x:aI) (y:Option β):rH x.cells 2 y = y:=rfl
theorem aI.get0 {β:Type} (x:aI) (k:D->Option β):dM x.cells 0 k = k (RQ aA.cells x.e0):=rfl
theorem aI.get1 {β:Type} (x:aI) (k:D->Option β):dM x.cells 1 k = k (RQ aA.cells x.e1):=rfl
theorem aI.cells_mk (f0 f1:Option aA):aI.cells (aI.mk f0 f1) = [RQ aA.cells f0,RQ aA.cells f1]:=rfl
theorem aK7 {β:Type} (x:Int) (k:D->Option β):dM (cI x) 0 k = k (.int .i64 x):=rfl
theorem aHJ {β:Type} (x:Int) (off:Nat) (d:D) (ds:List D) (n:Nat) (k:List D->Option β):rN (cI x) off (d :: ds) n k = rN [.int .i64 x] off (d :: ds) n k:=rfl
theorem aJJ {β:Type} (x:Int) (y:Option β):rH (cI x) 1 y = y:=rfl
theorem aLy {β:Type} (x:ByteArray) (k:D->Option β):dM (cS x) 0 k = k (.str x):=rfl
theorem aHl {β:Type} (x:ByteArray) (y:Option β):rH (cS x) 1 y = y:=rfl
theorem aI4 {β:Type} (x0:D) (y:Option β):rH [x0] 1 y = y:=rfl
theorem aJM {β:Type} (x0 x1 x2:D) (y:Option β):rH [x0,x1,x2] 3 y = y:=rfl
theorem aJQ {β:Type} (x0 x1 x2 x3:D) (y:Option β):rH [x0,x1,x2,x3] 4 y = y:=rfl
theorem aIr {β:Type} (x0 x1 x2 x3 x4:D) (y:Option β):rH [x0,x1,x2,x3,x4] 5 y = y:=rfl
theorem aK5 {β:Type} (i:IntKind) (x:Int) (k:D->Option β):dM (cK i x) 0 k = k (.int i x):=rfl
theorem aJZ {β:Type} (i:IntKind) (x:Int) (y:Option β):rH (cK i x) 1 y = y:=rfl
theorem TO (xs:List aK):(cM aK.cells xs).map (fun r=>dP r 2 [.bool false]) = cM aK.cells (List.map (fun (x:aK)=>(aK.mk x.Ask x.By false)) xs):=aHw aK.cells _ (fun (x:aK)=>(aK.mk x.Ask x.By false)) (fun _=>rfl) xs
theorem VL {β:Type} (k:List (List D)->Option β):QB 3 [] k = k (cM cI ([]:List Int)):=rfl
theorem RV {β:Type} (a0 a1:Int) (k:List (List D)->Option β):QB 3 [[.int .i64 a0],[.int .i64 a1]] k = k (cM cI ([a0,a1]:List Int)):=rfl
theorem Q5 {β:Type} (a0 a1 a2:Int) (k:List (List D)->Option β):QB 3 [[.int .i64 a0],[.int .i64 a1],[.int .i64 a2]] k = k (cM cI ([a0,a1,a2]:List Int)):=rfl
theorem MF {β:Type} (a0 a1 a2 a3 a4:Int) (k:List (List D)->Option β):QB 3 [[.int .i64 a0],[.int .i64 a1],[.int .i64 a2],[.int .i64 a3],[.int .i64 a4]] k = k (cM cI ([a0,a1,a2,a3,a4]:List Int)):=rfl
theorem T1 {β:Type} (a0:Int) (k:List (List D)->Option β):QB 3 [[.int .i64 a0]] k = k (cM cI ([a0]:List Int)):=rfl
theorem U3 {β:Type} (k:List (List D)->Option β):QB 34 [] k = k (cM aA.cells ([]:List aA)):=rfl
theorem RU {β:Type} (a0_0 a0_1 a0_2:Int) (a0_3 a0_4:List Int) (k:List (List D)->Option β):QB 34 [[.int .i64 a0_0,.int .i64 a0_1,.int .i64 a0_2,.sl (cM cI a0_3),.sl (cM cI a0_4)]] k = k (cM aA.cells ([(aA.mk a0_0 a0_1 a0_2 a0_3 a0_4)]:List aA)):=rfl
theorem RG {β:Type} (a0:aA) (k:List (List D)->Option β):QB 34 [aA.cells a0] k = k (cM aA.cells ([a0]:List aA)):=rfl
theorem T9 {β:Type} (k:List (List D)->Option β):QB 47 [] k = k (cM aC.cells ([]:List aC)):=rfl
theorem PQ {β:Type} (a0_0:ByteArray) (a0_1:Bool) (a0_2:List aK) (a0_3:List aV) (a1_0:ByteArray) (a1_1:Bool) (a1_2:List aK) (a1_3:List aV) (k:List (List D)->Option β):QB 47 [[.str a0_0,.bool a0_1,.sl (cM aK.cells a0_2),.sl (cM aV.cells a0_3)],[.str a1_0,.bool a1_1,.sl (cM aK.cells a1_2),.sl (cM aV.cells a1_3)]] k = k (cM aC.cells ([(aC.mk a0_0 a0_1 a0_2 a0_3),(aC.mk a1_0 a1_1 a1_2 a1_3)]:List aC)):=rfl
theorem UH {β:Type} (k:List (List D)->Option β):QB 50 [] k = k (cM aK.cells ([]:List aK)):=rfl
theorem P6 {β:Type} (a0_0 a0_1:Int) (a0_2:Bool) (a1_0 a1_1:Int) (a1_2:Bool) (k:List (List D)->Option β):QB 50 [[.int .i64 a0_0,.int .i64 a0_1,.bool a0_2],[.int .i64 a1_0,.int .i64 a1_1,.bool a1_2]] k = k (cM aK.cells ([(aK.mk a0_0 a0_1 a0_2),(aK.mk a1_0 a1_1 a1_2)]:List aK)):=rfl
theorem RM {β:Type} (a0_0 a0_1:Int) (a0_2:Bool) (k:List (List D)->Option β):QB 50 [[.int .i64 a0_0,.int .i64 a0_1,.bool a0_2]] k = k (cM aK.cells ([(aK.mk a0_0 a0_1 a0_2)]:List aK)):=rfl
theorem UO {β:Type} (k:List (List D)->Option β):QB 69 [] k = k (cM aV.cells ([]:List aV)):=rfl
theorem QI {β:Type} (a0_0 a0_1_0 a0_1_1:Int) (k:List (List D)->Option β):QB 69 [[.int .i64 a0_0,.int .i64 a0_1_0,.int .i64 a0_1_1,.sl []]] k = k (cM aV.cells ([(aV.mk a0_0 (lB.mk a0_1_0 a0_1_1 []))]:List aV)):=rfl
theorem XH {β:Type} (k:List (List D)->Option β):QB 9 [] k = k (cM cS ([]:List ByteArray)):=rfl
theorem UA {β:Type} (a0:ByteArray) (k:List (List D)->Option β):QB 9 [[.str a0]] k = k (cM cS ([a0]:List ByteArray)):=rfl
theorem aAG {β:Type} (xs:List Int) (i:Nat) (a:Int) (k:List (List D)->Option β):D4 3 (cM cI xs) i [.int .i64 a] k = k (cM cI (xs.set i a)):=PV 3 cI xs i a k
theorem W6 {β:Type} (xs:List aC) (i:Nat) (a_0:ByteArray) (a_1:Bool) (a_2:List aK) (a_3:List aV) (k:List (List D)->Option β):D4 47 (cM aC.cells xs) i [.str a_0,.bool a_1,.sl (cM aK.cells a_2),.sl (cM aV.cells a_3)] k = k (cM aC.cells (xs.set i (aC.mk a_0 a_1 a_2 a_3))):=PV 47 aC.cells xs i (aC.mk a_0 a_1 a_2 a_3) k
abbrev kB (a0:aB) (a1 a2:Int) (x y:Option aA) (l:List (Nat × Option aH)):List (Nat × Option aH):=(3,some (.box (aR a0.cells))) :: (4,some (.box [.d (.int .i64 a1)])) :: (5,some (.box [.d (.int .i64 a2)])) :: (6,some (.box [.d .np,.d .np])) :: (7,some (.box [.d (RQ aA.cells x),.d (RQ aA.cells y)])) :: (8,some (.box [.own 13 0])) :: (9,some (.box [.own 15 0])) :: (10,some (.box [.fn 39 [.ptr 4 0,.ptr 5 0,.ptr 8 0,.ptr 9 0,.ptr 3 0,.ptr 7 0]])) :: (11,some (.box [.fn 42 [.ptr 9 0,.ptr 3 0,.ptr 5 0,.ptr 10 0,.ptr 8 0,.ptr 11 0]])) :: l
abbrev kO (x:Int) (r:Int × Bool) (y:Int) (a0:aB) (p:Int):Option aH:=some (.outer [.ptr 9 0,.ptr 3 0,.ptr 10 0,.ptr 8 0,.ptr 11 0,.d (.int .i64 x),.d (.int .i64 r.1),.d (.bool r.2),.d (.bool (y == (-1))),.d (.int .i64 (a0.Orders.length:Int)),.d (.int .i64 p)])
/- all rules as one -/
set_option linter.defProp false
def DN:=aN (aN (aN (aN (aN (aN (aN (aN @aHY @ZK) (aN @aFV @aFk)) (aN (aN @aAq @VU) (aN @aB8 (aN @W3 @aDA)))) (aN (aN (aN @aIW @aK6) (aN @aFz (aN @aFD @aDu))) (aN (aN @ZH @aGO) (aN @aFP (aN @Y9 @aIq))))) (aN (aN (aN (aN @aCv @aCu) (aN @Z0 (aN @aEZ @aCV))) (aN (aN @aCq @aEB) (aN @UT (aN @RI @aIu)))) (aN (aN (aN @aCT @RE) (aN @aC6 (aN @aAM @ZZ))) (aN (aN @VI @aFw) (aN @aAk (aN @aDD @aH9)))))) (aN (aN (aN (aN (aN @O7 @aJl) (aN @aKB (aN @aCO @aIs))) (aN (aN @WI @aGx) (aN @aB5 (aN @ZQ @aCS)))) (aN (aN (aN @aF8 @aDt) (aN @aAh (aN @aJx @aJq))) (aN (aN @Y0 @aAL) (aN @aHa (aN @aDm @aHs))))) (aN (aN (aN (aN @VG @aCs) (aN @aEh (aN @aI5 @aGH))) (aN (aN @aEA @aDn) (aN @aJz (aN @aGK @aEw)))) (aN (aN (aN @aHI @aD1) (aN @aKZ (aN @aLm @aKV))) (aN (aN @aGY @aGs) (aN @aEI (aN @aJ2 @aIZ))))))) (aN (aN (aN (aN (aN (aN @aJU @aCj) (aN @aAE (aN @aAd @aD0))) (aN (aN @aFg @YN) (aN @aE6 (aN @aCx @aF4)))) (aN (aN (aN @aDp @aEX) (aN @aJY (aN @aIC @aH5))) (aN (aN @aKn @aKm) (aN @aF9 (aN @aDL @aIp))))) (aN (aN (aN (aN @aBI @VC) (aN @aDl (aN @UW @aHf))) (aN (aN @aHE @aHP) (aN @aEd (aN @aBY @aG0)))) (aN (aN (aN @aKG @aIL) (aN @aJh (aN @aEj @RW))) (aN (aN @aB1 @RO) (aN @aBM (aN @YT @P3)))))) (aN (aN (aN (aN (aN @aFU @XX) (aN @aJE (aN @aGg @YD))) (aN (aN @VQ @YL) (aN @aB7 (aN @YW @YQ)))) (aN (aN (aN @XI @aC1) (aN @aAj (aN @aHe @aJX))) (aN (aN @aBs @aDJ) (aN @aBS (aN @aFb @aFc))))) (aN (aN (aN (aN @aJW @aE2) (aN @aGF (aN @aEM @X1))) (aN (aN @aHG @aHn) (aN @WL (aN @YM @Z1)))) (aN (aN (aN @aFZ @aFr) (aN @aCg (aN @X3 @XU))) (aN (aN @aIV @aHS) (aN @VF (aN @aIK @aK2)))))))) (aN (aN (aN (aN (aN (aN (aN @aJ0 @aMn) (aN @UF (aN @XL @XM))) (aN (aN @aIk @aMh) (aN @aME (aN @aLS @aGu)))) (aN (aN (aN @aEU @aFj) (aN @aEm (aN @aD3 @aF5))) (aN (aN @aFe @aGb) (aN @aEo (aN @aCR @aIt))))) (aN (aN (aN (aN @aG9 @R5) (aN @N4 (aN @XB @aHo))) (aN (aN @aCc @aJS) (aN @aE1 (aN @ZN @aLe)))) (aN (aN (aN @aLp @aC9) (aN @Z3 (aN @Y3 @aBe))) (aN (aN @aEt @YU) (aN @aDb (aN @ZD @aL7)))))) (aN (aN (aN (aN (aN @aHQ @aGn) (aN @aDh (aN @aI0 @aJu))) (aN (aN @aB4 @aK0) (aN @aF7 (aN @aFx @V4)))) (aN (aN (aN @aCE @aKt) (aN @W5 (aN @aCZ @aFQ))) (aN (aN @aK8 @aLD) (aN @aJv (aN @aFm @aDz))))) (aN (aN (aN (aN @YY @aJC) (aN @aKN (aN @aKs @aKE))) (aN (aN @aDM @YB) (aN @aCz (aN @ZP @aHV)))) (aN (aN (aN @aJN @aIy) (aN @aK9 (aN @aEP @RK))) (aN (aN @O3 @aIG) (aN @aDB (aN @aCN @Y7))))))) (aN (aN (aN (aN (aN (aN @aCi @XA) (aN @YJ (aN @aGt @aGi))) (aN (aN @aAR @ZX) (aN @WT (aN @aAr @RH)))) (aN (aN (aN @WA @aLf) (aN @aE3 (aN @aFL @aDc))) (aN (aN @aIw @aJp) (aN @aFv (aN @aKY @aKo))))) (aN (aN (aN (aN @aCp @aDR) (aN @SS (aN @P2 @U2))) (aN (aN @aB0 @aCP) (aN @aCH (aN @SS @P2)))) (aN (aN (aN @ZM @V5) (aN @aB2 (aN @ZY @aGZ))) (aN (aN @aFC @aH7) (aN @aFG (aN @aFq @aCr)))))) (aN (aN (aN (aN (aN @aDe @aDX) (aN @aDr (aN @T6 @ZE))) (aN (aN @VO @aC3) (aN @aAS (aN @NU @aFi)))) (aN (aN (aN @aCU @aGd) (aN @aIX (aN @aBz @aD7))) (aN (aN @aDU @aG3) (aN @aBn (aN @aCX @aFE))))) (aN (aN (aN (aN @aFn @aGI) (aN @aG4 (aN @aLq @UX))) (aN (aN @aLo @aKM) (aN @aGe (aN @aKA @aG1)))) (aN (aN (aN @TN @aC7) (aN @aGW (aN @aDd @aHD))) (aN (aN @aDI @Z8) (aN @Z6 (aN @aFt @aGz))))))))
def DR:=aN (aN (aN (aN (aN (aN @aW.size (aN @aW.put @aW.get0)) (aN (aN @aW.get1 @aW.get2) (aN @aW.get3 @aW.get4))) (aN (aN @aW.get5 (aN @aW.sub0_6 @bI.size)) (aN (aN @bI.put @bI.get0) (aN @bI.sub0_1 @bO.size)))) (aN (aN (aN @bO.put (aN @bO.get0 @bO.get1)) (aN (aN @bO.get2 @bO.sub0_3) (aN @aK.size @aK.put))) (aN (aN @aK.get0 (aN @aK.get1 @aK.get2)) (aN (aN @aK.sub0_3 @aV.size) (aN @aV.put @aV.get0))))) (aN (aN (aN (aN @aV.sub0_4 (aN @aC.size @aC.st_own)) (aN (aN @aC.put @aC.rset) (aN @aC.get0 @aC.get1))) (aN (aN @aC.get2 (aN @aC.get3 @aC.sub0_4)) (aN (aN @aO.size @aO.put) (aN @aO.get0 @aO.get1)))) (aN (aN (aN @aO.get2 (aN @aO.sub0_3 @bK.size)) (aN (aN @bK.put @bK.get0) (aN @bK.get1 @bK.get2))) (aN (aN @bK.get3 (aN @bK.get4 @bK.sub0_5)) (aN (aN @bR.size @bR.put) (aN @bR.get0 @bR.get1)))))) (aN (aN (aN (aN (aN @bR.get2 (aN @bR.sub0_3 @aB.st_own)) (aN (aN @aB.put @aB.get0) (aN @aB.get1 @aB.get2))) (aN (aN @aB.get3 (aN @aB.get4 @aB.get5)) (aN (aN @aB.get6 @aB.get7) (aN @aB.sub0_8 @aA.size)))) (aN (aN (aN @aA.st_d (aN @aA.st_own @aA.put)) (aN (aN @aA.get0 @aA.get1) (aN @aA.get2 @aA.get3))) (aN (aN @aA.get4 (aN @aA.sub0_5 @aI.size)) (aN (aN @aI.get0 @aI.get1) (aN @aK7 @aHJ))))) (aN (aN (aN (aN @aJJ (aN @aLy @aHl)) (aN (aN @aI4 @aJM) (aN @aJQ @aIr))) (aN (aN @aK5 (aN @aJZ @TO)) (aN (aN @VL @RV) (aN @Q5 @MF)))) (aN (aN (aN @T1 (aN @U3 @RU)) (aN (aN @RG @T9) (aN @PQ @UH))) (aN (aN (aN @P6 @RM) (aN @UO @QI)) (aN (aN @XH @UA) (aN @aAG @W6))))))
def DQ:=aN (aN (aN (aN (aN @aW.len @bI.len) (aN @bO.len @aK.len)) (aN (aN @lB.len @aV.len) (aN @aC.len (aN @aO.len @bK.len)))) (aN (aN (aN @bR.len @aB.len) (aN @aA.len (aN @aI.len @aW.cells_mk))) (aN (aN @bI.cells_mk @bO.cells_mk) (aN @aK.cells_mk (aN @lB.cells_mk @aV.cells_mk))))) (aN (aN (aN (aN @aC.cells_mk @aO.cells_mk) (aN @bK.cells_mk (aN @bR.cells_mk @aB.cells_mk))) (aN (aN @aA.cells_mk @aI.cells_mk) (aN @aW.sized (aN @bI.sized @bO.sized)))) (aN (aN (aN @aK.sized @lB.sized) (aN @aV.sized (aN @aC.sized @aO.sized))) (aN (aN @bK.sized @bR.sized) (aN @aB.sized (aN @aA.sized @aI.sized)))))
def DP:=aN @Option.some.injEq (aN @Bool.and_true @List.cons_ne_nil)
theorem bLc {α:Type} (a:α) (l:List α):(a :: l).length = l.length + 1:=rfl
theorem bLn {α:Type}:([]:List α).length = 0:=rfl
theorem bIt {α:Type} {d:Decidable True} (a b:α):@ite α True d a b = a:=if_pos trivial
theorem bIf {α:Type} {d:Decidable False} (a b:α):@ite α False d a b = b:=if_neg id
theorem bRs {α:Type} (n:Nat) (a:α):List.replicate (n + 1) a = a :: List.replicate n a:=rfl
theorem bRz {α:Type} (a:α):List.replicate 0 a = []:=rfl
theorem bBs {α γ:Type} (a:α) (f:α->Option γ):(some a).bind f = f a:=rfl
theorem bMs {α γ:Type} (a:α) (f:α->γ):(some a).map f = some (f a):=rfl
theorem bMn {α γ:Type} (f:α->γ):(none:Option α).map f = none:=rfl
theorem bEl {α γ δ:Type} (f:α->δ) (g:γ->δ) (x:α):Sum.elim f g (.inl x) = f x:=rfl
theorem bEr {α γ δ:Type} (f:α->δ) (g:γ->δ) (x:γ):Sum.elim f g (.inr x) = g x:=rfl
theorem bBb {α γ δ:Type} (o:Option α) (f:α->Option γ) (g:γ->Option δ):(o.bind f).bind g = o.bind fun x=>(f x).bind g:=by cases o <;> rfl
def DS:=aN (aN (aN (aN (aN @bLc @bLn) (aN @D0 @Bool.not_true)) (aN (aN @Bool.not_false @bIt) (aN @bIf @bRs))) (aN (aN (aN @bRz @PK) (aN @bBs @aBN)) (aN (aN @bMs @bMn) (aN @bEl @bEr)))) (aN (aN (aN (aN @aGv @aF2) (aN @aG7 @aGp)) (aN (aN @aEN @ZC) (aN @aDf @aDN))) (aN (aN (aN @Y4 @aDy) (aN @Y8 @aFd)) (aN (aN @aJt @Vm.bind_map) (aN @aCK (aN @aGo @bBb)))))
abbrev KF (T:zS) (f:Nat) (ds:List D) {α:Type} (o:Option α) (v:α->V):Prop:=∀ {β:Type} (d:Nat) (bl fz:List (Nat × Option aH)) (k:V->Option β) (kw:V->List (Nat × Option aH)->Option β),F6 T d bl f ds fz k kw = o.bind fun r=>k (v r)
abbrev KD (T:zS) (f:Nat) (ds:List D) {α:Type} (o:Option α) (v:α->V):Prop:=∀ {β:Type} (d:Nat) (bl fz:List (Nat × Option aH)) (k:V->Option β) (kw:V->List (Nat × Option aH)->Option β),F6 T d bl f ds fz k kw = o.bind fun r=>fzK fz (v r) k kw
theorem kF {T:zS} {α:Type} {f:Nat} {ds:List D} {o:Option α} {enc:α->D} {v:α->V} (h:Vm.call T f ds = o.map enc) (hf:∀ x,LW (enc x) = true) (hv:∀ x,toV (enc x) = v x):KF T f ds o v:=fun d bl fz k kw=>by
 rw [aAz h hf fz]
 exact congrArg _ (funext fun x=>congrArg k (hv x))
theorem kD {T:zS} {α:Type} {f:Nat} {ds:List D} {o:Option α} {enc:α->D} {v:α->V} (h:Vm.call T f ds = o.map enc) (hf:∀ x,LW (enc x) = false) (hc:∀ x,(enc x).calm = true) (hv:∀ x,toV (enc x) = v x):KD T f ds o v:=fun d bl fz k kw=>by
 rw [YP h hf hc fz]
 exact congrArg _ (funext fun x=>congrArg (fun y=>fzK fz y k kw) (hv x))
theorem CH {p:Prop} (h:p:=by
  simp -implicitDefEqProofs (decide:=true) (maxSteps:=2000000) only [↓DN,↓DR,DQ,DP,↓reduceIte,Int.reduceToNat,Nat.reduceBEq,Nat.reduceAdd,Nat.reduceLT,Nat.reduceLeDiff,Nat.reduceEqDiff,Int.reduceEq,ne_eq,not_false_eq_true,reduceCtorEq,BX,KT,K3,beq_self_eq_true,DS]
  all_goals try simp only [aF3]
  all_goals try rfl):p:=h
theorem nQ {p:Prop} (h:p:=by
  simp -implicitDefEqProofs (decide:=true) (maxSteps:=2000000) only [↓u,↓DN,↓DR,DQ,DP,↓reduceIte,Int.reduceToNat,Nat.reduceBEq,Nat.reduceAdd,Nat.reduceLT,Nat.reduceLeDiff,Nat.reduceEqDiff,Int.reduceEq,ne_eq,not_false_eq_true,reduceCtorEq,BX,KT,K3,beq_self_eq_true,DS]
  all_goals try simp only [aF3]
  all_goals try rfl):p:=h
end Go.Proofs.Ytjjcaapdaldedaa
