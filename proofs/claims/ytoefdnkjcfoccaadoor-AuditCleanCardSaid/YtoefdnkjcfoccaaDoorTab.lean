/- Types and rules. -/
import Derived.Test.YtoefdnkjcfoccaaDoorVmH
import Derived.Test.YtoefdnkjcfoccaaDoorVmF
import Derived.Test.YtoefdnkjcfoccaaDoorVmRec
import Derived.Test.YtoefdnkjcfoccaaDoorConcatD
import Derived.Test.YtoefdnkjcfoccaaDoorCode1
import Derived.Test.YtoefdnkjcfoccaaDoorCode2
set_option linter.unusedVariables false
set_option linter.unusedSimpArgs false
namespace Go.Proofs.YtoefdnkjcfoccaaDoor
open Vm
open Go.RowKit
def o42:List D->Option D:=Y5 3 1 8
def o63:List D->Option D:=aPf
def TLQ (o:Nat->List D->Option D):List (Nat × Option Def):=[(29,some (.code aUa)),(14,some (.code aTt)),(30,some (.code aUb)),(64,some (.code aT0)),(74,some (.code aUo)),(65,some (.code aTu)),(55,some (.code aUC)),(32,some (.code aTF)),(31,some (.code aUG)),(35,some (.code aTJ)),(56,some (.code aUd)),(34,some (.code aUf)),(33,some (.code aTl)),(36,some (.code aTY)),(38,some (.code aUw)),(37,some (.code aUm)),(39,some (.code aUp)),(40,some (.code aTO)),(17,some (.code aUc)),(45,some (.code aTs)),(54,some (.code aUF)),(49,some (.code aTz)),(53,some (.code aTQ)),(28,some (.code aTE)),(48,some (.code aTG)),(21,some (.code aTq)),(75,some (.code aUz)),(66,some (.code aTM)),(57,some (.code aUH)),(43,some (.code aUt)),(18,some (.code aTN)),(7,some (.code sf7)),(26,some (.code aTo)),(11,some (.code aTS)),(15,some (.code aUi)),(47,some (.code aUq)),(58,some (.code aTk)),(46,some (.code aT3)),(19,some (.code aTw)),(20,some (.code aTX)),(8,some (.code sf8)),(27,some (.code aUD)),(12,some (.code aUs)),(13,some (.code aTp)),(5,some (.code sf5)),(16,some (.code aT6)),(6,some (.code sf6)),(24,some (.code aTR)),(50,some (.code aTj)),(59,some (.told (o 59))),(71,some (.code aUx)),(69,some (.code aUj)),(67,some (.code aT4)),(68,some (.code aUk)),(60,some (.told (o 60))),(51,some (.code aUy)),(22,some (.code aTe)),(70,some (.code aUl)),(61,some (.code aTn)),(77,some (.code aTx)),(76,some (.code aTK)),(72,some (.code aUg)),(62,some (.code aTr)),(52,some (.told (o 52))),(23,some (.code aTf)),(9,some (.code sf9)),(4,some (.code sf4)),(42,some (.told o42)),(63,some (.told o63))]
def TQ (o:Nat->List D->Option D):wF:=fun f=>lk (TLQ o) none f
noncomputable def aOu (o:List D->Option D):Nat->List D->Option D:=fun j=>if j = 59 then o else (fun _=>none)
noncomputable def P3:Nat->List D->Option D
 | 0=>fun _=>none
 | n + 1=>fun ds=>U5 (TQ (aOu (P3 n))) aRS ds
noncomputable def aUr:List D->Option D:=P3 1000
noncomputable def aPV (o:List D->Option D):Nat->List D->Option D:=fun j=>if j = 60 then o else aOu aUr j
noncomputable def PO:Nat->List D->Option D
 | 0=>fun _=>none
 | n + 1=>fun ds=>U5 (TQ (aPV (PO n))) aSp ds
noncomputable def aTm:List D->Option D:=PO 1000
noncomputable def aPc (o:List D->Option D):Nat->List D->Option D:=fun j=>if j = 52 then o else aPV aTm j
noncomputable def PR:Nat->List D->Option D
 | 0=>fun _=>none
 | n + 1=>fun ds=>U5 (TQ (aPc (PR n))) aS1 ds
noncomputable def aT5:List D->Option D:=PR 1000
noncomputable def TL:List (Nat × Option Def):=TLQ (aPc aT5)
noncomputable def TT:wF:=fun f=>lk TL none f
structure aX where
 Name:ByteArray
 Order:Int
 Currency:Int
 Rest:List Int
 Feasts:List Int
 Shut:List Int
 deriving Inhabited
def aX.cells (x:aX):List D:=[.str x.Name,.int .i64 x.Order,.int .i64 x.Currency,.sl (cM cI x.Rest),.sl (cM cI x.Feasts),.sl (cM cI x.Shut)]
theorem aX.sized (xs:List aX):sized 6 (cM aX.cells xs) = true:=gM _ _ (fun x=>by rfl) xs
theorem aX.len (x:aX):x.cells.length = 6:=rfl
theorem aX.size {β:Type} (x:aX) (y:Option β):kA x.cells 6 y = y:=rfl
theorem aX.eq1 {β:Type} (x:aX) (ks:List Nat) (ys:List V) (k:Bool->Option β):dP ks (aE x.cells) ys k = dP ks [.d (.str x.Name),.d (.int .i64 x.Order),.d (.int .i64 x.Currency),.d (.sl (cM cI x.Rest)),.d (.sl (cM cI x.Feasts)),.d (.sl (cM cI x.Shut))] ys k:=rfl
theorem aX.eq2 {β:Type} (x:aX) (ks:List Nat) (ys:List V) (k:Bool->Option β):dP ks ys (aE x.cells) k = dP ks ys [.d (.str x.Name),.d (.int .i64 x.Order),.d (.int .i64 x.Currency),.d (.sl (cM cI x.Rest)),.d (.sl (cM cI x.Feasts)),.d (.sl (cM cI x.Shut))] k:=rfl
theorem aX.lens {β:Type} (x:aX) (y:Option β):rR (aE x.cells) 6 y = y:=rfl
theorem aX.vsets {β:Type} (x:aX) (z:List V) (o:Nat) (k:List V->Option β):dL z o (aE x.cells) k = dL z o [.d (.str x.Name),.d (.int .i64 x.Order),.d (.int .i64 x.Currency),.d (.sl (cM cI x.Rest)),.d (.sl (cM cI x.Feasts)),.d (.sl (cM cI x.Shut))] k:=rfl
theorem aX.st_d {β:Type} (x:aX) (y:D) (sz off id:Nat) (kw:V->List (Nat × Option aO)->Option β):aG sz off id (.d y) (some (.box (aE x.cells))) kw = aG sz off id (.d y) (some (.box [.d (.str x.Name),.d (.int .i64 x.Order),.d (.int .i64 x.Currency),.d (.sl (cM cI x.Rest)),.d (.sl (cM cI x.Feasts)),.d (.sl (cM cI x.Shut))])) kw:=rfl
theorem aX.st_nil {β:Type} (x:aX)  (sz off id:Nat) (kw:V->List (Nat × Option aO)->Option β):aG sz off id .nil (some (.box (aE x.cells))) kw = aG sz off id .nil (some (.box [.d (.str x.Name),.d (.int .i64 x.Order),.d (.int .i64 x.Currency),.d (.sl (cM cI x.Rest)),.d (.sl (cM cI x.Feasts)),.d (.sl (cM cI x.Shut))])) kw:=rfl
theorem aX.st_own {β:Type} (x:aX) (i v sz off id:Nat) (kw:V->List (Nat × Option aO)->Option β):aG sz off id (.own i v) (some (.box (aE x.cells))) kw = aG sz off id (.own i v) (some (.box [.d (.str x.Name),.d (.int .i64 x.Order),.d (.int .i64 x.Currency),.d (.sl (cM cI x.Rest)),.d (.sl (cM cI x.Feasts)),.d (.sl (cM cI x.Shut))])) kw:=rfl
theorem aX.st_agg {β:Type} (x:aX) (y:List V) (sz off id:Nat) (kw:V->List (Nat × Option aO)->Option β):aG sz off id (.agg y) (some (.box (aE x.cells))) kw = aG sz off id (.agg y) (some (.box [.d (.str x.Name),.d (.int .i64 x.Order),.d (.int .i64 x.Currency),.d (.sl (cM cI x.Rest)),.d (.sl (cM cI x.Feasts)),.d (.sl (cM cI x.Shut))])) kw:=rfl
theorem aX.st_ptr {β:Type} (x:aX) (i v sz off id:Nat) (kw:V->List (Nat × Option aO)->Option β):aG sz off id (.ptr i v) (some (.box (aE x.cells))) kw = aG sz off id (.ptr i v) (some (.box [.d (.str x.Name),.d (.int .i64 x.Order),.d (.int .i64 x.Currency),.d (.sl (cM cI x.Rest)),.d (.sl (cM cI x.Feasts)),.d (.sl (cM cI x.Shut))])) kw:=rfl
theorem aX.part {β:Type} (x:aX) (off id:Nat) (b:Option aO) (kw:V->List (Nat × Option aO)->Option β):aG 6 (off + 1) id (b9 x.cells) b kw = aG 6 (off + 1) id (.agg [.d (.str x.Name),.d (.int .i64 x.Order),.d (.int .i64 x.Currency),.d (.sl (cM cI x.Rest)),.d (.sl (cM cI x.Feasts)),.d (.sl (cM cI x.Shut))]) b kw:=rfl
theorem aX.put {β:Type} (x:aX) (id:Nat) (cs:List V) (hc:cs.length = 6) (kw:V->List (Nat × Option aO)->Option β):aG 6 0 id (b9 x.cells) (some (.box cs)) kw = kw .any [(id,some (.box (aE x.cells)))]:=c9 6 id _ rfl cs hc
theorem aX.rset {β:Type} (x:aX) (off:Nat) (d:D) (ds:List D) (n:Nat) (k:List D->Option β):a7 x.cells off (d :: ds) n k = a7 [.str x.Name,.int .i64 x.Order,.int .i64 x.Currency,.sl (cM cI x.Rest),.sl (cM cI x.Feasts),.sl (cM cI x.Shut)] off (d :: ds) n k:=rfl
theorem aX.rfull {β:Type} (x y:aX) (k:List D->Option β):a7 x.cells 0 y.cells 6 k = k y.cells:=by unfold a7; exact (if_pos ⟨rfl,Nat.le_refl _⟩).trans rfl
theorem aX.get0 {β:Type} (x:aX) (k:D->Option β):cA x.cells 0 k = k (.str x.Name):=rfl
theorem aX.get1 {β:Type} (x:aX) (k:D->Option β):cA x.cells 1 k = k (.int .i64 x.Order):=rfl
theorem aX.get2 {β:Type} (x:aX) (k:D->Option β):cA x.cells 2 k = k (.int .i64 x.Currency):=rfl
theorem aX.get3 {β:Type} (x:aX) (k:D->Option β):cA x.cells 3 k = k (.sl (cM cI x.Rest)):=rfl
theorem aX.get4 {β:Type} (x:aX) (k:D->Option β):cA x.cells 4 k = k (.sl (cM cI x.Feasts)):=rfl
theorem aX.get5 {β:Type} (x:aX) (k:D->Option β):cA x.cells 5 k = k (.sl (cM cI x.Shut)):=rfl
theorem aX.sub0_6 {β:Type} (x:aX) (k:List D->Option β):nZ x.cells 0 6 k = k x.cells:=rfl
theorem aX.cells_mk (f0:ByteArray) (f1 f2:Int) (f3 f4 f5:List Int):aX.cells (aX.mk f0 f1 f2 f3 f4 f5) = [.str f0,.int .i64 f1,.int .i64 f2,.sl (cM cI f3),.sl (cM cI f4),.sl (cM cI f5)]:=rfl
structure aZ where
 Grade:Int
 deriving Inhabited
def aZ.cells (x:aZ):List D:=[.int .i64 x.Grade]
theorem aZ.sized (xs:List aZ):sized 1 (cM aZ.cells xs) = true:=gM _ _ (fun x=>by rfl) xs
theorem aZ.len (x:aZ):x.cells.length = 1:=rfl
theorem aZ.size {β:Type} (x:aZ) (y:Option β):kA x.cells 1 y = y:=rfl
theorem aZ.eq1 {β:Type} (x:aZ) (ks:List Nat) (ys:List V) (k:Bool->Option β):dP ks (aE x.cells) ys k = dP ks [.d (.int .i64 x.Grade)] ys k:=rfl
theorem aZ.eq2 {β:Type} (x:aZ) (ks:List Nat) (ys:List V) (k:Bool->Option β):dP ks ys (aE x.cells) k = dP ks ys [.d (.int .i64 x.Grade)] k:=rfl
theorem aZ.lens {β:Type} (x:aZ) (y:Option β):rR (aE x.cells) 1 y = y:=rfl
theorem aZ.vsets {β:Type} (x:aZ) (z:List V) (o:Nat) (k:List V->Option β):dL z o (aE x.cells) k = dL z o [.d (.int .i64 x.Grade)] k:=rfl
theorem aZ.st_d {β:Type} (x:aZ) (y:D) (sz off id:Nat) (kw:V->List (Nat × Option aO)->Option β):aG sz off id (.d y) (some (.box (aE x.cells))) kw = aG sz off id (.d y) (some (.box [.d (.int .i64 x.Grade)])) kw:=rfl
theorem aZ.st_nil {β:Type} (x:aZ)  (sz off id:Nat) (kw:V->List (Nat × Option aO)->Option β):aG sz off id .nil (some (.box (aE x.cells))) kw = aG sz off id .nil (some (.box [.d (.int .i64 x.Grade)])) kw:=rfl
theorem aZ.st_own {β:Type} (x:aZ) (i v sz off id:Nat) (kw:V->List (Nat × Option aO)->Option β):aG sz off id (.own i v) (some (.box (aE x.cells))) kw = aG sz off id (.own i v) (some (.box [.d (.int .i64 x.Grade)])) kw:=rfl
theorem aZ.st_agg {β:Type} (x:aZ) (y:List V) (sz off id:Nat) (kw:V->List (Nat × Option aO)->Option β):aG sz off id (.agg y) (some (.box (aE x.cells))) kw = aG sz off id (.agg y) (some (.box [.d (.int .i64 x.Grade)])) kw:=rfl
theorem aZ.st_ptr {β:Type} (x:aZ) (i v sz off id:Nat) (kw:V->List (Nat × Option aO)->Option β):aG sz off id (.ptr i v) (some (.box (aE x.cells))) kw = aG sz off id (.ptr i v) (some (.box [.d (.int .i64 x.Grade)])) kw:=rfl
theorem aZ.part {β:Type} (x:aZ) (off id:Nat) (b:Option aO) (kw:V->List (Nat × Option aO)->Option β):aG 1 (off + 1) id (b9 x.cells) b kw = aG 1 (off + 1) id (.agg [.d (.int .i64 x.Grade)]) b kw:=rfl
theorem aZ.put {β:Type} (x:aZ) (id:Nat) (cs:List V) (hc:cs.length = 1) (kw:V->List (Nat × Option aO)->Option β):aG 1 0 id (b9 x.cells) (some (.box cs)) kw = kw .any [(id,some (.box (aE x.cells)))]:=c9 1 id _ rfl cs hc
theorem aZ.rset {β:Type} (x:aZ) (off:Nat) (d:D) (ds:List D) (n:Nat) (k:List D->Option β):a7 x.cells off (d :: ds) n k = a7 [.int .i64 x.Grade] off (d :: ds) n k:=rfl
theorem aZ.rfull {β:Type} (x y:aZ) (k:List D->Option β):a7 x.cells 0 y.cells 1 k = k y.cells:=by unfold a7; exact (if_pos ⟨rfl,Nat.le_refl _⟩).trans rfl
theorem aZ.get0 {β:Type} (x:aZ) (k:D->Option β):cA x.cells 0 k = k (.int .i64 x.Grade):=rfl
theorem aZ.sub0_1 {β:Type} (x:aZ) (k:List D->Option β):nZ x.cells 0 1 k = k x.cells:=rfl
theorem aZ.cells_mk (f0:Int):aZ.cells (aZ.mk f0) = [.int .i64 f0]:=rfl
structure bB where
 Name:ByteArray
 City:Int
 Group:Int
 deriving Inhabited
def bB.cells (x:bB):List D:=[.str x.Name,.int .i64 x.City,.int .i64 x.Group]
theorem bB.sized (xs:List bB):sized 3 (cM bB.cells xs) = true:=gM _ _ (fun x=>by rfl) xs
theorem bB.len (x:bB):x.cells.length = 3:=rfl
theorem bB.size {β:Type} (x:bB) (y:Option β):kA x.cells 3 y = y:=rfl
theorem bB.eq1 {β:Type} (x:bB) (ks:List Nat) (ys:List V) (k:Bool->Option β):dP ks (aE x.cells) ys k = dP ks [.d (.str x.Name),.d (.int .i64 x.City),.d (.int .i64 x.Group)] ys k:=rfl
theorem bB.eq2 {β:Type} (x:bB) (ks:List Nat) (ys:List V) (k:Bool->Option β):dP ks ys (aE x.cells) k = dP ks ys [.d (.str x.Name),.d (.int .i64 x.City),.d (.int .i64 x.Group)] k:=rfl
theorem bB.lens {β:Type} (x:bB) (y:Option β):rR (aE x.cells) 3 y = y:=rfl
theorem bB.vsets {β:Type} (x:bB) (z:List V) (o:Nat) (k:List V->Option β):dL z o (aE x.cells) k = dL z o [.d (.str x.Name),.d (.int .i64 x.City),.d (.int .i64 x.Group)] k:=rfl
theorem bB.st_d {β:Type} (x:bB) (y:D) (sz off id:Nat) (kw:V->List (Nat × Option aO)->Option β):aG sz off id (.d y) (some (.box (aE x.cells))) kw = aG sz off id (.d y) (some (.box [.d (.str x.Name),.d (.int .i64 x.City),.d (.int .i64 x.Group)])) kw:=rfl
theorem bB.st_nil {β:Type} (x:bB)  (sz off id:Nat) (kw:V->List (Nat × Option aO)->Option β):aG sz off id .nil (some (.box (aE x.cells))) kw = aG sz off id .nil (some (.box [.d (.str x.Name),.d (.int .i64 x.City),.d (.int .i64 x.Group)])) kw:=rfl
theorem bB.st_own {β:Type} (x:bB) (i v sz off id:Nat) (kw:V->List (Nat × Option aO)->Option β):aG sz off id (.own i v) (some (.box (aE x.cells))) kw = aG sz off id (.own i v) (some (.box [.d (.str x.Name),.d (.int .i64 x.City),.d (.int .i64 x.Group)])) kw:=rfl
theorem bB.st_agg {β:Type} (x:bB) (y:List V) (sz off id:Nat) (kw:V->List (Nat × Option aO)->Option β):aG sz off id (.agg y) (some (.box (aE x.cells))) kw = aG sz off id (.agg y) (some (.box [.d (.str x.Name),.d (.int .i64 x.City),.d (.int .i64 x.Group)])) kw:=rfl
theorem bB.st_ptr {β:Type} (x:bB) (i v sz off id:Nat) (kw:V->List (Nat × Option aO)->Option β):aG sz off id (.ptr i v) (some (.box (aE x.cells))) kw = aG sz off id (.ptr i v) (some (.box [.d (.str x.Name),.d (.int .i64 x.City),.d (.int .i64 x.Group)])) kw:=rfl
theorem bB.part {β:Type} (x:bB) (off id:Nat) (b:Option aO) (kw:V->List (Nat × Option aO)->Option β):aG 3 (off + 1) id (b9 x.cells) b kw = aG 3 (off + 1) id (.agg [.d (.str x.Name),.d (.int .i64 x.City),.d (.int .i64 x.Group)]) b kw:=rfl
theorem bB.put {β:Type} (x:bB) (id:Nat) (cs:List V) (hc:cs.length = 3) (kw:V->List (Nat × Option aO)->Option β):aG 3 0 id (b9 x.cells) (some (.box cs)) kw = kw .any [(id,some (.box (aE x.cells)))]:=c9 3 id _ rfl cs hc
theorem bB.rset {β:Type} (x:bB) (off:Nat) (d:D) (ds:List D) (n:Nat) (k:List D->Option β):a7 x.cells off (d :: ds) n k = a7 [.str x.Name,.int .i64 x.City,.int .i64 x.Group] off (d :: ds) n k:=rfl
theorem bB.rfull {β:Type} (x y:bB) (k:List D->Option β):a7 x.cells 0 y.cells 3 k = k y.cells:=by unfold a7; exact (if_pos ⟨rfl,Nat.le_refl _⟩).trans rfl
theorem bB.get0 {β:Type} (x:bB) (k:D->Option β):cA x.cells 0 k = k (.str x.Name):=rfl
theorem bB.get1 {β:Type} (x:bB) (k:D->Option β):cA x.cells 1 k = k (.int .i64 x.City):=rfl
theorem bB.get2 {β:Type} (x:bB) (k:D->Option β):cA x.cells 2 k = k (.int .i64 x.Group):=rfl
theorem bB.sub0_3 {β:Type} (x:bB) (k:List D->Option β):nZ x.cells 0 3 k = k x.cells:=rfl
theorem bB.cells_mk (f0:ByteArray) (f1 f2:Int):bB.cells (bB.mk f0 f1 f2) = [.str f0,.int .i64 f1,.int .i64 f2]:=rfl
structure aQ where
 Ask:Int
 By:Int
 Whole:Bool
 deriving Inhabited
def aQ.cells (x:aQ):List D:=[.int .i64 x.Ask,.int .i64 x.By,.bool x.Whole]
theorem aQ.sized (xs:List aQ):sized 3 (cM aQ.cells xs) = true:=gM _ _ (fun x=>by rfl) xs
theorem aQ.len (x:aQ):x.cells.length = 3:=rfl
theorem aQ.size {β:Type} (x:aQ) (y:Option β):kA x.cells 3 y = y:=rfl
theorem aQ.eq1 {β:Type} (x:aQ) (ks:List Nat) (ys:List V) (k:Bool->Option β):dP ks (aE x.cells) ys k = dP ks [.d (.int .i64 x.Ask),.d (.int .i64 x.By),.d (.bool x.Whole)] ys k:=rfl
theorem aQ.eq2 {β:Type} (x:aQ) (ks:List Nat) (ys:List V) (k:Bool->Option β):dP ks ys (aE x.cells) k = dP ks ys [.d (.int .i64 x.Ask),.d (.int .i64 x.By),.d (.bool x.Whole)] k:=rfl
theorem aQ.lens {β:Type} (x:aQ) (y:Option β):rR (aE x.cells) 3 y = y:=rfl
theorem aQ.vsets {β:Type} (x:aQ) (z:List V) (o:Nat) (k:List V->Option β):dL z o (aE x.cells) k = dL z o [.d (.int .i64 x.Ask),.d (.int .i64 x.By),.d (.bool x.Whole)] k:=rfl
theorem aQ.st_d {β:Type} (x:aQ) (y:D) (sz off id:Nat) (kw:V->List (Nat × Option aO)->Option β):aG sz off id (.d y) (some (.box (aE x.cells))) kw = aG sz off id (.d y) (some (.box [.d (.int .i64 x.Ask),.d (.int .i64 x.By),.d (.bool x.Whole)])) kw:=rfl
theorem aQ.st_nil {β:Type} (x:aQ)  (sz off id:Nat) (kw:V->List (Nat × Option aO)->Option β):aG sz off id .nil (some (.box (aE x.cells))) kw = aG sz off id .nil (some (.box [.d (.int .i64 x.Ask),.d (.int .i64 x.By),.d (.bool x.Whole)])) kw:=rfl
theorem aQ.st_own {β:Type} (x:aQ) (i v sz off id:Nat) (kw:V->List (Nat × Option aO)->Option β):aG sz off id (.own i v) (some (.box (aE x.cells))) kw = aG sz off id (.own i v) (some (.box [.d (.int .i64 x.Ask),.d (.int .i64 x.By),.d (.bool x.Whole)])) kw:=rfl
theorem aQ.st_agg {β:Type} (x:aQ) (y:List V) (sz off id:Nat) (kw:V->List (Nat × Option aO)->Option β):aG sz off id (.agg y) (some (.box (aE x.cells))) kw = aG sz off id (.agg y) (some (.box [.d (.int .i64 x.Ask),.d (.int .i64 x.By),.d (.bool x.Whole)])) kw:=rfl
theorem aQ.st_ptr {β:Type} (x:aQ) (i v sz off id:Nat) (kw:V->List (Nat × Option aO)->Option β):aG sz off id (.ptr i v) (some (.box (aE x.cells))) kw = aG sz off id (.ptr i v) (some (.box [.d (.int .i64 x.Ask),.d (.int .i64 x.By),.d (.bool x.Whole)])) kw:=rfl
theorem aQ.part {β:Type} (x:aQ) (off id:Nat) (b:Option aO) (kw:V->List (Nat × Option aO)->Option β):aG 3 (off + 1) id (b9 x.cells) b kw = aG 3 (off + 1) id (.agg [.d (.int .i64 x.Ask),.d (.int .i64 x.By),.d (.bool x.Whole)]) b kw:=rfl
theorem aQ.put {β:Type} (x:aQ) (id:Nat) (cs:List V) (hc:cs.length = 3) (kw:V->List (Nat × Option aO)->Option β):aG 3 0 id (b9 x.cells) (some (.box cs)) kw = kw .any [(id,some (.box (aE x.cells)))]:=c9 3 id _ rfl cs hc
theorem aQ.rset {β:Type} (x:aQ) (off:Nat) (d:D) (ds:List D) (n:Nat) (k:List D->Option β):a7 x.cells off (d :: ds) n k = a7 [.int .i64 x.Ask,.int .i64 x.By,.bool x.Whole] off (d :: ds) n k:=rfl
theorem aQ.rfull {β:Type} (x y:aQ) (k:List D->Option β):a7 x.cells 0 y.cells 3 k = k y.cells:=by unfold a7; exact (if_pos ⟨rfl,Nat.le_refl _⟩).trans rfl
theorem aQ.get0 {β:Type} (x:aQ) (k:D->Option β):cA x.cells 0 k = k (.int .i64 x.Ask):=rfl
theorem aQ.get1 {β:Type} (x:aQ) (k:D->Option β):cA x.cells 1 k = k (.int .i64 x.By):=rfl
theorem aQ.get2 {β:Type} (x:aQ) (k:D->Option β):cA x.cells 2 k = k (.bool x.Whole):=rfl
theorem aQ.sub0_3 {β:Type} (x:aQ) (k:List D->Option β):nZ x.cells 0 3 k = k x.cells:=rfl
theorem aQ.cells_mk (f0 f1:Int) (f2:Bool):aQ.cells (aQ.mk f0 f1 f2) = [.int .i64 f0,.int .i64 f1,.bool f2]:=rfl
structure aF where
 Op:Int
 N:Int
 Args:List aF
 deriving Inhabited
mutual
def aF.row:aF->List D
 | ⟨f0,f1,f2⟩=>[.int .i64 f0,.int .i64 f1,.sl (aF.rows f2)]
def aF.rows:List aF->List (List D)
 | []=>[]
 | a :: r=>aF.row a :: aF.rows r
end
theorem aF.rows_eq:∀ xs:List aF,aF.rows xs = cM aF.row xs
 | []=>rfl
 | a :: r=>by
  show aF.row a :: aF.rows r = aF.row a :: cM aF.row r
  rw [aF.rows_eq r]
def aF.cells (x:aF):List D:=[.int .i64 x.Op,.int .i64 x.N,.sl (cM aF.row x.Args)]
theorem aF.sized (xs:List aF):sized 3 (cM aF.cells xs) = true:=gM _ _ (fun x=>by rfl) xs
theorem aF.len (x:aF):x.cells.length = 3:=rfl
theorem aF.size {β:Type} (x:aF) (y:Option β):kA x.cells 3 y = y:=rfl
theorem aF.eq1 {β:Type} (x:aF) (ks:List Nat) (ys:List V) (k:Bool->Option β):dP ks (aE x.cells) ys k = dP ks [.d (.int .i64 x.Op),.d (.int .i64 x.N),.d (.sl (cM aF.row x.Args))] ys k:=rfl
theorem aF.eq2 {β:Type} (x:aF) (ks:List Nat) (ys:List V) (k:Bool->Option β):dP ks ys (aE x.cells) k = dP ks ys [.d (.int .i64 x.Op),.d (.int .i64 x.N),.d (.sl (cM aF.row x.Args))] k:=rfl
theorem aF.lens {β:Type} (x:aF) (y:Option β):rR (aE x.cells) 3 y = y:=rfl
theorem aF.vsets {β:Type} (x:aF) (z:List V) (o:Nat) (k:List V->Option β):dL z o (aE x.cells) k = dL z o [.d (.int .i64 x.Op),.d (.int .i64 x.N),.d (.sl (cM aF.row x.Args))] k:=rfl
theorem aF.st_d {β:Type} (x:aF) (y:D) (sz off id:Nat) (kw:V->List (Nat × Option aO)->Option β):aG sz off id (.d y) (some (.box (aE x.cells))) kw = aG sz off id (.d y) (some (.box [.d (.int .i64 x.Op),.d (.int .i64 x.N),.d (.sl (cM aF.row x.Args))])) kw:=rfl
theorem aF.st_nil {β:Type} (x:aF)  (sz off id:Nat) (kw:V->List (Nat × Option aO)->Option β):aG sz off id .nil (some (.box (aE x.cells))) kw = aG sz off id .nil (some (.box [.d (.int .i64 x.Op),.d (.int .i64 x.N),.d (.sl (cM aF.row x.Args))])) kw:=rfl
theorem aF.st_own {β:Type} (x:aF) (i v sz off id:Nat) (kw:V->List (Nat × Option aO)->Option β):aG sz off id (.own i v) (some (.box (aE x.cells))) kw = aG sz off id (.own i v) (some (.box [.d (.int .i64 x.Op),.d (.int .i64 x.N),.d (.sl (cM aF.row x.Args))])) kw:=rfl
theorem aF.st_agg {β:Type} (x:aF) (y:List V) (sz off id:Nat) (kw:V->List (Nat × Option aO)->Option β):aG sz off id (.agg y) (some (.box (aE x.cells))) kw = aG sz off id (.agg y) (some (.box [.d (.int .i64 x.Op),.d (.int .i64 x.N),.d (.sl (cM aF.row x.Args))])) kw:=rfl
theorem aF.st_ptr {β:Type} (x:aF) (i v sz off id:Nat) (kw:V->List (Nat × Option aO)->Option β):aG sz off id (.ptr i v) (some (.box (aE x.cells))) kw = aG sz off id (.ptr i v) (some (.box [.d (.int .i64 x.Op),.d (.int .i64 x.N),.d (.sl (cM aF.row x.Args))])) kw:=rfl
theorem aF.part {β:Type} (x:aF) (off id:Nat) (b:Option aO) (kw:V->List (Nat × Option aO)->Option β):aG 3 (off + 1) id (b9 x.cells) b kw = aG 3 (off + 1) id (.agg [.d (.int .i64 x.Op),.d (.int .i64 x.N),.d (.sl (cM aF.row x.Args))]) b kw:=rfl
theorem aF.put {β:Type} (x:aF) (id:Nat) (cs:List V) (hc:cs.length = 3) (kw:V->List (Nat × Option aO)->Option β):aG 3 0 id (b9 x.cells) (some (.box cs)) kw = kw .any [(id,some (.box (aE x.cells)))]:=c9 3 id _ rfl cs hc
theorem aF.rset {β:Type} (x:aF) (off:Nat) (d:D) (ds:List D) (n:Nat) (k:List D->Option β):a7 x.cells off (d :: ds) n k = a7 [.int .i64 x.Op,.int .i64 x.N,.sl (cM aF.row x.Args)] off (d :: ds) n k:=rfl
theorem aF.rfull {β:Type} (x y:aF) (k:List D->Option β):a7 x.cells 0 y.cells 3 k = k y.cells:=by unfold a7; exact (if_pos ⟨rfl,Nat.le_refl _⟩).trans rfl
theorem aF.get0 {β:Type} (x:aF) (k:D->Option β):cA x.cells 0 k = k (.int .i64 x.Op):=rfl
theorem aF.get1 {β:Type} (x:aF) (k:D->Option β):cA x.cells 1 k = k (.int .i64 x.N):=rfl
theorem aF.get2 {β:Type} (x:aF) (k:D->Option β):cA x.cells 2 k = k (.sl (cM aF.row x.Args)):=rfl
theorem aF.sub0_3 {β:Type} (x:aF) (k:List D->Option β):nZ x.cells 0 3 k = k x.cells:=rfl
theorem aF.row_eq (x:aF):aF.row x = aF.cells x:=by
 cases x
 show [_,_,D.sl (aF.rows _)] = _
 rw [aF.rows_eq]
 rfl
theorem aF.row_len (x:aF):(aF.row x).length = 3:=by rw [aF.row_eq]; rfl
theorem aF.row_size {β:Type} (x:aF) (y:Option β):kA (aF.row x) 3 y = y:=by rw [aF.row_eq]; rfl
theorem aF.row_get0 {β:Type} (x:aF) (k:D->Option β):cA (aF.row x) 0 k = k (.int .i64 x.Op):=by rw [aF.row_eq]; rfl
theorem aF.row_get1 {β:Type} (x:aF) (k:D->Option β):cA (aF.row x) 1 k = k (.int .i64 x.N):=by rw [aF.row_eq]; rfl
theorem aF.row_get2 {β:Type} (x:aF) (k:D->Option β):cA (aF.row x) 2 k = k (.sl (cM aF.row x.Args)):=by rw [aF.row_eq]; rfl
theorem aF.row_sub {β:Type} (x:aF) (k:List D->Option β):nZ (aF.row x) 0 3 k = k x.cells:=by rw [aF.row_eq]; rfl
theorem aF.cells_mk (f0 f1:Int) (f2:List aF):aF.cells (aF.mk f0 f1 f2) = [.int .i64 f0,.int .i64 f1,.sl (cM aF.row f2)]:=rfl
structure aS where
 Ask:Int
 Term:aF
 deriving Inhabited
def aS.cells (x:aS):List D:=[.int .i64 x.Ask,.int .i64 x.Term.Op,.int .i64 x.Term.N,.sl (cM aF.row x.Term.Args)]
theorem aS.sized (xs:List aS):sized 4 (cM aS.cells xs) = true:=gM _ _ (fun x=>by rfl) xs
theorem aS.len (x:aS):x.cells.length = 4:=rfl
theorem aS.size {β:Type} (x:aS) (y:Option β):kA x.cells 4 y = y:=rfl
theorem aS.eq1 {β:Type} (x:aS) (ks:List Nat) (ys:List V) (k:Bool->Option β):dP ks (aE x.cells) ys k = dP ks [.d (.int .i64 x.Ask),.d (.int .i64 x.Term.Op),.d (.int .i64 x.Term.N),.d (.sl (cM aF.row x.Term.Args))] ys k:=rfl
theorem aS.eq2 {β:Type} (x:aS) (ks:List Nat) (ys:List V) (k:Bool->Option β):dP ks ys (aE x.cells) k = dP ks ys [.d (.int .i64 x.Ask),.d (.int .i64 x.Term.Op),.d (.int .i64 x.Term.N),.d (.sl (cM aF.row x.Term.Args))] k:=rfl
theorem aS.lens {β:Type} (x:aS) (y:Option β):rR (aE x.cells) 4 y = y:=rfl
theorem aS.vsets {β:Type} (x:aS) (z:List V) (o:Nat) (k:List V->Option β):dL z o (aE x.cells) k = dL z o [.d (.int .i64 x.Ask),.d (.int .i64 x.Term.Op),.d (.int .i64 x.Term.N),.d (.sl (cM aF.row x.Term.Args))] k:=rfl
theorem aS.st_d {β:Type} (x:aS) (y:D) (sz off id:Nat) (kw:V->List (Nat × Option aO)->Option β):aG sz off id (.d y) (some (.box (aE x.cells))) kw = aG sz off id (.d y) (some (.box [.d (.int .i64 x.Ask),.d (.int .i64 x.Term.Op),.d (.int .i64 x.Term.N),.d (.sl (cM aF.row x.Term.Args))])) kw:=rfl
theorem aS.st_nil {β:Type} (x:aS)  (sz off id:Nat) (kw:V->List (Nat × Option aO)->Option β):aG sz off id .nil (some (.box (aE x.cells))) kw = aG sz off id .nil (some (.box [.d (.int .i64 x.Ask),.d (.int .i64 x.Term.Op),.d (.int .i64 x.Term.N),.d (.sl (cM aF.row x.Term.Args))])) kw:=rfl
theorem aS.st_own {β:Type} (x:aS) (i v sz off id:Nat) (kw:V->List (Nat × Option aO)->Option β):aG sz off id (.own i v) (some (.box (aE x.cells))) kw = aG sz off id (.own i v) (some (.box [.d (.int .i64 x.Ask),.d (.int .i64 x.Term.Op),.d (.int .i64 x.Term.N),.d (.sl (cM aF.row x.Term.Args))])) kw:=rfl
theorem aS.st_agg {β:Type} (x:aS) (y:List V) (sz off id:Nat) (kw:V->List (Nat × Option aO)->Option β):aG sz off id (.agg y) (some (.box (aE x.cells))) kw = aG sz off id (.agg y) (some (.box [.d (.int .i64 x.Ask),.d (.int .i64 x.Term.Op),.d (.int .i64 x.Term.N),.d (.sl (cM aF.row x.Term.Args))])) kw:=rfl
theorem aS.st_ptr {β:Type} (x:aS) (i v sz off id:Nat) (kw:V->List (Nat × Option aO)->Option β):aG sz off id (.ptr i v) (some (.box (aE x.cells))) kw = aG sz off id (.ptr i v) (some (.box [.d (.int .i64 x.Ask),.d (.int .i64 x.Term.Op),.d (.int .i64 x.Term.N),.d (.sl (cM aF.row x.Term.Args))])) kw:=rfl
theorem aS.part {β:Type} (x:aS) (off id:Nat) (b:Option aO) (kw:V->List (Nat × Option aO)->Option β):aG 4 (off + 1) id (b9 x.cells) b kw = aG 4 (off + 1) id (.agg [.d (.int .i64 x.Ask),.d (.int .i64 x.Term.Op),.d (.int .i64 x.Term.N),.d (.sl (cM aF.row x.Term.Args))]) b kw:=rfl
theorem aS.put {β:Type} (x:aS) (id:Nat) (cs:List V) (hc:cs.length = 4) (kw:V->List (Nat × Option aO)->Option β):aG 4 0 id (b9 x.cells) (some (.box cs)) kw = kw .any [(id,some (.box (aE x.cells)))]:=c9 4 id _ rfl cs hc
theorem aS.rset {β:Type} (x:aS) (off:Nat) (d:D) (ds:List D) (n:Nat) (k:List D->Option β):a7 x.cells off (d :: ds) n k = a7 [.int .i64 x.Ask,.int .i64 x.Term.Op,.int .i64 x.Term.N,.sl (cM aF.row x.Term.Args)] off (d :: ds) n k:=rfl
theorem aS.rfull {β:Type} (x y:aS) (k:List D->Option β):a7 x.cells 0 y.cells 4 k = k y.cells:=by unfold a7; exact (if_pos ⟨rfl,Nat.le_refl _⟩).trans rfl
theorem aS.get0 {β:Type} (x:aS) (k:D->Option β):cA x.cells 0 k = k (.int .i64 x.Ask):=rfl
theorem aS.get1 {β:Type} (x:aS) (k:D->Option β):cA x.cells 1 k = k (.int .i64 x.Term.Op):=rfl
theorem aS.get2 {β:Type} (x:aS) (k:D->Option β):cA x.cells 2 k = k (.int .i64 x.Term.N):=rfl
theorem aS.get3 {β:Type} (x:aS) (k:D->Option β):cA x.cells 3 k = k (.sl (cM aF.row x.Term.Args)):=rfl
theorem aS.sub0_4 {β:Type} (x:aS) (k:List D->Option β):nZ x.cells 0 4 k = k x.cells:=rfl
theorem aS.sub1_3 {β:Type} (x:aS) (k:List D->Option β):nZ x.cells 1 3 k = k (aF.cells x.Term):=rfl
theorem aS.cells_mk (f0:Int) (f1:aF):aS.cells (aS.mk f0 f1) = [.int .i64 f0,.int .i64 f1.Op,.int .i64 f1.N,.sl (cM aF.row f1.Args)]:=rfl
structure aJ where
 Name:ByteArray
 Accepts:Bool
 Choices:List aQ
 Rules:List aS
 deriving Inhabited
def aJ.cells (x:aJ):List D:=[.str x.Name,.bool x.Accepts,.sl (cM aQ.cells x.Choices),.sl (cM aS.cells x.Rules)]
theorem aJ.sized (xs:List aJ):sized 4 (cM aJ.cells xs) = true:=gM _ _ (fun x=>by rfl) xs
theorem aJ.len (x:aJ):x.cells.length = 4:=rfl
theorem aJ.size {β:Type} (x:aJ) (y:Option β):kA x.cells 4 y = y:=rfl
theorem aJ.eq1 {β:Type} (x:aJ) (ks:List Nat) (ys:List V) (k:Bool->Option β):dP ks (aE x.cells) ys k = dP ks [.d (.str x.Name),.d (.bool x.Accepts),.d (.sl (cM aQ.cells x.Choices)),.d (.sl (cM aS.cells x.Rules))] ys k:=rfl
theorem aJ.eq2 {β:Type} (x:aJ) (ks:List Nat) (ys:List V) (k:Bool->Option β):dP ks ys (aE x.cells) k = dP ks ys [.d (.str x.Name),.d (.bool x.Accepts),.d (.sl (cM aQ.cells x.Choices)),.d (.sl (cM aS.cells x.Rules))] k:=rfl
theorem aJ.lens {β:Type} (x:aJ) (y:Option β):rR (aE x.cells) 4 y = y:=rfl
theorem aJ.vsets {β:Type} (x:aJ) (z:List V) (o:Nat) (k:List V->Option β):dL z o (aE x.cells) k = dL z o [.d (.str x.Name),.d (.bool x.Accepts),.d (.sl (cM aQ.cells x.Choices)),.d (.sl (cM aS.cells x.Rules))] k:=rfl
theorem aJ.st_d {β:Type} (x:aJ) (y:D) (sz off id:Nat) (kw:V->List (Nat × Option aO)->Option β):aG sz off id (.d y) (some (.box (aE x.cells))) kw = aG sz off id (.d y) (some (.box [.d (.str x.Name),.d (.bool x.Accepts),.d (.sl (cM aQ.cells x.Choices)),.d (.sl (cM aS.cells x.Rules))])) kw:=rfl
theorem aJ.st_nil {β:Type} (x:aJ)  (sz off id:Nat) (kw:V->List (Nat × Option aO)->Option β):aG sz off id .nil (some (.box (aE x.cells))) kw = aG sz off id .nil (some (.box [.d (.str x.Name),.d (.bool x.Accepts),.d (.sl (cM aQ.cells x.Choices)),.d (.sl (cM aS.cells x.Rules))])) kw:=rfl
theorem aJ.st_own {β:Type} (x:aJ) (i v sz off id:Nat) (kw:V->List (Nat × Option aO)->Option β):aG sz off id (.own i v) (some (.box (aE x.cells))) kw = aG sz off id (.own i v) (some (.box [.d (.str x.Name),.d (.bool x.Accepts),.d (.sl (cM aQ.cells x.Choices)),.d (.sl (cM aS.cells x.Rules))])) kw:=rfl
theorem aJ.st_agg {β:Type} (x:aJ) (y:List V) (sz off id:Nat) (kw:V->List (Nat × Option aO)->Option β):aG sz off id (.agg y) (some (.box (aE x.cells))) kw = aG sz off id (.agg y) (some (.box [.d (.str x.Name),.d (.bool x.Accepts),.d (.sl (cM aQ.cells x.Choices)),.d (.sl (cM aS.cells x.Rules))])) kw:=rfl
theorem aJ.st_ptr {β:Type} (x:aJ) (i v sz off id:Nat) (kw:V->List (Nat × Option aO)->Option β):aG sz off id (.ptr i v) (some (.box (aE x.cells))) kw = aG sz off id (.ptr i v) (some (.box [.d (.str x.Name),.d (.bool x.Accepts),.d (.sl (cM aQ.cells x.Choices)),.d (.sl (cM aS.cells x.Rules))])) kw:=rfl
theorem aJ.part {β:Type} (x:aJ) (off id:Nat) (b:Option aO) (kw:V->List (Nat × Option aO)->Option β):aG 4 (off + 1) id (b9 x.cells) b kw = aG 4 (off + 1) id (.agg [.d (.str x.Name),.d (.bool x.Accepts),.d (.sl (cM aQ.cells x.Choices)),.d (.sl (cM aS.cells x.Rules))]) b kw:=rfl
theorem aJ.put {β:Type} (x:aJ) (id:Nat) (cs:List V) (hc:cs.length = 4) (kw:V->List (Nat × Option aO)->Option β):aG 4 0 id (b9 x.cells) (some (.box cs)) kw = kw .any [(id,some (.box (aE x.cells)))]:=c9 4 id _ rfl cs hc
theorem aJ.rset {β:Type} (x:aJ) (off:Nat) (d:D) (ds:List D) (n:Nat) (k:List D->Option β):a7 x.cells off (d :: ds) n k = a7 [.str x.Name,.bool x.Accepts,.sl (cM aQ.cells x.Choices),.sl (cM aS.cells x.Rules)] off (d :: ds) n k:=rfl
theorem aJ.rfull {β:Type} (x y:aJ) (k:List D->Option β):a7 x.cells 0 y.cells 4 k = k y.cells:=by unfold a7; exact (if_pos ⟨rfl,Nat.le_refl _⟩).trans rfl
theorem aJ.get0 {β:Type} (x:aJ) (k:D->Option β):cA x.cells 0 k = k (.str x.Name):=rfl
theorem aJ.get1 {β:Type} (x:aJ) (k:D->Option β):cA x.cells 1 k = k (.bool x.Accepts):=rfl
theorem aJ.get2 {β:Type} (x:aJ) (k:D->Option β):cA x.cells 2 k = k (.sl (cM aQ.cells x.Choices)):=rfl
theorem aJ.get3 {β:Type} (x:aJ) (k:D->Option β):cA x.cells 3 k = k (.sl (cM aS.cells x.Rules)):=rfl
theorem aJ.sub0_4 {β:Type} (x:aJ) (k:List D->Option β):nZ x.cells 0 4 k = k x.cells:=rfl
theorem aJ.cells_mk (f0:ByteArray) (f1:Bool) (f2:List aQ) (f3:List aS):aJ.cells (aJ.mk f0 f1 f2 f3) = [.str f0,.bool f1,.sl (cM aQ.cells f2),.sl (cM aS.cells f3)]:=rfl
structure aR where
 From:Int
 To:Int
 Days:Int
 deriving Inhabited
def aR.cells (x:aR):List D:=[.int .i64 x.From,.int .i64 x.To,.int .i64 x.Days]
theorem aR.sized (xs:List aR):sized 3 (cM aR.cells xs) = true:=gM _ _ (fun x=>by rfl) xs
theorem aR.len (x:aR):x.cells.length = 3:=rfl
theorem aR.size {β:Type} (x:aR) (y:Option β):kA x.cells 3 y = y:=rfl
theorem aR.eq1 {β:Type} (x:aR) (ks:List Nat) (ys:List V) (k:Bool->Option β):dP ks (aE x.cells) ys k = dP ks [.d (.int .i64 x.From),.d (.int .i64 x.To),.d (.int .i64 x.Days)] ys k:=rfl
theorem aR.eq2 {β:Type} (x:aR) (ks:List Nat) (ys:List V) (k:Bool->Option β):dP ks ys (aE x.cells) k = dP ks ys [.d (.int .i64 x.From),.d (.int .i64 x.To),.d (.int .i64 x.Days)] k:=rfl
theorem aR.lens {β:Type} (x:aR) (y:Option β):rR (aE x.cells) 3 y = y:=rfl
theorem aR.vsets {β:Type} (x:aR) (z:List V) (o:Nat) (k:List V->Option β):dL z o (aE x.cells) k = dL z o [.d (.int .i64 x.From),.d (.int .i64 x.To),.d (.int .i64 x.Days)] k:=rfl
theorem aR.st_d {β:Type} (x:aR) (y:D) (sz off id:Nat) (kw:V->List (Nat × Option aO)->Option β):aG sz off id (.d y) (some (.box (aE x.cells))) kw = aG sz off id (.d y) (some (.box [.d (.int .i64 x.From),.d (.int .i64 x.To),.d (.int .i64 x.Days)])) kw:=rfl
theorem aR.st_nil {β:Type} (x:aR)  (sz off id:Nat) (kw:V->List (Nat × Option aO)->Option β):aG sz off id .nil (some (.box (aE x.cells))) kw = aG sz off id .nil (some (.box [.d (.int .i64 x.From),.d (.int .i64 x.To),.d (.int .i64 x.Days)])) kw:=rfl
theorem aR.st_own {β:Type} (x:aR) (i v sz off id:Nat) (kw:V->List (Nat × Option aO)->Option β):aG sz off id (.own i v) (some (.box (aE x.cells))) kw = aG sz off id (.own i v) (some (.box [.d (.int .i64 x.From),.d (.int .i64 x.To),.d (.int .i64 x.Days)])) kw:=rfl
theorem aR.st_agg {β:Type} (x:aR) (y:List V) (sz off id:Nat) (kw:V->List (Nat × Option aO)->Option β):aG sz off id (.agg y) (some (.box (aE x.cells))) kw = aG sz off id (.agg y) (some (.box [.d (.int .i64 x.From),.d (.int .i64 x.To),.d (.int .i64 x.Days)])) kw:=rfl
theorem aR.st_ptr {β:Type} (x:aR) (i v sz off id:Nat) (kw:V->List (Nat × Option aO)->Option β):aG sz off id (.ptr i v) (some (.box (aE x.cells))) kw = aG sz off id (.ptr i v) (some (.box [.d (.int .i64 x.From),.d (.int .i64 x.To),.d (.int .i64 x.Days)])) kw:=rfl
theorem aR.part {β:Type} (x:aR) (off id:Nat) (b:Option aO) (kw:V->List (Nat × Option aO)->Option β):aG 3 (off + 1) id (b9 x.cells) b kw = aG 3 (off + 1) id (.agg [.d (.int .i64 x.From),.d (.int .i64 x.To),.d (.int .i64 x.Days)]) b kw:=rfl
theorem aR.put {β:Type} (x:aR) (id:Nat) (cs:List V) (hc:cs.length = 3) (kw:V->List (Nat × Option aO)->Option β):aG 3 0 id (b9 x.cells) (some (.box cs)) kw = kw .any [(id,some (.box (aE x.cells)))]:=c9 3 id _ rfl cs hc
theorem aR.rset {β:Type} (x:aR) (off:Nat) (d:D) (ds:List D) (n:Nat) (k:List D->Option β):a7 x.cells off (d :: ds) n k = a7 [.int .i64 x.From,.int .i64 x.To,.int .i64 x.Days] off (d :: ds) n k:=rfl
theorem aR.rfull {β:Type} (x y:aR) (k:List D->Option β):a7 x.cells 0 y.cells 3 k = k y.cells:=by unfold a7; exact (if_pos ⟨rfl,Nat.le_refl _⟩).trans rfl
theorem aR.get0 {β:Type} (x:aR) (k:D->Option β):cA x.cells 0 k = k (.int .i64 x.From):=rfl
theorem aR.get1 {β:Type} (x:aR) (k:D->Option β):cA x.cells 1 k = k (.int .i64 x.To):=rfl
theorem aR.get2 {β:Type} (x:aR) (k:D->Option β):cA x.cells 2 k = k (.int .i64 x.Days):=rfl
theorem aR.sub0_3 {β:Type} (x:aR) (k:List D->Option β):nZ x.cells 0 3 k = k x.cells:=rfl
theorem aR.cells_mk (f0 f1 f2:Int):aR.cells (aR.mk f0 f1 f2) = [.int .i64 f0,.int .i64 f1,.int .i64 f2]:=rfl
structure bA where
 From:Int
 To:Int
 Num:Int
 Den:Int
 Since:Int
 deriving Inhabited
def bA.cells (x:bA):List D:=[.int .i64 x.From,.int .i64 x.To,.int .i64 x.Num,.int .i64 x.Den,.int .i64 x.Since]
theorem bA.sized (xs:List bA):sized 5 (cM bA.cells xs) = true:=gM _ _ (fun x=>by rfl) xs
theorem bA.len (x:bA):x.cells.length = 5:=rfl
theorem bA.size {β:Type} (x:bA) (y:Option β):kA x.cells 5 y = y:=rfl
theorem bA.eq1 {β:Type} (x:bA) (ks:List Nat) (ys:List V) (k:Bool->Option β):dP ks (aE x.cells) ys k = dP ks [.d (.int .i64 x.From),.d (.int .i64 x.To),.d (.int .i64 x.Num),.d (.int .i64 x.Den),.d (.int .i64 x.Since)] ys k:=rfl
theorem bA.eq2 {β:Type} (x:bA) (ks:List Nat) (ys:List V) (k:Bool->Option β):dP ks ys (aE x.cells) k = dP ks ys [.d (.int .i64 x.From),.d (.int .i64 x.To),.d (.int .i64 x.Num),.d (.int .i64 x.Den),.d (.int .i64 x.Since)] k:=rfl
theorem bA.lens {β:Type} (x:bA) (y:Option β):rR (aE x.cells) 5 y = y:=rfl
theorem bA.vsets {β:Type} (x:bA) (z:List V) (o:Nat) (k:List V->Option β):dL z o (aE x.cells) k = dL z o [.d (.int .i64 x.From),.d (.int .i64 x.To),.d (.int .i64 x.Num),.d (.int .i64 x.Den),.d (.int .i64 x.Since)] k:=rfl
theorem bA.st_d {β:Type} (x:bA) (y:D) (sz off id:Nat) (kw:V->List (Nat × Option aO)->Option β):aG sz off id (.d y) (some (.box (aE x.cells))) kw = aG sz off id (.d y) (some (.box [.d (.int .i64 x.From),.d (.int .i64 x.To),.d (.int .i64 x.Num),.d (.int .i64 x.Den),.d (.int .i64 x.Since)])) kw:=rfl
theorem bA.st_nil {β:Type} (x:bA)  (sz off id:Nat) (kw:V->List (Nat × Option aO)->Option β):aG sz off id .nil (some (.box (aE x.cells))) kw = aG sz off id .nil (some (.box [.d (.int .i64 x.From),.d (.int .i64 x.To),.d (.int .i64 x.Num),.d (.int .i64 x.Den),.d (.int .i64 x.Since)])) kw:=rfl
theorem bA.st_own {β:Type} (x:bA) (i v sz off id:Nat) (kw:V->List (Nat × Option aO)->Option β):aG sz off id (.own i v) (some (.box (aE x.cells))) kw = aG sz off id (.own i v) (some (.box [.d (.int .i64 x.From),.d (.int .i64 x.To),.d (.int .i64 x.Num),.d (.int .i64 x.Den),.d (.int .i64 x.Since)])) kw:=rfl
theorem bA.st_agg {β:Type} (x:bA) (y:List V) (sz off id:Nat) (kw:V->List (Nat × Option aO)->Option β):aG sz off id (.agg y) (some (.box (aE x.cells))) kw = aG sz off id (.agg y) (some (.box [.d (.int .i64 x.From),.d (.int .i64 x.To),.d (.int .i64 x.Num),.d (.int .i64 x.Den),.d (.int .i64 x.Since)])) kw:=rfl
theorem bA.st_ptr {β:Type} (x:bA) (i v sz off id:Nat) (kw:V->List (Nat × Option aO)->Option β):aG sz off id (.ptr i v) (some (.box (aE x.cells))) kw = aG sz off id (.ptr i v) (some (.box [.d (.int .i64 x.From),.d (.int .i64 x.To),.d (.int .i64 x.Num),.d (.int .i64 x.Den),.d (.int .i64 x.Since)])) kw:=rfl
theorem bA.part {β:Type} (x:bA) (off id:Nat) (b:Option aO) (kw:V->List (Nat × Option aO)->Option β):aG 5 (off + 1) id (b9 x.cells) b kw = aG 5 (off + 1) id (.agg [.d (.int .i64 x.From),.d (.int .i64 x.To),.d (.int .i64 x.Num),.d (.int .i64 x.Den),.d (.int .i64 x.Since)]) b kw:=rfl
theorem bA.put {β:Type} (x:bA) (id:Nat) (cs:List V) (hc:cs.length = 5) (kw:V->List (Nat × Option aO)->Option β):aG 5 0 id (b9 x.cells) (some (.box cs)) kw = kw .any [(id,some (.box (aE x.cells)))]:=c9 5 id _ rfl cs hc
theorem bA.rset {β:Type} (x:bA) (off:Nat) (d:D) (ds:List D) (n:Nat) (k:List D->Option β):a7 x.cells off (d :: ds) n k = a7 [.int .i64 x.From,.int .i64 x.To,.int .i64 x.Num,.int .i64 x.Den,.int .i64 x.Since] off (d :: ds) n k:=rfl
theorem bA.rfull {β:Type} (x y:bA) (k:List D->Option β):a7 x.cells 0 y.cells 5 k = k y.cells:=by unfold a7; exact (if_pos ⟨rfl,Nat.le_refl _⟩).trans rfl
theorem bA.get0 {β:Type} (x:bA) (k:D->Option β):cA x.cells 0 k = k (.int .i64 x.From):=rfl
theorem bA.get1 {β:Type} (x:bA) (k:D->Option β):cA x.cells 1 k = k (.int .i64 x.To):=rfl
theorem bA.get2 {β:Type} (x:bA) (k:D->Option β):cA x.cells 2 k = k (.int .i64 x.Num):=rfl
theorem bA.get3 {β:Type} (x:bA) (k:D->Option β):cA x.cells 3 k = k (.int .i64 x.Den):=rfl
theorem bA.get4 {β:Type} (x:bA) (k:D->Option β):cA x.cells 4 k = k (.int .i64 x.Since):=rfl
theorem bA.sub0_5 {β:Type} (x:bA) (k:List D->Option β):nZ x.cells 0 5 k = k x.cells:=rfl
theorem bA.cells_mk (f0 f1 f2 f3 f4:Int):bA.cells (bA.mk f0 f1 f2 f3 f4) = [.int .i64 f0,.int .i64 f1,.int .i64 f2,.int .i64 f3,.int .i64 f4]:=rfl
structure bD where
 Order:Int
 From:Int
 To:Int
 deriving Inhabited
def bD.cells (x:bD):List D:=[.int .i64 x.Order,.int .i64 x.From,.int .i64 x.To]
theorem bD.sized (xs:List bD):sized 3 (cM bD.cells xs) = true:=gM _ _ (fun x=>by rfl) xs
theorem bD.len (x:bD):x.cells.length = 3:=rfl
theorem bD.size {β:Type} (x:bD) (y:Option β):kA x.cells 3 y = y:=rfl
theorem bD.eq1 {β:Type} (x:bD) (ks:List Nat) (ys:List V) (k:Bool->Option β):dP ks (aE x.cells) ys k = dP ks [.d (.int .i64 x.Order),.d (.int .i64 x.From),.d (.int .i64 x.To)] ys k:=rfl
theorem bD.eq2 {β:Type} (x:bD) (ks:List Nat) (ys:List V) (k:Bool->Option β):dP ks ys (aE x.cells) k = dP ks ys [.d (.int .i64 x.Order),.d (.int .i64 x.From),.d (.int .i64 x.To)] k:=rfl
theorem bD.lens {β:Type} (x:bD) (y:Option β):rR (aE x.cells) 3 y = y:=rfl
theorem bD.vsets {β:Type} (x:bD) (z:List V) (o:Nat) (k:List V->Option β):dL z o (aE x.cells) k = dL z o [.d (.int .i64 x.Order),.d (.int .i64 x.From),.d (.int .i64 x.To)] k:=rfl
theorem bD.st_d {β:Type} (x:bD) (y:D) (sz off id:Nat) (kw:V->List (Nat × Option aO)->Option β):aG sz off id (.d y) (some (.box (aE x.cells))) kw = aG sz off id (.d y) (some (.box [.d (.int .i64 x.Order),.d (.int .i64 x.From),.d (.int .i64 x.To)])) kw:=rfl
theorem bD.st_nil {β:Type} (x:bD)  (sz off id:Nat) (kw:V->List (Nat × Option aO)->Option β):aG sz off id .nil (some (.box (aE x.cells))) kw = aG sz off id .nil (some (.box [.d (.int .i64 x.Order),.d (.int .i64 x.From),.d (.int .i64 x.To)])) kw:=rfl
theorem bD.st_own {β:Type} (x:bD) (i v sz off id:Nat) (kw:V->List (Nat × Option aO)->Option β):aG sz off id (.own i v) (some (.box (aE x.cells))) kw = aG sz off id (.own i v) (some (.box [.d (.int .i64 x.Order),.d (.int .i64 x.From),.d (.int .i64 x.To)])) kw:=rfl
theorem bD.st_agg {β:Type} (x:bD) (y:List V) (sz off id:Nat) (kw:V->List (Nat × Option aO)->Option β):aG sz off id (.agg y) (some (.box (aE x.cells))) kw = aG sz off id (.agg y) (some (.box [.d (.int .i64 x.Order),.d (.int .i64 x.From),.d (.int .i64 x.To)])) kw:=rfl
theorem bD.st_ptr {β:Type} (x:bD) (i v sz off id:Nat) (kw:V->List (Nat × Option aO)->Option β):aG sz off id (.ptr i v) (some (.box (aE x.cells))) kw = aG sz off id (.ptr i v) (some (.box [.d (.int .i64 x.Order),.d (.int .i64 x.From),.d (.int .i64 x.To)])) kw:=rfl
theorem bD.part {β:Type} (x:bD) (off id:Nat) (b:Option aO) (kw:V->List (Nat × Option aO)->Option β):aG 3 (off + 1) id (b9 x.cells) b kw = aG 3 (off + 1) id (.agg [.d (.int .i64 x.Order),.d (.int .i64 x.From),.d (.int .i64 x.To)]) b kw:=rfl
theorem bD.put {β:Type} (x:bD) (id:Nat) (cs:List V) (hc:cs.length = 3) (kw:V->List (Nat × Option aO)->Option β):aG 3 0 id (b9 x.cells) (some (.box cs)) kw = kw .any [(id,some (.box (aE x.cells)))]:=c9 3 id _ rfl cs hc
theorem bD.rset {β:Type} (x:bD) (off:Nat) (d:D) (ds:List D) (n:Nat) (k:List D->Option β):a7 x.cells off (d :: ds) n k = a7 [.int .i64 x.Order,.int .i64 x.From,.int .i64 x.To] off (d :: ds) n k:=rfl
theorem bD.rfull {β:Type} (x y:bD) (k:List D->Option β):a7 x.cells 0 y.cells 3 k = k y.cells:=by unfold a7; exact (if_pos ⟨rfl,Nat.le_refl _⟩).trans rfl
theorem bD.get0 {β:Type} (x:bD) (k:D->Option β):cA x.cells 0 k = k (.int .i64 x.Order):=rfl
theorem bD.get1 {β:Type} (x:bD) (k:D->Option β):cA x.cells 1 k = k (.int .i64 x.From):=rfl
theorem bD.get2 {β:Type} (x:bD) (k:D->Option β):cA x.cells 2 k = k (.int .i64 x.To):=rfl
theorem bD.sub0_3 {β:Type} (x:bD) (k:List D->Option β):nZ x.cells 0 3 k = k x.cells:=rfl
theorem bD.cells_mk (f0 f1 f2:Int):bD.cells (bD.mk f0 f1 f2) = [.int .i64 f0,.int .i64 f1,.int .i64 f2]:=rfl
structure aB where
 Currencies:List ByteArray
 Cities:List aX
 Groups:List aZ
 Firms:List bB
 Orders:List aJ
 Usances:List aR
 Rates:List bA
 Halts:List bD
 deriving Inhabited
def aB.cells (x:aB):List D:=[.sl (cM cS x.Currencies),.sl (cM aX.cells x.Cities),.sl (cM aZ.cells x.Groups),.sl (cM bB.cells x.Firms),.sl (cM aJ.cells x.Orders),.sl (cM aR.cells x.Usances),.sl (cM bA.cells x.Rates),.sl (cM bD.cells x.Halts)]
theorem aB.sized (xs:List aB):sized 8 (cM aB.cells xs) = true:=gM _ _ (fun x=>by rfl) xs
theorem aB.len (x:aB):x.cells.length = 8:=rfl
theorem aB.size {β:Type} (x:aB) (y:Option β):kA x.cells 8 y = y:=rfl
theorem aB.eq1 {β:Type} (x:aB) (ks:List Nat) (ys:List V) (k:Bool->Option β):dP ks (aE x.cells) ys k = dP ks [.d (.sl (cM cS x.Currencies)),.d (.sl (cM aX.cells x.Cities)),.d (.sl (cM aZ.cells x.Groups)),.d (.sl (cM bB.cells x.Firms)),.d (.sl (cM aJ.cells x.Orders)),.d (.sl (cM aR.cells x.Usances)),.d (.sl (cM bA.cells x.Rates)),.d (.sl (cM bD.cells x.Halts))] ys k:=rfl
theorem aB.eq2 {β:Type} (x:aB) (ks:List Nat) (ys:List V) (k:Bool->Option β):dP ks ys (aE x.cells) k = dP ks ys [.d (.sl (cM cS x.Currencies)),.d (.sl (cM aX.cells x.Cities)),.d (.sl (cM aZ.cells x.Groups)),.d (.sl (cM bB.cells x.Firms)),.d (.sl (cM aJ.cells x.Orders)),.d (.sl (cM aR.cells x.Usances)),.d (.sl (cM bA.cells x.Rates)),.d (.sl (cM bD.cells x.Halts))] k:=rfl
theorem aB.lens {β:Type} (x:aB) (y:Option β):rR (aE x.cells) 8 y = y:=rfl
theorem aB.vsets {β:Type} (x:aB) (z:List V) (o:Nat) (k:List V->Option β):dL z o (aE x.cells) k = dL z o [.d (.sl (cM cS x.Currencies)),.d (.sl (cM aX.cells x.Cities)),.d (.sl (cM aZ.cells x.Groups)),.d (.sl (cM bB.cells x.Firms)),.d (.sl (cM aJ.cells x.Orders)),.d (.sl (cM aR.cells x.Usances)),.d (.sl (cM bA.cells x.Rates)),.d (.sl (cM bD.cells x.Halts))] k:=rfl
theorem aB.st_d {β:Type} (x:aB) (y:D) (sz off id:Nat) (kw:V->List (Nat × Option aO)->Option β):aG sz off id (.d y) (some (.box (aE x.cells))) kw = aG sz off id (.d y) (some (.box [.d (.sl (cM cS x.Currencies)),.d (.sl (cM aX.cells x.Cities)),.d (.sl (cM aZ.cells x.Groups)),.d (.sl (cM bB.cells x.Firms)),.d (.sl (cM aJ.cells x.Orders)),.d (.sl (cM aR.cells x.Usances)),.d (.sl (cM bA.cells x.Rates)),.d (.sl (cM bD.cells x.Halts))])) kw:=rfl
theorem aB.st_nil {β:Type} (x:aB)  (sz off id:Nat) (kw:V->List (Nat × Option aO)->Option β):aG sz off id .nil (some (.box (aE x.cells))) kw = aG sz off id .nil (some (.box [.d (.sl (cM cS x.Currencies)),.d (.sl (cM aX.cells x.Cities)),.d (.sl (cM aZ.cells x.Groups)),.d (.sl (cM bB.cells x.Firms)),.d (.sl (cM aJ.cells x.Orders)),.d (.sl (cM aR.cells x.Usances)),.d (.sl (cM bA.cells x.Rates)),.d (.sl (cM bD.cells x.Halts))])) kw:=rfl
theorem aB.st_own {β:Type} (x:aB) (i v sz off id:Nat) (kw:V->List (Nat × Option aO)->Option β):aG sz off id (.own i v) (some (.box (aE x.cells))) kw = aG sz off id (.own i v) (some (.box [.d (.sl (cM cS x.Currencies)),.d (.sl (cM aX.cells x.Cities)),.d (.sl (cM aZ.cells x.Groups)),.d (.sl (cM bB.cells x.Firms)),.d (.sl (cM aJ.cells x.Orders)),.d (.sl (cM aR.cells x.Usances)),.d (.sl (cM bA.cells x.Rates)),.d (.sl (cM bD.cells x.Halts))])) kw:=rfl
theorem aB.st_agg {β:Type} (x:aB) (y:List V) (sz off id:Nat) (kw:V->List (Nat × Option aO)->Option β):aG sz off id (.agg y) (some (.box (aE x.cells))) kw = aG sz off id (.agg y) (some (.box [.d (.sl (cM cS x.Currencies)),.d (.sl (cM aX.cells x.Cities)),.d (.sl (cM aZ.cells x.Groups)),.d (.sl (cM bB.cells x.Firms)),.d (.sl (cM aJ.cells x.Orders)),.d (.sl (cM aR.cells x.Usances)),.d (.sl (cM bA.cells x.Rates)),.d (.sl (cM bD.cells x.Halts))])) kw:=rfl
theorem aB.st_ptr {β:Type} (x:aB) (i v sz off id:Nat) (kw:V->List (Nat × Option aO)->Option β):aG sz off id (.ptr i v) (some (.box (aE x.cells))) kw = aG sz off id (.ptr i v) (some (.box [.d (.sl (cM cS x.Currencies)),.d (.sl (cM aX.cells x.Cities)),.d (.sl (cM aZ.cells x.Groups)),.d (.sl (cM bB.cells x.Firms)),.d (.sl (cM aJ.cells x.Orders)),.d (.sl (cM aR.cells x.Usances)),.d (.sl (cM bA.cells x.Rates)),.d (.sl (cM bD.cells x.Halts))])) kw:=rfl
theorem aB.part {β:Type} (x:aB) (off id:Nat) (b:Option aO) (kw:V->List (Nat × Option aO)->Option β):aG 8 (off + 1) id (b9 x.cells) b kw = aG 8 (off + 1) id (.agg [.d (.sl (cM cS x.Currencies)),.d (.sl (cM aX.cells x.Cities)),.d (.sl (cM aZ.cells x.Groups)),.d (.sl (cM bB.cells x.Firms)),.d (.sl (cM aJ.cells x.Orders)),.d (.sl (cM aR.cells x.Usances)),.d (.sl (cM bA.cells x.Rates)),.d (.sl (cM bD.cells x.Halts))]) b kw:=rfl
theorem aB.put {β:Type} (x:aB) (id:Nat) (cs:List V) (hc:cs.length = 8) (kw:V->List (Nat × Option aO)->Option β):aG 8 0 id (b9 x.cells) (some (.box cs)) kw = kw .any [(id,some (.box (aE x.cells)))]:=c9 8 id _ rfl cs hc
theorem aB.rset {β:Type} (x:aB) (off:Nat) (d:D) (ds:List D) (n:Nat) (k:List D->Option β):a7 x.cells off (d :: ds) n k = a7 [.sl (cM cS x.Currencies),.sl (cM aX.cells x.Cities),.sl (cM aZ.cells x.Groups),.sl (cM bB.cells x.Firms),.sl (cM aJ.cells x.Orders),.sl (cM aR.cells x.Usances),.sl (cM bA.cells x.Rates),.sl (cM bD.cells x.Halts)] off (d :: ds) n k:=rfl
theorem aB.rfull {β:Type} (x y:aB) (k:List D->Option β):a7 x.cells 0 y.cells 8 k = k y.cells:=by unfold a7; exact (if_pos ⟨rfl,Nat.le_refl _⟩).trans rfl
theorem aB.get0 {β:Type} (x:aB) (k:D->Option β):cA x.cells 0 k = k (.sl (cM cS x.Currencies)):=rfl
theorem aB.get1 {β:Type} (x:aB) (k:D->Option β):cA x.cells 1 k = k (.sl (cM aX.cells x.Cities)):=rfl
theorem aB.get2 {β:Type} (x:aB) (k:D->Option β):cA x.cells 2 k = k (.sl (cM aZ.cells x.Groups)):=rfl
theorem aB.get3 {β:Type} (x:aB) (k:D->Option β):cA x.cells 3 k = k (.sl (cM bB.cells x.Firms)):=rfl
theorem aB.get4 {β:Type} (x:aB) (k:D->Option β):cA x.cells 4 k = k (.sl (cM aJ.cells x.Orders)):=rfl
theorem aB.get5 {β:Type} (x:aB) (k:D->Option β):cA x.cells 5 k = k (.sl (cM aR.cells x.Usances)):=rfl
theorem aB.get6 {β:Type} (x:aB) (k:D->Option β):cA x.cells 6 k = k (.sl (cM bA.cells x.Rates)):=rfl
theorem aB.get7 {β:Type} (x:aB) (k:D->Option β):cA x.cells 7 k = k (.sl (cM bD.cells x.Halts)):=rfl
theorem aB.sub0_8 {β:Type} (x:aB) (k:List D->Option β):nZ x.cells 0 8 k = k x.cells:=rfl
theorem aB.cells_mk (f0:List ByteArray) (f1:List aX) (f2:List aZ) (f3:List bB) (f4:List aJ) (f5:List aR) (f6:List bA) (f7:List bD):aB.cells (aB.mk f0 f1 f2 f3 f4 f5 f6 f7) = [.sl (cM cS f0),.sl (cM aX.cells f1),.sl (cM aZ.cells f2),.sl (cM bB.cells f3),.sl (cM aJ.cells f4),.sl (cM aR.cells f5),.sl (cM bA.cells f6),.sl (cM bD.cells f7)]:=rfl
structure aA where
 Kind:Int
 Forum:Int
 Ask:Int
 Places:List Int
 Path:List Int
 deriving Inhabited
def aA.cells (x:aA):List D:=[.int .i64 x.Kind,.int .i64 x.Forum,.int .i64 x.Ask,.sl (cM cI x.Places),.sl (cM cI x.Path)]
theorem aA.sized (xs:List aA):sized 5 (cM aA.cells xs) = true:=gM _ _ (fun x=>by rfl) xs
theorem aA.len (x:aA):x.cells.length = 5:=rfl
theorem aA.size {β:Type} (x:aA) (y:Option β):kA x.cells 5 y = y:=rfl
theorem aA.eq1 {β:Type} (x:aA) (ks:List Nat) (ys:List V) (k:Bool->Option β):dP ks (aE x.cells) ys k = dP ks [.d (.int .i64 x.Kind),.d (.int .i64 x.Forum),.d (.int .i64 x.Ask),.d (.sl (cM cI x.Places)),.d (.sl (cM cI x.Path))] ys k:=rfl
theorem aA.eq2 {β:Type} (x:aA) (ks:List Nat) (ys:List V) (k:Bool->Option β):dP ks ys (aE x.cells) k = dP ks ys [.d (.int .i64 x.Kind),.d (.int .i64 x.Forum),.d (.int .i64 x.Ask),.d (.sl (cM cI x.Places)),.d (.sl (cM cI x.Path))] k:=rfl
theorem aA.lens {β:Type} (x:aA) (y:Option β):rR (aE x.cells) 5 y = y:=rfl
theorem aA.vsets {β:Type} (x:aA) (z:List V) (o:Nat) (k:List V->Option β):dL z o (aE x.cells) k = dL z o [.d (.int .i64 x.Kind),.d (.int .i64 x.Forum),.d (.int .i64 x.Ask),.d (.sl (cM cI x.Places)),.d (.sl (cM cI x.Path))] k:=rfl
theorem aA.st_d {β:Type} (x:aA) (y:D) (sz off id:Nat) (kw:V->List (Nat × Option aO)->Option β):aG sz off id (.d y) (some (.box (aE x.cells))) kw = aG sz off id (.d y) (some (.box [.d (.int .i64 x.Kind),.d (.int .i64 x.Forum),.d (.int .i64 x.Ask),.d (.sl (cM cI x.Places)),.d (.sl (cM cI x.Path))])) kw:=rfl
theorem aA.st_nil {β:Type} (x:aA)  (sz off id:Nat) (kw:V->List (Nat × Option aO)->Option β):aG sz off id .nil (some (.box (aE x.cells))) kw = aG sz off id .nil (some (.box [.d (.int .i64 x.Kind),.d (.int .i64 x.Forum),.d (.int .i64 x.Ask),.d (.sl (cM cI x.Places)),.d (.sl (cM cI x.Path))])) kw:=rfl
theorem aA.st_own {β:Type} (x:aA) (i v sz off id:Nat) (kw:V->List (Nat × Option aO)->Option β):aG sz off id (.own i v) (some (.box (aE x.cells))) kw = aG sz off id (.own i v) (some (.box [.d (.int .i64 x.Kind),.d (.int .i64 x.Forum),.d (.int .i64 x.Ask),.d (.sl (cM cI x.Places)),.d (.sl (cM cI x.Path))])) kw:=rfl
theorem aA.st_agg {β:Type} (x:aA) (y:List V) (sz off id:Nat) (kw:V->List (Nat × Option aO)->Option β):aG sz off id (.agg y) (some (.box (aE x.cells))) kw = aG sz off id (.agg y) (some (.box [.d (.int .i64 x.Kind),.d (.int .i64 x.Forum),.d (.int .i64 x.Ask),.d (.sl (cM cI x.Places)),.d (.sl (cM cI x.Path))])) kw:=rfl
theorem aA.st_ptr {β:Type} (x:aA) (i v sz off id:Nat) (kw:V->List (Nat × Option aO)->Option β):aG sz off id (.ptr i v) (some (.box (aE x.cells))) kw = aG sz off id (.ptr i v) (some (.box [.d (.int .i64 x.Kind),.d (.int .i64 x.Forum),.d (.int .i64 x.Ask),.d (.sl (cM cI x.Places)),.d (.sl (cM cI x.Path))])) kw:=rfl
theorem aA.part {β:Type} (x:aA) (off id:Nat) (b:Option aO) (kw:V->List (Nat × Option aO)->Option β):aG 5 (off + 1) id (b9 x.cells) b kw = aG 5 (off + 1) id (.agg [.d (.int .i64 x.Kind),.d (.int .i64 x.Forum),.d (.int .i64 x.Ask),.d (.sl (cM cI x.Places)),.d (.sl (cM cI x.Path))]) b kw:=rfl
theorem aA.put {β:Type} (x:aA) (id:Nat) (cs:List V) (hc:cs.length = 5) (kw:V->List (Nat × Option aO)->Option β):aG 5 0 id (b9 x.cells) (some (.box cs)) kw = kw .any [(id,some (.box (aE x.cells)))]:=c9 5 id _ rfl cs hc
theorem aA.rset {β:Type} (x:aA) (off:Nat) (d:D) (ds:List D) (n:Nat) (k:List D->Option β):a7 x.cells off (d :: ds) n k = a7 [.int .i64 x.Kind,.int .i64 x.Forum,.int .i64 x.Ask,.sl (cM cI x.Places),.sl (cM cI x.Path)] off (d :: ds) n k:=rfl
theorem aA.rfull {β:Type} (x y:aA) (k:List D->Option β):a7 x.cells 0 y.cells 5 k = k y.cells:=by unfold a7; exact (if_pos ⟨rfl,Nat.le_refl _⟩).trans rfl
theorem aA.get0 {β:Type} (x:aA) (k:D->Option β):cA x.cells 0 k = k (.int .i64 x.Kind):=rfl
theorem aA.get1 {β:Type} (x:aA) (k:D->Option β):cA x.cells 1 k = k (.int .i64 x.Forum):=rfl
theorem aA.get2 {β:Type} (x:aA) (k:D->Option β):cA x.cells 2 k = k (.int .i64 x.Ask):=rfl
theorem aA.get3 {β:Type} (x:aA) (k:D->Option β):cA x.cells 3 k = k (.sl (cM cI x.Places)):=rfl
theorem aA.get4 {β:Type} (x:aA) (k:D->Option β):cA x.cells 4 k = k (.sl (cM cI x.Path)):=rfl
theorem aA.sub0_5 {β:Type} (x:aA) (k:List D->Option β):nZ x.cells 0 5 k = k x.cells:=rfl
theorem aA.cells_mk (f0 f1 f2:Int) (f3 f4:List Int):aA.cells (aA.mk f0 f1 f2 f3 f4) = [.int .i64 f0,.int .i64 f1,.int .i64 f2,.sl (cM cI f3),.sl (cM cI f4)]:=rfl
structure aD where
 e0:Option aA
 e1:Option aA
 deriving Inhabited
def aD.cells (x:aD):List D:=[EV aA.cells x.e0,EV aA.cells x.e1]
theorem aD.sized (xs:List aD):sized 2 (cM aD.cells xs) = true:=gM _ _ (fun x=>by rfl) xs
theorem aD.len (x:aD):x.cells.length = 2:=rfl
theorem aD.size {β:Type} (x:aD) (y:Option β):kA x.cells 2 y = y:=rfl
theorem aD.eq1 {β:Type} (x:aD) (ks:List Nat) (ys:List V) (k:Bool->Option β):dP ks (aE x.cells) ys k = dP ks [.d (EV aA.cells x.e0),.d (EV aA.cells x.e1)] ys k:=rfl
theorem aD.eq2 {β:Type} (x:aD) (ks:List Nat) (ys:List V) (k:Bool->Option β):dP ks ys (aE x.cells) k = dP ks ys [.d (EV aA.cells x.e0),.d (EV aA.cells x.e1)] k:=rfl
theorem aD.lens {β:Type} (x:aD) (y:Option β):rR (aE x.cells) 2 y = y:=rfl
theorem aD.vsets {β:Type} (x:aD) (z:List V) (o:Nat) (k:List V->Option β):dL z o (aE x.cells) k = dL z o [.d (EV aA.cells x.e0),.d (EV aA.cells x.e1)] k:=rfl
theorem aD.st_d {β:Type} (x:aD) (y:D) (sz off id:Nat) (kw:V->List (Nat × Option aO)->Option β):aG sz off id (.d y) (some (.box (aE x.cells))) kw = aG sz off id (.d y) (some (.box [.d (EV aA.cells x.e0),.d (EV aA.cells x.e1)])) kw:=rfl
theorem aD.st_nil {β:Type} (x:aD)  (sz off id:Nat) (kw:V->List (Nat × Option aO)->Option β):aG sz off id .nil (some (.box (aE x.cells))) kw = aG sz off id .nil (some (.box [.d (EV aA.cells x.e0),.d (EV aA.cells x.e1)])) kw:=rfl
theorem aD.st_own {β:Type} (x:aD) (i v sz off id:Nat) (kw:V->List (Nat × Option aO)->Option β):aG sz off id (.own i v) (some (.box (aE x.cells))) kw = aG sz off id (.own i v) (some (.box [.d (EV aA.cells x.e0),.d (EV aA.cells x.e1)])) kw:=rfl
theorem aD.st_agg {β:Type} (x:aD) (y:List V) (sz off id:Nat) (kw:V->List (Nat × Option aO)->Option β):aG sz off id (.agg y) (some (.box (aE x.cells))) kw = aG sz off id (.agg y) (some (.box [.d (EV aA.cells x.e0),.d (EV aA.cells x.e1)])) kw:=rfl
theorem aD.st_ptr {β:Type} (x:aD) (i v sz off id:Nat) (kw:V->List (Nat × Option aO)->Option β):aG sz off id (.ptr i v) (some (.box (aE x.cells))) kw = aG sz off id (.ptr i v) (some (.box [.d (EV aA.cells x.e0),.d (EV aA.cells x.e1)])) kw:=rfl
theorem aD.part {β:Type} (x:aD) (off id:Nat) (b:Option aO) (kw:V->List (Nat × Option aO)->Option β):aG 2 (off + 1) id (b9 x.cells) b kw = aG 2 (off + 1) id (.agg [.d (EV aA.cells x.e0),.d (EV aA.cells x.e1)]) b kw:=rfl
theorem aD.put {β:Type} (x:aD) (id:Nat) (cs:List V) (hc:cs.length = 2) (kw:V->List (Nat × Option aO)->Option β):aG 2 0 id (b9 x.cells) (some (.box cs)) kw = kw .any [(id,some (.box (aE x.cells)))]:=c9 2 id _ rfl cs hc
theorem aD.rset {β:Type} (x:aD) (off:Nat) (d:D) (ds:List D) (n:Nat) (k:List D->Option β):a7 x.cells off (d :: ds) n k = a7 [EV aA.cells x.e0,EV aA.cells x.e1] off (d :: ds) n k:=rfl
theorem aD.rfull {β:Type} (x y:aD) (k:List D->Option β):a7 x.cells 0 y.cells 2 k = k y.cells:=by unfold a7; exact (if_pos ⟨rfl,Nat.le_refl _⟩).trans rfl
theorem aD.get0 {β:Type} (x:aD) (k:D->Option β):cA x.cells 0 k = k (EV aA.cells x.e0):=rfl
theorem aD.get1 {β:Type} (x:aD) (k:D->Option β):cA x.cells 1 k = k (EV aA.cells x.e1):=rfl
theorem aD.sub0_2 {β:Type} (x:aD) (k:List D->Option β):nZ x.cells 0 2 k = k x.cells:=rfl
theorem aD.cells_mk (f0 f1:Option aA):aD.cells (aD.mk f0 f1) = [EV aA.cells f0,EV aA.cells f1]:=rfl
structure aH where
 Known:Bool
 N:Int
 deriving Inhabited
def aH.cells (x:aH):List D:=[.bool x.Known,.int .i64 x.N]
theorem aH.sized (xs:List aH):sized 2 (cM aH.cells xs) = true:=gM _ _ (fun x=>by rfl) xs
theorem aH.len (x:aH):x.cells.length = 2:=rfl
theorem aH.size {β:Type} (x:aH) (y:Option β):kA x.cells 2 y = y:=rfl
theorem aH.eq1 {β:Type} (x:aH) (ks:List Nat) (ys:List V) (k:Bool->Option β):dP ks (aE x.cells) ys k = dP ks [.d (.bool x.Known),.d (.int .i64 x.N)] ys k:=rfl
theorem aH.eq2 {β:Type} (x:aH) (ks:List Nat) (ys:List V) (k:Bool->Option β):dP ks ys (aE x.cells) k = dP ks ys [.d (.bool x.Known),.d (.int .i64 x.N)] k:=rfl
theorem aH.lens {β:Type} (x:aH) (y:Option β):rR (aE x.cells) 2 y = y:=rfl
theorem aH.vsets {β:Type} (x:aH) (z:List V) (o:Nat) (k:List V->Option β):dL z o (aE x.cells) k = dL z o [.d (.bool x.Known),.d (.int .i64 x.N)] k:=rfl
theorem aH.st_d {β:Type} (x:aH) (y:D) (sz off id:Nat) (kw:V->List (Nat × Option aO)->Option β):aG sz off id (.d y) (some (.box (aE x.cells))) kw = aG sz off id (.d y) (some (.box [.d (.bool x.Known),.d (.int .i64 x.N)])) kw:=rfl
theorem aH.st_nil {β:Type} (x:aH)  (sz off id:Nat) (kw:V->List (Nat × Option aO)->Option β):aG sz off id .nil (some (.box (aE x.cells))) kw = aG sz off id .nil (some (.box [.d (.bool x.Known),.d (.int .i64 x.N)])) kw:=rfl
theorem aH.st_own {β:Type} (x:aH) (i v sz off id:Nat) (kw:V->List (Nat × Option aO)->Option β):aG sz off id (.own i v) (some (.box (aE x.cells))) kw = aG sz off id (.own i v) (some (.box [.d (.bool x.Known),.d (.int .i64 x.N)])) kw:=rfl
theorem aH.st_agg {β:Type} (x:aH) (y:List V) (sz off id:Nat) (kw:V->List (Nat × Option aO)->Option β):aG sz off id (.agg y) (some (.box (aE x.cells))) kw = aG sz off id (.agg y) (some (.box [.d (.bool x.Known),.d (.int .i64 x.N)])) kw:=rfl
theorem aH.st_ptr {β:Type} (x:aH) (i v sz off id:Nat) (kw:V->List (Nat × Option aO)->Option β):aG sz off id (.ptr i v) (some (.box (aE x.cells))) kw = aG sz off id (.ptr i v) (some (.box [.d (.bool x.Known),.d (.int .i64 x.N)])) kw:=rfl
theorem aH.part {β:Type} (x:aH) (off id:Nat) (b:Option aO) (kw:V->List (Nat × Option aO)->Option β):aG 2 (off + 1) id (b9 x.cells) b kw = aG 2 (off + 1) id (.agg [.d (.bool x.Known),.d (.int .i64 x.N)]) b kw:=rfl
theorem aH.put {β:Type} (x:aH) (id:Nat) (cs:List V) (hc:cs.length = 2) (kw:V->List (Nat × Option aO)->Option β):aG 2 0 id (b9 x.cells) (some (.box cs)) kw = kw .any [(id,some (.box (aE x.cells)))]:=c9 2 id _ rfl cs hc
theorem aH.rset {β:Type} (x:aH) (off:Nat) (d:D) (ds:List D) (n:Nat) (k:List D->Option β):a7 x.cells off (d :: ds) n k = a7 [.bool x.Known,.int .i64 x.N] off (d :: ds) n k:=rfl
theorem aH.rfull {β:Type} (x y:aH) (k:List D->Option β):a7 x.cells 0 y.cells 2 k = k y.cells:=by unfold a7; exact (if_pos ⟨rfl,Nat.le_refl _⟩).trans rfl
theorem aH.get0 {β:Type} (x:aH) (k:D->Option β):cA x.cells 0 k = k (.bool x.Known):=rfl
theorem aH.get1 {β:Type} (x:aH) (k:D->Option β):cA x.cells 1 k = k (.int .i64 x.N):=rfl
theorem aH.sub0_2 {β:Type} (x:aH) (k:List D->Option β):nZ x.cells 0 2 k = k x.cells:=rfl
theorem aH.cells_mk (f0:Bool) (f1:Int):aH.cells (aH.mk f0 f1) = [.bool f0,.int .i64 f1]:=rfl
structure aI where
 args:List Int
 result:Int
 deriving Inhabited
def aI.cells (x:aI):List D:=[.sl (cM cI x.args),.int .i64 x.result]
theorem aI.sized (xs:List aI):sized 2 (cM aI.cells xs) = true:=gM _ _ (fun x=>by rfl) xs
theorem aI.len (x:aI):x.cells.length = 2:=rfl
theorem aI.size {β:Type} (x:aI) (y:Option β):kA x.cells 2 y = y:=rfl
theorem aI.eq1 {β:Type} (x:aI) (ks:List Nat) (ys:List V) (k:Bool->Option β):dP ks (aE x.cells) ys k = dP ks [.d (.sl (cM cI x.args)),.d (.int .i64 x.result)] ys k:=rfl
theorem aI.eq2 {β:Type} (x:aI) (ks:List Nat) (ys:List V) (k:Bool->Option β):dP ks ys (aE x.cells) k = dP ks ys [.d (.sl (cM cI x.args)),.d (.int .i64 x.result)] k:=rfl
theorem aI.lens {β:Type} (x:aI) (y:Option β):rR (aE x.cells) 2 y = y:=rfl
theorem aI.vsets {β:Type} (x:aI) (z:List V) (o:Nat) (k:List V->Option β):dL z o (aE x.cells) k = dL z o [.d (.sl (cM cI x.args)),.d (.int .i64 x.result)] k:=rfl
theorem aI.st_d {β:Type} (x:aI) (y:D) (sz off id:Nat) (kw:V->List (Nat × Option aO)->Option β):aG sz off id (.d y) (some (.box (aE x.cells))) kw = aG sz off id (.d y) (some (.box [.d (.sl (cM cI x.args)),.d (.int .i64 x.result)])) kw:=rfl
theorem aI.st_nil {β:Type} (x:aI)  (sz off id:Nat) (kw:V->List (Nat × Option aO)->Option β):aG sz off id .nil (some (.box (aE x.cells))) kw = aG sz off id .nil (some (.box [.d (.sl (cM cI x.args)),.d (.int .i64 x.result)])) kw:=rfl
theorem aI.st_own {β:Type} (x:aI) (i v sz off id:Nat) (kw:V->List (Nat × Option aO)->Option β):aG sz off id (.own i v) (some (.box (aE x.cells))) kw = aG sz off id (.own i v) (some (.box [.d (.sl (cM cI x.args)),.d (.int .i64 x.result)])) kw:=rfl
theorem aI.st_agg {β:Type} (x:aI) (y:List V) (sz off id:Nat) (kw:V->List (Nat × Option aO)->Option β):aG sz off id (.agg y) (some (.box (aE x.cells))) kw = aG sz off id (.agg y) (some (.box [.d (.sl (cM cI x.args)),.d (.int .i64 x.result)])) kw:=rfl
theorem aI.st_ptr {β:Type} (x:aI) (i v sz off id:Nat) (kw:V->List (Nat × Option aO)->Option β):aG sz off id (.ptr i v) (some (.box (aE x.cells))) kw = aG sz off id (.ptr i v) (some (.box [.d (.sl (cM cI x.args)),.d (.int .i64 x.result)])) kw:=rfl
theorem aI.part {β:Type} (x:aI) (off id:Nat) (b:Option aO) (kw:V->List (Nat × Option aO)->Option β):aG 2 (off + 1) id (b9 x.cells) b kw = aG 2 (off + 1) id (.agg [.d (.sl (cM cI x.args)),.d (.int .i64 x.result)]) b kw:=rfl
theorem aI.put {β:Type} (x:aI) (id:Nat) (cs:List V) (hc:cs.length = 2) (kw:V->List (Nat × Option aO)->Option β):aG 2 0 id (b9 x.cells) (some (.box cs)) kw = kw .any [(id,some (.box (aE x.cells)))]:=c9 2 id _ rfl cs hc
theorem aI.rset {β:Type} (x:aI) (off:Nat) (d:D) (ds:List D) (n:Nat) (k:List D->Option β):a7 x.cells off (d :: ds) n k = a7 [.sl (cM cI x.args),.int .i64 x.result] off (d :: ds) n k:=rfl
theorem aI.rfull {β:Type} (x y:aI) (k:List D->Option β):a7 x.cells 0 y.cells 2 k = k y.cells:=by unfold a7; exact (if_pos ⟨rfl,Nat.le_refl _⟩).trans rfl
theorem aI.get0 {β:Type} (x:aI) (k:D->Option β):cA x.cells 0 k = k (.sl (cM cI x.args)):=rfl
theorem aI.get1 {β:Type} (x:aI) (k:D->Option β):cA x.cells 1 k = k (.int .i64 x.result):=rfl
theorem aI.sub0_2 {β:Type} (x:aI) (k:List D->Option β):nZ x.cells 0 2 k = k x.cells:=rfl
theorem aI.cells_mk (f0:List Int) (f1:Int):aI.cells (aI.mk f0 f1) = [.sl (cM cI f0),.int .i64 f1]:=rfl
structure aC where
 cells_:List aH
 deriving Inhabited
def aC.cells (x:aC):List D:=[.sl (cM aH.cells x.cells_)]
theorem aC.sized (xs:List aC):sized 1 (cM aC.cells xs) = true:=gM _ _ (fun x=>by rfl) xs
theorem aC.len (x:aC):x.cells.length = 1:=rfl
theorem aC.size {β:Type} (x:aC) (y:Option β):kA x.cells 1 y = y:=rfl
theorem aC.eq1 {β:Type} (x:aC) (ks:List Nat) (ys:List V) (k:Bool->Option β):dP ks (aE x.cells) ys k = dP ks [.d (.sl (cM aH.cells x.cells_))] ys k:=rfl
theorem aC.eq2 {β:Type} (x:aC) (ks:List Nat) (ys:List V) (k:Bool->Option β):dP ks ys (aE x.cells) k = dP ks ys [.d (.sl (cM aH.cells x.cells_))] k:=rfl
theorem aC.lens {β:Type} (x:aC) (y:Option β):rR (aE x.cells) 1 y = y:=rfl
theorem aC.vsets {β:Type} (x:aC) (z:List V) (o:Nat) (k:List V->Option β):dL z o (aE x.cells) k = dL z o [.d (.sl (cM aH.cells x.cells_))] k:=rfl
theorem aC.st_d {β:Type} (x:aC) (y:D) (sz off id:Nat) (kw:V->List (Nat × Option aO)->Option β):aG sz off id (.d y) (some (.box (aE x.cells))) kw = aG sz off id (.d y) (some (.box [.d (.sl (cM aH.cells x.cells_))])) kw:=rfl
theorem aC.st_nil {β:Type} (x:aC)  (sz off id:Nat) (kw:V->List (Nat × Option aO)->Option β):aG sz off id .nil (some (.box (aE x.cells))) kw = aG sz off id .nil (some (.box [.d (.sl (cM aH.cells x.cells_))])) kw:=rfl
theorem aC.st_own {β:Type} (x:aC) (i v sz off id:Nat) (kw:V->List (Nat × Option aO)->Option β):aG sz off id (.own i v) (some (.box (aE x.cells))) kw = aG sz off id (.own i v) (some (.box [.d (.sl (cM aH.cells x.cells_))])) kw:=rfl
theorem aC.st_agg {β:Type} (x:aC) (y:List V) (sz off id:Nat) (kw:V->List (Nat × Option aO)->Option β):aG sz off id (.agg y) (some (.box (aE x.cells))) kw = aG sz off id (.agg y) (some (.box [.d (.sl (cM aH.cells x.cells_))])) kw:=rfl
theorem aC.st_ptr {β:Type} (x:aC) (i v sz off id:Nat) (kw:V->List (Nat × Option aO)->Option β):aG sz off id (.ptr i v) (some (.box (aE x.cells))) kw = aG sz off id (.ptr i v) (some (.box [.d (.sl (cM aH.cells x.cells_))])) kw:=rfl
theorem aC.part {β:Type} (x:aC) (off id:Nat) (b:Option aO) (kw:V->List (Nat × Option aO)->Option β):aG 1 (off + 1) id (b9 x.cells) b kw = aG 1 (off + 1) id (.agg [.d (.sl (cM aH.cells x.cells_))]) b kw:=rfl
theorem aC.put {β:Type} (x:aC) (id:Nat) (cs:List V) (hc:cs.length = 1) (kw:V->List (Nat × Option aO)->Option β):aG 1 0 id (b9 x.cells) (some (.box cs)) kw = kw .any [(id,some (.box (aE x.cells)))]:=c9 1 id _ rfl cs hc
theorem aC.rset {β:Type} (x:aC) (off:Nat) (d:D) (ds:List D) (n:Nat) (k:List D->Option β):a7 x.cells off (d :: ds) n k = a7 [.sl (cM aH.cells x.cells_)] off (d :: ds) n k:=rfl
theorem aC.rfull {β:Type} (x y:aC) (k:List D->Option β):a7 x.cells 0 y.cells 1 k = k y.cells:=by unfold a7; exact (if_pos ⟨rfl,Nat.le_refl _⟩).trans rfl
theorem aC.get0 {β:Type} (x:aC) (k:D->Option β):cA x.cells 0 k = k (.sl (cM aH.cells x.cells_)):=rfl
theorem aC.sub0_1 {β:Type} (x:aC) (k:List D->Option β):nZ x.cells 0 1 k = k x.cells:=rfl
theorem aC.cells_mk (f0:List aH):aC.cells (aC.mk f0) = [.sl (cM aH.cells f0)]:=rfl
theorem aRC {β:Type} (x:Int) (k:D->Option β):cA (cI x) 0 k = k (.int .i64 x):=rfl
theorem aQu {β:Type} (x:Int) (off:Nat) (d:D) (ds:List D) (n:Nat) (k:List D->Option β):a7 (cI x) off (d :: ds) n k = a7 [.int .i64 x] off (d :: ds) n k:=rfl
theorem aPs {β:Type} (x:Int) (y:Option β):kA (cI x) 1 y = y:=rfl
theorem aSB {β:Type} (x:Bool) (k:D->Option β):cA (cB x) 0 k = k (.bool x):=rfl
theorem aQT {β:Type} (x:Bool) (off:Nat) (d:D) (ds:List D) (n:Nat) (k:List D->Option β):a7 (cB x) off (d :: ds) n k = a7 [.bool x] off (d :: ds) n k:=rfl
theorem aPo {β:Type} (x:Bool) (y:Option β):kA (cB x) 1 y = y:=rfl
theorem aSD {β:Type} (x:ByteArray) (k:D->Option β):cA (cS x) 0 k = k (.str x):=rfl
theorem aNo {β:Type} (x:ByteArray) (off:Nat) (d:D) (ds:List D) (n:Nat) (k:List D->Option β):a7 (cS x) off (d :: ds) n k = a7 [.str x] off (d :: ds) n k:=rfl
theorem aOM {β:Type} (x:ByteArray) (y:Option β):kA (cS x) 1 y = y:=rfl
theorem aOQ {β:Type} (x0:D) (y:Option β):kA [x0] 1 y = y:=rfl
theorem aOT {β:Type} (x0 x1:D) (y:Option β):kA [x0,x1] 2 y = y:=rfl
theorem aQk {β:Type} (x0 x1 x2:D) (y:Option β):kA [x0,x1,x2] 3 y = y:=rfl
theorem aNs {β:Type} (x0 x1 x2 x3:D) (y:Option β):kA [x0,x1,x2,x3] 4 y = y:=rfl
theorem aQD {β:Type} (x0 x1 x2 x3 x4:D) (y:Option β):kA [x0,x1,x2,x3,x4] 5 y = y:=rfl
theorem aOK {β:Type} (x0 x1 x2 x3 x4 x5:D) (y:Option β):kA [x0,x1,x2,x3,x4,x5] 6 y = y:=rfl
theorem aOe {β:Type} (x0 x1 x2 x3 x4 x5 x6 x7:D) (y:Option β):kA [x0,x1,x2,x3,x4,x5,x6,x7] 8 y = y:=rfl
theorem aSg {β:Type} (i:IntKind) (x:Int) (k:D->Option β):cA (cK i x) 0 k = k (.int i x):=rfl
theorem aN7 {β:Type} (i:IntKind) (x:Int) (off:Nat) (d:D) (ds:List D) (n:Nat) (k:List D->Option β):a7 (cK i x) off (d :: ds) n k = a7 [.int i x] off (d :: ds) n k:=rfl
theorem aQN {β α:Type} (c:α->List D) (x:List α) (off:Nat) (d:D) (ds:List D) (n:Nat) (k:List D->Option β):a7 (cL c x) off (d :: ds) n k = a7 [.sl (cM c x)] off (d :: ds) n k:=rfl
theorem aQb {β:Type} (i:IntKind) (x:Int) (y:Option β):kA (cK i x) 1 y = y:=rfl
theorem aRP {β α:Type} (c:α->List D) (x:List α) (k:D->Option β):cA (cL c x) 0 k = k (.sl (cM c x)):=rfl
theorem aOU {β α:Type} (c:α->List D) (x:List α) (y:Option β):kA (cL c x) 1 y = y:=rfl
theorem aDy {β:Type} {T:wF} {d:Nat} {fr:List (Nat × V)} {bl:List (Nat × Option aO)} {k:V->Option β} {kw:V->List (Nat × Option aO)->Option β} (l cp:bO):qF T d (.makeSlice 3 1 8 [.int .i64 0] l cp) fr bl k kw = bL bl d fun b=>gA b (bR fr l fun a=>bR fr cp fun b=>aLV 8 a b fun n=>kw (.own d 0) [(d,some (.rows 0 3 1 (cM cI (List.replicate n 0))))]):=aI2 3 1 8 [.int .i64 0] cI (0:Int) rfl l cp
theorem ZL {β:Type} {T:wF} {d:Nat} {fr:List (Nat × V)} {bl:List (Nat × Option aO)} {k:V->Option β} {kw:V->List (Nat × Option aO)->Option β} (l cp:bO):qF T d (.makeSlice 32 1 24 [.sl []] l cp) fr bl k kw = bL bl d fun b=>gA b (bR fr l fun a=>bR fr cp fun b=>aLV 24 a b fun n=>kw (.own d 0) [(d,some (.rows 0 32 1 (cM (cL cI) (List.replicate n []))))]):=aI2 32 1 24 [.sl []] (cL cI) ([]:(List Int)) rfl l cp
theorem ZT {β:Type} {T:wF} {d:Nat} {fr:List (Nat × V)} {bl:List (Nat × Option aO)} {k:V->Option β} {kw:V->List (Nat × Option aO)->Option β} (l cp:bO):qF T d (.makeSlice 42 2 16 [.bool false,.int .i64 0] l cp) fr bl k kw = bL bl d fun b=>gA b (bR fr l fun a=>bR fr cp fun b=>aLV 16 a b fun n=>kw (.own d 0) [(d,some (.rows 0 42 2 (cM aH.cells (List.replicate n (aH.mk false 0)))))]):=aI2 42 2 16 [.bool false,.int .i64 0] aH.cells ((aH.mk false 0):aH) rfl l cp
theorem aAl {β:Type} (k:List (List D)->Option β):VJ 3 [] k = k (cM cI ([]:List Int)):=rfl
theorem VK {β:Type} (a0 a1:Int) (k:List (List D)->Option β):VJ 3 [[.int .i64 a0],[.int .i64 a1]] k = k (cM cI ([a0,a1]:List Int)):=rfl
theorem UA {β:Type} (a0 a1 a2:Int) (k:List (List D)->Option β):VJ 3 [[.int .i64 a0],[.int .i64 a1],[.int .i64 a2]] k = k (cM cI ([a0,a1,a2]:List Int)):=rfl
theorem P8 {β:Type} (a0 a1 a2 a3 a4:Int) (k:List (List D)->Option β):VJ 3 [[.int .i64 a0],[.int .i64 a1],[.int .i64 a2],[.int .i64 a3],[.int .i64 a4]] k = k (cM cI ([a0,a1,a2,a3,a4]:List Int)):=rfl
theorem XM {β:Type} (a0:Int) (k:List (List D)->Option β):VJ 3 [[.int .i64 a0]] k = k (cM cI ([a0]:List Int)):=rfl
theorem S9 {β:Type} (a0_0:ByteArray) (a0_1:Bool) (a0_2:List aQ) (a0_3:List aS) (a1_0:ByteArray) (a1_1:Bool) (a1_2:List aQ) (a1_3:List aS) (k:List (List D)->Option β):VJ 48 [[.str a0_0,.bool a0_1,.sl (cM aQ.cells a0_2),.sl (cM aS.cells a0_3)],[.str a1_0,.bool a1_1,.sl (cM aQ.cells a1_2),.sl (cM aS.cells a1_3)]] k = k (cM aJ.cells ([(aJ.mk a0_0 a0_1 a0_2 a0_3),(aJ.mk a1_0 a1_1 a1_2 a1_3)]:List aJ)):=rfl
theorem Y3 {β:Type} (k:List (List D)->Option β):VJ 50 [] k = k (cM aA.cells ([]:List aA)):=rfl
theorem U9 {β:Type} (a0_0 a0_1 a0_2:Int) (a0_3 a0_4:List Int) (k:List (List D)->Option β):VJ 50 [[.int .i64 a0_0,.int .i64 a0_1,.int .i64 a0_2,.sl (cM cI a0_3),.sl (cM cI a0_4)]] k = k (cM aA.cells ([(aA.mk a0_0 a0_1 a0_2 a0_3 a0_4)]:List aA)):=rfl
theorem U3 {β:Type} (a0:aA) (k:List (List D)->Option β):VJ 50 [aA.cells a0] k = k (cM aA.cells ([a0]:List aA)):=rfl
theorem TO {β:Type} (a0_0 a0_1:Int) (a0_2:Bool) (a1_0 a1_1:Int) (a1_2:Bool) (k:List (List D)->Option β):VJ 75 [[.int .i64 a0_0,.int .i64 a0_1,.bool a0_2],[.int .i64 a1_0,.int .i64 a1_1,.bool a1_2]] k = k (cM aQ.cells ([(aQ.mk a0_0 a0_1 a0_2),(aQ.mk a1_0 a1_1 a1_2)]:List aQ)):=rfl
theorem VI {β:Type} (a0_0 a0_1:Int) (a0_2:Bool) (k:List (List D)->Option β):VJ 75 [[.int .i64 a0_0,.int .i64 a0_1,.bool a0_2]] k = k (cM aQ.cells ([(aQ.mk a0_0 a0_1 a0_2)]:List aQ)):=rfl
theorem ZP {β:Type} (k:List (List D)->Option β):VJ 9 [] k = k (cM cS ([]:List ByteArray)):=rfl
theorem YZ {β:Type} (a0:ByteArray) (k:List (List D)->Option β):VJ 9 [[.str a0]] k = k (cM cS ([a0]:List ByteArray)):=rfl
theorem XJ {β:Type} (k:List (List D)->Option β):VJ 96 [] k = k (cM aS.cells ([]:List aS)):=rfl
theorem T8 {β:Type} (a0_0 a0_1_0 a0_1_1:Int) (k:List (List D)->Option β):VJ 96 [[.int .i64 a0_0,.int .i64 a0_1_0,.int .i64 a0_1_1,.sl []]] k = k (cM aS.cells ([(aS.mk a0_0 (aF.mk a0_1_0 a0_1_1 []))]:List aS)):=rfl
theorem aFM {β:Type} {T:wF} {d:Nat} {fr:List (Nat × V)} {bl:List (Nat × Option aO)} {k:V->Option β} {kw:V->List (Nat × Option aO)->Option β}:qF T d (.sliceA 10 (.c (.d (.ptr [.int .i64 6,.int .i64 7,.int .i64 10,.int .i64 12,.int .i64 13,.int .i64 14,.int .i64 15,.int .i64 16,.int .i64 20,.int .i64 21] 0)))) fr bl k kw = k (.d (.sl (cM cI ([6,7,10,12,13,14,15,16,20,21]:List Int)))):=rfl
theorem aDm {β:Type} (xs:List Int) (i:Nat) (a:Int) (k:List (List D)->Option β):DK 3 (cM cI xs) i [.int .i64 a] k = k (cM cI (xs.set i a)):=GJ 3 cI xs i a k
theorem aAW {β:Type} (xs:List (List Int)) (i:Nat) (a:List Int) (k:List (List D)->Option β):DK 32 (cM (cL cI) xs) i [.sl (cM cI a)] k = k (cM (cL cI) (xs.set i a)):=GJ 32 (cL cI) xs i a k
theorem aA1 {β:Type} (xs:List aH) (i:Nat) (a_0:Bool) (a_1:Int) (k:List (List D)->Option β):DK 42 (cM aH.cells xs) i [.bool a_0,.int .i64 a_1] k = k (cM aH.cells (xs.set i (aH.mk a_0 a_1))):=GJ 42 aH.cells xs i (aH.mk a_0 a_1) k
theorem aOd {β α:Type} (c:α->List D) (x:Option α) (k:D->Option β):cA (cPt c x) 0 k = k (EV c x):=rfl
theorem aMm {β α:Type} (c:α->List D) (x:Option α) (y:Option β):kA (cPt c x) 1 y = y:=rfl
abbrev kB (a0:aB) (a1 a2:Int) (x y:Option aA) (l:List (Nat × Option aO)):List (Nat × Option aO):=(3,some (.box (aE a0.cells))) :: (4,some (.box [.d (.int .i64 a1)])) :: (5,some (.box [.d (.int .i64 a2)])) :: (6,some (.box [.d .np,.d .np])) :: (7,some (.box [.d (EV aA.cells x),.d (EV aA.cells y)])) :: (8,some (.box [.own 13 0])) :: (9,some (.box [.own 15 0])) :: (10,some (.box [.fn 41 [.ptr 4 0,.ptr 5 0,.ptr 8 0,.ptr 9 0,.ptr 3 0,.ptr 7 0]])) :: (11,some (.box [.fn 44 [.ptr 9 0,.ptr 3 0,.ptr 5 0,.ptr 10 0,.ptr 8 0,.ptr 11 0]])) :: l
abbrev kO (x:Int) (r:Int × Bool) (y:Int) (a0:aB) (p:Int):Option aO:=some (.outer [.ptr 9 0,.ptr 3 0,.ptr 10 0,.ptr 8 0,.ptr 11 0,.d (.int .i64 x),.d (.int .i64 r.1),.d (.bool r.2),.d (.bool (y == (-1))),.d (.int .i64 (a0.Orders.length:Int)),.d (.int .i64 p)])
/- all rules as one -/
set_option linter.defProp false
def DN:=aN (aN (aN (aN (aN (aN (aN (aN (aN @aR9 @aSm) (aN @aSN @aK3)) (aN (aN @aJb @aFx) (aN @aNb (aN @aPT @aN1)))) (aN (aN (aN @aCM @aJJ) (aN @aMc @aEm)) (aN (aN @aAg @aHm) (aN @aAJ (aN @aHx @aQP))))) (aN (aN (aN (aN @aRp @aJA) (aN @aJX @aMH)) (aN (aN @aIF @aGK) (aN @aBR (aN @aKI @aMC)))) (aN (aN (aN @aBL @aBI) (aN @aCQ (aN @aPU @aH7))) (aN (aN @aIy @aGt) (aN @aDv (aN @aFN @aC1)))))) (aN (aN (aN (aN (aN @aJN @aI0) (aN @aDM @aCy)) (aN (aN @aCZ @aHz) (aN @YY (aN @aCq @aDO)))) (aN (aN (aN @aLv @aKb) (aN @aLQ @aHu)) (aN (aN @aP7 @aHe) (aN @UY (aN @aLz @YE))))) (aN (aN (aN (aN @VM @aNJ) (aN @aFZ @VL)) (aN (aN @aFQ @aCd) (aN @aCi (aN @aAE @aKY)))) (aN (aN (aN @aMY @aHI) (aN @aCU (aN @aAX @aFu))) (aN (aN @aPg @aLC) (aN @aII (aN @aI7 @SI))))))) (aN (aN (aN (aN (aN (aN @aN4 @aNa) (aN @aRW @aLt)) (aN (aN @YA @aIo) (aN @aGJ (aN @aLY @aNf)))) (aN (aN (aN @aPm @aAo) (aN @aMU @aHT)) (aN (aN @aBQ @aHp) (aN @aJS (aN @aFI @aCu))))) (aN (aN (aN (aN @aQF @aOv) (aN @aCj @aLi)) (aN (aN @aBG @aIR) (aN @aM0 (aN @aDc @EZ)))) (aN (aN (aN @aIt @aJx) (aN @aGw (aN @aGz @aPa))) (aN (aN @aNU @ZU) (aN @ZZ (aN @aHn @aJP)))))) (aN (aN (aN (aN (aN @aHr @aSf) (aN @aLZ @aKQ)) (aN (aN @aKO @aP0) (aN @aFA (aN @aFF @aFK)))) (aN (aN (aN @aFn @aH0) (aN @aLB (aN @aK4 @aKS))) (aN (aN @aGR @aGc) (aN @aNm (aN @aJ5 @aLe))))) (aN (aN (aN (aN @aOL @aKM) (aN @aSV @aRd)) (aN (aN @aRm @aID) (aN @aMd (aN @aJ6 @aN2)))) (aN (aN (aN @aO3 @aQI) (aN @aHd (aN @aEq @aD2))) (aN (aN @aJU @aMA) (aN @aNi (aN @aQE @aBV)))))))) (aN (aN (aN (aN (aN (aN (aN @aLu @aHF) (aN @aKg @aKo)) (aN (aN @aGh @aLd) (aN @aQQ (aN @aOp @aP2)))) (aN (aN (aN @aRu @aSH) (aN @aI8 @aI5)) (aN (aN @aIK @aFV) (aN @aNI (aN @aG7 @ZN))))) (aN (aN (aN (aN @aF1 @XU) (aN @aOq @aNh)) (aN (aN @aJt @aKt) (aN @aJW (aN @aLW @aJl)))) (aN (aN (aN @aJj @aLT) (aN @aLl (aN @aQH @aOw))) (aN (aN @aQO @aRc) (aN @aSs (aN @aRZ @aPL)))))) (aN (aN (aN (aN (aN @aQl @aPp) (aN @aQB @aKf)) (aN (aN @aME @aGU) (aN @aGH (aN @aK7 @aFw)))) (aN (aN (aN @aIB @aDf) (aN @aNl @aRe)) (aN (aN @aIQ @aM7) (aN @aNr (aN @aOc @aJh))))) (aN (aN (aN (aN @U8 @aHG) (aN @VU @aGx)) (aN (aN @aGa @aDD) (aN @TD (aN @aMb @Z9)))) (aN (aN (aN @aOj @aPR) (aN @aJ1 (aN @aCA @aDX))) (aN (aN @aBo @aDk) (aN @aD3 (aN @aA9 @aCY))))))) (aN (aN (aN (aN (aN (aN @aIr @aDR) (aN @aEi @aBu)) (aN (aN @aHX @aCG) (aN @aPN (aN @aNH @aEX)))) (aN (aN (aN @aF2 @aCN) (aN @aC2 @aBP)) (aN (aN @YQ @aH6) (aN @aKE (aN @aLL @aPq))))) (aN (aN (aN (aN @aMo @aMt) (aN @aKN @aAB)) (aN (aN @aNx @aN8) (aN @aBr (aN @aEj @aCB)))) (aN (aN (aN @aL1 @aLA) (aN @aF6 (aN @aAx @aAh))) (aN (aN @aA2 @aQU) (aN @aQs (aN @aAC @aOz)))))) (aN (aN (aN (aN (aN @aSn @aPC) (aN @aTv @aQR)) (aN (aN @Y6 @aAP) (aN @aAH (aN @GJ @aSU)))) (aN (aN (aN @aRn @aSl) (aN @aQt (aN @aTH @aUn))) (aN (aN @aT9 @aLJ) (aN @aM4 (aN @aKr @aI3))))) (aN (aN (aN (aN @aLp @aKa) (aN @aIE @aKc)) (aN (aN @aJe @aI1) (aN @aMh (aN @aMF @aPW)))) (aN (aN (aN @aJM @aJs) (aN @aMM (aN @aDH @aIn))) (aN (aN @aF5 @aGg) (aN @aGs (aN @aHc @aFP))))))))) (aN (aN (aN (aN (aN (aN (aN (aN @aIa @aHW) (aN @aIw @aG9)) (aN (aN @aPX @aNC) (aN @aQi (aN @aI4 @aIz)))) (aN (aN (aN @VW @RN) (aN @QV @aOo)) (aN (aN @aLf @aMV) (aN @aH5 (aN @aGP @aP6))))) (aN (aN (aN (aN @aIW @aCV) (aN @aDN @aQJ)) (aN (aN @aR7 @aRA) (aN @aGd (aN @aG3 @aHl)))) (aN (aN (aN @aFJ @aD7) (aN @aDC (aN @aDu @aCS))) (aN (aN @aB9 @aCX) (aN @aEf (aN @aCs @XI)))))) (aN (aN (aN (aN (aN @aLo @aC6) (aN @aCR @aHo)) (aN (aN @aH8 @aCp) (aN @aTI (aN @aP3 @aNK)))) (aN (aN (aN @aJ7 @aLG) (aN @aGi @aPr)) (aN (aN @aNV @aGQ) (aN @G2 (aN @aS8 @aJ4))))) (aN (aN (aN (aN @aM3 @aAK) (aN @aGk @aST)) (aN (aN @aBB @aHE) (aN @aK9 (aN @aJu @aSz)))) (aN (aN (aN @aRK @aQz) (aN @aLH (aN @aFt @aDl))) (aN (aN @aO8 @aR1) (aN @aSF (aN @aJk @aR4))))))) (aN (aN (aN (aN (aN (aN @aG5 @aBT) (aN @aHR @aCP)) (aN (aN @aQS @aPS) (aN @aO6 (aN @aOn @aRJ)))) (aN (aN (aN @aJw @aSG) (aN @aJm @VR)) (aN (aN @UW @SV) (aN @aQv (aN @aHa @aHw))))) (aN (aN (aN (aN @aGq @aCC) (aN @aA3 @aGm)) (aN (aN @ZH @aDp) (aN @ZE (aN @aAk @aDz)))) (aN (aN (aN @aBe @aDh) (aN @aB4 (aN @aKj @aKe))) (aN (aN @aCe @aC8) (aN @aEp (aN @aIg @aBS)))))) (aN (aN (aN (aN (aN @ZR @aCx) (aN @ZI @VA)) (aN (aN @aAj @ZM) (aN @aRR (aN @aRY @aRL)))) (aN (aN (aN @aJf @aKH) (aN @aHS (aN @aNA @aQL))) (aN (aN @aSx @aLh) (aN @aHP (aN @aSO @aSE))))) (aN (aN (aN (aN @aGM @aHh) (aN @aNF @aKW)) (aN (aN @aMT @aJH) (aN @aFC (aN @aCc @aEe)))) (aN (aN (aN @aGj @aCF) (aN @aBO (aN @Y2 @XX))) (aN (aN @aJI @aRN) (aN @aRk (aN @aRX @aGe)))))))) (aN (aN (aN (aN (aN (aN (aN @aBa @aIi) (aN @aFv @aCr)) (aN (aN @aBt @aRD) (aN @aSu (aN @aSS @aDQ)))) (aN (aN (aN @aMv @aLa) (aN @aMj @aNS)) (aN (aN @aMK @aBz) (aN @aHb (aN @aHq @aCL))))) (aN (aN (aN (aN @aRE @aRx) (aN @aD9 @aKR)) (aN (aN @aFq @aFo) (aN @aKF (aN @aG6 @WX)))) (aN (aN (aN @aDA @aER) (aN @aOH (aN @aJp @aIs))) (aN (aN @aG1 @aHJ) (aN @aRq (aN @aRV @aOy)))))) (aN (aN (aN (aN (aN @aP8 @aMf) (aN @aN5 @aOE)) (aN (aN @aJo @aMP) (aN @aGo (aN @aDK @aBy)))) (aN (aN (aN @aHB @aGI) (aN @aDe @aOi)) (aN (aN @aKX @aHt) (aN @aFz (aN @aBs @aBE))))) (aN (aN (aN (aN @aEA @aEE) (aN @aQw @aKA)) (aN (aN @aIV @aMJ) (aN @aMn (aN @aPz @aBc)))) (aN (aN (aN @aM8 @aM6) (aN @aCh (aN @aK6 @aGb))) (aN (aN @aEc @aEd) (aN @aJ3 (aN @aCz @aAa))))))) (aN (aN (aN (aN (aN (aN @aQd @aS9) (aN @aCI @aAL)) (aN (aN @aFS @aC0) (aN @aKx (aN @aJr @aOt)))) (aN (aN (aN @aMe @aMI) (aN @aR6 @aS0)) (aN (aN @aGv @aIu) (aN @aF0 (aN @aHC @aMi))))) (aN (aN (aN (aN @aFL @YC) (aN @aDb @aBd)) (aN (aN @aH4 @aEh) (aN @QR (aN @aML @aHL)))) (aN (aN (aN @aCD @aIj) (aN @aIS (aN @aO2 @aE5))) (aN (aN @aLn @aIc) (aN @aG4 (aN @aHg @aJY)))))) (aN (aN (aN (aN (aN @aE9 @aFT) (aN @aOV @aJG)) (aN (aN @aHN @aIq) (aN @aL3 (aN @aHs @aCf)))) (aN (aN (aN @aJR @aKu) (aN @aMD (aN @aR3 @YN))) (aN (aN @aRj @aSt) (aN @aIN (aN @aSW @aRo))))) (aN (aN (aN (aN @aL4 @aKs) (aN @X0 @aIh)) (aN (aN @aGW @aIf) (aN @Z6 (aN @aLk @aGX)))) (aN (aN (aN @aNG @aPv) (aN @aGn (aN @aBK @aDE))) (aN (aN @aOd @aMm) (aN @aD4 (aN @aMG @aKU)))))))))
def DR:=aN (aN (aN (aN (aN (aN (aN (aN @aX.size @aX.eq1) (aN @aX.eq2 (aN @aX.lens @aX.vsets))) (aN (aN @aX.st_d @aX.st_nil) (aN @aX.st_own (aN @aX.st_agg @aX.st_ptr)))) (aN (aN (aN @aX.part @aX.put) (aN @aX.rset (aN @aX.rfull @aX.get0))) (aN (aN @aX.get1 (aN @aX.get2 @aX.get3)) (aN @aX.get4 (aN @aX.get5 @aX.sub0_6))))) (aN (aN (aN (aN @aZ.size @aZ.eq1) (aN @aZ.eq2 (aN @aZ.lens @aZ.vsets))) (aN (aN @aZ.st_d (aN @aZ.st_nil @aZ.st_own)) (aN @aZ.st_agg (aN @aZ.st_ptr @aZ.part)))) (aN (aN (aN @aZ.put @aZ.rset) (aN @aZ.rfull (aN @aZ.get0 @aZ.sub0_1))) (aN (aN @bB.size (aN @bB.eq1 @bB.eq2)) (aN @bB.lens (aN @bB.vsets @bB.st_d)))))) (aN (aN (aN (aN (aN @bB.st_nil @bB.st_own) (aN @bB.st_agg (aN @bB.st_ptr @bB.part))) (aN (aN @bB.put @bB.rset) (aN @bB.rfull (aN @bB.get0 @bB.get1)))) (aN (aN (aN @bB.get2 @bB.sub0_3) (aN @aQ.size (aN @aQ.eq1 @aQ.eq2))) (aN (aN @aQ.lens (aN @aQ.vsets @aQ.st_d)) (aN @aQ.st_nil (aN @aQ.st_own @aQ.st_agg))))) (aN (aN (aN (aN @aQ.st_ptr @aQ.part) (aN @aQ.put (aN @aQ.rset @aQ.rfull))) (aN (aN @aQ.get0 (aN @aQ.get1 @aQ.get2)) (aN @aQ.sub0_3 (aN @aF.size @aF.eq1)))) (aN (aN (aN @aF.eq2 @aF.lens) (aN @aF.vsets (aN @aF.st_d @aF.st_nil))) (aN (aN @aF.st_own (aN @aF.st_agg @aF.st_ptr)) (aN @aF.part (aN @aF.put @aF.rset))))))) (aN (aN (aN (aN (aN (aN @aF.rfull @aF.get0) (aN @aF.get1 (aN @aF.get2 @aF.sub0_3))) (aN (aN @aF.row_len @aF.row_size) (aN @aF.row_get0 (aN @aF.row_get1 @aF.row_get2)))) (aN (aN (aN @aF.row_sub @aS.size) (aN @aS.eq1 (aN @aS.eq2 @aS.lens))) (aN (aN @aS.vsets (aN @aS.st_d @aS.st_nil)) (aN @aS.st_own (aN @aS.st_agg @aS.st_ptr))))) (aN (aN (aN (aN @aS.part @aS.put) (aN @aS.rset (aN @aS.rfull @aS.get0))) (aN (aN @aS.get1 (aN @aS.get2 @aS.get3)) (aN @aS.sub0_4 (aN @aS.sub1_3 @aJ.size)))) (aN (aN (aN @aJ.eq1 @aJ.eq2) (aN @aJ.lens (aN @aJ.vsets @aJ.st_d))) (aN (aN @aJ.st_nil (aN @aJ.st_own @aJ.st_agg)) (aN @aJ.st_ptr (aN @aJ.part @aJ.put)))))) (aN (aN (aN (aN (aN @aJ.rset @aJ.rfull) (aN @aJ.get0 (aN @aJ.get1 @aJ.get2))) (aN (aN @aJ.get3 (aN @aJ.sub0_4 @aR.size)) (aN @aR.eq1 (aN @aR.eq2 @aR.lens)))) (aN (aN (aN @aR.vsets @aR.st_d) (aN @aR.st_nil (aN @aR.st_own @aR.st_agg))) (aN (aN @aR.st_ptr (aN @aR.part @aR.put)) (aN @aR.rset (aN @aR.rfull @aR.get0))))) (aN (aN (aN (aN @aR.get1 @aR.get2) (aN @aR.sub0_3 (aN @bA.size @bA.eq1))) (aN (aN @bA.eq2 (aN @bA.lens @bA.vsets)) (aN @bA.st_d (aN @bA.st_nil @bA.st_own)))) (aN (aN (aN @bA.st_agg @bA.st_ptr) (aN @bA.part (aN @bA.put @bA.rset))) (aN (aN @bA.rfull (aN @bA.get0 @bA.get1)) (aN @bA.get2 (aN @bA.get3 @bA.get4)))))))) (aN (aN (aN (aN (aN (aN (aN @bA.sub0_5 @bD.size) (aN @bD.eq1 (aN @bD.eq2 @bD.lens))) (aN (aN @bD.vsets @bD.st_d) (aN @bD.st_nil (aN @bD.st_own @bD.st_agg)))) (aN (aN (aN @bD.st_ptr @bD.part) (aN @bD.put (aN @bD.rset @bD.rfull))) (aN (aN @bD.get0 (aN @bD.get1 @bD.get2)) (aN @bD.sub0_3 (aN @aB.size @aB.eq1))))) (aN (aN (aN (aN @aB.eq2 @aB.lens) (aN @aB.vsets (aN @aB.st_d @aB.st_nil))) (aN (aN @aB.st_own (aN @aB.st_agg @aB.st_ptr)) (aN @aB.part (aN @aB.put @aB.rset)))) (aN (aN (aN @aB.rfull @aB.get0) (aN @aB.get1 (aN @aB.get2 @aB.get3))) (aN (aN @aB.get4 (aN @aB.get5 @aB.get6)) (aN @aB.get7 (aN @aB.sub0_8 @aA.size)))))) (aN (aN (aN (aN (aN @aA.eq1 @aA.eq2) (aN @aA.lens (aN @aA.vsets @aA.st_d))) (aN (aN @aA.st_nil @aA.st_own) (aN @aA.st_agg (aN @aA.st_ptr @aA.part)))) (aN (aN (aN @aA.put @aA.rset) (aN @aA.rfull (aN @aA.get0 @aA.get1))) (aN (aN @aA.get2 (aN @aA.get3 @aA.get4)) (aN @aA.sub0_5 (aN @aD.size @aD.eq1))))) (aN (aN (aN (aN @aD.eq2 @aD.lens) (aN @aD.vsets (aN @aD.st_d @aD.st_nil))) (aN (aN @aD.st_own (aN @aD.st_agg @aD.st_ptr)) (aN @aD.part (aN @aD.put @aD.rset)))) (aN (aN (aN @aD.rfull @aD.get0) (aN @aD.get1 (aN @aD.sub0_2 @aH.size))) (aN (aN @aH.eq1 (aN @aH.eq2 @aH.lens)) (aN @aH.vsets (aN @aH.st_d @aH.st_nil))))))) (aN (aN (aN (aN (aN (aN @aH.st_own @aH.st_agg) (aN @aH.st_ptr (aN @aH.part @aH.put))) (aN (aN @aH.rset @aH.rfull) (aN @aH.get0 (aN @aH.get1 @aH.sub0_2)))) (aN (aN (aN @aI.size @aI.eq1) (aN @aI.eq2 (aN @aI.lens @aI.vsets))) (aN (aN @aI.st_d (aN @aI.st_nil @aI.st_own)) (aN @aI.st_agg (aN @aI.st_ptr @aI.part))))) (aN (aN (aN (aN @aI.put @aI.rset) (aN @aI.rfull (aN @aI.get0 @aI.get1))) (aN (aN @aI.sub0_2 (aN @aC.size @aC.eq1)) (aN @aC.eq2 (aN @aC.lens @aC.vsets)))) (aN (aN (aN @aC.st_d @aC.st_nil) (aN @aC.st_own (aN @aC.st_agg @aC.st_ptr))) (aN (aN @aC.part (aN @aC.put @aC.rset)) (aN @aC.rfull (aN @aC.get0 @aC.sub0_1)))))) (aN (aN (aN (aN (aN @aRC @aQu) (aN @aPs (aN @aSB @aQT))) (aN (aN @aPo (aN @aSD @aNo)) (aN @aOM (aN @aOQ @aOT)))) (aN (aN (aN @aQk @aNs) (aN @aQD (aN @aOK @aOe))) (aN (aN @aSg (aN @aN7 @aQN)) (aN @aQb (aN @aRP @aOU))))) (aN (aN (aN (aN @aDy @ZL) (aN @ZT (aN @aAl @VK))) (aN (aN @UA (aN @P8 @XM)) (aN @S9 (aN @Y3 @U9)))) (aN (aN (aN @U3 @TO) (aN @VI (aN @ZP @YZ))) (aN (aN @XJ (aN @T8 @aFM)) (aN @aDm (aN @aAW @aA1))))))))
def DQ:=aN (aN (aN (aN (aN @aX.len (aN @aZ.len @bB.len)) (aN @aQ.len (aN @aF.len @aS.len))) (aN (aN @aJ.len (aN @aR.len @bA.len)) (aN @bD.len (aN @aB.len @aA.len)))) (aN (aN (aN @aD.len (aN @aH.len @aI.len)) (aN @aC.len (aN @aX.cells_mk @aZ.cells_mk))) (aN (aN @bB.cells_mk (aN @aQ.cells_mk @aF.cells_mk)) (aN @aS.cells_mk (aN @aJ.cells_mk @aR.cells_mk))))) (aN (aN (aN (aN @bA.cells_mk (aN @bD.cells_mk @aB.cells_mk)) (aN @aA.cells_mk (aN @aD.cells_mk @aH.cells_mk))) (aN (aN @aI.cells_mk (aN @aC.cells_mk @aX.sized)) (aN @aZ.sized (aN @bB.sized @aQ.sized)))) (aN (aN (aN @aF.sized (aN @aS.sized @aJ.sized)) (aN @aR.sized (aN @bA.sized @bD.sized))) (aN (aN @aB.sized (aN @aA.sized @aD.sized)) (aN @aH.sized (aN @aI.sized @aC.sized)))))
def DP:=aN @Option.some.injEq (aN @Bool.and_true @List.cons_ne_nil)
theorem bLc {α:Type} (a:α) (l:List α):(a :: l).length = l.length + 1:=rfl
theorem bLn {α:Type}:([]:List α).length = 0:=rfl
theorem bIt {α:Type} {d:Decidable True} (a b:α):@ite α True d a b = a:=if_pos trivial
theorem bIf {α:Type} {d:Decidable False} (a b:α):@ite α False d a b = b:=if_neg id
theorem bRs {α:Type} (n:Nat) (a:α):List.replicate (n + 1) a = a :: List.replicate n a:=rfl
theorem bRz {α:Type} (a:α):List.replicate 0 a = []:=rfl
theorem bBs {α γ:Type} (a:α) (f:α->Option γ):(some a).bind f = f a:=rfl
theorem bMs {α γ:Type} (a:α) (f:α->γ):(some a).map f = some (f a):=rfl
theorem bMn {α γ:Type} (f:α->γ):(none:Option α).map f = none:=rfl
theorem bEl {α γ δ:Type} (f:α->δ) (g:γ->δ) (x:α):Sum.elim f g (.inl x) = f x:=rfl
theorem bEr {α γ δ:Type} (f:α->δ) (g:γ->δ) (x:γ):Sum.elim f g (.inr x) = g x:=rfl
theorem bBb {α γ δ:Type} (o:Option α) (f:α->Option γ) (g:γ->Option δ):(o.bind f).bind g = o.bind fun x=>(f x).bind g:=by cases o <;> rfl
def DS:=aN (aN (aN (aN (aN @bLc @bLn) (aN @yE @Bool.not_true)) (aN (aN @Bool.not_false @bIt) (aN @bIf @bRs))) (aN (aN (aN @bRz @TX) (aN @bBs @aFD)) (aN (aN @bMs @bMn) (aN @bEl @bEr)))) (aN (aN (aN (aN @aL9 @aAc) (aN @aJ0 @aIU)) (aN (aN @aKC @aDw) (aN @aIC @aFU))) (aN (aN (aN @aDq @aFB) (aN @aCb @aJV)) (aN (aN @aPu @Vm.bind_map) (aN @aFX (aN @aIJ @bBb)))))
abbrev KF (T:wF) (f:Nat) (ds:List D) {α:Type} (o:Option α) (v:α->V):Prop:=∀ {β:Type} (d:Nat) (bl fz:List (Nat × Option aO)) (k:V->Option β) (kw:V->List (Nat × Option aO)->Option β),IX T d bl f ds fz k kw = o.bind fun r=>k (v r)
abbrev KD (T:wF) (f:Nat) (ds:List D) {α:Type} (o:Option α) (v:α->V):Prop:=∀ {β:Type} (d:Nat) (bl fz:List (Nat × Option aO)) (k:V->Option β) (kw:V->List (Nat × Option aO)->Option β),IX T d bl f ds fz k kw = o.bind fun r=>fzK fz (v r) k kw
theorem kF {T:wF} {α:Type} {f:Nat} {ds:List D} {o:Option α} {enc:α->D} {v:α->V} (h:Vm.call T f ds = o.map enc) (hf:∀ x,JR (enc x) = true) (hv:∀ x,toV (enc x) = v x):KF T f ds o v:=fun d bl fz k kw=>by
 rw [aDg h hf fz]
 exact congrArg _ (funext fun x=>congrArg k (hv x))
theorem kD {T:wF} {α:Type} {f:Nat} {ds:List D} {o:Option α} {enc:α->D} {v:α->V} (h:Vm.call T f ds = o.map enc) (hf:∀ x,JR (enc x) = false) (hc:∀ x,(enc x).calm = true) (hv:∀ x,toV (enc x) = v x):KD T f ds o v:=fun d bl fz k kw=>by
 rw [aCT h hf hc fz]
 exact congrArg _ (funext fun x=>congrArg (fun y=>fzK fz y k kw) (hv x))
theorem yM {p:Prop} (h:p:=by
  simp -implicitDefEqProofs (decide:=true) (maxSteps:=2000000) only [↓DN,↓DR,DQ,DP,↓reduceIte,Int.reduceToNat,Nat.reduceBEq,Nat.reduceAdd,Nat.reduceLT,Nat.reduceLeDiff,Nat.reduceEqDiff,Int.reduceEq,ne_eq,not_false_eq_true,reduceCtorEq,C3,OY,N5,beq_self_eq_true,DS]
  all_goals try simp only [aK5]
  all_goals try rfl):p:=h
theorem iV {p:Prop} (h:p:=by
  simp -implicitDefEqProofs (decide:=true) (maxSteps:=2000000) only [↓u,↓DN,↓DR,DQ,DP,↓reduceIte,Int.reduceToNat,Nat.reduceBEq,Nat.reduceAdd,Nat.reduceLT,Nat.reduceLeDiff,Nat.reduceEqDiff,Int.reduceEq,ne_eq,not_false_eq_true,reduceCtorEq,C3,OY,N5,beq_self_eq_true,DS]
  all_goals try simp only [aK5]
  all_goals try rfl):p:=h
end Go.Proofs.YtoefdnkjcfoccaaDoor
